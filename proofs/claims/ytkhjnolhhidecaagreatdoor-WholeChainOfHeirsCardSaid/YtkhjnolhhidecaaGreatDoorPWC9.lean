/-
  Joined texts:what a statement's proof reaches.
-/
import Derived.Test.YtkhjnolhhidecaaGreatDoorPWC8
set_option maxHeartbeats 8000000
set_option maxRecDepth 100000
set_option linter.unusedSimpArgs false
set_option linter.unusedVariables false
section
namespace Api
open Go Leg Codec Dsk Wal
def KN:Dk Nat:=⟨λe _=>(e+1,0),λ_=>false,λ_=>True,λ_ _ _ _=>trivial⟩
structure RoomE(e:LD)(k:Nat):Prop where
 dn:e.D.dn=false
 ar:e.D.ar=false
 log: ∃ls,LogD e.D ls∧e.cnt=ls.length∧e.used=((fN ls:Nat):Int)∧fN ls≤58*k
theorem RoomE.put{e:LD}{k:Nat}(h:RoomE e k)(hk:k+1≤34){bs:List UInt8}(hb:bs.length≤3000):(e.put bs).2=0∧RoomE (e.put bs).1 (k+1):=by
 obtain⟨ls,hl,hc,hu,hs⟩:=h.log;have hp:=pA hb
 have eq:e.put bs=(⟨(mz e.D ls.length ((fN ls:Nat):Int) bs).cnt,(mz e.D ls.length ((fN ls:Nat):Int) bs).used,(mz e.D ls.length ((fN ls:Nat):Int) bs).D⟩,(mz e.D ls.length ((fN ls:Nat):Int) bs).err):=by
  unfold LD.put;rw[hc,hu]
 rcases JK hl h.dn hb with⟨q,_⟩| ⟨_,D',r,l,d,a⟩| ⟨q,_⟩
 · omega
 · rw[eq,r]
   refine⟨rfl,d,a.trans h.ar,ls++[bs],l,by simp,rfl,?_⟩;rw[zN];omega
 · rw[h.ar]at q;cases q
inductive SaidS(n:Int):List SaidT→List SaidT→Prop
 |nil:SaidS n [] []
 |cons {t:Int} {m q:MsgT} {l k:List SaidT}:MsgS n m q→SaidS n l k→SaidS n (⟨t,m⟩::l) (⟨t,q⟩::k)
theorem SaidS.append{n:Int}{l k l' k':List SaidT}(h:SaidS n l k)(g:SaidS n l' k'):SaidS n (l++l') (k++k'):=by
 induction h with
 |nil=>exact g
 |cons m _ ih=>exact .cons m ih
theorem SaidS.map{n:Int}{m q:MsgT}(h:MsgS n m q): ∀l:List Int,SaidS n (l.map λi=>⟨i,m⟩) (l.map λi=>⟨i,q⟩)
 | []=> .nil
 |_::l=> .cons h (SaidS.map h l)
theorem SaidS.oth{n:Int}{m q:MsgT}(h:MsgS n m q)(id:Int)(p:Nat→Bool)(k:Nat):SaidS n (nT id m p k) (nT id q p k):=by
 unfold nT;generalize (List.range k).filter _=l
 induction l with
 |nil=>exact .nil
 |cons i l ih=>exact .cons h ih
structure Rl(n:Int)(s:MS LD)(t:MS Nat):Prop where
 id:s.id=t.id
 view:s.view=t.view
 own:RowS n s.own t.own
 mir: ∀(i:Nat) (_:i<5),RowS n s.mirror.rows[i] t.mirror.rows[i]
 shut:s.mirror.sealed=t.mirror.sealed
 acc:s.acc=t.acc
 round:s.round=t.round
 vote:s.vote=t.vote
 book:BookS n s.book t.book
 busy:s.busy=t.busy
 kept:s.kept=t.kept
 waits:s.waits=t.waits
 ops:s.ops=t.ops
 replies:s.replies=t.replies
 told:s.told=t.told
 last: ∀(i:Nat) (_:i<5),RowS n s.last[i] t.last[i]
 ver:t.own.version≤10* ((t.e:Nat):Int)
 e:RoomE s.e t.e
 o:SaidS n s.o t.o
class Mo(k:Nat)(t:MS Nat):Prop where
 le:k≤t.e
class Sm(n:Int)(s:MS LD)(t:MS Nat):Prop where
 h:t.e≤34→Rl n s t
section
variable {k:Nat} {t:MS Nat}
instance :Mo t.e t:=⟨aK _⟩
instance [h:Mo k t](l:List SaidT):Mo k (iL KN t l):=⟨h.le⟩
instance [h:Mo k t](w:Int)(m:MsgT):Mo k (yV KN t w m):=⟨h.le⟩
instance [h:Mo k t](r:RecT):Mo k (dR KN t r):=⟨Nat.le_succ_of_le h.le⟩
instance [h:Mo k t](a b c:Int):Mo k (dw t a b c):=⟨h.le⟩
instance [h:Mo k t]:Mo k (eX KN t):=⟨h.le⟩
instance [h:Mo k t](y:RowT):Mo k (j6 KN t y):=⟨h.le⟩
instance [h:Mo k t](v:ViewT):Mo k (lj KN t v):=⟨h.le⟩
instance [h:Mo k t](m:MsgT):Mo k (iY KN t m):=⟨h.le⟩
instance [h:Mo k t](x:RowT)(op:Int):Mo k (pZ t x op):=⟨h.le⟩
instance [h:Mo k t]:Mo k (gR t):=⟨h.le⟩
instance [h:Mo k t]:Mo k (lB t):=⟨h.le⟩
instance [h:Mo k t](f:Int):Mo k (keptM t f):=⟨h.le⟩
instance [h:Mo k t](w:Int)(y:RowT):Mo k (yC t w y):=⟨h.le⟩
instance [h:Mo k t](w:Int)(y:RowT):Mo k (il t w y):=⟨h.le⟩
instance [h:Mo k t](f w:Int)(y:RowT):Mo k (toldS t f w y):=⟨h.le⟩
instance [h:Mo k t](w:Int):Mo k (lc t w):=⟨h.le⟩
instance [h:Mo k t](v:ViewT):Mo k (lO t v):=⟨h.le⟩
instance [h:Mo k t](a:Int):Mo k (dC t a):=⟨h.le⟩
instance [h:Mo k t](v:VoteT):Mo k (lh t v):=⟨h.le⟩
instance [h:Mo k t](a:AccT):Mo k (ux t a):=⟨h.le⟩
instance [h:Mo k t]:Mo k (opsS t):=⟨h.le⟩
instance [Mo k t](x:RowT)(op:Int):Mo k (dI KN t x op).1:=by unfold dI;split<;>exact inferInstance
instance [h:Mo k t]:Mo k (lm KN t):=by
 unfold lm
 repeat' split
 all_goals first|exact h|exact inferInstance
instance [h:Mo k t](f:Int)(m:MsgT):Mo k (du KN t f m):=by
 unfold du kI
 repeat' split
 all_goals first|exact h|exact inferInstance
instance [h:Mo k t](f:Int)(m:MsgT):Mo k (gI KN t f m):=by
 unfold gI
 repeat' split
 all_goals first|exact h|exact inferInstance
instance [Mo k t](f:Int)(m:MsgT):Mo k (dB KN t f m):=by unfold dB;split<;>exact inferInstance
theorem mu[Mo k t]{f:MS Nat→MS Nat}(hf:Mo k (f t))(w:Int)(m:MsgT):Mo k (kB KN f t w m):=by unfold kB;split;exact hf;exact inferInstance
instance [h:Mo k t](f w:Int):Mo k (eC KN t f w):=by
 unfold eC
 repeat' split
 · exact h
 · exact mu inferInstance _ _
 · exact inferInstance
 · exact mu inferInstance _ _
instance [h:Mo k t](i w:Int):Mo k (gG KN t i w):=by
 unfold gG;split
 · exact h
 · exact mu inferInstance _ _
instance [Mo k t](i:Int):Mo k (ma KN t i):=by unfold ma;exact inferInstance
theorem AH: ∀(l:List Int) (t:MS Nat),Mo k t→Mo k (gi KN l t)
 | [],_,h=>h
 |i::l,t,_=>AH l (ma KN t i) inferInstance
instance [h:Mo k t]:Mo k (n5 KN t):=AH _ _ h
instance [h:Mo k t](v:ViewT):Mo k (gz KN t v):=by
 unfold gz
 repeat' split
 all_goals first|exact h|exact inferInstance
instance [Mo k t](f:Int)(m:MsgT):Mo k (iK KN t f m):=by unfold iK;exact inferInstance
instance [h:Mo k t](c:ChangeT):Mo k (jd KN t c):=by
 unfold jd
 repeat' split
 all_goals first|exact h|exact inferInstance
instance [h:Mo k t](f:Int)(m:MsgT):Mo k (kj KN f m t):=by
 unfold kj
 repeat' split
 all_goals first|exact h|exact inferInstance
theorem qq[h:Mo k t]{f:MS Nat→MS Nat}(hf: ∀t:MS Nat,Mo k t→Mo k (f t))(w:Int)(m:MsgT):Mo k (eB KN f t w m):=by
 unfold eB
 repeat' split
 · exact inferInstance
 · exact h
 · exact h
 · exact hf _ inferInstance
instance [Mo k t](w:Int)(m:MsgT):Mo k (mU KN t w m):=qq (λ_ _=>inferInstance) w m
instance [Mo k t](w:Int)(m:MsgT):Mo k (jG KN w m t):=by unfold jG;exact mu inferInstance _ _
instance [h:Mo k t](w:Int)(m:MsgT):Mo k (mx KN w m t):=by
 unfold mx
 repeat' split
 all_goals first|exact h|exact inferInstance
instance [Mo k t](w:Int)(m:MsgT):Mo k (nM KN t w m):=qq (λ_ _=>inferInstance) w m
theorem qH[Mo k t]{f:MS Nat→MsgT→MS Nat}{m:MsgT}(hf: ∀t:MS Nat,Mo k t→Mo k (f t m)):Mo k (gY KN f t m):=by
 unfold gY;split
 · exact hf _ inferInstance
 · exact inferInstance
instance [Mo k t](vt:VoteT):Mo k (iM KN t vt):=qH λ_ _=>inferInstance
instance [h:Mo k t](f:Int)(m:MsgT):Mo k (oi KN f m t):=by
 unfold oi
 repeat' split
 all_goals first|exact h|exact inferInstance
instance [Mo k t](w:Int)(m:MsgT):Mo k (mV KN t w m):=qq (λ_ _=>inferInstance) w m
instance [Mo k t](w:Int)(m:MsgT)(a:AccT):Mo k (jU KN w m a t):=by unfold jU;exact mu inferInstance _ _
instance [h:Mo k t](w:Int)(m:MsgT):Mo k (nc KN w m t):=by
 unfold nc
 repeat' split
 all_goals first|exact h|exact inferInstance
instance [Mo k t](w:Int)(m:MsgT):Mo k (nN KN t w m):=qq (λ_ _=>inferInstance) w m
instance [Mo k t](vt:VoteT):Mo k (jH KN t vt):=qH λ_ _=>inferInstance
instance [Mo k t](vt:VoteT):Mo k (lK KN t vt):=by unfold lK;split<;>exact inferInstance
instance [Mo k t](c:ChangeT):Mo k (m3 KN t c):=by unfold m3;exact inferInstance
instance [h:Mo k t](c:ChangeT):Mo k (bN KN t c).1:=by
 unfold bN
 repeat' split
 all_goals first|exact h|exact inferInstance
instance [Mo k t](op:Int)(c:ChangeT):Mo k (dv KN t op c).1:=by
 unfold dv
 repeat' split
 all_goals exact inferInstance
instance [Mo k t](o:OpT):Mo k (bL KN t o).1:=by
 unfold bL ly
 repeat' split
 all_goals exact inferInstance
instance [h:Mo k t]:Mo k (bO KN t):=by unfold bO;split<;>exact inferInstance
instance [h:Mo k t]:Mo k (ca KN t):=by unfold ca;split;exact inferInstance;exact h
instance [h:Mo k t]:Mo k (fz KN t):=by unfold fz;split;exact inferInstance;exact h
instance [h:Mo k t]:Mo k (pV KN t):=by
 unfold pV
 repeat' split
 all_goals first|exact h|exact inferInstance
instance [h:Mo k t]:Mo k (gS KN t):=by unfold gS;split<;>exact inferInstance
instance [h:Mo k t](f:Int)(m:MsgT):Mo k (fM KN t f m):=by
 unfold fM
 repeat' split
 all_goals first|exact h|exact inferInstance
end
section
variable {n:Int} {s:MS LD} {t:MS Nat}
theorem Sm.of{s':MS LD}{t':MS Nat}(h0:Sm n s t)(m:Mo t.e t')(h:Rl n s t→Sm n s' t'):Sm n s' t':=⟨λhb=>(h (h0.h (jY m.le hb))).h hb⟩
theorem Rl.sm(h:Rl n s t):Sm n s t:=⟨λ_=>h⟩
theorem Rl.mirRow(h:Rl n s t)(w:Int):RowS n (mirRow s.mirror w) (mirRow t.mirror w):=by unfold Api.mirRow;split;exact h.mir _ _;exact .zero
theorem Rl.lastAt(h:Rl n s t)(w:Int):RowS n (lastAt s w) (lastAt t w):=by unfold Api.lastAt;split;exact h.last _ _;exact .zero
theorem Rl.sealed'(h:Rl n s t)(w:Int):fg s.mirror w=fg t.mirror w:=by unfold fg;rw[h.shut]
theorem Rl.tells(h:Rl n s t)(i w:Int):qw s i w=qw t i w:=by unfold qw kp;rw[h.told]
theorem Rl.due(h:Rl n s t):bF s=bF t:=by
 unfold bF iz BS;rw[h.view,h.id];congr 1;refine List.filter_congr λi _=>?_
 rw[h.own.heirAt]
theorem Rl.toldAll(h:Rl n s t):toldAll s=toldAll t:=by
 unfold Api.toldAll;rw[h.due];congr 1
 funext i
 congr 1
 funext w
 exact h.tells i w
theorem Rl.say(h:Rl n s t){l k:List SaidT}(hl:SaidS n l k):Rl n (iL KD s l) (iL KN t k):=
 {h with
  o:=by
   show SaidS n (if KD.dn s.e=true then s.o else s.o++l) (if KN.dn t.e=true then t.o else t.o++k);rw[if_neg (show ¬KD.dn s.e=true by rw[show KD.dn s.e=s.e.D.dn from rfl,h.e.dn];decide),if_neg (show ¬KN.dn t.e=true by show ¬(false=true);decide)]
   exact h.o.append hl}
theorem xl(g:Sm n s t){l k:List SaidT}(hl:Rl n s t→SaidS n l k):Sm n (iL KD s l) (iL KN t k):=⟨λhb=>(g.h hb).say (hl (g.h hb))⟩
theorem wM(g:Sm n s t)(w:Int){m q:MsgT}(hm:Rl n s t→MsgS n m q):Sm n (yV KD s w m) (yV KN t w q):=xl g λr=> .cons (hm r) .nil
theorem wL(g:Sm n s t){f:MS LD→MS LD}{f':MS Nat→MS Nat}(hf:Sm n (f s) (f' t))(mo:Mo t.e (f' t))(w:Int){m q:MsgT}(hm:Rl n s t→MsgS n m q):Sm n (kB KD f s w m) (kB KN f' t w q):=g.of (mu mo w q) λr=>by
 unfold kB;rw[r.id];split
 · exact hf
 · exact wM g w hm
theorem Rl.putR(h:Rl n s t)(hb:t.e+1≤34)(r r':RecT):Rl n (dR KD s r) (dR KN t r')∧mA KD s r=0:=by
 obtain⟨a,b⟩:=h.e.put hb (yp r);exact⟨{h with e:=b,ver:=by show t.own.version≤10* (((t.e+1:Nat)):Int);have:=h.ver;omega},a⟩
theorem xn(g:Sm n s t)(r r':RecT){A B:MS LD}{A' B':MS Nat}(mo:Mo (t.e+1) B')(h:Sm n (dR KD s r) (dR KN t r')→Sm n B B'):Sm n (if mA KD s r≠0 then A else B) (if mA KN t r'≠0 then A' else B'):=⟨λhb=>by
 rw[if_neg (show ¬mA KN t r'≠0 from λz=>z rfl)]at hb ⊢;have hb2:t.e+1≤34:=jY mo.le hb;obtain⟨a,b⟩:=(g.h (by omega)).putR hb2 r r';rw[if_neg (λz=>z b)]
 exact(h a.sm).h hb⟩
instance (r:RecT):Mo (t.e+1) (dR KN t r):=⟨aK _⟩
theorem tB(g:Sm n s t){a a' b b' c c':Int}(e:Rl n s t→a=a'∧b=b'∧c=c'):Sm n (dw s a b c) (dw t a' b' c'):=⟨λhb=>by
 have h:=g.h hb;obtain⟨rfl,rfl,rfl⟩:=e h
 exact {h with replies:=by show s.replies++_=t.replies++_;rw[h.replies]}⟩
theorem Rl.tellRow[Nn n](h:Rl n s t):SaidS n (oy (s.rep .nil)) (oy (t.rep .nil)):=by
 unfold oy
 have e:(λw:Int=>vu (s.rep .nil).kept w)= λw=>vu (t.rep .nil).kept w:=by
  funext w
  show vu s.kept w=vu t.kept w;rw[h.kept]
 rw[show(s.rep .nil).id=(t.rep .nil).id from h.id,e];refine SaidS.map ?_ _;show MsgS n {MsgT.zero with kind:=0,whose:=s.id,row:=s.own} {MsgT.zero with kind:=0,whose:=t.id,row:=t.own};rw[h.id];exact .row _ h.own
theorem xk[Nn n](g:Sm n s t):Sm n (eX KD s) (eX KN t):=xl g λr=>r.tellRow
theorem GB(g:Sm n s t){x y:RowT}(hx:Rl n s t→RowS n x y):Sm n (j6 KD s x) (j6 KN t y):=xl g λr=>by
 rw[r.id];exact SaidS.oth (.news _ (hx r)) _ _ _
theorem Gy(g:Sm n s t)(v:ViewT):Sm n (lj KD s v) (lj KN t v):=xl g λr=>by
 rw[r.id];exact SaidS.oth (.view v) _ _ _
theorem GC[Nn n](g:Sm n s t){x y:RowT}(hx:Rl n s t→t.e+1≤34→RowS n x y∧y.version≤t.own.version+5)(op op':Int)(ho:Rl n s t→op=op'):Sm n (dI KD s x op).1 (dI KN t y op').1∧(Rl n s t→t.e+1≤34→(dI KD s x op).2=0):=by
 have key:Rl n s t→t.e+1≤34→Rl n (pZ (dR KD s (gX x)) x op) (pZ (dR KN t (gX y)) y op')∧mA KD s (gX x)=0:=λr hb=>by
  obtain⟨h1,h2⟩:=hx r hb;obtain⟨a,b⟩:=r.putR hb (gX x) (gX y);refine⟨{a with own:=h1,busy:=rfl,kept:=rfl,waits:=ho r,ver:=?_},b⟩;show y.version≤10* (((t.e+1:Nat)):Int);have:=r.ver;omega
 have eN:dI KN t y op'=(eX KN (pZ (dR KN t (gX y)) y op'),0):=by unfold dI;rw[if_neg (show ¬mA KN t (gX y)≠0 from λz=>z rfl)]
 refine⟨⟨λhb=>?_⟩,λr hb=>?_⟩
 · rw[eN]at hb ⊢
   have hb:t.e+1≤34:=hb;have r:=g.h (by omega);obtain⟨a,b⟩:=key r hb;unfold dI;rw[if_neg (λz=>z b)];exact(xk a.sm).h hb
 · unfold dI
   rw[if_neg (λz=>z (key r hb).2)]
theorem Kr[Nn n](r:Rl n s t)(hb:t.e≤33):RowS n (mY s (bF t)) (mY t (bF t))∧(mY t (bF t)).version≤t.own.version+5:=by
 have hl:(bF t).length≤5:=Az t 5;have hm: ∀i∈bF t,cI i=true:=λi hi=>(ul hi).1
 have hv:=r.ver;have h0:=r.own.vb;unfold mY
 have: ∀(l:List Int) (x y:RowT),RowS n x y→y.version+((l.length:Nat):Int)≤390→RowS n (l.foldl (λx i=>if 0<heirAt x i then x else(cK x i (lastAt s i)).1) x) (l.foldl (λx i=>if 0<heirAt x i then x else(cK x i (lastAt t i)).1) y)∧(l.foldl (λx i=>if 0<heirAt x i then x else(cK x i (lastAt t i)).1) y).version≤max y.version 0+((l.length:Nat):Int):=λl=>by
  induction l with
  |nil=>intro x y h _;exact⟨h,by simp only[List.foldl_nil,az];omega⟩
  |cons i l ih=>
   intro x y h hy;simp only[av]at hy ⊢;rw[List.foldl_cons,List.foldl_cons,h.heirAt];have hy0:=h.vb
   by_cases q:0<heirAt y i
   · rw[if_pos q,if_pos q]
     obtain⟨a,b⟩:=ih x y h (by omega);exact⟨a,by omega⟩
   · rw[if_neg q,if_neg q]
     have g:=h.inherit (r.lastAt i) i (by omega)
     have gv:(cK y i (lastAt t i)).1.version≤y.version+1:=by
      unfold cK;rw[if_neg q];split
      · show(0:Int)≤_;omega
      · obtain⟨a,b⟩:=h.inhTo (r.lastAt i) i 5
        show fy ((inhTo y i (lastAt t i) 5).version+1)≤_;rw[b,lC (by omega) (by omega)];exact Int.le_refl _
     obtain⟨a,b⟩:=ih _ _ g (by omega);exact⟨a,by omega⟩
 obtain⟨a,b⟩:=this (bF t) s.own t.own r.own (by omega);exact⟨a,by omega⟩
theorem wN[Nn n](g:Sm n s t):Sm n (lm KD s) (lm KN t):=g.of inferInstance λr=>by
 unfold lm;rw[r.busy,r.due,r.toldAll];split
 · exact g
 split
 · exact(GC g (λr hb=>Kr r (by omega)) 0 0 λ_=>rfl).1
 · exact g
theorem Rl.bookM[Nn n](h:Rl n s t)(w:Int){x y:RowT}(hx:RowS n x y):Rl n (yC s w x) (yC t w y):= {h with book:=h.book.merge w hx}
theorem Rl.count[Nn n](h:Rl n s t):Rl n (gR s) (gR t):= {h with
 busy:=rfl
 book:=by
  show BookS n (dF s.book s.id s.own).1 (dF t.book t.id t.own).1;rw[h.id]
  exact h.book.merge _ h.own}
theorem Rl.wait(h:Rl n s t):Rl n (lB s) (lB t):= {h with
 replies:=by
  show(if 0<s.waits then s.replies++[⟨s.waits,0,0⟩]else s.replies)=(if 0<t.waits then t.replies++[⟨t.waits,0,0⟩]else t.replies);rw[h.waits,h.replies]
 waits:=by
  show(if 0<s.waits then 0 else s.waits)=(if 0<t.waits then 0 else t.waits)
  rw[h.waits]}
theorem Rl.keptM(h:Rl n s t)(f:Int):Rl n (keptM s f) (keptM t f):= {h with
 kept:=by
  show iR .i64 s.kept (cW f)=iR .i64 t.kept (cW f)
  rw[h.kept]}
theorem L0[Nn n](g:Sm n s t)(f:Int){m q:MsgT}(hm:MsgF n m q):Sm n (du KD s f m) (du KN t f q):=g.of inferInstance λr=>by
 unfold du;have e1:kr s f m.version=kr t f q.version:=by unfold kr;rw[r.busy,hm.version,r.own.ver,r.id]
 have e2:rS (keptM s f)=rS (keptM t f):=by
  unfold rS;rw[show(keptM s f).id=(keptM t f).id from r.id,(r.keptM f).kept]
 rw[e1,e2];split
 · split
   · have a:=(r.keptM f).count.wait
     unfold kI;refine wN (GB a.sm λ_=>?_);exact r.own
   · exact(r.keptM f).sm
 · exact g
theorem Rl.mirror[Nn n](h:Rl n s t)(w:Int){x y:RowT}(hx:RowS n x y)(e:iO s.mirror w x=iO t.mirror w y):Rl n (il s w x) (il t w y):= {h with
 mir:=by
  show ∀(i:Nat) (_:i<5),RowS n (iH s.mirror w x).1.rows[i] (iH t.mirror w y).1.rows[i];unfold iH;rw[e];split
  · unfold sD
    split
    · rename_i hw
      intro i hi;show RowS n (s.mirror.rows.set w.toNat x (cZ hw))[i] (t.mirror.rows.set w.toNat y (cZ hw))[i];simp only[Vector.getElem_set];split
      · exact hx
      · exact h.mir i hi
    · exact h.mir
  · exact h.mir
 shut:=by
  show(iH s.mirror w x).1.sealed=(iH t.mirror w y).1.sealed
  have k: ∀(m:MirT) (z:RowT),(iH m w z).1.sealed=m.sealed:=λm z=>by
   unfold iH;split
   · show(sD m w z).sealed=_
     unfold sD;split<;>rfl
   · rfl
  rw[k,k];exact h.shut}
theorem Rl.takes[Nn n](h:Rl n s t)(w:Int){x y:RowT}(hx:RowS n x y):iO s.mirror w x=iO t.mirror w y:=by
 unfold iO;rw[h.sealed',hx.right.1,hx.right.2,hx.ver,(h.mirRow w).ver]
theorem Nz[Nn n](g:Sm n s t)(f:Int){m q:MsgT}(hm:MsgF n m q):Sm n (gI KD s f m) (gI KN t f q):=g.of inferInstance λr=>by
 unfold gI;rw[hm.whose,r.sealed',r.takes q.whose hm.row];split
 · exact g
 split
 · refine xn g _ _ inferInstance λa=>?_
   refine a.of inferInstance λra=>?_
   have b:=ra.mirror q.whose hm.row (ra.takes q.whose hm.row);refine wM b.sm f λrb=>?_
   rw[(rb.mirRow q.whose).ver];exact .kept _
 · refine wM g f λ_=>?_
   rw[(r.mirRow q.whose).ver];exact .kept _
theorem Rl.toldS(h:Rl n s t)(f w:Int){x y:RowT}(hx:RowS n x y):Rl n (toldS s f w x) (toldS t f w y):= {h with
 told:=by
  show uO s.told w (iR .i64 (kp s w) (cW f))=uO t.told w (iR .i64 (kp t w) (cW f));unfold kp;rw[h.told]
 last:=by
  show ∀(i:Nat) (_:i<5),RowS n (if kp s w=0∨(Api.lastAt s w).version<x.version then uO s.last w x else s.last)[i] (if kp t w=0∨(Api.lastAt t w).version<y.version then uO t.last w y else t.last)[i];rw[show kp s w=kp t w by unfold kp;rw[h.told],(h.lastAt w).ver,hx.ver];split
  · unfold uO
    split
    · intro i hi
      simp only[Vector.getElem_set];split
      · exact hx
      · exact h.last i hi
    · exact h.last
  · exact h.last}
theorem zK[Nn n](g:Sm n s t)(f:Int){m q:MsgT}(hm:Rl n s t→MsgF n m q):Sm n (dB KD s f m) (dB KN t f q):=g.of inferInstance λr=>by
 unfold dB;rw[(hm r).whose];split
 · exact wN (r.toldS f q.whose (hm r).row).sm
 · exact wN g
theorem Rl.close(h:Rl n s t)(w:Int):Rl n (lc s w) (lc t w):= {h with
 mir:=by
  show ∀(i:Nat) (_:i<5),RowS n (jk s.mirror w).rows[i] (jk t.mirror w).rows[i];unfold jk;split<;>exact h.mir
 shut:=by
  show(jk s.mirror w).sealed=(jk t.mirror w).sealed;unfold jk;split
  · rename_i hw
    show s.mirror.sealed.set w.toNat true (cZ hw)=t.mirror.sealed.set w.toNat true (cZ hw);rw[h.shut]
  · exact h.shut}
theorem GD[Nn n](g:Sm n s t)(f w:Int):Sm n (kB KD (λs=>dB KD s s.id (eW w (mirRow s.mirror w))) s f (eW w (mirRow s.mirror w))) (kB KN (λs=>dB KN s s.id (eW w (mirRow s.mirror w))) t f (eW w (mirRow t.mirror w))):=by
 refine wL g ?_ inferInstance f λr=> .sealed' _ (r.mirRow w)
 refine g.of inferInstance λr=>?_
 show Sm n (dB KD s s.id (eW w (mirRow s.mirror w))) (dB KN t t.id (eW w (mirRow t.mirror w)));rw[r.id];exact zK g _ λr=>(MsgS.sealed' _ (r.mirRow w)).f
theorem Gz[Nn n](g:Sm n s t){f f':Int}(ef:Rl n s t→f=f')(w:Int):Sm n (eC KD s f w) (eC KN t f' w):=g.of inferInstance λr=>by
 obtain rfl:=ef r;unfold eC;simp only;rw[r.view,r.sealed'];split
 · exact g
 split
 · exact GD g f w
 · refine xn g _ _ (mu inferInstance _ _) λa=>?_
   refine a.of (mu inferInstance _ _) λra=>?_
   exact GD (ra.close w).sm f w
theorem zL[Nn n](g:Sm n s t)(i w:Int):Sm n (gG KD s i w) (gG KN t i w):=g.of inferInstance λr=>by
 unfold gG;rw[r.tells,r.view];split
 · exact g
 · exact wL g (Gz g (λr=>r.id) i) inferInstance w λ_=> .seal' _ _
theorem HA[Nn n](g:Sm n s t)(i:Int):Sm n (ma KD s i) (ma KN t i):=zL (zL g _ _) _ _
theorem zM[Nn n]: ∀(l:List Int) {s:MS LD} {t:MS Nat},Sm n s t→Sm n (gi KD l s) (gi KN l t)
 | [],_,_,g=>g
 |i::l,_,_,g=>zM l (HA g i)
theorem C9[Nn n](g:Sm n s t):Sm n (n5 KD s) (n5 KN t):=g.of inferInstance λr=>by
 unfold n5;rw[r.due];exact zM _ g
theorem Rl.enter(h:Rl n s t)(v:ViewT):Rl n (lO s v) (lO t v):= {h with view:=rfl,acc:=rfl,vote:=rfl,round:=rfl}
theorem tC[Nn n](g:Sm n s t)(v:ViewT):Sm n (gz KD s v) (gz KN t v):=g.of inferInstance λr=>by
 unfold gz;rw[r.view];split
 · exact g
 · refine xn g _ _ inferInstance λa=>a.of inferInstance λra=>?_
   exact C9 (ra.enter v).sm
theorem C2[Nn n](g:Sm n s t)(f:Int){m q:MsgT}(hm:MsgF n m q):Sm n (iK KD s f m) (iK KN t f q):=by
 unfold iK;rw[hm.view,hm.whose];exact Gz (tC g _) (λ_=>rfl) _
theorem It(r:Rl n s t)(hb:t.e+1≤34)(v:ViewT):iZ KD s v=iZ KN t v:=by
 unfold iZ;rw[r.view,(r.putR hb (j0 v) (j0 v)).2];rfl
theorem HB[Nn n](g:Sm n s t)(c:ChangeT):Sm n (jd KD s c) (jd KN t c):=g.of inferInstance λr=>by
 unfold jd;rw[r.view];split
 · exact g
 · by_cases le:(dM t.view c).1.epoch≤t.view.epoch
   · have e1:iZ KD s (dM t.view c).1=false:=by unfold iZ;rw[r.view,decide_eq_false (by omega)];rfl
     have e2:iZ KN t (dM t.view c).1=false:=by unfold iZ;rw[decide_eq_false (by omega)];rfl
     rw[e1,e2,if_neg (by decide),if_neg (by decide)];exact tC g _
   · have e2:iZ KN t (dM t.view c).1=true:=by unfold iZ;rw[decide_eq_true (by omega)];rfl
     rw[e2,if_pos rfl]
     have mo:Mo (t.e+1) (gz KN t (dM t.view c).1):=by
      unfold gz;rw[if_neg le,if_neg (show ¬mA KN t (j0 (dM t.view c).1)≠0 from λz=>z rfl)];exact inferInstance
     refine⟨λhb=>?_⟩;have hb2:t.e+1≤34:=jY mo.le hb;rw[It r hb2,e2,if_pos rfl];exact(Gy (tC g _) _).h hb
theorem Rl.round'(h:Rl n s t)(a:Int):Rl n (dC s a) (dC t a):= {h with round:=rfl}
theorem Rl.voted(h:Rl n s t)(v:VoteT):Rl n (lh s v) (lh t v):= {h with vote:=rfl}
theorem Rl.acc'(h:Rl n s t)(a:AccT):Rl n (ux s a) (ux t a):= {h with acc:=rfl}
theorem wK[Nn n](g:Sm n s t){f:MS LD→MS LD}{f':MS Nat→MS Nat}(hf: ∀(s:MS LD) (t:MS Nat),Sm n s t→Sm n (f s) (f' t))(mo: ∀(k:Nat) (t:MS Nat),Mo k t→Mo k (f' t))(w:Int){m q:MsgT}(hm:MsgF n m q):Sm n (eB KD f s w m) (eB KN f' t w q):=g.of (qq (mo _) w q) λr=>by
 unfold eB;rw[hm.epoch,hm.kind,hm.ballot,r.view,r.id,r.round];split
 · split
   · exact wM g w λ_=> .view _
   · exact g
 split
 · exact g
 · exact hf _ _ (r.round' _).sm
theorem LO[Nn n](g:Sm n s t)(f:Int){m q:MsgT}(hm:MsgF n m q):Sm n (kj KD f m s) (kj KN f q t):=g.of inferInstance λr=>by
 unfold kj;rw[r.vote,hm.ballot];split
 · exact g
 · split
   · exact HB (r.voted _).sm _
   · exact(r.voted _).sm
theorem C3[Nn n](g:Sm n s t)(w:Int){m q:MsgT}(hm:MsgF n m q):Sm n (mU KD s w m) (mU KN t w q):=wK g (λ_ _ g=>LO g w hm) (λ_ _ _=>inferInstance) w hm
theorem xm[Nn n](g:Sm n s t)(w:Int){m q:MsgT}(hm:MsgF n m q):Sm n (jG KD w m s) (jG KN w q t):=by
 unfold jG;rw[hm.epoch,hm.ballot];refine wL g ?_ inferInstance w λ_=> .taken _ _
 refine g.of inferInstance λr=>?_
 show Sm n (mU KD s s.id _) (mU KN t t.id _);rw[r.id];exact C3 g _ (MsgS.taken _ _).f
theorem LS[Nn n](g:Sm n s t)(w:Int){m q:MsgT}(hm:MsgF n m q):Sm n (mx KD w m s) (mx KN w q t):=g.of inferInstance λr=>by
 unfold mx;rw[r.view,hm.change,r.acc,hm.epoch,hm.ballot];split
 · exact g
 split
 · exact g
 split
 · refine xn g _ _ inferInstance λa=>a.of inferInstance λra=>?_
   exact xm (ra.acc' _).sm w hm
 · exact xm g w hm
theorem C4[Nn n](g:Sm n s t)(w:Int){m q:MsgT}(hm:MsgF n m q):Sm n (nM KD s w m) (nM KN t w q):=wK g (λ_ _ g=>LS g w hm) (λ_ _ _=>inferInstance) w hm
theorem C8(g:Sm n s t){m q:MsgT}(hm:MsgS n m q):Sm n (iY KD s m) (iY KN t q):=xl g λr=>by
 rw[r.id,r.view];exact SaidS.oth hm _ _ _
theorem GA[Nn n](g:Sm n s t){f:MS LD→MsgT→MS LD}{f':MS Nat→MsgT→MS Nat}{m q:MsgT}(hm:MsgS n m q)(hf: ∀(s:MS LD) (t:MS Nat),Sm n s t→Sm n (f s m) (f' t q))(mo: ∀(k:Nat) (t:MS Nat),Mo k t→Mo k (f' t q)):Sm n (gY KD f s m) (gY KN f' t q):=g.of (qH (mo _)) λr=>by
 unfold gY;rw[r.view,r.id];split
 · exact hf _ _ (C8 g hm)
 · exact C8 g hm
theorem xo[Nn n](g:Sm n s t)(vt:VoteT):Sm n (iM KD s vt) (iM KN t vt):=g.of inferInstance λr=>by
 unfold iM;rw[r.view];refine GA g (.put _ _ _) (λs t g=>g.of inferInstance λr=>?_) λ_ _ _=>inferInstance
 show Sm n (nM KD s s.id _) (nM KN t t.id _);rw[r.id];exact C4 g _ (MsgS.put _ _ _).f
theorem Ny[Nn n](g:Sm n s t)(f:Int){m q:MsgT}(hm:MsgF n m q):Sm n (oi KD f m s) (oi KN f q t):=g.of inferInstance λr=>by
 unfold oi;rw[r.vote,hm.ballot,hm.had,hm.change];split
 · exact g
 · split
   · exact xo (r.voted _).sm _
   · exact(r.voted _).sm
theorem C5[Nn n](g:Sm n s t)(w:Int){m q:MsgT}(hm:MsgF n m q):Sm n (mV KD s w m) (mV KN t w q):=wK g (λ_ _ g=>Ny g w hm) (λ_ _ _=>inferInstance) w hm
theorem xp[Nn n](g:Sm n s t)(w:Int){m q:MsgT}(hm:MsgF n m q)(a:AccT):Sm n (jU KD w m a s) (jU KN w q a t):=by
 unfold jU;rw[hm.epoch,hm.ballot];refine wL g ?_ inferInstance w λ_=> .prom _ _ _ _
 refine g.of inferInstance λr=>?_
 show Sm n (mV KD s s.id _) (mV KN t t.id _);rw[r.id];exact C5 g _ (MsgS.prom _ _ _ _).f
theorem L1[Nn n](g:Sm n s t)(w:Int){m q:MsgT}(hm:MsgF n m q):Sm n (nc KD w m s) (nc KN w q t):=g.of inferInstance λr=>by
 unfold nc;rw[r.acc,hm.epoch,hm.ballot];split
 · exact g
 split
 · refine xn g _ _ inferInstance λa=>a.of inferInstance λra=>?_
   exact xp (ra.acc' _).sm w hm _
 · exact xp g w hm _
theorem C6[Nn n](g:Sm n s t)(w:Int){m q:MsgT}(hm:MsgF n m q):Sm n (nN KD s w m) (nN KN t w q):=wK g (λ_ _ g=>L1 g w hm) (λ_ _ _=>inferInstance) w hm
theorem Fi[Nn n](g:Sm n s t)(vt:VoteT):Sm n (jH KD s vt) (jH KN t vt):=g.of inferInstance λr=>by
 unfold jH;rw[r.view];refine GA g (.ask _ _) (λs t g=>g.of inferInstance λr=>?_) λ_ _ _=>inferInstance
 show Sm n (nN KD s s.id _) (nN KN t t.id _);rw[r.id];exact C6 g _ (MsgS.ask _ _).f
theorem C7[Nn n](g:Sm n s t)(vt:VoteT):Sm n (lK KD s vt) (lK KN t vt):=by
 unfold lK;split
 · exact xo g vt
 · exact Fi g vt
theorem Da[Nn n](g:Sm n s t)(c:ChangeT):Sm n (bN KD s c).1 (bN KN t c).1∧(Rl n s t→(bN KN t c).1.e≤34→(bN KD s c).2=(bN KN t c).2):=by
 have tr:Rl n s t→cY s=cY t:=λr=>by unfold cY;rw[r.round,r.id]
 constructor
 · refine g.of inferInstance λr=>?_
   unfold bN;rw[r.acc,r.view,tr r]
   by_cases q:(cb t.acc t.view.epoch (cY t)).2=false
   · rw[if_pos q,if_pos q];exact g
   · rw[if_neg q,if_neg q,if_neg (show ¬mA KN t (gd t.view.epoch (cY t))≠0 from λz=>z rfl)]
     refine⟨λhb=>?_⟩;have hb2:t.e+1≤34:=hb;obtain⟨a,b⟩:=r.putR hb2 (gd t.view.epoch (cY t)) (gd t.view.epoch (cY t));rw[if_neg (λz=>z b)];show Rl n (m3 KD s c) (m3 KN t c);unfold m3;rw[tr r,r.view,r.acc];exact((a.acc' _).round' _).voted _
 · intro r hb
   unfold bN at hb ⊢;rw[r.acc,r.view,tr r]
   by_cases q:(cb t.acc t.view.epoch (cY t)).2=false
   · rw[if_pos q,if_pos q]
   · rw[if_neg q,if_neg (show ¬mA KN t (gd t.view.epoch (cY t))≠0 from λz=>z rfl)]at hb
     have hb2:t.e+1≤34:=hb;rw[if_neg q,if_neg q,if_neg (show ¬mA KN t (gd t.view.epoch (cY t))≠0 from λz=>z rfl),if_neg (λz=>z (r.putR hb2 (gd t.view.epoch (cY t)) (gd t.view.epoch (cY t))).2)]
end
variable {key:Nat}
variable {s:MS LD}
theorem FH(i:Nat):pE i=Slot.mk (eg i DS.new).1 (bY DS.new).D []:=by
 show(jE i .nil).1=_;unfold jE;show Slot.mk (eg i DS.new).1 _ _=_;rfl
theorem N4(A:Option (MS LD))(B:DS)(C:List ReplyT):(Slot.mk A B C).run=A∧(Slot.mk A B C).D=B:=⟨rfl,rfl⟩
theorem FI{i:Nat}(hi:i<5):(CL.new.at' i).run=(eg i DS.new).1∧(CL.new.at' i).D=(bY DS.new).D:=by
 have e:CL.new.at' i=pE i:=by simp[CL.new,CL.at',List.getD_eq_getElem?_getD,hi]
 rw[e,FH];exact N4 _ _ _
end Api
end

section
namespace Api
open Go Leg Codec Dsk Wal
section
variable {n:Int} {s:MS LD} {t:MS Nat}
structure OpS(n:Int)(o o':OpT):Prop where
 kind:o.kind=o'.kind
 at':o.at'=o'.at'
 to':o.to'=o'.to'
 key:o.key=o'.key
 change:o.change=o'.change
 n:NumS n o.n o'.n
def KL(lo:Int)(t:MS Nat)(o:OpT):Bool:=Ku t.own o&&Of lo (dE t.book t.id o.key-o.n)&& !decide (o.kind=3)
theorem Rl.opsS(h:Rl n s t):Rl n (opsS s) (opsS t):= {h with
 ops:=by
  show fy (s.ops+1)=fy (t.ops+1)
  rw[h.ops]}
theorem NF[Nn n](r:Rl n s t){lo:Int}(hl:lo≤n){o o':OpT}(ho:OpS n o o')(hc:KL lo t o'=true):(cF s o).2.2=(cF t o').2.2∧(cF s o).2.1=(cF t o').2.1∧((cF t o').2.2=0→RowS n (cF s o).1 (cF t o').1∧(cF t o').1.version=t.own.version+1):=by
 unfold KL at hc;rw[ao,ao]at hc;obtain⟨⟨g1,g2⟩,g3⟩:=hc;have k3: ¬o'.kind=3:=by simpa using g3
 have gr:=Kt (s:=s.rep .nil) (t:=t.rep .nil) r.own r.id ho.kind ho.key ho.to' ho.n g1;have rt:=r.book.rights t.id o'.key;have cp:(dE s.book t.id o'.key-o.n<0↔dE t.book t.id o'.key-o'.n<0):=(rt.sub ho.n.lin).cmp (by decide) hl g2;unfold cF kD;show _=_∧_=_∧_;rw[show(s.rep .nil).view=(t.rep .nil).view from r.view,show(s.rep .nil).id=(t.rep .nil).id from r.id,show(s.rep .nil).busy=(t.rep .nil).busy from r.busy,ho.key,ho.kind]
 by_cases z1:js (t.rep .nil).view (t.rep .nil).id=false
 · rw[if_pos z1,if_pos z1];exact⟨rfl,rfl,λe=>absurd e (by decide)⟩
 rw[if_neg z1,if_neg z1]
 by_cases z2:nr o'.key=false
 · rw[if_pos z2,if_pos z2];exact⟨rfl,rfl,λe=>absurd e (by decide)⟩
 rw[if_neg z2,if_neg z2,if_neg k3,if_neg k3]
 by_cases z3:(t.rep .nil).busy=true
 · rw[if_pos z3,if_pos z3];exact⟨rfl,rfl,λe=>absurd e (by decide)⟩
 rw[if_neg z3,if_neg z3,gr.1]
 by_cases z4:(fT (t.rep .nil) o').2≠0
 · rw[if_pos z4,if_pos z4];exact⟨rfl,rfl,λe=>absurd e z4⟩
 rw[if_neg z4,if_neg z4]
 have e5:(o'.kind≠0∧dE (s.rep .nil).book (t.rep .nil).id o'.key<o.n)↔(o'.kind≠0∧dE (t.rep .nil).book (t.rep .nil).id o'.key<o'.n):=by
  show(_∧dE s.book t.id o'.key<o.n)↔(_∧dE t.book t.id o'.key<o'.n);constructor
  · rintro ⟨a,b⟩;exact⟨a,by omega⟩
  · rintro ⟨a,b⟩;exact⟨a,by omega⟩
 by_cases z5:o'.kind≠0∧dE (t.rep .nil).book (t.rep .nil).id o'.key<o'.n
 · rw[if_pos z5,if_pos (e5.2 z5)];exact⟨rfl,rfl,λe=>absurd e (by decide)⟩
 · rw[if_neg z5,if_neg (λq=>z5 (e5.1 q))]
   exact⟨rfl,rfl,λ_=>gr.2 (Decidable.not_not.1 z4)⟩
theorem IR(r:Rl n s t)(c:ChangeT):fu s c=fu t c:=by unfold fu;rw[r.view,r.vote]
theorem HC[Nn n](r:Rl n s t)(op:Int)(c:ChangeT):Sm n (dv KD s op c).1 (dv KN t op c).1∧((dv KN t op c).1.e≤34→(dv KD s op c).2=(dv KN t op c).2):=by
 obtain⟨b1,b2⟩:=Da r.sm c;have ce:=IR r c;have tr:cY s=cY t:=by unfold cY;rw[r.round,r.id]
 unfold dv;rw[ce]
 by_cases z1:fu t c≠0
 · rw[if_pos z1,if_pos z1]
   exact⟨tB r.sm λ_=>⟨rfl,rfl,rfl⟩,λ_=>rfl⟩
 rw[if_neg z1,if_neg z1]
 have bd:(if(bN KN t c).2≠0 then(dw (bN KN t c).1 op (bN KN t c).2 0,(bN KN t c).2)else(lK KN (dw (bN KN t c).1 op 0 0) (ju t.view (cY t) c),(0:Int))).1.e≤34→(bN KN t c).1.e≤34:=λh=>by
  refine jY (Mo.le (k:=(bN KN t c).1.e) (t:=(if(bN KN t c).2≠0 then(dw (bN KN t c).1 op (bN KN t c).2 0,(bN KN t c).2)else(lK KN (dw (bN KN t c).1 op 0 0) (ju t.view (cY t) c),(0:Int))).1) (self:=?_)) h;split<;>exact inferInstance
 refine⟨⟨λhb=>?_⟩,λhb=>?_⟩
 · have e:=b2 r (bd hb)
   rw[e]
   by_cases z2:(bN KN t c).2≠0
   · rw[if_pos z2]at hb ⊢
     rw[if_pos z2];exact(tB b1 λ_=>⟨rfl,rfl,rfl⟩).h hb
   · rw[if_neg z2]at hb ⊢
     rw[if_neg z2,tr,r.view];exact(C7 (tB b1 λ_=>⟨rfl,rfl,rfl⟩) _).h hb
 · have e:=b2 r (bd hb)
   rw[e]
   by_cases z2:(bN KN t c).2≠0
   · rw[if_pos z2,if_pos z2]
   · rw[if_neg z2,if_neg z2]
theorem LN[Nn n](r:Rl n s t){lo:Int}(hl:lo≤n){o o':OpT}(ho:OpS n o o')(hc:KL lo t o'=true):Sm n (ly KD s o).1 (ly KN t o').1∧((ly KN t o').1.e≤34→(ly KD s o).2=(ly KN t o').2):=by
 obtain⟨p1,p2,p3⟩:=NF r hl ho hc;unfold ly;rw[p1,p2,ho.kind,r.ops]
 by_cases z1:(cF t o').2.2≠0∨o'.kind=3
 · rw[if_pos z1,if_pos z1]
   exact⟨tB r.sm λ_=>⟨rfl,rfl,rfl⟩,λ_=>rfl⟩
 rw[if_neg z1,if_neg z1];obtain⟨q1,q2⟩:=p3 (Decidable.not_not.1 λz=>z1 (.inl z));obtain⟨g1,g2⟩:=GC r.sm (x:=(cF s o).1) (y:=(cF t o').1) (λ_ _=>⟨q1,by omega⟩) t.ops t.ops λ_=>rfl
 have eN:(dI KN t (cF t o').1 t.ops).2=0:=by unfold dI;rw[if_neg (show ¬mA KN t (gX (cF t o').1)≠0 from λz=>z rfl)]
 rw[if_neg (show ¬(dI KN t (cF t o').1 t.ops).2≠0 from λz=>z eN)];have eE:(dI KN t (cF t o').1 t.ops).1.e=t.e+1:=by unfold dI;rw[if_neg (show ¬mA KN t (gX (cF t o').1)≠0 from λz=>z rfl)];rfl
 refine⟨⟨λhb=>?_⟩,λhb=>?_⟩
 · rw[if_neg (show ¬(dI KD s (cF s o).1 t.ops).2≠0 from λz=>z (g2 r (by rw[←eE];exact hb)))]
   exact g1.h hb
 · rw[if_neg (show ¬(dI KD s (cF s o).1 t.ops).2≠0 from λz=>z (g2 r (by rw[←eE];exact hb)))]
theorem Hz[Nn n](r:Rl n s t){lo:Int}(hl:lo≤n){o o':OpT}(ho:OpS n o o')(hc:KL lo t o'=true):Sm n (bL KD s o).1 (bL KN t o').1∧((bL KN t o').1.e≤34→(bL KD s o).2=(bL KN t o').2):=by
 unfold bL;rw[r.view,r.id,ho.kind,ho.change,r.opsS.ops];split
 · exact HC r.opsS _ _
 · exact LN r.opsS hl ho hc
theorem LP[Nn n](g:Sm n s t):Sm n (gS KD s) (gS KN t):=by
 have a:Sm n (bO KD s) (bO KN t):=g.of inferInstance λr=>by
  unfold bO;rw[r.busy];refine C9 (wN ?_);split
  · exact xk g
  · exact g
 have b:Sm n (ca KD (bO KD s)) (ca KN (bO KN t)):=a.of inferInstance λr=>by
  unfold ca;rw[r.view];split
  · exact Gy a _
  · exact a
 refine b.of (by unfold gS;split<;>exact inferInstance) λr=>?_
 unfold gS;rw[r.view,r.id];split
 · have c:Sm n (fz KD (ca KD (bO KD s))) (fz KN (ca KN (bO KN t))):=by
    unfold fz;have w:=r.book.row (ca KN (bO KN t)).id;rw[r.id,w.ver];split
    · exact GB b λ_=>w
    · exact b
   refine c.of inferInstance λr=>?_
   unfold pV;rw[r.vote];split
   · exact c
   · rename_i vt _
     rw[r.view];split
     · obtain⟨b1,b2⟩:=Da c vt.change
       have tr:cY (fz KD (ca KD (bO KD s)))=cY (fz KN (ca KN (bO KN t))):=by unfold cY;rw[r.round,r.id]
       rw[tr];refine⟨λhb=>?_⟩
       have bd:(bN KN (fz KN (ca KN (bO KN t))) vt.change).1.e≤34:=by
        refine jY (Mo.le (k:=(bN KN (fz KN (ca KN (bO KN t))) vt.change).1.e) (self:=?_)) hb;split<;>exact inferInstance
       rw[b2 r bd];split
       · rename_i q
         rw[if_pos q]at hb;exact(C7 b1 _).h hb
       · rename_i q
         rw[if_neg q]at hb;exact b1.h hb
     · exact c
 · exact b
theorem LQ[Nn n](g:Sm n s t)(f:Int){m q:MsgT}(hm:MsgF n m q):Sm n (fM KD s f m) (fM KN t f q):=by
 unfold fM;rw[hm.kind];split
 · exact Nz g f hm
 split
 · exact L0 g f hm
 split
 · refine g.of inferInstance λr=>?_
   rw[hm.whose];exact(r.bookM _ hm.row).sm
 split
 · rw[hm.view];exact tC g _
 split
 · exact C2 g f hm
 split
 · exact zK g f λ_=>hm
 split
 · exact C6 g f hm
 split
 · exact C5 g f hm
 split
 · exact C4 g f hm
 split
 · exact C3 g f hm
 · exact g
end
structure CN where
 ms:List (MS Nat)
 W:List (List MsgT)
def CN.at'(b:CN)(i:Nat):MS Nat:=b.ms.getD i (Cf 0 0)
def CN.did(b:CN)(i:Nat)(t:MS Nat):CN:=⟨b.ms.set i t.hush,gT b.W i t.o⟩
def CN.new:CN:=⟨(List.range 5).map λi=>ww ((i:Nat):Int) 0,List.replicate 25 []⟩
def ED(b:CN)(i:Nat)(t:MS Nat):Option CN:=if t.e≤34 then some (b.did i t)else none
def ME(lo:Int)(b:CN)(i:Nat)(o:OpT):Option (CN×Int):=if KL lo (b.at' i) o then(ED b i (bL KN (b.at' i) o).1).map λc=>(c,(bL KN (b.at' i) o).2)else none
def OF(b:CN)(i:Nat):Option CN:=ED b i (gS KN (b.at' i))
def Js(b:CN)(i j:Nat):Option CN:=if i=j then some b else match b.W.getD (i*5+j) []with
 | []=>some b
 |m::l=>if IQ m then ED {b with W:=b.W.set (i*5+j) l} j (fM KN (b.at' j) ((i:Nat):Int) m)else none
def Jz(b:CN)(i:Nat):Nat→Option CN
 |0=>some b
 |j+1=>(Jz b i j).bind λc=>Js c i j
def tu(b:CN):Nat→Option CN
 |0=>some b
 |i+1=>(tu b i).bind λc=>Jz c i 5
def E7(b:CN):Nat→Option CN
 |0=>some b
 |i+1=>(E7 b i).bind λc=>OF c i
def tn:Nat→CN→Option CN
 |0,b=>some b
 |k+1,b=>if wx b.W 25=0 then some b else(tu b 5).bind (tn k)
def rr(b:CN):Nat→Option CN
 |0=>some b
 |k+1=>(rr b k).bind λc=>(E7 c 5).bind (tn 400)
inductive WayS(n:Int):List MsgT→List MsgT→Prop
 |nil:WayS n [] []
 |cons {m q:MsgT} {l k:List MsgT}:MsgS n m q→WayS n l k→WayS n (m::l) (q::k)
theorem WayS.len{n:Int}{l k:List MsgT}(h:WayS n l k):l.length=k.length:=by
 induction h with
 |nil=>rfl
 |cons _ _ ih=>rw[av,av,ih]
theorem WayS.snoc{n:Int}{l k:List MsgT}(h:WayS n l k){m q:MsgT}(hm:MsgS n m q):WayS n (l++[m]) (k++[q]):=by
 induction h with
 |nil=>exact .cons hm .nil
 |cons h _ ih=>exact .cons h ih
structure CSim(n:Int)(a:CL)(b:CN):Prop where
 ms:a.ms.length=5
 bs:b.ms.length=5
 W:a.W.length=25
 V:b.W.length=25
 run: ∀i,i<5→∃s,(a.at' i).run=some s∧Rl n s (b.at' i)
 way: ∀k,WayS n (a.W.getD k []) (b.W.getD k [])
section
variable {n:Int} {a:CL} {b:CN}
theorem Au{α:Type}{W:List (List α)}{k j:Nat}{l:List α}(hk:k<W.length):(W.set k l).getD j []=if j=k then l else W.getD j []:=by
 by_cases q:j=k
 · subst q
   rw[if_pos rfl,List.getD_eq_getElem?_getD,List.getElem?_set_self hk];rfl
 · rw[if_neg q,List.getD_eq_getElem?_getD,List.getElem?_set_ne (λe=>q e.symm),←List.getD_eq_getElem?_getD]
theorem GI{W V:List (List MsgT)}(hW:W.length=25)(hV:V.length=25)(h: ∀k,WayS n (W.getD k []) (V.getD k [])){k:Nat}(hk:k<25){l r:List MsgT}(hl:WayS n l r): ∀j,WayS n ((W.set k l).getD j []) ((V.set k r).getD j []):=λj=>by
 rw[Au (by omega),Au (by omega)];split
 · exact hl
 · exact h j
theorem AX{f t:Int}(h:dA f t=true):bE f t<25:=by
 unfold dA at h;rw[ao,ao]at h;have h1:=(mE h.1.1).1;have h2:=(mE h.1.2).1;unfold bE;omega
theorem Dh(f:Nat): ∀{l k:List SaidT},SaidS n l k→∀{W V:List (List MsgT)},W.length=25→V.length=25→(∀k,WayS n (W.getD k []) (V.getD k []))→∀j,WayS n ((gT W f l).getD j []) ((gT V f k).getD j [])
 |_,_, .nil,_,_,_,_,h=>h
 |_,_, .cons (t:=t) (m:=m) (q:=q) hm hl,W,V,hW,hV,h=>by
  refine Dh f hl (W:=qF W f ⟨t,m⟩) (V:=qF V f ⟨t,q⟩) (by rw[qE];exact hW) (by rw[qE];exact hV) λj=>?_
  unfold qF;split
  · rename_i hv
    refine GI hW hV h (AX hv) ?_ j;rw[(h _).len];split
    · exact(h _).snoc hm
    · exact h _
  · exact h j
theorem CSim.did(h:CSim n a b){i:Nat}(hi:i<5){s:MS LD}{t:MS Nat}(r:Rl n s t):CSim n (a.did i s) (b.did i t):=by
 refine⟨by show(a.ms.set i _).length=5;rw[fx];exact h.ms,by show(b.ms.set i _).length=5;rw[fx];exact h.bs,by show(gT a.W i s.o).length=25;rw[ni];exact h.W,by show(gT b.W i t.o).length=25;rw[ni];exact h.V,λj hj=>?_,Dh i r.o h.W h.V h.way⟩;have hl:i<a.ms.length:=by rw[h.ms];exact hi
 have hl2:i<b.ms.length:=by rw[h.bs];exact hi
 by_cases q:j=i
 · subst q
   refine⟨s.hush,by unfold CL.did;rw[vv hl],?_⟩
   have e:(b.did j t).at' j=t.hush:=by
    show(b.ms.set j t.hush).getD j _=_;rw[List.getD_eq_getElem?_getD,List.getElem?_set_self hl2];rfl
   rw[e];exact {r with o:= .nil}
 · obtain⟨s2,e2,r2⟩:=h.run j hj
   refine⟨s2,by unfold CL.did;rw[wl q];exact e2,?_⟩
   have e:(b.did i t).at' j=b.at' j:=by
    show(b.ms.set i t.hush).getD j _=_;rw[List.getD_eq_getElem?_getD,List.getElem?_set_ne (λe=>q e.symm),←List.getD_eq_getElem?_getD];rfl
   rw[e];exact r2
theorem Ha{t:MS Nat}{i:Nat}{c:CN}(h:ED b i t=some c):t.e≤34∧c=b.did i t:=by
 unfold ED at h;split at h
 · rename_i q;exact⟨q,(bJ h).symm⟩
 · cases h
theorem CSim.act(h:CSim n a b){i:Nat}(hi:i<5){s:MS LD}{t:MS Nat}(g:Sm n s t){c:CN}(e:ED b i t=some c):CSim n (a.did i s) c:=by
 obtain⟨q,rfl⟩:=Ha e;exact h.did hi (g.h q)
theorem CSim.cli[Nn n](h:CSim n a b){i:Nat}(hi:i<5){lo:Int}(hl:lo≤n){o o':OpT}(ho:OpS n o o'){c:CN}{e:Int}(hc:ME lo b i o'=some (c,e)):CSim n (yu a i o).1 c∧(yu a i o).2=e:=by
 obtain⟨s,hs,r⟩:=h.run i hi;unfold ME at hc;split at hc
 · rename_i q
   obtain⟨g1,g2⟩:=Hz r hl ho q;cases ha:ED b i (bL KN (b.at' i) o').1 with
   |none=>rw[ha]at hc;cases hc
   |some c'=>
    rw[ha]at hc;obtain⟨rfl,rfl⟩:=Prod.mk.inj (bJ hc)
    have en:yu a i o=(a.did i (bL KD s o).1,(bL KD s o).2):=by
     unfold yu;rw[hs];show(if s.e.D.dn=true then _ else _)=_;rw[r.e.dn,if_neg (by decide)]
    rw[en];exact⟨h.act hi g1 ha,g2 (Ha ha).1⟩
 · cases hc
theorem CSim.do[Nn n](h:CSim n a b){i:Nat}(hi:i<5){lo:Int}(hl:lo≤n){o o':OpT}(ho:OpS n o o')(hat:o.at'=((i:Nat):Int))(hk:0≤o.kind∧o.kind≤4){c:CN}{e:Int}(hc:ME lo b i o'=some (c,e)):CSim n (oM a o).1 c∧(oM a o).2=e:=by
 have en:oM a o=yu a i o:=by
  unfold oM;rw[hat,if_neg (by rw[show hZ ((i:Nat):Int)=true from decide_eq_true ⟨by omega,by omega⟩];decide),if_pos hk];rfl
 rw[en];exact h.cli hi hl ho hc
theorem CSim.tik[Nn n](h:CSim n a b){i:Nat}(hi:i<5){c:CN}(hc:OF b i=some c):CSim n (Jn a i) c:=by
 obtain⟨s,hs,r⟩:=h.run i hi
 have en:Jn a i=a.did i (gS KD s):=by
  unfold Jn oM;show(if hZ ((i:Nat):Int)=false then((_,_):CL×Int)else _).1=_;rw[if_neg (by rw[show hZ ((i:Nat):Int)=true from decide_eq_true ⟨by omega,by omega⟩];decide)];show(Cx a i).1=_;unfold Cx;rw[hs];show(if s.e.D.dn=true then((_,_):CL×Int)else _).1=_;rw[r.e.dn,if_neg (by decide)]
 rw[en];exact h.act hi (LP r.sm) hc
theorem E5{α:Type}(l:List α):jD 0 l=l:=by unfold jD;rfl
theorem Je{o:OpT}(hv:dA o.at' o.to'=true)(h:a.W.getD (bE o.at' o.to') []=[]):(oh a o).1=a:=by
 unfold oh;rw[if_neg (by rw[hv];decide),h]
theorem Hp{o:OpT}{m:MsgT}{l:List MsgT}(hv:dA o.at' o.to'=true)(hk:o.kind=5)(hn:o.n=0)(h:a.W.getD (bE o.at' o.to') []=m::l):oh a o=pc (a.way (bE o.at' o.to') l) o.at'.toNat o.to'.toNat m:=by
 have et:jD (max o.n 0% ((m::l).length:Int)).toNat (m::l)=m::l:=by
  rw[hn,show(max (0:Int) 0% ((m::l).length:Int)).toNat=0 by simp,E5]
 unfold oh;rw[if_neg (by rw[hv];decide),h];show(if o.kind=7 then(if I5 (m::l)then(a.way (bE o.at' o.to') (ER (m::l)),(0:Int))else(a,3))else(match jD (max o.n 0% ((m::l).length:Int)).toNat (m::l)with| []=>(a,0)|m'::l'=>if o.kind=6 then(a.way (bE o.at' o.to') l',0)else pc (a.way (bE o.at' o.to') l') o.at'.toNat o.to'.toNat m'))=_;rw[if_neg (by omega),et];show(if o.kind=6 then(a.way (bE o.at' o.to') l,(0:Int))else pc (a.way (bE o.at' o.to') l) o.at'.toNat o.to'.toNat m)=_;rw[if_neg (by omega)]
theorem CSim.step[Nn n](h:CSim n a b){i j:Nat}(hi:i<5)(hj:j<5){c:CN}(hc:Js b i j=some c):CSim n (tx a i j) c:=by
 unfold Js at hc;unfold tx
 by_cases q:i=j
 · rw[if_pos q]at hc ⊢
   exact bJ hc▸h
 rw[if_neg q]at hc ⊢;have mi:hZ ((i:Nat):Int)=true:=decide_eq_true ⟨by omega,by omega⟩;have mj:hZ ((j:Nat):Int)=true:=decide_eq_true ⟨by omega,by omega⟩
 have hv:dA ((i:Nat):Int) ((j:Nat):Int)=true:=by
  unfold dA;rw[mi,mj,decide_eq_false (by omega)];rfl
 have ed:oM a (Lo 5 ((i:Nat):Int) ((j:Nat):Int))=oh a (Lo 5 ((i:Nat):Int) ((j:Nat):Int)):=by
  unfold oM;show(if hZ ((i:Nat):Int)=false then _ else _)=_;rw[if_neg (by rw[mi];decide)];rfl
 rw[ed];have hw:=h.way (i*5+j);cases hb:b.W.getD (i*5+j) []with
 |nil=>
  rw[hb]at hc hw;cases hA:a.W.getD (i*5+j) []with
  |nil=>
   rw[Je (o:=Lo 5 ((i:Nat):Int) ((j:Nat):Int)) hv hA];exact bJ hc▸h
  |cons m l=>rw[hA]at hw;cases hw
 |cons m' l'=>
  rw[hb]at hc hw;cases hA:a.W.getD (i*5+j) []with
  |nil=>rw[hA]at hw;cases hw
  |cons m l=>
   rw[hA]at hw;cases hw with
   |cons hm hl=>
    have hc:(if IQ m'=true then ED {b with W:=b.W.set (i*5+j) l'} j (fM KN (b.at' j) ((i:Nat):Int) m')else none)=some c:=hc
    by_cases ck:IQ m'=true
    · rw[if_pos ck]at hc
      have h2:CSim n (a.way (i*5+j) l) {b with W:=b.W.set (i*5+j) l'}:=⟨h.ms,h.bs,by show(a.W.set _ _).length=25;rw[fx];exact h.W,by show(b.W.set _ _).length=25;rw[fx];exact h.V,h.run,GI h.W h.V h.way (by omega) hl⟩;obtain⟨s,hs,r⟩:=h.run j hj;rw[Hp (o:=Lo 5 ((i:Nat):Int) ((j:Nat):Int)) hv rfl rfl hA]
      have ec:pc (a.way (i*5+j) l) i j m=((a.way (i*5+j) l).did j (fM KD s ((i:Nat):Int) m),0):=by
       unfold pc;rw[show((a.way (i*5+j) l).at' j).run=some s from hs];show(if s.e.D.dn=true then _ else _)=_;rw[r.e.dn,if_neg (by decide),hm.dec ck,if_pos rfl]
      show CSim n (pc (a.way (i*5+j) l) i j m).1 c;rw[ec];exact h2.act hj (LQ r.sm _ hm.f) hc
    · rw[if_neg ck]at hc;cases hc
theorem hJ{α β:Type}{x:Option α}{f:α→Option β}{c:β}(h:x.bind f=some c): ∃y,x=some y∧f y=some c:=by
 cases x with
 |none=>cases h
 |some y=>exact⟨y,rfl,h⟩
theorem CSim.rows[Nn n](h:CSim n a b){i:Nat}(hi:i<5): ∀(j:Nat) {c:CN},j≤5→Jz b i j=some c→CSim n (tI a i j) c
 |0,_,_,e=>bJ e▸h
 |j+1,_,hj,e=>by
  obtain⟨d,e1,e2⟩:=hJ e;exact(CSim.rows h hi j (by omega) e1).step hi (by omega) e2
theorem CSim.sweepTo[Nn n](h:CSim n a b): ∀(i:Nat) {c:CN},i≤5→tu b i=some c→CSim n (sweepTo a i) c
 |0,_,_,e=>bJ e▸h
 |i+1,_,hi,e=>by
  obtain⟨d,e1,e2⟩:=hJ e;exact(CSim.sweepTo h i (by omega) e1).rows (by omega) 5 (aK _) e2
theorem CSim.ticks[Nn n](h:CSim n a b): ∀(i:Nat) {c:CN},i≤5→E7 b i=some c→CSim n (si a i) c
 |0,_,_,e=>bJ e▸h
 |i+1,_,hi,e=>by
  obtain⟨d,e1,e2⟩:=hJ e;exact(CSim.ticks h i (by omega) e1).tik (by omega) e2
theorem Kl(h:CSim n a b): ∀k,wx a.W k=wx b.W k
 |0=>rfl
 |k+1=>by rw[rz,rz,Kl h k,(h.way k).len]
theorem Ba(k:Nat)(b:CN):tn (k+1) b=if wx b.W 25=0 then some b else(tu b 5).bind (tn k):=rfl
theorem Bb(k:Nat)(a:CL):kR (k+1) a=if wx a.W 25=0 then a else kR k (sweepTo a 5):=rfl
theorem CSim.sweeps[Nn n](k:Nat): ∀{a:CL} {b c:CN},CSim n a b→tn k b=some c→CSim n (kR k a) c:=by
 induction k with
 |zero=>intro a b c h e;exact bJ e▸h
 |succ k ih=>
  intro a b c h e;rw[Ba]at e;rw[Bb,Kl h 25]
  by_cases q:wx b.W 25=0
  · rw[if_pos q]at e ⊢;exact bJ e▸h
  · rw[if_neg q]at e ⊢
    obtain⟨d,e1,e2⟩:=hJ e;exact ih (h.sweepTo 5 (aK _) e1) e2
theorem CSim.settle[Nn n](h:CSim n a b): ∀(k:Nat) {c:CN},rr b k=some c→CSim n (dp a k) c
 |0,_,e=>bJ e▸h
 |k+1,_,e=>by
  obtain⟨d,e1,e2⟩:=hJ e;obtain⟨f,e3,e4⟩:=hJ e2;have:=CSim.sweeps 400 ((CSim.settle h k e1).ticks 5 (aK _) e3) e4;rw[dp,uT];exact this
theorem CSim.new:CSim n CL.new CN.new:=by
 refine⟨by simp[CL.new],by simp[CN.new],by simp[CL.new],by simp[CN.new],λi hi=>?_,λk=>?_⟩
 · obtain⟨D',e,lg,ha,hd⟩:=LogD.new.open rfl rfl
   have es:(eg i DS.new).1=some (ww ((i:Nat):Int) (⟨0,((fN []:Nat):Int),D'⟩:LD)):=by
    unfold eg;rw[e];rfl
   refine⟨_,by rw[(FI hi).1];exact es,?_⟩;have eb:CN.new.at' i=ww ((i:Nat):Int) 0:=by simp[CN.new,CN.at',List.getD_eq_getElem?_getD,hi]
   rw[eb]
   have z5: ∀(i:Nat) (_:i<5),RowS n (#v[RowT.zero,RowT.zero,RowT.zero,RowT.zero,RowT.zero]:Vector RowT 5)[i] (#v[RowT.zero,RowT.zero,RowT.zero,RowT.zero,RowT.zero]:Vector RowT 5)[i]:=λi hi=>by
    match i,hi with|0,_|1,_|2,_|3,_|4,_=>exact RowS.zero
   exact⟨rfl,rfl, .zero,z5,rfl,rfl,rfl,rfl, .zero,rfl,rfl,rfl,rfl,rfl,rfl,z5,by show(0:Int)≤10* ((0:Nat):Int);decide,⟨hd,ha,[],lg,rfl,rfl,aP _⟩, .nil⟩
 · have z: ∀k,(List.replicate 25 ([]:List MsgT)).getD k []=[]:=λk=>by
    rw[List.getD_eq_getElem?_getD,List.getElem?_replicate];split<;>rfl
   show WayS n ((List.replicate 25 ([]:List MsgT)).getD k []) ((List.replicate 25 ([]:List MsgT)).getD k []);rw[z];exact .nil
theorem CSim.up(h:CSim n a b){i:Nat}(hi:i<5): ∃s,(a.at' i).run=some s∧(a.at' i).up=true∧zP a i=some s∧Rl n s (b.at' i):=by
 obtain⟨s,hs,r⟩:=h.run i hi
 have u:(a.at' i).up=true:=by
  unfold Slot.up;rw[hs];show(!s.e.D.dn)=true;rw[r.e.dn];rfl
 exact⟨s,hs,u,by unfold zP;rw[if_pos u];exact hs,r⟩
def x8(t:MS Nat)(B:BookT):Nat→BookT
 |0=>B
 |i+1=>(dF (x8 t B i) ((i:Nat):Int) (mirRow t.mirror ((i:Nat):Int))).1
def tl(b:CN):Nat→BookT
 |0=> .zero
 |j+1=>x8 (b.at' j) (tl b j) 5
theorem GW[Nn n]{s:MS LD}{t:MS Nat}(r:Rl n s t){B C:BookT}(h:BookS n B C): ∀k,BookS n (lM s B k) (x8 t C k)
 |0=>h
 |k+1=>(GW r h k).merge _ (r.mirRow _)
theorem CSim.truth[Nn n](h:CSim n a b): ∀j,j≤5→BookS n (iV a j) (tl b j)
 |0,_=> .zero
 |j+1,hj=>by
  obtain⟨s,_,_,hs,r⟩:=h.up (show j<5 by omega);rw[tk hs];exact GW r (CSim.truth h j (by omega)) 5
end
def EA(lo:Int)(b:CN)(i:Nat)(o:OpT)(e:Int):Option CN:=(ME lo b i o).bind λr=>if r.2=e then some r.1 else none
def sB(k a t N:Int):OpT:=⟨k,a,t,0,N, .zero,0,0,0⟩
def GL(a k w h:Int):OpT:=⟨4,a,0,0,0,⟨k,w,h⟩,0,0,0⟩
section
variable {n:Int} {a:CL} {b:CN}
theorem CSim.ask[Nn n](h:CSim n a b){i:Nat}(hi:i<5){o o':OpT}(ho:OpS n o o')(hat:o.at'=((i:Nat):Int))(hk:0≤o.kind∧o.kind≤4){c:CN}{e:Int}(hc:EA 1 b i o' e=some c):CSim n (oM a o).1 c∧(oM a o).2=e:=by
 obtain⟨r,h1,h2⟩:=hJ hc;split at h2
 · rename_i q
   have:=h.do hi (Nn.r (n:=n)).1 ho hat hk (c:=r.1) (e:=r.2) h1
   rw[←bJ h2,←q];exact this
 · cases h2
theorem JR:NumS n n 1000:=⟨1,0,⟨by decide,by decide⟩,⟨by decide,by decide⟩,by omega,by decide⟩
theorem OV:NumS n 1 1:=⟨0,1,⟨by decide,by decide⟩,⟨by decide,by decide⟩,by omega,by decide⟩
theorem NI:NumS n (3*n) 3000:=⟨3,0,⟨by decide,by decide⟩,⟨by decide,by decide⟩,by omega,by decide⟩
theorem DF(k a t:Int){N M:Int}(h:NumS n N M):OpS n (sB k a t N) (sB k a t M):=⟨rfl,rfl,rfl,rfl,rfl,h⟩
theorem MV(a k w h:Int):OpS n (GL a k w h) (GL a k w h):=⟨rfl,rfl,rfl,rfl,rfl, .zero⟩
theorem qJ(k a t:Int){N:Int}(h:N≤9223372036854775807):OkOp (sB k a t N):=⟨Gh,h⟩
theorem BB(a:Int){k w h:Int}(hk:wU k)(hw:wU w)(hh:wU h):OkOp (GL a k w h):=⟨⟨λn hn=>by
 simp only[GL,ChangeT.flat,bU,List.not_mem_nil,or_false]at hn;rcases hn with rfl|rfl|rfl
 · exact nG hk
 · exact nG hw
 · exact nG hh⟩,by show(0:Int)≤_;omega⟩
theorem CSim.upAll(h:CSim n a b): ∀j,j<5→(a.at' j).up=true:=λj hj=>by
 obtain⟨s,_,u,_⟩:=h.up hj;exact u
theorem CSim.truth0[Nn n](h:CSim n a b)(hv:kd (tl b 5) 0=0):kd (se a) 0=0:=((h.truth 5 (aK _)).value 0).nil (by decide) hv
theorem CSim.rights[Nn n](h:CSim n a b){i:Nat}(hi:i<5){k:Int}(hk:0≤k∧k≤5)(hv:dE (b.at' i).book ((i:Nat):Int) 0=k*1000){s:MS LD}(hs:(a.at' i).run=some s):dE s.book ((i:Nat):Int) 0=k*n:=by
 obtain⟨s',e,r⟩:=h.run i hi;rw[hs]at e;obtain rfl:=bJ e;obtain⟨x,y,h1,h2,e1,e2⟩:=r.book.rights ((i:Nat):Int) 0;rw[hv]at e2;obtain rfl:x=k:=by omega
 omega
end
theorem N8{k:Int}(h:decide (0≤k∧k≤4)=true):0≤k∧k≤4:=of_decide_eq_true h
def Og(x y z:Nat):Option (CN×CN):=
 (EA 1 .new 0 (sB 0 0 0 1000) 0).bind λb=>(EA 1 b 1 (sB 0 1 0 1000) 0).bind λb=>(EA 1 b 2 (sB 0 2 0 1000) 0).bind λb=>(rr b 3).bind λb=>
 (EA 1 b z (GL ((z:Nat):Int) 1 ((x:Nat):Int) ((y:Nat):Int)) 0).bind λb=>(rr b 5).bind λb5=>
 (EA 1 b5 z (GL ((z:Nat):Int) 1 ((y:Nat):Int) ((z:Nat):Int)) 0).bind λb=>(rr b 5).bind λb=>
 (EA 1 b z (sB 1 ((z:Nat):Int) 0 3000) 0).bind λb=>(rr b 3).bind λb=>(EA 1 b z (sB 1 ((z:Nat):Int) 0 1) 7).bind λb=>some (b5,b)
def pO(x y z:Nat):Bool:=match Og x y z with
 |none=>false
 |some r=>decide (dE (r.1.at' y).book ((y:Nat):Int) 0=2*1000)&&decide (kd (tl r.2 5) 0=0)
theorem KS:pO 0 1 2=true:=by decide+kernel
theorem KR:pO 0 2 1=true:=by decide+kernel
theorem KQ:pO 1 0 2=true:=by decide+kernel
theorem KP:pO 1 2 0=true:=by decide+kernel
theorem KO:pO 2 0 1=true:=by decide+kernel
theorem KM:pO 2 1 0=true:=by decide+kernel
structure Chained(n:Int)(x y z:Nat)(a1 a2 a3 a5 a7 a9 a11:CL):Prop where
 d1:(oM .new (sB 0 0 0 n)).1=a1∧CLOk 1 a1
 d2:(oM a1 (sB 0 1 0 n)).1=a2∧CLOk 2 a2
 d3:(oM a2 (sB 0 2 0 n)).1=a3∧CLOk 3 a3
 d5:(oM (dp a3 3) (GL ((z:Nat):Int) 1 ((x:Nat):Int) ((y:Nat):Int))).1=a5∧CLOk 4 a5
 up5:((dp a5 5).at' y).up=true
 r5: ∀s,((dp a5 5).at' y).run=some s→dE s.book ((y:Nat):Int) 0=2*n
 d7:(oM (dp a5 5) (GL ((z:Nat):Int) 1 ((y:Nat):Int) ((z:Nat):Int))).1=a7∧CLOk 5 a7
 d9:(oM (dp a7 5) (sB 1 ((z:Nat):Int) 0 (3*n))).1=a9∧(oM (dp a7 5) (sB 1 ((z:Nat):Int) 0 (3*n))).2=0∧CLOk 6 a9
 d11:(oM (dp a9 3) (sB 1 ((z:Nat):Int) 0 1)).1=a11∧(oM (dp a9 3) (sB 1 ((z:Nat):Int) 0 1)).2=7∧CLOk 7 a11
 up: ∀j,j<5→(a11.at' j).up=true
 truth:kd (se a11) 0=0
theorem MH{n:Int}(hn:1≤n∧n≤1024){x y z:Nat}(hx:x<5)(hy:y<5)(hz:z<5)(hb:pO x y z=true): ∃a1 a2 a3 a5 a7 a9 a11,Chained n x y z a1 a2 a3 a5 a7 a9 a11:=by
 have:Nn n:=⟨hn⟩;unfold pO at hb;split at hb
 · cases hb
 rename_i r hr;rw[ao,decide_eq_true_iff,decide_eq_true_iff]at hb;obtain⟨t1,t2⟩:=hb;obtain⟨b1,c1,hr⟩:=hJ hr;obtain⟨b2,c2,hr⟩:=hJ hr;obtain⟨b3,c3,hr⟩:=hJ hr;obtain⟨b4,c4,hr⟩:=hJ hr;obtain⟨b5,c5,hr⟩:=hJ hr;obtain⟨b6,c6,hr⟩:=hJ hr;obtain⟨b7,c7,hr⟩:=hJ hr;obtain⟨b8,c8,hr⟩:=hJ hr;obtain⟨b9,c9,hr⟩:=hJ hr;obtain⟨b10,c10,hr⟩:=hJ hr;obtain⟨b11,c11,hr⟩:=hJ hr;obtain rfl:=bJ hr;have ir: ∀q:Nat,q<5→wU ((q:Nat):Int):=λq hq=>⟨by omega,by omega⟩
 have o0: ∀k a t,OkOp (sB k a t n):=λk a t=>qJ k a t (by omega)
 obtain⟨s1,_⟩:=(CSim.new (n:=n)).ask (by decide) (DF 0 0 0 JR) rfl (N8 rfl) c1;have k1:CLOk 1 (oM .new (sB 0 0 0 n)).1:=wh new_ok (o0 _ _ _);generalize e1:(oM .new (sB 0 0 0 n)).1=a1 at*;obtain⟨s2,_⟩:=s1.ask (by decide) (DF 0 1 0 JR) rfl (N8 rfl) c2;have k2:CLOk 2 (oM a1 (sB 0 1 0 n)).1:=wh k1 (o0 _ _ _);generalize e2:(oM a1 (sB 0 1 0 n)).1=a2 at*;obtain⟨s3,_⟩:=s2.ask (by decide) (DF 0 2 0 JR) rfl (N8 rfl) c3;have k3:CLOk 3 (oM a2 (sB 0 2 0 n)).1:=wh k2 (o0 _ _ _);generalize e3:(oM a2 (sB 0 2 0 n)).1=a3 at*;obtain⟨s5,_⟩:=(s3.settle 3 c4).ask hz (MV ((z:Nat):Int) 1 ((x:Nat):Int) ((y:Nat):Int)) rfl (N8 rfl) c5;have k5:CLOk 4 (oM (dp a3 3) (GL ((z:Nat):Int) 1 ((x:Nat):Int) ((y:Nat):Int))).1:=wh (k3.settle 3) (BB _ ⟨by decide,by decide⟩ (ir x hx) (ir y hy));generalize e5:(oM (dp a3 3) (GL ((z:Nat):Int) 1 ((x:Nat):Int) ((y:Nat):Int))).1=a5 at*;have s6:=s5.settle 5 c6;obtain⟨s7,_⟩:=s6.ask hz (MV ((z:Nat):Int) 1 ((y:Nat):Int) ((z:Nat):Int)) rfl (N8 rfl) c7;have k7:CLOk 5 (oM (dp a5 5) (GL ((z:Nat):Int) 1 ((y:Nat):Int) ((z:Nat):Int))).1:=wh (k5.settle 5) (BB _ ⟨by decide,by decide⟩ (ir y hy) (ir z hz));generalize e7:(oM (dp a5 5) (GL ((z:Nat):Int) 1 ((y:Nat):Int) ((z:Nat):Int))).1=a7 at*;obtain⟨s9,e9'⟩:=(s7.settle 5 c8).ask hz (DF 1 ((z:Nat):Int) 0 NI) rfl (N8 rfl) c9
 have k9:CLOk 6 (oM (dp a7 5) (sB 1 ((z:Nat):Int) 0 (3*n))).1:=wh (k7.settle 5) (qJ _ _ _ (by omega));generalize e9:(oM (dp a7 5) (sB 1 ((z:Nat):Int) 0 (3*n))).1=a9 at*;obtain⟨s11,e11'⟩:=(s9.settle 3 c10).ask hz (DF 1 ((z:Nat):Int) 0 OV) rfl (N8 rfl) c11;have k11:CLOk 7 (oM (dp a9 3) (sB 1 ((z:Nat):Int) 0 1)).1:=wh (k9.settle 3) (qJ _ _ _ (by decide));generalize e11:(oM (dp a9 3) (sB 1 ((z:Nat):Int) 0 1)).1=a11 at*;exact⟨a1,a2,a3,a5,a7,a9,a11,⟨e1,k1⟩,⟨e2,k2⟩,⟨e3,k3⟩,⟨e5,k5⟩,s6.upAll y hy,λs hs=>s6.rights hy ⟨by decide,by decide⟩ t1 hs,⟨e7,k7⟩,⟨e9,e9',k9⟩,⟨e11,e11',k11⟩,s11.upAll,s11.truth0 t2⟩
end Api
end

section
namespace Go.Proofs.YtkhjnolhhidecaaGreatDoor
open Go Leg Codec Api Dsk Wal
theorem Nt{n:Nat}{a:CL}(h:CLOk n a)(u:pk a): ∀j i,j<5→i<5→WF (mirRow (mr a j).mirror ((i:Nat):Int)).flat:=λj i hj _=>by
 have:OkR KD (mr a j):=((h.at' j hj).run _ (oJ u hj)).1;unfold mirRow;split
 · exact(this.mir _ _).wf
 · exact Lg OkRow.zero
theorem ln(n' o0 o1 n:Int)(x y z:Nat)(hn:1≤n∧n≤1024)(hx5:x<5)(hy5:y<5)(hz5:z<5)(hb:pO x y z=true)(hme:n'%1024+1=n)(hx:o0%256%3=((x:Nat):Int))(hy:((x:Nat)+1+o1%2)%3=((y:Nat):Int))(hz:3- ((x:Nat):Int)- ((y:Nat):Int)=((z:Nat):Int)):
 DT 4 #[(.int .i64 (n')),(.agg #[(.int .i64 (o0)),(.int .i64 (o1))])] T0 [] (RI (.bool true) []):=by
 refine BD 94 Tryz.func4 rfl rfl rfl λw0 F hF=>?_
 obtain⟨a1,a2,a3,a5,a7,a9,a11,J⟩:=MH hn hx5 hy5 hz5 hb;have hup:pk a11:=J.up
 obtain⟨s5,hs5⟩: ∃s,((dp a5 5).at' y).run=some s:=by
  cases hs:((dp a5 5).at' y).run with
  |none=>have u:=J.up5;rw[A4 hs]at u;cases u
  |some s=>exact⟨s,rfl⟩
 have hwf:=Nt J.d11.2.2 hup;refine sr λ_ J1=>XB λb3=>?_
 refine PS ?_;refine nx J1 (aa λ_ J2=>sr λ_ J3=>CE RM (Fh) ID ?_);refine PS ?_;refine nx J3 (CN (qx J2 (sr λ_ J4=>PS ?_)));refine tp (jm (r:=(n'%1024)) rfl rfl rfl (mask (k:=10) (by decide) _)) ?_;refine tp (bA (r:=n) rfl rfl rfl ((bH (by omega) (by omega)).trans hme)) ?_;refine PS ?_;refine nx J4 (sr λ_ J5=>CR RE (Al) ID λvR HR hR=>?_);obtain⟨c,rfl,rfl⟩:=hR;refine PS ?_;refine nx J5 (aa λ_ J6=>sr λ_ J7=>PS ?_);refine nx J7 (am (hO 3 (sr λ_ J8=>PS ?_)));refine nx J8 (aa λ_ J9=>CY (qx J9 (aa λ_ J10=>am (sr λ_ J11=>P2 ?_))));refine nx J11 (ac (P3 ?_));refine tp (ku OpT.zero (OpT.mk 0 0 0 0 n ChangeT.zero 0 0 0) [(0,[Value.int .i64 0]),(1,[Value.int .i64 0]),(4,[Value.int .i64 n])] eZ gV (g:=OpT.sg)) ?_;refine CR Lq (kG (c:=c) (a:=CL.new) (o:=sB 0 0 0 n) new_ok (by omega) (qJ _ _ _ (by omega))) ID λvR HR hR=>?_
 obtain⟨rfl,hH⟩:=hR;rw[J.d1.1]at hH;subst hH;refine au (af (ad J10 (ac (tp (bA (r:=1) rfl rfl rfl (by decide)) ?_))));refine PS ?_;refine au (bI (sr λ_ J12=>PS ?_));refine nx J12 (aa λ_ J13=>CY (qx J13 (aa λ_ J14=>am (sr λ_ J15=>P2 ?_))));refine nx J15 (ac (P3 ?_));refine tp (ku OpT.zero (OpT.mk 0 1 0 0 n ChangeT.zero 0 0 0) [(0,[Value.int .i64 0]),(1,[Value.int .i64 1]),(4,[Value.int .i64 n])] eZ gV (g:=OpT.sg)) ?_;refine CR Lq (kG (c:=c) (a:=a1) (o:=sB 0 1 0 n) J.d1.2 (by omega) (qJ _ _ _ (by omega))) ID λvR HR hR=>?_
 obtain⟨rfl,hH⟩:=hR;rw[J.d2.1]at hH;subst hH;refine au (af (ad J14 (ac (tp (bA (r:=2) rfl rfl rfl (by decide)) ?_))));refine PS ?_;refine au (bI (sr λ_ J16=>PS ?_));refine nx J16 (aa λ_ J17=>CY (qx J17 (aa λ_ J18=>am (sr λ_ J19=>P2 ?_))));refine nx J19 (ac (P3 ?_));refine tp (ku OpT.zero (OpT.mk 0 2 0 0 n ChangeT.zero 0 0 0) [(0,[Value.int .i64 0]),(1,[Value.int .i64 2]),(4,[Value.int .i64 n])] eZ gV (g:=OpT.sg)) ?_;refine CR Lq (kG (c:=c) (a:=a2) (o:=sB 0 2 0 n) J.d2.2 (by omega) (qJ _ _ _ (by omega))) ID λvR HR hR=>?_
 obtain⟨rfl,hH⟩:=hR;rw[J.d3.1]at hH;subst hH;refine au (af (ad J18 (ac (tp (bA (r:=3) rfl rfl rfl (by decide)) ?_))));refine PS ?_;refine au (bI (sr λ_ J20=>PS ?_));refine nx J20 (aa λ_ J21=>CN (aW (aA (aA (bq (ad J6 (sr λ_ J22=>PS ?_)))))));refine CZ Mm (nh c 3 a3 J.d3.2 (by omega) 3 (by decide)) ID λvR=>?_
 refine nx J22 (sr λ_ J23=>IX 0 Tryz.underlying38 aO ?_);refine LA 1 Y3 ?_;refine tp (jm (r:=(o0%256)) rfl rfl rfl (mask (k:=8) (by decide) _)) ?_;refine tp (P8 (r:=((x:Nat):Int)) rfl rfl rfl (by omega) ((wO (by omega)).trans hx)) ?_;refine PS ?_;refine nx J23 (sr λ_ J24=>PS ?_);refine AD ?_;refine IX 1 Tryz.underlying38 aO ?_;refine LA 1 Y3 ?_;refine tp (jm (r:=(o1%2)) rfl rfl rfl (mask (k:=1) (by decide) _)) ?_;refine AD ?_;refine tp (P8 (r:=((y:Nat):Int)) rfl rfl rfl (by omega) ((wO (by omega)).trans hy)) ?_;refine PS ?_;refine nx J24 (sr λ_ J25=>PS ?_);refine tp (iE rfl rfl rfl (bH (by omega) (by omega))) ?_;refine PS ?_;refine tp (iE (r:=((z:Nat):Int)) rfl rfl rfl ((bH (by omega) (by omega)).trans hz)) ?_;refine PS ?_;refine nx J25 (sr λ_ J26=>P4 ?_);refine tp (ku ChangeT.zero (ChangeT.mk 1 ((x:Nat):Int) ((y:Nat):Int)) [(0,[Value.int .i64 1]),(1,[Value.int .i64 ((x:Nat):Int)]),(2,[Value.int .i64 ((y:Nat):Int)])] mS uB (g:=ChangeT.sg)) ?_;refine tp (ku OpT.zero (OpT.mk 4 ((z:Nat):Int) 0 0 0 (ChangeT.mk 1 ((x:Nat):Int) ((y:Nat):Int)) 0 0 0) [(0,[Value.int .i64 4]),(1,[Value.int .i64 ((z:Nat):Int)]),(5,ints (ChangeT.mk 1 ((x:Nat):Int) ((y:Nat):Int)).flat)] eZ gV (g:=OpT.sg)) ?_
 refine CR Lq (kG (c:=c) (a:=dp a3 3) (o:=GL ((z:Nat):Int) 1 ((x:Nat):Int) ((y:Nat):Int)) (J.d3.2.settle 3) (by omega) (BB _ ⟨by decide,by decide⟩ ⟨by omega,by omega⟩ ⟨by omega,by omega⟩)) ID λvR HR hR=>?_
 obtain⟨rfl,hH⟩:=hR;rw[J.d5.1]at hH;subst hH;refine nx J26 (sr λ_ J27=>PS ?_);refine CZ Mm (nh c 4 a5 J.d5.2 (by omega) 5 (by decide)) ID λvR=>?_
 refine nx J27 (aa λ_ J28=>sr λ_ J29=>P2 ?_);refine Np (H':=λg:CX=>[ek c (dp a5 5) g,aj b3 [(.int .i64 (o0)),(.int .i64 (o1))] 38]) (λ_ s=>AB s) (λg=>CR FG (x9 (c:=c) (g:=g) (i:=y) hy5) ID λvR HR hR=>?_);obtain⟨hv,rfl⟩:=hR;rw[An,if_pos J.up5]at hv;subst hv;refine PS ?_;refine CR Rg (tX (i:=y) hy5 hs5 (Bo s5 (g.d y) (g.r y) ((y:Nat):Int) 0)) ID λvR HR hR=>?_
 obtain⟨hv,rfl⟩:=hR;rw[J.r5 _ hs5]at hv;subst hv;refine PS ?_;refine tp (EM (r:=(2*n)) rfl rfl rfl (bH (by omega) (by omega))) ?_;refine tp (nd (v':=(.bool false)) (PV.neq rfl rfl rfl) (by simp)) ?_;refine nx J29 (CN (qx J28 (sr λ_ J30=>P4 ?_)));refine tp (ku ChangeT.zero (ChangeT.mk 1 ((y:Nat):Int) ((z:Nat):Int)) [(0,[Value.int .i64 1]),(1,[Value.int .i64 ((y:Nat):Int)]),(2,[Value.int .i64 ((z:Nat):Int)])] mS uB (g:=ChangeT.sg)) ?_;refine tp (ku OpT.zero (OpT.mk 4 ((z:Nat):Int) 0 0 0 (ChangeT.mk 1 ((y:Nat):Int) ((z:Nat):Int)) 0 0 0) [(0,[Value.int .i64 4]),(1,[Value.int .i64 ((z:Nat):Int)]),(5,ints (ChangeT.mk 1 ((y:Nat):Int) ((z:Nat):Int)).flat)] eZ gV (g:=OpT.sg)) ?_;refine ci (H':=[fX c (dp a5 5),aj b3 [(.int .i64 (o0)),(.int .i64 (o1))] 38]) (λ_ s=>AE s) (CR Lq (kG (c:=c) (a:=dp a5 5) (o:=GL ((z:Nat):Int) 1 ((y:Nat):Int) ((z:Nat):Int)) (J.d5.2.settle 5) (by omega) (BB _ ⟨by decide,by decide⟩ ⟨by omega,by omega⟩ ⟨by omega,by omega⟩)) ID λvR HR hR=>?_);obtain⟨rfl,hH⟩:=hR;rw[J.d7.1]at hH;subst hH;refine nx J30 (sr λ_ J31=>PS ?_);refine CZ Mm (nh c 5 a7 J.d7.2 (by omega) 5 (by decide)) ID λvR=>?_
 refine nx J31 (sr λ_ J32=>P3 ?_);refine tp (EM (r:=(3*n)) rfl rfl rfl (bH (by omega) (by omega))) ?_;refine tp (ku OpT.zero (OpT.mk 1 ((z:Nat):Int) 0 0 (3*n) ChangeT.zero 0 0 0) [(0,[Value.int .i64 1]),(1,[Value.int .i64 ((z:Nat):Int)]),(4,[Value.int .i64 (3*n)])] eZ gV (g:=OpT.sg)) ?_;refine CR Lq (kG (c:=c) (a:=dp a7 5) (o:=sB 1 ((z:Nat):Int) 0 (3*n)) (J.d7.2.settle 5) (by omega) (qJ _ _ _ (by omega))) ID λvR HR hR=>?_
 obtain⟨hv,hH⟩:=hR;rw[J.d9.2.1]at hv;subst hv;rw[J.d9.1]at hH;subst hH;refine PS ?_;refine nx J32 (sr λ_ J33=>PS ?_);refine CZ Mm (nh c 6 a9 J.d9.2.2 (by omega) 3 (by decide)) ID λvR=>?_
 refine nx J33 (sr λ_ J34=>P2 ?_);refine tp (ku OpT.zero (OpT.mk 1 ((z:Nat):Int) 0 0 1 ChangeT.zero 0 0 0) [(0,[Value.int .i64 1]),(1,[Value.int .i64 ((z:Nat):Int)]),(4,[Value.int .i64 1])] eZ gV (g:=OpT.sg)) ?_;refine CR Lq (kG (c:=c) (a:=dp a9 3) (o:=sB 1 ((z:Nat):Int) 0 1) (J.d9.2.2.settle 3) (by omega) (qJ _ _ _ (by decide))) ID λvR HR hR=>?_
 obtain⟨hv,hH⟩:=hR;rw[J.d11.2.1]at hv;subst hv;rw[J.d11.1]at hH;subst hH;refine PS ?_;refine nx J34 (sr λ_ J35=>?_)
 iterate 8 refine PS ?_
 refine Np (H':=λg:CX=>[ek c a11 g,aj b3 [(.int .i64 (o0)),(.int .i64 (o1))] 38]) (λ_ s=>AB s) (λg=>CR N1 (sd c a11 g hup hwf) ID λvR HR hR=>?_);obtain⟨bt,rfl,rfl⟩:=hR;refine CR N0 (n6 bt 0 77 (λx=>ints x.flat) qg (se a11) 0) (SM [1]) λvR HR hR=>?_
 obtain⟨hv,rfl⟩:=hR;rw[J.truth]at hv;subst hv;refine P3 ?_;exact nx J35 (ah (WK [] (aw rfl rfl ⟨rfl,rfl⟩)))
theorem wholeChainOfHeirs_does(n':Int)(l:List Int)(hl:l.length=2):DT 4 #[.int .i64 n',agI l] T0 [] (RI (.bool true) []):=by
 obtain⟨o0,o1,rfl⟩: ∃o0 o1,l=[o0,o1]:=by
  match l,hl with
  | [a,b],_=>exact⟨a,b,rfl⟩
 have h1:o0%256%3=0∨o0%256%3=1∨o0%256%3=2:=by omega
 have h2:o1%2=0∨o1%2=1:=by omega
 rcases h1 with h1|h1|h1<;>rcases h2 with h2|h2
 · exact ln n' o0 o1 _ 0 1 2 (by omega) (by decide) (by decide) (by decide) KS rfl (by omega) (by omega) (by omega)
 · exact ln n' o0 o1 _ 0 2 1 (by omega) (by decide) (by decide) (by decide) KR rfl (by omega) (by omega) (by omega)
 · exact ln n' o0 o1 _ 1 2 0 (by omega) (by decide) (by decide) (by decide) KP rfl (by omega) (by omega) (by omega)
 · exact ln n' o0 o1 _ 1 0 2 (by omega) (by decide) (by decide) (by decide) KQ rfl (by omega) (by omega) (by omega)
 · exact ln n' o0 o1 _ 2 0 1 (by omega) (by decide) (by decide) (by decide) KO rfl (by omega) (by omega) (by omega)
 · exact ln n' o0 o1 _ 2 1 0 (by omega) (by decide) (by decide) (by decide) KM rfl (by omega) (by omega) (by omega)
end Go.Proofs.YtkhjnolhhidecaaGreatDoor
end
