/-
  Joined texts:what a statement's proof reaches.
-/
import Derived.Test.YtkhjnolhhidecaaGreatDoorPWJ8
set_option maxHeartbeats 8000000
set_option maxRecDepth 100000
set_option linter.unusedSimpArgs false
set_option linter.unusedVariables false
section
namespace Api
open Go Leg Codec Dsk Wal
def KN:Dk Nat:=⟨λe _=>(e+1,0),λ_=>false,λ_=>True,λ_ _ _ _=>trivial⟩
structure RoomE(e:LD)(k:Nat):Prop where
 dn:e.D.dn=false
 ar:e.D.ar=false
 log: ∃ls,LogD e.D ls∧e.cnt=ls.length∧e.used=((fP ls:Nat):Int)∧fP ls≤58*k
theorem RoomE.put{e:LD}{k:Nat}(h:RoomE e k)(hk:k+1≤34){bs:List UInt8}(hb:bs.length≤3000):(e.put bs).2=0∧RoomE (e.put bs).1 (k+1):=by
 obtain⟨ls,hl,hc,hu,hs⟩:=h.log;have hp:=pz hb
 have eq:e.put bs=(⟨(mB e.D ls.length ((fP ls:Nat):Int) bs).cnt,(mB e.D ls.length ((fP ls:Nat):Int) bs).used,(mB e.D ls.length ((fP ls:Nat):Int) bs).D⟩,(mB e.D ls.length ((fP ls:Nat):Int) bs).err):=by
  unfold LD.put;rw[hc,hu]
 rcases JJ hl h.dn hb with⟨q,_⟩| ⟨_,D',r,l,d,a⟩| ⟨q,_⟩
 · omega
 · rw[eq,r]
   refine⟨rfl,d,a.trans h.ar,ls++[bs],l,by simp,rfl,?_⟩;rw[zN];omega
 · rw[h.ar]at q;cases q
inductive SaidS(n:Int):List SaidT→List SaidT→Prop
 |nil:SaidS n [] []
 |cons {t:Int} {m q:MsgT} {l k:List SaidT}:MsgS n m q→SaidS n l k→SaidS n (⟨t,m⟩::l) (⟨t,q⟩::k)
theorem SaidS.append{n:Int}{l k l' k':List SaidT}(h:SaidS n l k)(g:SaidS n l' k'):SaidS n (l++l') (k++k'):=by
 induction h with
 |nil=>exact g
 |cons m _ ih=>exact .cons m ih
theorem SaidS.map{n:Int}{m q:MsgT}(h:MsgS n m q): ∀l:List Int,SaidS n (l.map λi=>⟨i,m⟩) (l.map λi=>⟨i,q⟩)
 | []=> .nil
 |_::l=> .cons h (SaidS.map h l)
theorem SaidS.oth{n:Int}{m q:MsgT}(h:MsgS n m q)(id:Int)(p:Nat→Bool)(k:Nat):SaidS n (nS id m p k) (nS id q p k):=by
 unfold nS;generalize (List.range k).filter _=l
 induction l with
 |nil=>exact .nil
 |cons i l ih=>exact .cons h ih
structure Rl(n:Int)(s:MS LD)(t:MS Nat):Prop where
 id:s.id=t.id
 view:s.view=t.view
 own:RowS n s.own t.own
 mir: ∀(i:Nat) (_:i<5),RowS n s.mirror.rows[i] t.mirror.rows[i]
 shut:s.mirror.sealed=t.mirror.sealed
 acc:s.acc=t.acc
 round:s.round=t.round
 vote:s.vote=t.vote
 book:BookS n s.book t.book
 busy:s.busy=t.busy
 kept:s.kept=t.kept
 waits:s.waits=t.waits
 ops:s.ops=t.ops
 replies:s.replies=t.replies
 told:s.told=t.told
 last: ∀(i:Nat) (_:i<5),RowS n s.last[i] t.last[i]
 ver:t.own.version≤10* ((t.e:Nat):Int)
 e:RoomE s.e t.e
 o:SaidS n s.o t.o
class Mo(k:Nat)(t:MS Nat):Prop where
 le:k≤t.e
class Sm(n:Int)(s:MS LD)(t:MS Nat):Prop where
 h:t.e≤34→Rl n s t
section
variable {k:Nat} {t:MS Nat}
instance :Mo t.e t:=⟨aK _⟩
instance [h:Mo k t](l:List SaidT):Mo k (iM KN t l):=⟨h.le⟩
instance [h:Mo k t](w:Int)(m:MsgT):Mo k (yU KN t w m):=⟨h.le⟩
instance [h:Mo k t](r:RecT):Mo k (dR KN t r):=⟨Nat.le_succ_of_le h.le⟩
instance [h:Mo k t](a b c:Int):Mo k (dw t a b c):=⟨h.le⟩
instance [h:Mo k t]:Mo k (eW KN t):=⟨h.le⟩
instance [h:Mo k t](y:RowT):Mo k (j9 KN t y):=⟨h.le⟩
instance [h:Mo k t](v:ViewT):Mo k (ll KN t v):=⟨h.le⟩
instance [h:Mo k t](m:MsgT):Mo k (iZ KN t m):=⟨h.le⟩
instance [h:Mo k t](x:RowT)(op:Int):Mo k (pX t x op):=⟨h.le⟩
instance [h:Mo k t]:Mo k (gT t):=⟨h.le⟩
instance [h:Mo k t]:Mo k (lB t):=⟨h.le⟩
instance [h:Mo k t](f:Int):Mo k (keptM t f):=⟨h.le⟩
instance [h:Mo k t](w:Int)(y:RowT):Mo k (yB t w y):=⟨h.le⟩
instance [h:Mo k t](w:Int)(y:RowT):Mo k (il t w y):=⟨h.le⟩
instance [h:Mo k t](f w:Int)(y:RowT):Mo k (toldS t f w y):=⟨h.le⟩
instance [h:Mo k t](w:Int):Mo k (ld t w):=⟨h.le⟩
instance [h:Mo k t](v:ViewT):Mo k (lP t v):=⟨h.le⟩
instance [h:Mo k t](a:Int):Mo k (dC t a):=⟨h.le⟩
instance [h:Mo k t](v:VoteT):Mo k (li t v):=⟨h.le⟩
instance [h:Mo k t](a:AccT):Mo k (uu t a):=⟨h.le⟩
instance [h:Mo k t]:Mo k (opsS t):=⟨h.le⟩
instance [Mo k t](x:RowT)(op:Int):Mo k (dH KN t x op).1:=by unfold dH;split<;>exact inferInstance
instance [h:Mo k t]:Mo k (ln KN t):=by
 unfold ln
 repeat' split
 all_goals first|exact h|exact inferInstance
instance [h:Mo k t](f:Int)(m:MsgT):Mo k (du KN t f m):=by
 unfold du kI
 repeat' split
 all_goals first|exact h|exact inferInstance
instance [h:Mo k t](f:Int)(m:MsgT):Mo k (gJ KN t f m):=by
 unfold gJ
 repeat' split
 all_goals first|exact h|exact inferInstance
instance [Mo k t](f:Int)(m:MsgT):Mo k (dB KN t f m):=by unfold dB;split<;>exact inferInstance
theorem mx[Mo k t]{f:MS Nat→MS Nat}(hf:Mo k (f t))(w:Int)(m:MsgT):Mo k (kC KN f t w m):=by unfold kC;split;exact hf;exact inferInstance
instance [h:Mo k t](f w:Int):Mo k (eB KN t f w):=by
 unfold eB
 repeat' split
 · exact h
 · exact mx inferInstance _ _
 · exact inferInstance
 · exact mx inferInstance _ _
instance [h:Mo k t](i w:Int):Mo k (gH KN t i w):=by
 unfold gH;split
 · exact h
 · exact mx inferInstance _ _
instance [Mo k t](i:Int):Mo k (mf KN t i):=by unfold mf;exact inferInstance
theorem AE: ∀(l:List Int) (t:MS Nat),Mo k t→Mo k (gk KN l t)
 | [],_,h=>h
 |i::l,t,_=>AE l (mf KN t i) inferInstance
instance [h:Mo k t]:Mo k (n4 KN t):=AE _ _ h
instance [h:Mo k t](v:ViewT):Mo k (gA KN t v):=by
 unfold gA
 repeat' split
 all_goals first|exact h|exact inferInstance
instance [Mo k t](f:Int)(m:MsgT):Mo k (iL KN t f m):=by unfold iL;exact inferInstance
instance [h:Mo k t](c:ChangeT):Mo k (je KN t c):=by
 unfold je
 repeat' split
 all_goals first|exact h|exact inferInstance
instance [h:Mo k t](f:Int)(m:MsgT):Mo k (km KN f m t):=by
 unfold km
 repeat' split
 all_goals first|exact h|exact inferInstance
theorem qp[h:Mo k t]{f:MS Nat→MS Nat}(hf: ∀t:MS Nat,Mo k t→Mo k (f t))(w:Int)(m:MsgT):Mo k (eA KN f t w m):=by
 unfold eA
 repeat' split
 · exact inferInstance
 · exact h
 · exact h
 · exact hf _ inferInstance
instance [Mo k t](w:Int)(m:MsgT):Mo k (mV KN t w m):=qp (λ_ _=>inferInstance) w m
instance [Mo k t](w:Int)(m:MsgT):Mo k (jI KN w m t):=by unfold jI;exact mx inferInstance _ _
instance [h:Mo k t](w:Int)(m:MsgT):Mo k (mz KN w m t):=by
 unfold mz
 repeat' split
 all_goals first|exact h|exact inferInstance
instance [Mo k t](w:Int)(m:MsgT):Mo k (nL KN t w m):=qp (λ_ _=>inferInstance) w m
theorem qG[Mo k t]{f:MS Nat→MsgT→MS Nat}{m:MsgT}(hf: ∀t:MS Nat,Mo k t→Mo k (f t m)):Mo k (gZ KN f t m):=by
 unfold gZ;split
 · exact hf _ inferInstance
 · exact inferInstance
instance [Mo k t](vt:VoteT):Mo k (iN KN t vt):=qG λ_ _=>inferInstance
instance [h:Mo k t](f:Int)(m:MsgT):Mo k (oh KN f m t):=by
 unfold oh
 repeat' split
 all_goals first|exact h|exact inferInstance
instance [Mo k t](w:Int)(m:MsgT):Mo k (mW KN t w m):=qp (λ_ _=>inferInstance) w m
instance [Mo k t](w:Int)(m:MsgT)(a:AccT):Mo k (jX KN w m a t):=by unfold jX;exact mx inferInstance _ _
instance [h:Mo k t](w:Int)(m:MsgT):Mo k (nd KN w m t):=by
 unfold nd
 repeat' split
 all_goals first|exact h|exact inferInstance
instance [Mo k t](w:Int)(m:MsgT):Mo k (nM KN t w m):=qp (λ_ _=>inferInstance) w m
instance [Mo k t](vt:VoteT):Mo k (jJ KN t vt):=qG λ_ _=>inferInstance
instance [Mo k t](vt:VoteT):Mo k (lK KN t vt):=by unfold lK;split<;>exact inferInstance
instance [Mo k t](c:ChangeT):Mo k (m3 KN t c):=by unfold m3;exact inferInstance
instance [h:Mo k t](c:ChangeT):Mo k (bO KN t c).1:=by
 unfold bO
 repeat' split
 all_goals first|exact h|exact inferInstance
instance [Mo k t](op:Int)(c:ChangeT):Mo k (dv KN t op c).1:=by
 unfold dv
 repeat' split
 all_goals exact inferInstance
instance [Mo k t](o:OpT):Mo k (bK KN t o).1:=by
 unfold bK ly
 repeat' split
 all_goals exact inferInstance
instance [h:Mo k t]:Mo k (bP KN t):=by unfold bP;split<;>exact inferInstance
instance [h:Mo k t]:Mo k (cb KN t):=by unfold cb;split;exact inferInstance;exact h
instance [h:Mo k t]:Mo k (fB KN t):=by unfold fB;split;exact inferInstance;exact h
instance [h:Mo k t]:Mo k (pT KN t):=by
 unfold pT
 repeat' split
 all_goals first|exact h|exact inferInstance
instance [h:Mo k t]:Mo k (gU KN t):=by unfold gU;split<;>exact inferInstance
instance [h:Mo k t](f:Int)(m:MsgT):Mo k (fO KN t f m):=by
 unfold fO
 repeat' split
 all_goals first|exact h|exact inferInstance
end
section
variable {n:Int} {s:MS LD} {t:MS Nat}
theorem Sm.of{s':MS LD}{t':MS Nat}(h0:Sm n s t)(m:Mo t.e t')(h:Rl n s t→Sm n s' t'):Sm n s' t':=⟨λhb=>(h (h0.h (j5 m.le hb))).h hb⟩
theorem Rl.sm(h:Rl n s t):Sm n s t:=⟨λ_=>h⟩
theorem Rl.mirRow(h:Rl n s t)(w:Int):RowS n (mirRow s.mirror w) (mirRow t.mirror w):=by unfold Api.mirRow;split;exact h.mir _ _;exact .zero
theorem Rl.lastAt(h:Rl n s t)(w:Int):RowS n (lastAt s w) (lastAt t w):=by unfold Api.lastAt;split;exact h.last _ _;exact .zero
theorem Rl.sealed'(h:Rl n s t)(w:Int):fg s.mirror w=fg t.mirror w:=by unfold fg;rw[h.shut]
theorem Rl.tells(h:Rl n s t)(i w:Int):qv s i w=qv t i w:=by unfold qv kr;rw[h.told]
theorem Rl.due(h:Rl n s t):bG s=bG t:=by
 unfold bG iz BM;rw[h.view,h.id];congr 1;refine List.filter_congr λi _=>?_
 rw[h.own.heirAt]
theorem Rl.toldAll(h:Rl n s t):toldAll s=toldAll t:=by
 unfold Api.toldAll;rw[h.due];congr 1
 funext i
 congr 1
 funext w
 exact h.tells i w
theorem Rl.say(h:Rl n s t){l k:List SaidT}(hl:SaidS n l k):Rl n (iM KD s l) (iM KN t k):=
 {h with
  o:=by
   show SaidS n (if KD.dn s.e=true then s.o else s.o++l) (if KN.dn t.e=true then t.o else t.o++k);rw[if_neg (show ¬KD.dn s.e=true by rw[show KD.dn s.e=s.e.D.dn from rfl,h.e.dn];decide),if_neg (show ¬KN.dn t.e=true by show ¬(false=true);decide)]
   exact h.o.append hl}
theorem xk(g:Sm n s t){l k:List SaidT}(hl:Rl n s t→SaidS n l k):Sm n (iM KD s l) (iM KN t k):=⟨λhb=>(g.h hb).say (hl (g.h hb))⟩
theorem wM(g:Sm n s t)(w:Int){m q:MsgT}(hm:Rl n s t→MsgS n m q):Sm n (yU KD s w m) (yU KN t w q):=xk g λr=> .cons (hm r) .nil
theorem wL(g:Sm n s t){f:MS LD→MS LD}{f':MS Nat→MS Nat}(hf:Sm n (f s) (f' t))(mo:Mo t.e (f' t))(w:Int){m q:MsgT}(hm:Rl n s t→MsgS n m q):Sm n (kC KD f s w m) (kC KN f' t w q):=g.of (mx mo w q) λr=>by
 unfold kC;rw[r.id];split
 · exact hf
 · exact wM g w hm
theorem Rl.putR(h:Rl n s t)(hb:t.e+1≤34)(r r':RecT):Rl n (dR KD s r) (dR KN t r')∧mC KD s r=0:=by
 obtain⟨a,b⟩:=h.e.put hb (yn r);exact⟨{h with e:=b,ver:=by show t.own.version≤10* (((t.e+1:Nat)):Int);have:=h.ver;omega},a⟩
theorem xm(g:Sm n s t)(r r':RecT){A B:MS LD}{A' B':MS Nat}(mo:Mo (t.e+1) B')(h:Sm n (dR KD s r) (dR KN t r')→Sm n B B'):Sm n (if mC KD s r≠0 then A else B) (if mC KN t r'≠0 then A' else B'):=⟨λhb=>by
 rw[if_neg (show ¬mC KN t r'≠0 from λz=>z rfl)]at hb ⊢;have hb2:t.e+1≤34:=j5 mo.le hb;obtain⟨a,b⟩:=(g.h (by omega)).putR hb2 r r';rw[if_neg (λz=>z b)]
 exact(h a.sm).h hb⟩
instance (r:RecT):Mo (t.e+1) (dR KN t r):=⟨aK _⟩
theorem tA(g:Sm n s t){a a' b b' c c':Int}(e:Rl n s t→a=a'∧b=b'∧c=c'):Sm n (dw s a b c) (dw t a' b' c'):=⟨λhb=>by
 have h:=g.h hb;obtain⟨rfl,rfl,rfl⟩:=e h
 exact {h with replies:=by show s.replies++_=t.replies++_;rw[h.replies]}⟩
theorem Rl.tellRow[Nn n](h:Rl n s t):SaidS n (ox (s.rep .nil)) (ox (t.rep .nil)):=by
 unfold ox
 have e:(λw:Int=>vp (s.rep .nil).kept w)= λw=>vp (t.rep .nil).kept w:=by
  funext w
  show vp s.kept w=vp t.kept w;rw[h.kept]
 rw[show(s.rep .nil).id=(t.rep .nil).id from h.id,e];refine SaidS.map ?_ _;show MsgS n {MsgT.zero with kind:=0,whose:=s.id,row:=s.own} {MsgT.zero with kind:=0,whose:=t.id,row:=t.own};rw[h.id];exact .row _ h.own
theorem xj[Nn n](g:Sm n s t):Sm n (eW KD s) (eW KN t):=xk g λr=>r.tellRow
theorem Gy(g:Sm n s t){x y:RowT}(hx:Rl n s t→RowS n x y):Sm n (j9 KD s x) (j9 KN t y):=xk g λr=>by
 rw[r.id];exact SaidS.oth (.news _ (hx r)) _ _ _
theorem Gv(g:Sm n s t)(v:ViewT):Sm n (ll KD s v) (ll KN t v):=xk g λr=>by
 rw[r.id];exact SaidS.oth (.view v) _ _ _
theorem Gz[Nn n](g:Sm n s t){x y:RowT}(hx:Rl n s t→t.e+1≤34→RowS n x y∧y.version≤t.own.version+5)(op op':Int)(ho:Rl n s t→op=op'):Sm n (dH KD s x op).1 (dH KN t y op').1∧(Rl n s t→t.e+1≤34→(dH KD s x op).2=0):=by
 have key:Rl n s t→t.e+1≤34→Rl n (pX (dR KD s (gY x)) x op) (pX (dR KN t (gY y)) y op')∧mC KD s (gY x)=0:=λr hb=>by
  obtain⟨h1,h2⟩:=hx r hb;obtain⟨a,b⟩:=r.putR hb (gY x) (gY y);refine⟨{a with own:=h1,busy:=rfl,kept:=rfl,waits:=ho r,ver:=?_},b⟩;show y.version≤10* (((t.e+1:Nat)):Int);have:=r.ver;omega
 have eN:dH KN t y op'=(eW KN (pX (dR KN t (gY y)) y op'),0):=by unfold dH;rw[if_neg (show ¬mC KN t (gY y)≠0 from λz=>z rfl)]
 refine⟨⟨λhb=>?_⟩,λr hb=>?_⟩
 · rw[eN]at hb ⊢
   have hb:t.e+1≤34:=hb;have r:=g.h (by omega);obtain⟨a,b⟩:=key r hb;unfold dH;rw[if_neg (λz=>z b)];exact(xj a.sm).h hb
 · unfold dH
   rw[if_neg (λz=>z (key r hb).2)]
theorem Kr[Nn n](r:Rl n s t)(hb:t.e≤33):RowS n (mZ s (bG t)) (mZ t (bG t))∧(mZ t (bG t)).version≤t.own.version+5:=by
 have hl:(bG t).length≤5:=Ay t 5;have hm: ∀i∈bG t,cJ i=true:=λi hi=>(uk hi).1
 have hv:=r.ver;have h0:=r.own.vb;unfold mZ
 have: ∀(l:List Int) (x y:RowT),RowS n x y→y.version+((l.length:Nat):Int)≤390→RowS n (l.foldl (λx i=>if 0<heirAt x i then x else(cL x i (lastAt s i)).1) x) (l.foldl (λx i=>if 0<heirAt x i then x else(cL x i (lastAt t i)).1) y)∧(l.foldl (λx i=>if 0<heirAt x i then x else(cL x i (lastAt t i)).1) y).version≤max y.version 0+((l.length:Nat):Int):=λl=>by
  induction l with
  |nil=>intro x y h _;exact⟨h,by simp only[List.foldl_nil,az];omega⟩
  |cons i l ih=>
   intro x y h hy;simp only[av]at hy ⊢;rw[List.foldl_cons,List.foldl_cons,h.heirAt];have hy0:=h.vb
   by_cases q:0<heirAt y i
   · rw[if_pos q,if_pos q]
     obtain⟨a,b⟩:=ih x y h (by omega);exact⟨a,by omega⟩
   · rw[if_neg q,if_neg q]
     have g:=h.inherit (r.lastAt i) i (by omega)
     have gv:(cL y i (lastAt t i)).1.version≤y.version+1:=by
      unfold cL;rw[if_neg q];split
      · show(0:Int)≤_;omega
      · obtain⟨a,b⟩:=h.inhTo (r.lastAt i) i 5
        show fA ((inhTo y i (lastAt t i) 5).version+1)≤_;rw[b,lC (by omega) (by omega)];exact Int.le_refl _
     obtain⟨a,b⟩:=ih _ _ g (by omega);exact⟨a,by omega⟩
 obtain⟨a,b⟩:=this (bG t) s.own t.own r.own (by omega);exact⟨a,by omega⟩
theorem wN[Nn n](g:Sm n s t):Sm n (ln KD s) (ln KN t):=g.of inferInstance λr=>by
 unfold ln;rw[r.busy,r.due,r.toldAll];split
 · exact g
 split
 · exact(Gz g (λr hb=>Kr r (by omega)) 0 0 λ_=>rfl).1
 · exact g
theorem Rl.bookM[Nn n](h:Rl n s t)(w:Int){x y:RowT}(hx:RowS n x y):Rl n (yB s w x) (yB t w y):= {h with book:=h.book.merge w hx}
theorem Rl.count[Nn n](h:Rl n s t):Rl n (gT s) (gT t):= {h with
 busy:=rfl
 book:=by
  show BookS n (dE s.book s.id s.own).1 (dE t.book t.id t.own).1;rw[h.id]
  exact h.book.merge _ h.own}
theorem Rl.wait(h:Rl n s t):Rl n (lB s) (lB t):= {h with
 replies:=by
  show(if 0<s.waits then s.replies++[⟨s.waits,0,0⟩]else s.replies)=(if 0<t.waits then t.replies++[⟨t.waits,0,0⟩]else t.replies);rw[h.waits,h.replies]
 waits:=by
  show(if 0<s.waits then 0 else s.waits)=(if 0<t.waits then 0 else t.waits)
  rw[h.waits]}
theorem Rl.keptM(h:Rl n s t)(f:Int):Rl n (keptM s f) (keptM t f):= {h with
 kept:=by
  show iS .i64 s.kept (cX f)=iS .i64 t.kept (cX f)
  rw[h.kept]}
theorem LL[Nn n](g:Sm n s t)(f:Int){m q:MsgT}(hm:MsgF n m q):Sm n (du KD s f m) (du KN t f q):=g.of inferInstance λr=>by
 unfold du;have e1:kx s f m.version=kx t f q.version:=by unfold kx;rw[r.busy,hm.version,r.own.ver,r.id]
 have e2:rS (keptM s f)=rS (keptM t f):=by
  unfold rS;rw[show(keptM s f).id=(keptM t f).id from r.id,(r.keptM f).kept]
 rw[e1,e2];split
 · split
   · have a:=(r.keptM f).count.wait
     unfold kI;refine wN (Gy a.sm λ_=>?_);exact r.own
   · exact(r.keptM f).sm
 · exact g
theorem Rl.mirror[Nn n](h:Rl n s t)(w:Int){x y:RowT}(hx:RowS n x y)(e:iP s.mirror w x=iP t.mirror w y):Rl n (il s w x) (il t w y):= {h with
 mir:=by
  show ∀(i:Nat) (_:i<5),RowS n (iH s.mirror w x).1.rows[i] (iH t.mirror w y).1.rows[i];unfold iH;rw[e];split
  · unfold sC
    split
    · rename_i hw
      intro i hi;show RowS n (s.mirror.rows.set w.toNat x (da hw))[i] (t.mirror.rows.set w.toNat y (da hw))[i];simp only[Vector.getElem_set];split
      · exact hx
      · exact h.mir i hi
    · exact h.mir
  · exact h.mir
 shut:=by
  show(iH s.mirror w x).1.sealed=(iH t.mirror w y).1.sealed
  have k: ∀(m:MirT) (z:RowT),(iH m w z).1.sealed=m.sealed:=λm z=>by
   unfold iH;split
   · show(sC m w z).sealed=_
     unfold sC;split<;>rfl
   · rfl
  rw[k,k];exact h.shut}
theorem Rl.takes[Nn n](h:Rl n s t)(w:Int){x y:RowT}(hx:RowS n x y):iP s.mirror w x=iP t.mirror w y:=by
 unfold iP;rw[h.sealed',hx.right.1,hx.right.2,hx.ver,(h.mirRow w).ver]
theorem Ns[Nn n](g:Sm n s t)(f:Int){m q:MsgT}(hm:MsgF n m q):Sm n (gJ KD s f m) (gJ KN t f q):=g.of inferInstance λr=>by
 unfold gJ;rw[hm.whose,r.sealed',r.takes q.whose hm.row];split
 · exact g
 split
 · refine xm g _ _ inferInstance λa=>?_
   refine a.of inferInstance λra=>?_
   have b:=ra.mirror q.whose hm.row (ra.takes q.whose hm.row);refine wM b.sm f λrb=>?_
   rw[(rb.mirRow q.whose).ver];exact .kept _
 · refine wM g f λ_=>?_
   rw[(r.mirRow q.whose).ver];exact .kept _
theorem Rl.toldS(h:Rl n s t)(f w:Int){x y:RowT}(hx:RowS n x y):Rl n (toldS s f w x) (toldS t f w y):= {h with
 told:=by
  show uM s.told w (iS .i64 (kr s w) (cX f))=uM t.told w (iS .i64 (kr t w) (cX f));unfold kr;rw[h.told]
 last:=by
  show ∀(i:Nat) (_:i<5),RowS n (if kr s w=0∨(Api.lastAt s w).version<x.version then uM s.last w x else s.last)[i] (if kr t w=0∨(Api.lastAt t w).version<y.version then uM t.last w y else t.last)[i];rw[show kr s w=kr t w by unfold kr;rw[h.told],(h.lastAt w).ver,hx.ver];split
  · unfold uM
    split
    · intro i hi
      simp only[Vector.getElem_set];split
      · exact hx
      · exact h.last i hi
    · exact h.last
  · exact h.last}
theorem zK[Nn n](g:Sm n s t)(f:Int){m q:MsgT}(hm:Rl n s t→MsgF n m q):Sm n (dB KD s f m) (dB KN t f q):=g.of inferInstance λr=>by
 unfold dB;rw[(hm r).whose];split
 · exact wN (r.toldS f q.whose (hm r).row).sm
 · exact wN g
theorem Rl.close(h:Rl n s t)(w:Int):Rl n (ld s w) (ld t w):= {h with
 mir:=by
  show ∀(i:Nat) (_:i<5),RowS n (jl s.mirror w).rows[i] (jl t.mirror w).rows[i];unfold jl;split<;>exact h.mir
 shut:=by
  show(jl s.mirror w).sealed=(jl t.mirror w).sealed;unfold jl;split
  · rename_i hw
    show s.mirror.sealed.set w.toNat true (da hw)=t.mirror.sealed.set w.toNat true (da hw);rw[h.shut]
  · exact h.shut}
theorem GA[Nn n](g:Sm n s t)(f w:Int):Sm n (kC KD (λs=>dB KD s s.id (eV w (mirRow s.mirror w))) s f (eV w (mirRow s.mirror w))) (kC KN (λs=>dB KN s s.id (eV w (mirRow s.mirror w))) t f (eV w (mirRow t.mirror w))):=by
 refine wL g ?_ inferInstance f λr=> .sealed' _ (r.mirRow w)
 refine g.of inferInstance λr=>?_
 show Sm n (dB KD s s.id (eV w (mirRow s.mirror w))) (dB KN t t.id (eV w (mirRow t.mirror w)));rw[r.id];exact zK g _ λr=>(MsgS.sealed' _ (r.mirRow w)).f
theorem Gw[Nn n](g:Sm n s t){f f':Int}(ef:Rl n s t→f=f')(w:Int):Sm n (eB KD s f w) (eB KN t f' w):=g.of inferInstance λr=>by
 obtain rfl:=ef r;unfold eB;simp only;rw[r.view,r.sealed'];split
 · exact g
 split
 · exact GA g f w
 · refine xm g _ _ (mx inferInstance _ _) λa=>?_
   refine a.of (mx inferInstance _ _) λra=>?_
   exact GA (ra.close w).sm f w
theorem zL[Nn n](g:Sm n s t)(i w:Int):Sm n (gH KD s i w) (gH KN t i w):=g.of inferInstance λr=>by
 unfold gH;rw[r.tells,r.view];split
 · exact g
 · exact wL g (Gw g (λr=>r.id) i) inferInstance w λ_=> .seal' _ _
theorem Hw[Nn n](g:Sm n s t)(i:Int):Sm n (mf KD s i) (mf KN t i):=zL (zL g _ _) _ _
theorem zM[Nn n]: ∀(l:List Int) {s:MS LD} {t:MS Nat},Sm n s t→Sm n (gk KD l s) (gk KN l t)
 | [],_,_,g=>g
 |i::l,_,_,g=>zM l (Hw g i)
theorem C3[Nn n](g:Sm n s t):Sm n (n4 KD s) (n4 KN t):=g.of inferInstance λr=>by
 unfold n4;rw[r.due];exact zM _ g
theorem Rl.enter(h:Rl n s t)(v:ViewT):Rl n (lP s v) (lP t v):= {h with view:=rfl,acc:=rfl,vote:=rfl,round:=rfl}
theorem tB[Nn n](g:Sm n s t)(v:ViewT):Sm n (gA KD s v) (gA KN t v):=g.of inferInstance λr=>by
 unfold gA;rw[r.view];split
 · exact g
 · refine xm g _ _ inferInstance λa=>a.of inferInstance λra=>?_
   exact C3 (ra.enter v).sm
theorem CO[Nn n](g:Sm n s t)(f:Int){m q:MsgT}(hm:MsgF n m q):Sm n (iL KD s f m) (iL KN t f q):=by
 unfold iL;rw[hm.view,hm.whose];exact Gw (tB g _) (λ_=>rfl) _
theorem Iq(r:Rl n s t)(hb:t.e+1≤34)(v:ViewT):ja KD s v=ja KN t v:=by
 unfold ja;rw[r.view,(r.putR hb (j7 v) (j7 v)).2];rfl
theorem Hy[Nn n](g:Sm n s t)(c:ChangeT):Sm n (je KD s c) (je KN t c):=g.of inferInstance λr=>by
 unfold je;rw[r.view];split
 · exact g
 · by_cases le:(dM t.view c).1.epoch≤t.view.epoch
   · have e1:ja KD s (dM t.view c).1=false:=by unfold ja;rw[r.view,decide_eq_false (by omega)];rfl
     have e2:ja KN t (dM t.view c).1=false:=by unfold ja;rw[decide_eq_false (by omega)];rfl
     rw[e1,e2,if_neg (by decide),if_neg (by decide)];exact tB g _
   · have e2:ja KN t (dM t.view c).1=true:=by unfold ja;rw[decide_eq_true (by omega)];rfl
     rw[e2,if_pos rfl]
     have mo:Mo (t.e+1) (gA KN t (dM t.view c).1):=by
      unfold gA;rw[if_neg le,if_neg (show ¬mC KN t (j7 (dM t.view c).1)≠0 from λz=>z rfl)];exact inferInstance
     refine⟨λhb=>?_⟩;have hb2:t.e+1≤34:=j5 mo.le hb;rw[Iq r hb2,e2,if_pos rfl];exact(Gv (tB g _) _).h hb
theorem Rl.round'(h:Rl n s t)(a:Int):Rl n (dC s a) (dC t a):= {h with round:=rfl}
theorem Rl.voted(h:Rl n s t)(v:VoteT):Rl n (li s v) (li t v):= {h with vote:=rfl}
theorem Rl.acc'(h:Rl n s t)(a:AccT):Rl n (uu s a) (uu t a):= {h with acc:=rfl}
theorem wK[Nn n](g:Sm n s t){f:MS LD→MS LD}{f':MS Nat→MS Nat}(hf: ∀(s:MS LD) (t:MS Nat),Sm n s t→Sm n (f s) (f' t))(mo: ∀(k:Nat) (t:MS Nat),Mo k t→Mo k (f' t))(w:Int){m q:MsgT}(hm:MsgF n m q):Sm n (eA KD f s w m) (eA KN f' t w q):=g.of (qp (mo _) w q) λr=>by
 unfold eA;rw[hm.epoch,hm.kind,hm.ballot,r.view,r.id,r.round];split
 · split
   · exact wM g w λ_=> .view _
   · exact g
 split
 · exact g
 · exact hf _ _ (r.round' _).sm
theorem LH[Nn n](g:Sm n s t)(f:Int){m q:MsgT}(hm:MsgF n m q):Sm n (km KD f m s) (km KN f q t):=g.of inferInstance λr=>by
 unfold km;rw[r.vote,hm.ballot];split
 · exact g
 · split
   · exact Hy (r.voted _).sm _
   · exact(r.voted _).sm
theorem CS[Nn n](g:Sm n s t)(w:Int){m q:MsgT}(hm:MsgF n m q):Sm n (mV KD s w m) (mV KN t w q):=wK g (λ_ _ g=>LH g w hm) (λ_ _ _=>inferInstance) w hm
theorem xl[Nn n](g:Sm n s t)(w:Int){m q:MsgT}(hm:MsgF n m q):Sm n (jI KD w m s) (jI KN w q t):=by
 unfold jI;rw[hm.epoch,hm.ballot];refine wL g ?_ inferInstance w λ_=> .taken _ _
 refine g.of inferInstance λr=>?_
 show Sm n (mV KD s s.id _) (mV KN t t.id _);rw[r.id];exact CS g _ (MsgS.taken _ _).f
theorem LK[Nn n](g:Sm n s t)(w:Int){m q:MsgT}(hm:MsgF n m q):Sm n (mz KD w m s) (mz KN w q t):=g.of inferInstance λr=>by
 unfold mz;rw[r.view,hm.change,r.acc,hm.epoch,hm.ballot];split
 · exact g
 split
 · exact g
 split
 · refine xm g _ _ inferInstance λa=>a.of inferInstance λra=>?_
   exact xl (ra.acc' _).sm w hm
 · exact xl g w hm
theorem CU[Nn n](g:Sm n s t)(w:Int){m q:MsgT}(hm:MsgF n m q):Sm n (nL KD s w m) (nL KN t w q):=wK g (λ_ _ g=>LK g w hm) (λ_ _ _=>inferInstance) w hm
theorem C2(g:Sm n s t){m q:MsgT}(hm:MsgS n m q):Sm n (iZ KD s m) (iZ KN t q):=xk g λr=>by
 rw[r.id,r.view];exact SaidS.oth hm _ _ _
theorem Gx[Nn n](g:Sm n s t){f:MS LD→MsgT→MS LD}{f':MS Nat→MsgT→MS Nat}{m q:MsgT}(hm:MsgS n m q)(hf: ∀(s:MS LD) (t:MS Nat),Sm n s t→Sm n (f s m) (f' t q))(mo: ∀(k:Nat) (t:MS Nat),Mo k t→Mo k (f' t q)):Sm n (gZ KD f s m) (gZ KN f' t q):=g.of (qG (mo _)) λr=>by
 unfold gZ;rw[r.view,r.id];split
 · exact hf _ _ (C2 g hm)
 · exact C2 g hm
theorem xn[Nn n](g:Sm n s t)(vt:VoteT):Sm n (iN KD s vt) (iN KN t vt):=g.of inferInstance λr=>by
 unfold iN;rw[r.view];refine Gx g (.put _ _ _) (λs t g=>g.of inferInstance λr=>?_) λ_ _ _=>inferInstance
 show Sm n (nL KD s s.id _) (nL KN t t.id _);rw[r.id];exact CU g _ (MsgS.put _ _ _).f
theorem Nr[Nn n](g:Sm n s t)(f:Int){m q:MsgT}(hm:MsgF n m q):Sm n (oh KD f m s) (oh KN f q t):=g.of inferInstance λr=>by
 unfold oh;rw[r.vote,hm.ballot,hm.had,hm.change];split
 · exact g
 · split
   · exact xn (r.voted _).sm _
   · exact(r.voted _).sm
theorem CV[Nn n](g:Sm n s t)(w:Int){m q:MsgT}(hm:MsgF n m q):Sm n (mW KD s w m) (mW KN t w q):=wK g (λ_ _ g=>Nr g w hm) (λ_ _ _=>inferInstance) w hm
theorem xo[Nn n](g:Sm n s t)(w:Int){m q:MsgT}(hm:MsgF n m q)(a:AccT):Sm n (jX KD w m a s) (jX KN w q a t):=by
 unfold jX;rw[hm.epoch,hm.ballot];refine wL g ?_ inferInstance w λ_=> .prom _ _ _ _
 refine g.of inferInstance λr=>?_
 show Sm n (mW KD s s.id _) (mW KN t t.id _);rw[r.id];exact CV g _ (MsgS.prom _ _ _ _).f
theorem LM[Nn n](g:Sm n s t)(w:Int){m q:MsgT}(hm:MsgF n m q):Sm n (nd KD w m s) (nd KN w q t):=g.of inferInstance λr=>by
 unfold nd;rw[r.acc,hm.epoch,hm.ballot];split
 · exact g
 split
 · refine xm g _ _ inferInstance λa=>a.of inferInstance λra=>?_
   exact xo (ra.acc' _).sm w hm _
 · exact xo g w hm _
theorem C0[Nn n](g:Sm n s t)(w:Int){m q:MsgT}(hm:MsgF n m q):Sm n (nM KD s w m) (nM KN t w q):=wK g (λ_ _ g=>LM g w hm) (λ_ _ _=>inferInstance) w hm
theorem Fc[Nn n](g:Sm n s t)(vt:VoteT):Sm n (jJ KD s vt) (jJ KN t vt):=g.of inferInstance λr=>by
 unfold jJ;rw[r.view];refine Gx g (.ask _ _) (λs t g=>g.of inferInstance λr=>?_) λ_ _ _=>inferInstance
 show Sm n (nM KD s s.id _) (nM KN t t.id _);rw[r.id];exact C0 g _ (MsgS.ask _ _).f
theorem C1[Nn n](g:Sm n s t)(vt:VoteT):Sm n (lK KD s vt) (lK KN t vt):=by
 unfold lK;split
 · exact xn g vt
 · exact Fc g vt
theorem C4[Nn n](g:Sm n s t)(c:ChangeT):Sm n (bO KD s c).1 (bO KN t c).1∧(Rl n s t→(bO KN t c).1.e≤34→(bO KD s c).2=(bO KN t c).2):=by
 have tr:Rl n s t→cZ s=cZ t:=λr=>by unfold cZ;rw[r.round,r.id]
 constructor
 · refine g.of inferInstance λr=>?_
   unfold bO;rw[r.acc,r.view,tr r]
   by_cases q:(cd t.acc t.view.epoch (cZ t)).2=false
   · rw[if_pos q,if_pos q];exact g
   · rw[if_neg q,if_neg q,if_neg (show ¬mC KN t (gf t.view.epoch (cZ t))≠0 from λz=>z rfl)]
     refine⟨λhb=>?_⟩;have hb2:t.e+1≤34:=hb;obtain⟨a,b⟩:=r.putR hb2 (gf t.view.epoch (cZ t)) (gf t.view.epoch (cZ t));rw[if_neg (λz=>z b)];show Rl n (m3 KD s c) (m3 KN t c);unfold m3;rw[tr r,r.view,r.acc];exact((a.acc' _).round' _).voted _
 · intro r hb
   unfold bO at hb ⊢;rw[r.acc,r.view,tr r]
   by_cases q:(cd t.acc t.view.epoch (cZ t)).2=false
   · rw[if_pos q,if_pos q]
   · rw[if_neg q,if_neg (show ¬mC KN t (gf t.view.epoch (cZ t))≠0 from λz=>z rfl)]at hb
     have hb2:t.e+1≤34:=hb;rw[if_neg q,if_neg q,if_neg (show ¬mC KN t (gf t.view.epoch (cZ t))≠0 from λz=>z rfl),if_neg (λz=>z (r.putR hb2 (gf t.view.epoch (cZ t)) (gf t.view.epoch (cZ t))).2)]
end
variable {key:Nat}
variable {s:MS LD}
theorem Fz(i:Nat):pD i=Slot.mk (eg i DS.new).1 (bZ DS.new).D []:=by
 show(jG i .nil).1=_;unfold jG;show Slot.mk (eg i DS.new).1 _ _=_;rfl
theorem NW(A:Option (MS LD))(B:DS)(C:List ReplyT):(Slot.mk A B C).run=A∧(Slot.mk A B C).D=B:=⟨rfl,rfl⟩
theorem FB{i:Nat}(hi:i<5):(CL.new.at' i).run=(eg i DS.new).1∧(CL.new.at' i).D=(bZ DS.new).D:=by
 have e:CL.new.at' i=pD i:=by simp[CL.new,CL.at',List.getD_eq_getElem?_getD,hi]
 rw[e,Fz];exact NW _ _ _
end Api
end

section
namespace Api
open Go Leg Codec Dsk Wal
section
variable {n:Int} {s:MS LD} {t:MS Nat}
structure OpS(n:Int)(o o':OpT):Prop where
 kind:o.kind=o'.kind
 at':o.at'=o'.at'
 to':o.to'=o'.to'
 key:o.key=o'.key
 change:o.change=o'.change
 n:NumS n o.n o'.n
def KL(lo:Int)(t:MS Nat)(o:OpT):Bool:=Ku t.own o&&Oa lo (fp t.book t.id o.key-o.n)&& !decide (o.kind=3)
theorem Rl.opsS(h:Rl n s t):Rl n (opsS s) (opsS t):= {h with
 ops:=by
  show fA (s.ops+1)=fA (t.ops+1)
  rw[h.ops]}
theorem Ny[Nn n](r:Rl n s t){lo:Int}(hl:lo≤n){o o':OpT}(ho:OpS n o o')(hc:KL lo t o'=true):(cG s o).2.2=(cG t o').2.2∧(cG s o).2.1=(cG t o').2.1∧((cG t o').2.2=0→RowS n (cG s o).1 (cG t o').1∧(cG t o').1.version=t.own.version+1):=by
 unfold KL at hc;rw[an,an]at hc;obtain⟨⟨g1,g2⟩,g3⟩:=hc;have k3: ¬o'.kind=3:=by simpa using g3
 have gr:=Kt (s:=s.rep .nil) (t:=t.rep .nil) r.own r.id ho.kind ho.key ho.to' ho.n g1;have rt:=r.book.rights t.id o'.key;have cp:(fp s.book t.id o'.key-o.n<0↔fp t.book t.id o'.key-o'.n<0):=(rt.sub ho.n.lin).cmp (by decide) hl g2;unfold cG kE;show _=_∧_=_∧_;rw[show(s.rep .nil).view=(t.rep .nil).view from r.view,show(s.rep .nil).id=(t.rep .nil).id from r.id,show(s.rep .nil).busy=(t.rep .nil).busy from r.busy,ho.key,ho.kind]
 by_cases z1:jt (t.rep .nil).view (t.rep .nil).id=false
 · rw[if_pos z1,if_pos z1];exact⟨rfl,rfl,λe=>absurd e (by decide)⟩
 rw[if_neg z1,if_neg z1]
 by_cases z2:nq o'.key=false
 · rw[if_pos z2,if_pos z2];exact⟨rfl,rfl,λe=>absurd e (by decide)⟩
 rw[if_neg z2,if_neg z2,if_neg k3,if_neg k3]
 by_cases z3:(t.rep .nil).busy=true
 · rw[if_pos z3,if_pos z3];exact⟨rfl,rfl,λe=>absurd e (by decide)⟩
 rw[if_neg z3,if_neg z3,gr.1]
 by_cases z4:(fV (t.rep .nil) o').2≠0
 · rw[if_pos z4,if_pos z4];exact⟨rfl,rfl,λe=>absurd e z4⟩
 rw[if_neg z4,if_neg z4]
 have e5:(o'.kind≠0∧fp (s.rep .nil).book (t.rep .nil).id o'.key<o.n)↔(o'.kind≠0∧fp (t.rep .nil).book (t.rep .nil).id o'.key<o'.n):=by
  show(_∧fp s.book t.id o'.key<o.n)↔(_∧fp t.book t.id o'.key<o'.n);constructor
  · rintro ⟨a,b⟩;exact⟨a,by omega⟩
  · rintro ⟨a,b⟩;exact⟨a,by omega⟩
 by_cases z5:o'.kind≠0∧fp (t.rep .nil).book (t.rep .nil).id o'.key<o'.n
 · rw[if_pos z5,if_pos (e5.2 z5)];exact⟨rfl,rfl,λe=>absurd e (by decide)⟩
 · rw[if_neg z5,if_neg (λq=>z5 (e5.1 q))]
   exact⟨rfl,rfl,λ_=>gr.2 (Decidable.not_not.1 z4)⟩
theorem IQ(r:Rl n s t)(c:ChangeT):fx s c=fx t c:=by unfold fx;rw[r.view,r.vote]
theorem Hz[Nn n](r:Rl n s t)(op:Int)(c:ChangeT):Sm n (dv KD s op c).1 (dv KN t op c).1∧((dv KN t op c).1.e≤34→(dv KD s op c).2=(dv KN t op c).2):=by
 obtain⟨b1,b2⟩:=C4 r.sm c;have ce:=IQ r c;have tr:cZ s=cZ t:=by unfold cZ;rw[r.round,r.id]
 unfold dv;rw[ce]
 by_cases z1:fx t c≠0
 · rw[if_pos z1,if_pos z1]
   exact⟨tA r.sm λ_=>⟨rfl,rfl,rfl⟩,λ_=>rfl⟩
 rw[if_neg z1,if_neg z1]
 have bd:(if(bO KN t c).2≠0 then(dw (bO KN t c).1 op (bO KN t c).2 0,(bO KN t c).2)else(lK KN (dw (bO KN t c).1 op 0 0) (jv t.view (cZ t) c),(0:Int))).1.e≤34→(bO KN t c).1.e≤34:=λh=>by
  refine j5 (Mo.le (k:=(bO KN t c).1.e) (t:=(if(bO KN t c).2≠0 then(dw (bO KN t c).1 op (bO KN t c).2 0,(bO KN t c).2)else(lK KN (dw (bO KN t c).1 op 0 0) (jv t.view (cZ t) c),(0:Int))).1) (self:=?_)) h;split<;>exact inferInstance
 refine⟨⟨λhb=>?_⟩,λhb=>?_⟩
 · have e:=b2 r (bd hb)
   rw[e]
   by_cases z2:(bO KN t c).2≠0
   · rw[if_pos z2]at hb ⊢
     rw[if_pos z2];exact(tA b1 λ_=>⟨rfl,rfl,rfl⟩).h hb
   · rw[if_neg z2]at hb ⊢
     rw[if_neg z2,tr,r.view];exact(C1 (tA b1 λ_=>⟨rfl,rfl,rfl⟩) _).h hb
 · have e:=b2 r (bd hb)
   rw[e]
   by_cases z2:(bO KN t c).2≠0
   · rw[if_pos z2,if_pos z2]
   · rw[if_neg z2,if_neg z2]
theorem LF[Nn n](r:Rl n s t){lo:Int}(hl:lo≤n){o o':OpT}(ho:OpS n o o')(hc:KL lo t o'=true):Sm n (ly KD s o).1 (ly KN t o').1∧((ly KN t o').1.e≤34→(ly KD s o).2=(ly KN t o').2):=by
 obtain⟨p1,p2,p3⟩:=Ny r hl ho hc;unfold ly;rw[p1,p2,ho.kind,r.ops]
 by_cases z1:(cG t o').2.2≠0∨o'.kind=3
 · rw[if_pos z1,if_pos z1]
   exact⟨tA r.sm λ_=>⟨rfl,rfl,rfl⟩,λ_=>rfl⟩
 rw[if_neg z1,if_neg z1];obtain⟨q1,q2⟩:=p3 (Decidable.not_not.1 λz=>z1 (.inl z));obtain⟨g1,g2⟩:=Gz r.sm (x:=(cG s o).1) (y:=(cG t o').1) (λ_ _=>⟨q1,by omega⟩) t.ops t.ops λ_=>rfl
 have eN:(dH KN t (cG t o').1 t.ops).2=0:=by unfold dH;rw[if_neg (show ¬mC KN t (gY (cG t o').1)≠0 from λz=>z rfl)]
 rw[if_neg (show ¬(dH KN t (cG t o').1 t.ops).2≠0 from λz=>z eN)];have eE:(dH KN t (cG t o').1 t.ops).1.e=t.e+1:=by unfold dH;rw[if_neg (show ¬mC KN t (gY (cG t o').1)≠0 from λz=>z rfl)];rfl
 refine⟨⟨λhb=>?_⟩,λhb=>?_⟩
 · rw[if_neg (show ¬(dH KD s (cG s o).1 t.ops).2≠0 from λz=>z (g2 r (by rw[←eE];exact hb)))]
   exact g1.h hb
 · rw[if_neg (show ¬(dH KD s (cG s o).1 t.ops).2≠0 from λz=>z (g2 r (by rw[←eE];exact hb)))]
theorem Hv[Nn n](r:Rl n s t){lo:Int}(hl:lo≤n){o o':OpT}(ho:OpS n o o')(hc:KL lo t o'=true):Sm n (bK KD s o).1 (bK KN t o').1∧((bK KN t o').1.e≤34→(bK KD s o).2=(bK KN t o').2):=by
 unfold bK;rw[r.view,r.id,ho.kind,ho.change,r.opsS.ops];split
 · exact Hz r.opsS _ _
 · exact LF r.opsS hl ho hc
theorem LI[Nn n](g:Sm n s t):Sm n (gU KD s) (gU KN t):=by
 have a:Sm n (bP KD s) (bP KN t):=g.of inferInstance λr=>by
  unfold bP;rw[r.busy];refine C3 (wN ?_);split
  · exact xj g
  · exact g
 have b:Sm n (cb KD (bP KD s)) (cb KN (bP KN t)):=a.of inferInstance λr=>by
  unfold cb;rw[r.view];split
  · exact Gv a _
  · exact a
 refine b.of (by unfold gU;split<;>exact inferInstance) λr=>?_
 unfold gU;rw[r.view,r.id];split
 · have c:Sm n (fB KD (cb KD (bP KD s))) (fB KN (cb KN (bP KN t))):=by
    unfold fB;have w:=r.book.row (cb KN (bP KN t)).id;rw[r.id,w.ver];split
    · exact Gy b λ_=>w
    · exact b
   refine c.of inferInstance λr=>?_
   unfold pT;rw[r.vote];split
   · exact c
   · rename_i vt _
     rw[r.view];split
     · obtain⟨b1,b2⟩:=C4 c vt.change
       have tr:cZ (fB KD (cb KD (bP KD s)))=cZ (fB KN (cb KN (bP KN t))):=by unfold cZ;rw[r.round,r.id]
       rw[tr];refine⟨λhb=>?_⟩
       have bd:(bO KN (fB KN (cb KN (bP KN t))) vt.change).1.e≤34:=by
        refine j5 (Mo.le (k:=(bO KN (fB KN (cb KN (bP KN t))) vt.change).1.e) (self:=?_)) hb;split<;>exact inferInstance
       rw[b2 r bd];split
       · rename_i q
         rw[if_pos q]at hb;exact(C1 b1 _).h hb
       · rename_i q
         rw[if_neg q]at hb;exact b1.h hb
     · exact c
 · exact b
theorem LJ[Nn n](g:Sm n s t)(f:Int){m q:MsgT}(hm:MsgF n m q):Sm n (fO KD s f m) (fO KN t f q):=by
 unfold fO;rw[hm.kind];split
 · exact Ns g f hm
 split
 · exact LL g f hm
 split
 · refine g.of inferInstance λr=>?_
   rw[hm.whose];exact(r.bookM _ hm.row).sm
 split
 · rw[hm.view];exact tB g _
 split
 · exact CO g f hm
 split
 · exact zK g f λ_=>hm
 split
 · exact C0 g f hm
 split
 · exact CV g f hm
 split
 · exact CU g f hm
 split
 · exact CS g f hm
 · exact g
end
structure CN where
 ms:List (MS Nat)
 W:List (List MsgT)
def CN.at'(b:CN)(i:Nat):MS Nat:=b.ms.getD i (B9 0 0)
def CN.did(b:CN)(i:Nat)(t:MS Nat):CN:=⟨b.ms.set i t.hush,gV b.W i t.o⟩
def CN.new:CN:=⟨(List.range 5).map λi=>ww ((i:Nat):Int) 0,List.replicate 25 []⟩
def Ey(b:CN)(i:Nat)(t:MS Nat):Option CN:=if t.e≤34 then some (b.did i t)else none
def Mz(lo:Int)(b:CN)(i:Nat)(o:OpT):Option (CN×Int):=if KL lo (b.at' i) o then(Ey b i (bK KN (b.at' i) o).1).map λc=>(c,(bK KN (b.at' i) o).2)else none
def Oz(b:CN)(i:Nat):Option CN:=Ey b i (gU KN (b.at' i))
def Jr(b:CN)(i j:Nat):Option CN:=if i=j then some b else match b.W.getD (i*5+j) []with
 | []=>some b
 |m::l=>if IP m then Ey {b with W:=b.W.set (i*5+j) l} j (fO KN (b.at' j) ((i:Nat):Int) m)else none
def Jy(b:CN)(i:Nat):Nat→Option CN
 |0=>some b
 |j+1=>(Jy b i j).bind λc=>Jr c i j
def tt(b:CN):Nat→Option CN
 |0=>some b
 |i+1=>(tt b i).bind λc=>Jy c i 5
def EZ(b:CN):Nat→Option CN
 |0=>some b
 |i+1=>(EZ b i).bind λc=>Oz c i
def tm:Nat→CN→Option CN
 |0,b=>some b
 |k+1,b=>if wx b.W 25=0 then some b else(tt b 5).bind (tm k)
def tC(b:CN):Nat→Option CN
 |0=>some b
 |k+1=>(tC b k).bind λc=>(EZ c 5).bind (tm 400)
inductive WayS(n:Int):List MsgT→List MsgT→Prop
 |nil:WayS n [] []
 |cons {m q:MsgT} {l k:List MsgT}:MsgS n m q→WayS n l k→WayS n (m::l) (q::k)
theorem WayS.len{n:Int}{l k:List MsgT}(h:WayS n l k):l.length=k.length:=by
 induction h with
 |nil=>rfl
 |cons _ _ ih=>rw[av,av,ih]
theorem WayS.snoc{n:Int}{l k:List MsgT}(h:WayS n l k){m q:MsgT}(hm:MsgS n m q):WayS n (l++[m]) (k++[q]):=by
 induction h with
 |nil=>exact .cons hm .nil
 |cons h _ ih=>exact .cons h ih
structure CSim(n:Int)(a:CL)(b:CN):Prop where
 ms:a.ms.length=5
 bs:b.ms.length=5
 W:a.W.length=25
 V:b.W.length=25
 run: ∀i,i<5→∃s,(a.at' i).run=some s∧Rl n s (b.at' i)
 way: ∀k,WayS n (a.W.getD k []) (b.W.getD k [])
section
variable {n:Int} {a:CL} {b:CN}
theorem At{α:Type}{W:List (List α)}{k j:Nat}{l:List α}(hk:k<W.length):(W.set k l).getD j []=if j=k then l else W.getD j []:=by
 by_cases q:j=k
 · subst q
   rw[if_pos rfl,List.getD_eq_getElem?_getD,List.getElem?_set_self hk];rfl
 · rw[if_neg q,List.getD_eq_getElem?_getD,List.getElem?_set_ne (λe=>q e.symm),←List.getD_eq_getElem?_getD]
theorem GG{W V:List (List MsgT)}(hW:W.length=25)(hV:V.length=25)(h: ∀k,WayS n (W.getD k []) (V.getD k [])){k:Nat}(hk:k<25){l r:List MsgT}(hl:WayS n l r): ∀j,WayS n ((W.set k l).getD j []) ((V.set k r).getD j []):=λj=>by
 rw[At (by omega),At (by omega)];split
 · exact hl
 · exact h j
theorem AU{f t:Int}(h:dA f t=true):bF f t<25:=by
 unfold dA at h;rw[an,an]at h;have h1:=(mG h.1.1).1;have h2:=(mG h.1.2).1;unfold bF;omega
theorem Db(f:Nat): ∀{l k:List SaidT},SaidS n l k→∀{W V:List (List MsgT)},W.length=25→V.length=25→(∀k,WayS n (W.getD k []) (V.getD k []))→∀j,WayS n ((gV W f l).getD j []) ((gV V f k).getD j [])
 |_,_, .nil,_,_,_,_,h=>h
 |_,_, .cons (t:=t) (m:=m) (q:=q) hm hl,W,V,hW,hV,h=>by
  refine Db f hl (W:=qE W f ⟨t,m⟩) (V:=qE V f ⟨t,q⟩) (by rw[qD];exact hW) (by rw[qD];exact hV) λj=>?_
  unfold qE;split
  · rename_i hv
    refine GG hW hV h (AU hv) ?_ j;rw[(h _).len];split
    · exact(h _).snoc hm
    · exact h _
  · exact h j
theorem CSim.did(h:CSim n a b){i:Nat}(hi:i<5){s:MS LD}{t:MS Nat}(r:Rl n s t):CSim n (a.did i s) (b.did i t):=by
 refine⟨by show(a.ms.set i _).length=5;rw[fz];exact h.ms,by show(b.ms.set i _).length=5;rw[fz];exact h.bs,by show(gV a.W i s.o).length=25;rw[nh];exact h.W,by show(gV b.W i t.o).length=25;rw[nh];exact h.V,λj hj=>?_,Db i r.o h.W h.V h.way⟩;have hl:i<a.ms.length:=by rw[h.ms];exact hi
 have hl2:i<b.ms.length:=by rw[h.bs];exact hi
 by_cases q:j=i
 · subst q
   refine⟨s.hush,by unfold CL.did;rw[vq hl],?_⟩
   have e:(b.did j t).at' j=t.hush:=by
    show(b.ms.set j t.hush).getD j _=_;rw[List.getD_eq_getElem?_getD,List.getElem?_set_self hl2];rfl
   rw[e];exact {r with o:= .nil}
 · obtain⟨s2,e2,r2⟩:=h.run j hj
   refine⟨s2,by unfold CL.did;rw[wl q];exact e2,?_⟩
   have e:(b.did i t).at' j=b.at' j:=by
    show(b.ms.set i t.hush).getD j _=_;rw[List.getD_eq_getElem?_getD,List.getElem?_set_ne (λe=>q e.symm),←List.getD_eq_getElem?_getD];rfl
   rw[e];exact r2
theorem G7{t:MS Nat}{i:Nat}{c:CN}(h:Ey b i t=some c):t.e≤34∧c=b.did i t:=by
 unfold Ey at h;split at h
 · rename_i q;exact⟨q,(bI h).symm⟩
 · cases h
theorem CSim.act(h:CSim n a b){i:Nat}(hi:i<5){s:MS LD}{t:MS Nat}(g:Sm n s t){c:CN}(e:Ey b i t=some c):CSim n (a.did i s) c:=by
 obtain⟨q,rfl⟩:=G7 e;exact h.did hi (g.h q)
theorem CSim.cli[Nn n](h:CSim n a b){i:Nat}(hi:i<5){lo:Int}(hl:lo≤n){o o':OpT}(ho:OpS n o o'){c:CN}{e:Int}(hc:Mz lo b i o'=some (c,e)):CSim n (yt a i o).1 c∧(yt a i o).2=e:=by
 obtain⟨s,hs,r⟩:=h.run i hi;unfold Mz at hc;split at hc
 · rename_i q
   obtain⟨g1,g2⟩:=Hv r hl ho q;cases ha:Ey b i (bK KN (b.at' i) o').1 with
   |none=>rw[ha]at hc;cases hc
   |some c'=>
    rw[ha]at hc;obtain⟨rfl,rfl⟩:=Prod.mk.inj (bI hc)
    have en:yt a i o=(a.did i (bK KD s o).1,(bK KD s o).2):=by
     unfold yt;rw[hs];show(if s.e.D.dn=true then _ else _)=_;rw[r.e.dn,if_neg (by decide)]
    rw[en];exact⟨h.act hi g1 ha,g2 (G7 ha).1⟩
 · cases hc
theorem CSim.do[Nn n](h:CSim n a b){i:Nat}(hi:i<5){lo:Int}(hl:lo≤n){o o':OpT}(ho:OpS n o o')(hat:o.at'=((i:Nat):Int))(hk:0≤o.kind∧o.kind≤4){c:CN}{e:Int}(hc:Mz lo b i o'=some (c,e)):CSim n (o7 a o).1 c∧(o7 a o).2=e:=by
 have en:o7 a o=yt a i o:=by
  unfold o7;rw[hat,if_neg (by rw[show hZ ((i:Nat):Int)=true from decide_eq_true ⟨by omega,by omega⟩];decide),if_pos hk];rfl
 rw[en];exact h.cli hi hl ho hc
theorem CSim.tik[Nn n](h:CSim n a b){i:Nat}(hi:i<5){c:CN}(hc:Oz b i=some c):CSim n (Jm a i) c:=by
 obtain⟨s,hs,r⟩:=h.run i hi
 have en:Jm a i=a.did i (gU KD s):=by
  unfold Jm o7;show(if hZ ((i:Nat):Int)=false then((_,_):CL×Int)else _).1=_;rw[if_neg (by rw[show hZ ((i:Nat):Int)=true from decide_eq_true ⟨by omega,by omega⟩];decide)];show(Cr a i).1=_;unfold Cr;rw[hs];show(if s.e.D.dn=true then((_,_):CL×Int)else _).1=_;rw[r.e.dn,if_neg (by decide)]
 rw[en];exact h.act hi (LI r.sm) hc
theorem EX{α:Type}(l:List α):jF 0 l=l:=by unfold jF;rfl
theorem Jd{o:OpT}(hv:dA o.at' o.to'=true)(h:a.W.getD (bF o.at' o.to') []=[]):(og a o).1=a:=by
 unfold og;rw[if_neg (by rw[hv];decide),h]
theorem Hk{o:OpT}{m:MsgT}{l:List MsgT}(hv:dA o.at' o.to'=true)(hk:o.kind=5)(hn:o.n=0)(h:a.W.getD (bF o.at' o.to') []=m::l):og a o=o9 (a.way (bF o.at' o.to') l) o.at'.toNat o.to'.toNat m:=by
 have et:jF (max o.n 0% ((m::l).length:Int)).toNat (m::l)=m::l:=by
  rw[hn,show(max (0:Int) 0% ((m::l).length:Int)).toNat=0 by simp,EX]
 unfold og;rw[if_neg (by rw[hv];decide),h];show(if o.kind=7 then(if I4 (m::l)then(a.way (bF o.at' o.to') (EL (m::l)),(0:Int))else(a,3))else(match jF (max o.n 0% ((m::l).length:Int)).toNat (m::l)with| []=>(a,0)|m'::l'=>if o.kind=6 then(a.way (bF o.at' o.to') l',0)else o9 (a.way (bF o.at' o.to') l') o.at'.toNat o.to'.toNat m'))=_;rw[if_neg (by omega),et];show(if o.kind=6 then(a.way (bF o.at' o.to') l,(0:Int))else o9 (a.way (bF o.at' o.to') l) o.at'.toNat o.to'.toNat m)=_;rw[if_neg (by omega)]
theorem CSim.step[Nn n](h:CSim n a b){i j:Nat}(hi:i<5)(hj:j<5){c:CN}(hc:Jr b i j=some c):CSim n (tw a i j) c:=by
 unfold Jr at hc;unfold tw
 by_cases q:i=j
 · rw[if_pos q]at hc ⊢
   exact bI hc▸h
 rw[if_neg q]at hc ⊢;have mi:hZ ((i:Nat):Int)=true:=decide_eq_true ⟨by omega,by omega⟩;have mj:hZ ((j:Nat):Int)=true:=decide_eq_true ⟨by omega,by omega⟩
 have hv:dA ((i:Nat):Int) ((j:Nat):Int)=true:=by
  unfold dA;rw[mi,mj,decide_eq_false (by omega)];rfl
 have ed:o7 a (Li 5 ((i:Nat):Int) ((j:Nat):Int))=og a (Li 5 ((i:Nat):Int) ((j:Nat):Int)):=by
  unfold o7;show(if hZ ((i:Nat):Int)=false then _ else _)=_;rw[if_neg (by rw[mi];decide)];rfl
 rw[ed];have hw:=h.way (i*5+j);cases hb:b.W.getD (i*5+j) []with
 |nil=>
  rw[hb]at hc hw;cases hA:a.W.getD (i*5+j) []with
  |nil=>
   rw[Jd (o:=Li 5 ((i:Nat):Int) ((j:Nat):Int)) hv hA];exact bI hc▸h
  |cons m l=>rw[hA]at hw;cases hw
 |cons m' l'=>
  rw[hb]at hc hw;cases hA:a.W.getD (i*5+j) []with
  |nil=>rw[hA]at hw;cases hw
  |cons m l=>
   rw[hA]at hw;cases hw with
   |cons hm hl=>
    have hc:(if IP m'=true then Ey {b with W:=b.W.set (i*5+j) l'} j (fO KN (b.at' j) ((i:Nat):Int) m')else none)=some c:=hc
    by_cases ck:IP m'=true
    · rw[if_pos ck]at hc
      have h2:CSim n (a.way (i*5+j) l) {b with W:=b.W.set (i*5+j) l'}:=⟨h.ms,h.bs,by show(a.W.set _ _).length=25;rw[fz];exact h.W,by show(b.W.set _ _).length=25;rw[fz];exact h.V,h.run,GG h.W h.V h.way (by omega) hl⟩;obtain⟨s,hs,r⟩:=h.run j hj;rw[Hk (o:=Li 5 ((i:Nat):Int) ((j:Nat):Int)) hv rfl rfl hA]
      have ec:o9 (a.way (i*5+j) l) i j m=((a.way (i*5+j) l).did j (fO KD s ((i:Nat):Int) m),0):=by
       unfold o9;rw[show((a.way (i*5+j) l).at' j).run=some s from hs];show(if s.e.D.dn=true then _ else _)=_;rw[r.e.dn,if_neg (by decide),hm.dec ck,if_pos rfl]
      show CSim n (o9 (a.way (i*5+j) l) i j m).1 c;rw[ec];exact h2.act hj (LJ r.sm _ hm.f) hc
    · rw[if_neg ck]at hc;cases hc
theorem iJ{α β:Type}{x:Option α}{f:α→Option β}{c:β}(h:x.bind f=some c): ∃y,x=some y∧f y=some c:=by
 cases x with
 |none=>cases h
 |some y=>exact⟨y,rfl,h⟩
theorem CSim.rows[Nn n](h:CSim n a b){i:Nat}(hi:i<5): ∀(j:Nat) {c:CN},j≤5→Jy b i j=some c→CSim n (tI a i j) c
 |0,_,_,e=>bI e▸h
 |j+1,_,hj,e=>by
  obtain⟨d,e1,e2⟩:=iJ e;exact(CSim.rows h hi j (by omega) e1).step hi (by omega) e2
theorem CSim.sweepTo[Nn n](h:CSim n a b): ∀(i:Nat) {c:CN},i≤5→tt b i=some c→CSim n (sweepTo a i) c
 |0,_,_,e=>bI e▸h
 |i+1,_,hi,e=>by
  obtain⟨d,e1,e2⟩:=iJ e;exact(CSim.sweepTo h i (by omega) e1).rows (by omega) 5 (aK _) e2
theorem CSim.ticks[Nn n](h:CSim n a b): ∀(i:Nat) {c:CN},i≤5→EZ b i=some c→CSim n (si a i) c
 |0,_,_,e=>bI e▸h
 |i+1,_,hi,e=>by
  obtain⟨d,e1,e2⟩:=iJ e;exact(CSim.ticks h i (by omega) e1).tik (by omega) e2
theorem Kl(h:CSim n a b): ∀k,wx a.W k=wx b.W k
 |0=>rfl
 |k+1=>by rw[ru,ru,Kl h k,(h.way k).len]
theorem A6(k:Nat)(b:CN):tm (k+1) b=if wx b.W 25=0 then some b else(tt b 5).bind (tm k):=rfl
theorem A7(k:Nat)(a:CL):kS (k+1) a=if wx a.W 25=0 then a else kS k (sweepTo a 5):=rfl
theorem CSim.sweeps[Nn n](k:Nat): ∀{a:CL} {b c:CN},CSim n a b→tm k b=some c→CSim n (kS k a) c:=by
 induction k with
 |zero=>intro a b c h e;exact bI e▸h
 |succ k ih=>
  intro a b c h e;rw[A6]at e;rw[A7,Kl h 25]
  by_cases q:wx b.W 25=0
  · rw[if_pos q]at e ⊢;exact bI e▸h
  · rw[if_neg q]at e ⊢
    obtain⟨d,e1,e2⟩:=iJ e;exact ih (h.sweepTo 5 (aK _) e1) e2
theorem CSim.settle[Nn n](h:CSim n a b): ∀(k:Nat) {c:CN},tC b k=some c→CSim n (dI a k) c
 |0,_,e=>bI e▸h
 |k+1,_,e=>by
  obtain⟨d,e1,e2⟩:=iJ e;obtain⟨f,e3,e4⟩:=iJ e2;have:=CSim.sweeps 400 ((CSim.settle h k e1).ticks 5 (aK _) e3) e4;rw[dI,uR];exact this
theorem CSim.new:CSim n CL.new CN.new:=by
 refine⟨by simp[CL.new],by simp[CN.new],by simp[CL.new],by simp[CN.new],λi hi=>?_,λk=>?_⟩
 · obtain⟨D',e,lg,ha,hd⟩:=LogD.new.open rfl rfl
   have es:(eg i DS.new).1=some (ww ((i:Nat):Int) (⟨0,((fP []:Nat):Int),D'⟩:LD)):=by
    unfold eg;rw[e];rfl
   refine⟨_,by rw[(FB hi).1];exact es,?_⟩;have eb:CN.new.at' i=ww ((i:Nat):Int) 0:=by simp[CN.new,CN.at',List.getD_eq_getElem?_getD,hi]
   rw[eb]
   have z5: ∀(i:Nat) (_:i<5),RowS n (#v[RowT.zero,RowT.zero,RowT.zero,RowT.zero,RowT.zero]:Vector RowT 5)[i] (#v[RowT.zero,RowT.zero,RowT.zero,RowT.zero,RowT.zero]:Vector RowT 5)[i]:=λi hi=>by
    match i,hi with|0,_|1,_|2,_|3,_|4,_=>exact RowS.zero
   exact⟨rfl,rfl, .zero,z5,rfl,rfl,rfl,rfl, .zero,rfl,rfl,rfl,rfl,rfl,rfl,z5,by show(0:Int)≤10* ((0:Nat):Int);decide,⟨hd,ha,[],lg,rfl,rfl,aO _⟩, .nil⟩
 · have z: ∀k,(List.replicate 25 ([]:List MsgT)).getD k []=[]:=λk=>by
    rw[List.getD_eq_getElem?_getD,List.getElem?_replicate];split<;>rfl
   show WayS n ((List.replicate 25 ([]:List MsgT)).getD k []) ((List.replicate 25 ([]:List MsgT)).getD k []);rw[z];exact .nil
theorem CSim.up(h:CSim n a b){i:Nat}(hi:i<5): ∃s,(a.at' i).run=some s∧(a.at' i).up=true∧zP a i=some s∧Rl n s (b.at' i):=by
 obtain⟨s,hs,r⟩:=h.run i hi
 have u:(a.at' i).up=true:=by
  unfold Slot.up;rw[hs];show(!s.e.D.dn)=true;rw[r.e.dn];rfl
 exact⟨s,hs,u,by unfold zP;rw[if_pos u];exact hs,r⟩
def x7(t:MS Nat)(B:BookT):Nat→BookT
 |0=>B
 |i+1=>(dE (x7 t B i) ((i:Nat):Int) (mirRow t.mirror ((i:Nat):Int))).1
def tk(b:CN):Nat→BookT
 |0=> .zero
 |j+1=>x7 (b.at' j) (tk b j) 5
theorem GT[Nn n]{s:MS LD}{t:MS Nat}(r:Rl n s t){B C:BookT}(h:BookS n B C): ∀k,BookS n (lN s B k) (x7 t C k)
 |0=>h
 |k+1=>(GT r h k).merge _ (r.mirRow _)
theorem CSim.truth[Nn n](h:CSim n a b): ∀j,j≤5→BookS n (iW a j) (tk b j)
 |0,_=> .zero
 |j+1,hj=>by
  obtain⟨s,_,_,hs,r⟩:=h.up (show j<5 by omega);rw[tj hs];exact GT r (CSim.truth h j (by omega)) 5
end
def Gj(lo:Int)(b:CN)(i:Nat)(o:OpT)(e:Int):Option CN:=(Mz lo b i o).bind λr=>if r.2=e then some r.1 else none
def rN(k a t N:Int):OpT:=⟨k,a,t,0,N, .zero,0,0,0⟩
def L8(a k w h:Int):OpT:=⟨4,a,0,0,0,⟨k,w,h⟩,0,0,0⟩
section
variable {n:Int} {a:CL} {b:CN}
theorem CSim.ask[Nn n](h:CSim n a b){i:Nat}(hi:i<5){o o':OpT}(ho:OpS n o o')(hat:o.at'=((i:Nat):Int))(hk:0≤o.kind∧o.kind≤4){c:CN}{e:Int}(hc:Gj 1 b i o' e=some c):CSim n (o7 a o).1 c∧(o7 a o).2=e:=by
 obtain⟨r,h1,h2⟩:=iJ hc;split at h2
 · rename_i q
   have:=h.do hi (Nn.r (n:=n)).1 ho hat hk (c:=r.1) (e:=r.2) h1
   rw[←bI h2,←q];exact this
 · cases h2
theorem JR:NumS n n 1000:=⟨1,0,⟨by decide,by decide⟩,⟨by decide,by decide⟩,by omega,by decide⟩
theorem OQ:NumS n 1 1:=⟨0,1,⟨by decide,by decide⟩,⟨by decide,by decide⟩,by omega,by decide⟩
theorem NB:NumS n (n+1) 1001:=⟨1,1,⟨by decide,by decide⟩,⟨by decide,by decide⟩,by omega,by decide⟩
theorem Dx(k a t:Int){N M:Int}(h:NumS n N M):OpS n (rN k a t N) (rN k a t M):=⟨rfl,rfl,rfl,rfl,rfl,h⟩
theorem OP(a k w h:Int):OpS n (L8 a k w h) (L8 a k w h):=⟨rfl,rfl,rfl,rfl,rfl, .zero⟩
theorem qI(k a t:Int){N:Int}(h:N≤9223372036854775807):OkOp (rN k a t N):=⟨Gc,h⟩
theorem JP(a:Int){k w h:Int}(hk:wT k)(hw:wT w)(hh:wT h):OkOp (L8 a k w h):=⟨⟨λn hn=>by
 simp only[L8,ChangeT.flat,bV,List.not_mem_nil,or_false]at hn;rcases hn with rfl|rfl|rfl
 · exact nF hk
 · exact nF hw
 · exact nF hh⟩,by show(0:Int)≤_;omega⟩
theorem CSim.upAll(h:CSim n a b): ∀j,j<5→(a.at' j).up=true:=λj hj=>by
 obtain⟨s,_,u,_⟩:=h.up hj;exact u
theorem CSim.value[Nn n](h:CSim n a b){i:Nat}(hi:i<5)(hv:fw (b.at' i).book 0=0){s:MS LD}(hs:(a.at' i).run=some s):fw s.book 0=0:=by
 obtain⟨s',e,r⟩:=h.run i hi;rw[hs]at e;obtain rfl:=bI e;exact(r.book.value 0).nil (by decide) hv
theorem CSim.truth0[Nn n](h:CSim n a b)(hv:fw (tk b 5) 0=0):fw (se a) 0=0:=((h.truth 5 (aK _)).value 0).nil (by decide) hv
end
def NZ(w:Nat):Option (CN×CN×CN):=
 (Gj 1 .new 0 (rN 0 0 0 1000) 0).bind λb=>(Gj 1 b 1 (L8 1 0 ((w:Nat):Int) 0) 0).bind λb=>(tC b 4).bind λb=>
 (Gj 1 b w (rN 1 ((w:Nat):Int) 0 1) 7).bind λb=>(Gj 1 b 0 (rN 2 0 ((w:Nat):Int) 1000) 0).bind λb=>(tC b 4).bind λb=>
 (Gj 1 b w (rN 1 ((w:Nat):Int) 0 1001) 7).bind λb=>(Gj 1 b w (rN 1 ((w:Nat):Int) 0 1000) 0).bind λb=>(tC b 4).bind λb=>some (b,b,b)
def BF(w:Nat):Bool:=match NZ w with
 |none=>false
 |some r=>decide (fw (tk r.1 5) 0=0)&&decide (fw (r.1.at' w).book 0=0)&&decide (fw (r.1.at' 2).book 0=0)
theorem N1:BF 3=true:=by decide+kernel
theorem N0:BF 4=true:=by decide+kernel
structure Joined(n:Int)(w:Nat)(a1 a2 a4 a5 a7 a8:CL):Prop where
 d1:(o7 .new (rN 0 0 0 n)).1=a1∧CLOk 1 a1
 d2:(o7 a1 (L8 1 0 ((w:Nat):Int) 0)).1=a2∧CLOk 2 a2
 d4:(o7 (dI a2 4) (rN 1 ((w:Nat):Int) 0 1)).1=a4∧(o7 (dI a2 4) (rN 1 ((w:Nat):Int) 0 1)).2=7∧CLOk 3 a4
 d5:(o7 a4 (rN 2 0 ((w:Nat):Int) n)).1=a5∧CLOk 4 a5
 d7:(o7 (dI a5 4) (rN 1 ((w:Nat):Int) 0 (n+1))).1=a7∧(o7 (dI a5 4) (rN 1 ((w:Nat):Int) 0 (n+1))).2=7∧CLOk 5 a7
 d8:(o7 a7 (rN 1 ((w:Nat):Int) 0 n)).1=a8∧(o7 a7 (rN 1 ((w:Nat):Int) 0 n)).2=0∧CLOk 6 a8
 up: ∀j,j<5→((dI a8 4).at' j).up=true
 truth:fw (se (dI a8 4)) 0=0
 vw: ∀s,((dI a8 4).at' w).run=some s→fw s.book 0=0
 v2: ∀s,((dI a8 4).at' 2).run=some s→fw s.book 0=0
theorem N2{n:Int}(hn:1≤n∧n≤1024){w:Nat}(hw:w=3∨w=4): ∃a1 a2 a4 a5 a7 a8,Joined n w a1 a2 a4 a5 a7 a8:=by
 have:Nn n:=⟨hn⟩;have h5:w<5:=by omega
 have hb:BF w=true:=by rcases hw with rfl|rfl;exact N1;exact N0
 unfold BF at hb;split at hb
 · cases hb
 rename_i r hr;rw[an,an,decide_eq_true_iff,decide_eq_true_iff,decide_eq_true_iff]at hb;obtain⟨⟨t1,t2⟩,t3⟩:=hb;obtain⟨b1,c1,hr⟩:=iJ hr;obtain⟨b2,c2,hr⟩:=iJ hr;obtain⟨b3,c3,hr⟩:=iJ hr;obtain⟨b4,c4,hr⟩:=iJ hr;obtain⟨b5,c5,hr⟩:=iJ hr;obtain⟨b6,c6,hr⟩:=iJ hr;obtain⟨b7,c7,hr⟩:=iJ hr;obtain⟨b8,c8,hr⟩:=iJ hr;obtain⟨b9,c9,hr⟩:=iJ hr;obtain rfl:=bI hr;have hk0: ∀{k:Int},decide (0≤k∧k≤4)=true→0≤k∧k≤4:=λh=>of_decide_eq_true h
 have iw:wT ((w:Nat):Int):=⟨by omega,by omega⟩;have o0: ∀k a t,OkOp (rN k a t n):=λk a t=>qI k a t (by omega)
 obtain⟨s1,_⟩:=(CSim.new (n:=n)).ask (by decide) (Dx 0 0 0 JR) rfl (hk0 rfl) c1;have k1:CLOk 1 (o7 .new (rN 0 0 0 n)).1:=yq new_ok (o0 _ _ _);generalize e1:(o7 .new (rN 0 0 0 n)).1=a1 at*;obtain⟨s2,_⟩:=s1.ask (by decide) (OP 1 0 ((w:Nat):Int) 0) rfl (hk0 rfl) c2;have k2:CLOk 2 (o7 a1 (L8 1 0 ((w:Nat):Int) 0)).1:=yq k1 (JP 1 ⟨by decide,by decide⟩ iw ⟨by decide,by decide⟩);generalize e2:(o7 a1 (L8 1 0 ((w:Nat):Int) 0)).1=a2 at*;obtain⟨s4,e4'⟩:=(s2.settle 4 c3).ask h5 (Dx 1 ((w:Nat):Int) 0 OQ) rfl (hk0 rfl) c4;have k4:CLOk 3 (o7 (dI a2 4) (rN 1 ((w:Nat):Int) 0 1)).1:=yq (k2.settle 4) (qI _ _ _ (by decide));generalize e4:(o7 (dI a2 4) (rN 1 ((w:Nat):Int) 0 1)).1=a4 at*;obtain⟨s5,_⟩:=s4.ask (by decide) (Dx 2 0 ((w:Nat):Int) JR) rfl (hk0 rfl) c5;have k5:CLOk 4 (o7 a4 (rN 2 0 ((w:Nat):Int) n)).1:=yq k4 (o0 _ _ _);generalize e5:(o7 a4 (rN 2 0 ((w:Nat):Int) n)).1=a5 at*;obtain⟨s7,e7'⟩:=(s5.settle 4 c6).ask h5 (Dx 1 ((w:Nat):Int) 0 NB) rfl (hk0 rfl) c7;have k7:CLOk 5 (o7 (dI a5 4) (rN 1 ((w:Nat):Int) 0 (n+1))).1:=yq (k5.settle 4) (qI _ _ _ (by omega));generalize e7:(o7 (dI a5 4) (rN 1 ((w:Nat):Int) 0 (n+1))).1=a7 at*;obtain⟨s8,e8'⟩:=s7.ask h5 (Dx 1 ((w:Nat):Int) 0 JR) rfl (hk0 rfl) c8;have k8:CLOk 6 (o7 a7 (rN 1 ((w:Nat):Int) 0 n)).1:=yq k7 (o0 _ _ _);generalize e8:(o7 a7 (rN 1 ((w:Nat):Int) 0 n)).1=a8 at*;have s9:=s8.settle 4 c9
 exact⟨a1,a2,a4,a5,a7,a8,⟨e1,k1⟩,⟨e2,k2⟩,⟨e4,e4',k4⟩,⟨e5,k5⟩,⟨e7,e7',k7⟩,⟨e8,e8',k8⟩,s9.upAll,s9.truth0 t1,λs hs=>s9.value h5 t2 hs,λs hs=>s9.value (by decide) t3 hs⟩
end Api
end

section
namespace Go.Proofs.YtkhjnolhhidecaaGreatDoor
open Go Leg Codec Api Dsk Wal
theorem Nk{n:Nat}{a:CL}(h:CLOk n a)(u:pi a): ∀j i,j<5→i<5→WF (mirRow (mr a j).mirror ((i:Nat):Int)).flat:=λj i hj _=>by
 have:OkR KD (mr a j):=((h.at' j hj).run _ (lL u hj)).1;unfold mirRow;split
 · exact(this.mir _ _).wf
 · exact K8 OkRow.zero
theorem vZ(n' who n:Int)(w:Nat)(hn:1≤n∧n≤1024)(hw:w=3∨w=4)(hme:n'%1024+1=n)(hj:3+who%2=((w:Nat):Int)):
 DT 3 #[(.int .i64 (n')),(.int .i64 (who))] T0 [] (RI (.bool true) []):=by
 refine BD 78 Tryz.func3 rfl rfl rfl λw0 F hF=>?_
 have hw5:w<5:=by omega
 obtain⟨a1,a2,a4,a5,a7,a8,J⟩:=N2 hn hw;have hup:pi (dI a8 4):=J.up;have hwf:=Nk (J.d8.2.2.settle 4) hup;refine sr λ_ J1=>PS ?_
 refine nx J1 (aa λ_ J2=>sr λ_ J3=>CE RH (Fb) ID ?_);refine PS ?_;refine nx J3 (CN (qx J2 (sr λ_ J4=>PS ?_)));refine tp (jA (r:=(n'%1024)) rfl rfl rfl (mask (k:=10) (by decide) _)) ?_;refine tp (bD (r:=n) rfl rfl rfl ((bL (by omega) (by omega)).trans hme)) ?_;refine PS ?_;refine tp (jA (r:=(who%2)) rfl rfl rfl (mask (k:=1) (by decide) _)) ?_;refine tp (bD (r:=((w:Nat):Int)) rfl rfl rfl ((bL (by omega) (by omega)).trans hj)) ?_;refine P2 ?_;refine nx J4 (sr λ_ J5=>CR Rz (Al) ID λvR HR hR=>?_);obtain⟨c,rfl,rfl⟩:=hR;refine PS ?_;refine nx J5 (sr λ_ J6=>P2 ?_);refine tp (kR OpT.zero (OpT.mk 0 0 0 0 n ChangeT.zero 0 0 0) [(0,[Value.int .i64 0]),(4,[Value.int .i64 n])] e6 hO (g:=OpT.sg)) ?_;refine CR Mb (lQ (c:=c) (a:=CL.new) (o:=rN 0 0 0 n) new_ok (by omega) (qI _ _ _ (by omega))) ID λvR HR hR=>?_
 obtain⟨rfl,hH⟩:=hR;rw[J.d1.1]at hH;subst hH;refine nx J6 (sr λ_ J7=>P2 ?_);refine tp (kR ChangeT.zero (ChangeT.mk 0 ((w:Nat):Int) 0) [(0,[Value.int .i64 0]),(1,[Value.int .i64 ((w:Nat):Int)])] m4 zx (g:=ChangeT.sg)) ?_;refine tp (kR OpT.zero (OpT.mk 4 1 0 0 0 (ChangeT.mk 0 ((w:Nat):Int) 0) 0 0 0) [(0,[Value.int .i64 4]),(1,[Value.int .i64 1]),(5,ints (ChangeT.mk 0 ((w:Nat):Int) 0).flat)] e6 hO (g:=OpT.sg)) ?_;refine CR Mb (lQ (c:=c) (a:=a1) (o:=L8 1 0 ((w:Nat):Int) 0) J.d1.2 (by omega) (JP 1 ⟨by decide,by decide⟩ ⟨by omega,by omega⟩ ⟨by decide,by decide⟩)) ID λvR HR hR=>?_
 obtain⟨rfl,hH⟩:=hR;rw[J.d2.1]at hH;subst hH;refine nx J7 (sr λ_ J8=>PS ?_);refine CZ NS (pv c 2 a2 J.d2.2 (by omega) 4 (by decide)) ID λvR=>?_
 refine nx J8 (aa λ_ J9=>sr λ_ J10=>P2 ?_);refine tp (kR OpT.zero (OpT.mk 1 ((w:Nat):Int) 0 0 1 ChangeT.zero 0 0 0) [(0,[Value.int .i64 1]),(1,[Value.int .i64 ((w:Nat):Int)]),(4,[Value.int .i64 1])] e6 hO (g:=OpT.sg)) ?_;refine CR Mb (lQ (c:=c) (a:=dI a2 4) (o:=rN 1 ((w:Nat):Int) 0 1) (J.d2.2.settle 4) (by omega) (qI _ _ _ (by decide))) ID λvR HR hR=>?_
 obtain⟨hv,hH⟩:=hR;rw[J.d4.2.1]at hv;subst hv;rw[J.d4.1]at hH;subst hH;refine PS ?_;refine nx J10 (CN (qx J9 (sr λ_ J11=>P3 ?_)));refine tp (kR OpT.zero (OpT.mk 2 0 ((w:Nat):Int) 0 n ChangeT.zero 0 0 0) [(0,[Value.int .i64 2]),(1,[Value.int .i64 0]),(2,[Value.int .i64 ((w:Nat):Int)]),(4,[Value.int .i64 n])] e6 hO (g:=OpT.sg)) ?_;refine CR Mb (lQ (c:=c) (a:=a4) (o:=rN 2 0 ((w:Nat):Int) n) J.d4.2.2 (by omega) (qI _ _ _ (by omega))) ID λvR HR hR=>?_
 obtain⟨rfl,hH⟩:=hR;rw[J.d5.1]at hH;subst hH;refine nx J11 (sr λ_ J12=>PS ?_);refine CZ NS (pv c 4 a5 J.d5.2 (by omega) 4 (by decide)) ID λvR=>?_
 refine nx J12 (sr λ_ J13=>P3 ?_);refine AD ?_;refine tp (kR OpT.zero (OpT.mk 1 ((w:Nat):Int) 0 0 (n+1) ChangeT.zero 0 0 0) [(0,[Value.int .i64 1]),(1,[Value.int .i64 ((w:Nat):Int)]),(4,[Value.int .i64 (n+1)])] e6 hO (g:=OpT.sg)) ?_;refine CR Mb (lQ (c:=c) (a:=dI a5 4) (o:=rN 1 ((w:Nat):Int) 0 (n+1)) (J.d5.2.settle 4) (by omega) (qI _ _ _ (by omega))) ID λvR HR hR=>?_
 obtain⟨hv,hH⟩:=hR;rw[J.d7.2.1]at hv;subst hv;rw[J.d7.1]at hH;subst hH;refine PS ?_;refine nx J13 (sr λ_ J14=>P3 ?_);refine tp (kR OpT.zero (OpT.mk 1 ((w:Nat):Int) 0 0 n ChangeT.zero 0 0 0) [(0,[Value.int .i64 1]),(1,[Value.int .i64 ((w:Nat):Int)]),(4,[Value.int .i64 n])] e6 hO (g:=OpT.sg)) ?_;refine CR Mb (lQ (c:=c) (a:=a7) (o:=rN 1 ((w:Nat):Int) 0 n) J.d7.2.2 (by omega) (qI _ _ _ (by omega))) ID λvR HR hR=>?_
 obtain⟨hv,hH⟩:=hR;rw[J.d8.2.1]at hv;subst hv;rw[J.d8.1]at hH;subst hH;refine PS ?_;refine nx J14 (sr λ_ J15=>PS ?_);refine CZ NS (pv c 6 a8 J.d8.2.2 (by omega) 4 (by decide)) ID λvR=>?_
 refine nx J15 (sr λ_ J16=>?_)
 iterate 8 refine PS ?_
 refine P0 (H':=λg:CX=>[el c (dI a8 4) g]) (λ_ s=>IK s) (λg=>CR NR (sd c (dI a8 4) g hup hwf) ID λvR HR hR=>?_);obtain⟨bt,rfl,rfl⟩:=hR;refine CR Mh (lS bt 0 77 (λx=>ints x.flat) qf (se (dI a8 4)) 0) (SM [1]) λvR HR hR=>?_
 obtain⟨hv,rfl⟩:=hR;rw[J.truth]at hv;subst hv
 iterate 5 refine PS ?_
 refine CE DI (jP (c:=c) (g:=g) (i:=w) hup (by omega)) (SM [1]) ?_;refine CR Py (rQ (i:=w) (by omega) (lL hup (by omega)) (vz (mr (dI a8 4) w) (g.d w) (g.r w) 0)) ID λvR HR hR=>?_
 obtain⟨hv,rfl⟩:=hR;rw[J.vw _ (lL hup (by omega))]at hv;subst hv;refine P4 ?_;refine CE DI (jP (c:=c) (g:=g) (i:=2) hup (by decide)) ID ?_;refine CR Py (rQ (i:=2) (by decide) (lL hup (by decide)) (vz (mr (dI a8 4) 2) (g.d 2) (g.r 2) 0)) ID λvR HR hR=>?_
 obtain⟨hv,rfl⟩:=hR;rw[J.v2 _ (lL hup (by decide))]at hv;subst hv;refine P3 ?_;exact nx J16 (ah (WK [] (aw rfl rfl ⟨rfl,rfl⟩)))
theorem wholeJoins_does(n' who:Int):DT 3 #[.int .i64 n', .int .i64 who] T0 [] (RI (.bool true) []):=by
 rcases(show who%2=0∨who%2=1 by omega)with hj|hj
 · exact vZ n' who _ 3 (by omega) (.inl rfl) rfl (by omega)
 · exact vZ n' who _ 4 (by omega) (.inr rfl) rfl (by omega)
end Go.Proofs.YtkhjnolhhidecaaGreatDoor
end
