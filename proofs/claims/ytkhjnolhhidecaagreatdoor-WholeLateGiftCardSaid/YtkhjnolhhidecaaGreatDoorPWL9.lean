/-
  Joined texts:what a statement's proof reaches.
-/
import Derived.Test.YtkhjnolhhidecaaGreatDoorPWL8
set_option maxHeartbeats 8000000
set_option maxRecDepth 100000
set_option linter.unusedSimpArgs false
set_option linter.unusedVariables false
section
namespace Api
open Go Leg Codec Dsk Wal
def KN:Dk Nat:=⟨λe _=>(e+1,0),λ_=>false,λ_=>True,λ_ _ _ _=>trivial⟩
structure RoomE(e:LD)(k:Nat):Prop where
 dn:e.D.dn=false
 ar:e.D.ar=false
 log: ∃ls,LogD e.D ls∧e.cnt=ls.length∧e.used=((fL ls:Nat):Int)∧fL ls≤58*k
theorem RoomE.put{e:LD}{k:Nat}(h:RoomE e k)(hk:k+1≤34){bs:List UInt8}(hb:bs.length≤3000):(e.put bs).2=0∧RoomE (e.put bs).1 (k+1):=by
 obtain⟨ls,hl,hc,hu,hs⟩:=h.log;have hp:=py hb
 have eq:e.put bs=(⟨(mw e.D ls.length ((fL ls:Nat):Int) bs).cnt,(mw e.D ls.length ((fL ls:Nat):Int) bs).used,(mw e.D ls.length ((fL ls:Nat):Int) bs).D⟩,(mw e.D ls.length ((fL ls:Nat):Int) bs).err):=by
  unfold LD.put;rw[hc,hu]
 rcases JM hl h.dn hb with⟨q,_⟩| ⟨_,D',r,l,d,a⟩| ⟨q,_⟩
 · omega
 · rw[eq,r]
   refine⟨rfl,d,a.trans h.ar,ls++[bs],l,by simp,rfl,?_⟩;rw[zG];omega
 · rw[h.ar]at q;cases q
inductive SaidS(n:Int):List SaidT→List SaidT→Prop
 |nil:SaidS n [] []
 |cons {t:Int} {m q:MsgT} {l k:List SaidT}:MsgS n m q→SaidS n l k→SaidS n (⟨t,m⟩::l) (⟨t,q⟩::k)
theorem SaidS.append{n:Int}{l k l' k':List SaidT}(h:SaidS n l k)(g:SaidS n l' k'):SaidS n (l++l') (k++k'):=by
 induction h with
 |nil=>exact g
 |cons m _ ih=>exact .cons m ih
theorem SaidS.map{n:Int}{m q:MsgT}(h:MsgS n m q): ∀l:List Int,SaidS n (l.map λi=>⟨i,m⟩) (l.map λi=>⟨i,q⟩)
 | []=> .nil
 |_::l=> .cons h (SaidS.map h l)
theorem SaidS.oth{n:Int}{m q:MsgT}(h:MsgS n m q)(id:Int)(p:Nat→Bool)(k:Nat):SaidS n (nO id m p k) (nO id q p k):=by
 unfold nO;generalize (List.range k).filter _=l
 induction l with
 |nil=>exact .nil
 |cons i l ih=>exact .cons h ih
structure Rl(n:Int)(s:MS LD)(t:MS Nat):Prop where
 id:s.id=t.id
 view:s.view=t.view
 own:RowS n s.own t.own
 mir: ∀(i:Nat) (_:i<5),RowS n s.mirror.rows[i] t.mirror.rows[i]
 shut:s.mirror.sealed=t.mirror.sealed
 acc:s.acc=t.acc
 round:s.round=t.round
 vote:s.vote=t.vote
 book:BookS n s.book t.book
 busy:s.busy=t.busy
 kept:s.kept=t.kept
 waits:s.waits=t.waits
 ops:s.ops=t.ops
 replies:s.replies=t.replies
 told:s.told=t.told
 last: ∀(i:Nat) (_:i<5),RowS n s.last[i] t.last[i]
 ver:t.own.version≤10* ((t.e:Nat):Int)
 e:RoomE s.e t.e
 o:SaidS n s.o t.o
class Mo(k:Nat)(t:MS Nat):Prop where
 le:k≤t.e
class Sm(n:Int)(s:MS LD)(t:MS Nat):Prop where
 h:t.e≤34→Rl n s t
section
variable {k:Nat} {t:MS Nat}
instance :Mo t.e t:=⟨aK _⟩
instance [h:Mo k t](l:List SaidT):Mo k (iH KN t l):=⟨h.le⟩
instance [h:Mo k t](w:Int)(m:MsgT):Mo k (yO KN t w m):=⟨h.le⟩
instance [h:Mo k t](r:RecT):Mo k (dO KN t r):=⟨Nat.le_succ_of_le h.le⟩
instance [h:Mo k t](a b c:Int):Mo k (du t a b c):=⟨h.le⟩
instance [h:Mo k t]:Mo k (eU KN t):=⟨h.le⟩
instance [h:Mo k t](y:RowT):Mo k (j7 KN t y):=⟨h.le⟩
instance [h:Mo k t](v:ViewT):Mo k (lh KN t v):=⟨h.le⟩
instance [h:Mo k t](m:MsgT):Mo k (iV KN t m):=⟨h.le⟩
instance [h:Mo k t](x:RowT)(op:Int):Mo k (pW t x op):=⟨h.le⟩
instance [h:Mo k t]:Mo k (gR t):=⟨h.le⟩
instance [h:Mo k t]:Mo k (lx t):=⟨h.le⟩
instance [h:Mo k t](f:Int):Mo k (keptM t f):=⟨h.le⟩
instance [h:Mo k t](w:Int)(y:RowT):Mo k (yu t w y):=⟨h.le⟩
instance [h:Mo k t](w:Int)(y:RowT):Mo k (ig t w y):=⟨h.le⟩
instance [h:Mo k t](f w:Int)(y:RowT):Mo k (toldS t f w y):=⟨h.le⟩
instance [h:Mo k t](w:Int):Mo k (k9 t w):=⟨h.le⟩
instance [h:Mo k t](v:ViewT):Mo k (lM t v):=⟨h.le⟩
instance [h:Mo k t](a:Int):Mo k (dA t a):=⟨h.le⟩
instance [h:Mo k t](v:VoteT):Mo k (lc t v):=⟨h.le⟩
instance [h:Mo k t](a:AccT):Mo k (uj t a):=⟨h.le⟩
instance [h:Mo k t]:Mo k (opsS t):=⟨h.le⟩
instance [Mo k t](x:RowT)(op:Int):Mo k (dF KN t x op).1:=by unfold dF;split<;>exact inferInstance
instance [h:Mo k t]:Mo k (lj KN t):=by
 unfold lj
 repeat' split
 all_goals first|exact h|exact inferInstance
instance [h:Mo k t](f:Int)(m:MsgT):Mo k (dq KN t f m):=by
 unfold dq kH
 repeat' split
 all_goals first|exact h|exact inferInstance
instance [h:Mo k t](f:Int)(m:MsgT):Mo k (gG KN t f m):=by
 unfold gG
 repeat' split
 all_goals first|exact h|exact inferInstance
instance [Mo k t](f:Int)(m:MsgT):Mo k (dz KN t f m):=by unfold dz;split<;>exact inferInstance
theorem mn[Mo k t]{f:MS Nat→MS Nat}(hf:Mo k (f t))(w:Int)(m:MsgT):Mo k (kB KN f t w m):=by unfold kB;split;exact hf;exact inferInstance
instance [h:Mo k t](f w:Int):Mo k (ey KN t f w):=by
 unfold ey
 repeat' split
 · exact h
 · exact mn inferInstance _ _
 · exact inferInstance
 · exact mn inferInstance _ _
instance [h:Mo k t](i w:Int):Mo k (gE KN t i w):=by
 unfold gE;split
 · exact h
 · exact mn inferInstance _ _
instance [Mo k t](i:Int):Mo k (l7 KN t i):=by unfold l7;exact inferInstance
theorem Av: ∀(l:List Int) (t:MS Nat),Mo k t→Mo k (gg KN l t)
 | [],_,h=>h
 |i::l,t,_=>Av l (l7 KN t i) inferInstance
instance [h:Mo k t]:Mo k (nX KN t):=Av _ _ h
instance [h:Mo k t](v:ViewT):Mo k (gx KN t v):=by
 unfold gx
 repeat' split
 all_goals first|exact h|exact inferInstance
instance [Mo k t](f:Int)(m:MsgT):Mo k (iG KN t f m):=by unfold iG;exact inferInstance
instance [h:Mo k t](c:ChangeT):Mo k (ja KN t c):=by
 unfold ja
 repeat' split
 all_goals first|exact h|exact inferInstance
instance [h:Mo k t](f:Int)(m:MsgT):Mo k (kj KN f m t):=by
 unfold kj
 repeat' split
 all_goals first|exact h|exact inferInstance
theorem qn[h:Mo k t]{f:MS Nat→MS Nat}(hf: ∀t:MS Nat,Mo k t→Mo k (f t))(w:Int)(m:MsgT):Mo k (eu KN f t w m):=by
 unfold eu
 repeat' split
 · exact inferInstance
 · exact h
 · exact h
 · exact hf _ inferInstance
instance [Mo k t](w:Int)(m:MsgT):Mo k (mR KN t w m):=qn (λ_ _=>inferInstance) w m
instance [Mo k t](w:Int)(m:MsgT):Mo k (jE KN w m t):=by unfold jE;exact mn inferInstance _ _
instance [h:Mo k t](w:Int)(m:MsgT):Mo k (mq KN w m t):=by
 unfold mq
 repeat' split
 all_goals first|exact h|exact inferInstance
instance [Mo k t](w:Int)(m:MsgT):Mo k (nG KN t w m):=qn (λ_ _=>inferInstance) w m
theorem qF[Mo k t]{f:MS Nat→MsgT→MS Nat}{m:MsgT}(hf: ∀t:MS Nat,Mo k t→Mo k (f t m)):Mo k (gX KN f t m):=by
 unfold gX;split
 · exact hf _ inferInstance
 · exact inferInstance
instance [Mo k t](vt:VoteT):Mo k (iI KN t vt):=qF λ_ _=>inferInstance
instance [h:Mo k t](f:Int)(m:MsgT):Mo k (od KN f m t):=by
 unfold od
 repeat' split
 all_goals first|exact h|exact inferInstance
instance [Mo k t](w:Int)(m:MsgT):Mo k (mS KN t w m):=qn (λ_ _=>inferInstance) w m
instance [Mo k t](w:Int)(m:MsgT)(a:AccT):Mo k (jV KN w m a t):=by unfold jV;exact mn inferInstance _ _
instance [h:Mo k t](w:Int)(m:MsgT):Mo k (m8 KN w m t):=by
 unfold m8
 repeat' split
 all_goals first|exact h|exact inferInstance
instance [Mo k t](w:Int)(m:MsgT):Mo k (nH KN t w m):=qn (λ_ _=>inferInstance) w m
instance [Mo k t](vt:VoteT):Mo k (jF KN t vt):=qF λ_ _=>inferInstance
instance [Mo k t](vt:VoteT):Mo k (lH KN t vt):=by unfold lH;split<;>exact inferInstance
instance [Mo k t](c:ChangeT):Mo k (mW KN t c):=by unfold mW;exact inferInstance
instance [h:Mo k t](c:ChangeT):Mo k (bN KN t c).1:=by
 unfold bN
 repeat' split
 all_goals first|exact h|exact inferInstance
instance [Mo k t](op:Int)(c:ChangeT):Mo k (dr KN t op c).1:=by
 unfold dr
 repeat' split
 all_goals exact inferInstance
instance [Mo k t](o:OpT):Mo k (bI KN t o).1:=by
 unfold bI lv
 repeat' split
 all_goals exact inferInstance
instance [h:Mo k t]:Mo k (bO KN t):=by unfold bO;split<;>exact inferInstance
instance [h:Mo k t]:Mo k (ca KN t):=by unfold ca;split;exact inferInstance;exact h
instance [h:Mo k t]:Mo k (fx KN t):=by unfold fx;split;exact inferInstance;exact h
instance [h:Mo k t]:Mo k (pS KN t):=by
 unfold pS
 repeat' split
 all_goals first|exact h|exact inferInstance
instance [h:Mo k t]:Mo k (gS KN t):=by unfold gS;split<;>exact inferInstance
instance [h:Mo k t](f:Int)(m:MsgT):Mo k (fK KN t f m):=by
 unfold fK
 repeat' split
 all_goals first|exact h|exact inferInstance
end
section
variable {n:Int} {s:MS LD} {t:MS Nat}
theorem Sm.of{s':MS LD}{t':MS Nat}(h0:Sm n s t)(m:Mo t.e t')(h:Rl n s t→Sm n s' t'):Sm n s' t':=⟨λhb=>(h (h0.h (jZ m.le hb))).h hb⟩
theorem Rl.sm(h:Rl n s t):Sm n s t:=⟨λ_=>h⟩
theorem Rl.mirRow(h:Rl n s t)(w:Int):RowS n (mirRow s.mirror w) (mirRow t.mirror w):=by unfold Api.mirRow;split;exact h.mir _ _;exact .zero
theorem Rl.lastAt(h:Rl n s t)(w:Int):RowS n (lastAt s w) (lastAt t w):=by unfold Api.lastAt;split;exact h.last _ _;exact .zero
theorem Rl.sealed'(h:Rl n s t)(w:Int):fb s.mirror w=fb t.mirror w:=by unfold fb;rw[h.shut]
theorem Rl.tells(h:Rl n s t)(i w:Int):qu s i w=qu t i w:=by unfold qu kq;rw[h.told]
theorem Rl.due(h:Rl n s t):bF s=bF t:=by
 unfold bF iu BE;rw[h.view,h.id];congr 1;refine List.filter_congr λi _=>?_
 rw[h.own.heirAt]
theorem Rl.toldAll(h:Rl n s t):toldAll s=toldAll t:=by
 unfold Api.toldAll;rw[h.due];congr 1
 funext i
 congr 1
 funext w
 exact h.tells i w
theorem Rl.say(h:Rl n s t){l k:List SaidT}(hl:SaidS n l k):Rl n (iH KD s l) (iH KN t k):=
 {h with
  o:=by
   show SaidS n (if KD.dn s.e=true then s.o else s.o++l) (if KN.dn t.e=true then t.o else t.o++k);rw[if_neg (show ¬KD.dn s.e=true by rw[show KD.dn s.e=s.e.D.dn from rfl,h.e.dn];decide),if_neg (show ¬KN.dn t.e=true by show ¬(false=true);decide)]
   exact h.o.append hl}
theorem xe(g:Sm n s t){l k:List SaidT}(hl:Rl n s t→SaidS n l k):Sm n (iH KD s l) (iH KN t k):=⟨λhb=>(g.h hb).say (hl (g.h hb))⟩
theorem wG(g:Sm n s t)(w:Int){m q:MsgT}(hm:Rl n s t→MsgS n m q):Sm n (yO KD s w m) (yO KN t w q):=xe g λr=> .cons (hm r) .nil
theorem wF(g:Sm n s t){f:MS LD→MS LD}{f':MS Nat→MS Nat}(hf:Sm n (f s) (f' t))(mo:Mo t.e (f' t))(w:Int){m q:MsgT}(hm:Rl n s t→MsgS n m q):Sm n (kB KD f s w m) (kB KN f' t w q):=g.of (mn mo w q) λr=>by
 unfold kB;rw[r.id];split
 · exact hf
 · exact wG g w hm
theorem Rl.putR(h:Rl n s t)(hb:t.e+1≤34)(r r':RecT):Rl n (dO KD s r) (dO KN t r')∧mx KD s r=0:=by
 obtain⟨a,b⟩:=h.e.put hb (yh r);exact⟨{h with e:=b,ver:=by show t.own.version≤10* (((t.e+1:Nat)):Int);have:=h.ver;omega},a⟩
theorem xg(g:Sm n s t)(r r':RecT){A B:MS LD}{A' B':MS Nat}(mo:Mo (t.e+1) B')(h:Sm n (dO KD s r) (dO KN t r')→Sm n B B'):Sm n (if mx KD s r≠0 then A else B) (if mx KN t r'≠0 then A' else B'):=⟨λhb=>by
 rw[if_neg (show ¬mx KN t r'≠0 from λz=>z rfl)]at hb ⊢;have hb2:t.e+1≤34:=jZ mo.le hb;obtain⟨a,b⟩:=(g.h (by omega)).putR hb2 r r';rw[if_neg (λz=>z b)]
 exact(h a.sm).h hb⟩
instance (r:RecT):Mo (t.e+1) (dO KN t r):=⟨aK _⟩
theorem tn(g:Sm n s t){a a' b b' c c':Int}(e:Rl n s t→a=a'∧b=b'∧c=c'):Sm n (du s a b c) (du t a' b' c'):=⟨λhb=>by
 have h:=g.h hb;obtain⟨rfl,rfl,rfl⟩:=e h
 exact {h with replies:=by show s.replies++_=t.replies++_;rw[h.replies]}⟩
theorem Rl.tellRow[Nn n](h:Rl n s t):SaidS n (ou (s.rep .nil)) (ou (t.rep .nil)):=by
 unfold ou
 have e:(λw:Int=>vj (s.rep .nil).kept w)= λw=>vj (t.rep .nil).kept w:=by
  funext w
  show vj s.kept w=vj t.kept w;rw[h.kept]
 rw[show(s.rep .nil).id=(t.rep .nil).id from h.id,e];refine SaidS.map ?_ _;show MsgS n {MsgT.zero with kind:=0,whose:=s.id,row:=s.own} {MsgT.zero with kind:=0,whose:=t.id,row:=t.own};rw[h.id];exact .row _ h.own
theorem xd[Nn n](g:Sm n s t):Sm n (eU KD s) (eU KN t):=xe g λr=>r.tellRow
theorem Gy(g:Sm n s t){x y:RowT}(hx:Rl n s t→RowS n x y):Sm n (j7 KD s x) (j7 KN t y):=xe g λr=>by
 rw[r.id];exact SaidS.oth (.news _ (hx r)) _ _ _
theorem Gv(g:Sm n s t)(v:ViewT):Sm n (lh KD s v) (lh KN t v):=xe g λr=>by
 rw[r.id];exact SaidS.oth (.view v) _ _ _
theorem Gz[Nn n](g:Sm n s t){x y:RowT}(hx:Rl n s t→t.e+1≤34→RowS n x y∧y.version≤t.own.version+5)(op op':Int)(ho:Rl n s t→op=op'):Sm n (dF KD s x op).1 (dF KN t y op').1∧(Rl n s t→t.e+1≤34→(dF KD s x op).2=0):=by
 have key:Rl n s t→t.e+1≤34→Rl n (pW (dO KD s (gW x)) x op) (pW (dO KN t (gW y)) y op')∧mx KD s (gW x)=0:=λr hb=>by
  obtain⟨h1,h2⟩:=hx r hb;obtain⟨a,b⟩:=r.putR hb (gW x) (gW y);refine⟨{a with own:=h1,busy:=rfl,kept:=rfl,waits:=ho r,ver:=?_},b⟩;show y.version≤10* (((t.e+1:Nat)):Int);have:=r.ver;omega
 have eN:dF KN t y op'=(eU KN (pW (dO KN t (gW y)) y op'),0):=by unfold dF;rw[if_neg (show ¬mx KN t (gW y)≠0 from λz=>z rfl)]
 refine⟨⟨λhb=>?_⟩,λr hb=>?_⟩
 · rw[eN]at hb ⊢
   have hb:t.e+1≤34:=hb;have r:=g.h (by omega);obtain⟨a,b⟩:=key r hb;unfold dF;rw[if_neg (λz=>z b)];exact(xd a.sm).h hb
 · unfold dF
   rw[if_neg (λz=>z (key r hb).2)]
theorem Ku[Nn n](r:Rl n s t)(hb:t.e≤33):RowS n (mV s (bF t)) (mV t (bF t))∧(mV t (bF t)).version≤t.own.version+5:=by
 have hl:(bF t).length≤5:=Aq t 5;have hm: ∀i∈bF t,cJ i=true:=λi hi=>(tZ hi).1
 have hv:=r.ver;have h0:=r.own.vb;unfold mV
 have: ∀(l:List Int) (x y:RowT),RowS n x y→y.version+((l.length:Nat):Int)≤390→RowS n (l.foldl (λx i=>if 0<heirAt x i then x else(cL x i (lastAt s i)).1) x) (l.foldl (λx i=>if 0<heirAt x i then x else(cL x i (lastAt t i)).1) y)∧(l.foldl (λx i=>if 0<heirAt x i then x else(cL x i (lastAt t i)).1) y).version≤max y.version 0+((l.length:Nat):Int):=λl=>by
  induction l with
  |nil=>intro x y h _;exact⟨h,by simp only[List.foldl_nil,az];omega⟩
  |cons i l ih=>
   intro x y h hy;simp only[av]at hy ⊢;rw[List.foldl_cons,List.foldl_cons,h.heirAt];have hy0:=h.vb
   by_cases q:0<heirAt y i
   · rw[if_pos q,if_pos q]
     obtain⟨a,b⟩:=ih x y h (by omega);exact⟨a,by omega⟩
   · rw[if_neg q,if_neg q]
     have g:=h.inherit (r.lastAt i) i (by omega)
     have gv:(cL y i (lastAt t i)).1.version≤y.version+1:=by
      unfold cL;rw[if_neg q];split
      · show(0:Int)≤_;omega
      · obtain⟨a,b⟩:=h.inhTo (r.lastAt i) i 5
        show fw ((inhTo y i (lastAt t i) 5).version+1)≤_;rw[b,ly (by omega) (by omega)];exact Int.le_refl _
     obtain⟨a,b⟩:=ih _ _ g (by omega);exact⟨a,by omega⟩
 obtain⟨a,b⟩:=this (bF t) s.own t.own r.own (by omega);exact⟨a,by omega⟩
theorem wH[Nn n](g:Sm n s t):Sm n (lj KD s) (lj KN t):=g.of inferInstance λr=>by
 unfold lj;rw[r.busy,r.due,r.toldAll];split
 · exact g
 split
 · exact(Gz g (λr hb=>Ku r (by omega)) 0 0 λ_=>rfl).1
 · exact g
theorem Rl.bookM[Nn n](h:Rl n s t)(w:Int){x y:RowT}(hx:RowS n x y):Rl n (yu s w x) (yu t w y):= {h with book:=h.book.merge w hx}
theorem Rl.count[Nn n](h:Rl n s t):Rl n (gR s) (gR t):= {h with
 busy:=rfl
 book:=by
  show BookS n (dC s.book s.id s.own).1 (dC t.book t.id t.own).1;rw[h.id]
  exact h.book.merge _ h.own}
theorem Rl.wait(h:Rl n s t):Rl n (lx s) (lx t):= {h with
 replies:=by
  show(if 0<s.waits then s.replies++[⟨s.waits,0,0⟩]else s.replies)=(if 0<t.waits then t.replies++[⟨t.waits,0,0⟩]else t.replies);rw[h.waits,h.replies]
 waits:=by
  show(if 0<s.waits then 0 else s.waits)=(if 0<t.waits then 0 else t.waits)
  rw[h.waits]}
theorem Rl.keptM(h:Rl n s t)(f:Int):Rl n (keptM s f) (keptM t f):= {h with
 kept:=by
  show iN .i64 s.kept (cX f)=iN .i64 t.kept (cX f)
  rw[h.kept]}
theorem LQ[Nn n](g:Sm n s t)(f:Int){m q:MsgT}(hm:MsgF n m q):Sm n (dq KD s f m) (dq KN t f q):=g.of inferInstance λr=>by
 unfold dq;have e1:ku s f m.version=ku t f q.version:=by unfold ku;rw[r.busy,hm.version,r.own.ver,r.id]
 have e2:rP (keptM s f)=rP (keptM t f):=by
  unfold rP;rw[show(keptM s f).id=(keptM t f).id from r.id,(r.keptM f).kept]
 rw[e1,e2];split
 · split
   · have a:=(r.keptM f).count.wait
     unfold kH;refine wH (Gy a.sm λ_=>?_);exact r.own
   · exact(r.keptM f).sm
 · exact g
theorem Rl.mirror[Nn n](h:Rl n s t)(w:Int){x y:RowT}(hx:RowS n x y)(e:iK s.mirror w x=iK t.mirror w y):Rl n (ig s w x) (ig t w y):= {h with
 mir:=by
  show ∀(i:Nat) (_:i<5),RowS n (iC s.mirror w x).1.rows[i] (iC t.mirror w y).1.rows[i];unfold iC;rw[e];split
  · unfold sw
    split
    · rename_i hw
      intro i hi;show RowS n (s.mirror.rows.set w.toNat x (c8 hw))[i] (t.mirror.rows.set w.toNat y (c8 hw))[i];simp only[Vector.getElem_set];split
      · exact hx
      · exact h.mir i hi
    · exact h.mir
  · exact h.mir
 shut:=by
  show(iC s.mirror w x).1.sealed=(iC t.mirror w y).1.sealed
  have k: ∀(m:MirT) (z:RowT),(iC m w z).1.sealed=m.sealed:=λm z=>by
   unfold iC;split
   · show(sw m w z).sealed=_
     unfold sw;split<;>rfl
   · rfl
  rw[k,k];exact h.shut}
theorem Rl.takes[Nn n](h:Rl n s t)(w:Int){x y:RowT}(hx:RowS n x y):iK s.mirror w x=iK t.mirror w y:=by
 unfold iK;rw[h.sealed',hx.right.1,hx.right.2,hx.ver,(h.mirRow w).ver]
theorem Ny[Nn n](g:Sm n s t)(f:Int){m q:MsgT}(hm:MsgF n m q):Sm n (gG KD s f m) (gG KN t f q):=g.of inferInstance λr=>by
 unfold gG;rw[hm.whose,r.sealed',r.takes q.whose hm.row];split
 · exact g
 split
 · refine xg g _ _ inferInstance λa=>?_
   refine a.of inferInstance λra=>?_
   have b:=ra.mirror q.whose hm.row (ra.takes q.whose hm.row);refine wG b.sm f λrb=>?_
   rw[(rb.mirRow q.whose).ver];exact .kept _
 · refine wG g f λ_=>?_
   rw[(r.mirRow q.whose).ver];exact .kept _
theorem Rl.toldS(h:Rl n s t)(f w:Int){x y:RowT}(hx:RowS n x y):Rl n (toldS s f w x) (toldS t f w y):= {h with
 told:=by
  show uF s.told w (iN .i64 (kq s w) (cX f))=uF t.told w (iN .i64 (kq t w) (cX f));unfold kq;rw[h.told]
 last:=by
  show ∀(i:Nat) (_:i<5),RowS n (if kq s w=0∨(Api.lastAt s w).version<x.version then uF s.last w x else s.last)[i] (if kq t w=0∨(Api.lastAt t w).version<y.version then uF t.last w y else t.last)[i];rw[show kq s w=kq t w by unfold kq;rw[h.told],(h.lastAt w).ver,hx.ver];split
  · unfold uF
    split
    · intro i hi
      simp only[Vector.getElem_set];split
      · exact hx
      · exact h.last i hi
    · exact h.last
  · exact h.last}
theorem zD[Nn n](g:Sm n s t)(f:Int){m q:MsgT}(hm:Rl n s t→MsgF n m q):Sm n (dz KD s f m) (dz KN t f q):=g.of inferInstance λr=>by
 unfold dz;rw[(hm r).whose];split
 · exact wH (r.toldS f q.whose (hm r).row).sm
 · exact wH g
theorem Rl.close(h:Rl n s t)(w:Int):Rl n (k9 s w) (k9 t w):= {h with
 mir:=by
  show ∀(i:Nat) (_:i<5),RowS n (jh s.mirror w).rows[i] (jh t.mirror w).rows[i];unfold jh;split<;>exact h.mir
 shut:=by
  show(jh s.mirror w).sealed=(jh t.mirror w).sealed;unfold jh;split
  · rename_i hw
    show s.mirror.sealed.set w.toNat true (c8 hw)=t.mirror.sealed.set w.toNat true (c8 hw);rw[h.shut]
  · exact h.shut}
theorem GA[Nn n](g:Sm n s t)(f w:Int):Sm n (kB KD (λs=>dz KD s s.id (eT w (mirRow s.mirror w))) s f (eT w (mirRow s.mirror w))) (kB KN (λs=>dz KN s s.id (eT w (mirRow s.mirror w))) t f (eT w (mirRow t.mirror w))):=by
 refine wF g ?_ inferInstance f λr=> .sealed' _ (r.mirRow w)
 refine g.of inferInstance λr=>?_
 show Sm n (dz KD s s.id (eT w (mirRow s.mirror w))) (dz KN t t.id (eT w (mirRow t.mirror w)));rw[r.id];exact zD g _ λr=>(MsgS.sealed' _ (r.mirRow w)).f
theorem Gw[Nn n](g:Sm n s t){f f':Int}(ef:Rl n s t→f=f')(w:Int):Sm n (ey KD s f w) (ey KN t f' w):=g.of inferInstance λr=>by
 obtain rfl:=ef r;unfold ey;simp only;rw[r.view,r.sealed'];split
 · exact g
 split
 · exact GA g f w
 · refine xg g _ _ (mn inferInstance _ _) λa=>?_
   refine a.of (mn inferInstance _ _) λra=>?_
   exact GA (ra.close w).sm f w
theorem zE[Nn n](g:Sm n s t)(i w:Int):Sm n (gE KD s i w) (gE KN t i w):=g.of inferInstance λr=>by
 unfold gE;rw[r.tells,r.view];split
 · exact g
 · exact wF g (Gw g (λr=>r.id) i) inferInstance w λ_=> .seal' _ _
theorem Hz[Nn n](g:Sm n s t)(i:Int):Sm n (l7 KD s i) (l7 KN t i):=zE (zE g _ _) _ _
theorem zF[Nn n]: ∀(l:List Int) {s:MS LD} {t:MS Nat},Sm n s t→Sm n (gg KD l s) (gg KN l t)
 | [],_,_,g=>g
 |i::l,_,_,g=>zF l (Hz g i)
theorem CO[Nn n](g:Sm n s t):Sm n (nX KD s) (nX KN t):=g.of inferInstance λr=>by
 unfold nX;rw[r.due];exact zF _ g
theorem Rl.enter(h:Rl n s t)(v:ViewT):Rl n (lM s v) (lM t v):= {h with view:=rfl,acc:=rfl,vote:=rfl,round:=rfl}
theorem tt[Nn n](g:Sm n s t)(v:ViewT):Sm n (gx KD s v) (gx KN t v):=g.of inferInstance λr=>by
 unfold gx;rw[r.view];split
 · exact g
 · refine xg g _ _ inferInstance λa=>a.of inferInstance λra=>?_
   exact CO (ra.enter v).sm
theorem CD[Nn n](g:Sm n s t)(f:Int){m q:MsgT}(hm:MsgF n m q):Sm n (iG KD s f m) (iG KN t f q):=by
 unfold iG;rw[hm.view,hm.whose];exact Gw (tt g _) (λ_=>rfl) _
theorem Is(r:Rl n s t)(hb:t.e+1≤34)(v:ViewT):iW KD s v=iW KN t v:=by
 unfold iW;rw[r.view,(r.putR hb (j5 v) (j5 v)).2];rfl
theorem HA[Nn n](g:Sm n s t)(c:ChangeT):Sm n (ja KD s c) (ja KN t c):=g.of inferInstance λr=>by
 unfold ja;rw[r.view];split
 · exact g
 · by_cases le:(dI t.view c).1.epoch≤t.view.epoch
   · have e1:iW KD s (dI t.view c).1=false:=by unfold iW;rw[r.view,decide_eq_false (by omega)];rfl
     have e2:iW KN t (dI t.view c).1=false:=by unfold iW;rw[decide_eq_false (by omega)];rfl
     rw[e1,e2,if_neg (by decide),if_neg (by decide)];exact tt g _
   · have e2:iW KN t (dI t.view c).1=true:=by unfold iW;rw[decide_eq_true (by omega)];rfl
     rw[e2,if_pos rfl]
     have mo:Mo (t.e+1) (gx KN t (dI t.view c).1):=by
      unfold gx;rw[if_neg le,if_neg (show ¬mx KN t (j5 (dI t.view c).1)≠0 from λz=>z rfl)];exact inferInstance
     refine⟨λhb=>?_⟩;have hb2:t.e+1≤34:=jZ mo.le hb;rw[Is r hb2,e2,if_pos rfl];exact(Gv (tt g _) _).h hb
theorem Rl.round'(h:Rl n s t)(a:Int):Rl n (dA s a) (dA t a):= {h with round:=rfl}
theorem Rl.voted(h:Rl n s t)(v:VoteT):Rl n (lc s v) (lc t v):= {h with vote:=rfl}
theorem Rl.acc'(h:Rl n s t)(a:AccT):Rl n (uj s a) (uj t a):= {h with acc:=rfl}
theorem wE[Nn n](g:Sm n s t){f:MS LD→MS LD}{f':MS Nat→MS Nat}(hf: ∀(s:MS LD) (t:MS Nat),Sm n s t→Sm n (f s) (f' t))(mo: ∀(k:Nat) (t:MS Nat),Mo k t→Mo k (f' t))(w:Int){m q:MsgT}(hm:MsgF n m q):Sm n (eu KD f s w m) (eu KN f' t w q):=g.of (qn (mo _) w q) λr=>by
 unfold eu;rw[hm.epoch,hm.kind,hm.ballot,r.view,r.id,r.round];split
 · split
   · exact wG g w λ_=> .view _
   · exact g
 split
 · exact g
 · exact hf _ _ (r.round' _).sm
theorem LM[Nn n](g:Sm n s t)(f:Int){m q:MsgT}(hm:MsgF n m q):Sm n (kj KD f m s) (kj KN f q t):=g.of inferInstance λr=>by
 unfold kj;rw[r.vote,hm.ballot];split
 · exact g
 · split
   · exact HA (r.voted _).sm _
   · exact(r.voted _).sm
theorem CG[Nn n](g:Sm n s t)(w:Int){m q:MsgT}(hm:MsgF n m q):Sm n (mR KD s w m) (mR KN t w q):=wE g (λ_ _ g=>LM g w hm) (λ_ _ _=>inferInstance) w hm
theorem xf[Nn n](g:Sm n s t)(w:Int){m q:MsgT}(hm:MsgF n m q):Sm n (jE KD w m s) (jE KN w q t):=by
 unfold jE;rw[hm.epoch,hm.ballot];refine wF g ?_ inferInstance w λ_=> .taken _ _
 refine g.of inferInstance λr=>?_
 show Sm n (mR KD s s.id _) (mR KN t t.id _);rw[r.id];exact CG g _ (MsgS.taken _ _).f
theorem LP[Nn n](g:Sm n s t)(w:Int){m q:MsgT}(hm:MsgF n m q):Sm n (mq KD w m s) (mq KN w q t):=g.of inferInstance λr=>by
 unfold mq;rw[r.view,hm.change,r.acc,hm.epoch,hm.ballot];split
 · exact g
 split
 · exact g
 split
 · refine xg g _ _ inferInstance λa=>a.of inferInstance λra=>?_
   exact xf (ra.acc' _).sm w hm
 · exact xf g w hm
theorem CH[Nn n](g:Sm n s t)(w:Int){m q:MsgT}(hm:MsgF n m q):Sm n (nG KD s w m) (nG KN t w q):=wE g (λ_ _ g=>LP g w hm) (λ_ _ _=>inferInstance) w hm
theorem CM(g:Sm n s t){m q:MsgT}(hm:MsgS n m q):Sm n (iV KD s m) (iV KN t q):=xe g λr=>by
 rw[r.id,r.view];exact SaidS.oth hm _ _ _
theorem Gx[Nn n](g:Sm n s t){f:MS LD→MsgT→MS LD}{f':MS Nat→MsgT→MS Nat}{m q:MsgT}(hm:MsgS n m q)(hf: ∀(s:MS LD) (t:MS Nat),Sm n s t→Sm n (f s m) (f' t q))(mo: ∀(k:Nat) (t:MS Nat),Mo k t→Mo k (f' t q)):Sm n (gX KD f s m) (gX KN f' t q):=g.of (qF (mo _)) λr=>by
 unfold gX;rw[r.view,r.id];split
 · exact hf _ _ (CM g hm)
 · exact CM g hm
theorem xh[Nn n](g:Sm n s t)(vt:VoteT):Sm n (iI KD s vt) (iI KN t vt):=g.of inferInstance λr=>by
 unfold iI;rw[r.view];refine Gx g (.put _ _ _) (λs t g=>g.of inferInstance λr=>?_) λ_ _ _=>inferInstance
 show Sm n (nG KD s s.id _) (nG KN t t.id _);rw[r.id];exact CH g _ (MsgS.put _ _ _).f
theorem Nx[Nn n](g:Sm n s t)(f:Int){m q:MsgT}(hm:MsgF n m q):Sm n (od KD f m s) (od KN f q t):=g.of inferInstance λr=>by
 unfold od;rw[r.vote,hm.ballot,hm.had,hm.change];split
 · exact g
 · split
   · exact xh (r.voted _).sm _
   · exact(r.voted _).sm
theorem CI[Nn n](g:Sm n s t)(w:Int){m q:MsgT}(hm:MsgF n m q):Sm n (mS KD s w m) (mS KN t w q):=wE g (λ_ _ g=>Nx g w hm) (λ_ _ _=>inferInstance) w hm
theorem xi[Nn n](g:Sm n s t)(w:Int){m q:MsgT}(hm:MsgF n m q)(a:AccT):Sm n (jV KD w m a s) (jV KN w q a t):=by
 unfold jV;rw[hm.epoch,hm.ballot];refine wF g ?_ inferInstance w λ_=> .prom _ _ _ _
 refine g.of inferInstance λr=>?_
 show Sm n (mS KD s s.id _) (mS KN t t.id _);rw[r.id];exact CI g _ (MsgS.prom _ _ _ _).f
theorem LS[Nn n](g:Sm n s t)(w:Int){m q:MsgT}(hm:MsgF n m q):Sm n (m8 KD w m s) (m8 KN w q t):=g.of inferInstance λr=>by
 unfold m8;rw[r.acc,hm.epoch,hm.ballot];split
 · exact g
 split
 · refine xg g _ _ inferInstance λa=>a.of inferInstance λra=>?_
   exact xi (ra.acc' _).sm w hm _
 · exact xi g w hm _
theorem CJ[Nn n](g:Sm n s t)(w:Int){m q:MsgT}(hm:MsgF n m q):Sm n (nH KD s w m) (nH KN t w q):=wE g (λ_ _ g=>LS g w hm) (λ_ _ _=>inferInstance) w hm
theorem E7[Nn n](g:Sm n s t)(vt:VoteT):Sm n (jF KD s vt) (jF KN t vt):=g.of inferInstance λr=>by
 unfold jF;rw[r.view];refine Gx g (.ask _ _) (λs t g=>g.of inferInstance λr=>?_) λ_ _ _=>inferInstance
 show Sm n (nH KD s s.id _) (nH KN t t.id _);rw[r.id];exact CJ g _ (MsgS.ask _ _).f
theorem CK[Nn n](g:Sm n s t)(vt:VoteT):Sm n (lH KD s vt) (lH KN t vt):=by
 unfold lH;split
 · exact xh g vt
 · exact E7 g vt
theorem CS[Nn n](g:Sm n s t)(c:ChangeT):Sm n (bN KD s c).1 (bN KN t c).1∧(Rl n s t→(bN KN t c).1.e≤34→(bN KD s c).2=(bN KN t c).2):=by
 have tr:Rl n s t→cZ s=cZ t:=λr=>by unfold cZ;rw[r.round,r.id]
 constructor
 · refine g.of inferInstance λr=>?_
   unfold bN;rw[r.acc,r.view,tr r]
   by_cases q:(cb t.acc t.view.epoch (cZ t)).2=false
   · rw[if_pos q,if_pos q];exact g
   · rw[if_neg q,if_neg q,if_neg (show ¬mx KN t (fX t.view.epoch (cZ t))≠0 from λz=>z rfl)]
     refine⟨λhb=>?_⟩;have hb2:t.e+1≤34:=hb;obtain⟨a,b⟩:=r.putR hb2 (fX t.view.epoch (cZ t)) (fX t.view.epoch (cZ t));rw[if_neg (λz=>z b)];show Rl n (mW KD s c) (mW KN t c);unfold mW;rw[tr r,r.view,r.acc];exact((a.acc' _).round' _).voted _
 · intro r hb
   unfold bN at hb ⊢;rw[r.acc,r.view,tr r]
   by_cases q:(cb t.acc t.view.epoch (cZ t)).2=false
   · rw[if_pos q,if_pos q]
   · rw[if_neg q,if_neg (show ¬mx KN t (fX t.view.epoch (cZ t))≠0 from λz=>z rfl)]at hb
     have hb2:t.e+1≤34:=hb;rw[if_neg q,if_neg q,if_neg (show ¬mx KN t (fX t.view.epoch (cZ t))≠0 from λz=>z rfl),if_neg (λz=>z (r.putR hb2 (fX t.view.epoch (cZ t)) (fX t.view.epoch (cZ t))).2)]
end
variable {key:Nat}
variable {s:MS LD}
theorem Fv(i:Nat):pC i=Slot.mk (dY i DS.new).1 (bY DS.new).D []:=by
 show(jC i .nil).1=_;unfold jC;show Slot.mk (dY i DS.new).1 _ _=_;rfl
theorem NZ(A:Option (MS LD))(B:DS)(C:List ReplyT):(Slot.mk A B C).run=A∧(Slot.mk A B C).D=B:=⟨rfl,rfl⟩
theorem Fw{i:Nat}(hi:i<5):(CL.new.at' i).run=(dY i DS.new).1∧(CL.new.at' i).D=(bY DS.new).D:=by
 have e:CL.new.at' i=pC i:=by simp[CL.new,CL.at',List.getD_eq_getElem?_getD,hi]
 rw[e,Fv];exact NZ _ _ _
end Api
end

section
namespace Api
open Go Leg Codec Dsk Wal
section
variable {n:Int} {s:MS LD} {t:MS Nat}
structure OpS(n:Int)(o o':OpT):Prop where
 kind:o.kind=o'.kind
 at':o.at'=o'.at'
 to':o.to'=o'.to'
 key:o.key=o'.key
 change:o.change=o'.change
 n:NumS n o.n o'.n
def KR(lo:Int)(t:MS Nat)(o:OpT):Bool:=Kx t.own o&&Oa lo (fl t.book t.id o.key-o.n)&& !decide (o.kind=3)
theorem Rl.opsS(h:Rl n s t):Rl n (opsS s) (opsS t):= {h with
 ops:=by
  show fw (s.ops+1)=fw (t.ops+1)
  rw[h.ops]}
theorem NE[Nn n](r:Rl n s t){lo:Int}(hl:lo≤n){o o':OpT}(ho:OpS n o o')(hc:KR lo t o'=true):(cF s o).2.2=(cF t o').2.2∧(cF s o).2.1=(cF t o').2.1∧((cF t o').2.2=0→RowS n (cF s o).1 (cF t o').1∧(cF t o').1.version=t.own.version+1):=by
 unfold KR at hc;rw[ao,ao]at hc;obtain⟨⟨g1,g2⟩,g3⟩:=hc;have k3: ¬o'.kind=3:=by simpa using g3
 have gr:=Kw (s:=s.rep .nil) (t:=t.rep .nil) r.own r.id ho.kind ho.key ho.to' ho.n g1;have rt:=r.book.rights t.id o'.key;have cp:(fl s.book t.id o'.key-o.n<0↔fl t.book t.id o'.key-o'.n<0):=(rt.sub ho.n.lin).cmp (by decide) hl g2;unfold cF kD;show _=_∧_=_∧_;rw[show(s.rep .nil).view=(t.rep .nil).view from r.view,show(s.rep .nil).id=(t.rep .nil).id from r.id,show(s.rep .nil).busy=(t.rep .nil).busy from r.busy,ho.key,ho.kind]
 by_cases z1:jp (t.rep .nil).view (t.rep .nil).id=false
 · rw[if_pos z1,if_pos z1];exact⟨rfl,rfl,λe=>absurd e (by decide)⟩
 rw[if_neg z1,if_neg z1]
 by_cases z2:nh o'.key=false
 · rw[if_pos z2,if_pos z2];exact⟨rfl,rfl,λe=>absurd e (by decide)⟩
 rw[if_neg z2,if_neg z2,if_neg k3,if_neg k3]
 by_cases z3:(t.rep .nil).busy=true
 · rw[if_pos z3,if_pos z3];exact⟨rfl,rfl,λe=>absurd e (by decide)⟩
 rw[if_neg z3,if_neg z3,gr.1]
 by_cases z4:(fR (t.rep .nil) o').2≠0
 · rw[if_pos z4,if_pos z4];exact⟨rfl,rfl,λe=>absurd e z4⟩
 rw[if_neg z4,if_neg z4]
 have e5:(o'.kind≠0∧fl (s.rep .nil).book (t.rep .nil).id o'.key<o.n)↔(o'.kind≠0∧fl (t.rep .nil).book (t.rep .nil).id o'.key<o'.n):=by
  show(_∧fl s.book t.id o'.key<o.n)↔(_∧fl t.book t.id o'.key<o'.n);constructor
  · rintro ⟨a,b⟩;exact⟨a,by omega⟩
  · rintro ⟨a,b⟩;exact⟨a,by omega⟩
 by_cases z5:o'.kind≠0∧fl (t.rep .nil).book (t.rep .nil).id o'.key<o'.n
 · rw[if_pos z5,if_pos (e5.2 z5)];exact⟨rfl,rfl,λe=>absurd e (by decide)⟩
 · rw[if_neg z5,if_neg (λq=>z5 (e5.1 q))]
   exact⟨rfl,rfl,λ_=>gr.2 (Decidable.not_not.1 z4)⟩
theorem IS(r:Rl n s t)(c:ChangeT):fp s c=fp t c:=by unfold fp;rw[r.view,r.vote]
theorem HB[Nn n](r:Rl n s t)(op:Int)(c:ChangeT):Sm n (dr KD s op c).1 (dr KN t op c).1∧((dr KN t op c).1.e≤34→(dr KD s op c).2=(dr KN t op c).2):=by
 obtain⟨b1,b2⟩:=CS r.sm c;have ce:=IS r c;have tr:cZ s=cZ t:=by unfold cZ;rw[r.round,r.id]
 unfold dr;rw[ce]
 by_cases z1:fp t c≠0
 · rw[if_pos z1,if_pos z1]
   exact⟨tn r.sm λ_=>⟨rfl,rfl,rfl⟩,λ_=>rfl⟩
 rw[if_neg z1,if_neg z1]
 have bd:(if(bN KN t c).2≠0 then(du (bN KN t c).1 op (bN KN t c).2 0,(bN KN t c).2)else(lH KN (du (bN KN t c).1 op 0 0) (jr t.view (cZ t) c),(0:Int))).1.e≤34→(bN KN t c).1.e≤34:=λh=>by
  refine jZ (Mo.le (k:=(bN KN t c).1.e) (t:=(if(bN KN t c).2≠0 then(du (bN KN t c).1 op (bN KN t c).2 0,(bN KN t c).2)else(lH KN (du (bN KN t c).1 op 0 0) (jr t.view (cZ t) c),(0:Int))).1) (self:=?_)) h;split<;>exact inferInstance
 refine⟨⟨λhb=>?_⟩,λhb=>?_⟩
 · have e:=b2 r (bd hb)
   rw[e]
   by_cases z2:(bN KN t c).2≠0
   · rw[if_pos z2]at hb ⊢
     rw[if_pos z2];exact(tn b1 λ_=>⟨rfl,rfl,rfl⟩).h hb
   · rw[if_neg z2]at hb ⊢
     rw[if_neg z2,tr,r.view];exact(CK (tn b1 λ_=>⟨rfl,rfl,rfl⟩) _).h hb
 · have e:=b2 r (bd hb)
   rw[e]
   by_cases z2:(bN KN t c).2≠0
   · rw[if_pos z2,if_pos z2]
   · rw[if_neg z2,if_neg z2]
theorem LL[Nn n](r:Rl n s t){lo:Int}(hl:lo≤n){o o':OpT}(ho:OpS n o o')(hc:KR lo t o'=true):Sm n (lv KD s o).1 (lv KN t o').1∧((lv KN t o').1.e≤34→(lv KD s o).2=(lv KN t o').2):=by
 obtain⟨p1,p2,p3⟩:=NE r hl ho hc;unfold lv;rw[p1,p2,ho.kind,r.ops]
 by_cases z1:(cF t o').2.2≠0∨o'.kind=3
 · rw[if_pos z1,if_pos z1]
   exact⟨tn r.sm λ_=>⟨rfl,rfl,rfl⟩,λ_=>rfl⟩
 rw[if_neg z1,if_neg z1];obtain⟨q1,q2⟩:=p3 (Decidable.not_not.1 λz=>z1 (.inl z));obtain⟨g1,g2⟩:=Gz r.sm (x:=(cF s o).1) (y:=(cF t o').1) (λ_ _=>⟨q1,by omega⟩) t.ops t.ops λ_=>rfl
 have eN:(dF KN t (cF t o').1 t.ops).2=0:=by unfold dF;rw[if_neg (show ¬mx KN t (gW (cF t o').1)≠0 from λz=>z rfl)]
 rw[if_neg (show ¬(dF KN t (cF t o').1 t.ops).2≠0 from λz=>z eN)];have eE:(dF KN t (cF t o').1 t.ops).1.e=t.e+1:=by unfold dF;rw[if_neg (show ¬mx KN t (gW (cF t o').1)≠0 from λz=>z rfl)];rfl
 refine⟨⟨λhb=>?_⟩,λhb=>?_⟩
 · rw[if_neg (show ¬(dF KD s (cF s o).1 t.ops).2≠0 from λz=>z (g2 r (by rw[←eE];exact hb)))]
   exact g1.h hb
 · rw[if_neg (show ¬(dF KD s (cF s o).1 t.ops).2≠0 from λz=>z (g2 r (by rw[←eE];exact hb)))]
theorem Hy[Nn n](r:Rl n s t){lo:Int}(hl:lo≤n){o o':OpT}(ho:OpS n o o')(hc:KR lo t o'=true):Sm n (bI KD s o).1 (bI KN t o').1∧((bI KN t o').1.e≤34→(bI KD s o).2=(bI KN t o').2):=by
 unfold bI;rw[r.view,r.id,ho.kind,ho.change,r.opsS.ops];split
 · exact HB r.opsS _ _
 · exact LL r.opsS hl ho hc
theorem LN[Nn n](g:Sm n s t):Sm n (gS KD s) (gS KN t):=by
 have a:Sm n (bO KD s) (bO KN t):=g.of inferInstance λr=>by
  unfold bO;rw[r.busy];refine CO (wH ?_);split
  · exact xd g
  · exact g
 have b:Sm n (ca KD (bO KD s)) (ca KN (bO KN t)):=a.of inferInstance λr=>by
  unfold ca;rw[r.view];split
  · exact Gv a _
  · exact a
 refine b.of (by unfold gS;split<;>exact inferInstance) λr=>?_
 unfold gS;rw[r.view,r.id];split
 · have c:Sm n (fx KD (ca KD (bO KD s))) (fx KN (ca KN (bO KN t))):=by
    unfold fx;have w:=r.book.row (ca KN (bO KN t)).id;rw[r.id,w.ver];split
    · exact Gy b λ_=>w
    · exact b
   refine c.of inferInstance λr=>?_
   unfold pS;rw[r.vote];split
   · exact c
   · rename_i vt _
     rw[r.view];split
     · obtain⟨b1,b2⟩:=CS c vt.change
       have tr:cZ (fx KD (ca KD (bO KD s)))=cZ (fx KN (ca KN (bO KN t))):=by unfold cZ;rw[r.round,r.id]
       rw[tr];refine⟨λhb=>?_⟩
       have bd:(bN KN (fx KN (ca KN (bO KN t))) vt.change).1.e≤34:=by
        refine jZ (Mo.le (k:=(bN KN (fx KN (ca KN (bO KN t))) vt.change).1.e) (self:=?_)) hb;split<;>exact inferInstance
       rw[b2 r bd];split
       · rename_i q
         rw[if_pos q]at hb;exact(CK b1 _).h hb
       · rename_i q
         rw[if_neg q]at hb;exact b1.h hb
     · exact c
 · exact b
theorem LO[Nn n](g:Sm n s t)(f:Int){m q:MsgT}(hm:MsgF n m q):Sm n (fK KD s f m) (fK KN t f q):=by
 unfold fK;rw[hm.kind];split
 · exact Ny g f hm
 split
 · exact LQ g f hm
 split
 · refine g.of inferInstance λr=>?_
   rw[hm.whose];exact(r.bookM _ hm.row).sm
 split
 · rw[hm.view];exact tt g _
 split
 · exact CD g f hm
 split
 · exact zD g f λ_=>hm
 split
 · exact CJ g f hm
 split
 · exact CI g f hm
 split
 · exact CH g f hm
 split
 · exact CG g f hm
 · exact g
end
structure CN where
 ms:List (MS Nat)
 W:List (List MsgT)
def CN.at'(b:CN)(i:Nat):MS Nat:=b.ms.getD i (B2 0 0)
def CN.did(b:CN)(i:Nat)(t:MS Nat):CN:=⟨b.ms.set i t.hush,gT b.W i t.o⟩
def CN.new:CN:=⟨(List.range 5).map λi=>wm ((i:Nat):Int) 0,List.replicate 25 []⟩
def Eu(b:CN)(i:Nat)(t:MS Nat):Option CN:=if t.e≤34 then some (b.did i t)else none
def MC(lo:Int)(b:CN)(i:Nat)(o:OpT):Option (CN×Int):=if KR lo (b.at' i) o then(Eu b i (bI KN (b.at' i) o).1).map λc=>(c,(bI KN (b.at' i) o).2)else none
def Oz(b:CN)(i:Nat):Option CN:=Eu b i (gS KN (b.at' i))
def Ju(b:CN)(i j:Nat):Option CN:=if i=j then some b else match b.W.getD (i*5+j) []with
 | []=>some b
 |m::l=>if IR m then Eu {b with W:=b.W.set (i*5+j) l} j (fK KN (b.at' j) ((i:Nat):Int) m)else none
def JB(b:CN)(i:Nat):Nat→Option CN
 |0=>some b
 |j+1=>(JB b i j).bind λc=>Ju c i j
def ti(b:CN):Nat→Option CN
 |0=>some b
 |i+1=>(ti b i).bind λc=>JB c i 5
def EV(b:CN):Nat→Option CN
 |0=>some b
 |i+1=>(EV b i).bind λc=>Oz c i
def tg:Nat→CN→Option CN
 |0,b=>some b
 |k+1,b=>if wn b.W 25=0 then some b else(ti b 5).bind (tg k)
def pu(b:CN):Nat→Option CN
 |0=>some b
 |k+1=>(pu b k).bind λc=>(EV c 5).bind (tg 400)
inductive WayS(n:Int):List MsgT→List MsgT→Prop
 |nil:WayS n [] []
 |cons {m q:MsgT} {l k:List MsgT}:MsgS n m q→WayS n l k→WayS n (m::l) (q::k)
theorem WayS.len{n:Int}{l k:List MsgT}(h:WayS n l k):l.length=k.length:=by
 induction h with
 |nil=>rfl
 |cons _ _ ih=>rw[av,av,ih]
theorem WayS.snoc{n:Int}{l k:List MsgT}(h:WayS n l k){m q:MsgT}(hm:MsgS n m q):WayS n (l++[m]) (k++[q]):=by
 induction h with
 |nil=>exact .cons hm .nil
 |cons h _ ih=>exact .cons h ih
structure CSim(n:Int)(a:CL)(b:CN):Prop where
 ms:a.ms.length=5
 bs:b.ms.length=5
 W:a.W.length=25
 V:b.W.length=25
 run: ∀i,i<5→∃s,(a.at' i).run=some s∧Rl n s (b.at' i)
 way: ∀k,WayS n (a.W.getD k []) (b.W.getD k [])
section
variable {n:Int} {a:CL} {b:CN}
theorem Al{α:Type}{W:List (List α)}{k j:Nat}{l:List α}(hk:k<W.length):(W.set k l).getD j []=if j=k then l else W.getD j []:=by
 by_cases q:j=k
 · subst q
   rw[if_pos rfl,List.getD_eq_getElem?_getD,List.getElem?_set_self hk];rfl
 · rw[if_neg q,List.getD_eq_getElem?_getD,List.getElem?_set_ne (λe=>q e.symm),←List.getD_eq_getElem?_getD]
theorem GG{W V:List (List MsgT)}(hW:W.length=25)(hV:V.length=25)(h: ∀k,WayS n (W.getD k []) (V.getD k [])){k:Nat}(hk:k<25){l r:List MsgT}(hl:WayS n l r): ∀j,WayS n ((W.set k l).getD j []) ((V.set k r).getD j []):=λj=>by
 rw[Al (by omega),Al (by omega)];split
 · exact hl
 · exact h j
theorem AN{f t:Int}(h:dy f t=true):bE f t<25:=by
 unfold dy at h;rw[ao,ao]at h;have h1:=(mB h.1.1).1;have h2:=(mB h.1.2).1;unfold bE;omega
theorem C4(f:Nat): ∀{l k:List SaidT},SaidS n l k→∀{W V:List (List MsgT)},W.length=25→V.length=25→(∀k,WayS n (W.getD k []) (V.getD k []))→∀j,WayS n ((gT W f l).getD j []) ((gT V f k).getD j [])
 |_,_, .nil,_,_,_,_,h=>h
 |_,_, .cons (t:=t) (m:=m) (q:=q) hm hl,W,V,hW,hV,h=>by
  refine C4 f hl (W:=qD W f ⟨t,m⟩) (V:=qD V f ⟨t,q⟩) (by rw[qC];exact hW) (by rw[qC];exact hV) λj=>?_
  unfold qD;split
  · rename_i hv
    refine GG hW hV h (AN hv) ?_ j;rw[(h _).len];split
    · exact(h _).snoc hm
    · exact h _
  · exact h j
theorem CSim.did(h:CSim n a b){i:Nat}(hi:i<5){s:MS LD}{t:MS Nat}(r:Rl n s t):CSim n (a.did i s) (b.did i t):=by
 refine⟨by show(a.ms.set i _).length=5;rw[fu];exact h.ms,by show(b.ms.set i _).length=5;rw[fu];exact h.bs,by show(gT a.W i s.o).length=25;rw[nb];exact h.W,by show(gT b.W i t.o).length=25;rw[nb];exact h.V,λj hj=>?_,C4 i r.o h.W h.V h.way⟩;have hl:i<a.ms.length:=by rw[h.ms];exact hi
 have hl2:i<b.ms.length:=by rw[h.bs];exact hi
 by_cases q:j=i
 · subst q
   refine⟨s.hush,by unfold CL.did;rw[vk hl],?_⟩
   have e:(b.did j t).at' j=t.hush:=by
    show(b.ms.set j t.hush).getD j _=_;rw[List.getD_eq_getElem?_getD,List.getElem?_set_self hl2];rfl
   rw[e];exact {r with o:= .nil}
 · obtain⟨s2,e2,r2⟩:=h.run j hj
   refine⟨s2,by unfold CL.did;rw[we q];exact e2,?_⟩
   have e:(b.did i t).at' j=b.at' j:=by
    show(b.ms.set i t.hush).getD j _=_;rw[List.getD_eq_getElem?_getD,List.getElem?_set_ne (λe=>q e.symm),←List.getD_eq_getElem?_getD];rfl
   rw[e];exact r2
theorem G9{t:MS Nat}{i:Nat}{c:CN}(h:Eu b i t=some c):t.e≤34∧c=b.did i t:=by
 unfold Eu at h;split at h
 · rename_i q;exact⟨q,(bJ h).symm⟩
 · cases h
theorem CSim.act(h:CSim n a b){i:Nat}(hi:i<5){s:MS LD}{t:MS Nat}(g:Sm n s t){c:CN}(e:Eu b i t=some c):CSim n (a.did i s) c:=by
 obtain⟨q,rfl⟩:=G9 e;exact h.did hi (g.h q)
theorem CSim.cli[Nn n](h:CSim n a b){i:Nat}(hi:i<5){lo:Int}(hl:lo≤n){o o':OpT}(ho:OpS n o o'){c:CN}{e:Int}(hc:MC lo b i o'=some (c,e)):CSim n (yl a i o).1 c∧(yl a i o).2=e:=by
 obtain⟨s,hs,r⟩:=h.run i hi;unfold MC at hc;split at hc
 · rename_i q
   obtain⟨g1,g2⟩:=Hy r hl ho q;cases ha:Eu b i (bI KN (b.at' i) o').1 with
   |none=>rw[ha]at hc;cases hc
   |some c'=>
    rw[ha]at hc;obtain⟨rfl,rfl⟩:=Prod.mk.inj (bJ hc)
    have en:yl a i o=(a.did i (bI KD s o).1,(bI KD s o).2):=by
     unfold yl;rw[hs];show(if s.e.D.dn=true then _ else _)=_;rw[r.e.dn,if_neg (by decide)]
    rw[en];exact⟨h.act hi g1 ha,g2 (G9 ha).1⟩
 · cases hc
theorem CSim.do[Nn n](h:CSim n a b){i:Nat}(hi:i<5){lo:Int}(hl:lo≤n){o o':OpT}(ho:OpS n o o')(hat:o.at'=((i:Nat):Int))(hk:0≤o.kind∧o.kind≤4){c:CN}{e:Int}(hc:MC lo b i o'=some (c,e)):CSim n (oN a o).1 c∧(oN a o).2=e:=by
 have en:oN a o=yl a i o:=by
  unfold oN;rw[hat,if_neg (by rw[show hO ((i:Nat):Int)=true from decide_eq_true ⟨by omega,by omega⟩];decide),if_pos hk];rfl
 rw[en];exact h.cli hi hl ho hc
theorem CSim.tik[Nn n](h:CSim n a b){i:Nat}(hi:i<5){c:CN}(hc:Oz b i=some c):CSim n (Jp a i) c:=by
 obtain⟨s,hs,r⟩:=h.run i hi
 have en:Jp a i=a.did i (gS KD s):=by
  unfold Jp oN;show(if hO ((i:Nat):Int)=false then((_,_):CL×Int)else _).1=_;rw[if_neg (by rw[show hO ((i:Nat):Int)=true from decide_eq_true ⟨by omega,by omega⟩];decide)];show(Ck a i).1=_;unfold Ck;rw[hs];show(if s.e.D.dn=true then((_,_):CL×Int)else _).1=_;rw[r.e.dn,if_neg (by decide)]
 rw[en];exact h.act hi (LN r.sm) hc
theorem ET{α:Type}(l:List α):jB 0 l=l:=by unfold jB;rfl
theorem Jg{o:OpT}(hv:dy o.at' o.to'=true)(h:a.W.getD (bE o.at' o.to') []=[]):(oc a o).1=a:=by
 unfold oc;rw[if_neg (by rw[hv];decide),h]
theorem Ho{o:OpT}{m:MsgT}{l:List MsgT}(hv:dy o.at' o.to'=true)(hk:o.kind=5)(hn:o.n=0)(h:a.W.getD (bE o.at' o.to') []=m::l):oc a o=o8 (a.way (bE o.at' o.to') l) o.at'.toNat o.to'.toNat m:=by
 have et:jB (max o.n 0% ((m::l).length:Int)).toNat (m::l)=m::l:=by
  rw[hn,show(max (0:Int) 0% ((m::l).length:Int)).toNat=0 by simp,ET]
 unfold oc;rw[if_neg (by rw[hv];decide),h];show(if o.kind=7 then(if I6 (m::l)then(a.way (bE o.at' o.to') (EH (m::l)),(0:Int))else(a,3))else(match jB (max o.n 0% ((m::l).length:Int)).toNat (m::l)with| []=>(a,0)|m'::l'=>if o.kind=6 then(a.way (bE o.at' o.to') l',0)else o8 (a.way (bE o.at' o.to') l') o.at'.toNat o.to'.toNat m'))=_;rw[if_neg (by omega),et];show(if o.kind=6 then(a.way (bE o.at' o.to') l,(0:Int))else o8 (a.way (bE o.at' o.to') l) o.at'.toNat o.to'.toNat m)=_;rw[if_neg (by omega)]
theorem CSim.step[Nn n](h:CSim n a b){i j:Nat}(hi:i<5)(hj:j<5){c:CN}(hc:Ju b i j=some c):CSim n (tl a i j) c:=by
 unfold Ju at hc;unfold tl
 by_cases q:i=j
 · rw[if_pos q]at hc ⊢
   exact bJ hc▸h
 rw[if_neg q]at hc ⊢;have mi:hO ((i:Nat):Int)=true:=decide_eq_true ⟨by omega,by omega⟩;have mj:hO ((j:Nat):Int)=true:=decide_eq_true ⟨by omega,by omega⟩
 have hv:dy ((i:Nat):Int) ((j:Nat):Int)=true:=by
  unfold dy;rw[mi,mj,decide_eq_false (by omega)];rfl
 have ed:oN a (Ln 5 ((i:Nat):Int) ((j:Nat):Int))=oc a (Ln 5 ((i:Nat):Int) ((j:Nat):Int)):=by
  unfold oN;show(if hO ((i:Nat):Int)=false then _ else _)=_;rw[if_neg (by rw[mi];decide)];rfl
 rw[ed];have hw:=h.way (i*5+j);cases hb:b.W.getD (i*5+j) []with
 |nil=>
  rw[hb]at hc hw;cases hA:a.W.getD (i*5+j) []with
  |nil=>
   rw[Jg (o:=Ln 5 ((i:Nat):Int) ((j:Nat):Int)) hv hA];exact bJ hc▸h
  |cons m l=>rw[hA]at hw;cases hw
 |cons m' l'=>
  rw[hb]at hc hw;cases hA:a.W.getD (i*5+j) []with
  |nil=>rw[hA]at hw;cases hw
  |cons m l=>
   rw[hA]at hw;cases hw with
   |cons hm hl=>
    have hc:(if IR m'=true then Eu {b with W:=b.W.set (i*5+j) l'} j (fK KN (b.at' j) ((i:Nat):Int) m')else none)=some c:=hc
    by_cases ck:IR m'=true
    · rw[if_pos ck]at hc
      have h2:CSim n (a.way (i*5+j) l) {b with W:=b.W.set (i*5+j) l'}:=⟨h.ms,h.bs,by show(a.W.set _ _).length=25;rw[fu];exact h.W,by show(b.W.set _ _).length=25;rw[fu];exact h.V,h.run,GG h.W h.V h.way (by omega) hl⟩;obtain⟨s,hs,r⟩:=h.run j hj;rw[Ho (o:=Ln 5 ((i:Nat):Int) ((j:Nat):Int)) hv rfl rfl hA]
      have ec:o8 (a.way (i*5+j) l) i j m=((a.way (i*5+j) l).did j (fK KD s ((i:Nat):Int) m),0):=by
       unfold o8;rw[show((a.way (i*5+j) l).at' j).run=some s from hs];show(if s.e.D.dn=true then _ else _)=_;rw[r.e.dn,if_neg (by decide),hm.dec ck,if_pos rfl]
      show CSim n (o8 (a.way (i*5+j) l) i j m).1 c;rw[ec];exact h2.act hj (LO r.sm _ hm.f) hc
    · rw[if_neg ck]at hc;cases hc
theorem iE{α β:Type}{x:Option α}{f:α→Option β}{c:β}(h:x.bind f=some c): ∃y,x=some y∧f y=some c:=by
 cases x with
 |none=>cases h
 |some y=>exact⟨y,rfl,h⟩
theorem CSim.rows[Nn n](h:CSim n a b){i:Nat}(hi:i<5): ∀(j:Nat) {c:CN},j≤5→JB b i j=some c→CSim n (tB a i j) c
 |0,_,_,e=>bJ e▸h
 |j+1,_,hj,e=>by
  obtain⟨d,e1,e2⟩:=iE e;exact(CSim.rows h hi j (by omega) e1).step hi (by omega) e2
theorem CSim.sweepTo[Nn n](h:CSim n a b): ∀(i:Nat) {c:CN},i≤5→ti b i=some c→CSim n (sweepTo a i) c
 |0,_,_,e=>bJ e▸h
 |i+1,_,hi,e=>by
  obtain⟨d,e1,e2⟩:=iE e;exact(CSim.sweepTo h i (by omega) e1).rows (by omega) 5 (aK _) e2
theorem CSim.ticks[Nn n](h:CSim n a b): ∀(i:Nat) {c:CN},i≤5→EV b i=some c→CSim n (sa a i) c
 |0,_,_,e=>bJ e▸h
 |i+1,_,hi,e=>by
  obtain⟨d,e1,e2⟩:=iE e;exact(CSim.ticks h i (by omega) e1).tik (by omega) e2
theorem Ko(h:CSim n a b): ∀k,wn a.W k=wn b.W k
 |0=>rfl
 |k+1=>by rw[rq,rq,Ko h k,(h.way k).len]
theorem AZ(k:Nat)(b:CN):tg (k+1) b=if wn b.W 25=0 then some b else(ti b 5).bind (tg k):=rfl
theorem A0(k:Nat)(a:CL):kQ (k+1) a=if wn a.W 25=0 then a else kQ k (sweepTo a 5):=rfl
theorem CSim.sweeps[Nn n](k:Nat): ∀{a:CL} {b c:CN},CSim n a b→tg k b=some c→CSim n (kQ k a) c:=by
 induction k with
 |zero=>intro a b c h e;exact bJ e▸h
 |succ k ih=>
  intro a b c h e;rw[AZ]at e;rw[A0,Ko h 25]
  by_cases q:wn b.W 25=0
  · rw[if_pos q]at e ⊢;exact bJ e▸h
  · rw[if_neg q]at e ⊢
    obtain⟨d,e1,e2⟩:=iE e;exact ih (h.sweepTo 5 (aK _) e1) e2
theorem CSim.settle[Nn n](h:CSim n a b): ∀(k:Nat) {c:CN},pu b k=some c→CSim n (cG a k) c
 |0,_,e=>bJ e▸h
 |k+1,_,e=>by
  obtain⟨d,e1,e2⟩:=iE e;obtain⟨f,e3,e4⟩:=iE e2;have:=CSim.sweeps 400 ((CSim.settle h k e1).ticks 5 (aK _) e3) e4;rw[cG,uK];exact this
theorem CSim.new:CSim n CL.new CN.new:=by
 refine⟨by simp[CL.new],by simp[CN.new],by simp[CL.new],by simp[CN.new],λi hi=>?_,λk=>?_⟩
 · obtain⟨D',e,lg,ha,hd⟩:=LogD.new.open rfl rfl
   have es:(dY i DS.new).1=some (wm ((i:Nat):Int) (⟨0,((fL []:Nat):Int),D'⟩:LD)):=by
    unfold dY;rw[e];rfl
   refine⟨_,by rw[(Fw hi).1];exact es,?_⟩;have eb:CN.new.at' i=wm ((i:Nat):Int) 0:=by simp[CN.new,CN.at',List.getD_eq_getElem?_getD,hi]
   rw[eb]
   have z5: ∀(i:Nat) (_:i<5),RowS n (#v[RowT.zero,RowT.zero,RowT.zero,RowT.zero,RowT.zero]:Vector RowT 5)[i] (#v[RowT.zero,RowT.zero,RowT.zero,RowT.zero,RowT.zero]:Vector RowT 5)[i]:=λi hi=>by
    match i,hi with|0,_|1,_|2,_|3,_|4,_=>exact RowS.zero
   exact⟨rfl,rfl, .zero,z5,rfl,rfl,rfl,rfl, .zero,rfl,rfl,rfl,rfl,rfl,rfl,z5,by show(0:Int)≤10* ((0:Nat):Int);decide,⟨hd,ha,[],lg,rfl,rfl,aO _⟩, .nil⟩
 · have z: ∀k,(List.replicate 25 ([]:List MsgT)).getD k []=[]:=λk=>by
    rw[List.getD_eq_getElem?_getD,List.getElem?_replicate];split<;>rfl
   show WayS n ((List.replicate 25 ([]:List MsgT)).getD k []) ((List.replicate 25 ([]:List MsgT)).getD k []);rw[z];exact .nil
theorem CSim.up(h:CSim n a b){i:Nat}(hi:i<5): ∃s,(a.at' i).run=some s∧(a.at' i).up=true∧zI a i=some s∧Rl n s (b.at' i):=by
 obtain⟨s,hs,r⟩:=h.run i hi
 have u:(a.at' i).up=true:=by
  unfold Slot.up;rw[hs];show(!s.e.D.dn)=true;rw[r.e.dn];rfl
 exact⟨s,hs,u,by unfold zI;rw[if_pos u];exact hs,r⟩
def xU(t:MS Nat)(B:BookT):Nat→BookT
 |0=>B
 |i+1=>(dC (xU t B i) ((i:Nat):Int) (mirRow t.mirror ((i:Nat):Int))).1
def td(b:CN):Nat→BookT
 |0=> .zero
 |j+1=>xU (b.at' j) (td b j) 5
theorem GU[Nn n]{s:MS LD}{t:MS Nat}(r:Rl n s t){B C:BookT}(h:BookS n B C): ∀k,BookS n (lK s B k) (xU t C k)
 |0=>h
 |k+1=>(GU r h k).merge _ (r.mirRow _)
theorem CSim.truth[Nn n](h:CSim n a b): ∀j,j≤5→BookS n (iR a j) (td b j)
 |0,_=> .zero
 |j+1,hj=>by
  obtain⟨s,_,_,hs,r⟩:=h.up (show j<5 by omega);rw[tc hs];exact GU r (CSim.truth h j (by omega)) 5
end
def Es(lo:Int)(b:CN)(i:Nat)(o:OpT)(e:Int):Option CN:=(MC lo b i o).bind λr=>if r.2=e then some r.1 else none
def sP(k a t N:Int):OpT:=⟨k,a,t,0,N, .zero,0,0,0⟩
def GJ(a k w h:Int):OpT:=⟨4,a,0,0,0,⟨k,w,h⟩,0,0,0⟩
section
variable {n:Int} {a:CL} {b:CN}
theorem CSim.ask[Nn n](h:CSim n a b){i:Nat}(hi:i<5){o o':OpT}(ho:OpS n o o')(hat:o.at'=((i:Nat):Int))(hk:0≤o.kind∧o.kind≤4){c:CN}{e:Int}(hc:Es 1 b i o' e=some c):CSim n (oN a o).1 c∧(oN a o).2=e:=by
 obtain⟨r,h1,h2⟩:=iE hc;split at h2
 · rename_i q
   have:=h.do hi (Nn.r (n:=n)).1 ho hat hk (c:=r.1) (e:=r.2) h1
   rw[←bJ h2,←q];exact this
 · cases h2
theorem Du:NumS n n 1000:=⟨1,0,⟨by decide,by decide⟩,⟨by decide,by decide⟩,by omega,by decide⟩
theorem Dq(k a t:Int){N M:Int}(h:NumS n N M):OpS n (sP k a t N) (sP k a t M):=⟨rfl,rfl,rfl,rfl,rfl,h⟩
theorem MT(a k w h:Int):OpS n (GJ a k w h) (GJ a k w h):=⟨rfl,rfl,rfl,rfl,rfl, .zero⟩
theorem nP(k a t:Int){N:Int}(h:N≤9223372036854775807):OkOp (sP k a t N):=⟨Gd,h⟩
theorem Bo(a:Int){k w h:Int}(hk:yD k)(hw:yD w)(hh:yD h):OkOp (GJ a k w h):=⟨⟨λn hn=>by
 simp only[GJ,ChangeT.flat,bU,List.not_mem_nil,or_false]at hn;rcases hn with rfl|rfl|rfl
 · exact nA hk
 · exact nA hw
 · exact nA hh⟩,by show(0:Int)≤_;omega⟩
theorem CSim.upAll(h:CSim n a b): ∀j,j<5→(a.at' j).up=true:=λj hj=>by
 obtain⟨s,_,u,_⟩:=h.up hj;exact u
theorem CSim.value[Nn n](h:CSim n a b){i:Nat}(hi:i<5)(hv:gh (b.at' i).book 0=0){s:MS LD}(hs:(a.at' i).run=some s):gh s.book 0=0:=by
 obtain⟨s',e,r⟩:=h.run i hi;rw[hs]at e;obtain rfl:=bJ e;exact(r.book.value 0).nil (by decide) hv
theorem CSim.truth0[Nn n](h:CSim n a b)(hv:gh (td b 5) 0=0):gh (qt a) 0=0:=((h.truth 5 (aK _)).value 0).nil (by decide) hv
end
theorem N3{k:Int}(h:decide (0≤k∧k≤4)=true):0≤k∧k≤4:=of_decide_eq_true h
def Kz:Option CN:=(Es 1 .new 0 (sP 0 0 0 1000) 0).bind λb=>(pu b 3).bind λb=>(Es 1 b 0 (sP 2 0 1 1000) 0).bind λb=>Es 1 b 2 (GJ 2 1 1 2) 0
def Ky:Option CN:=(Es 1 .new 0 (sP 0 0 0 1000) 0).bind λb=>(pu b 3).bind λb=>(Es 1 b 2 (GJ 2 1 1 2) 0).bind λb=>(pu b 4).bind λb=>Es 1 b 0 (sP 2 0 1 1000) 0
def Nh(b:CN):Option CN:=(pu b 6).bind λb=>(Es 1 b 2 (sP 1 2 0 1000) 0).bind λb=>pu b 3
def GZ(x:Option CN):Bool:=match x.bind Nh with
 |none=>false
 |some b=>decide (gh (td b 5) 0=0)&&decide (gh (b.at' 0).book 0=0)
theorem FT:GZ Kz=true:=by decide+kernel
theorem FS:GZ Ky=true:=by decide+kernel
structure Given(n:Int)(a a6:CL):Prop where
 d6:(oN (cG a 6) (sP 1 2 0 n)).1=a6∧(oN (cG a 6) (sP 1 2 0 n)).2=0∧CLOk 4 a6
 up: ∀j,j<5→((cG a6 3).at' j).up=true
 truth:gh (qt (cG a6 3)) 0=0
 v0: ∀s,((cG a6 3).at' 0).run=some s→gh s.book 0=0
theorem DW{n:Int}[Nn n]{a:CL}{x:Option CN}{b:CN}(hx:x=some b)(he:GZ x=true)(h:CSim n a b)(k:CLOk 3 a): ∃a6,Given n a a6:=by
 unfold GZ at he;rw[hx]at he;split at he
 · cases he
 rename_i r hr;have hr:Nh b=some r:=hr;rw[ao,decide_eq_true_iff,decide_eq_true_iff]at he;obtain⟨t1,t2⟩:=he;obtain⟨b5,c5,hr⟩:=iE hr;obtain⟨b6,c6,c7⟩:=iE hr;have nn:=Nn.r (n:=n);obtain⟨s6,e6'⟩:=(h.settle 6 c5).ask (by decide) (Dq 1 2 0 Du) rfl (N3 rfl) c6;have k6:CLOk 4 (oN (cG a 6) (sP 1 2 0 n)).1:=vX (k.settle 6) (nP _ _ _ (by omega));generalize e6:(oN (cG a 6) (sP 1 2 0 n)).1=a6 at*;have s7:=s6.settle 3 c7;exact⟨a6,⟨e6,e6',k6⟩,s7.upAll,s7.truth0 t1,λs hs=>s7.value (by decide) t2 hs⟩
structure GivenF(n:Int)(a1 a3 a4 a6:CL):Prop where
 d1:(oN .new (sP 0 0 0 n)).1=a1∧CLOk 1 a1
 d3:(oN (cG a1 3) (sP 2 0 1 n)).1=a3∧CLOk 2 a3
 d4:(oN a3 (GJ 2 1 1 2)).1=a4∧CLOk 3 a4
 g:Given n a4 a6
structure GivenL(n:Int)(a1 a3 a4 a6:CL):Prop where
 d1:(oN .new (sP 0 0 0 n)).1=a1∧CLOk 1 a1
 d3:(oN (cG a1 3) (GJ 2 1 1 2)).1=a3∧CLOk 2 a3
 d4:(oN (cG a3 4) (sP 2 0 1 n)).1=a4∧CLOk 3 a4
 g:Given n a4 a6
theorem FR{n:Int}(hn:1≤n∧n≤1024): ∃a1 a3 a4 a6,GivenF n a1 a3 a4 a6:=by
 have:Nn n:=⟨hn⟩;have he:=FT;cases hx:Kz with
 |none=>rw[hx]at he;cases he
 |some b4=>
  have hr:=hx;unfold Kz at hr;obtain⟨b1,c1,hr⟩:=iE hr;obtain⟨b2,c2,hr⟩:=iE hr;obtain⟨b3,c3,c4⟩:=iE hr;obtain⟨s1,_⟩:=(CSim.new (n:=n)).ask (by decide) (Dq 0 0 0 Du) rfl (N3 rfl) c1;have k1:CLOk 1 (oN .new (sP 0 0 0 n)).1:=vX new_ok (nP _ _ _ (by omega));generalize e1:(oN .new (sP 0 0 0 n)).1=a1 at*;obtain⟨s3,_⟩:=(s1.settle 3 c2).ask (by decide) (Dq 2 0 1 Du) rfl (N3 rfl) c3;have k3:CLOk 2 (oN (cG a1 3) (sP 2 0 1 n)).1:=vX (k1.settle 3) (nP _ _ _ (by omega));generalize e3:(oN (cG a1 3) (sP 2 0 1 n)).1=a3 at*;obtain⟨s4,_⟩:=s3.ask (by decide) (MT 2 1 1 2) rfl (N3 rfl) c4;have k4:CLOk 3 (oN a3 (GJ 2 1 1 2)).1:=vX k3 (Bo 2 ⟨by decide,by decide⟩ ⟨by decide,by decide⟩ ⟨by decide,by decide⟩);generalize e4:(oN a3 (GJ 2 1 1 2)).1=a4 at*;obtain⟨a6,g⟩:=DW hx he s4 k4;clear hx he hr c1 c2 c3 c4;exact⟨a1,a3,a4,a6,⟨e1,k1⟩,⟨e3,k3⟩,⟨e4,k4⟩,g⟩
theorem IC{n:Int}(hn:1≤n∧n≤1024): ∃a1 a3 a4 a6,GivenL n a1 a3 a4 a6:=by
 have:Nn n:=⟨hn⟩;have he:=FS;cases hx:Ky with
 |none=>rw[hx]at he;cases he
 |some b4=>
  have hr:=hx;unfold Ky at hr;obtain⟨b1,c1,hr⟩:=iE hr;obtain⟨b2,c2,hr⟩:=iE hr;obtain⟨b3,c3,hr⟩:=iE hr;obtain⟨b5,c5,c4⟩:=iE hr;obtain⟨s1,_⟩:=(CSim.new (n:=n)).ask (by decide) (Dq 0 0 0 Du) rfl (N3 rfl) c1;have k1:CLOk 1 (oN .new (sP 0 0 0 n)).1:=vX new_ok (nP _ _ _ (by omega));generalize e1:(oN .new (sP 0 0 0 n)).1=a1 at*;obtain⟨s3,_⟩:=(s1.settle 3 c2).ask (by decide) (MT 2 1 1 2) rfl (N3 rfl) c3;have k3:CLOk 2 (oN (cG a1 3) (GJ 2 1 1 2)).1:=vX (k1.settle 3) (Bo 2 ⟨by decide,by decide⟩ ⟨by decide,by decide⟩ ⟨by decide,by decide⟩);generalize e3:(oN (cG a1 3) (GJ 2 1 1 2)).1=a3 at*;obtain⟨s4,_⟩:=(s3.settle 4 c5).ask (by decide) (Dq 2 0 1 Du) rfl (N3 rfl) c4;have k4:CLOk 3 (oN (cG a3 4) (sP 2 0 1 n)).1:=vX (k3.settle 4) (nP _ _ _ (by omega));generalize e4:(oN (cG a3 4) (sP 2 0 1 n)).1=a4 at*;obtain⟨a6,g⟩:=DW hx he s4 k4;clear hx he hr c1 c2 c3 c4;exact⟨a1,a3,a4,a6,⟨e1,k1⟩,⟨e3,k3⟩,⟨e4,k4⟩,g⟩
end Api
end

section
namespace Go.Proofs.YtkhjnolhhidecaaGreatDoor
open Go Leg Codec Api Dsk Wal
theorem Jf{n:Nat}{a:CL}(h:CLOk n a)(u:oD a): ∀j i,j<5→i<5→WF (mirRow (mr a j).mirror ((i:Nat):Int)).flat:=λj i hj _=>by
 have:OkR KD (mr a j):=((h.at' j hj).run _ (lI u hj)).1;unfold mirRow;split
 · exact(this.mir _ _).wf
 · exact Ld OkRow.zero
theorem FJ(n' n:Int)(hn:1≤n∧n≤1024)(hme:n'%1024+1=n):
 DT 5 #[(.int .i64 (n')),(.bool true)] T0 [] (RI (.bool true) []):=by
 refine BD 62 Tryz.func5 rfl rfl rfl λw0 F hF=>?_
 obtain⟨a1,a3,a4,a6,J⟩:=FR hn;have hup:oD (cG a6 3):=J.g.up;have hwf:=Jf (J.g.d6.2.2.settle 3) hup;refine sr λ_ J1=>PS ?_
 refine nx J1 (aa λ_ J2=>sr λ_ J3=>CE Rw (xc) ID ?_);refine PS ?_;refine nx J3 (CN (qx J2 (sr λ_ J4=>PS ?_)));refine tp (jw (r:=(n'%1024)) rfl rfl rfl (mask (k:=10) (by decide) _)) ?_;refine tp (bC (r:=n) rfl rfl rfl ((bK (by omega) (by omega)).trans hme)) ?_;refine PS ?_;refine nx J4 (sr λ_ J5=>CR QJ (uU) ID λvR HR hR=>?_);obtain⟨c,rfl,rfl⟩:=hR;refine PS ?_;refine nx J5 (sr λ_ J6=>P2 ?_);refine tp (kp OpT.zero (OpT.mk 0 0 0 0 n ChangeT.zero 0 0 0) [(0,[Value.int .i64 0]),(4,[Value.int .i64 n])] eP gM (g:=OpT.sg)) ?_;refine CR JV (jQ (c:=c) (a:=CL.new) (o:=sP 0 0 0 n) new_ok (by omega) (nP _ _ _ (by omega))) ID λvR HR hR=>?_
 obtain⟨rfl,hH⟩:=hR;rw[J.d1.1]at hH;subst hH;refine nx J6 (sr λ_ J7=>PS ?_);refine CZ Fu (iS c 1 a1 J.d1.2 (by omega) 3 (by decide)) ID λvR=>?_
 refine nx J7 (sr λ_ J8=>PS ?_);refine tp (kp OpT.zero (OpT.mk 2 0 1 0 n ChangeT.zero 0 0 0) [(0,[Value.int .i64 2]),(2,[Value.int .i64 1]),(4,[Value.int .i64 n])] eP gM (g:=OpT.sg)) ?_;refine XZ Nr (ints OpT.zero.flat) λb6=>?_
 refine SW 0 nJ fg ?_;refine nx J8 (sr λ_ J9=>tp (kp ChangeT.zero (ChangeT.mk 1 1 2) [(0,[Value.int .i64 1]),(1,[Value.int .i64 1]),(2,[Value.int .i64 2])] mP uo (g:=ChangeT.sg)) ?_);refine tp (kp OpT.zero (OpT.mk 4 2 0 0 0 (ChangeT.mk 1 1 2) 0 0 0) [(0,[Value.int .i64 4]),(1,[Value.int .i64 2]),(5,ints (ChangeT.mk 1 1 2).flat)] eP gM (g:=OpT.sg)) ?_;refine XZ Nr (ints OpT.zero.flat) λb7=>?_
 refine SW 0 nJ fg ?_;refine nx J9 (aa λ_ J10=>sr λ_ J11=>PS ?_);refine nx J11 (CY (sr λ_ J12=>PS ?_));refine LW 1 eP nJ fg ?_;refine CR JV (jQ (c:=c) (a:=cG a1 3) (o:=sP 2 0 1 n) (J.d1.2.settle 3) (by omega) (nP _ _ _ (by omega))) (SM [2]) λvR HR hR=>?_
 obtain⟨rfl,hH⟩:=hR;rw[J.d3.1]at hH;subst hH;refine nx J12 (ac (PS ?_));refine LW 1 eP nJ fg ?_;refine CR JV (jQ (c:=c) (a:=a3) (o:=GJ 2 1 1 2) J.d3.2 (by omega) (Bo 2 ⟨by decide,by decide⟩ ⟨by decide,by decide⟩ ⟨by decide,by decide⟩)) ID λvR HR hR=>?_
 obtain⟨rfl,hH⟩:=hR;rw[J.d4.1]at hH;subst hH;refine nx J10 (sr λ_ J13=>PS ?_);refine CZ Fu (iS c 3 a4 J.d4.2 (by omega) 6 (by decide)) ID λvR=>?_
 refine nx J13 (sr λ_ J14=>P2 ?_);refine tp (kp OpT.zero (OpT.mk 1 2 0 0 n ChangeT.zero 0 0 0) [(0,[Value.int .i64 1]),(1,[Value.int .i64 2]),(4,[Value.int .i64 n])] eP gM (g:=OpT.sg)) ?_;refine CR JV (jQ (c:=c) (a:=cG a4 6) (o:=sP 1 2 0 n) (J.d4.2.settle 6) (by omega) (nP _ _ _ (by omega))) ID λvR HR hR=>?_
 obtain⟨hv,hH⟩:=hR;rw[J.g.d6.2.1]at hv;subst hv;rw[J.g.d6.1]at hH;subst hH;refine PS ?_;refine nx J14 (sr λ_ J15=>PS ?_);refine CZ Fu (iS c 4 a6 J.g.d6.2.2 (by omega) 3 (by decide)) ID λvR=>?_
 refine nx J15 (sr λ_ J16=>P4 ?_);refine No (H':=λg:CX=>[eh c (cG a6 3) g,aj b7 (ints (OpT.mk 4 2 0 0 0 (ChangeT.mk 1 1 2) 0 0 0).flat) 30,aj b6 (ints (OpT.mk 2 0 1 0 n ChangeT.zero 0 0 0).flat) 30]) (λ_ s=>As s) (λg=>CR Mk (pn c (cG a6 3) g hup hwf) ID λvR HR hR=>?_);obtain⟨bt,rfl,rfl⟩:=hR;refine CR Kj (jT bt 0 77 (λx=>ints x.flat) oi (qt (cG a6 3)) 0) (SM [1]) λvR HR hR=>?_
 obtain⟨hv,rfl⟩:=hR;rw[J.g.truth]at hv;subst hv;refine P4 ?_;refine CE Dz (jL (c:=c) (g:=g) (i:=0) hup (by decide)) (SM [1]) ?_;refine CR Pw (rN (i:=0) (by decide) (lI hup (by decide)) (vn (mr (cG a6 3) 0) (g.d 0) (g.r 0) 0)) ID λvR HR hR=>?_
 obtain⟨hv,rfl⟩:=hR;rw[J.g.v0 _ (lI hup (by decide))]at hv;subst hv;refine P3 ?_;exact nx J16 (ah (WK [] (aw rfl rfl ⟨rfl,rfl⟩)))
theorem FI(n' n:Int)(hn:1≤n∧n≤1024)(hme:n'%1024+1=n):
 DT 5 #[(.int .i64 (n')),(.bool false)] T0 [] (RI (.bool true) []):=by
 refine BD 62 Tryz.func5 rfl rfl rfl λw0 F hF=>?_
 obtain⟨a1,a3,a4,a6,J⟩:=IC hn;have hup:oD (cG a6 3):=J.g.up;have hwf:=Jf (J.g.d6.2.2.settle 3) hup;refine sr λ_ J1=>PS ?_
 refine nx J1 (aa λ_ J2=>sr λ_ J3=>CE Rw (xc) ID ?_);refine PS ?_;refine nx J3 (CN (qx J2 (sr λ_ J4=>PS ?_)));refine tp (jw (r:=(n'%1024)) rfl rfl rfl (mask (k:=10) (by decide) _)) ?_;refine tp (bC (r:=n) rfl rfl rfl ((bK (by omega) (by omega)).trans hme)) ?_;refine PS ?_;refine nx J4 (sr λ_ J5=>CR QJ (uU) ID λvR HR hR=>?_);obtain⟨c,rfl,rfl⟩:=hR;refine PS ?_;refine nx J5 (sr λ_ J6=>P2 ?_);refine tp (kp OpT.zero (OpT.mk 0 0 0 0 n ChangeT.zero 0 0 0) [(0,[Value.int .i64 0]),(4,[Value.int .i64 n])] eP gM (g:=OpT.sg)) ?_;refine CR JV (jQ (c:=c) (a:=CL.new) (o:=sP 0 0 0 n) new_ok (by omega) (nP _ _ _ (by omega))) ID λvR HR hR=>?_
 obtain⟨rfl,hH⟩:=hR;rw[J.d1.1]at hH;subst hH;refine nx J6 (sr λ_ J7=>PS ?_);refine CZ Fu (iS c 1 a1 J.d1.2 (by omega) 3 (by decide)) ID λvR=>?_
 refine nx J7 (sr λ_ J8=>PS ?_);refine tp (kp OpT.zero (OpT.mk 2 0 1 0 n ChangeT.zero 0 0 0) [(0,[Value.int .i64 2]),(2,[Value.int .i64 1]),(4,[Value.int .i64 n])] eP gM (g:=OpT.sg)) ?_;refine XZ Nr (ints OpT.zero.flat) λb6=>?_
 refine SW 0 nJ fg ?_;refine nx J8 (sr λ_ J9=>tp (kp ChangeT.zero (ChangeT.mk 1 1 2) [(0,[Value.int .i64 1]),(1,[Value.int .i64 1]),(2,[Value.int .i64 2])] mP uo (g:=ChangeT.sg)) ?_);refine tp (kp OpT.zero (OpT.mk 4 2 0 0 0 (ChangeT.mk 1 1 2) 0 0 0) [(0,[Value.int .i64 4]),(1,[Value.int .i64 2]),(5,ints (ChangeT.mk 1 1 2).flat)] eP gM (g:=OpT.sg)) ?_;refine XZ Nr (ints OpT.zero.flat) λb7=>?_
 refine SW 0 nJ fg ?_;refine nx J9 (aa λ_ J10=>sr λ_ J11=>PS ?_);refine nx J11 (CN (sr λ_ J12=>PS ?_));refine LW 0 eP nJ fg ?_;refine CR JV (jQ (c:=c) (a:=cG a1 3) (o:=GJ 2 1 1 2) (J.d1.2.settle 3) (by omega) (Bo 2 ⟨by decide,by decide⟩ ⟨by decide,by decide⟩ ⟨by decide,by decide⟩)) (SM [2]) λvR HR hR=>?_
 obtain⟨rfl,hH⟩:=hR;rw[J.d3.1]at hH;subst hH;refine nx J12 (sr λ_ J13=>PS ?_);refine CZ Fu (iS c 2 a3 J.d3.2 (by omega) 4 (by decide)) ID λvR=>?_
 refine nx J13 (ac (PS ?_));refine LW 2 eP nJ fg ?_;refine CR JV (jQ (c:=c) (a:=cG a3 4) (o:=sP 2 0 1 n) (J.d3.2.settle 4) (by omega) (nP _ _ _ (by omega))) ID λvR HR hR=>?_
 obtain⟨rfl,hH⟩:=hR;rw[J.d4.1]at hH;subst hH;refine nx J10 (sr λ_ J14=>PS ?_);refine CZ Fu (iS c 3 a4 J.d4.2 (by omega) 6 (by decide)) ID λvR=>?_
 refine nx J14 (sr λ_ J15=>P2 ?_);refine tp (kp OpT.zero (OpT.mk 1 2 0 0 n ChangeT.zero 0 0 0) [(0,[Value.int .i64 1]),(1,[Value.int .i64 2]),(4,[Value.int .i64 n])] eP gM (g:=OpT.sg)) ?_;refine CR JV (jQ (c:=c) (a:=cG a4 6) (o:=sP 1 2 0 n) (J.d4.2.settle 6) (by omega) (nP _ _ _ (by omega))) ID λvR HR hR=>?_
 obtain⟨hv,hH⟩:=hR;rw[J.g.d6.2.1]at hv;subst hv;rw[J.g.d6.1]at hH;subst hH;refine PS ?_;refine nx J15 (sr λ_ J16=>PS ?_);refine CZ Fu (iS c 4 a6 J.g.d6.2.2 (by omega) 3 (by decide)) ID λvR=>?_
 refine nx J16 (sr λ_ J17=>P4 ?_);refine No (H':=λg:CX=>[eh c (cG a6 3) g,aj b7 (ints (OpT.mk 4 2 0 0 0 (ChangeT.mk 1 1 2) 0 0 0).flat) 30,aj b6 (ints (OpT.mk 2 0 1 0 n ChangeT.zero 0 0 0).flat) 30]) (λ_ s=>As s) (λg=>CR Mk (pn c (cG a6 3) g hup hwf) ID λvR HR hR=>?_);obtain⟨bt,rfl,rfl⟩:=hR;refine CR Kj (jT bt 0 77 (λx=>ints x.flat) oi (qt (cG a6 3)) 0) (SM [1]) λvR HR hR=>?_
 obtain⟨hv,rfl⟩:=hR;rw[J.g.truth]at hv;subst hv;refine P4 ?_;refine CE Dz (jL (c:=c) (g:=g) (i:=0) hup (by decide)) (SM [1]) ?_;refine CR Pw (rN (i:=0) (by decide) (lI hup (by decide)) (vn (mr (cG a6 3) 0) (g.d 0) (g.r 0) 0)) ID λvR HR hR=>?_
 obtain⟨hv,rfl⟩:=hR;rw[J.g.v0 _ (lI hup (by decide))]at hv;subst hv;refine P3 ?_;exact nx J17 (ah (WK [] (aw rfl rfl ⟨rfl,rfl⟩)))
theorem wholeLateGift_does(n':Int)(first:Bool):DT 5 #[.int .i64 n', .bool first] T0 [] (RI (.bool true) []):=by
 cases first
 · exact FI n' _ (by omega) rfl
 · exact FJ n' _ (by omega) rfl
end Go.Proofs.YtkhjnolhhidecaaGreatDoor
end
