/-
  Joined texts:what a statement's proof reaches.
-/
import Derived.Maps.RangeRun
import Derived.Test.YtmcjhkbcmmddgaaGreatPCC7
set_option maxHeartbeats 8000000
set_option maxRecDepth 100000
set_option linter.unusedSimpArgs false
set_option linter.unusedVariables false
section
namespace Go.Proofs.YtmcjhkbcmmddgaaGreat
open Go Leg Codec Api Dsk Wal
theorem wq(i:Nat):(dB i .new).1≠none:=by
 obtain⟨D',e,_⟩:=LogD.new.open rfl rfl;unfold dB;rw[e];simp[gS]
theorem uT{i:Nat}{s:MS LD}(h:(dB i .new).1=some s):o9 i=⟨some s,(bI .new).D,[]⟩:=by
 show(il i .nil).1=_;unfold il;show Slot.mk (dB i DS.new).1 _ _=_;rw[h];rfl
def dJ(i:Nat)(d:Nat→Nat):Nat→Value:=λj=>if j<i then .pointer (some ⟨d j,0,none⟩)else .pointer none
def IN:Nat→Value:=λ_=> .slice none 0 0
theorem Js(i:Nat)(d:Nat→Nat)(x:Nat):nI (dJ i d) i (.pointer (some ⟨x,0,none⟩))=dJ (i+1) (nI d i x):=funext λj=>by
 unfold dJ nI
 by_cases hj:j=i
 · subst hj;simp
 · rw[if_neg hj,if_neg hj]
   show(if j<i then _ else _)=_
   by_cases h:j<i
   · rw[if_pos h,if_pos (by omega)]
   · rw[if_neg h,if_neg (by omega)]
theorem HI{n:Nat}{D M P D' M' P':Nat→Value}(h1: ∀i,i<5→D i=D' i)(h2: ∀i,i<5→M i=M' i)(h3: ∀i,i<5→P i=P' i):e8 n D M P=e8 n D' M' P':=by
 unfold e8;rw[dX (λi hi=>h1 i (ee.1 hi)),dX (λi hi=>h2 i (ee.1 hi)),dX (λi hi=>h3 i (ee.1 hi))]
theorem IB{f g:Nat→HP}{i:Nat}(hg: ∀j,j<i→g j=f j){H:List HP}{h:Hl}(s:bN (g i::bN ((List.range i).map f)::H) h):bN (bN ((List.range (i+1)).map g)::H) h:=by
 have e:(List.range (i+1)).map g=(List.range i).map f++[g i]:=by
  rw[cX,cL,dX (λj hj=>hg j (ee.1 hj))];rfl
 rw[e];obtain⟨h1,h2,d,rfl,a,b⟩:=s;have s2:bN ((g i::(List.range i).map f)++H) (jn h1 h2):=⟨h1,h2,d,rfl,a,(cj _ _).2 b⟩;exact(cj _ _).1 (eF ((List.perm_append_comm (l₁:=[g i])).append_right H) s2)
abbrev w7(d r:Nat→Nat)(j:Nat):HP:=kX (o9 j) (d j) (r j) (.slice none 0 0)
theorem I6{d r:Nat→Nat}{i x y:Nat}{s:MS LD}(hs:(dB i .new).1=some s){X Y:HP}{h:Hl}(q:bN [gl s x y,dk x s.e.D,X,Y,bN ((List.range i).map (w7 d r))] h):bN [X,Y,bN ((List.range (i+1)).map (w7 (nI d i x) (nI r i y)))] h:=by
 have q2:=im 175 3 q
 have e:w7 (nI d i x) (nI r i y) i=bN [dk x s.e.D,mH (.slice none 0 0) [],gl s x y]:=by
  unfold w7 kX kI Slot.dk rF;rw[lN,lN,uT hs]
 have q4:=(cj [dk x s.e.D,mH (.slice none 0 0) [],gl s x y] [bN ((List.range i).map (w7 d r)),X,Y]).1 (aE [2,0,0,2,0,0] rfl q2);have q5:=IB (i:=i) (f:=w7 d r) (g:=w7 (nI d i x) (nI r i y)) (H:=[X,Y]) (λj hj=>by unfold w7;rw[pZ d x (show j≠i by omega),pZ r y (show j≠i by omega)]) (by rw[e];exact q4);exact aE [1,1,0] rfl q5
theorem I4(i:Nat)(hi:i<5):CL.new.at' i=o9 i:=by simp[CL.new,CL.at',List.getD_eq_getElem?_getD,hi]
theorem I5{c n:Nat}{d r:Nat→Nat}{h:Hl}(s:bN [an c (e8 n (dJ 5 d) (dJ 5 r) IN) 71,eP 110 160 5 n (List.replicate 25 []),bN ((List.range 5).map (w7 d r))] h):bN [fS c .new] h:=by
 have e1:e8 n (mM ⟨n,d,r,IN⟩) (kg .new r) IN=e8 n (dJ 5 d) (dJ 5 r) IN:=HI (λi hi=>by unfold dJ;rw[if_pos hi]) (λi hi=>by
  unfold dJ;rw[if_pos hi];show yi (CL.new.at' i) (r i)=_;rw[I4 i hi];cases hs:(dB i .new).1 with
  |none=>exact absurd hs (wq i)
  |some s=>rw[uT hs];rfl) (λ_ _=>rfl)
 have e2:(List.range 5).map (λi=>kX (CL.new.at' i) (d i) (r i) (IN i))=(List.range 5).map (w7 d r):=dX λi hi=>by
  rw[I4 i (ee.1 hi)];rfl
 have e3:cO CL.new.W=List.replicate 25 []:=rfl;refine br (p:=re c .new) (H:=[]) ⟨n,d,r,IN⟩ ?_;unfold re;rw[e1,e2,e3];exact s
theorem zk:
 DT 7 #[] T0 [] (dL (λv H=>∃c,v= .pointer (some ⟨c,0,none⟩)∧H=[fS c .new])):=by
 refine BD 33 Tryz.func7 rfl rfl rfl λw0 F hF=>sr λ_ J1=>PS ?_
 refine nx J1 (sr λ_ J2=>CR PI (Cy) ID λvR HR hR=>?_);obtain⟨n,rfl,rfl⟩:=hR;refine BV #[(.pointer (some ⟨n,0,none⟩)),(.pointer none),(.pointer none),(.pointer none),(.pointer none),(.pointer none),(.pointer none),(.pointer none),(.pointer none),(.pointer none),(.pointer none),(.slice none 0 0),(.slice none 0 0),(.slice none 0 0),(.slice none 0 0),(.slice none 0 0)] ?_;refine XB λb5=>?_
 refine PS ?_;refine nx J2 (aa λ_ J3=>sr λ_ J4=>PS ?_);refine nx J4 (av ?_)
 refine bG (α:=(Nat)×(Nat→Nat)×(Nat→Nat)) (λ⟨i,d,r⟩=>i≤5) (λ⟨i,d,r⟩=>[(0,(.pointer none)),(1,(.pointer (some ⟨b5,0,none⟩))),(6,(.int .i64 (((i:Nat):Int))))]) (λ⟨i,d,r⟩=>[an b5 (e8 n (dJ i d) (dJ i r) IN) 71,eP 110 160 5 n (List.replicate 25 []),bN ((List.range i).map (w7 d r))]) (λ⟨i,d,r⟩=>5-i) (0,λ_=>0,λ_=>0)
  (aP _) SB
  (λ_ s=>aE [1,1,0] rfl (wy s)) (λ⟨i,d,r⟩ hinv=>?_)
 obtain hi:=hinv;refine sr λ_ J5=>PS ?_
 refine aq ?_ ?_<;>intro h7;have hlt:i<5:=by omega
 refine nx J5 (aa λ_ J6=>CY (qx J6 (aa λ_ J7=>av (sr λ_ J8=>P2 ?_))));refine nx J8 (aa λ_ J9=>D0 el ?_);refine PD 0 ?_;refine PD 1 ?_;refine PD 3 ?_;refine FD 4 1 pP BJ ?_;refine AL 2 ?_;refine CR PH (MK) ID λvR HR hR=>?_
 obtain⟨dn,rfl,rfl⟩:=hR;refine EN (IY 5 (1+i) L0 wm ?_);refine AL 6 ?_;refine cd (i:=1) (ab rfl) rfl rfl rfl rfl rfl wm rfl rfl (by rw[rT];omega) (KZ n (dJ i d) (dJ i r) IN (.pointer (some ⟨dn,0,none⟩)) hlt) rfl (EN (DN (af J9 (D0 el ?_))));refine PD 0 ?_;refine PD 1 ?_;refine PD 2 ?_;refine PD 3 ?_;refine PD 4 ?_;refine PD 5 ?_;refine FD 6 1 pP BJ ?_;refine IY 7 (1+i) L0 wm ?_;refine PD 13 ?_;refine FD 14 6 pP rB ?_;refine AL 8 ?_;refine LT 1 JG (.pointer (some ⟨dn,0,none⟩)) ?_ (hc:=by exact(Fm n (nI (dJ i d) i (.pointer (some ⟨dn,0,none⟩))) (dJ i r) IN hlt).trans (congrArg some (lN (dJ i d) i _)));refine EN (AL 9 ?_);refine CR NH (uF i dn .new DkOk.new) ID λvR HR hR=>?_
 rcases hR with⟨hn,_⟩| ⟨s,rn,hs,rfl,rfl⟩
 · exact absurd hn (wq i)
 refine EN (PD 10 ?_);refine PD 11 ?_;refine PD 12 ?_;refine IY 15 (6+i) Fz oT ?_;refine AL 16 ?_;refine cd (i:=2) (ab rfl) rfl rfl rfl rfl rfl oT rfl rfl (by rw[rT];omega) (vK n (nI (dJ i d) i (.pointer (some ⟨dn,0,none⟩))) (dJ i r) IN (.pointer (some ⟨rn,0,none⟩)) hlt) rfl (EN (DN (ah (af J7 (ag (AD ?_))))));refine PS ?_;refine ax ?_
 exact aN ((i+1,nI d i dn,nI r i rn):(Nat)×(Nat→Nat)×(Nat→Nat)) (by omega) (by show 5- (i+1)<5-i;omega)
  SB
  (λ_ q=>by
   show bN [an b5 (e8 n (dJ (i+1) (nI d i dn)) (dJ (i+1) (nI r i rn)) IN) 71,_,_] _;rw[←Js,←Js]
   exact I6 hs (aE [0,0,0,0,0] rfl q))
 refine nx J5 (aa λ_ J10=>CN (bg (aC (aC (bD (af J3 (sr λ_ J11=>P2 ?_)))))));exact nx J11 (ak (aG (H':=[fS b5 .new]) (dP _) (λ_ s=>by have h5:i=5:=(by omega);subst h5;exact I5 s) (aw rfl rfl ⟨b5,rfl,rfl⟩)))
end Go.Proofs.YtmcjhkbcmmddgaaGreat
end

section
namespace Api
open Go Leg Codec Dsk Wal
def MV(k i j:Int):OpT:=⟨k,i,j,0,0, .zero,0,0,0⟩
theorem Jv:OkCh ChangeT.zero:=⟨by
 have: ∀n∈ChangeT.zero.flat,(Lit.int IntKind.i64 n).wf=true:=by decide+kernel
 intro n hn;exact this n hn⟩
theorem AG(k i j:Int):OkOp (MV k i j):=⟨Jv,by show(0:Int)≤9223372036854775807;omega⟩
def wo(a:CL)(i j:Nat):CL:=if i=j then a else(vn a (MV 5 ((i:Nat):Int) ((j:Nat):Int))).1
def M9(a:CL)(i:Nat):CL:=(vn a (MV 8 ((i:Nat):Int) 0)).1
def uN(a:CL)(i:Nat):Nat→CL
 |0=>a
 |j+1=>wo (uN a i j) i j
def sweepTo(a:CL):Nat→CL
 |0=>a
 |i+1=>uN (sweepTo a i) i 5
def wn(a:CL):CL:=sweepTo a 5
def tR(a:CL):Nat→CL
 |0=>a
 |i+1=>M9 (tR a i) i
def Hn(W:List (List MsgT))(k:Nat):Nat:=((List.range k).map λq=>if q%6=0 then 0 else(W.getD q []).length).sum
theorem zo(W:List (List MsgT))(k:Nat):Hn W (k+1)=Hn W k+(if k%6=0 then 0 else(W.getD k []).length):=by simp[Hn,cX]
def zZ(a:CL):Nat:=Hn a.W 25
def mC:Nat→CL→CL
 |0,a=>a
 |k+1,a=>if zZ a=0 then a else mC k (wn a)
def wL(a:CL):CL:=mC 400 (tR a 5)
theorem GP(a:CL):mC (400-0) (tR a 5)=wL a:=by unfold wL;rw[Qw]
def kr(a:CL):Nat→CL
 |0=>a
 |k+1=>wL (kr a k)
theorem Iv{a:CL}{i j:Nat}(h:i≠j):uN a i (j+1)=(vn (uN a i j) (MV 5 ((i:Nat):Int) ((j:Nat):Int))).1:=by
 show wo _ i j=_;unfold wo;rw[if_neg h]
theorem Iw{a:CL}{i j:Nat}(h:i=j):uN a i (j+1)=uN a i j:=by
 show wo _ i j=_;unfold wo;rw[if_pos h]
theorem sG{k:Nat}(h:k<400)(d:CL):mC (400-k) d=if zZ d=0 then d else mC (400- (k+1)) (wn d):=by
 rw[show 400-k=(400- (k+1))+1 by omega];rfl
theorem Ak{k:Nat}(h: ¬k<400)(d:CL):mC (400-k) d=d:=by
 rw[show 400-k=0 by omega];rfl
section
variable {n:Nat} {a:CL}
theorem CLOk.step(h:CLOk n a)(i j:Nat):CLOk n (wo a i j):=by
 unfold wo;split
 · exact h
 · exact E6 h (AG ..) (by show ¬((0:Int)≤5∧(5:Int)≤4);omega)
theorem CLOk.tik(h:CLOk n a)(i:Nat):CLOk n (M9 a i):=E6 h (AG ..) (by show ¬((0:Int)≤8∧(8:Int)≤4);omega)
theorem CLOk.rows(h:CLOk n a)(i:Nat): ∀j,CLOk n (uN a i j)
 |0=>h
 |j+1=>(CLOk.rows h i j).step i j
theorem CLOk.sweepTo(h:CLOk n a): ∀i,CLOk n (sweepTo a i)
 |0=>h
 |i+1=>(CLOk.sweepTo h i).rows i 5
theorem CLOk.ticks(h:CLOk n a): ∀i,CLOk n (tR a i)
 |0=>h
 |i+1=>(CLOk.ticks h i).tik i
theorem CLOk.sweeps: ∀(k:Nat) {a:CL},CLOk n a→CLOk n (mC k a)
 |0,_,h=>h
 |k+1,a,h=>by
  unfold mC;split
  · exact h
  · exact CLOk.sweeps k (h.sweepTo 5)
theorem CLOk.settle(h:CLOk n a): ∀k,CLOk n (kr a k)
 |0=>h
 |k+1=>by
  rw[kr,wL];exact CLOk.sweeps 400 ((CLOk.settle h k).ticks 5)
theorem CLOk.len(h:CLOk n a): ∀k,Hn a.W k≤8*k
 |0=>aM _
 |k+1=>by
  rw[zo];have:=CLOk.len h k;have:=(h.way k).1;split<;>omega
end
end Api
namespace Go.Proofs.YtmcjhkbcmmddgaaGreat
open Go Leg Codec Api Dsk Wal
theorem rJ(W:List (List MsgT)): ∀k,k≤25→lX (cO W) k=Hn W k
 |0,_=>rfl
 |k+1,h=>by
  rw[rK,zo,rJ W k (by omega),nG W (by omega),bW]
theorem D3{n:Nat}{a:CL}(h:CLOk n a): ∀k,k<25→lX (cO a.W) k+((cO a.W).getD k []).length≤1000000000:=λk hk=>by
 rw[rJ a.W k (by omega),nG a.W hk,bW];have:=h.len k;have:=(h.way k).1;omega
theorem CG(c n i:Nat)(D M P:Nat→Value)(hi:i<5)(hM:M i= .pointer none):
 DT 10 #[(.pointer (some ⟨c,0,none⟩)),(.int .i64 (((i:Nat):Int)))] T0 [an c (e8 n D M P) 71] (RI (.pointer none) [an c (e8 n D M P) 71]):=by
 refine BD 15 Tryz.func10 rfl rfl rfl λw0 F hF=>sr λ_ J1=>PS ?_
 refine nx J1 (aa λ_ J2=>sr λ_ J3=>P2 ?_);refine CE AJ (p2 c n i D M P hi hM) ID ?_;refine PS ?_;refine nx J3 (CY (sr λ_ J4=>PS ?_));exact nx J4 (ak (ae (WK [0] (aw rfl rfl ⟨rfl,rfl⟩))))
theorem CD(c n i:Nat)(D M P:Nat→Value)(hi:i<5)(d r:Nat)(e:DS)(hD:D i= .pointer (some ⟨d,0,none⟩))(hM:M i= .pointer (some ⟨r,0,none⟩)):
 DT 10 #[(.pointer (some ⟨c,0,none⟩)),(.int .i64 (((i:Nat):Int)))] T0 [an c (e8 n D M P) 71,dk d e] (dL (λv H=>((e.dn=false∧v= .pointer (some ⟨r,0,none⟩))∨(e.dn=true∧v= .pointer none))∧H=[an c (e8 n D M P) 71,dk d e])):=by
 refine BD 15 Tryz.func10 rfl rfl rfl λw0 F hF=>sr λ_ J1=>PS ?_
 refine nx J1 (aa λ_ J2=>sr λ_ J3=>P2 ?_);refine CE AJ (p1 c n i D M P hi d r e hD hM) ID ?_;refine bh ?_ ?_<;>intro h7;refine PS ?_;refine nx J3 (CN (qx J2 (sr λ_ J4=>P3 ?_)));refine FA 6 pP rB ?_;refine IX (6+i) Fz oT ?_;refine LT 0 zO (.pointer (some ⟨r,0,none⟩)) ?_ (hc:=by exact(xz n D M P hi).trans (congrArg some hM));refine PS ?_;refine nx J4 (ak (WK [0,0] (aw rfl rfl ?_)));exact⟨.inl ⟨(by simpa using h7),rfl⟩,rfl⟩;refine PS ?_;refine nx J3 (CY (sr λ_ J5=>PS ?_));refine nx J5 (ak (ae (WK [0,0] (aw rfl rfl ?_))));exact⟨.inr ⟨(by simpa using h7),rfl⟩,rfl⟩
abbrev Ao(c:Nat)(a:CL)(i:Nat)(g:CX):List HP:=an c (e8 g.n (mM g) (kg a g.r) g.p) 71::eP 110 160 5 g.n (cO a.W)::kI (a.at' i) (g.d i) (g.r i) (g.p i)
def iM(c:Nat)(a:CL)(g:CX):HP:=bN (re c a g)
theorem G4{α:Type}(A B C:List α):((A++B)++C).Perm ((A++C)++B):=by
 rw[aV,aV];exact List.Perm.append_left _ List.perm_append_comm
section
variable {f:FuncId} {args:Array Value} {c i:Nat} {a:CL} {g:CX}
theorem zE{H:List HP}{h:Hl}(s:bN (fS c a::H) h): ∃g,bN (iM c a g::H) h:=by
 obtain⟨h1,h2,d,e,⟨g,t⟩,s2⟩:=s;exact⟨g,h1,h2,d,e,t,s2⟩
theorem HF{H:List HP}{h:Hl}(s:bN (iM c a g::H) h):bN (fS c a::H) h:=cE s (λ_ t=>⟨g,t⟩) λ_ t=>t
theorem GH(hi:i<5){h:Hl}(s:bN [iM c a g] h):bN (Ao c a i g++[bN (((List.range 5).map λi=>kX (a.at' i) (g.d i) (g.r i) (g.p i)).eraseIdx i)]) h:=by
 have s0:bN (re c a g++[]) h:=(cj _ _).2 s;have s2:=zb (f:=λi=>kX (a.at' i) (g.d i) (g.r i) (g.p i)) hi (aE [2,0,0] rfl s0);have s3:=(cj (kI (a.at' i) (g.d i) (g.r i) (g.p i)) _).2 s2;exact aE [4,4,0,0,0,0] rfl s3
theorem GG(hi:i<5){h:Hl}(s:bN (Ao c a i g++[bN (((List.range 5).map λi=>kX (a.at' i) (g.d i) (g.r i) (g.p i)).eraseIdx i)]) h):bN [iM c a g] h:=by
 have s1:=aE [2,2,2,2,0,0] rfl s;have s2:=(cj (kI (a.at' i) (g.d i) (g.r i) (g.p i)) _).1 s1;have s3:=za (f:=λi=>kX (a.at' i) (g.d i) (g.r i) (g.p i)) (g:=λi=>kX (a.at' i) (g.d i) (g.r i) (g.p i)) hi (λ_ _=>rfl) s2;exact(cj (re c a g) []).1 (aE [1,1,0] rfl s3)
theorem KT{Q:Value→List HP→Prop}(hi:i<5)(core:DT f args T0 (Ao c a i g) (dL λv H=>∃X,Q v X∧H=Ao c a i g++X)):
 DT f args T0 [iM c a g] (dL λv H=>∃X,Q v X∧H=iM c a g::X):=by
 refine Leg.Does.withinR (B:=[bN (((List.range 5).map λi=>kX (a.at' i) (g.d i) (g.r i) (g.p i)).eraseIdx i)]) core (λ_ _ _ _=>trivial) (λh s=>GH hi s) λv H hp=>?_
 obtain⟨X,hQ,rfl⟩:=hp;refine⟨_,λh s=>?_,X,hQ,rfl⟩;have s1:=(cj _ X).1 (eF (G4 (Ao c a i g) X [bN (((List.range 5).map λi=>kX (a.at' i) (g.d i) (g.r i) (g.p i)).eraseIdx i)]) s);exact(cj [iM c a g] X).2 (cE s1 (λh t=>GG hi t) λ_ t=>t)
theorem Fh{Q:Value→Prop}(hi:i<5)(core:DT f args T0 (Ao c a i g) (dL λv H=>Q v∧H=Ao c a i g)):
 DT f args T0 [iM c a g] (dL λv H=>Q v∧H=[iM c a g]):=
 mh (KT (Q:=λv X=>Q v∧X=[]) hi (mh core λv H hp=>by
  obtain⟨h1,rfl⟩:=hp
  exact⟨[],⟨h1,rfl⟩,(aU _).symm⟩)) λv H hp=>by
  obtain⟨X,⟨h1,rfl⟩,rfl⟩:=hp;exact⟨h1,rfl⟩
theorem FH{x:Slot}{s:MS LD}(h:x.run=some s):x.up= !s.e.D.dn:=by unfold Slot.up;rw[h]
theorem Af{x:Slot}(h:x.run=none):x.up=false:=by unfold Slot.up;rw[h]
theorem tX{s:MS LD}(hs:(a.at' i).run=some s):Ao c a i g=[an c (e8 g.n (mM g) (kg a g.r) g.p) 71,eP 110 160 5 g.n (cO a.W),dk (g.d i) s.e.D,mH (g.p i) (a.at' i).past,gl s (g.d i) (g.r i)]:=by
 unfold Ao kI Slot.dk rF;rw[hs]
theorem Ig(hi:i<5):DT 21 #[.pointer (some ⟨c,0,none⟩), .int .i64 ((i:Nat):Int)] T0 [iM c a g] (dL λv H=>v= .bool (a.at' i).up∧H=[iM c a g]):=by
 refine Fh (Q:=λv=>v= .bool (a.at' i).up) hi ?_;cases hr:(a.at' i).run with
 |none=>
  rw[Af hr];refine Leg.Does.withinR (A:=[an c (e8 g.n (mM g) (kg a g.r) g.p) 71]) (B:=eP 110 160 5 g.n (cO a.W)::kI (a.at' i) (g.d i) (g.r i) (g.p i)) (p2 c g.n i (mM g) (kg a g.r) g.p hi (ni hr)) (λ_ _ _ _=>trivial) (λh s=>s) λv H hp=>?_
  obtain⟨rfl,rfl⟩:=hp;exact⟨_,λh s=>s,rfl,rfl⟩
 |some s=>
  rw[FH hr,tX hr];refine Leg.Does.withinR (B:=[eP 110 160 5 g.n (cO a.W),mH (g.p i) (a.at' i).past,gl s (g.d i) (g.r i)]) (p1 c g.n i (mM g) (kg a g.r) g.p hi (g.d i) (g.r i) s.e.D rfl (sY hr)) (λ_ _ _ _=>trivial) (λh s=>aE [0,1,0,0,0] rfl s) λv H hp=>?_
  obtain⟨rfl,rfl⟩:=hp;exact⟨_,λh s=>aE [0,1,0,0,0] rfl s,rfl,rfl⟩
def CH(a:CL)(g:CX)(i:Nat):Value:=if(a.at' i).up then .pointer (some ⟨g.r i,0,none⟩)else .pointer none
theorem xc(hi:i<5):DT 10 #[.pointer (some ⟨c,0,none⟩), .int .i64 ((i:Nat):Int)] T0 [iM c a g] (dL λv H=>v=CH a g i∧H=[iM c a g]):=by
 refine Fh (Q:=λv=>v=CH a g i) hi ?_;unfold CH;cases hr:(a.at' i).run with
 |none=>
  rw[Af hr];refine Leg.Does.withinR (A:=[an c (e8 g.n (mM g) (kg a g.r) g.p) 71]) (B:=eP 110 160 5 g.n (cO a.W)::kI (a.at' i) (g.d i) (g.r i) (g.p i)) (CG c g.n i (mM g) (kg a g.r) g.p hi (ni hr)) (λ_ _ _ _=>trivial) (λh s=>s) λv H hp=>?_
  obtain⟨rfl,rfl⟩:=hp;exact⟨_,λh s=>s,rfl,rfl⟩
 |some s=>
  rw[FH hr,tX hr];refine Leg.Does.withinR (B:=[eP 110 160 5 g.n (cO a.W),mH (g.p i) (a.at' i).past,gl s (g.d i) (g.r i)]) (CD c g.n i (mM g) (kg a g.r) g.p hi (g.d i) (g.r i) s.e.D rfl (sY hr)) (λ_ _ _ _=>trivial) (λh s=>aE [0,1,0,0,0] rfl s) λv H hp=>?_
  obtain⟨hv,rfl⟩:=hp;refine⟨_,λh s=>aE [0,1,0,0,0] rfl s,?_,rfl⟩;rcases hv with⟨h1,rfl⟩| ⟨h1,rfl⟩<;>rw[h1]<;>rfl
theorem LH{s:MS LD}{Q:Value→Prop}(hi:i<5)(hs:(a.at' i).run=some s)(hf:DT f args T0 [gl s (g.d i) (g.r i)] (dL λv H=>Q v∧H=[gl s (g.d i) (g.r i)])):DT f args T0 [iM c a g] (dL λv H=>Q v∧H=[iM c a g]):=by
 refine Fh hi ?_;rw[tX hs];refine Leg.Does.withinR (B:=[an c (e8 g.n (mM g) (kg a g.r) g.p) 71,eP 110 160 5 g.n (cO a.W),dk (g.d i) s.e.D,mH (g.p i) (a.at' i).past]) hf (λ_ _ _ _=>trivial) (λh q=>aE [4,0,0,0,0] rfl q) λv H hp=>?_
 obtain⟨hQ,rfl⟩:=hp;exact⟨_,λh q=>aE [1,1,1,1,0] rfl q,hQ,rfl⟩
theorem Cb{s:MS LD}{d r:Nat}{v0:RepT→Value}(hf: ∀x,DT f args T0 [an r (RepT.cells x) 94] (dL λv H=>v=v0 x∧H=[an r (RepT.cells x) 94])){w:Value}(hv: ∀a,v0 (s.rep a)=w):DT f args T0 [gl s d r] (dL λv H=>v=w∧H=[gl s d r]):=
 Leg.Does.pack (B:=[]) λx=>Leg.Does.withinR (A:=[an r (RepT.cells (s.rep x)) 94]) (B:=[F6 x.lg d ((s.e.cnt:Nat):Int) s.e.used,mH x.rs s.replies,FG x.vo s.vote]) (hf (s.rep x)) (λ_ _ _ _=>trivial) (λ_ q=>q) λv H hp=>by
  obtain⟨rfl,rfl⟩:=hp;exact⟨[gl s d r],λ_ q=>br (p:=GN s d r) (H:=[]) x q,hv x,rfl⟩
theorem D7(s:MS LD)(d r:Nat):DT 11 #[.pointer (some ⟨r,0,none⟩)] T0 [gl s d r] (dL λv H=>v= .agg (ints s.view.flat).toArray∧H=[gl s d r]):=Cb (λx=>Eu r x) λ_=>rfl
theorem BB(s:MS LD)(d r:Nat)(key:Int):DT 20 #[.pointer (some ⟨r,0,none⟩), .int .i64 key] T0 [gl s d r] (dL λv H=>v= .int .i64 (mW s.book key)∧H=[gl s d r]):=Cb (λx=>Cm r x key) λ_=>rfl
theorem EO(hi:i<5):DT 10 #[.pointer (some ⟨c,0,none⟩), .int .i64 ((i:Nat):Int)] T0 [iM c a g] (dL λv H=>((a.at' i).up=false∧v= .pointer none∧H=[iM c a g])∨∃s,(a.at' i).run=some s∧(a.at' i).up=true∧v= .pointer (some ⟨g.r i,0,none⟩)∧H=[iM c a g]):=
 mh (xc hi) λv H hp=>by
  obtain⟨rfl,rfl⟩:=hp;unfold CH;cases hu:(a.at' i).up with
  |false=>exact .inl ⟨rfl,rfl,rfl⟩
  |true=>
   cases hs:(a.at' i).run with
   |none=>rw[Af hs]at hu;cases hu
   |some s=>exact .inr ⟨s,rfl,rfl,rfl,rfl⟩
end
theorem BO(c n:Nat)(a:CL)(h:CLOk n a)(hn:n≤100000):
 DT 36 #[(.pointer (some ⟨c,0,none⟩))] T0 [fS c a] (dL (λ_ H=>H=[fS c (wn a)])):=by
 refine BD 20 Tryz.func36 rfl rfl rfl λw0 F hF=>sr λ_ J1=>PS ?_
 refine nx J1 (av ?_)
 refine bG (α:=(Nat)) (λi=>i≤5) (λi=>[(0,(.pointer (some ⟨c,0,none⟩))),(4,(.int .i64 (((i:Nat):Int))))]) (λi=>[fS c (sweepTo a i)]) (λi=>5-i) 0
  (aP _) SB
  (λ_ s=>s) (λi hinv=>?_)
 obtain hi:=hinv;refine sr λ_ J2=>PS ?_
 refine aq ?_ ?_<;>intro h5;refine nx J2 (aa λ_ J3=>CY (qx J3 (aa λ_ J4=>av (sr λ_ J5=>P2 ?_))));refine nx J5 (sr λ_ J6=>PS ?_);refine nx J6 (av ?_)
 refine bG (α:=(Nat)) (λj=>j≤5) (λj=>[(0,(.pointer (some ⟨c,0,none⟩))),(2,(.int .i64 (((i:Nat):Int)))),(4,(.int .i64 (((i:Nat):Int)))),(7,(.int .i64 (((j:Nat):Int))))]) (λj=>[fS c (uN (sweepTo a i) i j)]) (λj=>5-j) 0
  (aP _) SB
  (λ_ s=>s) (λj hinv=>?_)
 obtain hj:=hinv;refine sr λ_ J7=>PS ?_
 refine aq ?_ ?_<;>intro h8;refine nx J7 (aa λ_ J8=>CY (qx J8 (aa λ_ J9=>av (sr λ_ J10=>P2 ?_))));refine nx J10 (sr λ_ J11=>P3 ?_);refine aq ?_ ?_<;>intro h12;refine nx J11 (CY (ag (P3 ?_)));refine tp (lu OpT.zero (OpT.mk 5 ((i:Nat):Int) ((j:Nat):Int) 0 0 ChangeT.zero 0 0 0) [(0,[Value.int .i64 5]),(1,[Value.int .i64 ((i:Nat):Int)]),(2,[Value.int .i64 ((j:Nat):Int)])] fT pK (g:=OpT.sg)) ?_;refine CE OR (ti (c:=c) (o:=(MV 5 ((i:Nat):Int) ((j:Nat):Int))) ((h.sweepTo i).rows i j) hn (AG ..)) ID ?_;refine ax (ah (af J9 (ag (AD ?_))));refine PS ?_;refine ax ?_
 exact aN ((j+1):(Nat)) (by omega) (by show 5- (j+1)<5-j;omega)
  SB
  (λ_ s=>by rw[Iv (by omega)];exact s)
 refine nx J11 (CN (aT (ah (af J9 (ag (AD ?_))))));refine PS ?_;refine ax ?_
 exact aN ((j+1):(Nat)) (by omega) (by show 5- (j+1)<5-j;omega)
  SB
  (λ_ s=>by rw[Iw (by omega)];exact s)
 refine nx J7 (aa λ_ J12=>CN (bg (aC (aC (bD (ah (af J4 (ag (AD ?_)))))))));refine PS ?_;refine ax ?_
 exact aN ((i+1):(Nat)) (by omega) (by show 5- (i+1)<5-i;omega)
  SB
  (λ_ s=>by rw[show j=5 by omega]at s;exact s)
 exact nx J2 (aa λ_ J13=>CN (bg (aC (aC (bD (aG (H':=[fS c (wn a)]) (dP _) (λ_ s=>by rw[show i=5 by omega]at s;exact s) (bE rfl rfl)))))))
theorem Am(c n:Nat)(a:CL)(h:CLOk n a)(hn:n≤100000)(rounds:Nat)(hrd:rounds≤1000):
 DT 14 #[(.pointer (some ⟨c,0,none⟩)),(.int .i64 (((rounds:Nat):Int)))] T0 [fS c a] (dL (λ_ H=>H=[fS c (kr a rounds)])):=by
 refine BD 36 Tryz.func14 rfl rfl rfl λw0 F hF=>aa λ_ J1=>sr λ_ J2=>PS ?_
 refine tp (km rfl On rfl rfl) ?_;refine nx J2 (CN (qx J1 (sr λ_ J3=>PS ?_)));refine nx J3 (av ?_)
 refine bG (α:=(Nat)) (λm=>m≤rounds) (λm=>[(0,(.pointer (some ⟨c,0,none⟩))),(1,(.int .i64 (((rounds:Nat):Int)))),(4,(.int .i64 (((m:Nat):Int))))]) (λm=>[fS c (kr a m)]) (λm=>rounds-m) 0
  (aP _) SB
  (λ_ s=>s) (λm hinv=>?_)
 obtain hm:=hinv;refine aa λ_ J4=>sr λ_ J5=>P3 ?_
 refine aq ?_ ?_<;>intro h11;refine nx J5 (CY (qx J4 (aa λ_ J6=>av (aa λ_ J7=>sr λ_ J8=>PS ?_))));refine nx J8 (av ?_)
 refine bG (α:=(Nat)) (λi=>i≤5) (λi=>[(0,(.pointer (some ⟨c,0,none⟩))),(1,(.int .i64 (((rounds:Nat):Int)))),(4,(.int .i64 (((m:Nat):Int)))),(14,(.int .i64 (((i:Nat):Int))))]) (λi=>[fS c (tR (kr a m) i)]) (λi=>5-i) 0
  (aP _) SB
  (λ_ s=>s) (λi hinv=>?_)
 obtain hi:=hinv;refine sr λ_ J9=>PS ?_
 refine aq ?_ ?_<;>intro h15;refine nx J9 (aa λ_ J10=>CY (qx J10 (aa λ_ J11=>av (sr λ_ J12=>P2 ?_))));refine nx J12 (ag (P2 ?_));refine tp (lu OpT.zero (OpT.mk 8 ((i:Nat):Int) 0 0 0 ChangeT.zero 0 0 0) [(0,[Value.int .i64 8]),(1,[Value.int .i64 ((i:Nat):Int)])] fT pK (g:=OpT.sg)) ?_;refine CE OR (ti (c:=c) (o:=(MV 8 ((i:Nat):Int) 0)) ((h.settle m).ticks i) hn (AG ..)) ID ?_;refine ax (ah (af J11 (ag (AD ?_))));refine PS ?_;refine ax ?_
 exact aN ((i+1):(Nat)) (by omega) (by show 5- (i+1)<5-i;omega)
  SB
  (λ_ s=>s)
 refine nx J9 (aa λ_ J13=>CN (bg (aC (aC (bD (af J7 (sr λ_ J14=>PS ?_)))))));refine nx J14 (av ?_)
 refine bG (α:=(Nat)×(CL)) (λ⟨k,d⟩=>k≤400∧CLOk n d∧mC (400-k) d=wL (kr a m)) (λ⟨k,d⟩=>[(0,(.pointer (some ⟨c,0,none⟩))),(1,(.int .i64 (((rounds:Nat):Int)))),(4,(.int .i64 (((m:Nat):Int)))),(6,(.int .i64 (((k:Nat):Int))))]) (λ⟨k,d⟩=>[fS c d]) (λ⟨k,d⟩=>400-k) (0,tR (kr a m) i)
  ⟨aP _,(h.settle m).ticks i,by rw[show i=5 by omega];exact GP _⟩ SB
  (λ_ s=>s) (λ⟨k,d⟩ hinv=>?_)
 obtain⟨hk,hd,hs⟩:=hinv;refine aa λ_ J15=>sr λ_ J16=>P2 ?_
 refine aq ?_ ?_<;>intro h23;refine P3 ?_;refine FA 0 pP Aj ?_;refine L3 (H':=λg:CX=>[an c (e8 g.n (mM g) (kg d g.r) g.p) 71,eP 110 160 5 g.n (cO d.W),bN ((List.range 5).map λi=>kX (d.at' i) (g.d i) (g.r i) (g.p i))]) (λ_ s=>fL s) (λg=>LT 0 JH (.pointer (some ⟨g.n,0,none⟩)) ?_ (hc:=by exact A7 g.n (mM g) (kg d g.r) g.p));refine CE PB (Cz g.n (cO d.W) (D3 hd)) (SM [1]) ?_;rw[rJ d.W 25 (aM _)];change TL _ _ _ _ _ _ _ _ _ [eP 110 160 5 g.n (cO d.W),an c (e8 g.n (mM g) (kg d g.r) g.p) 71,bN ((List.range 5).map λi=>kX (d.at' i) (g.d i) (g.r i) (g.p i))];refine cB (H':=[fS c d]) (λ_ s=>br (p:=re c d) (H:=[]) g (aE [1,0,0] rfl s)) (PS ?_);refine aq ?_ ?_<;>intro h30;refine PS ?_;refine nx J16 (CY (qx J15 (aa λ_ J17=>av (ag (PS ?_)))));refine CZ PA (BO c n d hd hn) ID λvR=>?_
 refine ax (ah (af J17 (ag (PS ?_))));refine AD ?_;refine PS ?_;refine ax ?_
 exact aN ((k+1,wn d):(Nat)×(CL)) ⟨by omega,hd.sweepTo 5,by rw[sG (by omega),if_neg (by unfold zZ at*;omega)]at hs;exact hs⟩ (by show 400- (k+1)<400-k;omega)
  SB
  (λ_ s=>s)
 have hfin:d=kr a (m+1):=by rw[sG (by omega),if_pos (by unfold zZ at*;omega)]at hs;exact hs
 refine PS ?_;refine nx J16 (CN (bg (aC (aC (bD (ah (af J6 (ag (PS ?_)))))))));refine AD ?_;refine PS ?_;refine ax ?_
 exact aN ((m+1):(Nat)) (by omega) (by show rounds- (m+1)<rounds-m;omega)
  SB
  (λ_ s=>by rw[hfin]at s;exact s)
 have hfin:d=kr a (m+1):=by rw[Ak (by omega)]at hs;exact hs
 refine PS ?_
 iterate 6 refine UF ?_
 refine PS ?_;refine nx J16 (CN (bg (aC (aC (bD (ah (af J6 (ag (PS ?_)))))))));refine AD ?_;refine PS ?_;refine ax ?_
 exact aN ((m+1):(Nat)) (by omega) (by show rounds- (m+1)<rounds-m;omega)
  SB
  (λ_ s=>by rw[hfin]at s;exact s)
 exact nx J5 (CN (bg (aC (aC (bD (aG (H':=[fS c (kr a rounds)]) (dP _) (λ_ s=>by rw[show m=rounds by omega]at s;exact s) (bE rfl rfl)))))))
end Go.Proofs.YtmcjhkbcmmddgaaGreat
end

section
namespace Api
open Go Leg Codec Dsk Wal
theorem GO(a:CL)(l:List OpT)(o:OpT):oX a (l++[o])=(vn (oX a l) o).1:=by simp[oX]
theorem y5(a:CL)(l:List OpT){k:Nat}(hk:k<l.length):oX a (l.take (k+1))=(vn (oX a (l.take k)) (l[k])).1:=by
 rw[cx hk,GO]
def C3:OpT:=⟨0,0,0,0,5, .zero,0,0,0⟩
theorem C2:OkOp C3:=⟨Jv,by decide⟩
def MH:CL:=(vn .new C3).1
def fitB:CL:=kr MH 3
theorem KP:CLOk 1 MH:=Jn new_ok C2
def Oc:Bool:=decide ((vn .new C3).2=0)&&(match(fitB.at' 2).run with
 |some s=>decide (mW s.book 0=5)
 |none=>false)&&(fitB.at' 2).up&&(fitB.at' 4).up
theorem Hz:Oc=true:=by decide+kernel
theorem KO:(vn .new C3).2=0∧∃s2,(fitB.at' 2).run=some s2∧(fitB.at' 2).up=true∧mW s2.book 0=5∧(fitB.at' 4).up=true:=by
 have h:=Hz;unfold Oc at h;rw[au,au,au]at h;obtain⟨⟨⟨h1,h2⟩,h3⟩,h4⟩:=h;refine⟨of_decide_eq_true h1,?_⟩;cases hs:(fitB.at' 2).run with
 |none=>rw[hs]at h2;cases h2
 |some s=>rw[hs]at h2;exact⟨s,rfl,h3,of_decide_eq_true h2,h4⟩
def EW{α:Type}(f:α→List Int)(us:List Value)(x:α)(_:Hl):Prop:=us=ints (f x)∧WF (f x)
theorem LJ{α:Type}{f:α→List Int}{m:Nat}{v:Value}{l:List α}{F:Hl}(h:IsL m (EW f) v l F):IsL m (EF f) v l F∧∀o∈l,WF (f o):=by
 rcases h with⟨rfl,rfl⟩| ⟨a,c,rfl,rfl⟩| ⟨b,off,cap,cs,T,z,rfl,h1,h2,h3,h4⟩
 · exact⟨.inl ⟨rfl,rfl⟩,λo ho=>by cases ho⟩
 · exact⟨.inr (.inl ⟨a,c,rfl,rfl⟩),λo ho=>by cases ho⟩
 · refine⟨.inr (.inr ⟨b,off,cap,cs,T,z,rfl,h1,h2,h3,λj hj=>?_⟩),λo ho=>?_⟩
   · obtain⟨us,e1,e2,e3⟩:=h4 j hj
     exact⟨us,e1,e2,e3.1⟩
   · obtain⟨j,hj,rfl⟩:=fB ho
     obtain⟨us,e1,e2,e3⟩:=h4 j hj;exact e3.2
theorem Kx{o:OpT}(h:WF o.flat):OkOp o:=by
 refine⟨⟨λn hn=>h n ?_⟩,?_⟩
 · simp only[OpT.flat,bA,bV,List.not_mem_nil,or_false]
   simp[hn]
 · have:=sv (h o.n (by simp[OpT.flat]))
   omega
theorem Mj{x:Value}{l:List OpT}{F:Hl}(h:IsL 11 (EW OpT.flat) x l F): ∀o∈l,OkOp o:=λo ho=>Kx ((LJ h).2 o ho)
section
variable {A m:List ReplyT} {e:Int}
end
end Api
end

section
namespace Go.Proofs.YtmcjhkbcmmddgaaGreat
open Go Leg Codec Api Dsk Wal
theorem E4:
 DT 5 #[] T0 [] (RI (.bool true) []):=by
 refine BD 38 Tryz.func5 rfl rfl rfl λw0 F hF=>?_
 obtain⟨hf1,s2,hs2,hu2,hk2,hu4⟩:=KO;refine sr λ_ J1=>PS ?_
 refine nx J1 (sr λ_ J2=>CR Qc (zk) ID λvR HR hR=>?_);obtain⟨c,rfl,rfl⟩:=hR;refine PS ?_;refine nx J2 (aa λ_ J3=>sr λ_ J4=>PS ?_);refine tp (km rfl On rfl rfl) ?_;refine nx J4 (CN (qx J3 (sr λ_ J5=>PS ?_)));refine tp (lu OpT.zero (OpT.mk 0 0 0 0 5 ChangeT.zero 0 0 0) [(0,[Value.int .i64 0]),(4,[Value.int .i64 5])] fT pK (g:=OpT.sg)) ?_;refine CR OR (ti (c:=c) (o:=C3) new_ok (by decide) C2) ID λvR HR hR=>?_
 obtain⟨hv,rfl⟩:=hR;rw[hf1]at hv;subst hv;refine PS ?_;refine nx J5 (sr λ_ J6=>PS ?_);refine CZ PK (Am c 1 MH KP (by decide) 3 (by decide)) ID λvR=>?_
 refine nx J6 (sr λ_ J7=>PS ?_);refine L3 (H':=λg:CX=>[iM c fitB g]) (λ_ s=>zE s) (λg=>CR Oa (xc (i:=2) (by decide)) ID λvR HR hR=>?_);obtain⟨hv,rfl⟩:=hR;rw[CH,if_pos hu2]at hv;subst hv;refine PS ?_;refine nx J7 (sr λ_ J8=>P4 ?_);refine tq (jI rfl zO rfl rfl) ?_;refine P3 ?_;refine CR PJ (LH (i:=2) (by decide) hs2 (BB s2 _ _ 0)) ID λvR HR hR=>?_
 obtain⟨hv,rfl⟩:=hR;rw[hk2]at hv;subst hv;refine P4 ?_;refine CR AJ (Ig (i:=4) (by decide)) ID λvR HR hR=>?_
 obtain⟨hv,rfl⟩:=hR;rw[hu4]at hv;subst hv;refine P2 ?_;refine CQ NI (xq 0 1 (.slice none 0 0) [] (by decide)) ID (λ_ _ _=>Or.inl (Or.inl ⟨rfl,rfl⟩)) λvR HR hR=>?_
 obtain⟨_,rfl,rfl⟩:=hR;revert vR;intro uf;refine kj 0 rfl rfl (λhluf _=>?_);rw[pe]at hluf;refine tq (dW rfl ia rfl hluf) ?_;refine P3 ?_;refine CE Pp (rR) ID ?_;refine CE Hh (iD firstV Rng.first) ID ?_;refine P2 ?_;exact nx J8 (ak (WK [] (aw rfl rfl ⟨rfl,rfl⟩)))
theorem EP(x:Value)(l:List OpT):
 DT 6 #[x] (IsL 11 (EF OpT.flat) x l) [] (RI (.bool (decide (((l.length:Nat):Int)≤1200))) []):=by
 refine BD 6 Tryz.func6 rfl rfl rfl λw0 F hF=>sr λ_ J1=>PS ?_
 refine nx J1 (sr λ_ J2=>PS ?_);refine tp (dW rfl Tryz.underlying22 rfl hF.len) ?_;refine P2 ?_;exact nx J2 (ak (WK [] (aw rfl rfl ⟨rfl,rfl⟩)))
end Go.Proofs.YtmcjhkbcmmddgaaGreat
end

section
namespace Wal
open Go Leg Codec Api Dsk
def Worn(s x:ix):Prop:=x.getD 63 0≠1∨∃c,c≤64∧x=List.replicate c 0++s.drop c
theorem Worn.zs{s:ix}:Worn s zs:= .inl zS
theorem Worn.full{s:ix}:Worn s s:= .inr ⟨0,by omega,by simp⟩
theorem FI{x:ix}{c:Nat}(hc:c≤64):lv x zs c=List.replicate c 0++x.drop c:=by
 unfold lv Dsk.zs;rw[FB,Nat.min_eq_left hc]
theorem yJ{x:ix}{c:Nat}(hx:x.length=64)(h:x.getD 63 0≠1)(hc:c≤64):(List.replicate c 0++x.drop c).getD 63 0≠1:=by
 rw[List.getD_eq_getElem?_getD]
 by_cases q:c=64
 · subst q
   rw[List.getElem?_append_left (by simp)];simp
 · rw[List.getElem?_append_right (by rw[lr];omega),lr,List.getElem?_drop,show c+(63-c)=63 by omega]
   rwa [List.getD_eq_getElem?_getD]at h
theorem Worn.torn{s x:ix}(hx:x.length=64)(h:Worn s x){c:Nat}(hc:c≤64):Worn s (lv x Dsk.zs c):=by
 rw[FI hc];rcases h with h| ⟨d,hd,rfl⟩
 · exact .inl (yJ hx h hc)
 · right
   by_cases q:c≤d
   · refine⟨d,hd,?_⟩
     rw[ij (by simpa using q),FC,←aV,List.replicate_append_replicate,show c+(d-c)=d by omega]
   · refine⟨c,hc,?_⟩
     rw[gZ,cq (by rw[lr];omega),lr,jb,bu,show d+(c-d)=c by omega]
theorem Ez{x b:ix}{number place all:Int}(hx:x.length=64)(h:fg x number place=some (b,all)):Dz (x.take 4)=number:=by
 unfold fg at h;split at h
 · cases h
 · rename_i t ht
   split at h
   · cases h
   · split at h
     · cases h
     · rename_i h2
       have e:t=(x.take 63).take ((x.take 63).length-4):=by
        unfold mr at ht;split at ht
        · cases ht
        · split at ht
          · exact(aR ht).symm
          · cases ht
       have e2:t.take 4=x.take 4:=by
        rw[e,DL,DL,bp];congr 1;omega
       rw[e2]at h2;exact Decidable.not_not.1 λq=>h2 (.inl q)
theorem Worn.piece{number place all':Int}{pl al:Nat}{p b x:ix}(hp:p.length≤52)(h0:0<number)(h1:number<65536)(h:Worn (mw number pl al p) x)(hx:x.length=64)(q:fg x number place=some (b,all')):x=mw number pl al p:=by
 rcases h with h| ⟨c,hc,rfl⟩
 · rw[nc h]at q;cases q
 · have e:=Ez hx q
   obtain⟨r,hr⟩: ∃r,mw number pl al p=0::0::r8 (number.fdiv 256)::r8 number::r:=by
    have a1:r8 (number.fdiv 16777216)=0:=by
     have:=j0 (number.fdiv 16777216);rw[Int.fdiv_eq_ediv_of_nonneg _ (by decide)]at this ⊢;apply UInt8.toNat_inj.1;show _=0;omega
    have a2:r8 (number.fdiv 65536)=0:=by
     have:=j0 (number.fdiv 65536);rw[Int.fdiv_eq_ediv_of_nonneg _ (by decide)]at this ⊢;apply UInt8.toNat_inj.1;show _=0;omega
    exact⟨_,by unfold mw ju pF JC;rw[a1,a2];rfl⟩
   have z4:c=3∨4≤c→Dz ((List.replicate c 0++(mw number pl al p).drop c).take 4)=if c=3 then number%256 else 0:=λhc'=>by
    rcases hc' with rfl|hc'
    · rw[hr,if_pos rfl]
      show Dz [0,0,0,r8 number]=_;rw[xG,j0];simp
    · rw[if_neg (by omega),cf (by simpa using hc'),FB,Nat.min_eq_left hc']
      show Dz [0,0,0,0]=0;rw[xG];rfl
   match c,hc with
   |0,_=>rfl
   |1,_=>rw[hr];rfl
   |2,_=>rw[hr];rfl
   |3,_=>
    rw[z4 (.inl rfl),if_pos rfl]at e
    have a3:r8 (number.fdiv 256)=0:=by
     have:=j0 (number.fdiv 256);rw[Int.fdiv_eq_ediv_of_nonneg _ (by decide)]at this ⊢;apply UInt8.toNat_inj.1;show _=0;omega
    rw[hr,a3];rfl
   |c+4,hc=>
    rw[z4 (.inr (by omega)),if_neg (by omega)]at e;omega
structure Rub(rd:Int→ix)(ls:List (List UInt8))(bs:List UInt8):Prop where
 len: ∀j,(rd j).length=64
 shows:Shows rd 0 (g9 0 ls)
 worn: ∀i (h:i< (bk ((ls.length+1:Nat):Int) bs).length),Worn (bk ((ls.length+1:Nat):Int) bs)[i] (rd (((cz ls:Nat):Int)+i))
 rest: ∀j,((cz ls+bc bs.length:Nat):Int)≤j→(rd j).getD 63 0≠1
theorem Rub.scan{rd:Int→ix}{ls:List (List UInt8)}{bs:List UInt8}(h:Rub rd ls bs)(hsh: ∀b∈ls,b.length≤3000)(hb:bs.length≤3000)(hro:cz ls+bc bs.length≤2048):
 ∃ls',(ls'=ls∨ls'=ls++[bs])∧fW rd iH 0 0=(ls',((cz ls':Nat):Int))∧Shows rd 0 (g9 0 ls'):=by
 have hge:=wt ls;have hpl:=o6 hb;have hpp:=lU bs.length;have hss:(bk ((ls.length+1:Nat):Int) bs).length=bc bs.length:=cy _ _;obtain⟨f,hf⟩: ∃f,iH=ls.length+(f+1):=⟨iH-ls.length-1,by rw[qm];omega⟩;have sc:=wI (rd:=rd) ls 0 0 (f+1) hsh (by omega) h.shows;rw[←hf,show((0:Nat):Int)=0 from rfl,Int.zero_add,bm,show(((g9 0 ls).length:Nat):Int)=((cz ls:Nat):Int)from rfl]at sc;cases hst:fJ rd (((ls.length:Nat):Int)+1) ((cz ls:Nat):Int)with
 |none=>
  rw[qK hst]at sc;exact⟨ls, .inl rfl,by simpa using sc,h.shows⟩
 |some p=>
  obtain⟨b,all⟩:=p;obtain⟨f1,f2,f3⟩:=ka (h.len _) hst
  have pick: ∀(k:Nat) (hk:(k:Int)<all),∃hk2:k< (bk ((ls.length+1:Nat):Int) bs).length,rd (((cz ls:Nat):Int)+k)=(bk ((ls.length+1:Nat):Int) bs)[k]:=λk hk=>by
   obtain⟨x,hx⟩:=f3 k hk
   by_cases hk2:k< (bk ((ls.length+1:Nat):Int) bs).length
   · refine⟨hk2,?_⟩
     have w:=h.worn k hk2;rw[sJ hk2]at w ⊢;exact w.piece (qL _ _) (by omega) (by omega) (h.len _) hx
   · rw[hss]at hk2
     rw[nc (h.rest _ (by omega))]at hx;cases hx
  obtain⟨h00,e00⟩:=pick 0 f1;obtain⟨x0,hx0⟩:=f3 0 f1;rw[e00,show(((ls.length:Nat):Int)+1)=((ls.length+1:Nat):Int)by omega,rH h00 (by omega) (by omega) hb]at hx0;injection hx0 with hx0
  simp only[Prod.mk.injEq]at hx0;have hall:all=((bc bs.length:Nat):Int):=hx0.2.symm;have hst2:=uG (rd:=rd) (number:=((ls.length+1:Nat):Int)) (at':=((cz ls:Nat):Int)) (b:=bs) (by omega) (by omega) hb (λj hj=>(pick j (by rw[hall];rw[hss]at hj;omega)).2);rw[show((ls.length+1:Nat):Int)=((ls.length:Nat):Int)+1 by omega]at hst2;rw[Ar hst2]at sc;have hst3:fJ rd (((ls.length:Nat):Int)+1+1) (((cz ls:Nat):Int)+((bc bs.length:Nat):Int))=none:=yU (h.rest _ (by omega));rw[qK hst3]at sc;have hsz:=tV ls bs;refine⟨ls++[bs], .inr rfl,by rw[sc,hsz];simp,?_⟩;rw[mK];refine Shows.append h.shows λj hj=>?_
  simp only[g9,aU,bm]at hj ⊢;have:=(pick j (by rw[hall];rw[hss]at hj;omega)).2;rw[←this];congr 1;simp only[cz];omega
structure Dirt(D:DS)(ls:List (List UInt8))(bs:List UInt8):Prop where
 ok:D.Ok
 inn:Wal.DS.In D
 short: ∀b∈ls,b.length≤3000
 short':bs.length≤3000
 room:cz ls+bc bs.length≤2048
 rub:Rub (gG D.s) ls bs
 ws: ∀p∈D.ws,((cz ls:Nat):Int)≤p.1∧p.2=zs
theorem Half.dirt{D:DS}{ls:List (List UInt8)}{bs:List UInt8}(h:Half D ls bs)(mask torn n:Int):Dirt (D.crash mask torn n) ls bs:=by
 obtain⟨c,h1,h2⟩:=h.crash mask torn n;have hr: ∀j,(D.crash mask torn n).read j=gG (D.crash mask torn n).s j:=λj=>rfl
 have hss:(bk ((ls.length+1:Nat):Int) bs).length=bc bs.length:=cy _ _;refine⟨c.ok,c.inn,h.short,h.short',h.room,⟨λj=>eX c.ok.s j,h1,λi hi=>?_,λj hj=>?_⟩,λp hp=>by cases hp⟩
 · rw[←hr]
   rcases h2 (((cz ls:Nat):Int)+i) (by omega)with q| ⟨k,hk,e,q⟩|q
   · rw[q];exact Worn.zs
   · obtain rfl:k=i:=by omega
     rw[q];exact Worn.full
   · exact .inl q
 · rw[←hr]
   rcases h2 j (by omega)with q| ⟨k,hk,e,q⟩|q
   · rw[q];exact zS
   · rw[hss]at hk;omega
   · exact q
theorem xx{P:Int→ix→Prop}{mask torn base:Int}{c:Nat}{s ws:fH}(hs: ∀j,P j (gG s j))(hw: ∀p∈ws,base≤p.1∧p.2=zs)(hz: ∀j,base≤j→P j zs)(ht: ∀j x,base≤j→P j x→P j (lv x zs c)): ∀k,k≤ws.length→∀j,P j (gG (gU mask torn c s ws k) j)
 |0,_,j=>hs j
 |k+1,hk,j=>by
  have ih:=xx (mask:=mask) (torn:=torn) hs hw hz ht k (by omega);obtain⟨h1,h2⟩:=hw (kF ws k) (by rw[tO (by omega)];exact eg _);simp only[gU,jR,h2];split
  · rw[kY]
    split
    · rename_i e;subst e;exact ht _ _ h1 (ih _)
    · exact ih j
  · split
    · rw[kY]
      split
      · rename_i e;subst e;exact hz _ h1
      · exact ih j
    · exact ih j
theorem Dirt.crash{D:DS}{ls:List (List UInt8)}{bs:List UInt8}(h:Dirt D ls bs)(mask torn n:Int):Dirt (D.crash mask torn n) ls bs:=by
 have c:=OF h.ok h.inn mask torn n;have hss:(bk ((ls.length+1:Nat):Int) bs).length=bc bs.length:=cy _ _
 have key:=xx (P:=λj x=>x.length=64∧(j< ((cz ls:Nat):Int)→x=gG D.s j)∧(∀i (hi:i< (bk ((ls.length+1:Nat):Int) bs).length),j=((cz ls:Nat):Int)+i→Worn (bk ((ls.length+1:Nat):Int) bs)[i] x)∧(((cz ls+bc bs.length:Nat):Int)≤j→x.getD 63 0≠1)) (mask:=mask) (torn:=torn) (base:=((cz ls:Nat):Int)) (c:=mO n) (s:=D.s) (ws:=D.ws)
  (λj=>⟨eX h.ok.s j,λ_=>rfl,λi hi e=>by rw[e];exact h.rub.worn i hi,λe=>h.rub.rest j e⟩) h.ws
  (λj hj=>⟨by simp[zs],λq=>by omega,λ_ _ _=>Worn.zs,λ_=>zS⟩)
  (λj x hj ⟨a,_,b2,b3⟩=>⟨oj a (by simp[zs]),λq=>by omega,λi hi e=>(b2 i hi e).torn a (mN n),λe=>by rw[FI (mN n)];exact yJ a (b3 e) (mN n)⟩) D.ws.length (aM _)
 refine⟨c.ok,c.inn,h.short,h.short',h.room,⟨λj=>(key j).1,λj hj=>?_,λi hi=>(key _).2.2.1 i hi rfl,λj hj=>(key j).2.2.2 hj⟩,λp hp=>by cases hp⟩;show gG (gU mask torn (mO n) D.s D.ws D.ws.length) _=_;rw[(key _).2.1 (by simp only[cz];omega)];exact h.rub.shows j hj
theorem Hb{D:DS}(h:D.dn=true):(bI D).err≠0∧(bI D).D=D:=by
 have hw: ∀at' bs,(D.write at' bs).2=D:=λat' bs=>by
  unfold DS.write;split
  · rfl
  · rw[if_pos (.inl h)]
    cases D;simp only at h;subst h;rfl
 have w: ∀n at',(gP n at' D).2=D:=λn=>by
  induction n with
  |zero=>intro at';rfl
  |succ n ih=>
   intro at';rw[gP];split
   · exact ih _
   · split
     · rw[hw];exact ih _
     · exact hw _ _
 have s:D.sync=(4,D):=by rw[DS.sync,if_pos h]
 unfold bI;simp only;split
 · rename_i q;exact⟨q,w _ _⟩
 · rw[w,s]
   rw[if_pos (by show ¬(4:Int)=0;decide)];exact⟨by show ¬(4:Int)=0;decide,rfl⟩
theorem vV: ∀(n:Nat) (at':Int) (D:DS),D.Ok→Wal.DS.In D→D.dn=false→0≤at'→at'+n≤2048→∃D',D'.Ok∧Wal.DS.In D'∧D'.s=D.s∧(∀p∈D'.ws,p∈D.ws∨(at'≤p.1∧p.2=zs))∧((gP n at' D=(0,D')∧D'.dn=false∧∀j,D'.read j=if at'≤j∧j<at'+n then zs else D.read j)∨gP n at' D=(4,D'))
 |0,at',D,h,hi,hd,_,_=>⟨D,h,hi,rfl,λp hp=> .inl hp, .inl ⟨rfl,hd,λj=>by rw[if_neg (by omega)]⟩⟩
 |n+1,at',D,h,hi,hd,h0,h1=>by
  by_cases hz:D.read at'=zs
  · obtain⟨D',a,b,e,f,g⟩:=vV n (at'+1) D h hi hd (by omega) (by omega)
    refine⟨D',a,b,e,λp hp=>(f p hp).imp id λ⟨x,y⟩=>⟨by omega,y⟩,?_⟩;rw[gP,if_pos hz];rcases g with⟨g1,g2,g3⟩|g
    · refine .inl ⟨g1,g2,λj=>?_⟩
      rw[g3 j]
      by_cases q:j=at'
      · subst q;rw[if_neg (by omega),if_pos (by omega),hz]
      · by_cases q2:at'+1≤j∧j<at'+1+n
        · rw[if_pos q2,if_pos (by omega)]
        · rw[if_neg q2,if_neg (by omega)]
    · exact .inr g
  · by_cases hc:D.ar=true∧D.lf=0
    · have hw:=rj (D:=D) (at':=at') (bs:=[]) (by omega) (by simp) hc
      refine⟨{D with dn:=true},⟨h.s,h.ws,h.lf⟩,hi,rfl,λp hp=> .inl hp, .inr ?_⟩;rw[gP,if_neg hz,hw,if_neg (by show ¬(4:Int)=0;decide)]
    · have h4:D.ar=false∨0<D.lf:=by
       have:=h.lf;cases q:D.ar
       · exact .inl rfl
       · right
         have:D.lf≠0:=λe=>hc ⟨q,e⟩
         omega
      have hw:=oM (D:=D) (at':=at') (bs:=[]) (by omega) (by simp) hd h4;obtain⟨D',a,b,e,f,g⟩:=vV n (at'+1) (yb D at' []) (vG h (by simp) h4) (vH hi (by omega)) rfl (by omega) (by omega);refine⟨D',a,b,e.trans rfl,λp hp=>?_,?_⟩
      · rcases f p hp with q| ⟨x,y⟩
        · rcases bA.1 q with q|q
          · exact .inl q
          · rw[aX]at q;subst q
            exact .inr ⟨Int.le_refl _,wX⟩
        · exact .inr ⟨by omega,y⟩
      rw[gP,if_neg hz,hw,if_pos rfl];rcases g with⟨g1,g2,g3⟩|g
      · refine .inl ⟨g1,g2,λj=>?_⟩
        rw[g3 j,ze,wX]
        by_cases q:j=at'
        · subst q;rw[if_neg (by omega),if_pos rfl,if_pos (by omega)]
        · rw[if_neg q]
          by_cases q2:at'+1≤j∧j<at'+1+n
          · rw[if_pos q2,if_pos (by omega)]
          · rw[if_neg q2,if_neg (by omega)]
      · exact .inr g
def Rests(D:DS)(ls:List (List UInt8))(Q:List UInt8→Prop):Prop:=LogD D ls∨∃bs,Q bs∧Dirt D ls bs
theorem Rests.arm{D:DS}{ls:List (List UInt8)}{Q:List UInt8→Prop}(h:Rests D ls Q){n:Int}(hn:n≤9223372036854775807):Rests (D.arm n) ls Q:=by
 rcases h with h| ⟨bs,q,h⟩
 · exact .inl ⟨Qj h.ok hn,h.inn,h.ws,h.short,h.room,h.shows,h.zero⟩
 · exact .inr ⟨bs,q,Qj h.ok hn,h.inn,h.short,h.short',h.room,h.rub,h.ws⟩
theorem Rests.crash{D:DS}{ls:List (List UInt8)}{Q:List UInt8→Prop}(h:Rests D ls Q)(mask torn n:Int):Rests (D.crash mask torn n) ls Q:=by
 rcases h with h| ⟨bs,q,h⟩
 · exact .inl (h.crash _ _ _).1
 · exact .inr ⟨bs,q,h.crash _ _ _⟩
def OL(Q:List UInt8→Prop)(ls ls':List (List UInt8)):Prop:=ls'=ls∨∃bs,Q bs∧ls'=ls++[bs]
theorem Rests.open{D:DS}{ls:List (List UInt8)}{Q:List UInt8→Prop}(h:Rests D ls Q)(hw:D.dn=false→D.ws=[]):
 ((bI D).err≠0∧Rests (bI D).D ls Q)∨∃ls' D',bI D=⟨0,ls',((cz ls':Nat):Int),D'⟩∧OL Q ls ls'∧LogD D' ls'∧D'.dn=false:=by
 cases hd:D.dn
 case true=>
  obtain⟨e,r⟩:=Hb hd;exact .inl ⟨e,by rw[r];exact h⟩
 case false=>
 have hw:=hw hd;have hrd: ∀j,D.read j=gG D.s j:=λj=>by rw[DS.read,hw];rfl
 -- the scan
 have sc:D.Ok∧Wal.DS.In D∧∃ls',OL Q ls ls'∧fW D.read iH 0 0=(ls',((cz ls':Nat):Int))∧Shows D.read 0 (g9 0 ls')∧cz ls≤cz ls'∧cz ls'≤2048∧∀b∈ls',b.length≤3000:=by
  rcases h with h| ⟨bs,q,h⟩
  · exact⟨h.ok,h.inn,ls, .inl rfl,h.scan,h.shows,aM _,h.room,h.short⟩
  · obtain⟨ls',a,b,c⟩:=h.rub.scan h.short h.short' h.room
    have er:D.read=gG D.s:=funext hrd;have:=tV ls bs;have:=h.room;refine⟨h.ok,h.inn,ls',a.imp id λe=>⟨bs,q,e⟩,by rw[er];exact b,by rw[er];exact c,?_⟩;rcases a with rfl|rfl
    · exact⟨by omega,by omega,h.short⟩
    · refine⟨by omega,by omega,λx hx=>?_⟩
      rcases bA.1 hx with hx|hx
      · exact h.short x hx
      · rw[aX]at hx;subst hx;exact h.short'
 obtain⟨hok,hin,ls',ha,hs,hsh,hle,hro,hshort⟩:=sc;obtain⟨D',a,b,e,f,g⟩:=vV (2048- ((cz ls':Nat):Int)).toNat ((cz ls':Nat):Int) D hok hin hd (by omega) (by omega);rcases g with⟨g1,g2,g3⟩|g
 · right
   obtain⟨s1,s2,s3,_⟩:=mS g2
   have rd: ∀j,D'.sync.2.read j=if((cz ls':Nat):Int)≤j∧j<2048 then zs else D.read j:=λj=>by
    rw[tU g2,g3 j]
    by_cases q:((cz ls':Nat):Int)≤j∧j<2048
    · rw[if_pos q,if_pos (by omega)]
    · rw[if_neg q,if_neg (by omega)]
   refine⟨ls',D'.sync.2,AF hs g1 s1,ha,⟨OC a,vD b,s2,hshort,hro,λj hj=>?_,λj hj=>?_⟩,s3⟩
   · rw[rd,if_neg (by simp only[cz];omega)];exact hsh j hj
   · rw[rd]
     by_cases q:j<2048
     · rw[if_pos ⟨hj,q⟩]
     · rw[if_neg (by omega)];exact DS.In.read hin (by omega)
 · left
   rw[wZ hs g (by decide)];refine⟨(by show(4:Int)≠0;decide),?_⟩;rcases h with h| ⟨bs,q,h⟩
   · exfalso
     have: ∀n at',((cz ls:Nat):Int)≤at'→gP n at' D=(0,D):=λn=>by
      induction n with
      |zero=>intro at' _;rfl
      |succ n ih=>intro at' h2;rw[gP,if_pos (h.zero _ h2),ih _ (by omega)]
     rw[this _ _ (by omega)]at g;cases g
   · refine .inr ⟨bs,q,a,b,h.short,h.short',h.room,by rw[e];exact h.rub,λp hp=>?_⟩
     rcases f p hp with q| ⟨x,y⟩
     · rw[hw]at q;cases q
     · exact⟨by omega,y⟩
end Wal
end

section
namespace Api
open Go Leg Codec Dsk Wal
theorem Ag{a b:Nat}(ha:a<256)(hb:b<256)(h:UInt8.ofNat a=UInt8.ofNat b):a=b:=by
 have:=congrArg UInt8.toNat h;simp only[UInt8.toNat_ofNat']at this;omega
theorem Db: ∀(k n m:Nat) {r r':List UInt8},n≤k→ut n++r=ut m++r'→n=m∧r=r'
 |k,n,m,r,r',hk,h=>by
  by_cases h1:n<128
  · rw[nR h1]at h
    by_cases h2:m<128
    · rw[nR h2]at h
      injection h with e1 e2
      exact⟨Ag (by omega) (by omega) e1,e2⟩
    · rw[pi h2]at h
      injection h with e1 e2
      have:=Ag (by omega) (by omega) e1;omega
  · rw[pi h1]at h
    by_cases h2:m<128
    · rw[nR h2]at h
      injection h with e1 e2
      have:=Ag (by omega) (by omega) e1;omega
    · rw[pi h2]at h
      injection h with e1 e2
      have q:=Ag (by omega) (by omega) e1
      match k,hk with
      |0,hk=>omega
      |k+1,hk=>
       obtain⟨a,b⟩:=Db k (n / 128) (m / 128) (by omega) e2;exact⟨by omega,b⟩
theorem gi{a b:Int}{r r':List UInt8}(h:jQ a++r=jQ b++r'):a%18446744073709551616=b%18446744073709551616∧r=r':=by
 obtain⟨x,y⟩:=Db _ _ _ (aM _) h;exact⟨by omega,y⟩
theorem td{a b:Int}{r r':List UInt8}(ha:mY a)(hb:mY b)(h:jQ a++r=jQ b++r'):a=b∧r=r':=by
 obtain⟨x,y⟩:=gi h;unfold mY at ha hb;exact⟨by omega,y⟩
theorem oB: ∀{a b:List Int} {r r':List UInt8},a.length=b.length→WF a→WF b→bb a++r=bb b++r'→a=b∧r=r'
 | [],[],_,_,_,_,_,h=>⟨rfl,h⟩
 | [],_::_,_,_,hl,_,_,_=>by cases hl
 |_::_,[],_,_,hl,_,_,_=>by cases hl
 |x::a,y::b,r,r',hl,ha,hb,h=>by
  rw[gN,gN,aV,aV]at h;obtain⟨e1,e2⟩:=td (sv (ha x (cY ..))) (sv (hb y (cY ..))) h;obtain⟨e3,e4⟩:=oB (by simpa using hl) (λn hn=>ha n (dd _ hn)) (λn hn=>hb n (dd _ hn)) e2;exact⟨by rw[e1,e3],e4⟩
def Logs(e:LD)(ls:List (List UInt8))(Q:List UInt8→Prop):Prop:=(e.D.dn=false∧LogD e.D ls∧e.cnt=ls.length∧e.used=((cz ls:Nat):Int))∨(e.D.dn=true∧∃bs,Q bs∧Half e.D ls bs)
theorem IF{e:LD}(h:e.D.dn=true)(hu:0≤e.used)(bs:List UInt8):(e.put bs).2≠0∧(e.put bs).1=e:=by
 have hw: ∀at' b,(e.D.write at' b).2=e.D∧(e.D.write at' b).1≠0:=λat' b=>by
  unfold DS.write;split
  · exact⟨rfl,by show(5:Int)≠0;decide⟩
  · rw[if_pos (.inl h)]
    refine⟨?_,by show(4:Int)≠0;decide⟩;show {e.D with dn:=true}=e.D;rw[←h]
 unfold LD.put ln
 by_cases h3:3000<bs.length
 · rw[if_pos h3];exact⟨by show(2:Int)≠0;decide,rfl⟩
 rw[if_neg h3]
 by_cases h4:(bc bs.length:Int)>2048-e.used
 · rw[if_pos h4];exact⟨by show(3:Int)≠0;decide,rfl⟩
 rw[if_neg h4]
 obtain⟨s,ss,hs⟩: ∃s ss,bk ((e.cnt+1:Nat):Int) bs=s::ss:=by
  cases q:bk ((e.cnt+1:Nat):Int) bs with
  |nil=>have:=cy ((e.cnt+1:Nat):Int) bs;rw[q]at this;have:=lU bs.length;simp at*;omega
  |cons s ss=>exact⟨s,ss,rfl⟩
 have e1:fQ (bk ((e.cnt+1:Nat):Int) bs) e.used e.D=e.D.write e.used s:=by
  rw[hs,fQ,if_neg (hw _ _).2]
 rw[e1];simp only;rw[if_pos (hw _ _).2];exact⟨(hw _ _).2,by show LD.mk e.cnt e.used (e.D.write e.used s).2=e;rw[(hw _ _).1]⟩
theorem Logs.put{e:LD}{ls:List (List UInt8)}{Q:List UInt8→Prop}(h:Logs e ls Q)(he:e.Ok){bs:List UInt8}(hb:bs.length≤3000)(hq:Q bs):
 ((e.put bs).2=0∧∀R,Logs (e.put bs).1 (ls++[bs]) R)∨((e.put bs).2≠0∧Logs (e.put bs).1 ls Q):=by
 rcases h with⟨hd,hl,hc,hu⟩| ⟨hd,b,q,hh⟩
 · have eq:e.put bs=(⟨(ln e.D ls.length ((cz ls:Nat):Int) bs).cnt,(ln e.D ls.length ((cz ls:Nat):Int) bs).used,(ln e.D ls.length ((cz ls:Nat):Int) bs).D⟩,(ln e.D ls.length ((cz ls:Nat):Int) bs).err):=by
    unfold LD.put;rw[hc,hu]
   rcases IC hl hd hb with⟨_,r⟩| ⟨_,D',r,l,d,_⟩| ⟨_,D',r,l⟩
   · rw[eq,r]
     exact .inr ⟨by show(3:Int)≠0;decide, .inl ⟨hd,hl,rfl,rfl⟩⟩
   · rw[eq,r]
     exact .inl ⟨rfl,λ_=> .inl ⟨d,l,by simp,rfl⟩⟩
   · have w:=Qn (bk ((ls.length+1:Nat):Int) bs) ((cz ls:Nat):Int) e.D hl.ok hl.inn (by omega) (by rw[cy];have:=l.room;omega) (mD _ _)
     have dn:D'.dn=true:=by
      have r2:=r;unfold ln at r2;have:=l.room;rw[if_neg (by omega),if_neg (by omega)]at r2;simp only at r2;rcases w.2.2 with⟨w1,_⟩| ⟨_,_,w0,w1⟩
      · rw[hd]at w1;cases w1
      · split at r2
        · rename_i z
          injection r2 with _ _ _ r3
          rw[←r3];exact w1 z
        · rename_i z
          have z:_=(0:Int):=Decidable.not_not.1 z;have:=(mS (w0 z)).1;rw[if_neg (by rw[this];decide)]at r2;injection r2 with r3
          cases r3
     rw[eq,r];exact .inr ⟨by show(4:Int)≠0;decide, .inr ⟨dn,bs,hq,l⟩⟩
 · obtain⟨a,b'⟩:=IF hd he.used.1 bs
   exact .inr ⟨a,by rw[b'];exact .inr ⟨hd,b,q,hh⟩⟩
theorem Logs.mono{e:LD}{ls:List (List UInt8)}{Q R:List UInt8→Prop}(h:Logs e ls Q)(hr: ∀b,Q b→R b):Logs e ls R:=h.imp id λ⟨a,b,c,d⟩=>⟨a,b,hr b c,d⟩
theorem Logs.crash{e:LD}{ls:List (List UInt8)}{Q:List UInt8→Prop}(h:Logs e ls Q)(mask torn n:Int):Rests (e.D.crash mask torn n) ls Q:=by
 rcases h with⟨_,h,_⟩| ⟨_,bs,q,h⟩
 · exact .inl (h.crash _ _ _).1
 · exact .inr ⟨bs,q,h.dirt _ _ _⟩
theorem Logs.arm{e:LD}{ls:List (List UInt8)}{Q:List UInt8→Prop}(h:Logs e ls Q){n:Int}(hn:n≤9223372036854775807):Logs {e with D:=e.D.arm n} ls Q:=by
 rcases h with⟨a,h,b⟩| ⟨a,bs,q,h⟩
 · exact .inl ⟨a,⟨Qj h.ok hn,h.inn,h.ws,h.short,h.room,h.shows,h.zero⟩,b⟩
 · exact .inr ⟨a,bs,q,⟨Qj h.ok hn,h.inn,h.short,h.short',h.room,h.shows,h.zero,h.ws⟩⟩
variable {key:Nat}
theorem oE{bs:List UInt8}(h:(dC bs).2=0):bs=dZ (dC bs).1∧(0≤(dC bs).1.kind∧(dC bs).1.kind<6)∧TameR (dC bs).1.row:=by
 unfold dC at h ⊢;split
 · rename_i m q
   obtain⟨a,_,b,_,c⟩:=Cj q;exact⟨by rw[a,aU],b,c⟩
 · rename_i q
   split at h
   · rename_i m q2;exact absurd q2 (q m)
   · exact absurd h (by decide)
theorem mV{bs:List UInt8}(h:(eB bs).2=0):bs=bS (eB bs).1∧(0≤(eB bs).1.kind∧(eB bs).1.kind<10)∧TameR (eB bs).1.row:=by
 unfold eB at h ⊢;split
 · rename_i m q
   obtain⟨a,_,b,_,c⟩:=I7 q;exact⟨by rw[a,aU],b,c⟩
 · rename_i q
   split at h
   · rename_i m q2;exact absurd q2 (q m)
   · exact absurd h (by decide)
theorem zB{m:RecT}(h:0≤m.kind∧m.kind<6): ∃r,dZ m=jQ m.kind++r:=by
 unfold dZ
 repeat' split
 all_goals first| (exfalso;omega)| (simp only[gN,aV];exact⟨_,rfl⟩)
theorem zC{m:MsgT}(h:0≤m.kind∧m.kind<10): ∃r,bS m=jQ m.kind++r:=by
 unfold bS
 repeat' split
 all_goals first| (simp only[gN,aV];exact⟨_,rfl⟩)| (exfalso;rename_i a _ b _ _ _ _;have:=xk a b;omega)
variable {s:MS LD}
theorem HO{x:Slot}{s:MS LD}(h:x.run=some s)(n:Int):tB x n= {x with run:=some (s.dsk (s.e.D.arm n))}:=by unfold tB;rw[h]
theorem HQ{x:Slot}(h:x.run=none)(n:Int):tB x n= {x with D:=x.D.arm n}:=by unfold tB;rw[h]
theorem BW{x:Slot}{s:MS LD}(h:x.run=some s)(i:Nat):(il i x).1=x:=by unfold il;rw[h]
theorem BX{x:Slot}(h:x.run=none)(i:Nat):(il i x).1= {x with run:=(dB i x.D).1,D:=(bI x.D).D}:=by unfold il;rw[h]
theorem EI(i:Nat):o9 i=Slot.mk (dB i DS.new).1 (bI DS.new).D []:=by
 show(il i .nil).1=_;unfold il;show Slot.mk (dB i DS.new).1 _ _=_;rfl
theorem My(A:Option (MS LD))(B:DS)(C:List ReplyT):(Slot.mk A B C).run=A∧(Slot.mk A B C).D=B:=⟨rfl,rfl⟩
theorem w5{i:Nat}(hi:i<5):(CL.new.at' i).run=(dB i DS.new).1∧(CL.new.at' i).D=(bI DS.new).D:=by
 have e:CL.new.at' i=o9 i:=by simp[CL.new,CL.at',List.getD_eq_getElem?_getD,hi]
 rw[e,EI];exact My _ _ _
end Api
end

section
namespace Api
open Go Leg Codec Dsk Wal
section
variable {R S:Int→Int→RowT→Prop} {j v:Int} {ls:List (List UInt8)} {l:List RowT}
theorem wM{δ:Type}(b:List UInt8): ∀(ls:List (List UInt8)) (s:MS δ),gS (ls++[b]) s=(match gS ls s with
 |none=>none
 |some t=>if(dC b).2≠0 then none else some (ig t (dC b).1))
 | [],s=>by
  show gS [b] s=_;rw[gS,gS];split
  · rfl
  · rw[gS]
 |c::ls,s=>by
  show gS (c::(ls++[b])) s=_;rw[gS,gS];split
  · rfl
  · exact wM b ls _
end
section
variable {R:Int→Int→RowT→Prop} {l0:List RowT} {s:MS LD}
end
theorem Rests.mono{D:DS}{ls:List (List UInt8)}{Q R:List UInt8→Prop}(h:Rests D ls Q)(hr: ∀b,Q b→R b):Rests D ls R:=h.imp id λ⟨b,q,d⟩=>⟨b,hr b q,d⟩
section
variable {R S:Int→Int→RowT→Prop} {l:List RowT} {j:Int}
end
section
variable {Ls Ls':Nat→List RowT} {a:CL}
theorem GY{P:Nat→MsgT→Prop}{f:Nat}{W:List (List MsgT)}{s:SaidT}(h: ∀k,∀m∈W.getD k [],P k m)(hs:dm ((f:Nat):Int) s.to'=true→P (bw ((f:Nat):Int) s.to') s.msg): ∀k,∀m∈(qg W f s).getD k [],P k m:=λk=>by
 unfold qg;split
 · rename_i hv
   by_cases q:k=bw ((f:Nat):Int) s.to'
   · subst q
     by_cases hl:bw ((f:Nat):Int) s.to'<W.length
     · rw[List.getD_eq_getElem?_getD,List.getElem?_set_self hl,Li]
       intro m hm;split at hm
       · rcases bA.1 hm with hm|hm
         · exact h _ m hm
         · rw[aX]at hm;subst hm;exact hs hv
       · exact h _ m hm
     · rw[nw (by omega)];exact h _
   · rw[List.getD_eq_getElem?_getD,List.getElem?_set_ne (λe=>q e.symm),←List.getD_eq_getElem?_getD];exact h k
 · exact h k
theorem wB{P:Nat→MsgT→Prop}{f:Nat}: ∀(l:List SaidT) {W:List (List MsgT)},(∀k,∀m∈W.getD k [],P k m)→(∀x∈l,dm ((f:Nat):Int) x.to'=true→P (bw ((f:Nat):Int) x.to') x.msg)→∀k,∀m∈(iu W f l).getD k [],P k m
 | [],_,h,_=>h
 |s::l,W,h,hl=>wB l (W:=qg W f s) (GY h (hl s (cY ..))) λx hx=>hl x (dd _ hx)
theorem FF{f t:Nat}(ht:t<5):(f*5+t) / 5=f∧(f*5+t)%5=t:=by omega
end
def blt(a b:BallotT):Prop:=a.round<b.round∨(a.round=b.round∧a.who<b.who)
theorem ul(a b:BallotT):xg a b=true↔blt a b:=by
 unfold xg blt
 by_cases h:a.round=b.round
 · rw[if_neg (λq=>q h)];simp[h]
 · rw[if_pos h];simp[h]
theorem tx{a b:BallotT}(h1:a.round=b.round)(h2:a.who=b.who):a=b:=by
 cases a;cases b;simp only at h1 h2;rw[h1,h2]
theorem vL(a:BallotT): ¬blt a a:=by unfold blt;omega
theorem Bg(a b:BallotT):blt a b∨a=b∨blt b a:=by
 by_cases h1:blt a b
 · exact .inl h1
 · by_cases h2:blt b a
   · exact .inr (.inr h2)
   · exact .inr (.inl (tx (by unfold blt at h1 h2;omega) (by unfold blt at h1 h2;omega)))
theorem JA{a b c:BallotT}(h1:blt a b)(h2: ¬blt c b):blt a c:=by unfold blt at*;omega
theorem HN{a b c:BallotT}(h1:blt a b)(h2:blt b c):blt a c:=by unfold blt at*;omega
structure VEv where
 ep:Int
 b:BallotT
 c:Option ChangeT
structure Gh where
 V:Int→Option ViewT
 G:Int→BallotT→Option ChangeT
 H:Nat→List VEv
def Tk(g:Gh)(w:Nat)(e:Int)(b:BallotT)(c:ChangeT):Prop:=(⟨e,b,some c⟩:VEv)∈g.H w
def Hi(g:Gh)(w:Nat)(e:Int)(b:BallotT):Prop:=∃x∈g.H w,x.ep=e∧¬blt x.b b
def Vd(g:Gh)(w:Nat)(e:Int)(b h:BallotT):Prop:=Hi g w e b∧∀b' c',Tk g w e b' c'→blt b' b→¬blt h b'
def Vowed(g:Gh)(w:Nat)(e:Int)(b h:BallotT)(c:ChangeT):Prop:=Vd g w e b h∧(1≤h.round→Tk g w e h c∧¬blt b h)
def OT(v:ViewT)(q:Int)(P:Nat→Prop):Prop:=(0≤q∧q<32)∧dY v q=true∧∀w:Nat,w<5→gA v ((w:Nat):Int)=true→j7 q ((w:Nat):Int)=true→P w
def Chosen(g:Gh)(e:Int)(b:BallotT)(c:ChangeT):Prop:=∃v q,g.V e=some v∧OT v q λw=>Tk g w e b c
def Safe(g:Gh)(e:Int)(b:BallotT)(c:ChangeT):Prop:=∀b' c',blt b' b→c'≠c→∃v q,g.V e=some v∧OT v q λw=>(∃x∈g.H w,x.ep=e∧blt b' x.b)∧¬Tk g w e b' c'
def qD(h:List VEv):Prop:=h.Pairwise λx y=>x.ep=y.ep→¬blt y.b x.b
structure Glob(g:Gh):Prop where
 first:g.V 1=some firstV
 view: ∀e v,g.V e=some v→v.epoch=e∧GoodV v
 next: ∀e v,g.V e=some v→e≠1→∃u b c,g.V (e-1)=some u∧Chosen g (e-1) b c∧cm u c=(v,0)
 sort: ∀w,qD (g.H w)
 take: ∀w e b c,Tk g w e b c→g.G e b=some c∧1≤b.round
 own: ∀e b c,g.G e b=some c→∃j:Nat,j<5∧b.who=((j:Nat):Int)∧∃x∈g.H j,x.ep=e∧x.b=b
 safe: ∀e b c,g.G e b=some c→Safe g e b c
structure Ext(j:Nat)(g g':Gh):Prop where
 V: ∀e v,g.V e=some v→g'.V e=some v
 G: ∀e b c,g.G e b=some c→g'.G e b=some c
 Gn: ∀e b,b.who≠((j:Nat):Int)→g'.G e b=g.G e b
 H: ∀w,w≠j→g'.H w=g.H w
 Hj:g.H j<+:g'.H j
theorem Ext.refl(j:Nat)(g:Gh):Ext j g g:=⟨λ_ _ h=>h,λ_ _ _ h=>h,λ_ _ _=>rfl,λ_ _=>rfl,List.prefix_refl _⟩
abbrev JS:= @Ext.refl
theorem Ext.trans{j:Nat}{a b c:Gh}(h:Ext j a b)(k:Ext j b c):Ext j a c:=
 ⟨λe v q=>k.V e v (h.V e v q),λe b c q=>k.G e b c (h.G e b c q),λe b q=>(k.Gn e b q).trans (h.Gn e b q),λw q=>(k.H w q).trans (h.H w q),h.Hj.trans k.Hj⟩
theorem Ext.pre{j:Nat}{g g':Gh}(h:Ext j g g')(w:Nat):g.H w<+:g'.H w:=by
 by_cases q:w=j
 · subst q;exact h.Hj
 · rw[h.H w q];exact List.prefix_refl _
theorem Ei{h h':List VEv}(p:h<+:h')(s:qD h'){x y:VEv}(hx:x∈h)(hy:y∈h')(e:x.ep=y.ep):y∈h∨¬blt y.b x.b:=by
 obtain⟨t,rfl⟩:=p;rcases bA.1 hy with q|q
 · exact .inl q
 · exact .inr ((List.pairwise_append.1 s).2.2 x hx y q e)
section
variable {g g':Gh} {w:Nat} {e:Int} {b b' h:BallotT} {c c':ChangeT}
theorem Tk.mono(p:g.H w<+:g'.H w)(t:Tk g w e b c):Tk g' w e b c:=p.subset t
theorem Ij(p:g.H w<+:g'.H w)(s:qD (g'.H w)){x:VEv}(hx:x∈g.H w)(hxe:x.ep=e)(hb:blt b x.b)(t:Tk g' w e b c):Tk g w e b c:=by
 rcases Ei p s hx t (show x.ep=e from hxe)with q|q
 · exact q
 · exact absurd hb q
theorem Vd.mono(p:g.H w<+:g'.H w)(s:qD (g'.H w))(t:Vd g w e b h):Vd g' w e b h:=by
 obtain⟨⟨x,hx,hxe,hxb⟩,k⟩:=t;exact⟨⟨x,p.subset hx,hxe,hxb⟩,λb' c' q l=>k b' c' (Ij p s hx hxe (JA l hxb) q) l⟩
theorem Vowed.mono(p:g.H w<+:g'.H w)(s:qD (g'.H w))(t:Vowed g w e b h c):Vowed g' w e b h c:=⟨t.1.mono p s,λq=>⟨(t.2 q).1.mono p,(t.2 q).2⟩⟩
theorem Chosen.mono(p: ∀w,g.H w<+:g'.H w)(V: ∀e v,g.V e=some v→g'.V e=some v)(t:Chosen g e b c):Chosen g' e b c:=by
 obtain⟨v,q,h1,h2,h3,h4⟩:=t;exact⟨v,q,V _ _ h1,h2,h3,λw a b c=>(h4 w a b c).mono (p w)⟩
theorem Safe.mono(p: ∀w,g.H w<+:g'.H w)(s: ∀w,qD (g'.H w))(V: ∀e v,g.V e=some v→g'.V e=some v)(t:Safe g e b c):Safe g' e b c:=λb' c' l n=>by
 obtain⟨v,q,h1,h2,h3,h4⟩:=t b' c' l n;refine⟨v,q,V _ _ h1,h2,h3,λw a b c=>?_⟩;obtain⟨⟨x,hx,hxe,hxb⟩,k⟩:=h4 w a b c;exact⟨⟨x,(p w).subset hx,hxe,hxb⟩,λz=>k (Ij (p w) (s w) hx hxe hxb z)⟩
end
theorem JF: ∀(q m:Fin 32) (u:Fin 5),j7 (qU .i64 ((q.val:Nat):Int) ((m.val:Nat):Int)) ((u.val:Nat):Int)=(j7 ((q.val:Nat):Int) ((u.val:Nat):Int)&&j7 ((m.val:Nat):Int) ((u.val:Nat):Int)):=by decide+kernel
theorem uH(b:Int)(k:Nat):(kJ b k).length=(List.range k).countP λi=>j7 b ((i:Nat):Int):=by
 unfold kJ;rw[bW,List.countP_eq_length_filter]
theorem xy(p q m:Nat→Bool): ∀l:List Nat,(∀i∈l,¬(p i=true∧q i=true∧m i=true))→(l.countP λi=>p i&&m i)+(l.countP λi=>q i&&m i)≤l.countP m
 | [],_=>aM _
 |i::l,h=>by
  have ih:=xy p q m l λk hk=>h k (dd _ hk)
  have hi:=h i (cY ..);simp only[List.countP_cons];cases hp:p i<;>cases hq:q i<;>cases hm:m i<;>simp_all<;>omega
theorem wQ{v:ViewT}(hv:GoodV v){q1 q2:Int}{P1 P2:Nat→Prop}(h1:OT v q1 P1)(h2:OT v q2 P2): ∃w,w<5∧P1 w∧P2 w:=by
 obtain⟨r1,e1,k1⟩:=h1;obtain⟨r2,e2,k2⟩:=h2;refine Classical.byContradiction λno=>?_
 have hm:=hv.mem
 have cnt: ∀q:Int,0≤q∧q<32→(x7 (qU .i64 q v.members)).length=(List.range 5).countP λi=>j7 q ((i:Nat):Int)&&j7 v.members ((i:Nat):Int):=λq hq=>by
  unfold x7;rw[uH];refine List.countP_congr λi hi=>?_
  have hi:=ee.1 hi;have:=JF ⟨q.toNat,by omega⟩ ⟨v.members.toNat,by omega⟩ ⟨i,hi⟩;simp only at this;rw[show((q.toNat:Nat):Int)=q by omega,show((v.members.toNat:Nat):Int)=v.members by omega]at this;rw[this]
 have c:=xy (λi=>j7 q1 ((i:Nat):Int)) (λi=>j7 q2 ((i:Nat):Int)) (λi=>j7 v.members ((i:Nat):Int)) (List.range 5) λi hi ⟨a,b,d⟩=>by
  have hi:=ee.1 hi;have hmb:gA v ((i:Nat):Int)=true:=by unfold gA;rw[d,show cw ((i:Nat):Int)=true from decide_eq_true ⟨by omega,by omega⟩];rfl
  exact no ⟨i,hi,k1 i hi hmb a,k2 i hi hmb b⟩
 unfold dY I8 at e1 e2;have e1:=of_decide_eq_true e1;have e2:=of_decide_eq_true e2;rw[cnt q1 r1]at e1;rw[cnt q2 r2]at e2;unfold x7 at e1 e2;rw[uH]at e1 e2;omega
section
variable {g:Gh} (G:Glob g)
include G
theorem zJ{e:Int}{b1 b2:BallotT}{c1 c2:ChangeT}(h1:Chosen g e b1 c1)(h2:Chosen g e b2 c2)(hl:blt b1 b2):c1=c2:=by
 obtain⟨v,q1,hv,k1⟩:=h1;obtain⟨v2,q2,hv2,k2⟩:=h2;rw[hv]at hv2;obtain rfl:=aR hv2;have gv:=(G.view e v hv).2;obtain⟨w,_,t2,_⟩:=wQ gv k2 k2;refine Classical.byContradiction λn=>?_
 obtain⟨v3,q3,hv3,k3⟩:=G.safe e b2 c2 (G.take w e b2 c2 t2).1 b1 c1 hl n;rw[hv]at hv3;obtain rfl:=aR hv3;obtain⟨w,_,t1,_,t3⟩:=wQ gv k1 k3;exact t3 t1
theorem Fp{e:Int}{b1 b2:BallotT}{c1 c2:ChangeT}(h1:Chosen g e b1 c1)(h2:Chosen g e b2 c2):c1=c2:=by
 rcases Bg b1 b2 with h|h|h
 · exact zJ G h1 h2 h
 · subst h
   obtain⟨v,q1,hv,k1⟩:=h1;obtain⟨v2,q2,hv2,k2⟩:=h2;rw[hv]at hv2;obtain rfl:=aR hv2;obtain⟨w,_,t1,t2⟩:=wQ (G.view e v hv).2 k1 k2;have a1:=(G.take w e b1 c1 t1).1;have a2:=(G.take w e b1 c2 t2).1;rw[a1]at a2;exact aR a2
 · exact(zJ G h2 h1 h).symm
end
def Gh.addH(g:Gh)(j:Nat)(x:VEv):Gh:= {g with H:=λw=>if w=j then g.H j++[x]else g.H w}
def Gh.addG(g:Gh)(e:Int)(b:BallotT)(c:ChangeT):Gh:= {g with G:=λe' b'=>if e'=e∧b'.round=b.round∧b'.who=b.who then some c else g.G e' b'}
def Gh.addV(g:Gh)(v:ViewT):Gh:= {g with V:=λe=>if e=v.epoch then some v else g.V e}
section
variable {g:Gh} {j:Nat}
theorem kN(x:VEv):(g.addH j x).H j=g.H j++[x]:=by show(if j=j then _ else _)=_;rw[if_pos rfl]
theorem rY(x:VEv){w:Nat}(h:w≠j):(g.addH j x).H w=g.H w:=by show(if w=j then _ else _)=_;rw[if_neg h]
theorem xL(x:VEv):Ext j g (g.addH j x):=⟨λ_ _ h=>h,λ_ _ _ h=>h,λ_ _ _=>rfl,λw h=>rY x h,by rw[kN];exact List.prefix_append _ _⟩
theorem Jf(G:Glob g){x:VEv}(hs: ∀y∈g.H j,y.ep=x.ep→¬blt x.b y.b)(hc: ∀c,x.c=some c→g.G x.ep x.b=some c∧1≤x.b.round):Glob (g.addH j x):=by
 have E:=xL (g:=g) (j:=j) x
 have st: ∀w,qD ((g.addH j x).H w):=λw=>by
  by_cases q:w=j
  · subst q
    rw[kN];refine List.pairwise_append.2 ⟨G.sort w,List.pairwise_singleton _ _,λy hy z hz=>?_⟩;rw[aX]at hz;subst hz;exact hs y hy
  · rw[rY x q];exact G.sort w
 refine⟨G.first,G.view,λe v hv h1=>?_,st,λw e b c t=>?_,λe b c q=>?_,λe b c q=>(G.safe e b c q).mono (E.pre) st E.V⟩
 · obtain⟨u,b,c,a1,a2,a3⟩:=G.next e v hv h1
   exact⟨u,b,c,a1,a2.mono E.pre E.V,a3⟩
 · unfold Tk at t
   by_cases q:w=j
   · subst q
     rw[kN]at t;rcases bA.1 t with t|t
     · exact G.take w e b c t
     · rw[aX]at t
       have:=hc c (by rw[←t]);rw[←t]at this;exact this
   · rw[rY x q]at t;exact G.take w e b c t
 · obtain⟨k,hk,hw,y,hy,z⟩:=G.own e b c q
   exact⟨k,hk,hw,y,(E.pre k).subset hy,z⟩
theorem Gi(e:Int)(b:BallotT)(c:ChangeT):(g.addG e b c).G e b=some c:=by show(if _ then _ else _)=_;rw[if_pos ⟨rfl,rfl,rfl⟩]
theorem DF{e:Int}{b:BallotT}{c:ChangeT}(n:g.G e b=none)(hw:b.who=((j:Nat):Int)):Ext j g (g.addG e b c):=by
 refine⟨λ_ _ h=>h,λe' b' c' h=>?_,λe' b' h=>?_,λ_ _=>rfl,List.prefix_refl _⟩
 · show(if _ then _ else _)=_
   split
   · rename_i q
     rw[q.1,tx q.2.1 q.2.2,n]at h;cases h
   · exact h
 · show(if _ then _ else _)=_
   rw[if_neg (λq=>h (by rw[q.2.2,hw]))]
theorem MF(G:Glob g){e:Int}{b:BallotT}{c:ChangeT}(n:g.G e b=none)(hj:j<5)(hw:b.who=((j:Nat):Int))(hx: ∃x∈g.H j,x.ep=e∧x.b=b)(hs:Safe g e b c):Glob (g.addG e b c):=by
 have E:=DF (j:=j) (c:=c) n hw;refine⟨G.first,G.view,G.next,G.sort,λw e' b' c' t=>⟨E.G _ _ _ (G.take w e' b' c' t).1,(G.take w e' b' c' t).2⟩,λe' b' c' q=>?_,λe' b' c' q=>?_⟩
 · have q:(if e'=e∧b'.round=b.round∧b'.who=b.who then some c else g.G e' b')=some c':=q
   split at q
   · rename_i z
     obtain⟨z1,z2,z3⟩:=z;subst z1;obtain rfl:=tx z2 z3;exact⟨j,hj,hw,hx⟩
   · exact G.own e' b' c' q
 · have q2:(if e'=e∧b'.round=b.round∧b'.who=b.who then some c else g.G e' b')=some c':=q
   clear q;split at q2
   · rename_i z
     obtain⟨z1,z2,z3⟩:=z;subst z1;obtain rfl:=tx z2 z3;obtain rfl:=aR q2;exact hs
   · exact G.safe e' b' c' q2
theorem DE{v:ViewT}(n:g.V v.epoch=none):Ext j g (g.addV v):=by
 refine⟨λe u h=>?_,λ_ _ _ h=>h,λ_ _ _=>rfl,λ_ _=>rfl,List.prefix_refl _⟩;show(if _ then _ else _)=_;split
 · rename_i q;rw[q,n]at h;cases h
 · exact h
theorem Lb(v:ViewT):(g.addV v).V v.epoch=some v:=by show(if _ then _ else _)=_;rw[if_pos rfl]
theorem ME(G:Glob g){e:Int}{u v:ViewT}{b:BallotT}{c:ChangeT}(n:g.V v.epoch=none)(hu:g.V e=some u)(hc:Chosen g e b c)(hn:cm u c=(v,0))(he:v.epoch=e+1)(hv:GoodV v):Glob (g.addV v):=by
 have E:=DE (j:=0) n;refine⟨E.V _ _ G.first,λe' v' q=>?_,λe' v' q h1=>?_,G.sort,G.take,G.own,λe b c q=>(G.safe e b c q).mono E.pre G.sort E.V⟩
 · have q:(if e'=v.epoch then some v else g.V e')=some v':=q
   split at q
   · rename_i z
     obtain rfl:=aR q;exact⟨z.symm,hv⟩
   · exact G.view e' v' q
 · have q:(if e'=v.epoch then some v else g.V e')=some v':=q
   split at q
   · rename_i z
     obtain rfl:=aR q;have e1:e'-1=e:=by omega
     rw[e1];exact⟨u,b,c,E.V _ _ hu,hc.mono E.pre E.V,hn⟩
   · obtain⟨u',b',c',a1,a2,a3⟩:=G.next e' v' q h1
     exact⟨u',b',c',E.V _ _ a1,a2.mono E.pre E.V,a3⟩
end
theorem lh{a b:BallotT}(h:a.flat=b.flat):a=b:=by
 cases a;cases b;simp only[BallotT.flat,gf,bu,List.cons.injEq,and_true]at h;rw[h.1,h.2]
theorem tn{a b:ChangeT}(h:a.flat=b.flat):a=b:=by
 cases a;cases b;simp only[ChangeT.flat,gf,bu,List.cons.injEq,and_true]at h;rw[h.1,h.2.1,h.2.2]
theorem tQ{a b:ViewT}(h:a.flat=b.flat):a=b:=by
 cases a;cases b;simp only[ViewT.flat,gf,bu,List.cons.injEq]at h;obtain⟨rfl,rfl,h⟩:=h;rw[Vector.toList_inj.1 h]
theorem Mx{m:MsgT}{g:Bool}{bs r:List UInt8}(h:cH bs=some ((m,g),r)):0≤m.epoch∧m.epoch<9223372036854775808:=by
 obtain⟨k,r1,_,h⟩:=ba h
 have fin: ∀{m':MsgT} {g':Bool} {b r:List UInt8},pr (m',g') b=some ((m,g),r)→0≤m'.epoch∧m'.epoch<9223372036854775808→0≤m.epoch∧m.epoch<9223372036854775808:=λh q=>by
  obtain⟨e,_⟩:=fO h;injection e with e1 e2
  exact e1▸q
 have z:(0:Int)≤0∧(0:Int)<9223372036854775808:=by decide
 split at h
 · obtain⟨_,_,_,h⟩:=ba h;obtain⟨x,_,hx,h⟩:=ba h;exact fin h z
 split at h
 · obtain⟨_,_,_,h⟩:=ba h;exact fin h z
 split at h
 · obtain⟨n,_,hn,h⟩:=ba h;obtain⟨b,_,hb,h⟩:=ba h;exact fin h ⟨(fj hn).1,(fj hn).2.1⟩
 split at h
 · obtain⟨n,_,hn,h⟩:=ba h;obtain⟨b,_,hb,h⟩:=ba h;obtain⟨d,_,hd,h⟩:=ba h;obtain⟨c,_,hc,h⟩:=ba h;exact fin h ⟨(fj hn).1,(fj hn).2.1⟩
 split at h
 · obtain⟨n,_,hn,h⟩:=ba h;obtain⟨b,_,hb,h⟩:=ba h;obtain⟨c,_,hc,h⟩:=ba h;exact fin h ⟨(fj hn).1,(fj hn).2.1⟩
 split at h
 · obtain⟨v,_,hv,h⟩:=ba h;exact fin h z
 split at h
 · obtain⟨_,_,_,h⟩:=ba h;obtain⟨v,_,hv,h⟩:=ba h;exact fin h z
 · exact fin h z
theorem A3(bs:List UInt8):mY (eB bs).1.epoch:=by
 unfold eB;split
 · rename_i m h
   have:=Mx h;show mY m.epoch;exact⟨by omega,by omega⟩
 · show mY (0:Int)
   exact⟨by decide,by decide⟩
theorem jF{m:MsgT}(hm:0≤m.kind∧m.kind<10)(h:(eB (bS m)).2=0):(eB (bS m)).1.kind=m.kind:=by
 obtain⟨e,hk,_⟩:=mV h;generalize (eB (bS m)).1=q at*;obtain⟨r,e1⟩:=zC hm;obtain⟨r',e2⟩:=zC hk;rw[e1,e2]at e;have:=(gi e).1;omega
theorem sR{m:RecT}(hm:0≤m.kind∧m.kind<6)(h:(dC (dZ m)).2=0):(dC (dZ m)).1.kind=m.kind:=by
 obtain⟨e,hk,_⟩:=oE h;generalize (dC (dZ m)).1=q at*;obtain⟨r,e1⟩:=zB hm;obtain⟨r',e2⟩:=zB hk;rw[e1,e2]at e;have:=(gi e).1;omega
theorem LS{m:MsgT}(k:m.kind=4):bS m=jQ 4++(jQ m.epoch++(bb m.ballot.flat++(bb m.had.flat++bb m.change.flat))):=by
 unfold bS;rw[if_neg (by rw[k];decide),if_neg (by omega),if_neg (by rw[k];decide),if_pos k,k];simp[gN,bb]
theorem LQ{m:MsgT}(k:m.kind=5):bS m=jQ 5++(jQ m.epoch++(bb m.ballot.flat++bb m.change.flat)):=by
 unfold bS;rw[if_neg (by rw[k];decide),if_neg (by omega),if_neg (by rw[k];decide),if_neg (by omega),if_pos k,k];simp[gN,bb]
theorem LP{m:MsgT}(k:m.kind=6):bS m=jQ 6++(jQ m.epoch++bb m.ballot.flat):=by
 unfold bS;rw[if_neg (by rw[k];decide),if_neg (by omega),if_pos (by rw[k];decide),k];simp[gN,bb]
theorem LO{m:MsgT}(k:m.kind=7):bS m=jQ 7++bb m.view.flat:=by
 unfold bS;rw[if_neg (by rw[k];decide),if_neg (by omega),if_neg (by rw[k];decide),if_neg (by omega),if_neg (by omega),if_pos k,k];simp[gN,bb]
theorem LN{m:MsgT}(k:m.kind=8):bS m=jQ 8++(jQ m.whose++bb m.view.flat):=by
 unfold bS;rw[if_neg (by rw[k];decide),if_neg (by omega),if_neg (by rw[k];decide),if_neg (by omega),if_neg (by omega),if_neg (by omega),if_pos k,k];simp[gN,bb]
theorem LM{m:RecT}(k:m.kind=3):dZ m=jQ 3++(jQ m.epoch++bb m.ballot.flat):=by
 unfold dZ;rw[if_neg (by omega),if_neg (by omega),if_neg (by omega),if_pos k,k];simp[gN,bb]
theorem LL{m:RecT}(k:m.kind=4):dZ m=jQ 4++(jQ m.epoch++(bb m.ballot.flat++bb m.change.flat)):=by
 unfold dZ;rw[if_neg (by omega),if_neg (by omega),if_neg (by omega),if_neg (by omega),if_pos k,k];simp[gN,bb]
theorem LK{m:RecT}(k:m.kind=5):dZ m=jQ 5++bb m.view.flat:=by
 unfold dZ;rw[if_neg (by omega),if_neg (by omega),if_neg (by omega),if_neg (by omega),if_neg (by omega),if_pos k,k];simp[gN,bb]
theorem MX(a b:BallotT):a.flat.length=b.flat.length:=rfl
theorem PQ(a b:ChangeT):a.flat.length=b.flat.length:=rfl
theorem O0(a b:ViewT):a.flat.length=b.flat.length:=by simp[ViewT.flat]
theorem kM{a b:List Int}(hl:a.length=b.length)(ha:WF a)(hb:WF b)(h:bb a=bb b):a=b:=(oB (r:=[]) (r':=[]) hl ha hb (by rw[aU,aU];exact h)).1
section
variable {e:Int} {b h:BallotT} {c:ChangeT} {v:ViewT}
theorem Jq(he:mY e)(hb:WF b.flat)(hh:WF h.flat)(hc:WF c.flat)(hd:(eB (bS (fc e b h c))).2=0):(eB (bS (fc e b h c))).1.epoch=e∧(eB (bS (fc e b h c))).1.ballot=b∧(eB (bS (fc e b h c))).1.had=h∧(eB (bS (fc e b h c))).1.change=c:=by
 have hk:=jF (m:=fc e b h c) (show(0:Int)≤4∧(4:Int)<10 by decide) hd;obtain⟨q,_,_⟩:=mV hd;have ep:=A3 (bS (fc e b h c));have mg:=nS (bS (fc e b h c));generalize (eB (bS (fc e b h c))).1=m at*;rw[LS (m:=fc e b h c) rfl,LS (m:=m) hk]at q;obtain⟨q1,q⟩:=td he ep (gi q).2;obtain⟨q2,q⟩:=oB (MX b m.ballot) hb mg.ballot q;obtain⟨q3,q⟩:=oB (MX h m.had) hh mg.had q;exact⟨q1.symm,(lh q2).symm,(lh q3).symm,(tn (kM (PQ c m.change) hc mg.change q)).symm⟩
theorem KR(he:mY e)(hb:WF b.flat)(hc:WF c.flat)(hd:(eB (bS (ff e b c))).2=0):(eB (bS (ff e b c))).1.epoch=e∧(eB (bS (ff e b c))).1.ballot=b∧(eB (bS (ff e b c))).1.change=c:=by
 have hk:=jF (m:=ff e b c) (show(0:Int)≤5∧(5:Int)<10 by decide) hd;obtain⟨q,_,_⟩:=mV hd;have ep:=A3 (bS (ff e b c));have mg:=nS (bS (ff e b c));generalize (eB (bS (ff e b c))).1=m at*;rw[LQ (m:=ff e b c) rfl,LQ (m:=m) hk]at q;obtain⟨q1,q⟩:=td he ep (gi q).2;obtain⟨q2,q⟩:=oB (MX b m.ballot) hb mg.ballot q;exact⟨q1.symm,(lh q2).symm,(tn (kM (PQ c m.change) hc mg.change q)).symm⟩
theorem HD(he:mY e)(hb:WF b.flat)(hd:(eB (bS (eU e b))).2=0):(eB (bS (eU e b))).1.epoch=e∧(eB (bS (eU e b))).1.ballot=b:=by
 have hk:=jF (m:=eU e b) (show(0:Int)≤6∧(6:Int)<10 by decide) hd;obtain⟨q,_,_⟩:=mV hd;have ep:=A3 (bS (eU e b));have mg:=nS (bS (eU e b));generalize (eB (bS (eU e b))).1=m at*;rw[LP (m:=eU e b) rfl,LP (m:=m) hk]at q;obtain⟨q1,q⟩:=td he ep (gi q).2;exact⟨q1.symm,(lh (kM (MX b m.ballot) hb mg.ballot q)).symm⟩
theorem Jo(hv:WF v.flat)(hd:(eB (bS (fI v))).2=0):(eB (bS (fI v))).1.view=v:=by
 have hk:=jF (m:=fI v) (show(0:Int)≤7∧(7:Int)<10 by decide) hd;obtain⟨q,_,_⟩:=mV hd;have mg:=nS (bS (fI v));generalize (eB (bS (fI v))).1=m at*;rw[LO (m:=fI v) rfl,LO (m:=m) hk]at q;exact(tQ (kM (O0 v m.view) hv mg.view.wf (gi q).2)).symm
theorem Jp{i:Int}(hv:WF v.flat)(hd:(eB (bS (iz i v))).2=0):(eB (bS (iz i v))).1.view=v:=by
 have hk:=jF (m:=iz i v) (show(0:Int)≤8∧(8:Int)<10 by decide) hd;obtain⟨q,_,_⟩:=mV hd;have mg:=nS (bS (iz i v));generalize (eB (bS (iz i v))).1=m at*;rw[LN (m:=iz i v) rfl,LN (m:=m) hk]at q;exact(tQ (kM (O0 v m.view) hv mg.view.wf (gi (gi q).2).2)).symm
theorem vJ(hb:WF b.flat)(hd:(dC (dZ (fk e b))).2=0):(dC (dZ (fk e b))).1.kind=3∧(dC (dZ (fk e b))).1.ballot=b:=by
 have hk:=sR (m:=fk e b) (show(0:Int)≤3∧(3:Int)<6 by decide) hd;obtain⟨q,_,_⟩:=oE hd;have mg:=tj (dZ (fk e b));generalize (dC (dZ (fk e b))).1=m at*;rw[LM (m:=fk e b) rfl,LM (m:=m) hk]at q;exact⟨hk,(lh (kM (MX b m.ballot) hb mg.ballot (gi (gi q).2).2)).symm⟩
theorem Do(hb:WF b.flat)(hc:WF c.flat)(hd:(dC (dZ (gE e b c))).2=0):(dC (dZ (gE e b c))).1.kind=4∧(dC (dZ (gE e b c))).1.ballot=b∧(dC (dZ (gE e b c))).1.change=c:=by
 have hk:=sR (m:=gE e b c) (show(0:Int)≤4∧(4:Int)<6 by decide) hd;obtain⟨q,_,_⟩:=oE hd;have mg:=tj (dZ (gE e b c));generalize (dC (dZ (gE e b c))).1=m at*;rw[LL (m:=gE e b c) rfl,LL (m:=m) hk]at q;obtain⟨q2,q⟩:=oB (MX b m.ballot) hb mg.ballot (gi (gi q).2).2;exact⟨hk,(lh q2).symm,(tn (kM (PQ c m.change) hc mg.change q)).symm⟩
theorem Dn(hv:WF v.flat)(hd:(dC (dZ (gg v))).2=0):(dC (dZ (gg v))).1.kind=5∧(dC (dZ (gg v))).1.view=v:=by
 have hk:=sR (m:=gg v) (show(0:Int)≤5∧(5:Int)<6 by decide) hd;obtain⟨q,_,_⟩:=oE hd;have mg:=tj (dZ (gg v));generalize (dC (dZ (gg v))).1=m at*;rw[LK (m:=gg v) rfl,LK (m:=m) hk]at q;exact⟨hk,(tQ (kM (O0 v m.view) hv mg.view.wf (gi q).2)).symm⟩
end
abbrev Gj(e:Int):AccT:= {AccT.zero with epoch:=e}
inductive LogV:List (List UInt8)→ViewT→AccT→Int→List VEv→Prop
 |nil:LogV [] firstV (Gj 1) 0 []
 |vow {ls:List (List UInt8)} {v:ViewT} {a:AccT} {r:Int} {h:List VEv} {b:List UInt8} {x:BallotT}:LogV ls v a r h→1≤x.round→¬blt x a.vow→((dC b).2=0→(dC b).1.kind=3∧(dC b).1.ballot=x)→LogV (ls++[b]) v {a with vow:=x} (max r x.round) (h++[⟨v.epoch,x,none⟩])
 |take {ls:List (List UInt8)} {v:ViewT} {a:AccT} {r:Int} {h:List VEv} {b:List UInt8} {x:BallotT} {c:ChangeT}:LogV ls v a r h→1≤x.round→¬blt x a.vow→((dC b).2=0→(dC b).1.kind=4∧(dC b).1.ballot=x∧(dC b).1.change=c)→LogV (ls++[b]) v {a with vow:=x,had:=x,change:=c} (max r x.round) (h++[⟨v.epoch,x,some c⟩])
 |view {ls:List (List UInt8)} {v:ViewT} {a:AccT} {r:Int} {h:List VEv} {b:List UInt8} {u:ViewT}:LogV ls v a r h→v.epoch<u.epoch→((dC b).2=0→(dC b).1.kind=5∧(dC b).1.view=u)→LogV (ls++[b]) u (Gj u.epoch) 0 h
 |oth {ls:List (List UInt8)} {v:ViewT} {a:AccT} {r:Int} {h:List VEv} {b:List UInt8}:LogV ls v a r h→((dC b).2=0→(dC b).1.kind<3)→LogV (ls++[b]) v a r h
structure Hst(v:ViewT)(a:AccT)(r:Int)(h:List VEv):Prop where
 ep:a.epoch=v.epoch
 le: ∀x∈h,x.ep≤v.epoch∧1≤x.b.round
 vow: ∀x∈h,x.ep=v.epoch→¬blt a.vow x.b∧x.b.round≤r
 had: ∀b c,(⟨v.epoch,b,some c⟩:VEv)∈h→¬blt a.had b
 hadc:1≤a.had.round→(⟨v.epoch,a.had,some a.change⟩:VEv)∈h
 vowev:1≤a.vow.round→∃x∈h,x.ep=v.epoch∧x.b=a.vow
 r0:0≤r
theorem Hst.add{v:ViewT}{a:AccT}{r:Int}{h:List VEv}(t:Hst v a r h){x:BallotT}(h1:1≤x.round)(h2: ¬blt x a.vow):Hst v {a with vow:=x} (max r x.round) (h++[⟨v.epoch,x,none⟩]):=by
 refine⟨t.ep,λy hy=>?_,λy hy e=>?_,λb c q=>?_,λq=>List.mem_append_left _ (t.hadc q),λ_=>⟨_,jh _ (aX.2 rfl),rfl,rfl⟩,by have:=t.r0;omega⟩
 · rcases bA.1 hy with hy|hy
   · exact t.le y hy
   · rw[aX]at hy;subst hy;exact⟨Int.le_refl _,h1⟩
 · rcases bA.1 hy with hy|hy
   · obtain⟨a1,a2⟩:=t.vow y hy e
     exact⟨λz=>h2 (by have z:blt x y.b:=z;unfold blt at*;omega),by omega⟩
   · rw[aX]at hy;subst hy;exact⟨vL _,by show x.round≤max r x.round;omega⟩
 · rcases bA.1 q with q|q
   · exact t.had b c q
   · rw[aX]at q;cases q
theorem Hst.addt{v:ViewT}{a:AccT}{r:Int}{h:List VEv}(t:Hst v a r h){x:BallotT}(c:ChangeT)(h1:1≤x.round)(h2: ¬blt x a.vow):Hst v {a with vow:=x,had:=x,change:=c} (max r x.round) (h++[⟨v.epoch,x,some c⟩]):=by
 refine⟨t.ep,λy hy=>?_,λy hy e=>?_,λb c q=>?_,λq=>jh _ (aX.2 rfl),λ_=>⟨_,jh _ (aX.2 rfl),rfl,rfl⟩,by have:=t.r0;omega⟩
 · rcases bA.1 hy with hy|hy
   · exact t.le y hy
   · rw[aX]at hy;subst hy;exact⟨Int.le_refl _,h1⟩
 · rcases bA.1 hy with hy|hy
   · obtain⟨a1,a2⟩:=t.vow y hy e
     exact⟨λz=>h2 (by have z:blt x y.b:=z;unfold blt at*;omega),by omega⟩
   · rw[aX]at hy;subst hy;exact⟨vL _,by show x.round≤max r x.round;omega⟩
 · rcases bA.1 q with q|q
   · have:=(t.vow _ q rfl).1
     exact λz=>h2 (by have this: ¬blt a.vow b:=this;have z:blt x b:=z;unfold blt at*;omega)
   · rw[aX]at q
     injection q with _ q _
     rw[q];exact vL _
theorem LogV.hst{ls:List (List UInt8)}{v:ViewT}{a:AccT}{r:Int}{h:List VEv}(l:LogV ls v a r h):Hst v a r h:=by
 induction l with
 |nil=>exact⟨rfl,(λx hx=>by cases hx),(λx hx=>by cases hx),(λb c hx=>by cases hx),(λq=>absurd q (by decide)),(λq=>absurd q (by decide)),by decide⟩
 |vow _ h1 h2 _ ih=>exact ih.add h1 h2
 |take _ h1 h2 _ ih=>exact ih.addt _ h1 h2
 | @view ls v a r h b u _ h1 _ ih=>
  refine⟨rfl,λx hx=>?_,λx hx e=>?_,λb c hx=>?_,(λq=>absurd q (by show ¬(1:Int)≤0;decide)),(λq=>absurd q (by show ¬(1:Int)≤0;decide)),by decide⟩
  · have:=ih.le x hx;omega
  · have:=ih.le x hx;omega
  · have:=(ih.le _ hx).1
    have this:u.epoch≤v.epoch:=this;omega
 |oth _ _ ih=>exact ih
theorem y8{ls:List (List UInt8)}{v:ViewT}{a:AccT}{r:Int}{h:List VEv}(l:LogV ls v a r h){n:Int}{e:LD}: ∀s,gS ls (w6 n e)=some s→s.view=v∧s.acc=a∧s.round=r:=by
 have step: ∀{ls:List (List UInt8)} {b:List UInt8} {s:MS LD},gS (ls++[b]) (w6 n e)=some s→∃t,gS ls (w6 n e)=some t∧(dC b).2=0∧s=ig t (dC b).1:=λ {ls b s} q=>by
  rw[wM]at q;split at q
  · cases q
  rename_i t ht;split at q
  · cases q
  rename_i d;exact⟨t,ht,Decidable.not_not.1 d,(aR q).symm⟩
 induction l with
 |nil=>
  intro s q;obtain rfl:=aR q;exact⟨rfl,rfl,rfl⟩
 |vow _ h1 h2 h3 ih=>
  intro s q;obtain⟨t,ht,d,rfl⟩:=step q;obtain⟨k,kb⟩:=h3 d;obtain⟨i1,i2,i3⟩:=ih t ht;unfold ig;rw[if_neg (by omega),if_neg (by omega),if_neg (by omega),if_pos k];exact⟨i1,by rw[←i2,←kb],by rw[←i3,←kb]⟩
 |take _ h1 h2 h3 ih=>
  intro s q;obtain⟨t,ht,d,rfl⟩:=step q;obtain⟨k,kb,kc⟩:=h3 d;obtain⟨i1,i2,i3⟩:=ih t ht;unfold ig;rw[if_neg (by omega),if_neg (by omega),if_neg (by omega),if_neg (by omega),if_pos k];exact⟨i1,by rw[←i2,←kb,←kc],by rw[←i3,←kb]⟩
 |view _ h1 h3 ih=>
  intro s q;obtain⟨t,ht,d,rfl⟩:=step q;obtain⟨k,kv⟩:=h3 d;unfold ig;rw[if_neg (by omega),if_neg (by omega),if_neg (by omega),if_neg (by omega),if_neg (by omega),if_pos k];exact⟨kv,by rw[←kv];rfl,rfl⟩
 |oth _ h3 ih=>
  intro s q;obtain⟨t,ht,d,rfl⟩:=step q;have k:=h3 d;have k0:=(oE d).2.1;obtain⟨i1,i2,i3⟩:=ih t ht;unfold ig
  repeat' split
  all_goals first|exact⟨i1,i2,i3⟩| (exfalso;omega)
def Qv(g:Gh)(v:ViewT)(a:AccT)(b:List UInt8):Prop:=(dC b).2=0→(dC b).1.kind<3∨((dC b).1.kind=3∧1≤(dC b).1.ballot.round∧¬blt (dC b).1.ballot a.vow)∨
 ((dC b).1.kind=4∧1≤(dC b).1.ballot.round∧¬blt (dC b).1.ballot a.vow∧g.G v.epoch (dC b).1.ballot=some (dC b).1.change)∨((dC b).1.kind=5∧v.epoch< (dC b).1.view.epoch∧g.V (dC b).1.view.epoch=some (dC b).1.view)
structure VoteOk(g:Gh)(j:Nat)(v:ViewT)(vt:VoteT):Prop where
 view:vt.view=v
 who:vt.ballot.who=((j:Nat):Int)
 ev: ∃x∈g.H j,x.ep=v.epoch∧x.b=vt.ballot
 vowed:0≤vt.vowed∧vt.vowed<32
 took:0≤vt.took∧vt.took<32
 ask:vt.putting=false→g.G v.epoch vt.ballot=none∧vt.took=0∧(∀w:Nat,w<5→j7 vt.vowed ((w:Nat):Int)=true→Vd g w v.epoch vt.ballot vt.best)∧(1≤vt.best.round→blt vt.best vt.ballot∧g.G v.epoch vt.best=some vt.change)
 put:vt.putting=true→g.G v.epoch vt.ballot=some vt.change∧∀w:Nat,w<5→j7 vt.took ((w:Nat):Int)=true→∃c,Tk g w v.epoch vt.ballot c
structure Mach(g:Gh)(j:Nat)(s:MS LD):Prop where
 id:s.id=((j:Nat):Int)
 view:g.V s.view.epoch=some s.view
 rnd:mY s.round
 log: ∃ls r,Logs s.e ls (Qv g s.view s.acc)∧LogV ls s.view s.acc r (g.H j)∧r≤s.round
 vote: ∀vt,s.vote=some vt→VoteOk g j s.view vt
structure MsgOk(g:Gh)(f:Nat)(m:MsgT):Prop where
 prom:m.kind=4→Vowed g f m.epoch m.ballot m.had m.change
 put:m.kind=5→g.G m.epoch m.ballot=some m.change
 taken:m.kind=6→∃c,Tk g f m.epoch m.ballot c
 view:m.kind=7∨m.kind=8→g.V m.view.epoch=some m.view
def MsgD(g:Gh)(f:Nat)(m:MsgT):Prop:=(eB (bS m)).2=0→MsgOk g f (eB (bS m)).1
def SaidOk(g:Gh)(f:Nat)(l:List SaidT):Prop:=∀x∈l,MsgD g f x.msg
section
variable {g g':Gh}
structure Grow(g g':Gh):Prop where
 V: ∀e v,g.V e=some v→g'.V e=some v
 G: ∀e b c,g.G e b=some c→g'.G e b=some c
 pre: ∀w,g.H w<+:g'.H w
 sort: ∀w,qD (g'.H w)
theorem Ext.grow{j:Nat}(E:Ext j g g')(G':Glob g'):Grow g g':=⟨E.V,E.G,E.pre,G'.sort⟩
theorem MsgOk.mono(h:Grow g g'){f:Nat}{m:MsgT}(t:MsgOk g f m):MsgOk g' f m:=
 ⟨λk=>(t.prom k).mono (h.pre f) (h.sort f),λk=>h.G _ _ _ (t.put k),λk=>let ⟨c,q⟩:=t.taken k;⟨c,q.mono (h.pre f)⟩,λk=>h.V _ _ (t.view k)⟩
theorem MsgD.mono(h:Grow g g'){f:Nat}{m:MsgT}(t:MsgD g f m):MsgD g' f m:=λq=>(t q).mono h
theorem SaidOk.mono(h:Grow g g'){f:Nat}{l:List SaidT}(t:SaidOk g f l):SaidOk g' f l:=λx hx=>(t x hx).mono h
theorem Qv.mono(h:Grow g g'){v:ViewT}{a:AccT}{b:List UInt8}(t:Qv g v a b):Qv g' v a b:=λq=>(t q).imp id (Or.imp id (Or.imp (λ⟨a,b,c,d⟩=>⟨a,b,c,h.G _ _ _ d⟩) λ⟨a,b,c⟩=>⟨a,b,h.V _ _ c⟩))
theorem VoteOk.mono(h:Grow g g'){i:Nat}(hn: ∀e b,b.who=((i:Nat):Int)→g'.G e b=g.G e b){v:ViewT}{vt:VoteT}(t:VoteOk g i v vt):VoteOk g' i v vt:=
 ⟨t.view,t.who,let ⟨x,hx,q⟩:=t.ev;⟨x,(h.pre i).subset hx,q⟩,t.vowed,t.took,λp=>let ⟨a,z,b,c⟩:=t.ask p;⟨by rw[hn _ _ t.who];exact a,z,λw hw q=>(b w hw q).mono (h.pre w) (h.sort w),λq=>⟨(c q).1,h.G _ _ _ (c q).2⟩⟩,
  λp=>let ⟨a,b⟩:=t.put p;⟨h.G _ _ _ a,λw hw q=>let ⟨c,z⟩:=b w hw q;⟨c,z.mono (h.pre w)⟩⟩⟩
theorem Mach.mono(h:Grow g g'){i:Nat}(hH:g'.H i=g.H i)(hn: ∀e b,b.who=((i:Nat):Int)→g'.G e b=g.G e b){s:MS LD}(t:Mach g i s):Mach g' i s:=
 ⟨t.id,h.V _ _ t.view,t.rnd,by
  obtain⟨ls,r,a,b,c⟩:=t.log
  exact⟨ls,r,a.mono λ_ q=>q.mono h,by rw[hH];exact b,c⟩,λvt q=>(t.vote vt q).mono h hn⟩
end
class PX(g:Gh)(j:Nat)(s:MS LD):Prop where
 glob:Glob g
 mach:Mach g j s
 said:SaidOk g j s.o
def PS(g:Gh)(j:Nat)(t:MS LD):Prop:=∃g',Ext j g g'∧PX g' j t
theorem AS{m:RecT}(hm:0≤m.kind∧m.kind<3):(dC (dZ m)).2=0→(dC (dZ m)).1.kind<3:=λh=>by rw[sR ⟨hm.1,by omega⟩ h];exact hm.2
class ND(m:MsgT):Prop where d: ∀g f,MsgD g f m
theorem CA{m:MsgT}(hm:0≤m.kind∧m.kind<10)(hk:m.kind<4∨m.kind=9):ND m:=⟨λg f h=>by
 have e:=jF hm h
 exact⟨λk=>absurd k (by omega),λk=>absurd k (by omega),λk=>absurd k (by omega),λk=>absurd k (by omega)⟩⟩
instance (v:Int):ND (qO v):=CA (show(0:Int)≤1∧(1:Int)<10 by decide) (.inl (show(1:Int)<4 by decide))
instance (i:Int)(y:RowT):ND (qM i y):=CA (show(0:Int)≤2∧(2:Int)<10 by decide) (.inl (show(2:Int)<4 by decide))
instance (i:Int)(y:RowT):ND (hY i y):=CA (show(0:Int)≤9∧(9:Int)<10 by decide) (.inr rfl)
instance (e:Int)(b:BallotT):ND (fm e b):=CA (show(0:Int)≤3∧(3:Int)<10 by decide) (.inl (show(3:Int)<4 by decide))
theorem F3{g:Gh}{f:Nat}{v:ViewT}(hv:WF v.flat)(h:g.V v.epoch=some v):MsgD g f (fI v):=λd=>by
 have k:=jF (m:=fI v) (show(0:Int)≤7∧(7:Int)<10 by decide) d;have k:(eB (bS (fI v))).1.kind=7:=k;exact⟨λq=>absurd q (by omega),λq=>absurd q (by omega),λq=>absurd q (by omega),λ_=>by rw[Jo hv d];exact h⟩
theorem KG{g:Gh}{f:Nat}{i:Int}{v:ViewT}(hv:WF v.flat)(h:g.V v.epoch=some v):MsgD g f (iz i v):=λd=>by
 have k:=jF (m:=iz i v) (show(0:Int)≤8∧(8:Int)<10 by decide) d;have k:(eB (bS (iz i v))).1.kind=8:=k;exact⟨λq=>absurd q (by omega),λq=>absurd q (by omega),λq=>absurd q (by omega),λ_=>by rw[Jp hv d];exact h⟩
theorem MA{g:Gh}{f:Nat}{e:Int}{b:BallotT}{c:ChangeT}(he:mY e)(hb:WF b.flat)(hc:WF c.flat)(h:g.G e b=some c):MsgD g f (ff e b c):=λd=>by
 have k:(eB (bS (ff e b c))).1.kind=5:=jF (m:=ff e b c) (show(0:Int)≤5∧(5:Int)<10 by decide) d;obtain⟨e1,e2,e3⟩:=KR he hb hc d;exact⟨λq=>absurd q (by omega),λ_=>by rw[e1,e2,e3];exact h,λq=>absurd q (by omega),λq=>absurd q (by omega)⟩
theorem I9{g:Gh}{f:Nat}{e:Int}{b:BallotT}{c:ChangeT}(he:mY e)(hb:WF b.flat)(h:Tk g f e b c):MsgD g f (eU e b):=λd=>by
 have k:(eB (bS (eU e b))).1.kind=6:=jF (m:=eU e b) (show(0:Int)≤6∧(6:Int)<10 by decide) d;obtain⟨e1,e2⟩:=HD he hb d;exact⟨λq=>absurd q (by omega),λq=>absurd q (by omega),λ_=>⟨c,by rw[e1,e2];exact h⟩,λq=>absurd q (by omega)⟩
theorem KH{g:Gh}{f:Nat}{e:Int}{b h:BallotT}{c:ChangeT}(he:mY e)(hb:WF b.flat)(hh:WF h.flat)(hc:WF c.flat)(t:Vowed g f e b h c):MsgD g f (fc e b h c):=λd=>by
 have k:(eB (bS (fc e b h c))).1.kind=4:=jF (m:=fc e b h c) (show(0:Int)≤4∧(4:Int)<10 by decide) d;obtain⟨e1,e2,e3,e4⟩:=Jq he hb hh hc d;exact⟨λ_=>by rw[e1,e2,e3,e4];exact t,λq=>absurd q (by omega),λq=>absurd q (by omega),λq=>absurd q (by omega)⟩
section
variable {g g':Gh} {j:Nat} {s:MS LD}
theorem PS.of{t:MS LD}[h:PX g j t]:PS g j t:=⟨g,JS j g,h⟩
abbrev ii:= @PS.of
theorem PS.lift{t:MS LD}(E:Ext j g g')(h:PS g' j t):PS g j t:=let ⟨k,e,p⟩:=h;⟨k,E.trans e,p⟩
abbrev M2:= @PS.lift
theorem PS.then{t u:MS LD}(h:PS g j t)(f: ∀g',Ext j g g'→PX g' j t→PS g' j u):PS g j u:=let ⟨k,e,p⟩:=h;(f k e p).lift e
theorem PX.same{t:MS LD}(h:PX g j s)(h0:t.id=s.id)(h1:t.view=s.view)(h2:t.acc=s.acc)(h3:t.round=s.round)(h4:t.vote=s.vote)(h5:t.e=s.e)(h6:t.o=s.o):PX g j t:=
 ⟨h.glob,⟨by rw[h0];exact h.mach.id,by rw[h1];exact h.mach.view,by rw[h3];exact h.mach.rnd,by rw[h1,h2,h3,h5];exact h.mach.log,by rw[h1,h4];exact h.mach.vote⟩,by rw[h6];exact h.said⟩
theorem Ev[ok:OkR KD s][h:PX g j s]{r:RecT}(hr:(dC (dZ r)).2=0→(dC (dZ r)).1.kind<3):PX g j (dE KD s r):=⟨h.glob,⟨h.mach.id,h.mach.view,h.mach.rnd,by
 obtain⟨ls,r',a,b,c⟩:=h.mach.log;rcases a.put (bs:=dZ r) ok.e (oC r) (λq=> .inl (hr q))with⟨_,q⟩| ⟨_,q⟩
 · exact⟨_,r',q _,b.oth hr,c⟩
 · exact⟨ls,r',q,b,c⟩,h.mach.vote⟩,h.said⟩
theorem vF[ok:OkR KD s][h:PX g j s]{r:RecT}(hq:Qv g s.view s.acc (dZ r))(hz:qS KD s r≠0):PX g j (dE KD s r):=⟨h.glob,⟨h.mach.id,h.mach.view,h.mach.rnd,by
 obtain⟨ls,r',a,b,c⟩:=h.mach.log;rcases a.put (bs:=dZ r) ok.e (oC r) hq with⟨q,_⟩| ⟨_,q⟩
 · exact absurd q hz
 · exact⟨ls,r',q,b,c⟩,h.mach.vote⟩,h.said⟩
instance [OkR KD s][PX g j s](w:Int):PX g j (dE KD s (ji w)):=Ev (AS (show(0:Int)≤2∧(2:Int)<3 by decide))
instance [OkR KD s][PX g j s](w:Int)(y:RowT):PX g j (dE KD s (j6 w y)):=Ev (AS (show(0:Int)≤1∧(1:Int)<3 by decide))
instance [OkR KD s][PX g j s](y:RowT):PX g j (dE KD s (kC y)):=Ev (AS (show(0:Int)≤0∧(0:Int)<3 by decide))
theorem o5[h:PX g j s](l:List SaidT)(hl:SaidOk g j l):PX g j (iN KD s l):=⟨h.glob,⟨h.mach.id,h.mach.view,h.mach.rnd,h.mach.log,h.mach.vote⟩,λx hx=>by
 have hx:x∈(if KD.dn s.e=true then s.o else s.o++l):=hx;split at hx
 · exact h.said x hx
 · exact(bA.1 hx).elim (h.said x) (hl x)⟩
theorem sL{f:Nat}{t:Int}{m:MsgT}(h:MsgD g f m):SaidOk g f [⟨t,m⟩]:=λx hx=>by rw[aX]at hx;subst hx;exact h
theorem sK{f:Nat}{i:Int}{m:MsgT}{p:Nat→Bool}{k:Nat}(h:MsgD g f m):SaidOk g f (nf i m p k):=λx hx=>by
 unfold nf at hx;obtain⟨w,_,rfl⟩:=dw.1 hx;exact h
instance [PX g j s](t:Int)(m:MsgT)[h:ND m]:PX g j (x8 KD s t m):=o5 _ (sL (h.d _ _))
instance [PX g j s](i:Int)(m:MsgT)(p:Nat→Bool)(k:Nat)[h:ND m]:PX g j (iN KD s (nf i m p k)):=o5 _ (sK (h.d _ _))
instance [h:PX g j s]:PX g j (fz KD s):=o5 _ λx hx=>by
 unfold pu at hx;rw[dw]at hx;obtain⟨w,_,rfl⟩:=hx;exact(CA (m:=ua (s.rep .nil)) (show(0:Int)≤0∧(0:Int)<10 by decide) (.inl (show(0:Int)<4 by decide))).d _ _
instance [PX g j s](y:RowT):PX g j (lC KD s y):=inferInstanceAs (PX g j (iN KD s _))
theorem uO[ok:OkR KD s][h:PX g j s](v:ViewT)(hv:WF v.flat)(hg:g.V v.epoch=some v):PX g j (lB KD s v):=o5 _ (sK (F3 hv hg))
instance [h:PX g j s](f:Int):PX g j (iY s f):=h.same rfl rfl rfl rfl rfl rfl rfl
instance [h:PX g j s]:PX g j (lM s):=h.same rfl rfl rfl rfl rfl rfl rfl
instance [h:PX g j s](a b c:Int):PX g j (dK s a b c):=h.same rfl rfl rfl rfl rfl rfl rfl
instance [h:PX g j s]:PX g j (bP s):=h.same rfl rfl rfl rfl rfl rfl rfl
instance [h:PX g j s](w:Int)(x:RowT):PX g j (Dy s w x):=h.same rfl rfl rfl rfl rfl rfl rfl
instance [h:PX g j s]:PX g j (hJ s):=h.same rfl rfl rfl rfl rfl rfl rfl
instance [h:PX g j s](w:Int):PX g j (lG s w):=h.same rfl rfl rfl rfl rfl rfl rfl
instance [h:PX g j s](f w:Int)(y:RowT):PX g j (uC s f w y):=h.same rfl rfl rfl rfl rfl rfl rfl
instance [h:PX g j s](w:Int)(x:RowT):PX g j (iO s w x):=h.same rfl rfl rfl rfl rfl rfl rfl
instance [h:PX g j s](x:RowT)(op:Int):PX g j (s6 s x op):=h.same rfl rfl rfl rfl rfl rfl rfl
theorem FQ[OkR KD s][h:PX g j s](x:RowT)(op:Int):PX g j (e9 KD s x op).1:=by unfold e9;split<;>exact inferInstance
instance [OkR KD s][h:PX g j s]:PX g j (lZ KD s):=by
 unfold lZ
 repeat' split
 all_goals first|exact h|exact FQ _ _
instance [OkR KD s][h:PX g j s](f:Int)(m:MsgT):PX g j (dy KD s f m):=by
 unfold dy ld
 repeat' split
 all_goals first|exact h|exact inferInstance
instance [OkR KD s][h:PX g j s](f:Int)(m:MsgT)[OkMg m]:PX g j (iE KD s f m):=by
 unfold iE
 repeat' split
 all_goals first|exact h|exact inferInstance
instance [OkR KD s][h:PX g j s](f:Int)(m:MsgT)[OkMg m]:PX g j (fD KD s f m):=by unfold fD;split<;>exact inferInstance
theorem wC[PX g j s]{f:MS LD→MS LD}(hf:PX g j (f s))(t:Int)(m:MsgT)(hm:MsgD g j m):PX g j (lw KD f s t m):=by
 unfold lw;split
 · exact hf
 · exact o5 _ (sL hm)
instance [OkR KD s][h:PX g j s](f w:Int):PX g j (fh KD s f w):=by
 unfold fh
 repeat' split
 · exact h
 · exact wC inferInstance _ _ (ND.d _ _)
 · exact inferInstance
 · exact wC inferInstance _ _ (ND.d _ _)
instance [ok:OkR KD s][h:PX g j s](i w:Int):PX g j (hO KD s i w):=by
 unfold hO;split
 · exact h
 · exact wC inferInstance _ _ (KG ok.view.wf h.mach.view)
instance [OkR KD s][PX g j s](i:Int):PX g j (np KD s i):=by unfold np;exact inferInstance
theorem zH: ∀(l:List Int) (s:MS LD),OkR KD s→PX g j s→PX g j (gq KD l s)
 | [],_,_,h=>h
 |i::l,s,_,h=>zH l (np KD s i) inferInstance inferInstance
instance [OkR KD s][h:PX g j s]:PX g j (qt KD s):=zH _ _ inferInstance h
theorem wR[ok:OkR KD s][h:PX g j s](v:ViewT)[hv:OkVw v](hg:g.V v.epoch=some v):PX g j (gm KD s v):=by
 unfold gm;split
 · exact h
 rename_i q
 have hq:Qv g s.view s.acc (dZ (gg v)):=λd=>by
  obtain⟨a,b⟩:=Dn hv.wf d;exact .inr (.inr (.inr ⟨a,by rw[b];omega,by rw[b];exact hg⟩))
 split
 · rename_i z;exact vF hq z
 · rename_i z
   have:PX g j (mi (dE KD s (gg v)) v):=⟨h.glob,⟨h.mach.id,hg,⟨by show(-9223372036854775808:Int)≤0;decide,by show(0:Int)<9223372036854775808;decide⟩,by
    obtain⟨ls,r,a,b,c⟩:=h.mach.log;rcases a.put (bs:=dZ (gg v)) ok.e (oC _) hq with⟨_,q2⟩| ⟨q2,_⟩
    · exact⟨_,0,q2 _,b.view (by show s.view.epoch<v.epoch;omega) (Dn hv.wf),Int.le_refl _⟩
    · exact absurd q2 z,λvt q=>nomatch q⟩,h.said⟩
   exact inferInstance
theorem Cn[OkR KD s][h:PX g j s](f:Int)(m:MsgT)[OkMg m](hg:g.V m.view.epoch=some m.view):PX g j (kH KD s f m):=by
 have:=wR (g:=g) (j:=j) (s:=s) m.view hg;unfold kH;exact inferInstance
theorem w4{v:ViewT}{c:ChangeT}(h:(cm v c).2=0):(cm v c).1.epoch=IntKind.i64.wrap (v.epoch+1):=by
 unfold cm at h ⊢
 repeat' split
 all_goals first|rfl| (exfalso;simp_all)
theorem JY{n:Int}(h:mY n)(g:n<IntKind.i64.wrap (n+1)):IntKind.i64.wrap (n+1)=n+1∧n<9223372036854775807:=by
 obtain⟨h1,h2⟩:=h
 by_cases q:n+1≤9223372036854775807
 · exact⟨bO (by omega) q,by omega⟩
 · exfalso
   have e:n=9223372036854775807:=by omega
   subst e;exact absurd g (by decide)
theorem IK{x:Int}(hx:0≤x∧x<32){f:Nat}(hf:f<5):(∀w:Nat,w<5→j7 (gH .i64 x (cn ((f:Nat):Int))) ((w:Nat):Int)=(j7 x ((w:Nat):Int)||decide (w=f)))∧0≤gH .i64 x (cn ((f:Nat):Int))∧gH .i64 x (cn ((f:Nat):Int))<32:=by
 have e:cn ((f:Nat):Int)=2^f:=Al (w:=((f:Nat):Int)) ⟨by omega,by omega⟩;rw[e];have hb:=FS ⟨x.toNat,by omega⟩ ⟨f,hf⟩;simp only at hb;rw[show((x.toNat:Nat):Int)=x by omega]at hb;refine⟨λw hw=>?_,(hb ⟨0,by decide⟩).2⟩;rw[(hb ⟨w,hw⟩).1];simp only[Fin.mk.injEq]
theorem tc[ok:OkR KD s]:mY s.view.epoch:=sv (ok.view.wf s.view.epoch (by simp[ViewT.flat]))
theorem Mz[ok:OkR KD s](h:PX g j s):j<5:=by
 have h1:0≤s.id∧s.id<5:=of_decide_eq_true ok.id;have:=h.mach.id;omega
theorem HJ[ok:OkR KD s][h:PX g j s]{b:BallotT}{c:ChangeT}(hc:Chosen g s.view.epoch b c):PS g j (ky KD s c):=by
 unfold ky;split
 · exact ii
 rename_i z0;have z:(cm s.view c).2=0:=Decidable.not_not.1 z0
 by_cases hl:(cm s.view c).1.epoch≤s.view.epoch
 · have e1:gm KD s (cm s.view c).1=s:=by unfold gm;rw[if_pos hl]
   have e2:nO KD s (cm s.view c).1=false:=by unfold nO;rw[decide_eq_false (by omega)];rfl
   rw[e2,e1,if_neg tH];exact ii
 have gv:=(h.glob.view _ _ h.mach.view).2;have ep:=tc (s:=s);have e0:=w4 z;rw[e0]at hl;obtain⟨e1,e2⟩:=JY ep (by omega);rw[e1]at e0
 have gn:GoodV (cm s.view c).1:=by
  have:=(gv.step e2 c).1;unfold yS at this
  rwa [if_pos z]at this
 have nv:cm s.view c=((cm s.view c).1,0):=by rw[←z]
 have ov:OkVw (cm s.view c).1:=inferInstance;generalize (cm s.view c).1=v at*
 obtain⟨g',E,X,hv⟩: ∃g',Ext j g g'∧PX g' j s∧g'.V v.epoch=some v:=by
  cases hV:g.V v.epoch with
  |none=>
   have G':=ME h.glob hV h.mach.view hc nv e0 gn;have E:=DE (j:=j) hV;exact⟨g.addV v,E,⟨G',h.mach.mono (E.grow G') rfl λ_ _ _=>rfl,h.said.mono (E.grow G')⟩,Lb v⟩
  |some u=>
   have e1:=gv.epoch;obtain⟨u0,b0,c0,a1,a2,a3⟩:=h.glob.next _ u hV (by omega);rw[show v.epoch-1=s.view.epoch by omega]at a1 a2;rw[h.mach.view]at a1;obtain rfl:=aR a1;obtain rfl:=Fp h.glob a2 hc;rw[nv]at a3;have e:v=u:=congrArg Prod.fst a3;exact⟨g,JS j g,h,by rw[hV,e]⟩
 have L:PX g' j (gm KD s v):=wR v hv;split
 · have:PX g' j (lB KD (gm KD s v) v):=uO v ov.wf hv
   exact M2 E ii
 · exact M2 E ii
theorem Kh[ok:OkR KD s][h:PX g j s]{f:Nat}(hf:f<5)(m:MsgT)(he:m.epoch=s.view.epoch)(hm: ∃c,Tk g f m.epoch m.ballot c):PS g j (kV KD ((f:Nat):Int) m s):=by
 unfold kV;split
 · exact ii
 rename_i vt hv;have vo:=h.mach.vote vt hv;have ovt:=OkR.vote (s:=s) (K:=KD) vt hv
 by_cases hb:(!vt.putting|| !kU vt ((f:Nat):Int) m.ballot)=true
 · have e:fl vt ((f:Nat):Int) m.ballot=(vt,false):=by unfold fl;rw[if_pos hb]
   have:PX g j (jr s vt):=h.same rfl rfl rfl rfl hv.symm rfl rfl;rw[e,if_neg (show ¬(vt,false).2=true from tH)];exact ii
 have e:fl vt ((f:Nat):Int) m.ballot=({vt with took:=gH .i64 vt.took (cn ((f:Nat):Int))},dY vt.view (gH .i64 vt.took (cn ((f:Nat):Int)))):=by unfold fl;rw[if_neg hb]
 simp only[di,Bool.not_eq_true',not_or,jJ]at hb;obtain⟨hp,hw⟩:=hb;unfold kU at hw;rw[au,decide_eq_true_iff]at hw;have hbal:=lh hw.1;obtain⟨o1,o2⟩:=IK vo.took hf
 have vo':VoteOk g j s.view (fl vt ((f:Nat):Int) m.ballot).1:=by
  rw[e];refine⟨vo.view,vo.who,vo.ev,vo.vowed,o2,λp=>?_,λ_=>⟨(vo.put hp).1,λw hw5 q=>?_⟩⟩
  · have p:vt.putting=false:=p
    rw[hp]at p;cases p
  · have q:j7 (gH .i64 vt.took (cn ((f:Nat):Int))) ((w:Nat):Int)=true:=q
    rw[o1 w hw5,di,decide_eq_true_iff]at q;rcases q with q|q
    · exact(vo.put hp).2 w hw5 q
    · subst q
      obtain⟨c,t⟩:=hm;rw[he,hbal]at t;exact⟨c,t⟩
 have X:PX g j (jr s (fl vt ((f:Nat):Int) m.ballot).1):=⟨h.glob,⟨h.mach.id,h.mach.view,h.mach.rnd,h.mach.log,λu q=>by
  have q:some (fl vt ((f:Nat):Int) m.ballot).1=some u:=q;obtain rfl:=aR q
  exact vo'⟩,h.said⟩
 split
 · rename_i en
   have ch:Chosen g s.view.epoch vt.ballot vt.change:=⟨s.view,gH .i64 vt.took (cn ((f:Nat):Int)),h.mach.view,o2,by rw[e]at en;rw[←vo.view];exact en,λw hw5 _ q=>by
    rw[e]at vo';obtain⟨c,t⟩:=(vo'.put hp).2 w hw5 q;have:=(h.glob.take w _ _ _ t).1;have a:g.G s.view.epoch vt.ballot=some vt.change:=(vo.put hp).1;rw[show({vt with took:=gH .i64 vt.took (cn ((f:Nat):Int))}:VoteT).ballot=vt.ballot from rfl,a]at this
    exact(aR this)▸t⟩
   exact HJ (s:=jr s (fl vt ((f:Nat):Int) m.ballot).1) (b:=vt.ballot) ch
 · exact ii
theorem sz[ok:OkR KD s][h:PX g j s]{F:MS LD→MS LD}(w:Int)(m:MsgT)(hb:mY m.ballot.round)(hF:m.epoch=s.view.epoch→∀t:MS LD,OkR KD t→PX g j t→t.view=s.view→m.ballot.round≤t.round→PS g j (F t)):PS g j (eT KD F s w m):=by
 unfold eT;split
 · split
   · have:PX g j (x8 KD s w (fI s.view)):=o5 _ (sL (F3 ok.view.wf h.mach.view))
     exact ii
   · exact ii
 rename_i z1;split
 · exact ii
 rename_i z2;have hr:=h.mach.rnd
 have:PX g j (dp s (max s.round m.ballot.round)):=⟨h.glob,⟨h.mach.id,h.mach.view,⟨by show-9223372036854775808≤max s.round m.ballot.round;have:=hr.1;omega,by show max s.round m.ballot.round<9223372036854775808;have:=hr.2;have:=hb.2;omega⟩,by
  obtain⟨ls,r,a,b,c⟩:=h.mach.log
  exact⟨ls,r,a,b,by show r≤max s.round m.ballot.round;omega⟩,h.mach.vote⟩,h.said⟩
 exact hF (by
  have: ¬s.view.epoch<m.epoch:=λq=>z2 (.inl q)
  omega) _ inferInstance this rfl (by show m.ballot.round≤max s.round m.ballot.round;omega)
theorem BE[ok:OkR KD s][h:PX g j s]{f:Nat}(hf:f<5)(m:MsgT)(hb:mY m.ballot.round)(hm: ∃c,Tk g f m.epoch m.ballot c):PS g j (p7 KD s ((f:Nat):Int) m):=
 sz _ m hb λhe t _ _ hv _=>Kh hf m (by rw[hv];exact he) hm
theorem B9[h:PX g j s]{F:MS LD→MS LD}(hF:PS g j (F s))(t:Int)(m:MsgT)(hm:MsgD g j m):PS g j (lw KD F s t m):=by
 unfold lw;split
 · exact hF
 · have:PX g j (x8 KD s t m):=o5 _ (sL hm)
   exact ii
theorem rV{b:BallotT}(h:WF b.flat):mY b.round:=sv (h _ (by simp[BallotT.flat]))
theorem wT[ok:OkR KD s][h:PX g j s](w:Int)(m:MsgT)[om:OkMg m](he:mY m.epoch){c:ChangeT}(hm:Tk g j m.epoch m.ballot c):PS g j (lR KD w m s):=by
 unfold lR;refine B9 ?_ _ _ (I9 he om.ballot hm);rw[h.mach.id];exact BE (Mz h) (eU m.epoch m.ballot) (rV om.ballot) ⟨c,hm⟩
theorem Bi{a:AccT}{e:Int}{b:BallotT}(h: ¬qz a e b=true):e=a.epoch∧1≤b.round∧¬blt b a.vow:=by
 unfold qz at h;simp only[di,decide_eq_true_eq,not_or]at h;refine⟨Decidable.not_not.1 h.1,by omega,λq=>h.2.2 ((ul _ _).2 q)⟩
theorem Mach.hst{g:Gh}{j:Nat}{s:MS LD}(h:Mach g j s): ∃r,Hst s.view s.acc r (g.H j)∧r≤s.round:=by
 obtain⟨ls,r,_,b,c⟩:=h.log;exact⟨r,b.hst,c⟩
theorem BA{v:ViewT}{a:AccT}{r:Int}(t:Hst v a r (g.H j))(h1:1≤a.vow.round):Vowed g j v.epoch a.vow a.had a.change:=by
 refine⟨⟨?_,λb' c' q _=>t.had b' c' q⟩,λq=>⟨t.hadc q,(t.vow _ (t.hadc q) rfl).1⟩⟩;obtain⟨x,hx,e,eb⟩:=t.vowev h1;exact⟨x,hx,e,by rw[eb];exact vL _⟩
theorem wS[ok:OkR KD s][h:PX g j s]{r:RecT}{x:VEv}{a:AccT}(hq:Qv g s.view s.acc (dZ r))(hz: ¬qS KD s r≠0)(he:x.ep=s.view.epoch)(hx: ¬blt x.b s.acc.vow)(hc: ∀c,x.c=some c→g.G x.ep x.b=some c∧1≤x.b.round)
 (hl: ∀ls r',LogV ls s.view s.acc r' (g.H j)→∃r2,LogV (ls++[dZ r]) s.view a r2 (g.H j++[x])∧r2=max r' x.b.round) (n:Int) (hn:mY n) (hr:s.round≤n∧x.b.round≤n):Ext j g (g.addH j x)∧PX (g.addH j x) j (dp (tC (dE KD s r) a) n):=by
 have E:=xL (g:=g) (j:=j) x
 have G':Glob (g.addH j x):=Jf h.glob (λy hy e=>by
  obtain⟨r',t,_⟩:=h.mach.hst;have:=(t.vow y hy (e.trans he)).1
  unfold blt at*;omega) hc
 have W:=E.grow G';refine⟨E,G',⟨h.mach.id,h.mach.view,hn,?_,λvt q=>(h.mach.vote vt q).mono W λ_ _ _=>rfl⟩,h.said.mono W⟩;obtain⟨ls,r',a1,b1,c1⟩:=h.mach.log;rcases a1.put (bs:=dZ r) ok.e (oC _) hq with⟨_,q⟩| ⟨q,_⟩
 · obtain⟨r2,l2,e2⟩:=hl ls r' b1
   exact⟨_,r2,q _,by rw[kN];exact l2,by show r2≤n;omega⟩
 · exact absurd q hz
theorem IH[ok:OkR KD s][h:PX g j s](w:Int)(m:MsgT)[om:OkMg m](he:m.epoch=s.view.epoch)(hr:m.ballot.round≤s.round)(hG:g.G m.epoch m.ballot=some m.change):PS g j (nL KD w m s):=by
 unfold nL;split
 · exact ii
 split
 · exact ii
 rename_i z2;have ac: ¬qz s.acc m.epoch m.ballot=true:=λq=>z2 (by unfold fP;rw[if_pos q])
 have e1:fP s.acc m.epoch m.ballot m.change=({s.acc with vow:=m.ballot,had:=m.ballot,change:=m.change},true):=by unfold fP;rw[if_neg ac]
 obtain⟨a1,a2,a3⟩:=Bi ac;have ie:mY m.epoch:=by rw[he];exact tc (s:=s)
 split
 · have hq:Qv g s.view s.acc (dZ (gE m.epoch m.ballot m.change)):=λd=>by
    obtain⟨k1,k2,k3⟩:=Do om.ballot om.change d;exact .inr (.inr (.inl ⟨k1,by rw[k2];exact a2,by rw[k2];exact a3,by rw[k2,k3,←he];exact hG⟩))
   split
   · rename_i z4
     have:=vF (g:=g) (j:=j) (s:=s) hq z4;exact ii
   · rename_i z4
     obtain⟨E,X⟩:=wS (g:=g) (j:=j) (s:=s) (x:=⟨s.view.epoch,m.ballot,some m.change⟩) (a:=(fP s.acc m.epoch m.ballot m.change).1) hq z4 rfl a3 (λc q=>by
      obtain rfl:=aR q
      exact⟨by rw[←he];exact hG,a2⟩) (λls r' l=>⟨_,by rw[e1];exact l.take a2 a3 (Do om.ballot om.change),rfl⟩) s.round h.mach.rnd ⟨Int.le_refl _,hr⟩
     have X:PX _ j (tC (dE KD s (gE m.epoch m.ballot m.change)) (fP s.acc m.epoch m.ballot m.change).1):=X.same rfl rfl rfl rfl rfl rfl rfl;refine M2 E (wT w m ie (c:=m.change) ?_);unfold Tk;rw[kN,he];exact jh _ (aX.2 rfl)
 · rename_i z3
   have z3:=Decidable.not_not.1 z3;rw[e1]at z3;simp only[AccT.flat,BallotT.flat,ChangeT.flat,gf,bu,List.cons.injEq,and_true,true_and]at z3;obtain⟨f1,f2,f3,f4,f5,f6,f7⟩:=z3;obtain⟨r',t,_⟩:=h.mach.hst;have eh:s.acc.had=m.ballot:=tx f3.symm f4.symm;have ec:s.acc.change=m.change:=tn (by simp only[ChangeT.flat,gf,bu];rw[f5,f6,f7]);have tk:=t.hadc (by rw[eh];exact a2);rw[eh,ec]at tk;exact wT w m ie (c:=m.change) (by unfold Tk;rw[he];exact tk)
theorem BF[ok:OkR KD s][h:PX g j s](w:Int)(m:MsgT)[om:OkMg m](hG:g.G m.epoch m.ballot=some m.change):PS g j (ry KD s w m):=
 sz _ m (rV om.ballot) λhe t _ _ hv hr=>IH w m (by rw[hv];exact he) hr hG
theorem Ex[ok:OkR KD s][h:PX g j s](vt:VoteT)[ov:OkVt vt](hG:g.G s.view.epoch vt.ballot=some vt.change):PS g j (jw KD s vt):=by
 unfold jw iV;have X:PX g j (iF KD s (ff s.view.epoch vt.ballot vt.change)):=o5 _ (sK (MA (tc (s:=s)) ov.ballot ov.change hG));split
 · exact BF (s:=iF KD s (ff s.view.epoch vt.ballot vt.change)) _ _ hG
 · exact ii
end
section
variable {g g':Gh} {j:Nat} {s:MS LD}
theorem MM{a b c:BallotT}(h1: ¬blt b a)(h2: ¬blt c b): ¬blt c a:=by unfold blt at*;omega
theorem Ic(G:Glob g){v:ViewT}{vt:VoteT}(vo:VoteOk g j v vt)(hp:vt.putting=false){f:Nat}(hf:f<5){had:BallotT}{c:ChangeT}(hm:Vowed g f v.epoch vt.ballot had c):
 (∀w:Nat,w<5→j7 (cN vt ((f:Nat):Int) had c).vowed ((w:Nat):Int)=true→Vd g w v.epoch vt.ballot (cN vt ((f:Nat):Int) had c).best)∧
 (1≤(cN vt ((f:Nat):Int) had c).best.round→blt (cN vt ((f:Nat):Int) had c).best vt.ballot∧g.G v.epoch (cN vt ((f:Nat):Int) had c).best=some (cN vt ((f:Nat):Int) had c).change)∧
 0≤(cN vt ((f:Nat):Int) had c).vowed∧(cN vt ((f:Nat):Int) had c).vowed<32:=by
 obtain⟨o1,o2⟩:=IK vo.vowed hf;obtain⟨a1,_,a2,a3⟩:=vo.ask hp;obtain⟨⟨hi,k⟩,m2⟩:=hm;unfold cN;split
 · rename_i q
   simp only[au,decide_eq_true_eq]at q;obtain⟨q1,q2⟩:=q;rw[ul]at q2;obtain⟨t,tb⟩:=m2 (by omega);have tg:=(G.take f _ _ _ t).1;refine⟨λw hw b=>?_,λ_=>⟨?_,tg⟩,o2⟩
   · have b:j7 (gH .i64 vt.vowed (cn ((f:Nat):Int))) ((w:Nat):Int)=true:=b
     rw[o1 w hw,di,decide_eq_true_iff]at b;rcases b with b|rfl
     · obtain⟨d1,d2⟩:=a2 w hw b
       exact⟨d1,λb' c' t l z=>d2 b' c' t l (HN q2 z)⟩
     · exact⟨hi,k⟩
   · rcases Bg had vt.ballot with l|l|l
     · exact l
     · rw[l,a1]at tg;cases tg
     · exact absurd l tb
 · rename_i q
   simp only[au,decide_eq_true_eq,not_and,ul]at q;refine⟨λw hw b=>?_,a3,o2⟩;have b:j7 (gH .i64 vt.vowed (cn ((f:Nat):Int))) ((w:Nat):Int)=true:=b;rw[o1 w hw,di,decide_eq_true_iff]at b;rcases b with b|rfl
   · exact a2 w hw b
   · refine⟨hi,λb' c' t l=>?_⟩
     have h1:=k b' c' t l;have h2:=(G.take w _ _ _ t).2;have h3: ¬blt vt.best had:=q (by unfold blt at h1;omega)
     exact MM (a:=b') (b:=had) h1 h3 |> λz y=>z (by
      unfold blt at*;omega)
theorem Ie(G:Glob g){v:ViewT}(hv:g.V v.epoch=some v){q:Int}(hq:0≤q∧q<32)(en:dY v q=true){b best:BallotT}{c:ChangeT}(h1: ∀w:Nat,w<5→j7 q ((w:Nat):Int)=true→Vd g w v.epoch b best)(h2:1≤best.round→blt best b∧g.G v.epoch best=some c):Safe g v.epoch b c:=λb' c' l n=>by
 by_cases k:blt b' best∧1≤best.round
 · exact G.safe _ _ _ (h2 k.2).2 b' c' k.1 n
 refine⟨v,q,hv,hq,en,λw hw _ hb=>?_⟩;obtain⟨⟨x,hx,hxe,hxb⟩,d⟩:=h1 w hw hb;refine⟨⟨x,hx,hxe,JA l hxb⟩,λt=>?_⟩;have h3:=d b' c' t l;obtain⟨t1,t2⟩:=G.take w _ _ _ t;have h4:1≤best.round:=by unfold blt at h3;omega
 rcases Bg b' best with z|z|z
 · exact k ⟨z,h4⟩
 · rw[z,(h2 h4).2]at t1
   exact n (aR t1).symm
 · exact h3 z
theorem Ma[ok:OkR KD s][h:PX g j s]{f:Nat}(hf:f<5)(m:MsgT)[om:OkMg m](he:m.epoch=s.view.epoch)(hm:Vowed g f m.epoch m.ballot m.had m.change):PS g j (oQ KD ((f:Nat):Int) m s):=by
 unfold oQ;split
 · exact ii
 rename_i vt hv;have vo:=h.mach.vote vt hv;have ovt:=OkR.vote (s:=s) (K:=KD) vt hv;have ovt2:OkVt (dT vt ((f:Nat):Int) m.ballot m.had m.change).1:=inferInstance
 by_cases hb:(vt.putting|| !kU vt ((f:Nat):Int) m.ballot)=true
 · have e:dT vt ((f:Nat):Int) m.ballot m.had m.change=(vt,false):=by unfold dT;rw[if_pos hb]
   have:PX g j (jr s vt):=h.same rfl rfl rfl rfl hv.symm rfl rfl;rw[e,if_neg (show ¬(vt,false).2=true from tH)];exact ii
 have e:dT vt ((f:Nat):Int) m.ballot m.had m.change=({cN vt ((f:Nat):Int) m.had m.change with putting:=dY vt.view (gH .i64 vt.vowed (cn ((f:Nat):Int)))},dY vt.view (gH .i64 vt.vowed (cn ((f:Nat):Int)))):=by unfold dT;rw[if_neg hb]
 simp only[di,Bool.not_eq_true',not_or,jJ,Bool.not_eq_true]at hb;obtain⟨hp,hw⟩:=hb;unfold kU at hw;rw[au,decide_eq_true_iff]at hw;have hbal:=lh hw.1;rw[he,hbal]at hm;obtain⟨r1,r2,r3⟩:=Ic h.glob vo hp hf hm;obtain⟨a1,a0,_,_⟩:=vo.ask hp;have f1:(cN vt ((f:Nat):Int) m.had m.change).view=vt.view:=by unfold cN;split<;>rfl
 have f2:(cN vt ((f:Nat):Int) m.had m.change).ballot=vt.ballot:=by unfold cN;split<;>rfl
 have f3:(cN vt ((f:Nat):Int) m.had m.change).took=vt.took:=by unfold cN;split<;>rfl
 have f4:(cN vt ((f:Nat):Int) m.had m.change).vowed=gH .i64 vt.vowed (cn ((f:Nat):Int)):=by unfold cN;split<;>rfl
 rw[e]at ovt2;rw[e];split
 · rename_i en
   have en:dY vt.view (gH .i64 vt.vowed (cn ((f:Nat):Int)))=true:=en;rw[←f4]at en;rw[f4]at en;rw[vo.view]at en;have sf:Safe g s.view.epoch vt.ballot (cN vt ((f:Nat):Int) m.had m.change).change:=Ie h.glob h.mach.view r3 (by rw[f4];exact en) r1 r2;have G':=MF h.glob a1 (Mz h) vo.who vo.ev sf;have E:=DF (j:=j) (c:=(cN vt ((f:Nat):Int) m.had m.change).change) a1 vo.who;have W:=E.grow G'
   have X:PX (g.addG s.view.epoch vt.ballot (cN vt ((f:Nat):Int) m.had m.change).change) j (jr s {cN vt ((f:Nat):Int) m.had m.change with putting:=dY vt.view (gH .i64 vt.vowed (cn ((f:Nat):Int)))}):=⟨G',⟨h.mach.id,h.mach.view,h.mach.rnd,by
    obtain⟨ls,r,a,b,c⟩:=h.mach.log;exact⟨ls,r,a.mono λ_ q=>q.mono W,b,c⟩,λu q=>by
    obtain rfl:=aR q;refine⟨f1.trans vo.view,by show(cN vt ((f:Nat):Int) m.had m.change).ballot.who=_;rw[f2];exact vo.who,?_,r3,?_,λp=>?_,λ_=>⟨?_,λw hw b=>?_⟩⟩
    · obtain⟨x,hx,q1,q2⟩:=vo.ev
      exact⟨x,hx,q1,q2.trans f2.symm⟩
    · show 0≤(cN vt ((f:Nat):Int) m.had m.change).took∧(cN vt ((f:Nat):Int) m.had m.change).took<32
      rw[f3];exact vo.took
    · have p:dY vt.view (gH .i64 vt.vowed (cn ((f:Nat):Int)))=false:=p
      rw[vo.view,en]at p;cases p
    · show _=some (cN vt ((f:Nat):Int) m.had m.change).change
      show(g.addG s.view.epoch vt.ballot _).G s.view.epoch (cN vt ((f:Nat):Int) m.had m.change).ballot=_;rw[f2];exact Gi _ _ _
    · have b:j7 (cN vt ((f:Nat):Int) m.had m.change).took ((w:Nat):Int)=true:=b
      rw[f3,a0]at b
      exact absurd b (by revert b;match w,hw with|0,_|1,_|2,_|3,_|4,_=>decide)⟩,h.said.mono W⟩
   refine M2 E (Ex _ ?_);show(g.addG s.view.epoch vt.ballot _).G s.view.epoch (cN vt ((f:Nat):Int) m.had m.change).ballot=some (cN vt ((f:Nat):Int) m.had m.change).change;rw[f2];exact Gi _ _ _
 · rename_i en
   have en:dY vt.view (gH .i64 vt.vowed (cn ((f:Nat):Int)))=false:=by simpa using en
   have X:PX g j (jr s {cN vt ((f:Nat):Int) m.had m.change with putting:=dY vt.view (gH .i64 vt.vowed (cn ((f:Nat):Int)))}):=⟨h.glob,⟨h.mach.id,h.mach.view,h.mach.rnd,h.mach.log,λu q=>by
    obtain rfl:=aR q;refine⟨f1.trans vo.view,by show(cN vt ((f:Nat):Int) m.had m.change).ballot.who=_;rw[f2];exact vo.who,?_,r3,?_,λ_=>⟨?_,?_,?_,?_⟩,λp=>?_⟩
    · obtain⟨x,hx,q1,q2⟩:=vo.ev
      exact⟨x,hx,q1,q2.trans f2.symm⟩
    · show 0≤(cN vt ((f:Nat):Int) m.had m.change).took∧(cN vt ((f:Nat):Int) m.had m.change).took<32
      rw[f3];exact vo.took
    · show g.G s.view.epoch (cN vt ((f:Nat):Int) m.had m.change).ballot=none
      rw[f2];exact a1
    · exact f3.trans a0
    · show ∀w:Nat,w<5→j7 (cN vt ((f:Nat):Int) m.had m.change).vowed ((w:Nat):Int)=true→Vd g w s.view.epoch (cN vt ((f:Nat):Int) m.had m.change).ballot (cN vt ((f:Nat):Int) m.had m.change).best
      rw[f2];exact r1
    · show 1≤(cN vt ((f:Nat):Int) m.had m.change).best.round→blt (cN vt ((f:Nat):Int) m.had m.change).best (cN vt ((f:Nat):Int) m.had m.change).ballot∧g.G s.view.epoch (cN vt ((f:Nat):Int) m.had m.change).best=some (cN vt ((f:Nat):Int) m.had m.change).change
      rw[f2];exact r2
    · have p:dY vt.view (gH .i64 vt.vowed (cn ((f:Nat):Int)))=true:=p
      rw[en]at p;cases p⟩,h.said⟩
   exact ii
theorem BG[ok:OkR KD s][h:PX g j s]{f:Nat}(hf:f<5)(m:MsgT)[om:OkMg m](hm:Vowed g f m.epoch m.ballot m.had m.change):PS g j (p8 KD s ((f:Nat):Int) m):=
 sz _ m (rV om.ballot) λhe t _ _ hv _=>Ma hf m (by rw[hv];exact he) hm
theorem xH[ok:OkR KD s][h:PX g j s](w:Int)(m:MsgT)[om:OkMg m](he:mY m.epoch){a:AccT}(ha:OkAc a)(hm:Vowed g j m.epoch m.ballot a.had a.change):PS g j (l3 KD w m a s):=by
 have:=OkMg.promM m.epoch (m:=m) ha;unfold l3;refine B9 ?_ _ _ (KH he om.ballot ha.had ha.change hm);rw[h.mach.id];exact BG (Mz h) (fc m.epoch m.ballot a.had a.change) hm
theorem K9[ok:OkR KD s][h:PX g j s](w:Int)(m:MsgT)[om:OkMg m](he:m.epoch=s.view.epoch)(hr:m.ballot.round≤s.round):PS g j (oH KD w m s):=by
 unfold oH;split
 · exact ii
 rename_i z2;have ac: ¬qz s.acc m.epoch m.ballot=true:=λq=>z2 (by unfold bC;rw[if_pos q])
 have e1:bC s.acc m.epoch m.ballot=({s.acc with vow:=m.ballot},true):=by unfold bC;rw[if_neg ac]
 obtain⟨a1,a2,a3⟩:=Bi ac;have ie:mY m.epoch:=by rw[he];exact tc (s:=s)
 have oa:OkAc (bC s.acc m.epoch m.ballot).1:=inferInstance;obtain⟨r',t,_⟩:=h.mach.hst;split
 · have hq:Qv g s.view s.acc (dZ (fk m.epoch m.ballot)):=λd=>by
    obtain⟨k1,k2⟩:=vJ om.ballot d;exact .inr (.inl ⟨k1,by rw[k2];exact a2,by rw[k2];exact a3⟩)
   split
   · rename_i z4
     have:=vF (g:=g) (j:=j) (s:=s) hq z4;exact ii
   · rename_i z4
     obtain⟨E,X⟩:=wS (g:=g) (j:=j) (s:=s) (x:=⟨s.view.epoch,m.ballot,none⟩) (a:=(bC s.acc m.epoch m.ballot).1) hq z4 rfl a3 (λc q=>nomatch q) (λls r' l=>⟨_,by rw[e1];exact l.vow a2 a3 (vJ om.ballot),rfl⟩) s.round h.mach.rnd ⟨Int.le_refl _,hr⟩;have X:PX _ j (tC (dE KD s (fk m.epoch m.ballot)) (bC s.acc m.epoch m.ballot).1):=X.same rfl rfl rfl rfl rfl rfl rfl;refine M2 E (xH w m ie oa ?_);obtain⟨r2,t2,_⟩:=X.mach.hst;have vw:=BA (g:=g.addH j ⟨s.view.epoch,m.ballot,none⟩) (j:=j) t2 (by show 1≤(bC s.acc m.epoch m.ballot).1.vow.round;rw[e1];exact a2);have vw:Vowed (g.addH j ⟨s.view.epoch,m.ballot,none⟩) j s.view.epoch (bC s.acc m.epoch m.ballot).1.vow (bC s.acc m.epoch m.ballot).1.had (bC s.acc m.epoch m.ballot).1.change:=vw;have ev:(bC s.acc m.epoch m.ballot).1.vow=m.ballot:=by rw[e1]
     rw[ev,e1]at vw;rw[e1,he];exact vw
 · rename_i z3
   have z3:=Decidable.not_not.1 z3;have ev:m.ballot=s.acc.vow:=lh (by rw[e1]at z3;exact z3);refine xH w m ie oa ?_;rw[e1,he,ev];exact BA t (by rw[←ev];exact a2)
theorem BH[ok:OkR KD s][h:PX g j s](w:Int)(m:MsgT)[om:OkMg m]:PS g j (rA KD s w m):=
 sz _ m (rV om.ballot) λhe t _ _ hv hr=>K9 w m (by rw[hv];exact he) hr
theorem Ey[ok:OkR KD s][h:PX g j s](vt:VoteT)[ov:OkVt vt]:PS g j (k9 KD s vt):=by
 unfold k9 iV;have X:PX g j (iF KD s (fm s.view.epoch vt.ballot)):=o5 _ (sK (ND.d _ _));split
 · exact BH (s:=iF KD s (fm s.view.epoch vt.ballot)) _ _
 · exact ii
theorem tw[ok:OkR KD s][h:PX g j s](c:ChangeT)[oc:OkCh c]:PS g j (cD KD s c).1:=by
 unfold cD;split
 · exact ii
 rename_i z2;have ac: ¬qz s.acc s.view.epoch (dx s)=true:=λq=>z2 (by unfold bC;rw[if_pos q])
 have e1:bC s.acc s.view.epoch (dx s)=({s.acc with vow:=dx s},true):=by unfold bC;rw[if_neg ac]
 obtain⟨a1,a2,a3⟩:=Bi ac;have hw:=D8 s
 have rr:(dx s).round=s.round+1:=by
  have:=h.mach.rnd;have a2:1≤gX (s.round+1):=a2;show gX (s.round+1)=_
  by_cases q:s.round=9223372036854775807
  · rw[q]at a2;exact absurd a2 (by decide)
  · exact L9 (by have:=this.1;omega) (by have:=this.2;omega)
 have hq:Qv g s.view s.acc (dZ (fk s.view.epoch (dx s))):=λd=>by
  obtain⟨k1,k2⟩:=vJ hw d;exact .inr (.inl ⟨k1,by rw[k2];exact a2,by rw[k2];exact a3⟩)
 split
 · rename_i z4
   have:=vF (g:=g) (j:=j) (s:=s) hq z4;exact ii
 · rename_i z4
   obtain⟨E,X⟩:=wS (g:=g) (j:=j) (s:=s) (x:=⟨s.view.epoch,dx s,none⟩) (a:=(bC s.acc s.view.epoch (dx s)).1) hq z4 rfl a3 (λc q=>nomatch q) (λls r' l=>⟨_,by rw[e1];exact l.vow a2 a3 (vJ hw),rfl⟩) (dx s).round (rV hw) ⟨by omega,Int.le_refl _⟩;obtain⟨r',t,le⟩:=h.mach.hst
   have hn:g.G s.view.epoch (dx s)=none:=by
    cases q:g.G s.view.epoch (dx s)with
    |none=>rfl
    |some c'=>
     exfalso;obtain⟨k,hk,k1,x,hx,k2,k3⟩:=h.glob.own _ _ _ q;have k1:s.id=((k:Nat):Int):=k1;rw[h.mach.id]at k1;have ek:k=j:=by omega
     subst ek;have:=(t.vow x hx k2).2;rw[k3]at this;omega
   have z0: ∀w:Nat,w<5→¬j7 0 ((w:Nat):Int)=true:=λw hw=>by match w,hw with|0,_|1,_|2,_|3,_|4,_=>decide
   have X2:PX (g.addH j ⟨s.view.epoch,dx s,none⟩) j (qw KD s c):=⟨X.glob,⟨X.mach.id,X.mach.view,X.mach.rnd,X.mach.log,λu q=>by
    have q:some (iA s.view (dx s) c)=some u:=q;obtain rfl:=aR q
    refine⟨rfl,h.mach.id,⟨_,by rw[kN];exact jh _ (aX.2 rfl),rfl,rfl⟩,⟨by show(0:Int)≤0;decide,by show(0:Int)<32;decide⟩,⟨by show(0:Int)≤0;decide,by show(0:Int)<32;decide⟩,λ_=>⟨hn,rfl,λw hw b=>absurd b (z0 w hw),λq=>absurd q (by show ¬(1:Int)≤0;decide)⟩,λp=>nomatch p⟩⟩,X.said⟩
   exact M2 E ii
theorem Cr[ok:OkR KD s][h:PX g j s](v:ViewT)(b:BallotT)(c:ChangeT)[OkVt (iA v b c)]:PS g j (nM KD s (iA v b c)):=by
 unfold nM;rw[if_neg (show ¬(iA v b c).putting=true from tH)];exact Ey _
theorem HK[ok:OkR KD s][h:PX g j s](op:Int)(c:ChangeT)[OkCh c]:PS g j (dR KD s op c).1:=by
 unfold dR;split
 · exact ii
 split
 · exact(tw (g:=g) (j:=j) (s:=s) c).then λ_ _ X=>ii
 · exact(tw (g:=g) (j:=j) (s:=s) c).then λ_ _ X=>Cr _ _ _
theorem HH[ok:OkR KD s][h:PX g j s](o:OpT)[OkCh o.change]:PS g j (cb KD s o).1:=by
 unfold cb;split
 · exact HK _ _
 · unfold od
   have:PX g j (e9 KD (bP s) (dr (bP s) o).1 (bP s).ops).1:=FQ _ _
   repeat' split
   all_goals exact ii
theorem Il[ok:OkR KD s][h:PX g j s]:PS g j (p4 KD s):=by
 unfold p4;split
 · exact ii
 · rename_i vt hv
   have:=OkR.vote (s:=s) (K:=KD) vt hv;split
   · split
     · exact(tw (g:=g) (j:=j) (s:=s) vt.change).then λ_ _ X=>Cr _ _ _
     · exact tw _
   · exact ii
instance [ok:OkR KD s][h:PX g j s]:PX g j (bX KD s):=by
 unfold bX;split<;>exact inferInstance
instance [ok:OkR KD s][h:PX g j s]:PX g j (cg KD s):=by
 unfold cg;split
 · exact uO s.view ok.view.wf h.mach.view
 · exact h
instance [ok:OkR KD s][h:PX g j s]:PX g j (gz KD s):=by
 unfold gz;split
 · exact inferInstance
 · exact h
theorem Ki[ok:OkR KD s][h:PX g j s]:PS g j (iL KD s):=by
 unfold iL;split
 · exact Il
 · exact ii
theorem Kk[ok:OkR KD s][h:PX g j s]{f:Nat}(hf:f<5)(m:MsgT)[om:OkMg m](hm:MsgOk g f m):PS g j (gI KD s ((f:Nat):Int) m):=by
 unfold gI;split
 · exact ii
 split
 · exact ii
 split
 · exact ii
 split
 · rename_i k
   have:=wR (g:=g) (j:=j) (s:=s) m.view (hm.view (.inl k));exact ii
 split
 · rename_i k
   have:=Cn (g:=g) (j:=j) (s:=s) ((f:Nat):Int) m (hm.view (.inr k));exact ii
 split
 · exact ii
 split
 · exact BH _ m
 split
 · rename_i k;exact BG hf m (hm.prom k)
 split
 · rename_i k;exact BF _ m (hm.put k)
 split
 · rename_i k;exact BE hf m (rV om.ballot) (hm.taken k)
 · exact ii
end
def VUp(g g':Gh):Prop:=∀e v,g.V e=some v→g'.V e=some v
theorem VUp.refl(g:Gh):VUp g g:=λ_ _ h=>h
def VD(g:Gh)(i:Nat)(D:DS):Prop:=∃ls v a r,Rests D ls (Qv g v a)∧LogV ls v a r (g.H i)∧g.V v.epoch=some v
structure VG(g:Gh)(a:CL):Prop where
 glob:Glob g
 run: ∀i,i<5→∀s,(a.at' i).run=some s→Mach g i s
 D: ∀i,i<5→(a.at' i).run=none→VD g i (a.at' i).D
 way: ∀k,∀m∈a.W.getD k [],MsgD g (k / 5) m
section
variable {g g':Gh} {a:CL}
theorem VD.mono(h:Grow g g'){i:Nat}(hH:g'.H i=g.H i){D:DS}(t:VD g i D):VD g' i D:=by
 obtain⟨ls,v,x,r,h1,h2,h3⟩:=t;exact⟨ls,v,x,r,Rests.mono h1 λ_ q=>q.mono h,by rw[hH];exact h2,h.V _ _ h3⟩
theorem VG.put(h:VG g a)(h5:a.ms.length=5){i:Nat}(hi:i<5)(E:Ext i g g')(G':Glob g'){x:Slot}{W:List (List MsgT)}(h1: ∀s,x.run=some s→Mach g' i s)(h2:x.run=none→VD g' i x.D)(h3: ∀k,∀m∈W.getD k [],MsgD g' (k / 5) m):VG g' ⟨a.ms.set i x,W⟩:=by
 have hl:i<a.ms.length:=by omega
 have gr:=E.grow G';refine⟨G',λj hj s q=>?_,λj hj q=>?_,h3⟩
 · by_cases e:j=i
   · subst e;rw[rW hl]at q;exact h1 s q
   · rw[tA e]at q;exact(h.run j hj s q).mono gr (E.H j e) λep b hb=>E.Gn ep b (by omega)
 · by_cases e:j=i
   · subst e;rw[rW hl]at q ⊢;exact h2 q
   · rw[tA e]at q ⊢;exact(h.D j hj q).mono gr (E.H j e)
theorem VG.ways(h:VG g a)(W:Grow g g'): ∀k,∀m∈a.W.getD k [],MsgD g' (k / 5) m:=λk m q=>(h.way k m q).mono W
theorem VG.did(h:VG g a)(h5:a.ms.length=5){i:Nat}(hi:i<5){s:MS LD}(hs:PS g i s): ∃g',VG g' (a.did i s)∧VUp g g':=by
 obtain⟨g',E,X⟩:=hs;refine⟨g',h.put h5 hi E X.glob (x:= {a.at' i with run:=some s.hush}) (λt q=>?_) (λq=>by cases q) ?_,E.V⟩
 · obtain rfl:=aR q
   exact⟨X.mach.id,X.mach.view,X.mach.rnd,X.mach.log,X.mach.vote⟩
 · refine wB (P:=λk m=>MsgD g' (k / 5) m) _ (h.ways (E.grow X.glob)) λx hx hv=>?_
   unfold dm at hv;rw[au,au]at hv;obtain⟨ht,_⟩:=kf hv.1.2;show MsgD g' (bw ((i:Nat):Int) x.to' / 5) x.msg;unfold bw;rw[show((i:Nat):Int).toNat=i from rfl,(FF (f:=i) ht).1];exact X.said x hx
theorem VG.onway(h:VG g a){k:Nat}{l:List MsgT}(hl: ∀m∈l,MsgD g (k / 5) m):VG g (a.way k l):=⟨h.glob,h.run,h.D,λj m hm=>by
 by_cases q:j=k
 · subst q
   by_cases hk:j<a.W.length
   · have hm:m∈(a.W.set j l).getD j []:=hm
     rw[List.getD_eq_getElem?_getD,List.getElem?_set_self hk]at hm;exact hl m hm
   · have hm:m∈(a.W.set j l).getD j []:=hm
     rw[nw (by omega)]at hm;exact h.way j m hm
 · have hm:m∈(a.W.set k l).getD j []:=hm
   rw[List.getD_eq_getElem?_getD,List.getElem?_set_ne (λe=>q e.symm),←List.getD_eq_getElem?_getD]at hm;exact h.way j m hm⟩
theorem VG.px(h:VG g a){i:Nat}(hi:i<5){s:MS LD}(hs:(a.at' i).run=some s)(ho:s.o=[]):PX g i s:=⟨h.glob,h.run i hi s hs,λx hx=>by rw[ho]at hx;cases hx⟩
theorem Kc{n f t:Nat}(c:CLOk n a)(h:VG g a)(hf:f<5)(ht:t<5){m:MsgT}(hm:MsgD g f m): ∃g',VG g' (tl a f t m).1∧VUp g g':=by
 unfold tl;split
 · exact⟨g,h, .refl g⟩
 · rename_i s hs
   split
   · exact⟨g,h, .refl g⟩
   · split
     · rename_i hd
       obtain⟨h1,h2,h3⟩:=(c.at' t ht).run s hs;have:=h.px ht hs h3;have:=nS (bS m);exact h.did c.ms ht (Kk hf _ (hm hd))
     · exact⟨g,h, .refl g⟩
theorem Mb{n:Nat}(c:CLOk n a)(h:VG g a)(o:OpT): ∃g',VG g' (oO a o).1∧VUp g g':=by
 unfold oO;split
 · exact⟨g,h, .refl g⟩
 · rename_i hv
   have hv:dm o.at' o.to'=true:=by simpa using hv
   have hw:=h.way (bw o.at' o.to');have gw:=c.way (bw o.at' o.to');split
   · exact⟨g,h, .refl g⟩
   · rename_i m l hl
     rw[hl]at hw gw;split
     · split
       · refine⟨g,h.onway λx hx=>?_, .refl g⟩
         unfold DR at hx;split at hx
         · rcases bA.1 hx with hx|hx
           · exact hw x hx
           · rw[aX]at hx;subst hx;exact hw _ (cY ..)
         · exact hw x hx
       · exact⟨g,h, .refl g⟩
     · split
       · exact⟨g,h, .refl g⟩
       · rename_i m2 l2 hl2
         have hlen:=jt (max o.n 0% ((m::l).length:Int)).toNat (m::l);have hmem:=λx=>(m5 (x:=x) (max o.n 0% ((m::l).length:Int)).toNat (m::l)).1
         rw[hl2]at hlen hmem;have z:VG g (a.way (bw o.at' o.to') l2):=h.onway λx hx=>hw x (hmem x (dd _ hx))
         have g2:CLOk n (a.way (bw o.at' o.to') l2):=c.onway ⟨by simp only[az]at hlen gw;omega,λx hx=>gw.2 x (hmem x (dd _ hx))⟩;unfold dm at hv;rw[au,au]at hv;have hf:=(kf hv.1.1).1;have ht:=(kf hv.1.2).1;split
         · exact⟨g,z, .refl g⟩
         · refine Kc g2 z hf ht ?_
           have:=hw m2 (hmem m2 (cY ..));unfold bw at this
           rwa [(FF ht).1]at this
theorem Ck: ∀(ls:List (List UInt8)) (t s:MS LD),mY t.round→gS ls t=some s→mY s.round
 | [],t,s,h,q=>by obtain rfl:=aR q;exact h
 |b::ls,t,s,h,q=>by
  unfold gS at q;split at q
  · cases q
  refine Ck ls _ s ?_ q;have hb:=rV (tj b).ballot;have z:mY (max t.round (dC b).1.ballot.round):=⟨by have:=h.1;omega,by have:=h.2;have:=hb.2;omega⟩;have z0:mY (0:Int):=⟨by decide,by decide⟩;unfold ig
  repeat' split
  all_goals first|exact h|exact z|exact z0
theorem If(G:Glob g){i:Nat}(hi:i<5){D:DS}(h:VD g i D)(hw:D.dn=false→D.ws=[]): ∃g',Ext i g g'∧Glob g'∧(∀s,(dB i D).1=some s→Mach g' i s)∧((dB i D).1=none→VD g' i (bI D).D):=by
 obtain⟨ls,v,x,r,hr,hl,hv⟩:=h;rcases hr.open hw with⟨e,hr⟩| ⟨ls',D',e,ad,lg,dn⟩
 · have n:(dB i D).1=none:=by unfold dB;rw[if_pos e]
   exact⟨g,JS i g,G,(λs q=>by rw[n]at q;cases q),λ_=>⟨ls,v,x,r,hr,hl,hv⟩⟩
 · obtain⟨g',E,G',v',x',r',hl',hv'⟩: ∃g',Ext i g g'∧Glob g'∧∃v' x' r',LogV ls' v' x' r' (g'.H i)∧g'.V v'.epoch=some v':=by
    have same:LogV ls' v x r (g.H i)→∃g',Ext i g g'∧Glob g'∧∃v' x' r',LogV ls' v' x' r' (g'.H i)∧g'.V v'.epoch=some v':=λq=>⟨g,JS i g,G,v,x,r,q,hv⟩
    have ev: ∀y:VEv,y.ep=v.epoch→¬blt y.b x.vow→(∀c,y.c=some c→g.G y.ep y.b=some c∧1≤y.b.round)→Ext i g (g.addH i y)∧Glob (g.addH i y):=λy he hy hc=>⟨xL y,Jf G (λz hz e2=>by
     have:=(hl.hst.vow z hz (e2.trans he)).1
     unfold blt at*;omega) hc⟩
    rcases ad with rfl| ⟨b,q,rfl⟩
    · exact same hl
    · by_cases d:(dC b).2=0
      · rcases q d with k| ⟨k,k1,k2⟩| ⟨k,k1,k2,k3⟩| ⟨k,k1,k2⟩
        · exact same (hl.oth λ_=>k)
        · obtain⟨E,G'⟩:=ev ⟨v.epoch,(dC b).1.ballot,none⟩ rfl k2 λc q=>nomatch q
          exact⟨_,E,G',v,_,_,by rw[kN];exact hl.vow k1 k2 λ_=>⟨k,rfl⟩,hv⟩
        · obtain⟨E,G'⟩:=ev ⟨v.epoch,(dC b).1.ballot,some (dC b).1.change⟩ rfl k2 λc q=>by
           obtain rfl:=aR q;exact⟨k3,k1⟩
          exact⟨_,E,G',v,_,_,by rw[kN];exact hl.take k1 k2 λ_=>⟨k,rfl,rfl⟩,hv⟩
        · exact⟨g,JS i g,G,_,_,_,hl.view k1 λ_=>⟨k,rfl⟩,k2⟩
      · exact same (hl.oth λz=>absurd z d)
   refine⟨g',E,G',λs q=>?_,λ_=>by rw[e];exact⟨ls',v',x',r', .inl lg,hl',hv'⟩⟩;obtain⟨_,q⟩:=nK q;rw[e]at q;obtain⟨k1,k2,k3⟩:=y8 hl' s q;have fr:=HZ _ (Qi _ _) q;refine⟨fr.id,by rw[k1];exact hv',Ck _ _ _ (show mY (0:Int)from⟨by decide,by decide⟩) q,⟨ls',r',?_,by rw[k1,k2];exact hl',by rw[k3];exact Int.le_refl _⟩,λvt z=>by rw[fr.vote]at z;cases z⟩;rw[fr.e];exact .inl ⟨dn,lg,rfl,rfl⟩
theorem M6{n:Nat}(c:CLOk n a)(h:VG g a){o:OpT}(ho:OkOp o): ∃g',VG g' (vn a o).1∧VUp g g':=by
 unfold vn;split
 · exact⟨g,h, .refl g⟩
 rename_i hm;have hm:iX o.at'=true:=by simpa using hm
 have hi:=(kf hm).1;have R:=λi=>JS i g
 split
 · unfold Fl
   split
   · exact⟨g,h, .refl g⟩
   · rename_i s hs
     split
     · exact⟨g,h, .refl g⟩
     · obtain⟨h1,h2,h3⟩:=(c.at' _ hi).run s hs
       have:=h.px hi hs h3;have:=ho.change;exact h.did c.ms hi (HH o)
 split
 · exact Mb c h o
 split
 · unfold Ea
   split
   · exact⟨g,h, .refl g⟩
   · rename_i s hs
     split
     · exact⟨g,h, .refl g⟩
     · obtain⟨h1,h2,h3⟩:=(c.at' _ hi).run s hs
       have:=h.px hi hs h3;exact h.did c.ms hi Ki
 split
 · cases ht:(a.at' o.at'.toNat).run with
   |some t=>
    rw[HO ht];refine⟨g,h.put c.ms hi (R _) h.glob (λs q=>?_) (λq=>by cases q) h.way, .refl g⟩;obtain rfl:=aR q;have z:=h.run _ hi t ht;obtain⟨ls,r,l,b⟩:=z.log;exact⟨z.id,z.view,z.rnd,⟨ls,r,l.arm ho.n,b⟩,z.vote⟩
   |none=>
    rw[HQ ht];refine⟨g,h.put c.ms hi (R _) h.glob (λs q=>?_) (λq=>?_) h.way, .refl g⟩
    · have q:(a.at' o.at'.toNat).run=some s:=q
      rw[ht]at q;cases q
    · obtain⟨ls,v,x,r,l,b⟩:=h.D _ hi ht
      exact⟨ls,v,x,r,l.arm ho.n,b⟩
 split
 · refine⟨g,h.put c.ms hi (R _) h.glob (λs q=>by cases q) (λ_=>?_) h.way, .refl g⟩
   show VD _ _ ((a.at' o.at'.toNat).dk.crash o.mask o.torn o.cut);unfold Slot.dk;split
   · rename_i s hs
     have z:=h.run _ hi s hs;obtain⟨ls,r,l,b,_⟩:=z.log;exact⟨ls,_,_,r,l.crash _ _ _,b,z.view⟩
   · rename_i hs
     obtain⟨ls,v,x,r,l,b⟩:=h.D _ hi hs;exact⟨ls,v,x,r,l.crash _ _ _,b⟩
 split
 · have up:=(c.at' _ hi).D
   cases hs:(a.at' o.at'.toNat).run with
   |some s=>
    rw[BW hs];exact⟨g,h.put c.ms hi (R _) h.glob (h.run _ hi) (h.D _ hi) h.way, .refl g⟩
   |none=>
    rw[BX hs];obtain⟨g',E,G',h1,h2⟩:=If h.glob hi (h.D _ hi hs) (up hs).up;exact⟨g',h.put c.ms hi E G' h1 h2 (h.ways (E.grow G')),E.V⟩
 · exact⟨g,h, .refl g⟩
end
def Gh.zero:Gh:=⟨λe=>if e=1 then some firstV else none,λ_ _=>none,λ_=>[]⟩
theorem Hw:Glob .zero:=by
 have one: ∀e v,Gh.zero.V e=some v→e=1∧v=firstV:=λe v h=>by
  have h:(if e=1 then some firstV else none)=some v:=h;split at h
  · rename_i q;exact⟨q,(aR h).symm⟩
  · cases h
 refine⟨rfl,λe v h=>?_,λe v h n=>absurd (one e v h).1 n,λ_=>List.Pairwise.nil,(λw e b c t=>nomatch t),(λe b c h=>nomatch h),λe b c h=>nomatch h⟩;obtain⟨rfl,rfl⟩:=one e v h;exact⟨rfl, .first⟩
theorem Mc: ∃g,VG g CL.new:=by
 have l0: ∀i,LogV [] firstV (Gj 1) 0 (Gh.zero.H i):=λ_=> .nil
 obtain⟨D',e,lg,_,dn⟩:=LogD.new.open rfl rfl;refine⟨.zero,Hw,λi hi s q=>?_,λi hi q=>?_,λk m hm=>?_⟩
 · rw[(w5 hi).1]at q
   obtain⟨_,q⟩:=nK q;rw[e]at q;obtain⟨k1,k2,k3⟩:=y8 (l0 i) s q;have fr:=HZ _ (Qi _ _) q;refine⟨fr.id,by rw[k1];rfl,by rw[k3];exact⟨by decide,by decide⟩,⟨[],0,?_,by rw[k1,k2];exact l0 i,by rw[k3];exact Int.le_refl _⟩,λvt z=>by rw[fr.vote]at z;cases z⟩;rw[fr.e];exact .inl ⟨dn,lg,rfl,rfl⟩
 · rw[(w5 hi).2,e]
   exact⟨[],firstV,Gj 1,0, .inl lg,l0 i,rfl⟩
 · have z:CL.new.W.getD k []=[]:=by
    show(List.replicate 25 ([]:List MsgT)).getD k []=[];rw[List.getD_eq_getElem?_getD,List.getElem?_replicate];split<;>rfl
   rw[z]at hm;cases hm
end Api
end

section
namespace Leg
open Go
section
variable {α:Type}
def xS(f:α→Value)(S:List (Int×α)):List (Int×Value):=S.map λp=>(p.1,f p.2)
def vm(S:List (Int×α))(k:Int):Option α:=match S with
 | []=>none
 | (a,v)::S=>if k=a then some v else vm S k
def ym(S:List (Int×α))(k:Int)(v:α):List (Int×α):=match S with
 | []=>[(k,v)]
 | (a,u)::S=>if k=a then(a,v)::S else(a,u)::ym S k v
theorem Gb(f:α→Value)(k:Int): ∀S:List (Int×α),CM (xS f S) k=(vm S k).map f
 | []=>rfl
 | (a,v)::S=>by
  unfold vm;show(if k=a then some (f v)else CM (xS f S) k)=_;split
  · rfl
  · exact Gb f k S
theorem AW(f:α→Value)(k:Int)(v:α): ∀S:List (Int×α),rN (xS f S) k (f v)=xS f (ym S k v)
 | []=>rfl
 | (a,u)::S=>by
  unfold ym;show(if k=a then(a,f v)::xS f S else(a,f u)::rN (xS f S) k (f v))=_;split
  · rfl
  · rw[AW f k v S];rfl
theorem C5{k:Int}{v:α}: ∀{S:List (Int×α)},vm S k=some v→(k,v)∈S
 | (a,u)::S,h=>by
  unfold vm at h;split at h
  · rename_i q
    obtain rfl:=aR h;subst q;exact cY ..
  · exact dd _ (C5 h)
theorem C0{k:Int}{v:α}{p:Int×α}: ∀{S:List (Int×α)},p∈ym S k v→p=(k,v)∨p∈S
 | [],h=> .inl (aX.1 h)
 | (a,u)::S,h=>by
  unfold ym at h;split at h
  · rename_i q
    subst q;rcases bV.1 h with h|h
    · exact .inl h
    · exact .inr (dd _ h)
  · rcases bV.1 h with h|h
    · exact .inr (h▸cY ..)
    · exact(C0 h).imp id (dd _)
theorem KN{f:α→Value}{S:List (Int×α)}{es:List MapEntry}(h:jx es=jZ (xS f S)){e:MapEntry}(he:e∈es): ∃k v,(k,v)∈S∧e.key= .int .i64 k∧e.val=f v:=by
 have h1:(e.key,e.val)∈jx es:=dw.2 ⟨e,he,rfl⟩;rw[h]at h1;obtain⟨p,hp,q⟩:=dw.1 h1;obtain⟨r,hr,rfl⟩:=dw.1 hp;injection q with q1 q2
 exact⟨r.1,r.2,hr,q1.symm,q2.symm⟩
end
section
variable {P:Program} {w0:World} {F:Hl} {n:Nat} {ops:Array Oper} {Q:QQ} {D:List Deferred} {L:List (Nat×Value)} {H:List HP} {o:Oper} {l:List Oper} {d:Nat} {S:World→Prop} {α:Type} {f:α→Value} {K:List (Int×α)}
def F7(es:List MapEntry)(seen:Array Nat):Array MapEntry:=(List.toArray es).filter λe=> !seen.contains e.born
theorem RdM.obj{m:Nat}{kv:List (Int×Value)}{es:List MapEntry}{c:Nat}(hp:jx es=jZ kv)(i:Nat)(hi:Nat.blt i H.length=true)(e:H.getD i (λ_=>True)=Leg.obj m (.map (List.toArray es) c)):RdM (Sat H F) m kv:=λ_ s=>⟨es,c,s.block i (lb hi) e,hp⟩
theorem TL.lookup2{t kt et m:Nat}{x y:Operand}{k:Int}{z:Value}(hw:Want n D ops o L)(ho:o.op= .lookup t x y true)(hd:o.dst=some d)(hn:Nat.blt d n=true)(ht:P.underlying t=some (.map kt et))(hk:P.underlying kt=some (.int .i64))(hz:(P.info? et).map (·.zero)=some (some z))
 (hx:cI L x=some (.map (some m))) (hy:cI L y=some (.int .i64 k)) (hR:RdM (Sat H F) m (xS f K))
 (h0:vm K k=none→TL P w0 F n ops Q l D ((d, .tuple #[z, .bool false])::L) H) (h1: ∀u,vm K k=some u→TL P w0 F n ops Q l D ((d, .tuple #[f u, .bool true])::L) H):TL P w0 F n ops Q (o::l) D L H:=by
 have pv: ∀v,(match vm K k with|none=>Value.tuple #[z, .bool false]|some u=> .tuple #[f u, .bool true])=v→PV P n D L (Sat H F) o v:=λv hv a w fr s=>by
  obtain⟨es,clock,e1,e2⟩:=hR w s;subst hv;have hc:=oW (P:=P) (w:=w) (List.toArray es).isEmpty 9999 (k:=k) hk;have hf:=qc (P:=P) (w:=w) (k:=k) hk e2;have hg:(getObj m).run P w= .ok (.map (List.toArray es) clock) w:=by simp[getObj,Sem.run,e1]
  simp only[execOp,ho,fr.eval hx,fr.eval hy,Instr.lookup,Sem.run_bind,run_underlying ht,Result.andThen_ok,hg,hc,Sem.run_pure];have q:=xj k (xS f K) 0;rw[Gb]at q;cases hq:sZ k (xS f K) 0 with
  |none=>
   rw[hq]at q;cases hu:vm K k with
   |none=>simp[hf,hq,mT hz]
   |some u=>rw[hu]at q;cases q
  |some p=>
   rw[hq]at q;cases hu:vm K k with
   |none=>rw[hu]at q;cases q
   |some u=>
    rw[hu]at q;have q:=aR q;simp[hf,hq,q]
 cases hu:vm K k with
 |none=>exact lp hw hd hn (pv _ (by rw[hu])) (h0 hu)
 |some u=>exact lp hw hd hn (pv _ (by rw[hu])) (h1 u hu)
theorem TL.openMap{m:Nat}{kv:List (Int×Value)}(i:Nat)(hi:Nat.blt i H.length=true)(e:H.getD i (λ_=>True)=gM m kv)(h: ∀es c,jx es=jZ kv→Stamps es c→TL P w0 F n ops Q l D L (H.set i (obj m (.map (List.toArray es) c)))):TL P w0 F n ops Q l D L H:=λa w fr s t=>by
 obtain⟨g,d',e',x⟩:=t;obtain⟨h1,h2,d2,rfl,y,z⟩:=e6 i (lb hi) x;rw[e]at y;obtain⟨es,c,y1,y2,y3⟩:=y;exact h es c y2 y3 a w fr s ⟨_,d',e',ku i (lb hi) ⟨h1,h2,d2,rfl,y1,z⟩⟩
theorem TL.range{t kt et m c:Nat}{x:Operand}{es:List MapEntry}(hw:Want n D ops o L)(ho:o.op= .range t x)(hd:o.dst=some d)(hn:Nat.blt d n=true)(ht:P.underlying t=some (.map kt et))(hx:cI L x=some (.map (some m)))
 (i:Nat) (hi:Nat.blt i H.length=true) (e:H.getD i (λ_=>True)=obj m (.map (List.toArray es) c)) (h: ∀r,TL P w0 F n ops Q l D ((d, .pointer (some ⟨r,0,none⟩))::L) (obj r (.mapIter (some m) c #[] c)::H)):TL P w0 F n ops Q (o::l) D L H:=
 kO hw λa w f s m'=>by
  unfold Oper.wp
  have r:(execOp a.eval o).run P w= .ok (.value (.pointer (some ⟨w.heap.size,0,none⟩))) (w.alloc (.mapIter (some m) c #[] c)):=by
   simp[execOp,ho,f.eval hx,run_range_map w t kt et m (List.toArray es) c ht (m'.block i (lb hi) e)]
  rw[r,Oper.upon_value,hd];exact h _ _ _ (f.put (lb hn) _) (s.trans ⟨rfl,rfl,rfl,by simp⟩) (m'.alloc _)
theorem TL.next{m c r:Nat}{x:Operand}{t:TypeId}{es:List MapEntry}{seen:Array Nat}(hp:jx es=jZ (xS f K))(hs:Stamps es c)(hw:Want n D ops o L)(ho:o.op= .next x false)(ht:o.type=t)(hd:o.dst=some d)(hn:Nat.blt d n=true)(hx:cI L x=some (.pointer (some ⟨r,0,none⟩)))
 (i j:Nat) (hi:Nat.blt i H.length=true) (hj:Nat.blt j H.length=true) (ei:H.getD i (λ_=>True)=obj m (.map (List.toArray es) c)) (ej:H.getD j (λ_=>True)=obj r (.mapIter (some m) c seen c))
 (h0:(F7 es seen).size=0→TL P w0 F n ops Q l D ((d, .tuple #[.bool false])::L) H)
 (h1: ∀e k u,e∈(F7 es seen).toList→(k,u)∈K→e.key= .int .i64 k→e.val=f u→TL P w0 F n ops Q l D ((d, .tuple #[.bool true, .int .i64 k,f u])::L) (H.set j (obj r (.mapIter (some m) c (seen.push e.born) c)))):TL P w0 F n ops Q (o::l) D L H:=
 kO hw λa w fr s m'=>by
  unfold Oper.wp;have b1:=m'.block i (lb hi) ei;have b2:=m'.block j (lb hj) ej;rcases run_next_at (P:=P) w t r m c c seen (List.toArray es) c b2 b1 (λx hx=>hs.1 _ (dw.2 ⟨x,by simpa using hx,rfl⟩)) (aM _)with⟨z,q⟩| ⟨e,he,w1,hw1,q⟩
  · have r:(execOp a.eval o).run P w= .ok (.value (.tuple #[.bool false])) w:=by simp[execOp,ho,ht,fr.eval hx,q]
    rw[r,Oper.upon_value,hd];exact h0 z _ _ (fr.put (lb hn) _) s m'
  · obtain⟨k,u,k1,k2,k3⟩:=KN hp (by simpa using(mem_left he).1)
    rw[k2,k3]at q;have r':(execOp a.eval o).run P w= .ok (.value (.tuple #[.bool true, .int .i64 k,f u])) (ChangeMaps.setBlock w1 r (.mapIter (some m) c (seen.push e.born) c)):=by simp[execOp,ho,ht,fr.eval hx,q]
    rw[r',Oper.upon_value,hd]
    have hh:w1.heap=w.heap∧Same w w1:=by
     rcases hw1 with rfl|rfl
     · exact⟨rfl, .refl _⟩
     · exact⟨rfl,⟨rfl,rfl,rfl,aM _⟩⟩
    have hr:r<w.heap.size:=by
     by_cases q:r<w.heap.size
     · exact q
     · rw[Array.getElem?_eq_none (by omega)]at b2;cases b2
    refine h1 e k u he k1 k2 k3 _ _ (fr.put (lb hn) _) ((s.trans hh.2).trans ⟨rfl,rfl,rfl,by simp[ChangeMaps.setBlock]⟩) ?_;refine m'.write j (lb hj) ej ?_ λk hk=>?_
    · simp[ChangeMaps.setBlock,hh.1,hr]
    · simp[ChangeMaps.setBlock,hh.1,Array.getElem?_setIfInBounds,Ne.symm hk]
theorem PV.entry{m c r:Nat}{x:Operand}{es:List MapEntry}{seen:Array Nat}{e:MapEntry}{k:Int}{v:Value}(hs:Stamps es c)(he:e∈(F7 es seen).toList)(h1:e.key= .int .i64 k)(h2:e.val=v)(ho:o.op= .entry x)(hx:cI L x=some (.pointer (some ⟨r,0,none⟩)))
 (i j:Nat) (hi:Nat.blt i H.length=true) (hj:Nat.blt j H.length=true) (ei:H.getD i (λ_=>True)=obj m (.map (List.toArray es) c)) (ej:H.getD j (λ_=>True)=obj r (.mapIter (some m) c (seen.push e.born) c)):PV P n D L (Sat H F) o (.tuple #[.int .i64 k,v]):=λa w fr s=>by
 have b1:=s.block i (lb hi) ei;have b2:=s.block j (lb hj) ej;have q:=run_entry_at (P:=P) w r m c seen (List.toArray es) c e b2 b1 (mem_left he).1 (by simpa using hs.2);rw[h1,h2]at q;simp[execOp,ho,fr.eval hx,q]
end
end Leg
end

section
namespace Api
open Go Leg Codec Dsk Wal
abbrev DQ(v:ViewT):Value:= .agg (ints v.flat).toArray
def Seen(g:Gh)(S:List (Int×ViewT)):Prop:=∀p∈S,g.V p.1=some p.2
section
variable {g g':Gh} {S:List (Int×ViewT)} {k:Int} {v u:ViewT}
theorem Seen.get(h:Seen g S)(q:vm S k=some v):g.V k=some v:=h _ (C5 q)
theorem Seen.put(h:Seen g S)(q:g.V k=some v):Seen g (ym S k v):=λp hp=>by
 rcases C0 hp with rfl|hp
 · exact q
 · exact h p hp
theorem Seen.up(h:Seen g S)(q:VUp g g'):Seen g' S:=λp hp=>q _ _ (h p hp)
theorem Seen.one(G:Glob g):Seen g [(1,firstV)]:=λp hp=>by
 rw[aX]at hp;subst hp;exact G.first
theorem Glob.okv(G:Glob g)(h:g.V k=some v):v.epoch=k∧1≤k∧k<9223372036854775808∧OkVw v:=by
 obtain⟨e,gv⟩:=G.view k v h;have h1:=gv.epoch
 have hk:k<9223372036854775808:=by
  by_cases q:k=1
  · omega
  · obtain⟨u,b,c,_,_,hn⟩:=G.next k v h q
    have z:(cm u c).2=0:=by rw[hn]
    have e2:=w4 z;rw[hn]at e2;have e2:v.epoch=IntKind.i64.wrap (u.epoch+1):=e2;have:=(pV (u.epoch+1)).2;omega
 have o:=gv.okV (by omega)
 exact⟨e,by omega,hk,⟨gv.rng,by
  have h2:=gv.mem;have h3:=gv.rng;intro x hx;unfold ViewT.flat at hx;rcases bV.1 hx with rfl|hx
  · exact nF ⟨by omega,by omega⟩
  rcases bV.1 hx with rfl|hx
  · exact nF ⟨by omega,by omega⟩
  · obtain⟨i,hi,rfl⟩:=List.mem_iff_getElem.1 hx
    rw[aA]at hi;have:=h3 i hi;rw[Vector.getElem_toList]
    exact nF ⟨by omega,by omega⟩⟩⟩
theorem Glob.follow(G:Glob g)(h:g.V k=some v)(hk:1<k)(hu:g.V (k-1)=some u): ∃c,cm u c=(v,0):=by
 obtain⟨u',b,c,h1,_,h2⟩:=G.next k v h (by omega);rw[hu]at h1;obtain rfl:=aR h1;exact⟨c,h2⟩
end
def NY(u v:ViewT)(a b k:Int):Prop:=∀c,cm u c=(v,0)→(0≤c.who∧c.who<5)∧(0≤c.heir∧c.heir<5)∧(0≤c.kind∧c.kind<2)∧(a<c.who∨(a=c.who∧(b<c.heir∨(b=c.heir∧k≤c.kind))))
theorem NY.init(u v:ViewT):NY u v 0 0 0:=λc h=>by
 have z:(cm u c).2=0:=by rw[h]
 unfold cm at z;split at z
 · exact absurd z (by decide)
 rename_i q;simp only[di,Bool.not_eq_true',not_or,jJ]at q;have h1:0≤c.who∧c.who<5:=of_decide_eq_true q.1;have h2:0≤c.heir∧c.heir<5:=of_decide_eq_true q.2;split at z
 · exact⟨h1,h2,⟨by omega,by omega⟩,by omega⟩
 split at z
 · exact⟨h1,h2,⟨by omega,by omega⟩,by omega⟩
 · exact absurd z (by decide)
section
variable {u v:ViewT} {a b k:Int}
theorem NY.step(h:NY u v a b k)(n: ¬((cm u ⟨k,a,b⟩).2=0∧(cm u ⟨k,a,b⟩).1.flat=v.flat)):NY u v a b (k+1):=λc q=>by
 obtain⟨h1,h2,h3,h4⟩:=h c q;refine⟨h1,h2,h3,?_⟩
 by_cases e:a=c.who∧b=c.heir∧k=c.kind
 · obtain⟨rfl,rfl,rfl⟩:=e
   exact absurd (by rw[show(⟨c.kind,c.who,c.heir⟩:ChangeT)=c from rfl,q];exact⟨rfl,rfl⟩) n
 · omega
theorem NY.heir(h:NY u v a b 2):NY u v a (b+1) 0:=λc q=>by
 obtain⟨h1,h2,h3,h4⟩:=h c q;exact⟨h1,h2,h3,by omega⟩
theorem NY.who(h:NY u v a 5 0):NY u v (a+1) 0 0:=λc q=>by
 obtain⟨h1,h2,h3,h4⟩:=h c q;exact⟨h1,h2,h3,by omega⟩
theorem NY.no(h:NY u v 5 0 0)(q: ∃c,cm u c=(v,0)):False:=by
 obtain⟨c,q⟩:=q;obtain⟨h1,h2,h3,h4⟩:=h c q;omega
end
end Api
end

section
namespace Go.Proofs.YtmcjhkbcmmddgaaGreat
open Go Leg Codec Api Dsk Wal
theorem Nd:Tryz.prog.eqGuardType Tryz.prog.depth 29=false:=by kernel_rfl
theorem Nc:Tryz.prog.keyTypeAt 4 29=true:=by kernel_rfl
theorem Od:oA Tryz.prog 4 29=some 7:=by kernel_rfl
theorem KQ:(match Tryz.prog.underlying 29 with|some (.struct _)|some (.array _ _)=>true|_=>false)=true:=by kernel_rfl
theorem K0:Tryz.prog.cellsOf 29=7:=by kernel_rfl
theorem AV(u v:ViewT)[hu:OkVw u][hv:OkVw v](h: ∃c,cm u c=(v,0)):
 DT 13 #[(.agg (ints u.flat).toArray),(.agg (ints v.flat).toArray)] T0 [] (RI (.bool true) []):=by
 refine BD 38 Tryz.func13 rfl rfl rfl λw0 F hF=>sr λ_ J1=>XY (ints u.flat) λb2=>?_
 refine XY (ints v.flat) λb3=>?_
 refine PS ?_;refine nx J1 (aa λ_ J2=>sr λ_ J3=>PS ?_);refine nx J3 (av ?_)
 refine bG (α:=(Nat)) (λa=>a≤5∧NY u v ((a:Nat):Int) 0 0) (λa=>[(2,(.pointer (some ⟨b2,0,none⟩))),(3,(.pointer (some ⟨b3,0,none⟩))),(10,(.int .i64 (((a:Nat):Int))))]) (λa=>[an b2 (ints u.flat) 29,an b3 (ints v.flat) 29]) (λa=>5-a) 0
  ⟨aP _, .init u v⟩ SB
  (λ_ s=>ao [1,0] rfl s) (λa hinv=>?_)
 obtain⟨ha,hya⟩:=hinv;refine sr λ_ J4=>PS ?_
 refine aq ?_ ?_<;>intro h11;refine nx J4 (aa λ_ J5=>CY (qx J5 (aa λ_ J6=>av (sr λ_ J7=>P2 ?_))));refine nx J7 (sr λ_ J8=>PS ?_);refine nx J8 (av ?_)
 refine bG (α:=(Nat)) (λb=>b≤5∧NY u v ((a:Nat):Int) ((b:Nat):Int) 0) (λb=>[(2,(.pointer (some ⟨b2,0,none⟩))),(3,(.pointer (some ⟨b3,0,none⟩))),(5,(.int .i64 (((a:Nat):Int)))),(10,(.int .i64 (((a:Nat):Int)))),(13,(.int .i64 (((b:Nat):Int))))]) (λb=>[an b2 (ints u.flat) 29,an b3 (ints v.flat) 29]) (λb=>5-b) 0
  ⟨aP _,hya⟩ SB
  (λ_ s=>s) (λb hinv=>?_)
 obtain⟨hb,hyb⟩:=hinv;refine sr λ_ J9=>PS ?_
 refine aq ?_ ?_<;>intro h14;refine nx J9 (aa λ_ J10=>CY (qx J10 (aa λ_ J11=>av (sr λ_ J12=>P2 ?_))));refine nx J12 (sr λ_ J13=>PS ?_);refine nx J13 (av ?_)
 refine bG (α:=(Nat)) (λk=>k≤2∧NY u v ((a:Nat):Int) ((b:Nat):Int) ((k:Nat):Int)) (λk=>[(2,(.pointer (some ⟨b2,0,none⟩))),(3,(.pointer (some ⟨b3,0,none⟩))),(5,(.int .i64 (((a:Nat):Int)))),(6,(.int .i64 (((b:Nat):Int)))),(10,(.int .i64 (((a:Nat):Int)))),(13,(.int .i64 (((b:Nat):Int)))),(16,(.int .i64 (((k:Nat):Int))))]) (λk=>[an b2 (ints u.flat) 29,an b3 (ints v.flat) 29]) (λk=>2-k) 0
  ⟨aP _,hyb⟩ SB
  (λ_ s=>s) (λk hinv=>?_)
 obtain⟨hk,hyk⟩:=hinv;refine sr λ_ J14=>PS ?_
 refine aq ?_ ?_<;>intro h17;refine nx J14 (aa λ_ J15=>CY (qx J15 (aa λ_ J16=>av (sr λ_ J17=>P2 ?_))));refine nx J17 (sr λ_ J18=>LW 0 eL be ai ?_);refine P3 ?_;refine tp (lu ChangeT.zero (ChangeT.mk ((k:Nat):Int) ((a:Nat):Int) ((b:Nat):Int)) [(0,[Value.int .i64 ((k:Nat):Int)]),(1,[Value.int .i64 ((a:Nat):Int)]),(2,[Value.int .i64 ((b:Nat):Int)])] nt H0 (g:=ChangeT.sg)) ?_;refine CE mI (dq u ⟨((k:Nat):Int),((a:Nat):Int),((b:Nat):Int)⟩ OkVw.rng) ID ?_;refine P3 ?_;refine XZ pM (ints ViewT.zero.flat) λb8=>?_
 refine SW 0 be ai ?_;refine PS ?_;refine nx J18 (sr λ_ J19=>P2 ?_);refine aq ?_ ?_<;>intro h29;refine PS ?_;refine LW 0 eL be ai ?_;refine LW 2 eL be ai ?_;refine tq (PV.eqlAgg (a:=((cm u ⟨((k:Nat):Int),((a:Nat):Int),((b:Nat):Int)⟩).1).flat) (b:=v.flat) (m:=4) (c:=7) Nd Nc rfl Od (du (ai ((cm u ⟨((k:Nat):Int),((a:Nat):Int),((b:Nat):Int)⟩).1))) (du (ai v)) ⟨gh KQ K0 (du (ai ((cm u ⟨((k:Nat):Int),((a:Nat):Int),((b:Nat):Int)⟩).1))),gh KQ K0 (du (ai v))⟩ OkVw.wf OkVw.wf rfl rfl rfl) ?_;refine aq ?_ ?_<;>intro h33;refine PS ?_;refine nx J19 (CY (sr λ_ J20=>PS ?_));refine nx J20 (ak (aI (ae (ae (aI (aI (ae (ae (aI (aI (ae ?_)))))))))));exact ae (aI (ae (WK [] (aw rfl rfl ⟨rfl,rfl⟩))));refine PS ?_;refine nx J19 (CN (aT (ah (af J16 (ag (AD ?_))))));refine PS ?_;refine ax ?_
 exact aN ((k+1):(Nat)) ⟨by omega,by have:=hyk.step (λq=>h33 q.2);simpa using this⟩ (by show 2- (k+1)<2-k;omega)
  SB
  (λ_ s=>ao [1,1] rfl s)
 refine PS ?_
 iterate 3 refine UF ?_
 refine PS ?_;refine nx J19 (CN (aT (ah (af J16 (ag (AD ?_))))));refine PS ?_;refine ax ?_
 exact aN ((k+1):(Nat)) ⟨by omega,by have:=hyk.step (λq=>h29 q.1);simpa using this⟩ (by show 2- (k+1)<2-k;omega)
  SB
  (λ_ s=>ao [1,1] rfl s)
 refine nx J14 (aa λ_ J21=>CN (bg (aC (aC (bD (ah (af J11 (ag (AD ?_)))))))));refine PS ?_;refine ax ?_
 exact aN ((b+1):(Nat)) ⟨by omega,by obtain rfl:k=2:=(by omega);exact hyk.heir⟩ (by show 5- (b+1)<5-b;omega)
  SB
  (λ_ s=>s)
 refine nx J9 (aa λ_ J22=>CN (bg (aC (aC (bD (ah (af J6 (ag (AD ?_)))))))));refine PS ?_;refine ax ?_
 exact aN ((a+1):(Nat)) ⟨by omega,by obtain rfl:b=5:=(by omega);exact hyb.who⟩ (by show 5- (a+1)<5-a;omega)
  SB
  (λ_ s=>s)
 refine nx J4 (aa λ_ J23=>CN (bg (aC (aC (bD (af J2 (sr λ_ J24=>PS ?_)))))));refine nx J24 (ak (WK [] (aw rfl rfl ?_)));obtain rfl:a=5:=by omega
 exact(hya.no h).elim
theorem tm(x:Value)(l:List OpT)(hok: ∀o∈l,OkOp o):
 DT 3 #[x] (IsL 11 (EF OpT.flat) x l) [] (RI (.bool true) []):=by
 refine Leg.Does.body (n:=93) Tryz.func3 rfl rfl rfl (λw0 F hF=>?_);obtain⟨g0,vg0⟩:=Mc;refine sr λ_ J1=>PS ?_
 refine nx J1 (aa λ_ J2=>sr λ_ J3=>CE Qm (E4) (λ_ s=>s) ?_);refine tp (jm (r:=false) rfl rfl rfl) ?_;refine nx J3 (CN (qx J2 (aa λ_ J4=>sr λ_ J5=>PS ?_)));refine CF Ql (EP x l) (λ_ s=>s) (λ_ d _=>IsL.more EF.more hF d) ?_;refine aq (λh19=>?_) (λh19=>?_);refine tp (jm (r:=false) rfl rfl rfl) ?_;refine nx J5 (CN (qx J4 (sr λ_ J6=>CR Qc (zk) (λ_ s=>s) λvR HR hR=>?_)));obtain⟨c,rfl,rfl⟩:=hR;refine PS ?_;refine nx J6 (sr λ_ J7=>TL.makeMap (ab rfl) rfl rfl rfl (λm22=>CE Pp (rR) (λ_ s=>s) ?_));refine TL.insertI (i:=0) (H':=[gM m22 (xS DQ ([(1,firstV)])),fS c CL.new]) (ab rfl) rfl rfl MY Y3 rfl rfl rfl rfl rfl rfl (PS ?_);refine PS ?_;refine nx J7 (aa λ_ J8=>sr λ_ J9=>PS ?_);refine tp (dW rfl Tryz.underlying22 rfl hF.len) ?_;refine PS ?_;refine nx J9 (av ?_)
 refine bG (α:=(Nat)×(List (Int×ViewT))×(Gh)) (λ⟨k,S,g⟩=>k≤l.length∧VG g (oX .new (l.take k))∧Seen g S) (λ⟨k,S,g⟩=>[(3,(.pointer (some ⟨c,0,none⟩))),(4,(.map (some m22))),(25,x),(26,(.int .i64 (((l.length:Nat):Int)))),(27,(.int .i64 (((k:Nat):Int))))]) (λ⟨k,S,g⟩=>[fS c (oX .new (l.take k)),gM m22 (xS DQ S)]) (λ⟨k,S,g⟩=>l.length-k) (0,[(1,firstV)],g0)
  ⟨aP _,vg0,Seen.one vg0.glob⟩ SB
  (λ_ s=>aE [1,0] rfl s) (λ⟨k,S,g⟩ hinv=>?_)
 obtain⟨hk,vg,hS⟩:=hinv;refine sr λ_ J10=>PS ?_
 refine aq (λh28=>?_) (λh28=>?_);obtain⟨b_e,off_e,cap_e,cs_e,T_e,z_e,us_e,hv_e,hc_e,hb_e,hl_e,hs_e,hE_e⟩:=IsL.at hF (j:=k) (by omega);have hkl:k<l.length:=by omega
 obtain⟨o,ho⟩: ∃o,o=l[k]:=⟨_,rfl⟩;replace hE_e:us_e=ints l[k].flat:=hE_e;rw[←ho]at hE_e;have hoo:OkOp o:=ho▸hok _ (eg ..);have hck:CLOk l.length (oX .new (l.take k)):=(Iu (l.take k) new_ok (λo ho=>hok o (l9 ho))).more (by rw[bp];omega);obtain⟨g2,vg2,vup⟩:=M6 hck vg hoo;have hc2:=Jn hck hoo;have hS2:=hS.up vup;refine nx J10 (aa λ_ J11=>CY (qx J11 (aa λ_ J12=>av (sr λ_ J13=>tp (ca (r:=off_e+k*11) hv_e rfl Tryz.underlying22 BM rfl rfl (by omega) (by omega) (by omega)) ?_))));refine tp (Qf (vs:=ints o.flat) rfl fT rfl BM rfl (DU hb_e (λ_ h=>fC h)) (pR _) (hs_e.trans hE_e)) ?_;refine XA Qk λb6=>?_
 change TL _ _ _ _ _ _ _ _ _ [an b6 (ints OpT.zero.flat) 35,fS c (oX .new (l.take k)),gM m22 (xS DQ S)];refine bR (vs:=ints o.flat) (i:=0) (ab rfl) rfl rfl rfl rfl rfl (by rw[(pR o)];exact BM) (bB _) rfl rfl (LC (pR _) (pR _)) (cr ((pR OpT.zero).trans (pR o).symm)) rfl (nx J13 (sr λ_ J14=>PS ?_));refine tp (aL (vs:=ints o.flat) rfl fT rfl BM rfl (RO 0) (pR o) (bn (pR o))) ?_;refine CE OR (ti (c:=c) (a:=oX .new (l.take k)) (o:=o) hck (by omega) hoo) (SM [1]) ?_;refine nx J14 (sr λ_ J15=>L3 (H':=λgx:CX=>[iM c ((vn (oX .new (l.take k)) o).1) gx,an b6 (ints o.flat) 35,gM m22 (xS DQ S)]) (λ_ s=>zE s) (λgx=>PS ?_));refine nx J15 (av ?_)
 refine bG (α:=(Nat)×(List (Int×ViewT))) (λ⟨i,R⟩=>i≤5∧Seen g2 R) (λ⟨i,R⟩=>[(3,(.pointer (some ⟨c,0,none⟩))),(4,(.map (some m22))),(25,x),(26,(.int .i64 (((l.length:Nat):Int)))),(27,(.int .i64 (((k:Nat):Int)))),(34,(.int .i64 (((i:Nat):Int))))]) (λ⟨i,R⟩=>[iM c ((vn (oX .new (l.take k)) o).1) gx,gM m22 (xS DQ R)]) (λ⟨i,R⟩=>5-i) (0,S)
  ⟨aP _,hS2⟩ SB
  (λ_ s=>ao [0,1] rfl s) (λ⟨i,R⟩ hinv=>?_)
 obtain⟨hi,hR⟩:=hinv;refine sr λ_ J16=>PS ?_
 refine aq (λh35=>?_) (λh35=>?_);refine nx J16 (aa λ_ J17=>CY (qx J17 (aa λ_ J18=>av (sr λ_ J19=>PS ?_))));refine PS ?_;refine nx J19 (sr λ_ J20=>PS ?_);refine PS ?_;refine CR Oa (EO (i:=i) (by omega)) (λ_ s=>s) λvR HR hR=>?_
 rcases hR with⟨hup,rfl,rfl⟩| ⟨s,hrun,hup,rfl,rfl⟩
 refine PS ?_;refine nx J20 (aa λ_ J21=>sr λ_ J22=>PS ?_);refine tp (Qs rfl zO rfl rfl) ?_;refine nx J22 (CY (bg (aC (bD (af J18 (ag (AD ?_)))))));refine PS ?_;refine ax ?_
 exact aN ((i+1,R):(Nat)×(List (Int×ViewT))) ⟨by omega,hR⟩ (by show 5- (i+1)<5-i;omega)
  SB
  (λ_ s=>ao [0,0] rfl s)
 have hmv:=(vg2.run i (by omega) s hrun).view;have hgv:=(vg2.glob.view _ _ hmv).2;have hov:OkVw s.view:=((hc2.at' i (by omega)).run s hrun).1.view;refine PS ?_;refine nx J20 (aa λ_ J23=>sr λ_ J24=>PS ?_);refine tp (km rfl zO rfl rfl) ?_;refine nx J24 (CN (qx J23 (sr λ_ J25=>PS ?_)));refine CE PM (LH (i:=i) (by omega) hrun (D7 s (gx.d i) (gx.r i))) (λ_ s=>s) ?_;refine XA pM λb9=>?_
 change TL _ _ _ _ _ _ _ _ _ [an b9 (ints ViewT.zero.flat) 29,iM c ((vn (oX .new (l.take k)) o).1) gx,gM m22 (xS DQ R)];refine bR (vs:=ints s.view.flat) (i:=0) (ab rfl) rfl rfl rfl rfl rfl (by rw[(ai s.view)];exact be) (bB _) rfl rfl (LC (ai _) (ai _)) (cr ((ai ViewT.zero).trans (ai s.view).symm)) rfl (nx J25 (aa λ_ J26=>sr λ_ J27=>PS ?_));refine FA 0 eL aQ ?_;refine tp (fY (v:=(.int .i64 (s.view.epoch))) rfl Y3 rfl rfl (RO 0) (bf s.view rfl)) ?_;refine TL.lookup2 (f:=DQ) (K:=R) (ab rfl) rfl rfl rfl MY Y3 pM rfl rfl (RdM.own 2 rfl rfl) (λhn48=>?_) (λu48 hu48=>?_);refine PS ?_;refine tp (c9 (vs:=[(.agg (ints ViewT.zero.flat).toArray),(.bool false)]) rfl rfl rfl) ?_;refine tp (c9 (vs:=[(.agg (ints ViewT.zero.flat).toArray),(.bool false)]) rfl rfl rfl) ?_;refine XA pM λb10=>?_
 change TL _ _ _ _ _ _ _ _ _ [an b10 (ints ViewT.zero.flat) 29,an b9 (ints s.view.flat) 29,iM c ((vn (oX .new (l.take k)) o).1) gx,gM m22 (xS DQ R)];refine bR (vs:=ints ViewT.zero.flat) (i:=0) (ab rfl) rfl rfl rfl rfl rfl (by rw[(ai ViewT.zero)];exact be) (bB _) rfl rfl (LC (ai _) (ai _)) (cr ((ai ViewT.zero).trans (ai ViewT.zero).symm)) rfl (PS ?_);refine nx J27 (sr λ_ J28=>PS ?_);refine PS ?_
 iterate 3 refine UF ?_
 refine PS ?_;refine PS ?_;refine tq (aL (vs:=ints s.view.flat) rfl eL rfl be rfl (RO 1) (ai s.view) (bn (ai s.view))) ?_;refine CR Hh (iD s.view OkVw.rng) (λ_ s=>s) λvR HR hR=>?_
 obtain⟨hv,rfl⟩:=hR;rw[hgv.right]at hv;subst hv;refine tq (jm (r:=false) rfl rfl rfl) ?_;refine PS ?_;refine nx J28 (CN (qx J26 (ag (PS ?_))));refine FA 0 eL aQ ?_;refine tp (fY (v:=(.int .i64 (s.view.epoch))) rfl Y3 rfl rfl (RO 1) (bf s.view rfl)) ?_;refine tp (aL (vs:=ints s.view.flat) rfl eL rfl be rfl (RO 1) (ai s.view) (bn (ai s.view))) ?_;refine Qo (i:=3) (H':=[an b10 (ints ViewT.zero.flat) 29,an b9 (ints s.view.flat) 29,iM c ((vn (oX .new (l.take k)) o).1) gx,gM m22 (xS DQ (ym R s.view.epoch s.view))]) (ab rfl) rfl rfl MY Y3 rfl rfl rfl rfl rfl (congrArg (λq=>List.set _ 3 (gM m22 q)) (AW DQ s.view.epoch s.view R)) (ax (ah (af J18 (ag (AD ?_)))));refine PS ?_;refine ax ?_
 exact aN ((i+1,ym R s.view.epoch s.view):(Nat)×(List (Int×ViewT))) ⟨by omega,hR.put hmv⟩ (by show 5- (i+1)<5-i;omega)
  SB
  (λ_ s=>ao [2,2] rfl s)
 obtain rfl:u48=s.view:=aR ((hR.get hu48).symm.trans hmv);refine PS ?_;refine tp (c9 (vs:=[(.agg (ints s.view.flat).toArray),(.bool true)]) rfl rfl rfl) ?_;refine tp (c9 (vs:=[(.agg (ints s.view.flat).toArray),(.bool true)]) rfl rfl rfl) ?_;refine XA pM λb10=>?_
 change TL _ _ _ _ _ _ _ _ _ [an b10 (ints ViewT.zero.flat) 29,an b9 (ints s.view.flat) 29,iM c ((vn (oX .new (l.take k)) o).1) gx,gM m22 (xS DQ R)];refine bR (vs:=ints s.view.flat) (i:=0) (ab rfl) rfl rfl rfl rfl rfl (by rw[(ai s.view)];exact be) (bB _) rfl rfl (LC (ai _) (ai _)) (cr ((ai ViewT.zero).trans (ai s.view).symm)) rfl (PS ?_);refine nx J27 (sr λ_ J29=>PS ?_);refine PS ?_;refine tq (aL (vs:=ints s.view.flat) rfl eL rfl be rfl (RO 0) (ai s.view) (bn (ai s.view))) ?_;refine tq (aL (vs:=ints s.view.flat) rfl eL rfl be rfl (RO 1) (ai s.view) (bn (ai s.view))) ?_;refine tq (DV (a:=s.view.flat) (b:=s.view.flat) (m:=4) (c:=7) Nd Nc rfl Od (du (ai s.view)) (du (ai s.view)) ⟨gh KQ K0 (du (ai s.view)),gh KQ K0 (du (ai s.view))⟩ OkVw.wf OkVw.wf rfl rfl rfl) ?_;refine aq (λh55=>?_) (λh55=>?_)
 · exact absurd rfl h55
 refine PS ?_;refine PS ?_;refine tq (aL (vs:=ints s.view.flat) rfl eL rfl be rfl (RO 1) (ai s.view) (bn (ai s.view))) ?_;refine CR Hh (iD s.view OkVw.rng) (λ_ s=>s) λvR HR hR=>?_
 obtain⟨hv,rfl⟩:=hR;rw[hgv.right]at hv;subst hv;refine tq (jm (r:=false) rfl rfl rfl) ?_;refine PS ?_;refine nx J29 (CN (qx J26 (ag (PS ?_))));refine FA 0 eL aQ ?_;refine tp (fY (v:=(.int .i64 (s.view.epoch))) rfl Y3 rfl rfl (RO 1) (bf s.view rfl)) ?_;refine tp (aL (vs:=ints s.view.flat) rfl eL rfl be rfl (RO 1) (ai s.view) (bn (ai s.view))) ?_;refine Qo (i:=3) (H':=[an b10 (ints s.view.flat) 29,an b9 (ints s.view.flat) 29,iM c ((vn (oX .new (l.take k)) o).1) gx,gM m22 (xS DQ (ym R s.view.epoch s.view))]) (ab rfl) rfl rfl MY Y3 rfl rfl rfl rfl rfl (congrArg (λq=>List.set _ 3 (gM m22 q)) (AW DQ s.view.epoch s.view R)) (ax (ah (af J18 (ag (AD ?_)))));refine PS ?_;refine ax ?_
 exact aN ((i+1,ym R s.view.epoch s.view):(Nat)×(List (Int×ViewT))) ⟨by omega,hR.put hmv⟩ (by show 5- (i+1)<5-i;omega)
  SB
  (λ_ s=>ao [2,2] rfl s)
 refine nx J16 (aa λ_ J30=>CN (bg (aC (aC (bD (ah (af J12 (ag (AD ?_)))))))));refine PS ?_;refine ax ?_
 exact aN ((k+1,R,g2):(Nat)×(List (Int×ViewT))×(Gh)) ⟨by omega,by rw[y5 .new l hkl,←ho];exact vg2,hR⟩ (by show l.length- (k+1)<l.length-k;omega)
  SB
  (λ_ s=>by show bN [fS c (oX .new (l.take (k+1))),gM m22 (xS DQ R)] _;rw[y5 .new l hkl,←ho];exact HF (ao [0,0] rfl s))
 refine nx J10 (aa λ_ J31=>CN (bg (aC (aC (bD (af J8 (aa λ_ J32=>sr λ_ J33=>PS ?_)))))));refine TL.openMap 1 rfl rfl (λes ck hpe hst=>TL.range (ab rfl) rfl rfl rfl MY rfl 1 rfl rfl (λr69=>nx J33 (av ?_)))
 refine bG (α:=(Array Nat)) (λsn=>True) (λsn=>[(4,(.map (some m22))),(69,(.pointer (some ⟨r69,0,none⟩)))]) (λsn=>[obj r69 (.mapIter (some m22) ck sn ck),obj m22 (.map (List.toArray es) ck)]) (λsn=>(F7 es sn).size) #[]
  trivial SB
  (λ_ s=>ao [0,1] rfl s) (λsn hinv=>?_)
 obtain _:=hinv;refine sr λ_ J34=>TL.next (f:=DQ) hpe hst (ab rfl) rfl rfl rfl rfl rfl 1 0 rfl rfl rfl rfl (λh70=>?_) (λe70 k70 v70 he70 hm70 hk70 hv70=>?_)
 refine tp (c9 (vs:=[(.bool false)]) rfl rfl rfl) ?_;refine nx J34 (aa λ_ J35=>CN (bg (aC (aC (bD (af J32 (sr λ_ J36=>PS ?_)))))));exact nx J36 (ak (WK [] (aw rfl rfl ⟨rfl,rfl⟩)));have hkv:=hS _ hm70;obtain⟨_,hk1,hk2,hov⟩:=vg.glob.okv hkv;refine tp (c9 (vs:=[(.bool true),(.int .i64 (k70)),(.agg (ints v70.flat).toArray)]) rfl rfl rfl) ?_;refine nx J34 (aa λ_ J37=>CY (qx J37 (av (sr λ_ J38=>tp (PV.entry hst he70 hk70 hv70 rfl rfl 1 0 rfl rfl rfl rfl) ?_))));refine tp (c9 (vs:=[(.int .i64 (k70)),(.agg (ints v70.flat).toArray)]) rfl rfl rfl) ?_;refine tp (c9 (vs:=[(.int .i64 (k70)),(.agg (ints v70.flat).toArray)]) rfl rfl rfl) ?_;refine XA pM λb13=>?_
 change TL _ _ _ _ _ _ _ _ _ [an b13 (ints ViewT.zero.flat) 29,obj r69 (.mapIter (some m22) ck (sn.push e70.born) ck),obj m22 (.map (List.toArray es) ck)];refine PS ?_;refine bR (vs:=ints v70.flat) (i:=0) (ab rfl) rfl rfl rfl rfl rfl (by rw[(ai v70)];exact be) (bB _) rfl rfl (LC (ai _) (ai _)) (cr ((ai ViewT.zero).trans (ai v70).symm)) rfl (nx J38 (sr λ_ J39=>PS ?_));refine PS ?_;refine tp (jV (r:=(k70-1)) rfl rfl rfl (bO (by omega) (by omega))) ?_;refine TL.lookup2 (f:=DQ) (K:=S) (ab rfl) rfl rfl rfl MY Y3 pM rfl rfl (RdM.obj hpe 2 rfl rfl) (λhn79=>?_) (λu79 hu79=>?_);refine PS ?_;refine tp (c9 (vs:=[(.agg (ints ViewT.zero.flat).toArray),(.bool false)]) rfl rfl rfl) ?_;refine tp (c9 (vs:=[(.agg (ints ViewT.zero.flat).toArray),(.bool false)]) rfl rfl rfl) ?_;refine XA pM λb14=>?_
 change TL _ _ _ _ _ _ _ _ _ [an b14 (ints ViewT.zero.flat) 29,an b13 (ints v70.flat) 29,obj r69 (.mapIter (some m22) ck (sn.push e70.born) ck),obj m22 (.map (List.toArray es) ck)];refine bR (vs:=ints ViewT.zero.flat) (i:=0) (ab rfl) rfl rfl rfl rfl rfl (by rw[(ai ViewT.zero)];exact be) (bB _) rfl rfl (LC (ai _) (ai _)) (cr ((ai ViewT.zero).trans (ai ViewT.zero).symm)) rfl (PS ?_);refine nx J39 (sr λ_ J40=>PS ?_);refine PS ?_;refine aq (λh83=>?_) (λh83=>?_)
 iterate 4 refine PS ?_
 iterate 4 refine UF ?_
 refine PS ?_;refine nx J40 (CN (aT (ah ?_)))
 exact aN ((sn.push e70.born):(Array Nat)) trivial (left_shrinks _ _ _ he70)
  SB
  (λ_ s=>ao [2,2] rfl s)
 refine PS ?_;refine UF ?_;refine PS ?_;refine PS ?_
 iterate 4 refine UF ?_
 refine PS ?_;refine nx J40 (CN (aT (ah ?_)))
 exact aN ((sn.push e70.born):(Array Nat)) trivial (left_shrinks _ _ _ he70)
  SB
  (λ_ s=>ao [2,2] rfl s)
 refine PS ?_;refine tp (c9 (vs:=[(.agg (ints u79.flat).toArray),(.bool true)]) rfl rfl rfl) ?_;refine tp (c9 (vs:=[(.agg (ints u79.flat).toArray),(.bool true)]) rfl rfl rfl) ?_;refine XA pM λb14=>?_
 change TL _ _ _ _ _ _ _ _ _ [an b14 (ints ViewT.zero.flat) 29,an b13 (ints v70.flat) 29,obj r69 (.mapIter (some m22) ck (sn.push e70.born) ck),obj m22 (.map (List.toArray es) ck)];refine bR (vs:=ints u79.flat) (i:=0) (ab rfl) rfl rfl rfl rfl rfl (by rw[(ai u79)];exact be) (bB _) rfl rfl (LC (ai _) (ai _)) (cr ((ai ViewT.zero).trans (ai u79).symm)) rfl (PS ?_);refine nx J39 (sr λ_ J41=>PS ?_);refine PS ?_;refine aq (λh83=>?_) (λh83=>?_)
 iterate 4 refine PS ?_
 refine tq (aL (vs:=ints u79.flat) rfl eL rfl be rfl (RO 0) (ai u79) (bn (ai u79))) ?_;refine tq (aL (vs:=ints v70.flat) rfl eL rfl be rfl (RO 1) (ai v70) (bn (ai v70))) ?_;have hu79k:=hS.get hu79;have hov2:=(vg.glob.okv hu79k).2.2.2;refine CE PL (AV u79 v70 (vg.glob.follow hkv h83 hu79k)) (λ_ s=>s) ?_;refine tq (jm (r:=false) rfl rfl rfl) ?_;refine PS ?_;refine nx J41 (CN (aT (ah ?_)))
 exact aN ((sn.push e70.born):(Array Nat)) trivial (left_shrinks _ _ _ he70)
  SB
  (λ_ s=>ao [2,2] rfl s)
 refine PS ?_;refine UF ?_;refine PS ?_;refine PS ?_
 iterate 4 refine UF ?_
 refine PS ?_;refine nx J41 (CN (aT (ah ?_)))
 exact aN ((sn.push e70.born):(Array Nat)) trivial (left_shrinks _ _ _ he70)
  SB
  (λ_ s=>ao [2,2] rfl s)
 refine tp (jm (r:=true) rfl rfl rfl) ?_;refine nx J5 (CY (sr λ_ J42=>PS ?_));exact nx J42 (ak (ae (WK [] (aw rfl rfl ⟨rfl,rfl⟩))))
theorem clusterChain_row(x:Value)(l:List OpT):DT 3 #[x] (IsL 11 (EW OpT.flat) x l) [] (RI (.bool true) []):=λw F r m=>tm x l (Mj r) w F (LJ r).1 m
end Go.Proofs.YtmcjhkbcmmddgaaGreat
end

section
namespace Api
open Go Leg Codec Wal
theorem OpT.of(l:List Int)(h:l.length=11): ∃x:OpT,x.flat=l:=by
 match l,h with
 | [a,b,c,d,e,f,g,i,j,k,m],_=>exact⟨⟨a,b,c,d,e,⟨f,g,i⟩,j,k,m⟩,rfl⟩
end Api
end
