/-
  Joined texts:what a statement's proof reaches.
-/
import Derived.Test.YtmcjhkbcmmddgaaGreatPCZ7
set_option maxHeartbeats 8000000
set_option maxRecDepth 100000
set_option linter.unusedSimpArgs false
set_option linter.unusedVariables false
section
namespace Go.Proofs.YtmcjhkbcmmddgaaGreat
open Go Leg Codec Api Dsk Wal
theorem wP(i:Nat):(cO i .new).1≠none:=by
 obtain⟨D',e,_⟩:=LogD.new.open rfl rfl;unfold cO;rw[e];simp[lr]
theorem vp{i:Nat}{s:MS LD}(h:(cO i .new).1=some s):pv i=⟨some s,(bN .new).D,[]⟩:=by
 show(iF i .nil).1=_;unfold iF;show Slot.mk (cO i DS.new).1 _ _=_;rw[h];rfl
def dJ(i:Nat)(d:Nat→Nat):Nat→Value:=λj=>if j<i then .pointer (some ⟨d j,0,none⟩)else .pointer none
def JI:Nat→Value:=λ_=> .slice none 0 0
theorem Kt(i:Nat)(d:Nat→Nat)(x:Nat):kT (dJ i d) i (.pointer (some ⟨x,0,none⟩))=dJ (i+1) (kT d i x):=funext λj=>by
 unfold dJ kT
 by_cases hj:j=i
 · subst hj;simp
 · rw[if_neg hj,if_neg hj]
   show(if j<i then _ else _)=_
   by_cases h:j<i
   · rw[if_pos h,if_pos (by omega)]
   · rw[if_neg h,if_neg (by omega)]
theorem IJ{n:Nat}{D M P D' M' P':Nat→Value}(h1: ∀i,i<5→D i=D' i)(h2: ∀i,i<5→M i=M' i)(h3: ∀i,i<5→P i=P' i):eZ n D M P=eZ n D' M' P':=by
 unfold eZ;rw[ff (λi hi=>h1 i (eX.1 hi)),ff (λi hi=>h2 i (eX.1 hi)),ff (λi hi=>h3 i (eX.1 hi))]
theorem xi{f g:Nat→HP}{i:Nat}(hg: ∀j,j<i→g j=f j){H:List HP}{h:Hl}(s:bz (g i::bz ((List.range i).map f)::H) h):bz (bz ((List.range (i+1)).map g)::H) h:=by
 have e:(List.range (i+1)).map g=(List.range i).map f++[g i]:=by
  rw[de,ec,ff (λj hj=>hg j (eX.1 hj))];rfl
 rw[e];obtain⟨h1,h2,d,rfl,a,b⟩:=s;have s2:bz ((g i::(List.range i).map f)++H) (jn h1 h2):=⟨h1,h2,d,rfl,a,(cb _ _).2 b⟩;exact(cb _ _).1 (eH ((List.perm_append_comm (l₁:=[g i])).append_right H) s2)
abbrev xt(d r:Nat→Nat)(j:Nat):HP:=lp (pv j) (d j) (r j) (.slice none 0 0)
theorem JZ{d r:Nat→Nat}{i x y:Nat}{s:MS LD}(hs:(cO i .new).1=some s){X Y:HP}{h:Hl}(q:bz [fp s x y,dk x s.e.D,X,Y,bz ((List.range i).map (xt d r))] h):bz [X,Y,bz ((List.range (i+1)).map (xt (kT d i x) (kT r i y)))] h:=by
 have q2:=ik 175 3 q
 have e:xt (kT d i x) (kT r i y) i=bz [dk x s.e.D,mD (.slice none 0 0) [],fp s x y]:=by
  unfold xt lp kq Slot.dk rj;rw[jx,jx,vp hs]
 have q4:=(cb [dk x s.e.D,mD (.slice none 0 0) [],fp s x y] [bz ((List.range i).map (xt d r)),X,Y]).1 (az [2,0,0,2,0,0] rfl q2);have q5:=xi (i:=i) (f:=xt d r) (g:=xt (kT d i x) (kT r i y)) (H:=[X,Y]) (λj hj=>by unfold xt;rw[np d x (show j≠i by omega),np r y (show j≠i by omega)]) (by rw[e];exact q4);exact az [1,1,0] rfl q5
theorem JX(i:Nat)(hi:i<5):CL.new.at' i=pv i:=by simp[CL.new,CL.at',List.getD_eq_getElem?_getD,hi]
theorem JY{c n:Nat}{d r:Nat→Nat}{h:Hl}(s:bz [ah c (eZ n (dJ 5 d) (dJ 5 r) JI) 71,eB 110 160 5 n (List.replicate 25 []),bz ((List.range 5).map (xt d r))] h):bz [gm c .new] h:=by
 have e1:eZ n (my ⟨n,d,r,JI⟩) (kh .new r) JI=eZ n (dJ 5 d) (dJ 5 r) JI:=IJ (λi hi=>by unfold dJ;rw[if_pos hi]) (λi hi=>by
  unfold dJ;rw[if_pos hi];show yD (CL.new.at' i) (r i)=_;rw[JX i hi];cases hs:(cO i .new).1 with
  |none=>exact absurd hs (wP i)
  |some s=>rw[vp hs];rfl) (λ_ _=>rfl)
 have e2:(List.range 5).map (λi=>lp (CL.new.at' i) (d i) (r i) (JI i))=(List.range 5).map (xt d r):=ff λi hi=>by
  rw[JX i (eX.1 hi)];rfl
 have e3:cM CL.new.W=List.replicate 25 []:=rfl;refine bn (p:=rI c .new) (H:=[]) ⟨n,d,r,JI⟩ ?_;unfold rI;rw[e1,e2,e3];exact s
theorem zP:
 DT 7 #[] T0 [] (dH (λv H=>∃c,v= .pointer (some ⟨c,0,none⟩)∧H=[gm c .new])):=by
 refine BD 33 Tryz.func7 rfl rfl rfl λw0 F hF=>sr λ_ J1=>PS ?_
 refine nx J1 (sr λ_ J2=>CR QV (Du) ID λvR HR hR=>?_);obtain⟨n,rfl,rfl⟩:=hR;refine BV #[(.pointer (some ⟨n,0,none⟩)),(.pointer none),(.pointer none),(.pointer none),(.pointer none),(.pointer none),(.pointer none),(.pointer none),(.pointer none),(.pointer none),(.pointer none),(.slice none 0 0),(.slice none 0 0),(.slice none 0 0),(.slice none 0 0),(.slice none 0 0)] ?_;refine XB λb5=>?_
 refine PS ?_;refine nx J2 (aa λ_ J3=>sr λ_ J4=>PS ?_);refine nx J4 (aq ?_)
 refine bD (α:=(Nat)×(Nat→Nat)×(Nat→Nat)) (λ⟨i,d,r⟩=>i≤5) (λ⟨i,d,r⟩=>[(0,(.pointer none)),(1,(.pointer (some ⟨b5,0,none⟩))),(6,(.int .i64 (((i:Nat):Int))))]) (λ⟨i,d,r⟩=>[ah b5 (eZ n (dJ i d) (dJ i r) JI) 71,eB 110 160 5 n (List.replicate 25 []),bz ((List.range i).map (xt d r))]) (λ⟨i,d,r⟩=>5-i) (0,λ_=>0,λ_=>0)
  (aO _) SB
  (λ_ s=>az [1,1,0] rfl (qw s)) (λ⟨i,d,r⟩ hinv=>?_)
 obtain hi:=hinv;refine sr λ_ J5=>PS ?_
 refine ap ?_ ?_<;>intro h7;have hlt:i<5:=by omega
 refine nx J5 (aa λ_ J6=>CY (qx J6 (aa λ_ J7=>aq (sr λ_ J8=>P2 ?_))));refine nx J8 (aa λ_ J9=>D0 dA ?_);refine PD 0 ?_;refine PD 1 ?_;refine PD 3 ?_;refine FD 4 1 p7 AS ?_;refine AL 2 ?_;refine CR OU (Kp) ID λvR HR hR=>?_
 obtain⟨dn,rfl,rfl⟩:=hR;refine EN (IY 5 (1+i) Mt vN ?_);refine AL 6 ?_;refine bO (i:=1) (ab rfl) rfl rfl rfl rfl rfl vN rfl rfl (by rw[sv];omega) (Mm n (dJ i d) (dJ i r) JI (.pointer (some ⟨dn,0,none⟩)) hlt) rfl (EN (DN (ac J9 (D0 dA ?_))));refine PD 0 ?_;refine PD 1 ?_;refine PD 2 ?_;refine PD 3 ?_;refine PD 4 ?_;refine PD 5 ?_;refine FD 6 1 p7 AS ?_;refine IY 7 (1+i) Mt vN ?_;refine PD 13 ?_;refine FD 14 6 p7 oI ?_;refine AL 8 ?_;refine LT 1 I3 (.pointer (some ⟨dn,0,none⟩)) ?_ (hc:=by exact(Ee n (kT (dJ i d) i (.pointer (some ⟨dn,0,none⟩))) (dJ i r) JI hlt).trans (congrArg some (jx (dJ i d) i _)));refine EN (AL 9 ?_);refine CR NH (qv i dn .new DkOk.new) ID λvR HR hR=>?_
 rcases hR with⟨hn,_⟩| ⟨s,rn,hs,rfl,rfl⟩
 · exact absurd hn (wP i)
 refine EN (PD 10 ?_);refine PD 11 ?_;refine PD 12 ?_;refine IY 15 (6+i) rk iN ?_;refine AL 16 ?_;refine bO (i:=2) (ab rfl) rfl rfl rfl rfl rfl iN rfl rfl (by rw[sv];omega) (wn n (kT (dJ i d) i (.pointer (some ⟨dn,0,none⟩))) (dJ i r) JI (.pointer (some ⟨rn,0,none⟩)) hlt) rfl (EN (DN (af (ac J7 (ad (AD ?_))))));refine PS ?_;refine aw ?_
 exact aL ((i+1,kT d i dn,kT r i rn):(Nat)×(Nat→Nat)×(Nat→Nat)) (by omega) (by show 5- (i+1)<5-i;omega)
  SB
  (λ_ q=>by
   show bz [ah b5 (eZ n (dJ (i+1) (kT d i dn)) (dJ (i+1) (kT r i rn)) JI) 71,_,_] _;rw[←Kt,←Kt]
   exact JZ hs (az [0,0,0,0,0] rfl q))
 refine nx J5 (aa λ_ J10=>CN (bh (aC (aC (bC (ac J3 (sr λ_ J11=>P2 ?_)))))));exact nx J11 (aj (aF (H':=[gm b5 .new]) (dV _) (λ_ s=>by have h5:i=5:=(by omega);subst h5;exact JY s) (av rfl rfl ⟨b5,rfl,rfl⟩)))
end Go.Proofs.YtmcjhkbcmmddgaaGreat
end

section
namespace Api
open Go Leg Codec Dsk Wal
def iE(D:DS):Nat→DS
 |0=> .new
 |k+1=>if gE D.s ((k:Nat):Int)=zs then iE D k else((iE D k).write ((k:Nat):Int) (gE D.s ((k:Nat):Int))).2
def ny(D:DS):DS:=(iE D 2048).sync.2
def MW(a:CL)(i:Nat):Option (MS LD):=if(a.at' i).up then none else(cO i (ny (a.at' i).dk)).1
def jA(a:CL)(i:Nat):Option (MS LD):=if(a.at' i).up then(a.at' i).run else(cO i (ny (a.at' i).dk)).1
def I2(k i j:Int):OpT:=⟨k,i,j,0,0, .zero,0,0,0⟩
theorem xT:OkCh ChangeT.zero:=⟨by
 have: ∀n∈ChangeT.zero.flat,(Lit.int IntKind.i64 n).wf=true:=by decide+kernel
 intro n hn;exact this n hn⟩
theorem uF(k i j:Int):OkOp (I2 k i j):=⟨xT,by show(0:Int)≤9223372036854775807;omega⟩
def pN(a:CL)(i j:Nat):CL:=if i=j then a else(pG a (I2 5 ((i:Nat):Int) ((j:Nat):Int))).1
def Ji(a:CL)(i:Nat):CL:=(pG a (I2 8 ((i:Nat):Int) 0)).1
def tf(a:CL)(i:Nat):Nat→CL
 |0=>a
 |j+1=>pN (tf a i j) i j
def sweepTo(a:CL):Nat→CL
 |0=>a
 |i+1=>tf (sweepTo a i) i 5
def wN(a:CL):CL:=sweepTo a 5
def rR(a:CL):Nat→CL
 |0=>a
 |i+1=>Ji (rR a i) i
def vT(W:List (List MsgT))(k:Nat):Nat:=((List.range k).map λq=>if q%6=0 then 0 else(W.getD q []).length).sum
theorem rc(W:List (List MsgT))(k:Nat):vT W (k+1)=vT W k+(if k%6=0 then 0 else(W.getD k []).length):=by simp[vT,de]
def AI(a:CL):Nat:=vT a.W 25
def kL:Nat→CL→CL
 |0,a=>a
 |k+1,a=>if AI a=0 then a else kL k (wN a)
def ux(a:CL):CL:=kL 400 (rR a 5)
theorem HN(a:CL):kL (400-0) (rR a 5)=ux a:=by unfold ux;rw[Rv]
def g8(a:CL):Nat→CL
 |0=>a
 |k+1=>ux (g8 a k)
theorem Jr{a:CL}{i j:Nat}(h:i≠j):tf a i (j+1)=(pG (tf a i j) (I2 5 ((i:Nat):Int) ((j:Nat):Int))).1:=by
 show pN _ i j=_;unfold pN;rw[if_neg h]
theorem Js{a:CL}{i j:Nat}(h:i=j):tf a i (j+1)=tf a i j:=by
 show pN _ i j=_;unfold pN;rw[if_pos h]
theorem sT{k:Nat}(h:k<400)(d:CL):kL (400-k) d=if AI d=0 then d else kL (400- (k+1)) (wN d):=by
 rw[show 400-k=(400- (k+1))+1 by omega];rfl
theorem AX{k:Nat}(h: ¬k<400)(d:CL):kL (400-k) d=d:=by
 rw[show 400-k=0 by omega];rfl
section
variable {n:Nat} {a:CL}
theorem CLOk.step(h:CLOk n a)(i j:Nat):CLOk n (pN a i j):=by
 unfold pN;split
 · exact h
 · exact FO h (uF ..) (by show ¬((0:Int)≤5∧(5:Int)≤4);omega)
theorem CLOk.tik(h:CLOk n a)(i:Nat):CLOk n (Ji a i):=FO h (uF ..) (by show ¬((0:Int)≤8∧(8:Int)≤4);omega)
theorem CLOk.rows(h:CLOk n a)(i:Nat): ∀j,CLOk n (tf a i j)
 |0=>h
 |j+1=>(CLOk.rows h i j).step i j
theorem CLOk.sweepTo(h:CLOk n a): ∀i,CLOk n (sweepTo a i)
 |0=>h
 |i+1=>(CLOk.sweepTo h i).rows i 5
theorem CLOk.ticks(h:CLOk n a): ∀i,CLOk n (rR a i)
 |0=>h
 |i+1=>(CLOk.ticks h i).tik i
theorem CLOk.sweeps: ∀(k:Nat) {a:CL},CLOk n a→CLOk n (kL k a)
 |0,_,h=>h
 |k+1,a,h=>by
  unfold kL;split
  · exact h
  · exact CLOk.sweeps k (h.sweepTo 5)
theorem CLOk.settle(h:CLOk n a): ∀k,CLOk n (g8 a k)
 |0=>h
 |k+1=>by
  rw[g8,ux];exact CLOk.sweeps 400 ((CLOk.settle h k).ticks 5)
theorem CLOk.len(h:CLOk n a): ∀k,vT a.W k≤8*k
 |0=>aH _
 |k+1=>by
  rw[rc];have:=CLOk.len h k;have:=(h.way k).1;split<;>omega
end
end Api
namespace Go.Proofs.YtmcjhkbcmmddgaaGreat
open Go Leg Codec Api Dsk Wal
theorem sd(W:List (List MsgT)): ∀k,k≤25→mc (cM W) k=vT W k
 |0,_=>rfl
 |k+1,h=>by
  rw[se,rc,sd W k (by omega),n5 W (by omega),bY]
theorem EG{n:Nat}{a:CL}(h:CLOk n a): ∀k,k<25→mc (cM a.W) k+((cM a.W).getD k []).length≤1000000000:=λk hk=>by
 rw[sd a.W k (by omega),n5 a.W hk,bY];have:=h.len k;have:=(h.way k).1;omega
theorem Dy(c n i:Nat)(D M P:Nat→Value)(hi:i<5)(hM:M i= .pointer none):
 DT 10 #[(.pointer (some ⟨c,0,none⟩)),(.int .i64 (((i:Nat):Int)))] T0 [ah c (eZ n D M P) 71] (RI (.pointer none) [ah c (eZ n D M P) 71]):=by
 refine BD 15 Tryz.func10 rfl rfl rfl λw0 F hF=>sr λ_ J1=>PS ?_
 refine nx J1 (aa λ_ J2=>sr λ_ J3=>P2 ?_);refine CE Bk (qm c n i D M P hi hM) ID ?_;refine PS ?_;refine nx J3 (CY (sr λ_ J4=>PS ?_));exact nx J4 (aj (ae (WK [0] (av rfl rfl ⟨rfl,rfl⟩))))
theorem Dx(c n i:Nat)(D M P:Nat→Value)(hi:i<5)(d r:Nat)(e:DS)(hD:D i= .pointer (some ⟨d,0,none⟩))(hM:M i= .pointer (some ⟨r,0,none⟩)):
 DT 10 #[(.pointer (some ⟨c,0,none⟩)),(.int .i64 (((i:Nat):Int)))] T0 [ah c (eZ n D M P) 71,dk d e] (dH (λv H=>((e.dn=false∧v= .pointer (some ⟨r,0,none⟩))∨(e.dn=true∧v= .pointer none))∧H=[ah c (eZ n D M P) 71,dk d e])):=by
 refine BD 15 Tryz.func10 rfl rfl rfl λw0 F hF=>sr λ_ J1=>PS ?_
 refine nx J1 (aa λ_ J2=>sr λ_ J3=>P2 ?_);refine CE Bk (ql c n i D M P hi d r e hD hM) ID ?_;refine bb ?_ ?_<;>intro h7;refine PS ?_;refine nx J3 (CN (qx J2 (sr λ_ J4=>P3 ?_)));refine FA 6 p7 oI ?_;refine IX (6+i) rk iN ?_;refine LT 0 qd (.pointer (some ⟨r,0,none⟩)) ?_ (hc:=by exact(xS n D M P hi).trans (congrArg some hM));refine PS ?_;refine nx J4 (aj (WK [0,0] (av rfl rfl ?_)));exact⟨.inl ⟨(by simpa using h7),rfl⟩,rfl⟩;refine PS ?_;refine nx J3 (CY (sr λ_ J5=>PS ?_));refine nx J5 (aj (ae (WK [0,0] (av rfl rfl ?_))));exact⟨.inr ⟨(by simpa using h7),rfl⟩,rfl⟩
theorem FY(c n i:Nat)(D M P:Nat→Value)(hi:i<5)(d:Nat)(hD:D i= .pointer (some ⟨d,0,none⟩)):
 DT 38 #[(.pointer (some ⟨c,0,none⟩)),(.int .i64 (((i:Nat):Int)))] T0 [ah c (eZ n D M P) 71] (RI (.pointer (some ⟨d,0,none⟩)) [ah c (eZ n D M P) 71]):=by
 refine BD 15 Tryz.func38 rfl rfl rfl λw0 F hF=>sr λ_ J1=>PS ?_
 refine nx J1 (aa λ_ J2=>sr λ_ J3=>P2 ?_);refine CE qH (dY c i hi) ID ?_;refine PS ?_;refine nx J3 (CN (qx J2 (sr λ_ J4=>P3 ?_)));refine FA 1 p7 AS ?_;refine IX (1+i) Mt vN ?_;refine LT 0 I3 (.pointer (some ⟨d,0,none⟩)) ?_ (hc:=by exact(Ee n D M P hi).trans (congrArg some hD));refine PS ?_;exact nx J4 (aj (WK [0] (av rfl rfl ⟨rfl,rfl⟩)))
abbrev A0(c:Nat)(a:CL)(i:Nat)(g:CX):List HP:=ah c (eZ g.n (my g) (kh a g.r) g.p) 71::eB 110 160 5 g.n (cM a.W)::kq (a.at' i) (g.d i) (g.r i) (g.p i)
def eh(c:Nat)(a:CL)(g:CX):HP:=bz (rI c a g)
theorem H7{α:Type}(A B C:List α):((A++B)++C).Perm ((A++C)++B):=by
 rw[aE,aE];exact List.Perm.append_left _ List.perm_append_comm
section
variable {f:FuncId} {args:Array Value} {c i:Nat} {a:CL} {g:CX}
theorem re{H:List HP}{h:Hl}(s:bz (gm c a::H) h): ∃g,bz (eh c a g::H) h:=by
 obtain⟨h1,h2,d,e,⟨g,t⟩,s2⟩:=s;exact⟨g,h1,h2,d,e,t,s2⟩
theorem Aj{H:List HP}{h:Hl}(s:bz (eh c a g::H) h):bz (gm c a::H) h:=cF s (λ_ t=>⟨g,t⟩) λ_ t=>t
theorem HH(hi:i<5){h:Hl}(s:bz [eh c a g] h):bz (A0 c a i g++[bz (((List.range 5).map λi=>lp (a.at' i) (g.d i) (g.r i) (g.p i)).eraseIdx i)]) h:=by
 have s0:bz (rI c a g++[]) h:=(cb _ _).2 s;have s2:=uA (f:=λi=>lp (a.at' i) (g.d i) (g.r i) (g.p i)) hi (az [2,0,0] rfl s0);have s3:=(cb (kq (a.at' i) (g.d i) (g.r i) (g.p i)) _).2 s2;exact az [4,4,0,0,0,0] rfl s3
theorem HG(hi:i<5){h:Hl}(s:bz (A0 c a i g++[bz (((List.range 5).map λi=>lp (a.at' i) (g.d i) (g.r i) (g.p i)).eraseIdx i)]) h):bz [eh c a g] h:=by
 have s1:=az [2,2,2,2,0,0] rfl s;have s2:=(cb (kq (a.at' i) (g.d i) (g.r i) (g.p i)) _).1 s1;have s3:=uz (f:=λi=>lp (a.at' i) (g.d i) (g.r i) (g.p i)) (g:=λi=>lp (a.at' i) (g.d i) (g.r i) (g.p i)) hi (λ_ _=>rfl) s2;exact(cb (rI c a g) []).1 (az [1,1,0] rfl s3)
theorem G2{Q:Value→List HP→Prop}(hi:i<5)(core:DT f args T0 (A0 c a i g) (dH λv H=>∃X,Q v X∧H=A0 c a i g++X)):
 DT f args T0 [eh c a g] (dH λv H=>∃X,Q v X∧H=eh c a g::X):=by
 refine Leg.Does.withinR (B:=[bz (((List.range 5).map λi=>lp (a.at' i) (g.d i) (g.r i) (g.p i)).eraseIdx i)]) core (λ_ _ _ _=>trivial) (λh s=>HH hi s) λv H hp=>?_
 obtain⟨X,hQ,rfl⟩:=hp;refine⟨_,λh s=>?_,X,hQ,rfl⟩;have s1:=(cb _ X).1 (eH (H7 (A0 c a i g) X [bz (((List.range 5).map λi=>lp (a.at' i) (g.d i) (g.r i) (g.p i)).eraseIdx i)]) s);exact(cb [eh c a g] X).2 (cF s1 (λh t=>HG hi t) λ_ t=>t)
theorem BE{Q:Value→Prop}(hi:i<5)(core:DT f args T0 (A0 c a i g) (dH λv H=>Q v∧H=A0 c a i g)):
 DT f args T0 [eh c a g] (dH λv H=>Q v∧H=[eh c a g]):=
 l3 (G2 (Q:=λv X=>Q v∧X=[]) hi (l3 core λv H hp=>by
  obtain⟨h1,rfl⟩:=hp
  exact⟨[],⟨h1,rfl⟩,(aW _).symm⟩)) λv H hp=>by
  obtain⟨X,⟨h1,rfl⟩,rfl⟩:=hp;exact⟨h1,rfl⟩
theorem Gi{x:Slot}{s:MS LD}(h:x.run=some s):x.up= !s.e.D.dn:=by unfold Slot.up;rw[h]
theorem AN{x:Slot}(h:x.run=none):x.up=false:=by unfold Slot.up;rw[h]
theorem uq{s:MS LD}(hs:(a.at' i).run=some s):A0 c a i g=[ah c (eZ g.n (my g) (kh a g.r) g.p) 71,eB 110 160 5 g.n (cM a.W),dk (g.d i) s.e.D,mD (g.p i) (a.at' i).past,fp s (g.d i) (g.r i)]:=by
 unfold A0 kq Slot.dk rj;rw[hs]
theorem Jf(hi:i<5):DT 21 #[.pointer (some ⟨c,0,none⟩), .int .i64 ((i:Nat):Int)] T0 [eh c a g] (dH λv H=>v= .bool (a.at' i).up∧H=[eh c a g]):=by
 refine BE (Q:=λv=>v= .bool (a.at' i).up) hi ?_;cases hr:(a.at' i).run with
 |none=>
  rw[AN hr];refine Leg.Does.withinR (A:=[ah c (eZ g.n (my g) (kh a g.r) g.p) 71]) (B:=eB 110 160 5 g.n (cM a.W)::kq (a.at' i) (g.d i) (g.r i) (g.p i)) (qm c g.n i (my g) (kh a g.r) g.p hi (nK hr)) (λ_ _ _ _=>trivial) (λh s=>s) λv H hp=>?_
  obtain⟨rfl,rfl⟩:=hp;exact⟨_,λh s=>s,rfl,rfl⟩
 |some s=>
  rw[Gi hr,uq hr];refine Leg.Does.withinR (B:=[eB 110 160 5 g.n (cM a.W),mD (g.p i) (a.at' i).past,fp s (g.d i) (g.r i)]) (ql c g.n i (my g) (kh a g.r) g.p hi (g.d i) (g.r i) s.e.D rfl (tC hr)) (λ_ _ _ _=>trivial) (λh s=>az [0,1,0,0,0] rfl s) λv H hp=>?_
  obtain⟨rfl,rfl⟩:=hp;exact⟨_,λh s=>az [0,1,0,0,0] rfl s,rfl,rfl⟩
def xy(a:CL)(g:CX)(i:Nat):Value:=if(a.at' i).up then .pointer (some ⟨g.r i,0,none⟩)else .pointer none
theorem px(hi:i<5):DT 10 #[.pointer (some ⟨c,0,none⟩), .int .i64 ((i:Nat):Int)] T0 [eh c a g] (dH λv H=>v=xy a g i∧H=[eh c a g]):=by
 refine BE (Q:=λv=>v=xy a g i) hi ?_;unfold xy;cases hr:(a.at' i).run with
 |none=>
  rw[AN hr];refine Leg.Does.withinR (A:=[ah c (eZ g.n (my g) (kh a g.r) g.p) 71]) (B:=eB 110 160 5 g.n (cM a.W)::kq (a.at' i) (g.d i) (g.r i) (g.p i)) (Dy c g.n i (my g) (kh a g.r) g.p hi (nK hr)) (λ_ _ _ _=>trivial) (λh s=>s) λv H hp=>?_
  obtain⟨rfl,rfl⟩:=hp;exact⟨_,λh s=>s,rfl,rfl⟩
 |some s=>
  rw[Gi hr,uq hr];refine Leg.Does.withinR (B:=[eB 110 160 5 g.n (cM a.W),mD (g.p i) (a.at' i).past,fp s (g.d i) (g.r i)]) (Dx c g.n i (my g) (kh a g.r) g.p hi (g.d i) (g.r i) s.e.D rfl (tC hr)) (λ_ _ _ _=>trivial) (λh s=>az [0,1,0,0,0] rfl s) λv H hp=>?_
  obtain⟨hv,rfl⟩:=hp;refine⟨_,λh s=>az [0,1,0,0,0] rfl s,?_,rfl⟩;rcases hv with⟨h1,rfl⟩| ⟨h1,rfl⟩<;>rw[h1]<;>rfl
theorem FZ(hi:i<5):DT 38 #[.pointer (some ⟨c,0,none⟩), .int .i64 ((i:Nat):Int)] T0 [eh c a g] (dH λv H=>v= .pointer (some ⟨g.d i,0,none⟩)∧H=[eh c a g]):=by
 refine BE (Q:=λv=>v= .pointer (some ⟨g.d i,0,none⟩)) hi ?_;refine Leg.Does.withinR (A:=[ah c (eZ g.n (my g) (kh a g.r) g.p) 71]) (B:=eB 110 160 5 g.n (cM a.W)::kq (a.at' i) (g.d i) (g.r i) (g.p i)) (FY c g.n i (my g) (kh a g.r) g.p hi (g.d i) rfl) (λ_ _ _ _=>trivial) (λh s=>s) λv H hp=>?_
 obtain⟨rfl,rfl⟩:=hp;exact⟨_,λh s=>s,rfl,rfl⟩
theorem zS{s:MS LD}{Q:Value→Prop}(hi:i<5)(hs:(a.at' i).run=some s)(hf:DT f args T0 [fp s (g.d i) (g.r i)] (dH λv H=>Q v∧H=[fp s (g.d i) (g.r i)])):DT f args T0 [eh c a g] (dH λv H=>Q v∧H=[eh c a g]):=by
 refine BE hi ?_;rw[uq hs];refine Leg.Does.withinR (B:=[ah c (eZ g.n (my g) (kh a g.r) g.p) 71,eB 110 160 5 g.n (cM a.W),dk (g.d i) s.e.D,mD (g.p i) (a.at' i).past]) hf (λ_ _ _ _=>trivial) (λh q=>az [4,0,0,0,0] rfl q) λv H hp=>?_
 obtain⟨hQ,rfl⟩:=hp;exact⟨_,λh q=>az [1,1,1,1,0] rfl q,hQ,rfl⟩
theorem qB{s:MS LD}{d r:Nat}{v0:RepT→Value}(hf: ∀x,DT f args T0 [ah r (RepT.cells x) 94] (dH λv H=>v=v0 x∧H=[ah r (RepT.cells x) 94])){w:Value}(hv: ∀a,v0 (s.rep a)=w):DT f args T0 [fp s d r] (dH λv H=>v=w∧H=[fp s d r]):=
 Leg.Does.pack (B:=[]) λx=>Leg.Does.withinR (A:=[ah r (RepT.cells (s.rep x)) 94]) (B:=[GT x.lg d ((s.e.cnt:Nat):Int) s.e.used,mD x.rs s.replies,Gg x.vo s.vote]) (hf (s.rep x)) (λ_ _ _ _=>trivial) (λ_ q=>q) λv H hp=>by
  obtain⟨rfl,rfl⟩:=hp;exact⟨[fp s d r],λ_ q=>bn (p:=HL s d r) (H:=[]) x q,hv x,rfl⟩
theorem pc(s:MS LD)(d r:Nat):DT 11 #[.pointer (some ⟨r,0,none⟩)] T0 [fp s d r] (dH λv H=>v= .agg (ints s.view.flat).toArray∧H=[fp s d r]):=qB (λx=>Fj r x) λ_=>rfl
theorem H9(s:MS LD)(d r:Nat):DT 18 #[.pointer (some ⟨r,0,none⟩)] T0 [fp s d r] (dH λv H=>v= .agg (ints s.own.flat).toArray∧H=[fp s d r]):=qB (λx=>HY r x) λ_=>rfl
theorem Ci(s:MS LD)(d r:Nat)(key:Int):DT 20 #[.pointer (some ⟨r,0,none⟩), .int .i64 key] T0 [fp s d r] (dH λv H=>v= .int .i64 (ni s.book key)∧H=[fp s d r]):=qB (λx=>Dh r x key) λ_=>rfl
theorem tk(s:MS LD)(d r:Nat)(who key:Int):DT 19 #[.pointer (some ⟨r,0,none⟩), .int .i64 who, .int .i64 key] T0 [fp s d r] (dH λv H=>v= .int .i64 (dG s.book who key)∧H=[fp s d r]):=qB (λx=>Bb r x who key) λ_=>rfl
theorem Ij(s:MS LD)(d r:Nat)(who:Int):DT 42 #[.pointer (some ⟨r,0,none⟩), .int .i64 who] T0 [fp s d r] (dH λv H=>v= .tuple #[.agg (ints (mirRow s.mirror who).flat).toArray, .bool (eS s.mirror who)]∧H=[fp s d r]):=qB (λx=>xj r x who) λ_=>rfl
theorem FC(hi:i<5):DT 10 #[.pointer (some ⟨c,0,none⟩), .int .i64 ((i:Nat):Int)] T0 [eh c a g] (dH λv H=>((a.at' i).up=false∧v= .pointer none∧H=[eh c a g])∨∃s,(a.at' i).run=some s∧(a.at' i).up=true∧v= .pointer (some ⟨g.r i,0,none⟩)∧H=[eh c a g]):=
 l3 (px hi) λv H hp=>by
  obtain⟨rfl,rfl⟩:=hp;unfold xy;cases hu:(a.at' i).up with
  |false=>exact .inl ⟨rfl,rfl,rfl⟩
  |true=>
   cases hs:(a.at' i).run with
   |none=>rw[AN hs]at hu;cases hu
   |some s=>exact .inr ⟨s,rfl,rfl,rfl,rfl⟩
end
theorem Co(c n:Nat)(a:CL)(h:CLOk n a)(hn:n≤100000):
 DT 36 #[(.pointer (some ⟨c,0,none⟩))] T0 [gm c a] (dH (λ_ H=>H=[gm c (wN a)])):=by
 refine BD 20 Tryz.func36 rfl rfl rfl λw0 F hF=>sr λ_ J1=>PS ?_
 refine nx J1 (aq ?_)
 refine bD (α:=(Nat)) (λi=>i≤5) (λi=>[(0,(.pointer (some ⟨c,0,none⟩))),(4,(.int .i64 (((i:Nat):Int))))]) (λi=>[gm c (sweepTo a i)]) (λi=>5-i) 0
  (aO _) SB
  (λ_ s=>s) (λi hinv=>?_)
 obtain hi:=hinv;refine sr λ_ J2=>PS ?_
 refine ap ?_ ?_<;>intro h5;refine nx J2 (aa λ_ J3=>CY (qx J3 (aa λ_ J4=>aq (sr λ_ J5=>P2 ?_))));refine nx J5 (sr λ_ J6=>PS ?_);refine nx J6 (aq ?_)
 refine bD (α:=(Nat)) (λj=>j≤5) (λj=>[(0,(.pointer (some ⟨c,0,none⟩))),(2,(.int .i64 (((i:Nat):Int)))),(4,(.int .i64 (((i:Nat):Int)))),(7,(.int .i64 (((j:Nat):Int))))]) (λj=>[gm c (tf (sweepTo a i) i j)]) (λj=>5-j) 0
  (aO _) SB
  (λ_ s=>s) (λj hinv=>?_)
 obtain hj:=hinv;refine sr λ_ J7=>PS ?_
 refine ap ?_ ?_<;>intro h8;refine nx J7 (aa λ_ J8=>CY (qx J8 (aa λ_ J9=>aq (sr λ_ J10=>P2 ?_))));refine nx J10 (sr λ_ J11=>P3 ?_);refine ap ?_ ?_<;>intro h12;refine nx J11 (CY (ad (P3 ?_)));refine tp (kJ OpT.zero (OpT.mk 5 ((i:Nat):Int) ((j:Nat):Int) 0 0 ChangeT.zero 0 0 0) [(0,[Value.int .i64 5]),(1,[Value.int .i64 ((i:Nat):Int)]),(2,[Value.int .i64 ((j:Nat):Int)])] fP ka (g:=OpT.sg)) ?_;refine CE JJ (jP (c:=c) (o:=(I2 5 ((i:Nat):Int) ((j:Nat):Int))) ((h.sweepTo i).rows i j) hn (uF ..)) ID ?_;refine aw (af (ac J9 (ad (AD ?_))));refine PS ?_;refine aw ?_
 exact aL ((j+1):(Nat)) (by omega) (by show 5- (j+1)<5-j;omega)
  SB
  (λ_ s=>by rw[Jr (by omega)];exact s)
 refine nx J11 (CN (aS (af (ac J9 (ad (AD ?_))))));refine PS ?_;refine aw ?_
 exact aL ((j+1):(Nat)) (by omega) (by show 5- (j+1)<5-j;omega)
  SB
  (λ_ s=>by rw[Js (by omega)];exact s)
 refine nx J7 (aa λ_ J12=>CN (bh (aC (aC (bC (af (ac J4 (ad (AD ?_)))))))));refine PS ?_;refine aw ?_
 exact aL ((i+1):(Nat)) (by omega) (by show 5- (i+1)<5-i;omega)
  SB
  (λ_ s=>by rw[show j=5 by omega]at s;exact s)
 exact nx J2 (aa λ_ J13=>CN (bh (aC (aC (bC (aF (H':=[gm c (wN a)]) (dV _) (λ_ s=>by rw[show i=5 by omega]at s;exact s) (bw rfl rfl)))))))
theorem mV(c n:Nat)(a:CL)(h:CLOk n a)(hn:n≤100000)(rounds:Nat)(hrd:rounds≤1000):
 DT 14 #[(.pointer (some ⟨c,0,none⟩)),(.int .i64 (((rounds:Nat):Int)))] T0 [gm c a] (dH (λ_ H=>H=[gm c (g8 a rounds)])):=by
 refine BD 36 Tryz.func14 rfl rfl rfl λw0 F hF=>aa λ_ J1=>sr λ_ J2=>PS ?_
 refine tp (kE rfl PC rfl rfl) ?_;refine nx J2 (CN (qx J1 (sr λ_ J3=>PS ?_)));refine nx J3 (aq ?_)
 refine bD (α:=(Nat)) (λm=>m≤rounds) (λm=>[(0,(.pointer (some ⟨c,0,none⟩))),(1,(.int .i64 (((rounds:Nat):Int)))),(4,(.int .i64 (((m:Nat):Int))))]) (λm=>[gm c (g8 a m)]) (λm=>rounds-m) 0
  (aO _) SB
  (λ_ s=>s) (λm hinv=>?_)
 obtain hm:=hinv;refine aa λ_ J4=>sr λ_ J5=>P3 ?_
 refine ap ?_ ?_<;>intro h11;refine nx J5 (CY (qx J4 (aa λ_ J6=>aq (aa λ_ J7=>sr λ_ J8=>PS ?_))));refine nx J8 (aq ?_)
 refine bD (α:=(Nat)) (λi=>i≤5) (λi=>[(0,(.pointer (some ⟨c,0,none⟩))),(1,(.int .i64 (((rounds:Nat):Int)))),(4,(.int .i64 (((m:Nat):Int)))),(14,(.int .i64 (((i:Nat):Int))))]) (λi=>[gm c (rR (g8 a m) i)]) (λi=>5-i) 0
  (aO _) SB
  (λ_ s=>s) (λi hinv=>?_)
 obtain hi:=hinv;refine sr λ_ J9=>PS ?_
 refine ap ?_ ?_<;>intro h15;refine nx J9 (aa λ_ J10=>CY (qx J10 (aa λ_ J11=>aq (sr λ_ J12=>P2 ?_))));refine nx J12 (ad (P2 ?_));refine tp (kJ OpT.zero (OpT.mk 8 ((i:Nat):Int) 0 0 0 ChangeT.zero 0 0 0) [(0,[Value.int .i64 8]),(1,[Value.int .i64 ((i:Nat):Int)])] fP ka (g:=OpT.sg)) ?_;refine CE JJ (jP (c:=c) (o:=(I2 8 ((i:Nat):Int) 0)) ((h.settle m).ticks i) hn (uF ..)) ID ?_;refine aw (af (ac J11 (ad (AD ?_))));refine PS ?_;refine aw ?_
 exact aL ((i+1):(Nat)) (by omega) (by show 5- (i+1)<5-i;omega)
  SB
  (λ_ s=>s)
 refine nx J9 (aa λ_ J13=>CN (bh (aC (aC (bC (ac J7 (sr λ_ J14=>PS ?_)))))));refine nx J14 (aq ?_)
 refine bD (α:=(Nat)×(CL)) (λ⟨k,d⟩=>k≤400∧CLOk n d∧kL (400-k) d=ux (g8 a m)) (λ⟨k,d⟩=>[(0,(.pointer (some ⟨c,0,none⟩))),(1,(.int .i64 (((rounds:Nat):Int)))),(4,(.int .i64 (((m:Nat):Int)))),(6,(.int .i64 (((k:Nat):Int))))]) (λ⟨k,d⟩=>[gm c d]) (λ⟨k,d⟩=>400-k) (0,rR (g8 a m) i)
  ⟨aO _,(h.settle m).ticks i,by rw[show i=5 by omega];exact HN _⟩ SB
  (λ_ s=>s) (λ⟨k,d⟩ hinv=>?_)
 obtain⟨hk,hd,hs⟩:=hinv;refine aa λ_ J15=>sr λ_ J16=>P2 ?_
 refine ap ?_ ?_<;>intro h23;refine P3 ?_;refine FA 0 p7 AT ?_;refine G9 (H':=λg:CX=>[ah c (eZ g.n (my g) (kh d g.r) g.p) 71,eB 110 160 5 g.n (cM d.W),bz ((List.range 5).map λi=>lp (d.at' i) (g.d i) (g.r i) (g.p i))]) (λ_ s=>fR s) (λg=>LT 0 KF (.pointer (some ⟨g.n,0,none⟩)) ?_ (hc:=by exact BI g.n (my g) (kh d g.r) g.p));refine CE QP (Dv g.n (cM d.W) (EG hd)) (SM [1]) ?_;rw[sd d.W 25 (aH _)];change TL _ _ _ _ _ _ _ _ _ [eB 110 160 5 g.n (cM d.W),ah c (eZ g.n (my g) (kh d g.r) g.p) 71,bz ((List.range 5).map λi=>lp (d.at' i) (g.d i) (g.r i) (g.p i))];refine cr (H':=[gm c d]) (λ_ s=>bn (p:=rI c d) (H:=[]) g (az [1,0,0] rfl s)) (PS ?_);refine ap ?_ ?_<;>intro h30;refine PS ?_;refine nx J16 (CY (qx J15 (aa λ_ J17=>aq (ad (PS ?_)))));refine CZ QO (Co c n d hd hn) ID λvR=>?_
 refine aw (af (ac J17 (ad (PS ?_))));refine AD ?_;refine PS ?_;refine aw ?_
 exact aL ((k+1,wN d):(Nat)×(CL)) ⟨by omega,hd.sweepTo 5,by rw[sT (by omega),if_neg (by unfold AI at*;omega)]at hs;exact hs⟩ (by show 400- (k+1)<400-k;omega)
  SB
  (λ_ s=>s)
 have hfin:d=g8 a (m+1):=by rw[sT (by omega),if_pos (by unfold AI at*;omega)]at hs;exact hs
 refine PS ?_;refine nx J16 (CN (bh (aC (aC (bC (af (ac J6 (ad (PS ?_)))))))));refine AD ?_;refine PS ?_;refine aw ?_
 exact aL ((m+1):(Nat)) (by omega) (by show rounds- (m+1)<rounds-m;omega)
  SB
  (λ_ s=>by rw[hfin]at s;exact s)
 have hfin:d=g8 a (m+1):=by rw[AX (by omega)]at hs;exact hs
 refine PS ?_
 iterate 6 refine UF ?_
 refine PS ?_;refine nx J16 (CN (bh (aC (aC (bC (af (ac J6 (ad (PS ?_)))))))));refine AD ?_;refine PS ?_;refine aw ?_
 exact aL ((m+1):(Nat)) (by omega) (by show rounds- (m+1)<rounds-m;omega)
  SB
  (λ_ s=>by rw[hfin]at s;exact s)
 exact nx J5 (CN (bh (aC (aC (bC (aF (H':=[gm c (g8 a rounds)]) (dV _) (λ_ s=>by rw[show m=rounds by omega]at s;exact s) (bw rfl rfl)))))))
end Go.Proofs.YtmcjhkbcmmddgaaGreat
end

section
namespace Api
open Go Leg Codec Dsk Wal
def DP:OpT:=⟨0,0,0,0,5, .zero,0,0,0⟩
theorem DO:OkOp DP:=⟨xT,by decide⟩
def NP:CL:=(pG .new DP).1
def fitB:CL:=g8 NP 3
theorem Mb:CLOk 1 NP:=tM new_ok DO
def Pq:Bool:=decide ((pG .new DP).2=0)&&(match(fitB.at' 2).run with
 |some s=>decide (ni s.book 0=5)
 |none=>false)&&(fitB.at' 2).up&&(fitB.at' 4).up
theorem Iz:Pq=true:=by decide+kernel
theorem Ma:(pG .new DP).2=0∧∃s2,(fitB.at' 2).run=some s2∧(fitB.at' 2).up=true∧ni s2.book 0=5∧(fitB.at' 4).up=true:=by
 have h:=Iz;unfold Pq at h;rw[an,an,an]at h;obtain⟨⟨⟨h1,h2⟩,h3⟩,h4⟩:=h;refine⟨of_decide_eq_true h1,?_⟩;cases hs:(fitB.at' 2).run with
 |none=>rw[hs]at h2;cases h2
 |some s=>rw[hs]at h2;exact⟨s,rfl,h3,of_decide_eq_true h2,h4⟩
section
variable {A m:List ReplyT} {e:Int}
end
end Api
end

section
namespace Go.Proofs.YtmcjhkbcmmddgaaGreat
open Go Leg Codec Api Dsk Wal
theorem FM:
 DT 5 #[] T0 [] (RI (.bool true) []):=by
 refine BD 38 Tryz.func5 rfl rfl rfl λw0 F hF=>?_
 obtain⟨hf1,s2,hs2,hu2,hk2,hu4⟩:=Ma;refine sr λ_ J1=>PS ?_
 refine nx J1 (sr λ_ J2=>CR Rh (zP) ID λvR HR hR=>?_);obtain⟨c,rfl,rfl⟩:=hR;refine PS ?_;refine nx J2 (aa λ_ J3=>sr λ_ J4=>PS ?_);refine tp (kE rfl PC rfl rfl) ?_;refine nx J4 (CN (qx J3 (sr λ_ J5=>PS ?_)));refine tp (kJ OpT.zero (OpT.mk 0 0 0 0 5 ChangeT.zero 0 0 0) [(0,[Value.int .i64 0]),(4,[Value.int .i64 5])] fP ka (g:=OpT.sg)) ?_;refine CR JJ (jP (c:=c) (o:=DP) new_ok (by decide) DO) ID λvR HR hR=>?_
 obtain⟨hv,rfl⟩:=hR;rw[hf1]at hv;subst hv;refine PS ?_;refine nx J5 (sr λ_ J6=>PS ?_);refine CZ LQ (mV c 1 NP Mb (by decide) 3 (by decide)) ID λvR=>?_
 refine nx J6 (sr λ_ J7=>PS ?_);refine G9 (H':=λg:CX=>[eh c fitB g]) (λ_ s=>re s) (λg=>CR L1 (px (i:=2) (by decide)) ID λvR HR hR=>?_);obtain⟨hv,rfl⟩:=hR;rw[xy,if_pos hu2]at hv;subst hv;refine PS ?_;refine nx J7 (sr λ_ J8=>P4 ?_);refine tq (gH rfl qd rfl rfl) ?_;refine P3 ?_;refine CR QW (zS (i:=2) (by decide) hs2 (Ci s2 _ _ 0)) ID λvR HR hR=>?_
 obtain⟨hv,rfl⟩:=hR;rw[hk2]at hv;subst hv;refine P4 ?_;refine CR Bk (Jf (i:=4) (by decide)) ID λvR HR hR=>?_
 obtain⟨hv,rfl⟩:=hR;rw[hu4]at hv;subst hv;refine P2 ?_;refine CQ OV (xI 0 1 (.slice none 0 0) [] (by decide)) ID (λ_ _ _=>Or.inl (Or.inl ⟨rfl,rfl⟩)) λvR HR hR=>?_
 obtain⟨_,rfl,rfl⟩:=hR;revert vR;intro uf;refine iZ 0 rfl rfl (λhluf _=>?_);rw[pC]at hluf;refine tq (eA rfl ia rfl hluf) ?_;refine P3 ?_;refine CE QB (su) ID ?_;refine CE LS (ll firstV Rng.first) ID ?_;refine P2 ?_;exact nx J8 (aj (WK [] (av rfl rfl ⟨rfl,rfl⟩)))
end Go.Proofs.YtmcjhkbcmmddgaaGreat
end

section
namespace Api
open Go Leg Codec Dsk Wal
theorem Gh(v:Vector Int 5):v.toList=[v[0],v[1],v[2],v[3],v[4]]:=by
 obtain⟨⟨l⟩,h⟩:=v
 match l,h with
 | [a,b,c,d,e],_=>rfl
structure CellOk(c:CellT):Prop where
 inn:0≤c.inn∧c.inn≤1099511627776
 out:0≤c.out∧c.out≤1099511627776
 given:(0:Int)≤c.given[0]∧(0:Int)≤c.given[1]∧(0:Int)≤c.given[2]∧(0:Int)≤c.given[3]∧(0:Int)≤c.given[4]
 sum:c.given[0]+c.given[1]+c.given[2]+c.given[3]+c.given[4]≤1099511627776
theorem sa{n:Int}(h:0≤n∧n≤1099511627776):Do n=true:=decide_eq_true h
theorem CellOk.right{c:CellT}(h:CellOk c):KU c=true:=by
 obtain⟨h1,h2,⟨g0,g1,g2,g3,g4⟩,hs⟩:=h;unfold KU;rw[sa h1,sa h2,Gh,nS,nS,decide_eq_true_iff];generalize c.given[0]=a at*;generalize c.given[1]=b at*;generalize c.given[2]=d at*;generalize c.given[3]=e at*;generalize c.given[4]=f at*;rw[oA,if_pos (sa (by omega)),if_neg (by omega),oA,if_pos (sa (by omega)),if_neg (by omega),oA,if_pos (sa (by omega)),if_neg (by omega),oA,if_pos (sa (by omega)),if_neg (by omega),oA,if_pos (sa (by omega)),if_neg (by omega),oA]
theorem CellOk.sumG{c:CellT}(h:CellOk c):sumG c=c.given[0]+c.given[1]+c.given[2]+c.given[3]+c.given[4]:=by
 obtain⟨h1,h2,⟨g0,g1,g2,g3,g4⟩,hs⟩:=h;unfold Api.sumG;rw[Gh];simp only[List.foldl_cons,List.foldl_nil];rw[lj (n:=(0:Int)+c.given[0]) (by omega) (by omega),lj (n:=(0:Int)+c.given[0]+c.given[1]) (by omega) (by omega),lj (n:=(0:Int)+c.given[0]+c.given[1]+c.given[2]) (by omega) (by omega),lj (n:=(0:Int)+c.given[0]+c.given[1]+c.given[2]+c.given[3]) (by omega) (by omega),lj (by omega) (by omega)];omega
def LinS(n m u v:Int):Prop:=∃a b:Int,(-m≤a∧a≤m)∧(-m≤b∧b≤m)∧u=a*n+b∧v=a*1000+b
def NumS(n u v:Int):Prop:=∃a b:Int,(0≤a∧a≤3)∧(0≤b∧b≤3)∧u=a*n+b∧v=a*1000+b
class Nn(n:Int):Prop where
 r:1≤n∧n≤1024
section
variable {n u v u' v' m k:Int}
theorem NumS.zero:NumS n 0 0:=⟨0,0,⟨by decide,by decide⟩,⟨by decide,by decide⟩,by omega,by decide⟩
theorem NumS.lin(h:NumS n u v):LinS n 3 u v:=by
 obtain⟨a,b,h1,h2,h3,h4⟩:=h;exact⟨a,b,⟨by omega,by omega⟩,⟨by omega,by omega⟩,h3,h4⟩
theorem NumS.bd[hn:Nn n](h:NumS n u v):0≤u∧u≤4000∧0≤v∧v≤4000∧(1≤u↔1≤v):=by
 obtain⟨a,b,h1,h2,rfl,rfl⟩:=h;have:=hn.r;have:a=0∨a=1∨a=2∨a=3:=by omega
 rcases this with rfl|rfl|rfl|rfl<;>omega
theorem LinS.add(h:LinS n m u v)(g:LinS n k u' v'):LinS n (m+k) (u+u') (v+v'):=by
 obtain⟨a,b,h1,h2,rfl,rfl⟩:=h;obtain⟨c,d,g1,g2,rfl,rfl⟩:=g;exact⟨a+c,b+d,⟨by omega,by omega⟩,⟨by omega,by omega⟩,by rw[Int.add_mul];omega,by omega⟩
theorem LinS.sub(h:LinS n m u v)(g:LinS n k u' v'):LinS n (m+k) (u-u') (v-v'):=by
 obtain⟨a,b,h1,h2,rfl,rfl⟩:=h;obtain⟨c,d,g1,g2,rfl,rfl⟩:=g;exact⟨a-c,b-d,⟨by omega,by omega⟩,⟨by omega,by omega⟩,by rw[Int.sub_mul];omega,by omega⟩
theorem LinS.more(h:LinS n m u v)(hm:m≤k):LinS n k u v:=by
 obtain⟨a,b,h1,h2,h3⟩:=h;exact⟨a,b,⟨by omega,by omega⟩,⟨by omega,by omega⟩,h3⟩
theorem NI{a:Int}(ha: -1000≤a∧a≤1000)(hn:1≤n∧n≤1024): -1024000≤a*n∧a*n≤1024000:=by
 have h1:(a+1000)*n≤(a+1000)*1024:=Int.mul_le_mul_of_nonneg_left hn.2 (by omega);have h2:0≤(a+1000)*n:=Int.mul_nonneg (by omega) (by omega);have h3:(1000-a)*n≤(1000-a)*1024:=Int.mul_le_mul_of_nonneg_left hn.2 (by omega);have h4:0≤(1000-a)*n:=Int.mul_nonneg (by omega) (by omega);rw[Int.add_mul]at h1 h2;rw[Int.sub_mul]at h3 h4;omega
theorem LinS.w[hn:Nn n](h:LinS n m u v)(hm:m≤1000):LinS n m (fx u) (fx v):=by
 obtain⟨a,b,h1,h2,rfl,rfl⟩:=h;have:=NI (a:=a) (n:=n) ⟨by omega,by omega⟩ hn.r;rw[lj (by omega) (by omega),lj (by omega) (by omega)];exact⟨a,b,h1,h2,rfl,rfl⟩
def NU(lo w:Int):Bool:=decide ((w+500) / 1000=0)||(decide (1≤(w+500) / 1000)&&decide (((w+500) / 1000)*1000-w≤lo))||(decide ((w+500) / 1000≤ -1)&&decide (w≤((w+500) / 1000)*1000))
theorem LinS.cmp[hn:Nn n]{lo:Int}(h:LinS n m u v)(hm:m≤400)(hl:lo≤n)(hc:NU lo v=true):(u<0↔v<0):=by
 obtain⟨a,b,h1,h2,rfl,rfl⟩:=h;have e:(a*1000+b+500) / 1000=a:=by omega
 have hn:=hn.r;unfold NU at hc;rw[e]at hc;simp only[rr,an,decide_eq_true_eq]at hc;rcases hc with(hc| ⟨c1,c2⟩)| ⟨c1,c2⟩
 · subst hc;omega
 · have:(a-1)*n≥0:=Int.mul_nonneg (by omega) (by omega)
   rw[Int.sub_mul]at this;omega
 · have:(-1-a)*n≥0:=Int.mul_nonneg (by omega) (by omega)
   rw[Int.sub_mul]at this;omega
def M8(v:Int):Bool:=decide (0≤v∧v / 1000≤3∧v%1000≤3)
theorem LinS.num(h:LinS n m u v)(hm:m≤400)(hs:M8 v=true):NumS n u v:=by
 obtain⟨a,b,h1,h2,rfl,rfl⟩:=h;have hs:0≤a*1000+b∧(a*1000+b) / 1000≤3∧(a*1000+b)%1000≤3:=of_decide_eq_true hs;exact⟨a,b,⟨by omega,by omega⟩,⟨by omega,by omega⟩,rfl,rfl⟩
end
structure CellS(n:Int)(c d:CellT):Prop where
 inn:NumS n c.inn d.inn
 out:NumS n c.out d.out
 given: ∀(j:Nat) (h:j<5),NumS n c.given[j] d.given[j]
structure RowS(n:Int)(x y:RowT):Prop where
 ver:x.version=y.version
 vb:0≤y.version∧y.version≤400
 cells: ∀(k:Nat) (h:k<4),CellS n x.cells[k] y.cells[k]
 heir:x.heir=y.heir
 hb: ∀(i:Nat) (h:i<5),(0:Int)≤y.heir[i]∧y.heir[i]≤(401:Int)
 left: ∀(i k:Nat) (h:i<5) (g:k<4),CellS n x.left[i][k] y.left[i][k]
 none: ∀(i:Nat) (h:i<5),y.heir[i]=(0:Int)→x.left[i]=RowT.zero.left[0]∧y.left[i]=RowT.zero.left[0]
section
variable {n:Int} {x y x' y':RowT}
theorem CellS.zero:CellS n .zero .zero:=⟨.zero, .zero,λj hj=>by
 match j,hj with|0,_|1,_|2,_|3,_|4,_=>exact NumS.zero⟩
theorem RowS.zero:RowS n .zero .zero:=⟨rfl,⟨by decide,by decide⟩,λk hk=>by rw[xV k hk];exact .zero,rfl,λi hi=>by rw[Kg i hi];exact⟨by decide,by decide⟩,λi k hi hk=>by
 rw[show RowT.zero.left[i][k]=RowT.zero.cells[k]from by rw[qJ i hi],xV k hk];exact .zero,λi hi _=>⟨by rw[qJ i hi,qJ 0 (by decide)],by rw[qJ i hi,qJ 0 (by decide)]⟩⟩
theorem CellS.ok[Nn n]{c d:CellT}(h:CellS n c d):CellOk c∧CellOk d:=by
 have h1:=h.inn.bd;have h2:=h.out.bd;have g0:=(h.given 0 (by decide)).bd;have g1:=(h.given 1 (by decide)).bd;have g2:=(h.given 2 (by decide)).bd;have g3:=(h.given 3 (by decide)).bd;have g4:=(h.given 4 (by decide)).bd;exact⟨⟨⟨by omega,by omega⟩,⟨by omega,by omega⟩,⟨by omega,by omega,by omega,by omega,by omega⟩,by omega⟩,⟨⟨by omega,by omega⟩,⟨by omega,by omega⟩,⟨by omega,by omega,by omega,by omega,by omega⟩,by omega⟩⟩
theorem GH{v:Vector CellT 4}(h: ∀(k:Nat) (_:k<4),CellOk v[k]):yz v=true:=decide_eq_true λk hk=>(h k hk).right
theorem zr{z:RowT}(hv:0≤z.version)(hc: ∀(k:Nat) (_:k<4),CellOk z.cells[k])(hh: ∀(i:Nat) (_:i<5),(0:Int)≤z.heir[i])(hl: ∀(i k:Nat) (_:i<5) (_:k<4),CellOk z.left[i][k])(hn: ∀(i:Nat) (_:i<5),z.heir[i]=(0:Int)→z.left[i]=RowT.zero.left[0]):fy z=true:=by
 unfold fy;rw[an,an];refine⟨⟨decide_eq_true hv,GH hc⟩,decide_eq_true λi hi=>?_⟩;unfold Bt;rw[an,an];exact⟨⟨decide_eq_true (hh i hi),GH λk hk=>hl i k hi hk⟩,decide_eq_true λe=>by rw[hn i hi e]⟩
theorem RowS.right[Nn n](h:RowS n x y):fy x=true∧fy y=true:=
 ⟨zr (by rw[h.ver];exact h.vb.1) (λk hk=>(h.cells k hk).ok.1) (λi hi=>by rw[h.heir];exact(h.hb i hi).1) (λi k hi hk=>(h.left i k hi hk).ok.1) λi hi e=>(h.none i hi (by rw[←h.heir];exact e)).1,
  zr h.vb.1 (λk hk=>(h.cells k hk).ok.2) (λi hi=>(h.hb i hi).1) (λi k hi hk=>(h.left i k hi hk).ok.2) λi hi e=>(h.none i hi e).2⟩
theorem CellS.cw[Nn n]{c d:CellT}(h:CellS n c d):CW c:=by
 have h1:=h.inn.bd;have h2:=h.out.bd;exact⟨⟨by omega,by omega⟩,⟨by omega,by omega⟩,λj hj=>by have:=(h.given j hj).bd;exact⟨by omega,by omega⟩⟩
theorem RowS.tame[Nn n](h:RowS n x y):TameR x:=by
 have o:OkRow x:=⟨by have:=h.vb;rw[h.ver];exact⟨by omega,by omega⟩,λk hk=>(h.cells k hk).cw,λi hi=>by rw[h.heir];have:=h.hb i hi;exact⟨by omega,by omega⟩,λi k hi hk=>(h.left i k hi hk).cw⟩;exact TameR.of o.wf h.right.1
theorem RowS.cellAt(h:RowS n x y)(key:Int):CellS n (cellAt x key) (cellAt y key):=by unfold Api.cellAt;split;exact h.cells _ _;exact .zero
theorem RowS.heirAt(h:RowS n x y)(i:Int):heirAt x i=heirAt y i:=by unfold Api.heirAt;rw[h.heir]
theorem RowS.heirAt_bd(h:RowS n x y)(i:Int):0≤Api.heirAt y i∧Api.heirAt y i≤401:=by
 unfold Api.heirAt;split
 · exact h.hb _ _
 · exact⟨by decide,by decide⟩
theorem RowS.leftAt(h:RowS n x y)(i key:Int):CellS n (leftAt x i key) (leftAt y i key):=by unfold Api.leftAt;split;exact h.left _ _ _ _;exact .zero
theorem RowS.rowCell(h:RowS n x y)(who of' key:Int):CellS n (rowCell x who of' key).1 (rowCell y who of' key).1∧(rowCell x who of' key).2=(rowCell y who of' key).2:=by
 unfold Api.rowCell;rw[h.heirAt,h.ver]
 repeat' split
 all_goals first|exact⟨h.cellAt key,rfl⟩|exact⟨h.leftAt _ _,rfl⟩|exact⟨.zero,rfl⟩
theorem RowS.setHeir(h:RowS n x y){w v:Int}(hv:1≤v∧v≤401){l l':Vector CellT 4}(hl: ∀(k:Nat) (_:k<4),CellS n l[k] l'[k]):RowS n (setHeir x w v l) (setHeir y w v l'):=by
 unfold Api.setHeir;split
 · rename_i hw
   refine⟨h.ver,h.vb,h.cells,by show x.heir.set w.toNat v (cS hw)=y.heir.set w.toNat v (cS hw);rw[h.heir],?_,?_,?_⟩
   · exact n7 (p:=λz:Int=>(0:Int)≤z∧z≤(401:Int)) (cS hw) h.hb ⟨by omega,by omega⟩
   · intro i k hi hk
     show CellS n (x.left.set w.toNat l (cS hw))[i][k] (y.left.set w.toNat l' (cS hw))[i][k];simp only[Vector.getElem_set];split
     · exact hl k hk
     · exact h.left i k hi hk
   · intro i hi
     show(y.heir.set w.toNat v (cS hw))[i]=(0:Int)→(x.left.set w.toNat l (cS hw))[i]=_∧(y.left.set w.toNat l' (cS hw))[i]=_;simp only[Vector.getElem_set];split
     · intro e;omega
     · exact h.none i hi
 · exact h
theorem RowS.inhTo{d d':RowT}(h:RowS n x y)(g:RowS n d d')(w:Int): ∀k,RowS n (inhTo x w d k) (inhTo y w d' k)∧(inhTo y w d' k).version=y.version
 |0=>by
  show RowS n (Api.setHeir x w (fx (d.version+1)) d.cells) (Api.setHeir y w (fx (d'.version+1)) d'.cells)∧(Api.setHeir y w (fx (d'.version+1)) d'.cells).version=_;have:=g.vb;rw[g.ver,lj (n:=d'.version+1) (by omega) (by omega)];exact⟨h.setHeir ⟨by omega,by omega⟩ g.cells,by unfold Api.setHeir;split<;>rfl⟩
 |k+1=>by
  obtain⟨a,b⟩:=RowS.inhTo h g w k;rw[lN,lN];unfold m6;have hb:=g.heirAt_bd ((k:Nat):Int);rw[g.heirAt,a.heirAt];split
  · rename_i q
    refine⟨a.setHeir ⟨by omega,hb.2⟩ λc hc=>?_,by rw[←b];unfold Api.setHeir;split<;>rfl⟩;unfold uK;split
    · exact g.left _ _ _ _
    · rw[xV c hc];exact .zero
  · exact⟨a,b⟩
theorem RowS.inherit{d d':RowT}(h:RowS n x y)(g:RowS n d d')(w:Int)(hv:y.version≤399):RowS n (cC x w d).1 (cC y w d').1:=by
 unfold cC;rw[h.heirAt];split
 · exact .zero
 split
 · exact .zero
 · obtain⟨a,b⟩:=h.inhTo g w 5
   have:=a.vb;have e:fx ((Api.inhTo y w d' 5).version+1)=(Api.inhTo y w d' 5).version+1:=lj (by omega) (by omega);exact⟨by show fx ((Api.inhTo x w d 5).version+1)=fx ((Api.inhTo y w d' 5).version+1);rw[a.ver],by show 0≤fx ((Api.inhTo y w d' 5).version+1)∧fx ((Api.inhTo y w d' 5).version+1)≤400;omega,a.cells,a.heir,a.hb,a.left,a.none⟩
theorem RowS.put(h:RowS n x y){key:Int}{c d:CellT}(hc:CellS n c d)(hv:y.version≤399):RowS n {eF x key c with version:=fx (x.version+1)} {eF y key d with version:=fx (y.version+1)}:=by
 have hb:=h.vb;have e:fx (y.version+1)=y.version+1:=lj (by omega) (by omega);refine⟨by show fx (x.version+1)=fx (y.version+1);rw[h.ver],by show 0≤fx (y.version+1)∧fx (y.version+1)≤400;omega,?_,?_,?_,?_,?_⟩
 · intro k hk
   show CellS n (eF x key c).cells[k] (eF y key d).cells[k];unfold eF;split
   · rename_i hq
     show CellS n (x.cells.set key.toNat c (uO hq))[k] (y.cells.set key.toNat d (uO hq))[k];simp only[Vector.getElem_set];split
     · exact hc
     · exact h.cells k hk
   · exact h.cells k hk
 · show(eF x key c).heir=(eF y key d).heir
   unfold eF;split<;>exact h.heir
 · show ∀(i:Nat) (_:i<5),(0:Int)≤(eF y key d).heir[i]∧(eF y key d).heir[i]≤(401:Int)
   unfold eF;split<;>exact h.hb
 · show ∀(i k:Nat) (_:i<5) (_:k<4),CellS n (eF x key c).left[i][k] (eF y key d).left[i][k]
   unfold eF;split<;>exact h.left
 · show ∀(i:Nat) (_:i<5),(eF y key d).heir[i]=(0:Int)→(eF x key c).left[i]=_∧(eF y key d).left[i]=_
   unfold eF;split<;>exact h.none
theorem Gd[Nn n]{N M:Int}(h:NumS n N M)(key:Int):tR key N=tR key M:=by
 have:=h.bd;unfold tR;rw[show Do N=true from decide_eq_true ⟨by omega,by omega⟩,show Do M=true from decide_eq_true ⟨by omega,by omega⟩];congr 2;exact decide_eq_decide.2 this.2.2.2.2
def Ki(y:RowT)(o:OpT):Bool:=M8 (if o.kind=0 then(cellAt y o.key).inn+o.n else if o.kind=1 then(cellAt y o.key).out+o.n else iB (cellAt y o.key) o.to'+o.n)&&decide (y.version≤399)
theorem uT{c d:CellT}(h:CellS n c d)(w:Int):NumS n (iB c w) (iB d w):=by unfold iB;split;exact h.given _ _;exact .zero
theorem Fx[Nn n](h:RowS n x y){key N M cu cv:Int}{c d:CellT}(hN:NumS n N M)(hq:cu≤40000∧cv≤40000)(hv:y.version≤399)(hc:CellS n c d):(jJ x key N cu c).2=0∧(jJ y key M cv d).2=0∧RowS n (jJ x key N cu c).1 (jJ y key M cv d).1∧(jJ y key M cv d).1.version=y.version+1:=by
 have:=hN.bd;have:=h.vb;unfold jJ;rw[if_neg (by omega),if_neg (by omega)];exact⟨rfl,rfl,h.put hc hv,by show fx (y.version+1)=_;exact lj (by omega) (by omega)⟩
theorem Lk[Nn n]{c d:CellT}(h:CellS n c d):sumG c≤40000∧sumG d≤40000:=by
 have g0:=(h.given 0 (by decide)).bd;have g1:=(h.given 1 (by decide)).bd;have g2:=(h.given 2 (by decide)).bd;have g3:=(h.given 3 (by decide)).bd;have g4:=(h.given 4 (by decide)).bd;rw[h.ok.1.sumG,h.ok.2.sumG];omega
theorem AY[Nn n]{u v N M:Int}(h:NumS n u v)(g:NumS n N M)(hs:M8 (v+M)=true):NumS n (fx (u+N)) (fx (v+M)):=by
 have h1:=h.bd;have h2:=g.bd;rw[lj (by omega) (by omega),lj (by omega) (by omega)];exact(h.lin.add g.lin).num (by decide) hs
theorem Kh[Nn n]{s t:RepT}(h:RowS n s.own t.own)(hid:s.id=t.id){o o':OpT}(hk:o.kind=o'.kind)(hkey:o.key=o'.key)(hto:o.to'=o'.to')(hN:NumS n o.n o'.n)(hg:Ki t.own o'=true):(fL s o).2=(fL t o').2∧((fL t o').2=0→RowS n (fL s o).1 (fL t o').1∧(fL t o').1.version=t.own.version+1):=by
 unfold Ki at hg;rw[an]at hg;obtain⟨gs,g4⟩:=hg;have g4:t.own.version≤399:=of_decide_eq_true g4;have hc:=h.cellAt o'.key;have b1:=hc.inn.bd;have b2:=hc.out.bd;have b3:=Lk hc;unfold fL;rw[hk,hkey,hto,hid]
 by_cases k0:o'.kind=0
 · rw[if_pos k0]at gs ⊢
   rw[if_pos k0];unfold pk;rw[Gd hN];split
   · obtain⟨a,b,c,d⟩:=Fx h (key:=o'.key) hN ⟨by omega,by omega⟩ g4 (c:= {cellAt s.own o'.key with inn:=fx ((cellAt s.own o'.key).inn+o.n)}) (d:= {cellAt t.own o'.key with inn:=fx ((cellAt t.own o'.key).inn+o'.n)}) (cu:=(cellAt s.own o'.key).inn) (cv:=(cellAt t.own o'.key).inn) ⟨AY hc.inn hN gs,hc.out,hc.given⟩
     exact⟨a.trans b.symm,λ_=>⟨c,d⟩⟩
   · exact⟨rfl,λe=>absurd e (by decide)⟩
 rw[if_neg k0]at gs;rw[if_neg k0,if_neg k0]
 by_cases k1:o'.kind=1
 · rw[if_pos k1]at gs ⊢
   rw[if_pos k1];unfold pm;rw[Gd hN];split
   · obtain⟨a,b,c,d⟩:=Fx h (key:=o'.key) hN ⟨by omega,by omega⟩ g4 (c:= {cellAt s.own o'.key with out:=fx ((cellAt s.own o'.key).out+o.n)}) (d:= {cellAt t.own o'.key with out:=fx ((cellAt t.own o'.key).out+o'.n)}) (cu:=(cellAt s.own o'.key).out) (cv:=(cellAt t.own o'.key).out) ⟨hc.inn,AY hc.out hN gs,hc.given⟩
     exact⟨a.trans b.symm,λ_=>⟨c,d⟩⟩
   · exact⟨rfl,λe=>absurd e (by decide)⟩
 rw[if_neg k1]at gs;rw[if_neg k1,if_neg k1];split
 · split
   · unfold lV
     rw[Gd hN];split
     · have gv:CellS n (qK (cellAt s.own o'.key) o'.to' (fx (iB (cellAt s.own o'.key) o'.to'+o.n))) (qK (cellAt t.own o'.key) o'.to' (fx (iB (cellAt t.own o'.key) o'.to'+o'.n))):=by
        have q:=AY (uT hc o'.to') hN gs;unfold qK;split
        · rename_i hw
          refine⟨hc.inn,hc.out,λj hj=>?_⟩;show NumS n ((cellAt s.own o'.key).given.set o'.to'.toNat _ (cS hw))[j] ((cellAt t.own o'.key).given.set o'.to'.toNat _ (cS hw))[j];simp only[Vector.getElem_set];split
          · exact q
          · exact hc.given j hj
        · exact hc
       obtain⟨a,b,c,d⟩:=Fx h (key:=o'.key) hN b3 g4 gv;exact⟨a.trans b.symm,λ_=>⟨c,d⟩⟩
     · exact⟨rfl,λe=>absurd e (by decide)⟩
   · exact⟨rfl,λe=>absurd e (by decide)⟩
 · exact⟨rfl,λe=>absurd e (by decide)⟩
end
def BookS(n:Int)(b c:BookT):Prop:=∀(i:Nat) (_:i<5),RowS n b.rows[i] c.rows[i]
section
variable {n:Int} {b c:BookT}
theorem BookS.row(h:BookS n b c)(w:Int):RowS n (cj b w) (cj c w):=by unfold cj;split;exact h _ _;exact .zero
theorem BookS.zero:BookS n .zero .zero:=λi hi=>by
 match i,hi with|0,_|1,_|2,_|3,_|4,_=>exact RowS.zero
theorem BookS.merge[Nn n](h:BookS n b c)(w:Int){x y:RowT}(hx:RowS n x y):BookS n (eU b w x).1 (eU c w y).1:=by
 unfold eU;rw[hx.right.1,hx.right.2,hx.ver,(h.row w).ver];split
 · unfold xk
   split
   · rename_i hw
     intro i hi;show RowS n (b.rows.set w.toNat x (cS hw))[i] (c.rows.set w.toNat y (cS hw))[i];simp only[Vector.getElem_set];split
     · exact hx
     · exact h i hi
   · exact h
 · exact h
theorem BookS.to(h:BookS n b c)(of' key:Int): ∀k,CellS n (pJ b of' key k).1 (pJ c of' key k).1∧(pJ b of' key k).2=(pJ c of' key k).2
 |0=>⟨.zero,rfl⟩
 |k+1=>by
  obtain⟨a,e⟩:=BookS.to h of' key k;obtain⟨a2,e2⟩:=(h.row ((k:Nat):Int)).rowCell ((k:Nat):Int) of' key;rw[og,og];unfold qQ;simp only;rw[e,e2];split
  · exact⟨a2,e2⟩
  · exact⟨a,e⟩
theorem BookS.cell(h:BookS n b c)(of' key:Int):CellS n (cE b of' key) (cE c of' key):=(h.to of' key 5).1
theorem BookS.net[Nn n](h:BookS n b c)(i key:Int):LinS n 6 (fx ((cE b i key).inn- (cE b i key).out)) (fx ((cE c i key).inn- (cE c i key).out)):=((h.cell i key).inn.lin.sub (h.cell i key).out.lin).w (by decide)
theorem BookS.valueTo[Nn n](h:BookS n b c)(key:Int): ∀k:Nat,k≤5→LinS n (6* ((k:Nat):Int)) (valueTo b key k) (valueTo c key k)
 |0,_=>⟨0,0,⟨by decide,by decide⟩,⟨by decide,by decide⟩,by show(0:Int)=0*n+0;omega,rfl⟩
 |k+1,hk=>by
  rw[pd,pd];exact(((BookS.valueTo h key k (by omega)).add (h.net ((k:Nat):Int) key)).w (by omega)).more (by omega)
theorem BookS.rightsIn[Nn n](h:BookS n b c)(key of':Int){r q m:Int}(hr:LinS n m r q)(hm:m≤800): ∀k:Nat,k≤5→LinS n (m+6* ((k:Nat):Int)) (rightsIn b key of' r k) (rightsIn c key of' q k)
 |0,_=>hr.more (by omega)
 |k+1,hk=>by
  rw[ox,ox];have g:=((uT (h.cell ((k:Nat):Int) key) of').lin.sub (uT (h.cell of' key) ((k:Nat):Int)).lin).w (by decide);exact(((BookS.rightsIn h key of' hr hm k (by omega)).add g).w (by omega)).more (by omega)
theorem Jt{x y:RowT}(h:RowS n x y)(who:Int):fX x who=fX y who:=by unfold fX iM ownAt;rw[h.heir]
theorem BookS.rights[Nn n](h:BookS n b c)(who key:Int):LinS n 180 (dG b who key) (dG c who key):=by
 have z:LinS n 0 0 0:=⟨0,0,⟨by decide,by decide⟩,⟨by decide,by decide⟩,by omega,rfl⟩;unfold dG;split
 · rw[Jt (h.row who)]
   have hl:(fX (cj c who) who).length≤5:=zK _ _ 5
   have: ∀(l:List Int) (r q m:Int),LinS n m r q→m+36* ((l.length:Nat):Int)≤180→LinS n (m+36* ((l.length:Nat):Int)) (l.foldl (lL b key) r) (l.foldl (lL c key) q):=λl=>by
    induction l with
    |nil=>intro r q m hr _;exact hr.more (by simp)
    |cons i l ih=>
     intro r q m hr hm;simp only[ax]at hm ⊢;rw[List.foldl_cons,List.foldl_cons];have s1:=(hr.add (h.net i key)).w (by omega);have s2:=h.rightsIn key i s1 (by omega) 5 (aH _);exact(ih _ _ (m+36) (s2.more (by omega)) (by omega)).more (by omega)
   exact(this _ 0 0 0 z (by omega)).more (by omega)
 · exact z.more (by decide)
end
inductive MsgS(n:Int):MsgT→MsgT→Prop
 |row (w:Int) {x y:RowT} (h:RowS n x y):MsgS n {MsgT.zero with kind:=0,whose:=w,row:=x} {MsgT.zero with kind:=0,whose:=w,row:=y}
 |kept (v:Int):MsgS n (pB v) (pB v)
 |news (w:Int) {x y:RowT} (h:RowS n x y):MsgS n (pu w x) (pu w y)
 |view (v:ViewT):MsgS n (jp v) (jp v)
 |seal' (w:Int) (v:ViewT):MsgS n (mX w v) (mX w v)
 |sealed' (w:Int) {x y:RowT} (h:RowS n x y):MsgS n (eR w x) (eR w y)
 |ask (e:Int) (b:BallotT):MsgS n (fI e b) (fI e b)
 |prom (e:Int) (b d:BallotT) (c:ChangeT):MsgS n (j0 e b d c) (j0 e b d c)
 |put (e:Int) (b:BallotT) (c:ChangeT):MsgS n (iO e b c) (iO e b c)
 |taken (e:Int) (b:BallotT):MsgS n (jc e b) (jc e b)
structure MsgF(n:Int)(m q:MsgT):Prop where
 kind:m.kind=q.kind
 whose:m.whose=q.whose
 row:RowS n m.row q.row
 version:m.version=q.version
 epoch:m.epoch=q.epoch
 ballot:m.ballot=q.ballot
 had:m.had=q.had
 change:m.change=q.change
 view:m.view=q.view
theorem MsgS.f{n:Int}{m q:MsgT}(h:MsgS n m q):MsgF n m q:=by
 cases h with
 |row w h=>exact⟨rfl,rfl,h,rfl,rfl,rfl,rfl,rfl,rfl⟩
 |news w h=>exact⟨rfl,rfl,h,rfl,rfl,rfl,rfl,rfl,rfl⟩
 |sealed' w h=>exact⟨rfl,rfl,h,rfl,rfl,rfl,rfl,rfl,rfl⟩
 |_=>exact⟨rfl,rfl, .zero,rfl,rfl,rfl,rfl,rfl,rfl⟩
def N3(k:Int):Bool:=decide (0≤k∧k≤1000000)
def wB(w:Int):Bool:=decide (0≤w∧w<5)
def IL(m:MsgT):Bool:=wB m.whose&&N3 m.version&&N3 m.epoch&&(N3 m.ballot.round&&wB m.ballot.who)&&(N3 m.had.round&&wB m.had.who)&&(decide (0≤m.change.kind∧m.change.kind<2)&&wB m.change.who&&wB m.change.heir)&&(N3 m.view.epoch&&decide (0≤m.view.members∧m.view.members<32)&&m.view.heirs.toList.all λh=>decide (0≤h∧h<6))&&(!(decide (m.kind=7)||decide (m.kind=8))||jB m.view)
structure ChkM(m:MsgT):Prop where
 whose:0≤m.whose∧m.whose<5
 version:Nm m.version
 epoch:Nm m.epoch
 ballot:OkB m.ballot
 had:OkB m.had
 change:OkC m.change
 view:OkV m.view
 right:m.kind=7∨m.kind=8→jB m.view=true
theorem Dr{k:Int}(h:N3 k=true):Nm k:=by
 have h:0≤k∧k≤1000000:=of_decide_eq_true h;exact⟨by omega,by omega⟩
theorem Jd{w:Int}(h:wB w=true):0≤w∧w<5:=of_decide_eq_true h
theorem Mn{m:MsgT}(h:IL m=true):ChkM m:=by
 unfold IL at h;simp only[an,List.all_eq_true]at h;obtain⟨⟨⟨⟨⟨⟨⟨h1,h2⟩,h3⟩,h4,h5⟩,h6,h7⟩,⟨h8,h9⟩,h10⟩,⟨h11,h12⟩,h13⟩,h14⟩:=h;refine⟨Jd h1,Dr h2,Dr h3,⟨Dr h4,Jd h5⟩,⟨Dr h6,Jd h7⟩,⟨of_decide_eq_true h8,Jd h9,Jd h10⟩,⟨Dr h11,of_decide_eq_true h12,λi hi=>of_decide_eq_true (h13 _ (Bq m.view.heirs i hi))⟩,λq=>?_⟩;rw[rr]at h14;rcases h14 with h|h
 · rcases q with q|q<;>simp[q]at h
 · exact h
theorem ChkM.of{n:Int}{m q:MsgT}(h:ChkM q)(f:MsgF n m q):ChkM m:=⟨by rw[f.whose];exact h.whose,by rw[f.version];exact h.version,by rw[f.epoch];exact h.epoch,by rw[f.ballot];exact h.ballot,by rw[f.had];exact h.had,by rw[f.change];exact h.change,by rw[f.view];exact h.view,by rw[f.kind,f.view];exact h.right⟩
theorem MsgS.dec{n:Int}[Nn n]{m q:MsgT}(h:MsgS n m q)(c:IL q=true):ju (cQ m)=(m,0):=by
 have c:=(Mn c).of h.f;have t:=h.f.row.tame;have r:=h.f.row.right.1
 have hk:0≤m.kind∧m.kind<10:=by
  have k: ∀k:Int,decide (0≤k∧k<10)=true→m.kind=k→0≤m.kind∧m.kind<10:=λk d e=>by rw[e];exact of_decide_eq_true d
  cases h with
  |row=>exact k 0 rfl rfl
  |kept=>exact k 1 rfl rfl
  |news=>exact k 2 rfl rfl
  |ask=>exact k 3 rfl rfl
  |prom=>exact k 4 rfl rfl
  |put=>exact k 5 rfl rfl
  |taken=>exact k 6 rfl rfl
  |view=>exact k 7 rfl rfl
  |seal'=>exact k 8 rfl rfl
  |sealed'=>exact k 9 rfl rfl
 have ok:OkM m:=⟨hk,c.whose,t,c.version,c.epoch,c.ballot,c.had,c.change,c.view⟩
 have om:EA m=true:=by
  unfold EA;split
  · exact r
  split
  · exact c.right (by assumption)
  · rfl
 have nm:tu m=m:=by cases h<;>rfl
 have:=Ks ok om
 rwa [nm]at this
abbrev LL:Type:=List (List UInt8)
def KL:Dk LL:=⟨λe b=>(e++[b],0),λ_=>false,λ_=>True,λ_ _ _ _=>trivial⟩
theorem kA(l:LL)(b:List UInt8):(l++[b]).length=l.length+1:=by simp
inductive ByS(n:Int):List UInt8→List UInt8→Prop
 |same (r:RecT) (h:2≤r.kind∧r.kind<6):ByS n (eO r) (eO r)
 |row {x y:RowT} (h:RowS n x y):ByS n (eO (e8 x)) (eO (e8 y))
 |mir {w:Int} (hw:0≤w∧w<5) {x y:RowT} (h:RowS n x y):ByS n (eO (gz w x)) (eO (gz w y))
inductive BysS(n:Int):LL→LL→Prop
 |nil:BysS n [] []
 |cons {b c:List UInt8} {l k:LL}:ByS n b c→BysS n l k→BysS n (b::l) (c::k)
theorem BysS.snoc{n:Int}{l k:LL}(h:BysS n l k){b c:List UInt8}(hb:ByS n b c):BysS n (l++[b]) (k++[c]):=by
 induction h with
 |nil=>exact .cons hb .nil
 |cons g _ ih=>exact .cons g ih
structure RoomE(n:Int)(e:LD)(k:LL):Prop where
 dn:e.D.dn=false
 ar:e.D.ar=false
 log: ∃ls,LogD e.D ls∧e.cnt=ls.length∧e.used=((fe ls:Nat):Int)∧fe ls≤58*k.length∧BysS n ls k
theorem RoomE.put{n:Int}{e:LD}{k:LL}(h:RoomE n e k)(hk:k.length+1≤34){bs cs:List UInt8}(hb:bs.length≤3000)(hc:ByS n bs cs):(e.put bs).2=0∧RoomE n (e.put bs).1 (k++[cs]):=by
 obtain⟨ls,hl,hcn,hu,hs,hby⟩:=h.log;have hp:=po hb
 have eq:e.put bs=(⟨(l6 e.D ls.length ((fe ls:Nat):Int) bs).cnt,(l6 e.D ls.length ((fe ls:Nat):Int) bs).used,(l6 e.D ls.length ((fe ls:Nat):Int) bs).D⟩,(l6 e.D ls.length ((fe ls:Nat):Int) bs).err):=by
  unfold LD.put;rw[hcn,hu]
 rcases Jz hl h.dn hb with⟨q,_⟩| ⟨_,D',r,l,d,a⟩| ⟨q,_⟩
 · omega
 · rw[eq,r]
   refine⟨rfl,d,a.trans h.ar,ls++[bs],l,by simp,rfl,?_,hby.snoc hc⟩;rw[zi,kA];omega
 · rw[h.ar]at q;cases q
inductive SaidS(n:Int):List SaidT→List SaidT→Prop
 |nil:SaidS n [] []
 |cons {t:Int} {m q:MsgT} {l k:List SaidT}:MsgS n m q→SaidS n l k→SaidS n (⟨t,m⟩::l) (⟨t,q⟩::k)
theorem SaidS.append{n:Int}{l k l' k':List SaidT}(h:SaidS n l k)(g:SaidS n l' k'):SaidS n (l++l') (k++k'):=by
 induction h with
 |nil=>exact g
 |cons m _ ih=>exact .cons m ih
theorem SaidS.map{n:Int}{m q:MsgT}(h:MsgS n m q): ∀l:List Int,SaidS n (l.map λi=>⟨i,m⟩) (l.map λi=>⟨i,q⟩)
 | []=> .nil
 |_::l=> .cons h (SaidS.map h l)
theorem SaidS.oth{n:Int}{m q:MsgT}(h:MsgS n m q)(id:Int)(p:Nat→Bool)(k:Nat):SaidS n (nF id m p k) (nF id q p k):=by
 unfold nF;generalize (List.range k).filter _=l
 induction l with
 |nil=>exact .nil
 |cons i l ih=>exact .cons h ih
structure Rl(n:Int)(s:MS LD)(t:MS LL):Prop where
 id:s.id=t.id
 view:s.view=t.view
 own:RowS n s.own t.own
 mir: ∀(i:Nat) (_:i<5),RowS n s.mirror.rows[i] t.mirror.rows[i]
 shut:s.mirror.sealed=t.mirror.sealed
 acc:s.acc=t.acc
 round:s.round=t.round
 vote:s.vote=t.vote
 book:BookS n s.book t.book
 busy:s.busy=t.busy
 kept:s.kept=t.kept
 waits:s.waits=t.waits
 ops:s.ops=t.ops
 replies:s.replies=t.replies
 told:s.told=t.told
 last: ∀(i:Nat) (_:i<5),RowS n s.last[i] t.last[i]
 ver:t.own.version≤10* ((t.e.length:Nat):Int)
 e:RoomE n s.e t.e
 o:SaidS n s.o t.o
class Mo(k:Nat)(t:MS LL):Prop where
 le:k≤t.e.length
class Sm(n:Int)(s:MS LD)(t:MS LL):Prop where
 h:t.e.length≤34→Rl n s t
section
variable {k:Nat} {t:MS LL}
instance :Mo t.e.length t:=⟨aH _⟩
instance [h:Mo k t](l:List SaidT):Mo k (iG KL t l):=⟨h.le⟩
instance [h:Mo k t](w:Int)(m:MsgT):Mo k (yt KL t w m):=⟨h.le⟩
instance [h:Mo k t](r:RecT):Mo k (dL KL t r):=⟨by show k≤(t.e++[eO r]).length;rw[kA];exact Nat.le_succ_of_le h.le⟩
instance [h:Mo k t](a b c:Int):Mo k (dp t a b c):=⟨h.le⟩
instance [h:Mo k t]:Mo k (eV KL t):=⟨h.le⟩
instance [h:Mo k t](y:RowT):Mo k (jW KL t y):=⟨h.le⟩
instance [h:Mo k t](v:ViewT):Mo k (kU KL t v):=⟨h.le⟩
instance [h:Mo k t](m:MsgT):Mo k (iR KL t m):=⟨h.le⟩
instance [h:Mo k t](x:RowT)(op:Int):Mo k (pS t x op):=⟨h.le⟩
instance [h:Mo k t]:Mo k (gO t):=⟨h.le⟩
instance [h:Mo k t]:Mo k (li t):=⟨h.le⟩
instance [h:Mo k t](f:Int):Mo k (keptM t f):=⟨h.le⟩
instance [h:Mo k t](w:Int)(y:RowT):Mo k (xZ t w y):=⟨h.le⟩
instance [h:Mo k t](w:Int)(y:RowT):Mo k (gN t w y):=⟨h.le⟩
instance [h:Mo k t](f w:Int)(y:RowT):Mo k (toldS t f w y):=⟨h.le⟩
instance [h:Mo k t](w:Int):Mo k (kQ t w):=⟨h.le⟩
instance [h:Mo k t](v:ViewT):Mo k (lA t v):=⟨h.le⟩
instance [h:Mo k t](a:Int):Mo k (dx t a):=⟨h.le⟩
instance [h:Mo k t](v:VoteT):Mo k (kS t v):=⟨h.le⟩
instance [h:Mo k t](a:AccT):Mo k (tT t a):=⟨h.le⟩
instance [h:Mo k t]:Mo k (opsS t):=⟨h.le⟩
instance [Mo k t](x:RowT)(op:Int):Mo k (dD KL t x op).1:=by unfold dD;split<;>exact inferInstance
instance [h:Mo k t]:Mo k (kW KL t):=by
 unfold kW
 repeat' split
 all_goals first|exact h|exact inferInstance
instance [h:Mo k t](f:Int)(m:MsgT):Mo k (dh KL t f m):=by
 unfold dh kC
 repeat' split
 all_goals first|exact h|exact inferInstance
instance [h:Mo k t](f:Int)(m:MsgT):Mo k (gD KL t f m):=by
 unfold gD
 repeat' split
 all_goals first|exact h|exact inferInstance
instance [Mo k t](f:Int)(m:MsgT):Mo k (dw KL t f m):=by unfold dw;split<;>exact inferInstance
theorem lZ[Mo k t]{f:MS LL→MS LL}(hf:Mo k (f t))(w:Int)(m:MsgT):Mo k (kr KL f t w m):=by unfold kr;split;exact hf;exact inferInstance
instance [h:Mo k t](f w:Int):Mo k (eu KL t f w):=by
 unfold eu
 repeat' split
 · exact h
 · exact lZ inferInstance _ _
 · exact inferInstance
 · exact lZ inferInstance _ _
instance [h:Mo k t](i w:Int):Mo k (gA KL t i w):=by
 unfold gA;split
 · exact h
 · exact lZ inferInstance _ _
instance [Mo k t](i:Int):Mo k (lP KL t i):=by unfold lP;exact inferInstance
theorem Am: ∀(l:List Int) (t:MS LL),Mo k t→Mo k (fY KL l t)
 | [],_,h=>h
 |i::l,t,_=>Am l (lP KL t i) inferInstance
instance [h:Mo k t]:Mo k (nN KL t):=Am _ _ h
instance [h:Mo k t](v:ViewT):Mo k (gl KL t v):=by
 unfold gl
 repeat' split
 all_goals first|exact h|exact inferInstance
instance [Mo k t](f:Int)(m:MsgT):Mo k (iD KL t f m):=by unfold iD;exact inferInstance
instance [h:Mo k t](c:ChangeT):Mo k (iX KL t c):=by
 unfold iX
 repeat' split
 all_goals first|exact h|exact inferInstance
instance [h:Mo k t](f:Int)(m:MsgT):Mo k (kc KL f m t):=by
 unfold kc
 repeat' split
 all_goals first|exact h|exact inferInstance
theorem qk[h:Mo k t]{f:MS LL→MS LL}(hf: ∀t:MS LL,Mo k t→Mo k (f t))(w:Int)(m:MsgT):Mo k (el KL f t w m):=by
 unfold el
 repeat' split
 · exact inferInstance
 · exact h
 · exact h
 · exact hf _ inferInstance
instance [Mo k t](w:Int)(m:MsgT):Mo k (mA KL t w m):=qk (λ_ _=>inferInstance) w m
instance [Mo k t](w:Int)(m:MsgT):Mo k (jC KL w m t):=by unfold jC;exact lZ inferInstance _ _
instance [h:Mo k t](w:Int)(m:MsgT):Mo k (l4 KL w m t):=by
 unfold l4
 repeat' split
 all_goals first|exact h|exact inferInstance
instance [Mo k t](w:Int)(m:MsgT):Mo k (nu KL t w m):=qk (λ_ _=>inferInstance) w m
theorem qF[Mo k t]{f:MS LL→MsgT→MS LL}{m:MsgT}(hf: ∀t:MS LL,Mo k t→Mo k (f t m)):Mo k (gW KL f t m):=by
 unfold gW;split
 · exact hf _ inferInstance
 · exact inferInstance
instance [Mo k t](vt:VoteT):Mo k (iH KL t vt):=qF λ_ _=>inferInstance
instance [h:Mo k t](f:Int)(m:MsgT):Mo k (nX KL f m t):=by
 unfold nX
 repeat' split
 all_goals first|exact h|exact inferInstance
instance [Mo k t](w:Int)(m:MsgT):Mo k (mB KL t w m):=qk (λ_ _=>inferInstance) w m
instance [Mo k t](w:Int)(m:MsgT)(a:AccT):Mo k (jS KL w m a t):=by unfold jS;exact lZ inferInstance _ _
instance [h:Mo k t](w:Int)(m:MsgT):Mo k (mR KL w m t):=by
 unfold mR
 repeat' split
 all_goals first|exact h|exact inferInstance
instance [Mo k t](w:Int)(m:MsgT):Mo k (nv KL t w m):=qk (λ_ _=>inferInstance) w m
instance [Mo k t](vt:VoteT):Mo k (jE KL t vt):=qF λ_ _=>inferInstance
instance [Mo k t](vt:VoteT):Mo k (lw KL t vt):=by unfold lw;split<;>exact inferInstance
instance [Mo k t](c:ChangeT):Mo k (mG KL t c):=by unfold mG;exact inferInstance
instance [h:Mo k t](c:ChangeT):Mo k (bF KL t c).1:=by
 unfold bF
 repeat' split
 all_goals first|exact h|exact inferInstance
instance [Mo k t](op:Int)(c:ChangeT):Mo k (dm KL t op c).1:=by
 unfold dm
 repeat' split
 all_goals exact inferInstance
instance [Mo k t](o:OpT):Mo k (bv KL t o).1:=by
 unfold bv ld
 repeat' split
 all_goals exact inferInstance
instance [h:Mo k t]:Mo k (bG KL t):=by unfold bG;split<;>exact inferInstance
instance [h:Mo k t]:Mo k (bQ KL t):=by unfold bQ;split;exact inferInstance;exact h
instance [h:Mo k t]:Mo k (fz KL t):=by unfold fz;split;exact inferInstance;exact h
instance [h:Mo k t]:Mo k (pM KL t):=by
 unfold pM
 repeat' split
 all_goals first|exact h|exact inferInstance
instance [h:Mo k t]:Mo k (gU KL t):=by unfold gU;split<;>exact inferInstance
instance [h:Mo k t](f:Int)(m:MsgT):Mo k (fQ KL t f m):=by
 unfold fQ
 repeat' split
 all_goals first|exact h|exact inferInstance
end
section
variable {n:Int} {s:MS LD} {t:MS LL}
theorem Sm.of{s':MS LD}{t':MS LL}(h0:Sm n s t)(m:Mo t.e.length t')(h:Rl n s t→Sm n s' t'):Sm n s' t':=⟨λhb=>(h (h0.h (jT m.le hb))).h hb⟩
theorem Rl.sm(h:Rl n s t):Sm n s t:=⟨λ_=>h⟩
theorem Rl.mirRow(h:Rl n s t)(w:Int):RowS n (mirRow s.mirror w) (mirRow t.mirror w):=by unfold Api.mirRow;split;exact h.mir _ _;exact .zero
theorem Rl.lastAt(h:Rl n s t)(w:Int):RowS n (lastAt s w) (lastAt t w):=by unfold Api.lastAt;split;exact h.last _ _;exact .zero
theorem Rl.sealed'(h:Rl n s t)(w:Int):eS s.mirror w=eS t.mirror w:=by unfold eS;rw[h.shut]
theorem Rl.tells(h:Rl n s t)(i w:Int):qo s i w=qo t i w:=by unfold qo kj;rw[h.told]
theorem Rl.due(h:Rl n s t):bu s=bu t:=by
 unfold bu iu Bx;rw[h.view,h.id];congr 1;refine List.filter_congr λi _=>?_
 rw[h.own.heirAt]
theorem Rl.toldAll(h:Rl n s t):toldAll s=toldAll t:=by
 unfold Api.toldAll;rw[h.due];congr 1
 funext i
 congr 1
 funext w
 exact h.tells i w
theorem Rl.say(h:Rl n s t){l k:List SaidT}(hl:SaidS n l k):Rl n (iG KD s l) (iG KL t k):=
 {h with
  o:=by
   show SaidS n (if KD.dn s.e=true then s.o else s.o++l) (if KL.dn t.e=true then t.o else t.o++k);rw[if_neg (show ¬KD.dn s.e=true by rw[show KD.dn s.e=s.e.D.dn from rfl,h.e.dn];decide),if_neg (show ¬KL.dn t.e=true by show ¬(false=true);decide)]
   exact h.o.append hl}
theorem wR(g:Sm n s t){l k:List SaidT}(hl:Rl n s t→SaidS n l k):Sm n (iG KD s l) (iG KL t k):=⟨λhb=>(g.h hb).say (hl (g.h hb))⟩
theorem wi(g:Sm n s t)(w:Int){m q:MsgT}(hm:Rl n s t→MsgS n m q):Sm n (yt KD s w m) (yt KL t w q):=wR g λr=> .cons (hm r) .nil
theorem wh(g:Sm n s t){f:MS LD→MS LD}{f':MS LL→MS LL}(hf:Sm n (f s) (f' t))(mo:Mo t.e.length (f' t))(w:Int){m q:MsgT}(hm:Rl n s t→MsgS n m q):Sm n (kr KD f s w m) (kr KL f' t w q):=g.of (lZ mo w q) λr=>by
 unfold kr;rw[r.id];split
 · exact hf
 · exact wi g w hm
theorem Rl.putR(h:Rl n s t)(hb:t.e.length+1≤34){r r':RecT}(hr:ByS n (eO r) (eO r')):Rl n (dL KD s r) (dL KL t r')∧l7 KD s r=0:=by
 obtain⟨a,b⟩:=h.e.put hb (xN r) hr;exact⟨{h with e:=b,ver:=by show t.own.version≤10* ((((t.e++[eO r']).length:Nat)):Int);rw[kA];have:=h.ver;omega},a⟩
theorem wT(g:Sm n s t){r r':RecT}(hr:ByS n (eO r) (eO r')){A B:MS LD}{A' B':MS LL}(mo:Mo (t.e.length+1) B')(h:Sm n (dL KD s r) (dL KL t r')→Sm n B B'):Sm n (if l7 KD s r≠0 then A else B) (if l7 KL t r'≠0 then A' else B'):=⟨λhb=>by
 rw[if_neg (show ¬l7 KL t r'≠0 from λz=>z rfl)]at hb ⊢;have hb2:t.e.length+1≤34:=jT mo.le hb;obtain⟨a,b⟩:=(g.h (by omega)).putR hb2 hr;rw[if_neg (λz=>z b)]
 exact(h a.sm).h hb⟩
instance (r:RecT):Mo (t.e.length+1) (dL KL t r):=⟨by show _≤(t.e++[eO r]).length;rw[kA];exact aH _⟩
theorem sW(g:Sm n s t){a a' b b' c c':Int}(e:Rl n s t→a=a'∧b=b'∧c=c'):Sm n (dp s a b c) (dp t a' b' c'):=⟨λhb=>by
 have h:=g.h hb;obtain⟨rfl,rfl,rfl⟩:=e h
 exact {h with replies:=by show s.replies++_=t.replies++_;rw[h.replies]}⟩
theorem Rl.tellRow[Nn n](h:Rl n s t):SaidS n (oa (s.rep .nil)) (oa (t.rep .nil)):=by
 unfold oa
 have e:(λw:Int=>uY (s.rep .nil).kept w)= λw=>uY (t.rep .nil).kept w:=by
  funext w
  show uY s.kept w=uY t.kept w;rw[h.kept]
 rw[show(s.rep .nil).id=(t.rep .nil).id from h.id,e];refine SaidS.map ?_ _;show MsgS n {MsgT.zero with kind:=0,whose:=s.id,row:=s.own} {MsgT.zero with kind:=0,whose:=t.id,row:=t.own};rw[h.id];exact .row _ h.own
theorem wQ[Nn n](g:Sm n s t):Sm n (eV KD s) (eV KL t):=wR g λr=>r.tellRow
theorem Gr(g:Sm n s t){x y:RowT}(hx:Rl n s t→RowS n x y):Sm n (jW KD s x) (jW KL t y):=wR g λr=>by
 rw[r.id];exact SaidS.oth (.news _ (hx r)) _ _ _
theorem Gn(g:Sm n s t)(v:ViewT):Sm n (kU KD s v) (kU KL t v):=wR g λr=>by
 rw[r.id];exact SaidS.oth (.view v) _ _ _
theorem Gs[Nn n](g:Sm n s t){x y:RowT}(hx:Rl n s t→t.e.length+1≤34→RowS n x y∧y.version≤t.own.version+5)(op op':Int)(ho:Rl n s t→op=op'):Sm n (dD KD s x op).1 (dD KL t y op').1∧(Rl n s t→t.e.length+1≤34→(dD KD s x op).2=0):=by
 have key:Rl n s t→t.e.length+1≤34→Rl n (pS (dL KD s (e8 x)) x op) (pS (dL KL t (e8 y)) y op')∧l7 KD s (e8 x)=0:=λr hb=>by
  obtain⟨h1,h2⟩:=hx r hb;obtain⟨a,b⟩:=r.putR hb (.row h1);refine⟨{a with own:=h1,busy:=rfl,kept:=rfl,waits:=ho r,ver:=?_},b⟩;show y.version≤10* ((((t.e++[eO (e8 y)]).length:Nat)):Int);rw[kA];have:=r.ver;omega
 have eN:dD KL t y op'=(eV KL (pS (dL KL t (e8 y)) y op'),0):=by unfold dD;rw[if_neg (show ¬l7 KL t (e8 y)≠0 from λz=>z rfl)]
 refine⟨⟨λhb=>?_⟩,λr hb=>?_⟩
 · rw[eN]at hb ⊢
   have hb:(t.e++[eO (e8 y)]).length≤34:=hb;rw[kA]at hb;have r:=g.h (by omega);obtain⟨a,b⟩:=key r hb;unfold dD;rw[if_neg (λz=>z b)];exact(wQ a.sm).h (by show(t.e++[eO (e8 y)]).length≤34;rw[kA];exact hb)
 · unfold dD
   rw[if_neg (λz=>z (key r hb).2)]
theorem Kf[Nn n](r:Rl n s t)(hb:t.e.length≤33):RowS n (mE s (bu t)) (mE t (bu t))∧(mE t (bu t)).version≤t.own.version+5:=by
 have hl:(bu t).length≤5:=Ah t 5;have hm: ∀i∈bu t,cI i=true:=λi hi=>(tL hi).1
 have hv:=r.ver;have h0:=r.own.vb;unfold mE
 have: ∀(l:List Int) (x y:RowT),RowS n x y→y.version+((l.length:Nat):Int)≤390→RowS n (l.foldl (λx i=>if 0<heirAt x i then x else(cC x i (lastAt s i)).1) x) (l.foldl (λx i=>if 0<heirAt x i then x else(cC x i (lastAt t i)).1) y)∧(l.foldl (λx i=>if 0<heirAt x i then x else(cC x i (lastAt t i)).1) y).version≤max y.version 0+((l.length:Nat):Int):=λl=>by
  induction l with
  |nil=>intro x y h _;exact⟨h,by simp only[List.foldl_nil,aB];omega⟩
  |cons i l ih=>
   intro x y h hy;simp only[ax]at hy ⊢;rw[List.foldl_cons,List.foldl_cons,h.heirAt];have hy0:=h.vb
   by_cases q:0<heirAt y i
   · rw[if_pos q,if_pos q]
     obtain⟨a,b⟩:=ih x y h (by omega);exact⟨a,by omega⟩
   · rw[if_neg q,if_neg q]
     have g:=h.inherit (r.lastAt i) i (by omega)
     have gv:(cC y i (lastAt t i)).1.version≤y.version+1:=by
      unfold cC;rw[if_neg q];split
      · show(0:Int)≤_;omega
      · obtain⟨a,b⟩:=h.inhTo (r.lastAt i) i 5
        show fx ((inhTo y i (lastAt t i) 5).version+1)≤_;rw[b,lj (by omega) (by omega)];exact Int.le_refl _
     obtain⟨a,b⟩:=ih _ _ g (by omega);exact⟨a,by omega⟩
 obtain⟨a,b⟩:=this (bu t) s.own t.own r.own (by omega);exact⟨a,by omega⟩
theorem wj[Nn n](g:Sm n s t):Sm n (kW KD s) (kW KL t):=g.of inferInstance λr=>by
 unfold kW;rw[r.busy,r.due,r.toldAll];split
 · exact g
 split
 · exact(Gs g (λr hb=>Kf r (by omega)) 0 0 λ_=>rfl).1
 · exact g
theorem Rl.bookM[Nn n](h:Rl n s t)(w:Int){x y:RowT}(hx:RowS n x y):Rl n (xZ s w x) (xZ t w y):= {h with book:=h.book.merge w hx}
theorem Rl.count[Nn n](h:Rl n s t):Rl n (gO s) (gO t):= {h with
 busy:=rfl
 book:=by
  show BookS n (eU s.book s.id s.own).1 (eU t.book t.id t.own).1;rw[h.id]
  exact h.book.merge _ h.own}
theorem Rl.wait(h:Rl n s t):Rl n (li s) (li t):= {h with
 replies:=by
  show(if 0<s.waits then s.replies++[⟨s.waits,0,0⟩]else s.replies)=(if 0<t.waits then t.replies++[⟨t.waits,0,0⟩]else t.replies);rw[h.waits,h.replies]
 waits:=by
  show(if 0<s.waits then 0 else s.waits)=(if 0<t.waits then 0 else t.waits)
  rw[h.waits]}
theorem Rl.keptM(h:Rl n s t)(f:Int):Rl n (keptM s f) (keptM t f):= {h with
 kept:=by
  show iP .i64 s.kept (cN f)=iP .i64 t.kept (cN f)
  rw[h.kept]}
theorem Lq[Nn n](g:Sm n s t)(f:Int){m q:MsgT}(hm:MsgF n m q):Sm n (dh KD s f m) (dh KL t f q):=g.of inferInstance λr=>by
 unfold dh;have e1:kl s f m.version=kl t f q.version:=by unfold kl;rw[r.busy,hm.version,r.own.ver,r.id]
 have e2:rD (keptM s f)=rD (keptM t f):=by
  unfold rD;rw[show(keptM s f).id=(keptM t f).id from r.id,(r.keptM f).kept]
 rw[e1,e2];split
 · split
   · have a:=(r.keptM f).count.wait
     unfold kC;refine wj (Gr a.sm λ_=>?_);exact r.own
   · exact(r.keptM f).sm
 · exact g
theorem Rl.mirror[Nn n](h:Rl n s t)(w:Int){x y:RowT}(hx:RowS n x y)(e:gX s.mirror w x=gX t.mirror w y):Rl n (gN s w x) (gN t w y):= {h with
 mir:=by
  show ∀(i:Nat) (_:i<5),RowS n (iz s.mirror w x).1.rows[i] (iz t.mirror w y).1.rows[i];unfold iz;rw[e];split
  · unfold sc
    split
    · rename_i hw
      intro i hi;show RowS n (s.mirror.rows.set w.toNat x (cS hw))[i] (t.mirror.rows.set w.toNat y (cS hw))[i];simp only[Vector.getElem_set];split
      · exact hx
      · exact h.mir i hi
    · exact h.mir
  · exact h.mir
 shut:=by
  show(iz s.mirror w x).1.sealed=(iz t.mirror w y).1.sealed
  have k: ∀(m:MirT) (z:RowT),(iz m w z).1.sealed=m.sealed:=λm z=>by
   unfold iz;split
   · show(sc m w z).sealed=_
     unfold sc;split<;>rfl
   · rfl
  rw[k,k];exact h.shut}
theorem Rl.takes[Nn n](h:Rl n s t)(w:Int){x y:RowT}(hx:RowS n x y):gX s.mirror w x=gX t.mirror w y:=by
 unfold gX;rw[h.sealed',hx.right.1,hx.right.2,hx.ver,(h.mirRow w).ver]
theorem ES{m:MirT}{w:Int}{x:RowT}(h:gX m w x=true):0≤w∧w<5:=by
 unfold gX at h;simp only[an]at h;exact of_decide_eq_true h.1.1.1
theorem Na[Nn n](g:Sm n s t)(f:Int){m q:MsgT}(hm:MsgF n m q):Sm n (gD KD s f m) (gD KL t f q):=g.of inferInstance λr=>by
 unfold gD;rw[hm.whose,r.sealed',r.takes q.whose hm.row];split
 · exact g
 split
 · rename_i z
   refine wT g (.mir (ES z) hm.row) inferInstance λa=>?_
   refine a.of inferInstance λra=>?_
   have b:=ra.mirror q.whose hm.row (ra.takes q.whose hm.row);refine wi b.sm f λrb=>?_
   rw[(rb.mirRow q.whose).ver];exact .kept _
 · refine wi g f λ_=>?_
   rw[(r.mirRow q.whose).ver];exact .kept _
theorem Rl.toldS(h:Rl n s t)(f w:Int){x y:RowT}(hx:RowS n x y):Rl n (toldS s f w x) (toldS t f w y):= {h with
 told:=by
  show um s.told w (iP .i64 (kj s w) (cN f))=um t.told w (iP .i64 (kj t w) (cN f));unfold kj;rw[h.told]
 last:=by
  show ∀(i:Nat) (_:i<5),RowS n (if kj s w=0∨(Api.lastAt s w).version<x.version then um s.last w x else s.last)[i] (if kj t w=0∨(Api.lastAt t w).version<y.version then um t.last w y else t.last)[i];rw[show kj s w=kj t w by unfold kj;rw[h.told],(h.lastAt w).ver,hx.ver];split
  · unfold um
    split
    · intro i hi
      simp only[Vector.getElem_set];split
      · exact hx
      · exact h.last i hi
    · exact h.last
  · exact h.last}
theorem zf[Nn n](g:Sm n s t)(f:Int){m q:MsgT}(hm:Rl n s t→MsgF n m q):Sm n (dw KD s f m) (dw KL t f q):=g.of inferInstance λr=>by
 unfold dw;rw[(hm r).whose];split
 · exact wj (r.toldS f q.whose (hm r).row).sm
 · exact wj g
theorem Rl.close(h:Rl n s t)(w:Int):Rl n (kQ s w) (kQ t w):= {h with
 mir:=by
  show ∀(i:Nat) (_:i<5),RowS n (je s.mirror w).rows[i] (je t.mirror w).rows[i];unfold je;split<;>exact h.mir
 shut:=by
  show(je s.mirror w).sealed=(je t.mirror w).sealed;unfold je;split
  · rename_i hw
    show s.mirror.sealed.set w.toNat true (cS hw)=t.mirror.sealed.set w.toNat true (cS hw);rw[h.shut]
  · exact h.shut}
theorem Gt[Nn n](g:Sm n s t)(f w:Int):Sm n (kr KD (λs=>dw KD s s.id (eR w (mirRow s.mirror w))) s f (eR w (mirRow s.mirror w))) (kr KL (λs=>dw KL s s.id (eR w (mirRow s.mirror w))) t f (eR w (mirRow t.mirror w))):=by
 refine wh g ?_ inferInstance f λr=> .sealed' _ (r.mirRow w)
 refine g.of inferInstance λr=>?_
 show Sm n (dw KD s s.id (eR w (mirRow s.mirror w))) (dw KL t t.id (eR w (mirRow t.mirror w)));rw[r.id];exact zf g _ λr=>(MsgS.sealed' _ (r.mirRow w)).f
theorem Gp[Nn n](g:Sm n s t){f f':Int}(ef:Rl n s t→f=f')(w:Int):Sm n (eu KD s f w) (eu KL t f' w):=g.of inferInstance λr=>by
 obtain rfl:=ef r;unfold eu;simp only;rw[r.view,r.sealed'];split
 · exact g
 split
 · exact Gt g f w
 · refine wT g (.same _ (show(2:Int)≤2∧(2:Int)<6 by decide)) (lZ inferInstance _ _) λa=>?_
   refine a.of (lZ inferInstance _ _) λra=>?_
   exact Gt (ra.close w).sm f w
theorem zg[Nn n](g:Sm n s t)(i w:Int):Sm n (gA KD s i w) (gA KL t i w):=g.of inferInstance λr=>by
 unfold gA;rw[r.tells,r.view];split
 · exact g
 · exact wh g (Gp g (λr=>r.id) i) inferInstance w λ_=> .seal' _ _
theorem Hz[Nn n](g:Sm n s t)(i:Int):Sm n (lP KD s i) (lP KL t i):=zg (zg g _ _) _ _
theorem zh[Nn n]: ∀(l:List Int) {s:MS LD} {t:MS LL},Sm n s t→Sm n (fY KD l s) (fY KL l t)
 | [],_,_,g=>g
 |i::l,_,_,g=>zh l (Hz g i)
theorem CK[Nn n](g:Sm n s t):Sm n (nN KD s) (nN KL t):=g.of inferInstance λr=>by
 unfold nN;rw[r.due];exact zh _ g
theorem Rl.enter(h:Rl n s t)(v:ViewT):Rl n (lA s v) (lA t v):= {h with view:=rfl,acc:=rfl,vote:=rfl,round:=rfl}
theorem sX[Nn n](g:Sm n s t)(v:ViewT):Sm n (gl KD s v) (gl KL t v):=g.of inferInstance λr=>by
 unfold gl;rw[r.view];split
 · exact g
 · refine wT g (.same _ (show(2:Int)≤5∧(5:Int)<6 by decide)) inferInstance λa=>a.of inferInstance λra=>?_
   exact CK (ra.enter v).sm
theorem CB[Nn n](g:Sm n s t)(f:Int){m q:MsgT}(hm:MsgF n m q):Sm n (iD KD s f m) (iD KL t f q):=by
 unfold iD;rw[hm.view,hm.whose];exact Gp (sX g _) (λ_=>rfl) _
theorem Ip(r:Rl n s t)(hb:t.e.length+1≤34)(v:ViewT):iT KD s v=iT KL t v:=by
 unfold iT;rw[r.view,(r.putR hb (.same (kK v) (show(2:Int)≤5∧(5:Int)<6 by decide))).2];rfl
theorem HA[Nn n](g:Sm n s t)(c:ChangeT):Sm n (iX KD s c) (iX KL t c):=g.of inferInstance λr=>by
 unfold iX;rw[r.view];split
 · exact g
 · by_cases le:(dF t.view c).1.epoch≤t.view.epoch
   · have e1:iT KD s (dF t.view c).1=false:=by unfold iT;rw[r.view,decide_eq_false (by omega)];rfl
     have e2:iT KL t (dF t.view c).1=false:=by unfold iT;rw[decide_eq_false (by omega)];rfl
     rw[e1,e2,if_neg (by decide),if_neg (by decide)];exact sX g _
   · have e2:iT KL t (dF t.view c).1=true:=by unfold iT;rw[decide_eq_true (by omega)];rfl
     rw[e2,if_pos rfl]
     have mo:Mo (t.e.length+1) (gl KL t (dF t.view c).1):=by
      unfold gl;rw[if_neg le,if_neg (show ¬l7 KL t (kK (dF t.view c).1)≠0 from λz=>z rfl)];exact inferInstance
     refine⟨λhb=>?_⟩;have hb2:t.e.length+1≤34:=jT mo.le hb;rw[Ip r hb2,e2,if_pos rfl];exact(Gn (sX g _) _).h hb
theorem Rl.round'(h:Rl n s t)(a:Int):Rl n (dx s a) (dx t a):= {h with round:=rfl}
theorem Rl.voted(h:Rl n s t)(v:VoteT):Rl n (kS s v) (kS t v):= {h with vote:=rfl}
theorem Rl.acc'(h:Rl n s t)(a:AccT):Rl n (tT s a) (tT t a):= {h with acc:=rfl}
theorem wg[Nn n](g:Sm n s t){f:MS LD→MS LD}{f':MS LL→MS LL}(hf: ∀(s:MS LD) (t:MS LL),Sm n s t→Sm n (f s) (f' t))(mo: ∀(k:Nat) (t:MS LL),Mo k t→Mo k (f' t))(w:Int){m q:MsgT}(hm:MsgF n m q):Sm n (el KD f s w m) (el KL f' t w q):=g.of (qk (mo _) w q) λr=>by
 unfold el;rw[hm.epoch,hm.kind,hm.ballot,r.view,r.id,r.round];split
 · split
   · exact wi g w λ_=> .view _
   · exact g
 split
 · exact g
 · exact hf _ _ (r.round' _).sm
theorem Lm[Nn n](g:Sm n s t)(f:Int){m q:MsgT}(hm:MsgF n m q):Sm n (kc KD f m s) (kc KL f q t):=g.of inferInstance λr=>by
 unfold kc;rw[r.vote,hm.ballot];split
 · exact g
 · split
   · exact HA (r.voted _).sm _
   · exact(r.voted _).sm
theorem CC[Nn n](g:Sm n s t)(w:Int){m q:MsgT}(hm:MsgF n m q):Sm n (mA KD s w m) (mA KL t w q):=wg g (λ_ _ g=>Lm g w hm) (λ_ _ _=>inferInstance) w hm
theorem wS[Nn n](g:Sm n s t)(w:Int){m q:MsgT}(hm:MsgF n m q):Sm n (jC KD w m s) (jC KL w q t):=by
 unfold jC;rw[hm.epoch,hm.ballot];refine wh g ?_ inferInstance w λ_=> .taken _ _
 refine g.of inferInstance λr=>?_
 show Sm n (mA KD s s.id _) (mA KL t t.id _);rw[r.id];exact CC g _ (MsgS.taken _ _).f
theorem Lp[Nn n](g:Sm n s t)(w:Int){m q:MsgT}(hm:MsgF n m q):Sm n (l4 KD w m s) (l4 KL w q t):=g.of inferInstance λr=>by
 unfold l4;rw[r.view,hm.change,r.acc,hm.epoch,hm.ballot];split
 · exact g
 split
 · exact g
 split
 · refine wT g (.same _ (show(2:Int)≤4∧(4:Int)<6 by decide)) inferInstance λa=>a.of inferInstance λra=>?_
   exact wS (ra.acc' _).sm w hm
 · exact wS g w hm
theorem CD[Nn n](g:Sm n s t)(w:Int){m q:MsgT}(hm:MsgF n m q):Sm n (nu KD s w m) (nu KL t w q):=wg g (λ_ _ g=>Lp g w hm) (λ_ _ _=>inferInstance) w hm
theorem CJ(g:Sm n s t){m q:MsgT}(hm:MsgS n m q):Sm n (iR KD s m) (iR KL t q):=wR g λr=>by
 rw[r.id,r.view];exact SaidS.oth hm _ _ _
theorem Gq[Nn n](g:Sm n s t){f:MS LD→MsgT→MS LD}{f':MS LL→MsgT→MS LL}{m q:MsgT}(hm:MsgS n m q)(hf: ∀(s:MS LD) (t:MS LL),Sm n s t→Sm n (f s m) (f' t q))(mo: ∀(k:Nat) (t:MS LL),Mo k t→Mo k (f' t q)):Sm n (gW KD f s m) (gW KL f' t q):=g.of (qF (mo _)) λr=>by
 unfold gW;rw[r.view,r.id];split
 · exact hf _ _ (CJ g hm)
 · exact CJ g hm
theorem wU[Nn n](g:Sm n s t)(vt:VoteT):Sm n (iH KD s vt) (iH KL t vt):=g.of inferInstance λr=>by
 unfold iH;rw[r.view];refine Gq g (.put _ _ _) (λs t g=>g.of inferInstance λr=>?_) λ_ _ _=>inferInstance
 show Sm n (nu KD s s.id _) (nu KL t t.id _);rw[r.id];exact CD g _ (MsgS.put _ _ _).f
theorem M9[Nn n](g:Sm n s t)(f:Int){m q:MsgT}(hm:MsgF n m q):Sm n (nX KD f m s) (nX KL f q t):=g.of inferInstance λr=>by
 unfold nX;rw[r.vote,hm.ballot,hm.had,hm.change];split
 · exact g
 · split
   · exact wU (r.voted _).sm _
   · exact(r.voted _).sm
theorem CG[Nn n](g:Sm n s t)(w:Int){m q:MsgT}(hm:MsgF n m q):Sm n (mB KD s w m) (mB KL t w q):=wg g (λ_ _ g=>M9 g w hm) (λ_ _ _=>inferInstance) w hm
theorem wV[Nn n](g:Sm n s t)(w:Int){m q:MsgT}(hm:MsgF n m q)(a:AccT):Sm n (jS KD w m a s) (jS KL w q a t):=by
 unfold jS;rw[hm.epoch,hm.ballot];refine wh g ?_ inferInstance w λ_=> .prom _ _ _ _
 refine g.of inferInstance λr=>?_
 show Sm n (mB KD s s.id _) (mB KL t t.id _);rw[r.id];exact CG g _ (MsgS.prom _ _ _ _).f
theorem Lr[Nn n](g:Sm n s t)(w:Int){m q:MsgT}(hm:MsgF n m q):Sm n (mR KD w m s) (mR KL w q t):=g.of inferInstance λr=>by
 unfold mR;rw[r.acc,hm.epoch,hm.ballot];split
 · exact g
 split
 · refine wT g (.same _ (show(2:Int)≤3∧(3:Int)<6 by decide)) inferInstance λa=>a.of inferInstance λra=>?_
   exact wV (ra.acc' _).sm w hm _
 · exact wV g w hm _
theorem CH[Nn n](g:Sm n s t)(w:Int){m q:MsgT}(hm:MsgF n m q):Sm n (nv KD s w m) (nv KL t w q):=wg g (λ_ _ g=>Lr g w hm) (λ_ _ _=>inferInstance) w hm
theorem E4[Nn n](g:Sm n s t)(vt:VoteT):Sm n (jE KD s vt) (jE KL t vt):=g.of inferInstance λr=>by
 unfold jE;rw[r.view];refine Gq g (.ask _ _) (λs t g=>g.of inferInstance λr=>?_) λ_ _ _=>inferInstance
 show Sm n (nv KD s s.id _) (nv KL t t.id _);rw[r.id];exact CH g _ (MsgS.ask _ _).f
theorem CI[Nn n](g:Sm n s t)(vt:VoteT):Sm n (lw KD s vt) (lw KL t vt):=by
 unfold lw;split
 · exact wU g vt
 · exact E4 g vt
theorem CM[Nn n](g:Sm n s t)(c:ChangeT):Sm n (bF KD s c).1 (bF KL t c).1∧(Rl n s t→(bF KL t c).1.e.length≤34→(bF KD s c).2=(bF KL t c).2):=by
 have tr:Rl n s t→cR s=cR t:=λr=>by unfold cR;rw[r.round,r.id]
 constructor
 · refine g.of inferInstance λr=>?_
   unfold bF;rw[r.acc,r.view,tr r]
   by_cases q:(bS t.acc t.view.epoch (cR t)).2=false
   · rw[if_pos q,if_pos q];exact g
   · rw[if_neg q,if_neg q,if_neg (show ¬l7 KL t (fW t.view.epoch (cR t))≠0 from λz=>z rfl)]
     refine⟨λhb=>?_⟩;have hb2:(t.e++[eO (fW t.view.epoch (cR t))]).length≤34:=hb;rw[kA]at hb2;obtain⟨a,b⟩:=r.putR hb2 (.same (fW t.view.epoch (cR t)) (show(2:Int)≤3∧(3:Int)<6 by decide));rw[if_neg (λz=>z b)];show Rl n (mG KD s c) (mG KL t c);unfold mG;rw[tr r,r.view,r.acc];exact((a.acc' _).round' _).voted _
 · intro r hb
   unfold bF at hb ⊢;rw[r.acc,r.view,tr r]
   by_cases q:(bS t.acc t.view.epoch (cR t)).2=false
   · rw[if_pos q,if_pos q]
   · rw[if_neg q,if_neg (show ¬l7 KL t (fW t.view.epoch (cR t))≠0 from λz=>z rfl)]at hb
     have hb2:(t.e++[eO (fW t.view.epoch (cR t))]).length≤34:=hb;rw[kA]at hb2;rw[if_neg q,if_neg q,if_neg (show ¬l7 KL t (fW t.view.epoch (cR t))≠0 from λz=>z rfl),if_neg (λz=>z (r.putR hb2 (.same (fW t.view.epoch (cR t)) (show(2:Int)≤3∧(3:Int)<6 by decide))).2)]
end
end Api
end

section
namespace Wal
open Go Leg Codec Api Dsk
def Q3(s x:jt):Prop:=x.getD 63 0≠1∨∃c,c≤64∧x=List.replicate c 0++s.drop c
structure Rub(rd:Int→jt)(ls:List (List UInt8))(bs:List UInt8):Prop where
 len: ∀j,(rd j).length=64
 shows:Shows rd 0 (jg 0 ls)
 worn: ∀i (h:i< (bW ((ls.length+1:Nat):Int) bs).length),Q3 (bW ((ls.length+1:Nat):Int) bs)[i] (rd (((fe ls:Nat):Int)+i))
 rest: ∀j,((fe ls+bj bs.length:Nat):Int)≤j→(rd j).getD 63 0≠1
structure Dirt(D:DS)(ls:List (List UInt8))(bs:List UInt8):Prop where
 ok:D.Ok
 inn:Wal.DS.In D
 short: ∀b∈ls,b.length≤3000
 short':bs.length≤3000
 room:fe ls+bj bs.length≤2048
 rub:Rub (gE D.s) ls bs
 ws: ∀p∈D.ws,((fe ls:Nat):Int)≤p.1∧p.2=zs
def M0(D:DS)(ls:List (List UInt8))(Q:List UInt8→Prop):Prop:=LogD D ls∨∃bs,Q bs∧Dirt D ls bs
end Wal
end

section
namespace Api
open Go Leg Codec Dsk Wal
theorem AO{a b:Nat}(ha:a<256)(hb:b<256)(h:UInt8.ofNat a=UInt8.ofNat b):a=b:=by
 have:=congrArg UInt8.toNat h;simp only[UInt8.toNat_ofNat']at this;omega
theorem DY: ∀(k n m:Nat) {r r':List UInt8},n≤k→tI n++r=tI m++r'→n=m∧r=r'
 |k,n,m,r,r',hk,h=>by
  by_cases h1:n<128
  · rw[m8 h1]at h
    by_cases h2:m<128
    · rw[m8 h2]at h
      injection h with e1 e2
      exact⟨AO (by omega) (by omega) e1,e2⟩
    · rw[od h2]at h
      injection h with e1 e2
      have:=AO (by omega) (by omega) e1;omega
  · rw[od h1]at h
    by_cases h2:m<128
    · rw[m8 h2]at h
      injection h with e1 e2
      have:=AO (by omega) (by omega) e1;omega
    · rw[od h2]at h
      injection h with e1 e2
      have q:=AO (by omega) (by omega) e1
      match k,hk with
      |0,hk=>omega
      |k+1,hk=>
       obtain⟨a,b⟩:=DY k (n / 128) (m / 128) (by omega) e2;exact⟨by omega,b⟩
theorem IE{a b:Int}{r r':List UInt8}(h:oz a++r=oz b++r'):a%18446744073709551616=b%18446744073709551616∧r=r':=by
 obtain⟨x,y⟩:=DY _ _ _ (aH _) h;exact⟨by omega,y⟩
theorem qt{D:DS}(hD:Whole D.s): ∀k,k≤2048→Calm (iE D k)∧∀j,(iE D k).read j=if 0≤j∧j< ((k:Nat):Int)then gE D.s j else zs
 |0,_=>⟨Calm.new,λj=>by rw[if_neg (by omega)];rfl⟩
 |k+1,hk=>by
  obtain⟨c,r⟩:=qt hD k (by omega);rw[iE];split
  · rename_i z
    refine⟨c,λj=>?_⟩;rw[r]
    by_cases q:j=((k:Nat):Int)
    · subst q;rw[if_neg (by omega),if_pos (by omega),z]
    · by_cases q2:0≤j∧j< ((k:Nat):Int)
      · rw[if_pos q2,if_pos (by omega)]
      · rw[if_neg q2,if_neg (by omega)]
  · have hl:=cz hD ((k:Nat):Int)
    have hw:=nj (D:=iE D k) (at':=((k:Nat):Int)) (bs:=gE D.s ((k:Nat):Int)) (by omega) (by omega) c.dn (.inl c.ar);rw[hw];refine⟨c.put (by omega) (by omega),λj=>?_⟩;show(vQ _ _ _).read j=_;rw[zz,zJ hl,r]
    by_cases q:j=((k:Nat):Int)
    · subst q;rw[if_pos rfl,if_pos (by omega)]
    · rw[if_neg q]
      by_cases q2:0≤j∧j< ((k:Nat):Int)
      · rw[if_pos q2,if_pos (by omega)]
      · rw[if_neg q2,if_neg (by omega)]
theorem EW{D:DS}{ls:List (List UInt8)}{Q:List UInt8→Prop}(h:M0 D ls Q∨∃bs,Q bs∧Half D ls bs):M0 (ny D) ls Q∧((ny D).dn=false→(ny D).ws=[]):=by
 have hok:D.Ok∧Wal.DS.In D:=by
  rcases h with(h| ⟨_,_,h⟩)| ⟨_,_,h⟩<;>exact⟨h.ok,h.inn⟩
 obtain⟨c,r⟩:=qt hok.1.s 2048 (aH _);obtain⟨s1,s2,s3,_⟩:=oJ c.dn;have c2:=c.sync
 have rd: ∀j,(ny D).read j=gE D.s j:=λj=>by
  show(iE D 2048).sync.2.read j=_;rw[uk c.dn,r];split
  · rfl
  · rename_i q
    have: ∀(s:fN),Wal.In s→gE s j=zs:=λs hs=>by
     induction s with
     |nil=>rfl
     |cons p s ih=>
      obtain⟨a,b⟩:=p;have:=hs (a,b) (la ..);rw[gE,if_neg (by intro e;subst e;exact q this)];exact ih λx hx=>hs x (Ev _ hx)
    exact(this _ hok.2.1).symm
 have sg: ∀j,gE (ny D).s j=gE D.s j:=λj=>by
  rw[←rd,DS.read,show(ny D).ws=[]from s2];rfl
 refine⟨?_,λ_=>s2⟩;rcases h with(h| ⟨bs,q,h⟩)| ⟨bs,q,h⟩
 · refine .inl ⟨c2.ok,c2.inn,s2,h.short,h.room,λj hj=>?_,λj hj=>?_⟩
   · rw[rd,←h.rds];exact h.shows j hj
   · rw[rd,←h.rds];exact h.zero j hj
 · refine .inr ⟨bs,q,c2.ok,c2.inn,h.short,h.short',h.room,⟨λj=>?_,λj hj=>?_,λi hi=>?_,λj hj=>?_⟩,λp hp=>?_⟩
   · rw[sg];exact h.rub.len j
   · rw[sg];exact h.rub.shows j hj
   · rw[sg];exact h.rub.worn i hi
   · rw[sg];exact h.rub.rest j hj
   · have hp:p∈(iE D 2048).sync.2.ws:=hp
     rw[s2]at hp;cases hp
 · refine .inl ⟨c2.ok,c2.inn,s2,h.short,by have:=h.room;omega,λj hj=>?_,λj hj=>?_⟩
   · rw[rd];exact h.shows j hj
   · rw[rd];exact h.zero j hj
variable {key:Nat}
theorem IG{bs:List UInt8}(h:(io bs).2=0):bs=eO (io bs).1∧(0≤(io bs).1.kind∧(io bs).1.kind<6)∧TameR (io bs).1.row:=by
 unfold io at h ⊢;split
 · rename_i m q
   obtain⟨a,_,b,_,c⟩:=Df q;exact⟨by rw[a,aW],b,c⟩
 · rename_i q
   split at h
   · rename_i m q2;exact absurd q2 (q m)
   · exact absurd h (by decide)
theorem Ag{m:RecT}(h:0≤m.kind∧m.kind<6): ∃r,eO m=oz m.kind++r:=by
 unfold eO
 repeat' split
 all_goals first| (exfalso;omega)| (simp only[eT,aE];exact⟨_,rfl⟩)
variable {s:MS LD}
theorem Cv{x:Slot}(h:x.run=none)(i:Nat):(iF i x).1= {x with run:=(cO i x.D).1,D:=(bN x.D).D}:=by unfold iF;rw[h]
theorem Fu(i:Nat):pv i=Slot.mk (cO i DS.new).1 (bN DS.new).D []:=by
 show(iF i .nil).1=_;unfold iF;show Slot.mk (cO i DS.new).1 _ _=_;rfl
theorem NK(A:Option (MS LD))(B:DS)(C:List ReplyT):(Slot.mk A B C).run=A∧(Slot.mk A B C).D=B:=⟨rfl,rfl⟩
theorem Fv{i:Nat}(hi:i<5):(CL.new.at' i).run=(cO i DS.new).1∧(CL.new.at' i).D=(bN DS.new).D:=by
 have e:CL.new.at' i=pv i:=by simp[CL.new,CL.at',List.getD_eq_getElem?_getD,hi]
 rw[e,Fu];exact NK _ _ _
end Api
end

section
namespace Api
open Go Leg Codec Dsk Wal
theorem GZ{m:RecT}(hk:m.kind=0∨m.kind=1)(h:OkRc m)(hr:fy m.row=true):io (eO (pQ m))=(pQ m,0):=Kq h (by unfold xq;rw[if_pos hk];exact hr)
theorem GY{y:RowT}(hy:TameR y)(hr:fy y=true):io (eO (e8 y))=(e8 y,0):=by
 have h:OkRc (e8 y):=⟨(by show(0:Int)≤0∧(0:Int)<6;decide),(by show(0:Int)≤0∧(0:Int)<5;decide),hy,wl, .zero, .zero, .zero⟩;have e:=GZ (m:=e8 y) (.inl rfl) h hr;have n:pQ (e8 y)=e8 y:=by unfold pQ;rw[if_pos (show(e8 y).kind=0 from rfl)];rfl
 rwa [n]at e
theorem G0{w:Int}(hw:0≤w∧w<5){y:RowT}(hy:TameR y)(hr:fy y=true):io (eO (gz w y))=(gz w y,0):=by
 have h:OkRc (gz w y):=⟨(by show(0:Int)≤1∧(1:Int)<6;decide),hw,hy,wl, .zero, .zero, .zero⟩;have e:=GZ (m:=gz w y) (.inr rfl) h hr;have n:pQ (gz w y)=gz w y:=by unfold pQ;rw[if_neg (show ¬(gz w y).kind=0 by show ¬(1:Int)=0;decide),if_pos (show(gz w y).kind=1 from rfl)];rfl
 rwa [n]at e
section
variable {R S:Int→Int→RowT→Prop} {j v:Int} {ls:List (List UInt8)} {l:List RowT}
end
section
variable {R:Int→Int→RowT→Prop} {l0:List RowT} {s:MS LD}
end
section
variable {R S:Int→Int→RowT→Prop} {l:List RowT} {j:Int}
end
section
variable {Ls Ls':Nat→List RowT} {a:CL}
def tn(r y:RowT):RowT:=if y.version>r.version then y else r
def wantW(a:CL)(i w:Nat)(r:RowT):RowT:=match jA a w with
 |some s=>tn r (mirRow s.mirror ((i:Nat):Int))
 |none=>r
def ru(a:CL)(i:Nat):RowT:=wantW a i ((i+2)%5) (wantW a i ((i+1)%5) .zero)
end
section
variable {n:Int} {s:MS LD} {t:MS LL}
structure OpS(n:Int)(o o':OpT):Prop where
 kind:o.kind=o'.kind
 at':o.at'=o'.at'
 to':o.to'=o'.to'
 key:o.key=o'.key
 change:o.change=o'.change
 n:NumS n o.n o'.n
def IK(lo:Int)(t:MS LL)(o:OpT):Bool:=Ki t.own o&&NU lo (dG t.book t.id o.key-o.n)&& !decide (o.kind=3)
theorem Rl.opsS(h:Rl n s t):Rl n (opsS s) (opsS t):= {h with
 ops:=by
  show fx (s.ops+1)=fx (t.ops+1)
  rw[h.ops]}
theorem Nj[Nn n](r:Rl n s t){lo:Int}(hl:lo≤n){o o':OpT}(ho:OpS n o o')(hc:IK lo t o'=true):(cx s o).2.2=(cx t o').2.2∧(cx s o).2.1=(cx t o').2.1∧((cx t o').2.2=0→RowS n (cx s o).1 (cx t o').1∧(cx t o').1.version=t.own.version+1):=by
 unfold IK at hc;rw[an,an]at hc;obtain⟨⟨g1,g2⟩,g3⟩:=hc;have k3: ¬o'.kind=3:=by simpa using g3
 have gr:=Kh (s:=s.rep .nil) (t:=t.rep .nil) r.own r.id ho.kind ho.key ho.to' ho.n g1;have rt:=r.book.rights t.id o'.key;have cp:(dG s.book t.id o'.key-o.n<0↔dG t.book t.id o'.key-o'.n<0):=(rt.sub ho.n.lin).cmp (by decide) hl g2;unfold cx kx;show _=_∧_=_∧_;rw[show(s.rep .nil).view=(t.rep .nil).view from r.view,show(s.rep .nil).id=(t.rep .nil).id from r.id,show(s.rep .nil).busy=(t.rep .nil).busy from r.busy,ho.key,ho.kind]
 by_cases z1:iS (t.rep .nil).view (t.rep .nil).id=false
 · rw[if_pos z1,if_pos z1];exact⟨rfl,rfl,λe=>absurd e (by decide)⟩
 rw[if_neg z1,if_neg z1]
 by_cases z2:m5 o'.key=false
 · rw[if_pos z2,if_pos z2];exact⟨rfl,rfl,λe=>absurd e (by decide)⟩
 rw[if_neg z2,if_neg z2,if_neg k3,if_neg k3]
 by_cases z3:(t.rep .nil).busy=true
 · rw[if_pos z3,if_pos z3];exact⟨rfl,rfl,λe=>absurd e (by decide)⟩
 rw[if_neg z3,if_neg z3,gr.1]
 by_cases z4:(fL (t.rep .nil) o').2≠0
 · rw[if_pos z4,if_pos z4];exact⟨rfl,rfl,λe=>absurd e z4⟩
 rw[if_neg z4,if_neg z4]
 have e5:(o'.kind≠0∧dG (s.rep .nil).book (t.rep .nil).id o'.key<o.n)↔(o'.kind≠0∧dG (t.rep .nil).book (t.rep .nil).id o'.key<o'.n):=by
  show(_∧dG s.book t.id o'.key<o.n)↔(_∧dG t.book t.id o'.key<o'.n);constructor
  · rintro ⟨a,b⟩;exact⟨a,by omega⟩
  · rintro ⟨a,b⟩;exact⟨a,by omega⟩
 by_cases z5:o'.kind≠0∧dG (t.rep .nil).book (t.rep .nil).id o'.key<o'.n
 · rw[if_pos z5,if_pos (e5.2 z5)];exact⟨rfl,rfl,λe=>absurd e (by decide)⟩
 · rw[if_neg z5,if_neg (λq=>z5 (e5.1 q))]
   exact⟨rfl,rfl,λ_=>gr.2 (Decidable.not_not.1 z4)⟩
theorem IM(r:Rl n s t)(c:ChangeT):fw s c=fw t c:=by unfold fw;rw[r.view,r.vote]
theorem HB[Nn n](r:Rl n s t)(op:Int)(c:ChangeT):Sm n (dm KD s op c).1 (dm KL t op c).1∧((dm KL t op c).1.e.length≤34→(dm KD s op c).2=(dm KL t op c).2):=by
 obtain⟨b1,b2⟩:=CM r.sm c;have ce:=IM r c;have tr:cR s=cR t:=by unfold cR;rw[r.round,r.id]
 unfold dm;rw[ce]
 by_cases z1:fw t c≠0
 · rw[if_pos z1,if_pos z1]
   exact⟨sW r.sm λ_=>⟨rfl,rfl,rfl⟩,λ_=>rfl⟩
 rw[if_neg z1,if_neg z1]
 have bd:(if(bF KL t c).2≠0 then(dp (bF KL t c).1 op (bF KL t c).2 0,(bF KL t c).2)else(lw KL (dp (bF KL t c).1 op 0 0) (jr t.view (cR t) c),(0:Int))).1.e.length≤34→(bF KL t c).1.e.length≤34:=λh=>by
  refine jT (Mo.le (k:=(bF KL t c).1.e.length) (t:=(if(bF KL t c).2≠0 then(dp (bF KL t c).1 op (bF KL t c).2 0,(bF KL t c).2)else(lw KL (dp (bF KL t c).1 op 0 0) (jr t.view (cR t) c),(0:Int))).1) (self:=?_)) h;split<;>exact inferInstance
 refine⟨⟨λhb=>?_⟩,λhb=>?_⟩
 · have e:=b2 r (bd hb)
   rw[e]
   by_cases z2:(bF KL t c).2≠0
   · rw[if_pos z2]at hb ⊢
     rw[if_pos z2];exact(sW b1 λ_=>⟨rfl,rfl,rfl⟩).h hb
   · rw[if_neg z2]at hb ⊢
     rw[if_neg z2,tr,r.view];exact(CI (sW b1 λ_=>⟨rfl,rfl,rfl⟩) _).h hb
 · have e:=b2 r (bd hb)
   rw[e]
   by_cases z2:(bF KL t c).2≠0
   · rw[if_pos z2,if_pos z2]
   · rw[if_neg z2,if_neg z2]
theorem Ll[Nn n](r:Rl n s t){lo:Int}(hl:lo≤n){o o':OpT}(ho:OpS n o o')(hc:IK lo t o'=true):Sm n (ld KD s o).1 (ld KL t o').1∧((ld KL t o').1.e.length≤34→(ld KD s o).2=(ld KL t o').2):=by
 obtain⟨p1,p2,p3⟩:=Nj r hl ho hc;unfold ld;rw[p1,p2,ho.kind,r.ops]
 by_cases z1:(cx t o').2.2≠0∨o'.kind=3
 · rw[if_pos z1,if_pos z1]
   exact⟨sW r.sm λ_=>⟨rfl,rfl,rfl⟩,λ_=>rfl⟩
 rw[if_neg z1,if_neg z1];obtain⟨q1,q2⟩:=p3 (Decidable.not_not.1 λz=>z1 (.inl z));obtain⟨g1,g2⟩:=Gs r.sm (x:=(cx s o).1) (y:=(cx t o').1) (λ_ _=>⟨q1,by omega⟩) t.ops t.ops λ_=>rfl
 have eN:(dD KL t (cx t o').1 t.ops).2=0:=by unfold dD;rw[if_neg (show ¬l7 KL t (e8 (cx t o').1)≠0 from λz=>z rfl)]
 rw[if_neg (show ¬(dD KL t (cx t o').1 t.ops).2≠0 from λz=>z eN)];have eE:(dD KL t (cx t o').1 t.ops).1.e.length=t.e.length+1:=by unfold dD;rw[if_neg (show ¬l7 KL t (e8 (cx t o').1)≠0 from λz=>z rfl)];exact kA _ _
 refine⟨⟨λhb=>?_⟩,λhb=>?_⟩
 · rw[if_neg (show ¬(dD KD s (cx s o).1 t.ops).2≠0 from λz=>z (g2 r (by rw[←eE];exact hb)))]
   exact g1.h hb
 · rw[if_neg (show ¬(dD KD s (cx s o).1 t.ops).2≠0 from λz=>z (g2 r (by rw[←eE];exact hb)))]
theorem Hy[Nn n](r:Rl n s t){lo:Int}(hl:lo≤n){o o':OpT}(ho:OpS n o o')(hc:IK lo t o'=true):Sm n (bv KD s o).1 (bv KL t o').1∧((bv KL t o').1.e.length≤34→(bv KD s o).2=(bv KL t o').2):=by
 unfold bv;rw[r.view,r.id,ho.kind,ho.change,r.opsS.ops];split
 · exact HB r.opsS _ _
 · exact Ll r.opsS hl ho hc
theorem Ln[Nn n](g:Sm n s t):Sm n (gU KD s) (gU KL t):=by
 have a:Sm n (bG KD s) (bG KL t):=g.of inferInstance λr=>by
  unfold bG;rw[r.busy];refine CK (wj ?_);split
  · exact wQ g
  · exact g
 have b:Sm n (bQ KD (bG KD s)) (bQ KL (bG KL t)):=a.of inferInstance λr=>by
  unfold bQ;rw[r.view];split
  · exact Gn a _
  · exact a
 refine b.of (by unfold gU;split<;>exact inferInstance) λr=>?_
 unfold gU;rw[r.view,r.id];split
 · have c:Sm n (fz KD (bQ KD (bG KD s))) (fz KL (bQ KL (bG KL t))):=by
    unfold fz;have w:=r.book.row (bQ KL (bG KL t)).id;rw[r.id,w.ver];split
    · exact Gr b λ_=>w
    · exact b
   refine c.of inferInstance λr=>?_
   unfold pM;rw[r.vote];split
   · exact c
   · rename_i vt _
     rw[r.view];split
     · obtain⟨b1,b2⟩:=CM c vt.change
       have tr:cR (fz KD (bQ KD (bG KD s)))=cR (fz KL (bQ KL (bG KL t))):=by unfold cR;rw[r.round,r.id]
       rw[tr];refine⟨λhb=>?_⟩
       have bd:(bF KL (fz KL (bQ KL (bG KL t))) vt.change).1.e.length≤34:=by
        refine jT (Mo.le (k:=(bF KL (fz KL (bQ KL (bG KL t))) vt.change).1.e.length) (self:=?_)) hb;split<;>exact inferInstance
       rw[b2 r bd];split
       · rename_i q
         rw[if_pos q]at hb;exact(CI b1 _).h hb
       · rename_i q
         rw[if_neg q]at hb;exact b1.h hb
     · exact c
 · exact b
theorem Lo[Nn n](g:Sm n s t)(f:Int){m q:MsgT}(hm:MsgF n m q):Sm n (fQ KD s f m) (fQ KL t f q):=by
 unfold fQ;rw[hm.kind];split
 · exact Na g f hm
 split
 · exact Lq g f hm
 split
 · refine g.of inferInstance λr=>?_
   rw[hm.whose];exact(r.bookM _ hm.row).sm
 split
 · rw[hm.view];exact sX g _
 split
 · exact CB g f hm
 split
 · exact zf g f λ_=>hm
 split
 · exact CH g f hm
 split
 · exact CG g f hm
 split
 · exact CD g f hm
 split
 · exact CC g f hm
 · exact g
end
theorem RowS.base{n:Int}[Nn n]{x y:RowT}(h:RowS n x y):RowS 1000 y y:=by
 have num: ∀{u v:Int},NumS n u v→NumS 1000 v v:=λh=>by
  obtain⟨a,b,h1,h2,_,h4⟩:=h;exact⟨a,b,h1,h2,h4,h4⟩
 have cell: ∀{c d:CellT},CellS n c d→CellS 1000 d d:=λh=>⟨num h.inn,num h.out,λj hj=>num (h.given j hj)⟩
 exact⟨rfl,h.vb,λk hk=>cell (h.cells k hk),rfl,h.hb,λi k hi hk=>cell (h.left i k hi hk),λi hi e=>⟨(h.none i hi e).2,(h.none i hi e).2⟩⟩
instance :Nn 1000:=⟨by decide,by decide⟩
theorem HS{m:RecT}(hm:0≤m.kind∧m.kind<6)(h:(io (eO m)).2=0):(io (eO m)).1.kind=m.kind:=by
 obtain⟨e,hk,_⟩:=IG h;generalize (io (eO m)).1=q at*;obtain⟨r,e1⟩:=Ag hm;obtain⟨r',e2⟩:=Ag hk;rw[e1,e2]at e;have:=(IE e).1;omega
def GA:LL→MS LL→Option (MS LL)
 | [],t=>some t
 |b::l,t=>if(io b).2≠0 then none else if(ir t (io b).1).own.version≤10* ((t.e.length:Nat):Int)then GA l (ir t (io b).1)else none
section
variable {n:Int}
theorem Nf[Nn n]{s:MS LD}{t:MS LL}(r:Rl n s t){b c:List UInt8}(h:ByS n b c)(hc:(io c).2=0)(hv:(ir t (io c).1).own.version≤10* ((t.e.length:Nat):Int)):(io b).2=0∧Rl n (ir s (io b).1) (ir t (io c).1):=by
 cases h with
 |same m hm=>
  refine⟨hc,?_⟩;have hk:=HS (m:=m) ⟨by omega,hm.2⟩ hc;generalize (io (eO m)).1=q at*;have k0: ¬q.kind=0:=by omega
  have k1: ¬q.kind=1:=by omega
  unfold ir;rw[if_neg k0,if_neg k0,if_neg k1,if_neg k1];split
  · exact r.close _
  split
  · exact {r with acc:=by show {s.acc with vow:=q.ballot}= {t.acc with vow:=q.ballot};rw[r.acc],round:=by show max s.round _=max t.round _;rw[r.round]}
  split
  · exact {r with acc:=by show {s.acc with vow:=q.ballot,had:=q.ballot,change:=q.change}= {t.acc with vow:=q.ballot,had:=q.ballot,change:=q.change};rw[r.acc],round:=by show max s.round _=max t.round _;rw[r.round]}
  split
  · exact r.enter _
  · exact r
 | @row x y h=>
  have e1:=GY h.tame h.right.1;have e2:=GY h.base.tame h.right.2;rw[e2]at hv ⊢;rw[e1];refine⟨rfl,?_⟩;have hv:y.version≤10* ((t.e.length:Nat):Int):=hv;show Rl n {s with own:=x,busy:=true,kept:=0} {t with own:=y,busy:=true,kept:=0};exact {r with own:=h,busy:=rfl,kept:=rfl,ver:=hv}
 | @mir w hw x y h=>
  have e1:=G0 hw h.tame h.right.1;have e2:=G0 hw h.base.tame h.right.2;rw[e1,e2];refine⟨rfl,?_⟩;show Rl n (gN s w x) (gN t w y);exact r.mirror w h (r.takes w h)
theorem Nh[Nn n]{l k:LL}(h:BysS n l k): ∀{s:MS LD} {t u:MS LL},Rl n s t→GA k t=some u→∃v,lr l s=some v∧Rl n v u:=by
 induction h with
 |nil=>intro s t u r q;exact⟨s,rfl,bm q▸r⟩
 |cons hb _ ih=>
  intro s t u r q;unfold GA at q;split at q
  · cases q
  rename_i q1;split at q
  · rename_i q2
    obtain⟨e1,r2⟩:=Nf r hb (Decidable.not_not.1 q1) q2;obtain⟨v,e2,r3⟩:=ih r2 q;refine⟨v,?_,r3⟩;unfold lr;rw[if_neg (λz=>z e1)];exact e2
  · cases q
structure DkS(n:Int)(D:DS)(k:LL):Prop where
 dn:D.dn=false
 ar:D.ar=false
 log: ∃ls,LogD D ls∧fe ls≤58*k.length∧BysS n ls k
def wO(i:Nat)(k:LL):Option (MS LL):=GA k (tv ((i:Nat):Int) k)
theorem Jx{i:Nat}{e:LD}{k:LL}(h:RoomE n e k):Rl n (tv ((i:Nat):Int) e) (tv ((i:Nat):Int) k):=by
 have z5: ∀(i:Nat) (_:i<5),RowS n (#v[RowT.zero,RowT.zero,RowT.zero,RowT.zero,RowT.zero]:Vector RowT 5)[i] (#v[RowT.zero,RowT.zero,RowT.zero,RowT.zero,RowT.zero]:Vector RowT 5)[i]:=λi hi=>by
  match i,hi with|0,_|1,_|2,_|3,_|4,_=>exact RowS.zero
 exact⟨rfl,rfl, .zero,z5,rfl,rfl,rfl,rfl, .zero,rfl,rfl,rfl,rfl,rfl,rfl,z5,by show(0:Int)≤10* ((k.length:Nat):Int);omega,h, .nil⟩
theorem DkS.start[Nn n]{D:DS}{k:LL}(h:DkS n D k)(i:Nat){u:MS LL}(q:wO i k=some u): ∃s,(cO i D).1=some s∧(cO i D).2=0∧Rl n s u:=by
 obtain⟨ls,hl,hs,hb⟩:=h.log;obtain⟨D',e,lg,ha,hd⟩:=hl.open h.ar h.dn;obtain⟨v,e2,r⟩:=Nh hb (Jx (n:=n) (i:=i) (e:=(⟨ls.length,((fe ls:Nat):Int),D'⟩:LD)) ⟨hd,ha,ls,lg,rfl,rfl,hs,hb⟩) q
 have es:cO i D=(some v,0):=by
  unfold cO;rw[e];simp only[ne_eq,not_true_eq_false,if_false];rw[e2]
 exact⟨v,by rw[es],by rw[es],r⟩
theorem Rl.crash{s:MS LD}{t:MS LL}(r:Rl n s t)(mask torn m:Int):DkS n (s.e.D.crash mask torn m) t.e:=by
 obtain⟨ls,hl,_,_,hs,hb⟩:=r.e.log;obtain⟨a,b,c⟩:=hl.crash mask torn m;exact⟨c,b,ls,a,hs,hb⟩
end
structure SZ where
 up:Option (MS LL)
 log:LL
structure CZ where
 ms:List SZ
 W:List (List MsgT)
def CZ.at'(b:CZ)(i:Nat):SZ:=b.ms.getD i ⟨none,[]⟩
def CZ.put(b:CZ)(i:Nat)(x:SZ):CZ:=⟨b.ms.set i x,b.W⟩
def CZ.did(b:CZ)(i:Nat)(t:MS LL):CZ:=⟨b.ms.set i ⟨some t.hush,[]⟩,g9 b.W i t.o⟩
def CZ.new:CZ:=⟨(List.range 5).map λi=>⟨some (tv ((i:Nat):Int) []),[]⟩,List.replicate 25 []⟩
def BU(b:CZ)(i:Nat)(t:MS LL):Option CZ:=if t.e.length≤34 then some (b.did i t)else none
def Ml(lo:Int)(b:CZ)(i:Nat)(o:OpT):Option (CZ×Int):=match(b.at' i).up with
 |none=>none
 |some t=>if IK lo t o then(BU b i (bv KL t o).1).map λc=>(c,(bv KL t o).2)else none
def M6(b:CZ)(i:Nat):Option CZ:=match(b.at' i).up with
 |none=>some b
 |some t=>BU b i (gU KL t)
def Kv(b:CZ)(i j:Nat)(m:MsgT):Option CZ:=match(b.at' j).up with
 |none=>some b
 |some t=>if IL m then BU b j (fQ KL t ((i:Nat):Int) m)else none
def Gm(b:CZ)(i j:Nat):Option CZ:=if i=j then some b else match b.W.getD (i*5+j) []with
 | []=>some b
 |m::l=>Kv {b with W:=b.W.set (i*5+j) l} i j m
def F3(b:CZ)(i:Nat):CZ:=match(b.at' i).up with
 |none=>b
 |some t=>b.put i ⟨none,t.e⟩
def E3(b:CZ)(i:Nat):Option CZ:=match(b.at' i).up with
 |some _=>none
 |none=>(wO i (b.at' i).log).map λt=>b.put i ⟨some t,[]⟩
def Jq(b:CZ)(i:Nat):Nat→Option CZ
 |0=>some b
 |j+1=>(Jq b i j).bind λc=>Gm c i j
def sU(b:CZ):Nat→Option CZ
 |0=>some b
 |i+1=>(sU b i).bind λc=>Jq c i 5
def EM(b:CZ):Nat→Option CZ
 |0=>some b
 |i+1=>(EM b i).bind λc=>M6 c i
def sS:Nat→CZ→Option CZ
 |0,b=>some b
 |k+1,b=>if vT b.W 25=0 then some b else(sU b 5).bind (sS k)
def sY(b:CZ):Nat→Option CZ
 |0=>some b
 |k+1=>(sY b k).bind λc=>(EM c 5).bind (sS 400)
inductive WayS(n:Int):List MsgT→List MsgT→Prop
 |nil:WayS n [] []
 |cons {m q:MsgT} {l k:List MsgT}:MsgS n m q→WayS n l k→WayS n (m::l) (q::k)
theorem WayS.len{n:Int}{l k:List MsgT}(h:WayS n l k):l.length=k.length:=by
 induction h with
 |nil=>rfl
 |cons _ _ ih=>rw[ax,ax,ih]
theorem WayS.snoc{n:Int}{l k:List MsgT}(h:WayS n l k){m q:MsgT}(hm:MsgS n m q):WayS n (l++[m]) (k++[q]):=by
 induction h with
 |nil=>exact .cons hm .nil
 |cons h _ ih=>exact .cons h ih
inductive SlotS(n:Int)(x:Slot)(y:SZ):Prop
 |up {s:MS LD} {t:MS LL} (hx:x.run=some s) (hy:y.up=some t) (r:Rl n s t):SlotS n x y
 |down (hx:x.run=none) (hy:y.up=none) (r:DkS n x.D y.log):SlotS n x y
structure CSim(n:Int)(a:CL)(b:CZ):Prop where
 ms:a.ms.length=5
 bs:b.ms.length=5
 W:a.W.length=25
 V:b.W.length=25
 run: ∀i,i<5→SlotS n (a.at' i) (b.at' i)
 way: ∀k,WayS n (a.W.getD k []) (b.W.getD k [])
section
variable {n:Int} {a:CL} {b:CZ}
theorem Ab{α:Type}{W:List (List α)}{k j:Nat}{l:List α}(hk:k<W.length):(W.set k l).getD j []=if j=k then l else W.getD j []:=by
 by_cases q:j=k
 · subst q
   rw[if_pos rfl,List.getD_eq_getElem?_getD,List.getElem?_set_self hk];rfl
 · rw[if_neg q,List.getD_eq_getElem?_getD,List.getElem?_set_ne (λe=>q e.symm),←List.getD_eq_getElem?_getD]
theorem GB{W V:List (List MsgT)}(hW:W.length=25)(hV:V.length=25)(h: ∀k,WayS n (W.getD k []) (V.getD k [])){k:Nat}(hk:k<25){l r:List MsgT}(hl:WayS n l r): ∀j,WayS n ((W.set k l).getD j []) ((V.set k r).getD j []):=λj=>by
 rw[Ab (by omega),Ab (by omega)];split
 · exact hl
 · exact h j
theorem AF{f t:Int}(h:dv f t=true):bt f t<25:=by
 unfold dv at h;rw[an,an]at h;have h1:=(ma h.1.1).1;have h2:=(ma h.1.2).1;unfold bt;omega
theorem C1(f:Nat): ∀{l k:List SaidT},SaidS n l k→∀{W V:List (List MsgT)},W.length=25→V.length=25→(∀k,WayS n (W.getD k []) (V.getD k []))→∀j,WayS n ((g9 W f l).getD j []) ((g9 V f k).getD j [])
 |_,_, .nil,_,_,_,_,h=>h
 |_,_, .cons (t:=t) (m:=m) (q:=q) hm hl,W,V,hW,hV,h=>by
  refine C1 f hl (W:=qD W f ⟨t,m⟩) (V:=qD V f ⟨t,q⟩) (by rw[qC];exact hW) (by rw[qC];exact hV) λj=>?_
  unfold qD;split
  · rename_i hv
    refine GB hW hV h (AF hv) ?_ j;rw[(h _).len];split
    · exact(h _).snoc hm
    · exact h _
  · exact h j
theorem K0{ms:List SZ}{W:List (List MsgT)}{i:Nat}{x:SZ}(h:i<ms.length):(CZ.mk (ms.set i x) W).at' i=x:=by
 show(ms.set i x).getD i _=_;rw[List.getD_eq_getElem?_getD,List.getElem?_set_self h];rfl
theorem M2{ms:List SZ}{W V:List (List MsgT)}{i j:Nat}{x:SZ}(h:j≠i):(CZ.mk (ms.set i x) W).at' j=(CZ.mk ms V).at' j:=by
 show(ms.set i x).getD j _=ms.getD j _;rw[List.getD_eq_getElem?_getD,List.getElem?_set_ne (λe=>h e.symm),←List.getD_eq_getElem?_getD]
theorem CSim.put(h:CSim n a b){i:Nat}(hi:i<5){x:Slot}{y:SZ}(r:SlotS n x y){W V:List (List MsgT)}(hW:W.length=25)(hV:V.length=25)(hw: ∀k,WayS n (W.getD k []) (V.getD k [])):CSim n ⟨a.ms.set i x,W⟩ ⟨b.ms.set i y,V⟩:=by
 refine⟨by show(a.ms.set i _).length=5;rw[dK];exact h.ms,by show(b.ms.set i _).length=5;rw[dK];exact h.bs,hW,hV,λj hj=>?_,hw⟩
 by_cases q:j=i
 · subst q
   rw[uZ (by rw[h.ms];exact hi),K0 (by rw[h.bs];exact hi)];exact r
 · rw[vH q,M2 (V:=b.W) q];exact h.run j hj
theorem CSim.did(h:CSim n a b){i:Nat}(hi:i<5){s:MS LD}{t:MS LL}(r:Rl n s t):CSim n (a.did i s) (b.did i t):=
 h.put hi (.up rfl rfl (show Rl n s.hush t.hush from {r with o:= .nil})) (by rw[mW];exact h.W) (by rw[mW];exact h.V) (C1 i r.o h.W h.V h.way)
theorem G8{t:MS LL}{i:Nat}{c:CZ}(h:BU b i t=some c):t.e.length≤34∧c=b.did i t:=by
 unfold BU at h;split at h
 · rename_i q;exact⟨q,(bm h).symm⟩
 · cases h
theorem CSim.act(h:CSim n a b){i:Nat}(hi:i<5){s:MS LD}{t:MS LL}(g:Sm n s t){c:CZ}(e:BU b i t=some c):CSim n (a.did i s) c:=by
 obtain⟨q,rfl⟩:=G8 e;exact h.did hi (g.h q)
theorem CSim.cli[Nn n](h:CSim n a b){i:Nat}(hi:i<5){lo:Int}(hl:lo≤n){o o':OpT}(ho:OpS n o o'){c:CZ}{e:Int}(hc:Ml lo b i o'=some (c,e)):CSim n (xR a i o).1 c∧(xR a i o).2=e:=by
 unfold Ml at hc;rcases h.run i hi with⟨hs,ht,r⟩| ⟨_,ht,_⟩
 · rw[ht]at hc
   rename_i s t;have hc:(if IK lo t o'=true then(BU b i (bv KL t o').1).map λc=>(c,(bv KL t o').2)else none)=some (c,e):=hc;split at hc
   · rename_i q
     obtain⟨g1,g2⟩:=Hy r hl ho q;cases ha:BU b i (bv KL t o').1 with
     |none=>rw[ha]at hc;cases hc
     |some c'=>
      rw[ha]at hc;obtain⟨rfl,rfl⟩:=Prod.mk.inj (bm hc)
      have en:xR a i o=(a.did i (bv KD s o).1,(bv KD s o).2):=by
       unfold xR;rw[hs];show(if s.e.D.dn=true then _ else _)=_;rw[r.e.dn,if_neg (by decide)]
      rw[en];exact⟨h.act hi g1 ha,g2 (G8 ha).1⟩
   · cases hc
 · rw[ht]at hc;cases hc
theorem CSim.do[Nn n](h:CSim n a b){i:Nat}(hi:i<5){lo:Int}(hl:lo≤n){o o':OpT}(ho:OpS n o o')(hat:o.at'=((i:Nat):Int))(hk:0≤o.kind∧o.kind≤4){c:CZ}{e:Int}(hc:Ml lo b i o'=some (c,e)):CSim n (pG a o).1 c∧(pG a o).2=e:=by
 have en:pG a o=xR a i o:=by
  unfold pG;rw[hat,if_neg (by rw[show gP ((i:Nat):Int)=true from decide_eq_true ⟨by omega,by omega⟩];decide),if_pos hk];rfl
 rw[en];exact h.cli hi hl ho hc
theorem CSim.tik[Nn n](h:CSim n a b){i:Nat}(hi:i<5){c:CZ}(hc:M6 b i=some c):CSim n (Ji a i) c:=by
 have en:Ji a i=(Cj a i).1:=by
  unfold Ji pG;show(if gP ((i:Nat):Int)=false then((_,_):CL×Int)else _).1=_;rw[if_neg (by rw[show gP ((i:Nat):Int)=true from decide_eq_true ⟨by omega,by omega⟩];decide)];rfl
 rw[en];unfold M6 at hc;unfold Cj;rcases h.run i hi with⟨hs,ht,r⟩| ⟨hs,ht,_⟩
 · rename_i s t
   rw[ht]at hc;rw[hs];show CSim n (if s.e.D.dn=true then((_,_):CL×Int)else _).1 c;rw[r.e.dn,if_neg (by decide)];exact h.act hi (Ln r.sm) hc
 · rw[ht]at hc
   rw[hs];exact bm hc▸h
theorem EL{α:Type}(l:List α):jz 0 l=l:=by unfold jz;rfl
theorem Ja{o:OpT}(hv:dv o.at' o.to'=true)(h:a.W.getD (bt o.at' o.to') []=[]):(nW a o).1=a:=by
 unfold nW;rw[if_neg (by rw[hv];decide),h]
theorem Ho{o:OpT}{m:MsgT}{l:List MsgT}(hv:dv o.at' o.to'=true)(hk:o.kind=5)(hn:o.n=0)(h:a.W.getD (bt o.at' o.to') []=m::l):nW a o=pT (a.way (bt o.at' o.to') l) o.at'.toNat o.to'.toNat m:=by
 have et:jz (max o.n 0% ((m::l).length:Int)).toNat (m::l)=m::l:=by
  rw[hn,show(max (0:Int) 0% ((m::l).length:Int)).toNat=0 by simp,EL]
 unfold nW;rw[if_neg (by rw[hv];decide),h];show(if o.kind=7 then(if I1 (m::l)then(a.way (bt o.at' o.to') (Ez (m::l)),(0:Int))else(a,3))else(match jz (max o.n 0% ((m::l).length:Int)).toNat (m::l)with| []=>(a,0)|m'::l'=>if o.kind=6 then(a.way (bt o.at' o.to') l',0)else pT (a.way (bt o.at' o.to') l') o.at'.toNat o.to'.toNat m'))=_;rw[if_neg (by omega),et];show(if o.kind=6 then(a.way (bt o.at' o.to') l,(0:Int))else pT (a.way (bt o.at' o.to') l) o.at'.toNat o.to'.toNat m)=_;rw[if_neg (by omega)]
theorem CSim.step[Nn n](h:CSim n a b){i j:Nat}(hi:i<5)(hj:j<5){c:CZ}(hc:Gm b i j=some c):CSim n (pN a i j) c:=by
 unfold Gm at hc;unfold pN
 by_cases q:i=j
 · rw[if_pos q]at hc ⊢
   exact bm hc▸h
 rw[if_neg q]at hc ⊢;have mi:gP ((i:Nat):Int)=true:=decide_eq_true ⟨by omega,by omega⟩;have mj:gP ((j:Nat):Int)=true:=decide_eq_true ⟨by omega,by omega⟩
 have hv:dv ((i:Nat):Int) ((j:Nat):Int)=true:=by
  unfold dv;rw[mi,mj,decide_eq_false (by omega)];rfl
 have ed:pG a (I2 5 ((i:Nat):Int) ((j:Nat):Int))=nW a (I2 5 ((i:Nat):Int) ((j:Nat):Int)):=by
  unfold pG;show(if gP ((i:Nat):Int)=false then _ else _)=_;rw[if_neg (by rw[mi];decide)];rfl
 rw[ed];have hw:=h.way (i*5+j);cases hb:b.W.getD (i*5+j) []with
 |nil=>
  rw[hb]at hc hw;cases hA:a.W.getD (i*5+j) []with
  |nil=>
   rw[Ja (o:=I2 5 ((i:Nat):Int) ((j:Nat):Int)) hv hA];exact bm hc▸h
  |cons m l=>rw[hA]at hw;cases hw
 |cons m' l'=>
  rw[hb]at hc hw;cases hA:a.W.getD (i*5+j) []with
  |nil=>rw[hA]at hw;cases hw
  |cons m l=>
   rw[hA]at hw;cases hw with
   |cons hm hl=>
    have hc:Kv {b with W:=b.W.set (i*5+j) l'} i j m'=some c:=hc;have h2:CSim n (a.way (i*5+j) l) {b with W:=b.W.set (i*5+j) l'}:=⟨h.ms,h.bs,by show(a.W.set _ _).length=25;rw[dK];exact h.W,by show(b.W.set _ _).length=25;rw[dK];exact h.V,h.run,GB h.W h.V h.way (by omega) hl⟩;rw[Ho (o:=I2 5 ((i:Nat):Int) ((j:Nat):Int)) hv rfl rfl hA];show CSim n (pT (a.way (i*5+j) l) i j m).1 c;unfold Kv at hc;unfold pT;rcases h2.run j hj with⟨hs,ht,r⟩| ⟨hs,ht,_⟩
    · rename_i s t
      rw[ht]at hc;rw[hs];have hc:(if IL m'=true then BU {b with W:=b.W.set (i*5+j) l'} j (fQ KL t ((i:Nat):Int) m')else none)=some c:=hc
      by_cases ck:IL m'=true
      · rw[if_pos ck]at hc
        show CSim n (if s.e.D.dn=true then _ else _:CL×Int).1 c;rw[r.e.dn,if_neg (by decide),hm.dec ck,if_pos rfl];exact h2.act hj (Lo r.sm _ hm.f) hc
      · rw[if_neg ck]at hc;cases hc
    · rw[ht]at hc
      rw[hs];exact bm hc▸h2
theorem iY{α β:Type}{x:Option α}{f:α→Option β}{c:β}(h:x.bind f=some c): ∃y,x=some y∧f y=some c:=by
 cases x with
 |none=>cases h
 |some y=>exact⟨y,rfl,h⟩
theorem CSim.rows[Nn n](h:CSim n a b){i:Nat}(hi:i<5): ∀(j:Nat) {c:CZ},j≤5→Jq b i j=some c→CSim n (tf a i j) c
 |0,_,_,e=>bm e▸h
 |j+1,_,hj,e=>by
  obtain⟨d,e1,e2⟩:=iY e;exact(CSim.rows h hi j (by omega) e1).step hi (by omega) e2
theorem CSim.sweepTo[Nn n](h:CSim n a b): ∀(i:Nat) {c:CZ},i≤5→sU b i=some c→CSim n (sweepTo a i) c
 |0,_,_,e=>bm e▸h
 |i+1,_,hi,e=>by
  obtain⟨d,e1,e2⟩:=iY e;exact(CSim.sweepTo h i (by omega) e1).rows (by omega) 5 (aH _) e2
theorem CSim.ticks[Nn n](h:CSim n a b): ∀(i:Nat) {c:CZ},i≤5→EM b i=some c→CSim n (rR a i) c
 |0,_,_,e=>bm e▸h
 |i+1,_,hi,e=>by
  obtain⟨d,e1,e2⟩:=iY e;exact(CSim.ticks h i (by omega) e1).tik (by omega) e2
theorem J0(h:CSim n a b): ∀k,vT a.W k=vT b.W k
 |0=>rfl
 |k+1=>by rw[rc,rc,J0 h k,(h.way k).len]
theorem AV(k:Nat)(b:CZ):sS (k+1) b=if vT b.W 25=0 then some b else(sU b 5).bind (sS k):=rfl
theorem AW(k:Nat)(a:CL):kL (k+1) a=if vT a.W 25=0 then a else kL k (sweepTo a 5):=rfl
theorem CSim.sweeps[Nn n](k:Nat): ∀{a:CL} {b c:CZ},CSim n a b→sS k b=some c→CSim n (kL k a) c:=by
 induction k with
 |zero=>intro a b c h e;exact bm e▸h
 |succ k ih=>
  intro a b c h e;rw[AV]at e;rw[AW,J0 h 25]
  by_cases q:vT b.W 25=0
  · rw[if_pos q]at e ⊢;exact bm e▸h
  · rw[if_neg q]at e ⊢
    obtain⟨d,e1,e2⟩:=iY e;exact ih (h.sweepTo 5 (aH _) e1) e2
theorem CSim.settle[Nn n](h:CSim n a b): ∀(k:Nat) {c:CZ},sY b k=some c→CSim n (g8 a k) c
 |0,_,e=>bm e▸h
 |k+1,_,e=>by
  obtain⟨d,e1,e2⟩:=iY e;obtain⟨f,e3,e4⟩:=iY e2;have:=CSim.sweeps 400 ((CSim.settle h k e1).ticks 5 (aH _) e3) e4;rw[g8,ux];exact this
theorem CSim.new:CSim n CL.new CZ.new:=by
 refine⟨by simp[CL.new],by simp[CZ.new],by simp[CL.new],by simp[CZ.new],λi hi=>?_,λk=>?_⟩
 · obtain⟨D',e,lg,ha,hd⟩:=LogD.new.open rfl rfl
   have es:(cO i DS.new).1=some (tv ((i:Nat):Int) (⟨0,((fe []:Nat):Int),D'⟩:LD)):=by
    unfold cO;rw[e];rfl
   have eb:CZ.new.at' i=⟨some (tv ((i:Nat):Int) []),[]⟩:=by simp[CZ.new,CZ.at',List.getD_eq_getElem?_getD,hi]
   rw[eb];exact .up (by rw[(Fv hi).1];exact es) rfl (Jx ⟨hd,ha,[],lg,rfl,rfl,aO _, .nil⟩)
 · have z: ∀k,(List.replicate 25 ([]:List MsgT)).getD k []=[]:=λk=>by
    rw[List.getD_eq_getElem?_getD,List.getElem?_replicate];split<;>rfl
   show WayS n ((List.replicate 25 ([]:List MsgT)).getD k []) ((List.replicate 25 ([]:List MsgT)).getD k []);rw[z];exact .nil
def JH(i:Int):OpT:=⟨10,i,0,0,0, .zero,0, -1,0⟩
def JF(i:Int):OpT:=⟨11,i,0,0,0, .zero,0,0,0⟩
theorem D5{a:CL}{i:Nat}(hi:i<5){o:OpT}(h:o.at'=((i:Nat):Int)): ¬gP o.at'=false:=by rw[h,show gP ((i:Nat):Int)=true from decide_eq_true ⟨by omega,by omega⟩];decide
theorem CSim.crash(h:CSim n a b){i:Nat}(hi:i<5):CSim n (pG a (JH ((i:Nat):Int))).1 (F3 b i):=by
 have e:(pG a (JH ((i:Nat):Int))).1=a.set i (nL (a.at' i) 0 (-1) 0):=by
  unfold pG;rw[if_neg (D5 (a:=a) hi rfl)];rfl
 rw[e];unfold F3;rcases h.run i hi with⟨hs,ht,r⟩| ⟨hs,ht,r⟩
 · rename_i s t
   rw[ht];refine h.put hi (.down rfl rfl ?_) h.W h.V h.way;show DkS n ((a.at' i).dk.crash 0 (-1) 0) t.e;unfold Slot.dk;rw[hs];exact r.crash _ _ _
 · rw[ht]
   have e2:b=⟨b.ms.set i (b.at' i),b.W⟩:=by
    have hb:i<b.ms.length:=by rw[h.bs];exact hi
    have:b.ms.set i (b.at' i)=b.ms:=by
     apply List.ext_getElem?;intro j;rw[List.getElem?_set];split
     · rename_i q
       subst q;unfold CZ.at';rw[List.getD_eq_getElem?_getD,List.getElem?_eq_getElem hb];rfl
     · rfl
    rw[this]
   show CSim n _ b;rw[e2];refine h.put hi (.down rfl ht ?_) h.W h.V h.way;show DkS n ((a.at' i).dk.crash 0 (-1) 0) _;unfold Slot.dk;rw[hs];obtain⟨ls,hl,hz,hb⟩:=r.log;obtain⟨c1,c2,c3⟩:=hl.crash 0 (-1) 0;exact⟨c3,c2,ls,c1,hz,hb⟩
theorem CSim.start[Nn n](h:CSim n a b){i:Nat}(hi:i<5){c:CZ}(hc:E3 b i=some c):CSim n (pG a (JF ((i:Nat):Int))).1 c:=by
 have e:(pG a (JF ((i:Nat):Int))).1=a.set i (iF i (a.at' i)).1:=by
  unfold pG;rw[if_neg (D5 (a:=a) hi rfl)];rfl
 rw[e];unfold E3 at hc;rcases h.run i hi with⟨hs,ht,r⟩| ⟨hs,ht,r⟩
 · rw[ht]at hc;cases hc
 · rw[ht]at hc
   have hc:(wO i (b.at' i).log).map (λt=>b.put i ⟨some t,[]⟩)=some c:=hc;cases hq:wO i (b.at' i).log with
   |none=>rw[hq]at hc;cases hc
   |some t=>
    rw[hq]at hc;obtain rfl:=bm hc;obtain⟨s,e1,_,r2⟩:=r.start i hq;rw[Cv hs];exact h.put hi (.up e1 rfl r2) h.W h.V h.way
end
def zj(b:CZ)(i:Nat):Option (MS LL):=match(b.at' i).up with
 |some t=>some t
 |none=>wO i (b.at' i).log
def AH(b:CZ)(i w:Nat)(r:RowT):RowT:=match zj b w with
 |some s=>tn r (mirRow s.mirror ((i:Nat):Int))
 |none=>r
def wE(b:CZ)(i:Nat):RowT:=AH b i ((i+2)%5) (AH b i ((i+1)%5) .zero)
def fA(a:CL):Nat→ViewT
 |0=>firstV
 |j+1=>match jA a j with
  |some s=>if s.view.epoch>(fA a j).epoch then s.view else fA a j
  |none=>fA a j
def zW(b:CZ):Nat→ViewT
 |0=>firstV
 |j+1=>match zj b j with
  |some s=>if s.view.epoch>(zW b j).epoch then s.view else zW b j
  |none=>zW b j
def Ge(b:CZ):Bool:=(List.range 5).all λi=>(zj b i).isSome
section
variable {n:Int} {a:CL} {b:CZ}
theorem DkS.sure{D:DS}{k:LL}(h:DkS n D k):DkS n (ny D) k:=by
 obtain⟨ls,hl,hs,hb⟩:=h.log;obtain⟨r,_⟩:=EW (Q:=λ_=>False) (.inl (.inl hl));have c:=(qt hl.ok.s 2048 (aH _)).1.sync;rcases r with r| ⟨_,q,_⟩
 · exact⟨c.dn,c.ar,ls,r,hs,hb⟩
 · exact q.elim
theorem CSim.seen[Nn n](h:CSim n a b)(hz:Ge b=true){i:Nat}(hi:i<5): ∃s u,jA a i=some s∧zj b i=some u∧Rl n s u:=by
 unfold Ge at hz;rw[List.all_eq_true]at hz;have hz:=hz i (eX.2 hi);rcases h.run i hi with⟨hs,ht,r⟩| ⟨hs,ht,r⟩
 · rename_i s t
   refine⟨s,t,?_,by unfold zj;rw[ht],r⟩;unfold jA Slot.up;rw[hs];show(if(!s.e.D.dn)=true then _ else _)=_;rw[r.e.dn];rfl
 · unfold zj at hz ⊢
   rw[ht]at hz ⊢;obtain⟨u,hu⟩:=Option.isSome_iff_exists.1 hz;obtain⟨s,e1,_,r2⟩:=r.sure.start i hu;refine⟨s,u,?_,hu,r2⟩;unfold jA Slot.up Slot.dk;rw[hs];exact e1
theorem Nk{x y x' y':RowT}(h:RowS n x y)(g:RowS n x' y'):RowS n (tn x x') (tn y y'):=by
 unfold tn;rw[h.ver,g.ver];split
 · exact g
 · exact h
theorem CSim.wantW[Nn n](h:CSim n a b)(hz:Ge b=true){i w:Nat}(hw:w<5){x y:RowT}(g:RowS n x y):RowS n (wantW a i w x) (AH b i w y):=by
 obtain⟨s,u,e1,e2,r⟩:=h.seen hz hw;unfold Api.wantW AH;rw[e1,e2];exact Nk g (r.mirRow _)
theorem CSim.want[Nn n](h:CSim n a b)(hz:Ge b=true)(i:Nat):RowS n (ru a i) (wE b i):=h.wantW hz (IU _ (by decide)) (h.wantW hz (IU _ (by decide)) .zero)
theorem CSim.last[Nn n](h:CSim n a b)(hz:Ge b=true): ∀j,j≤5→fA a j=zW b j
 |0,_=>rfl
 |j+1,hj=>by
  obtain⟨s,u,e1,e2,r⟩:=h.seen hz (show j<5 by omega);unfold fA zW;rw[e1,e2,CSim.last h hz j (by omega)];show(if s.view.epoch>_ then s.view else _)=(if u.view.epoch>_ then u.view else _);rw[r.view]
theorem NumS.one{u u' v:Int}(h:NumS n u v)(g:NumS n u' v):u=u':=by
 obtain⟨a,b,h1,h2,h3,h4⟩:=h;obtain⟨c,d,g1,g2,g3,g4⟩:=g;obtain rfl:a=c:=by omega
 omega
theorem CellS.one{c c' d:CellT}(h:CellS n c d)(g:CellS n c' d):c=c':=by
 have h3:c.given=c'.given:=Vector.ext λj hj=>(h.given j hj).one (g.given j hj)
 have h1:=h.inn.one g.inn;have h2:=h.out.one g.out;cases c;cases c';simp only at h1 h2 h3;rw[h1,h2,h3]
theorem RowS.one{x x' y:RowT}(h:RowS n x y)(g:RowS n x' y):x=x':=by
 have h1:=h.ver.trans g.ver.symm;have h2:x.cells=x'.cells:=Vector.ext λk hk=>(h.cells k hk).one (g.cells k hk)
 have h3:=h.heir.trans g.heir.symm;have h4:x.left=x'.left:=Vector.ext λi hi=>Vector.ext λk hk=>(h.left i k hi hk).one (g.left i k hi hk)
 cases x;cases x';simp only at h1 h2 h3 h4;rw[h1,h2,h3,h4]
def G5(c d:CellT):Bool:=decide (c.inn=d.inn)&&(decide (c.out=d.out)&&decide (c.given.toList=d.given.toList))
theorem Eh{c d:CellT}(h:G5 c d=true):c=d:=by
 unfold G5 at h;simp only[an,decide_eq_true_eq]at h;obtain⟨h1,h2,h3⟩:=h;have h3:=Vector.toList_inj.1 h3;cases c;cases d;simp only at h1 h2 h3;rw[h1,h2,h3]
def Nd(x y:RowT):Bool:=decide (x.version=y.version)&&(decide (∀(k:Nat) (_:k<4),G5 x.cells[k] y.cells[k]=true)&&(decide (x.heir.toList=y.heir.toList)&&decide (∀(i:Nat) (_:i<5) (k:Nat) (_:k<4),G5 x.left[i][k] y.left[i][k]=true)))
theorem Lx{x y:RowT}(h:Nd x y=true):x=y:=by
 unfold Nd at h;simp only[an,decide_eq_true_eq]at h;obtain⟨h1,h2,h3,h4⟩:=h;have h2:x.cells=y.cells:=Vector.ext λk hk=>Eh (h2 k hk)
 have h3:=Vector.toList_inj.1 h3;have h4:x.left=y.left:=Vector.ext λi hi=>Vector.ext λk hk=>Eh (h4 i hi k hk)
 cases x;cases y;simp only at h1 h2 h3 h4;rw[h1,h2,h3,h4]
def Gc(b:CZ)(i:Nat)(o:OpT)(e:Int):Option CZ:=(Ml 2 b i o).bind λr=>if r.2=e then some r.1 else none
def JG(k a t N:Int):OpT:=⟨k,a,t,0,N, .zero,0,0,0⟩
def N2(a k w h:Int):OpT:=⟨4,a,0,0,0,⟨k,w,h⟩,0,0,0⟩
def nz(a:CL)(w:Nat):Nat→CL
 |0=>a
 |k+1=>pN (nz a w k) w ((w+1+k%2)%5)
def EZ(b:CZ)(w:Nat):Nat→Option CZ
 |0=>some b
 |k+1=>(EZ b w k).bind λb=>Gm b w ((w+1+k%2)%5)
theorem CSim.ask[Nn n](h:CSim n a b)(h2:2≤n){i:Nat}(hi:i<5){o o':OpT}(ho:OpS n o o')(hat:o.at'=((i:Nat):Int))(hk:0≤o.kind∧o.kind≤4){c:CZ}{e:Int}(hc:Gc b i o' e=some c):CSim n (pG a o).1 c∧(pG a o).2=e:=by
 obtain⟨r,h1,h3⟩:=iY hc;split at h3
 · rename_i q
   have:=h.do hi h2 ho hat hk (c:=r.1) (e:=r.2) h1
   rw[←bm h3,←q];exact this
 · cases h3
theorem CSim.steps[Nn n](h:CSim n a b){w:Nat}(hw:w<5): ∀(k:Nat) {c:CZ},EZ b w k=some c→CSim n (nz a w k) c
 |0,_,e=>bm e▸h
 |k+1,_,e=>by
  obtain⟨d,e1,e2⟩:=iY e;exact(CSim.steps h hw k e1).step hw (IU _ (by decide)) e2
def Qb(w:Nat):Option CZ:=(Gc .new w (JG 0 w 0 1000) 0).bind λb=>(sY b 3).bind λb=>Gc b w (JG 1 w 0 1) 0
def Qa(w k:Nat)(b:CZ):Option CZ:=(EZ b w k).bind λb=>(Gc (F3 b w) (w+1) (N2 (((w+1:Nat):Int)) 1 w (((w+1:Nat):Int))) 0).bind λb=>sY b 5
def P9(w:Nat)(b:CZ):Option CZ:=(E3 b w).bind λb=>(Gc b w (JG 1 w 0 1) 8).bind λb=>sY b 5
def wk(b:CZ)(i:Nat):Bool:=match(b.at' i).up with
 |some t=>decide (dG t.book ((i:Nat):Int) 0=999)
 |none=>false
def N8(w:Nat)(b c d:CZ):Bool:=Ge b&&Ge c&&decide (iS (zW b 5) ((w:Nat):Int)=false)&&(match(b.at' (w+1)).up with
 |some t=>decide (heirAt t.own ((w:Nat):Int)=(wE b w).version+1)
 |none=>false)&&wk b (w+1)&&wk d (w+1)&&Nd (wE c w) (wE b w)
def yk(w k:Nat):Bool:=match(Qb w).bind (Qa w k)with
 |none=>false
 |some b=>match P9 w b with
  |none=>false
  |some c=>match Gc c w (JG 1 w 0 1) 9 with
   |none=>false
   |some d=>N8 w b c d
theorem Og:yk 0 0=true:=by decide+kernel
theorem Of:yk 0 1=true:=by decide+kernel
theorem Oe:yk 0 2=true:=by decide+kernel
theorem Od:yk 0 3=true:=by decide+kernel
theorem Oc:yk 1 0=true:=by decide+kernel
theorem Ob:yk 1 1=true:=by decide+kernel
theorem Oa:yk 1 2=true:=by decide+kernel
theorem N9:yk 1 3=true:=by decide+kernel
theorem KZ{w k:Nat}(hw:w≤1)(hk:k≤3):yk w k=true:=by
 match w,k,hw,hk with
 |0,0,_,_=>exact Og
 |0,1,_,_=>exact Of
 |0,2,_,_=>exact Oe
 |0,3,_,_=>exact Od
 |1,0,_,_=>exact Oc
 |1,1,_,_=>exact Ob
 |1,2,_,_=>exact Oa
 |1,3,_,_=>exact N9
end
section
variable (n:Int) (w k:Nat)
def yy:OpT:=JG 1 ((w:Nat):Int) 0 1
def No:OpT:=N2 (((w+1:Nat):Nat):Int) 1 ((w:Nat):Int) (((w+1:Nat):Nat):Int)
def zI:CL:=(pG .new (JG 0 ((w:Nat):Int) 0 n)).1
def zD:CL:=(pG (g8 (zI n w) 3) (yy w)).1
def zC:CL:=(pG (nz (zD n w) w k) (JH ((w:Nat):Int))).1
def zL:CL:=(pG (zC n w k) (No w)).1
def zZ:CL:=g8 (zL n w k) 5
def zT:CL:=(pG (zZ n w k) (JF ((w:Nat):Int))).1
def zE:CL:=(pG (zT n w k) (yy w)).1
def zF:CL:=g8 (zE n w k) 5
def zG:CL:=(pG (zF n w k) (yy w)).1
structure Heir(a:CL)(s:MS LD):Prop where
 run:(a.at' (w+1)).run=some s
 up:(a.at' (w+1)).up=true
 rights:dG s.book (((w+1:Nat):Nat):Int) 0=n-1
structure Zomb:Prop where
 out:iS (fA (zZ n w k) 5) ((w:Nat):Int)=false
 heir: ∃s,Heir n w (zZ n w k) s∧heirAt s.own ((w:Nat):Int)=(ru (zZ n w k) w).version+1
 back: ∃s,Heir n w (zG n w k) s
 row:ru (zF n w k) w=ru (zZ n w k) w
 err:(pG (zF n w k) (yy w)).2=9
 bd:0≤(ru (zZ n w k) w).version∧(ru (zZ n w k) w).version≤400
end
theorem OB{n:Int}:NumS n n 1000:=⟨1,0,⟨by decide,by decide⟩,⟨by decide,by decide⟩,by omega,by decide⟩
theorem OC{n:Int}:NumS n 1 1:=⟨0,1,⟨by decide,by decide⟩,⟨by decide,by decide⟩,by omega,by decide⟩
theorem MC{n:Int}(k a t:Int){N M:Int}(h:NumS n N M):OpS n (JG k a t N) (JG k a t M):=⟨rfl,rfl,rfl,rfl,rfl,h⟩
theorem OA{n:Int}(a k w h:Int):OpS n (N2 a k w h) (N2 a k w h):=⟨rfl,rfl,rfl,rfl,rfl, .zero⟩
theorem CSim.heir{n:Int}[Nn n]{a:CL}{b:CZ}(h:CSim n a b){w:Nat}(hw:w+1<5)(hr:wk b (w+1)=true): ∃s t,Heir n w a s∧(b.at' (w+1)).up=some t∧Rl n s t:=by
 unfold wk at hr;rcases h.run (w+1) hw with⟨hs,ht,r⟩| ⟨_,ht,_⟩
 · rename_i s t
   rw[ht]at hr;have hr:dG t.book (((w+1:Nat):Nat):Int) 0=999:=of_decide_eq_true hr;refine⟨s,t,⟨hs,?_,?_⟩,ht,r⟩
   · unfold Slot.up
     rw[hs];show(!s.e.D.dn)=true;rw[r.e.dn];rfl
   · obtain⟨x,y,h1,h2,h3,h4⟩:=r.book.rights (((w+1:Nat):Nat):Int) 0
     rw[hr]at h4;obtain rfl:x=1:=by omega
     omega
 · rw[ht]at hr;cases hr
theorem P8{n:Int}(hn:2≤n∧n≤1024){w k:Nat}(hw:w≤1)(hk:k≤3):Zomb n w k:=by
 have:Nn n:=⟨by omega,hn.2⟩;have hb:=KZ hw hk;unfold yk at hb;split at hb
 · cases hb
 rename_i b hb1;split at hb
 · cases hb
 rename_i c hc1;split at hb
 · cases hb
 rename_i d hd1;obtain⟨b0,ha,hb1⟩:=iY hb1;obtain⟨x1,c1,ha⟩:=iY ha;obtain⟨x2,c2,c3⟩:=iY ha;obtain⟨x4,c4,hb1⟩:=iY hb1;obtain⟨x5,c5,c6⟩:=iY hb1;obtain⟨x7,c7,hc1⟩:=iY hc1;obtain⟨x8,c8,c9⟩:=iY hc1;have h5:w<5:=by omega
 have hk0: ∀{k:Int},decide (0≤k∧k≤4)=true→0≤k∧k≤4:=λh=>of_decide_eq_true h
 have dec: ∀{a:CL} {b c:CZ} {e:Int},CSim n a b→Gc b w (JG 1 ((w:Nat):Int) 0 1) e=some c→CSim n (pG a (yy w)).1 c∧(pG a (yy w)).2=e:=λh hc=>h.ask hn.1 h5 (MC 1 _ 0 OC) rfl (hk0 rfl) hc
 have s1:=((CSim.new (n:=n)).ask hn.1 h5 (MC 0 ((w:Nat):Int) 0 OB) rfl (hk0 rfl) c1).1;have s3:=(dec (s1.settle 3 c2) c3).1;have s5:=((s3.steps h5 k c4).crash h5).ask hn.1 (show w+1<5 by omega) (OA (((w+1:Nat):Nat):Int) 1 ((w:Nat):Int) (((w+1:Nat):Nat):Int)) rfl (hk0 rfl) c5;have s6:CSim n (zZ n w k) b:=s5.1.settle 5 c6;have s7:=s6.start h5 c7;have s9:CSim n (zF n w k) c:=(dec s7 c8).1.settle 5 c9;obtain⟨s10,e10⟩:=dec s9 hd1;unfold N8 at hb;simp only[an,decide_eq_true_eq]at hb;obtain⟨⟨⟨⟨⟨⟨z1,z2⟩,z3⟩,z4⟩,z5⟩,z6⟩,z7⟩:=hb;obtain⟨s,t,hs,ht,r⟩:=s6.heir (by omega) z5;obtain⟨u,_,hu,_⟩:=s10.heir (by omega) z6;have want:=s6.want z1 w;refine⟨?_,⟨s,hs,?_⟩,⟨u,hu⟩,?_,e10,by rw[want.ver];exact want.vb⟩
 · have e:=s6.last z1 5 (aH _)
   rw[e];exact z3
 · rw[ht]at z4
   have z4:heirAt t.own ((w:Nat):Int)=(wE b w).version+1:=of_decide_eq_true z4;rw[r.own.heirAt,z4];rw[want.ver]
 · have g:=s9.want z2 w
   have e:wE c w=wE b w:=Lx z7;rw[e]at g;exact g.one want
end Api
end

section
namespace Leg
open Go
section
variable {P:Program} {w0:World} {F:Hl} {n:Nat} {D:List Deferred} {L:List (Nat×Value)} {H:List HP}
structure CellR(P:Program)(L:List (Nat×Value))(S:World→Prop)(t ty:Nat)(cs:List Value):Prop where
 r: ∃(b e m:Nat) (z:Nat×Nat) (dt:TypeDesc),lk L t=some (.pointer (some ⟨b,0,none⟩))∧P.underlying ty=some dt∧dR dt=false∧(P.info? ty).map (·.size)=some m∧Rd S b (.cells cs.toArray e z)∧cs.length=m
theorem CellR.of{S:World→Prop}{t ty b e m:Nat}{cs:List Value}{z:Nat×Nat}{dt:TypeDesc}(he:lk L t=some (.pointer (some ⟨b,0,none⟩)))(hu:P.underlying ty=some dt)(hp:dR dt=false)(hm:(P.info? ty).map (·.size)=some m)(hR:Rd S b (.cells cs.toArray e z))(hl:cs.length=m):CellR P L S t ty cs:=⟨b,e,m,z,dt,he,hu,hp,hm,hR,hl⟩
theorem CellR.run{S:World→Prop}{t ty:Nat}{cs:List Value}(h:CellR P L S t ty cs){a:Act}{w:World}(f:Fr n D L a)(q:S w): ∃b,a.tmps[t]?.getD undef= .pointer (some ⟨b,0,none⟩)∧(loadVar ty ⟨b,0,none⟩).run P w= .ok (.agg cs.toArray) w:=by
 obtain⟨b,e,m,z,dt,he,hu,hp,hm,hR,hl⟩:=h.r;have h1:a.tmps.getD t undef= .pointer (some ⟨b,0,none⟩):=f.eval (x:= .tmp t) he;exact⟨b,by simpa using h1,run_loadVar_row w b e ty cs.toArray z dt (hR w q) hu (by cases dt<;>simp[dR]at hp ⊢) (by simp[hm,hl])⟩
theorem TE.retCCC{H':List HP}{fn:Func}{post:Ending→List HP→Prop}{t t' u ty ty' uy:Nat}{cs cs' ds:List Value}(hr:fn.results=#[.cell t ty, .cell t' ty', .cell u uy])(h1:CellR P L (Sat H F) t ty cs)(h2:CellR P L (Sat H F) t' ty' cs')(h3:CellR P L (Sat H F) u uy ds)(hk: ∀h,bz H h→bz H' h)
 (h:post (.returned (.tuple #[.agg cs.toArray, .agg cs'.toArray, .agg ds.toArray])) H'):TE w0 F n (bodyPost P fn (jD post w0 F)) .ret [] L H:=λa w f s q=>by
 obtain⟨b1,e1,r1⟩:=h1.run f q;obtain⟨b2,e2,r2⟩:=h2.run f q;obtain⟨b3,e3,r3⟩:=h3.run f q
 have hres:(results fn a.tmps).run P w= .ok (.tuple #[.agg cs.toArray, .agg cs'.toArray, .agg ds.toArray]) w:=by
  simp[results,hr,e1,e2,e3,asAddr,r1,r2,r3]
 exact bodyPost_ret hres f.2.1 ⟨s,H',q.mono hk,h⟩
end
end Leg
namespace Api
open Go Leg Codec Dsk Wal
section
variable {a:CL} {i j:Nat}
theorem FG(h:jA a i=none):fA a (i+1)=fA a i:=by rw[fA,h]
theorem pz{s:MS LD}(h:jA a i=some s):fA a (i+1)=if s.view.epoch>(fA a i).epoch then s.view else fA a i:=by rw[fA,h]
def pL(a:CL)(i:Nat):Nat→RowT
 |0=> .zero
 |j+1=>wantW a i ((i+(j+1))%5) (pL a i j)
theorem EH(h:jA a ((i+(j+1))%5)=none):pL a i (j+1)=pL a i j:=by rw[pL,wantW,h]
theorem wF{s:MS LD}(h:jA a ((i+(j+1))%5)=some s):pL a i (j+1)=tn (pL a i j) (mirRow s.mirror ((i:Nat):Int)):=by rw[pL,wantW,h]
def cG(a:CL)(i j:Nat):Vector RowT 5:=Vector.ofFn λk=>if k.val<i then ru a k.val else if k.val=i then pL a i j else .zero
theorem C8(hi:i<5):(cG a i j)[i]=pL a i j:=by
 unfold cG;rw[Vector.getElem_ofFn,if_neg (by simp),if_pos rfl]
theorem HM(hi:i<5){x:RowT}(h:x=pL a i (j+1)):(cG a i j).set i x hi=cG a i (j+1):=by
 subst h;refine Vector.ext λk hk=>?_
 unfold cG;rw[Vector.getElem_set,Vector.getElem_ofFn,Vector.getElem_ofFn];split
 · rename_i q
   subst q;rw[if_neg (by simp),if_pos rfl]
 · rename_i q
   simp only
   by_cases h1:k<i
   · rw[if_pos h1,if_pos h1]
   · rw[if_neg h1,if_neg h1,if_neg (λz=>q z.symm),if_neg (λz=>q z.symm)]
theorem xc(h:pL a i (j+1)=pL a i j):cG a i (j+1)=cG a i j:=by unfold cG;rw[h]
theorem Fb:cG a i 2=cG a (i+1) 0:=by
 refine Vector.ext λk hk=>?_
 unfold cG;rw[Vector.getElem_ofFn,Vector.getElem_ofFn];simp only
 by_cases h1:k<i
 · rw[if_pos h1,if_pos (by omega)]
 · rw[if_neg h1]
   by_cases h2:k=i
   · subst h2
     rw[if_pos rfl,if_pos (by omega)];rfl
   · rw[if_neg h2,if_neg (by omega)]
     split<;>rfl
theorem Fa:cG a 0 0= #v[RowT.zero,RowT.zero,RowT.zero,RowT.zero,RowT.zero]:=by
 refine Vector.ext λk hk=>?_
 unfold cG;rw[Vector.getElem_ofFn]
 match k,hk with
 |0,_|1,_|2,_|3,_|4,_=>rfl
theorem oO{k:Nat}(hk:k<5):(cG a 5 0)[k]=ru a k:=by
 unfold cG;rw[Vector.getElem_ofFn,if_pos hk]
theorem K7(h:j<2):([.int .i64 ((((i:Nat):Int)+1)%5), .int .i64 ((((i:Nat):Int)+2)%5)]:List Value)[j]?=some (.int .i64 (((i+(j+1))%5:Nat):Int)):=by
 match j,h with
 |0,_=>exact congrArg (λz:Int=>some (Value.int .i64 z)) (by omega)
 |1,_=>exact congrArg (λz:Int=>some (Value.int .i64 z)) (by omega)
end
end Api
end

section
namespace Go.Proofs.YtmcjhkbcmmddgaaGreat
open Go Leg Codec Api Dsk Wal
theorem PY:(Tryz.prog.info? 52).map (·.zero)=some (some (.agg (ints ((#v[RowT.zero,RowT.zero,RowT.zero,RowT.zero,RowT.zero]:Vector RowT 5).toList.flatMap RowT.flat)).toArray)):=by kernel_rfl
theorem ln{D:DS}(hD:Whole D.s): ∀k,k≤2048→Wrote .new k (0,iE D k)∧(iE D k).ar=false∧(iE D k).dn=false
 |0,_=>⟨Wrote.none DkOk.new.ok DkOk.new.inn,rfl,rfl⟩
 |k+1,hk=>by
  obtain⟨h,ha,hd⟩:=ln hD k (by omega);rw[iE];split
  · exact⟨h.more (by omega),ha,hd⟩
  · have h1:0≤((k:Nat):Int)∧((k:Nat):Int)<2048:=by omega
    have h2:(gE D.s ((k:Nat):Int)).length≤64:=by rw[cz hD];exact aH _
    have w:=nj h1 h2 hd (.inl ha);have o:=Wrote.one h.1 h.2.1 h1 h2;rw[w]at o ⊢;exact⟨h.then rfl o,by show(vQ _ _ _).ar=false;unfold vQ;exact ha,rfl⟩
theorem Cp{D:DS}(hD:Whole D.s):DkOk (ny D):=by
 obtain⟨h,_⟩:=ln hD 2048 (aH _);exact(DkOk.wrote DkOk.new h (aH _)).2
theorem EX{D:DS}(hD:Whole D.s)(k:Nat)(hk:k≤2048):(iE D k).ws.length≤2048:=by
 obtain⟨⟨_,_,h⟩,_,hd⟩:=ln hD k hk;rcases h with⟨h,_⟩| ⟨_,h,_⟩
 · cases h
 · have:(DS.new).ws.length=0:=rfl
   have h:(iE D k).ws.length≤(DS.new).ws.length+k:=h;omega
def P5(a:CL)(i:Nat)(d r:Nat):HP:=match MW a i with
 |some s=>fp s d r
 |none=>λ_=>True
abbrev u0(a:CL)(d r:Nat→Nat)(j:Nat):HP:=P5 a j (d j) (r j)
def yN(a:CL)(d r:Nat→Nat):HP:=bz ((List.range 5).map (u0 a d r))
def rA(a:CL)(g:CX)(r:Nat→Nat)(i:Nat):Nat:=if(a.at' i).up then g.r i else r i
def nB(a:CL)(g:CX)(r:Nat→Nat)(i:Nat):Value:=match jA a i with
 |some _=> .pointer (some ⟨rA a g r i,0,none⟩)
 |none=> .pointer none
def il(a:CL)(g:CX)(r:Nat→Nat)(i:Nat):List Value:=(List.range 5).map λj=>if j<i then nB a g r j else .pointer none
section
variable {a:CL} {g:CX} {r d:Nat→Nat} {i x y:Nat}
theorem gk:(il a g r i).length=5:=by simp[il]
theorem xB: ∀u∈il a g r i,u.oneCell'=true:=λu hu=>by
 unfold il at hu;obtain⟨j,_,rfl⟩:=gd.1 hu;unfold nB
 repeat' split
 all_goals rfl
theorem xA{v:Value}(hi:i<5){r':Nat→Nat}(hr: ∀j,j<i→nB a g r' j=nB a g r j)(hv:v=nB a g r' i):(il a g r i).set i v=il a g r' (i+1):=by
 refine List.ext_getElem? λj=>?_
 unfold il
 by_cases hj:j=i
 · subst hj
   rw[List.getElem?_set_self (by simp;omega),List.getElem?_map,List.getElem?_range hi];simp[hv]
 · rw[List.getElem?_set_ne (λe=>hj e.symm),List.getElem?_map,List.getElem?_map]
   by_cases h5:j<5
   · rw[List.getElem?_range h5]
     simp only[Option.map_some]
     by_cases h:j<i
     · rw[if_pos h,if_pos (by omega),hr j h]
     · rw[if_neg h,if_neg (by omega)]
   · rw[List.getElem?_eq_none (by rw[vL];omega)];rfl
theorem m4{v:Value}(hi:i<5):((il a g r i).set i v)[i]?=some v:=List.getElem?_set_self (by rw[gk];exact hi)
theorem xC{j:Nat}(hj:j<5):(il a g r 5)[j]?=some (nB a g r j):=by
 unfold il;rw[List.getElem?_map,List.getElem?_range hj];simp[hj]
theorem sZ{s:MS LD}(hu:(a.at' i).up=true)(hs:(a.at' i).run=some s):jA a i=some s:=by unfold jA;rw[if_pos hu];exact hs
theorem oL(hu:(a.at' i).up=false):jA a i=(cO i (ny (a.at' i).dk)).1:=by unfold jA;rw[if_neg (by rw[hu];decide)]
theorem BS(hu:(a.at' i).up=false):MW a i=(cO i (ny (a.at' i).dk)).1:=by unfold MW;rw[if_neg (by rw[hu];decide)]
theorem lK{s:MS LD}(hs:jA a i=some s):nB a g r i= .pointer (some ⟨rA a g r i,0,none⟩):=by unfold nB;rw[hs]
theorem w8(hs:jA a i=none):nB a g r i= .pointer none:=by unfold nB;rw[hs]
theorem HF{j:Nat}(hj:j<i):nB a g (kT r i y) j=nB a g r j:=by
 unfold nB rA;rw[np r y (show j≠i by omega)]
theorem GS{s:MS LD}(hi:i<5)(hu:(a.at' i).up=true)(hs:(a.at' i).run=some s):(il a g r i).set i (.pointer (some ⟨g.r i,0,none⟩))=il a g r (i+1):=
 xA hi (λ_ _=>rfl) (by rw[lK (sZ hu hs)];unfold rA;rw[if_pos hu])
theorem Ik(hi:i<5)(hu:(a.at' i).up=false)(hn:(cO i (ny (a.at' i).dk)).1=none):((il a g r i).set i (.pointer none)).set i (.pointer none)=il a g r (i+1):=by
 rw[fZ];exact xA hi (λ_ _=>rfl) (by rw[w8 ((oL hu).trans hn)])
theorem zR{s:MS LD}(hi:i<5)(hu:(a.at' i).up=false)(hn:(cO i (ny (a.at' i).dk)).1=some s):((il a g r i).set i (.pointer none)).set i (.pointer (some ⟨y,0,none⟩))=il a g (kT r i y) (i+1):=by
 rw[fZ];refine xA hi (λj hj=>HF hj) ?_;rw[lK ((oL hu).trans hn)];unfold rA;rw[if_neg (by rw[hu];decide),jx]
theorem yb{H:List HP}{h:Hl}(hn:MW a i=none)(s:bz (bz ((List.range i).map (u0 a d r))::H) h):bz (bz ((List.range (i+1)).map (u0 a d r))::H) h:=by
 refine xi (f:=u0 a d r) (g:=u0 a d r) (λ_ _=>rfl) ?_;have e:u0 a d r i= λ_=>True:=by unfold u0 P5;rw[hn]
 rw[e];exact qw s
theorem Em{s:MS LD}{H:List HP}{h:Hl}(hn:MW a i=some s)(q:bz (fp s x y::bz ((List.range i).map (u0 a d r))::H) h):bz (bz ((List.range (i+1)).map (u0 a (kT d i x) (kT r i y)))::H) h:=by
 refine xi (f:=u0 a d r) (g:=u0 a (kT d i x) (kT r i y)) (λj hj=>by unfold u0;rw[np d x (show j≠i by omega),np r y (show j≠i by omega)]) ?_;have e:u0 a (kT d i x) (kT r i y) i=fp s x y:=by unfold u0 P5;rw[hn,jx,jx]
 rw[e];exact q
theorem G7{f:FuncId}{args:Nat→Array Value}{Q:Value→Prop}{c:Nat}{s:MS LD}(hi:i<5)(hs:jA a i=some s)(hf: ∀d r,DT f (args r) T0 [fp s d r] (dH λv H=>Q v∧H=[fp s d r])):
 DT f (args (rA a g r i)) T0 [eh c a g,yN a d r] (dH λv H=>Q v∧H=[eh c a g,yN a d r]):=by
 cases hu:(a.at' i).up with
 |true=>
  have hr:(a.at' i).run=some s:=by unfold jA at hs;rw[if_pos hu]at hs;exact hs
  unfold rA;rw[if_pos hu];refine Leg.Does.withinR (B:=[yN a d r]) (zS hi hr (hf (g.d i) (g.r i))) (λ_ _ _ _=>trivial) (λh q=>q) λv H hp=>?_
  obtain⟨hQ,rfl⟩:=hp;exact⟨_,λ_ q=>q,hQ,rfl⟩
 |false=>
  have ha:MW a i=some s:=by rw[BS hu,←oL hu];exact hs
  unfold rA;rw[if_neg (by rw[hu];decide)];have e:u0 a d r i=fp s (d i) (r i):=by unfold u0 P5;rw[ha]
  refine Leg.Does.withinR (B:=[bz (((List.range 5).map (u0 a d r)).eraseIdx i),eh c a g]) (hf (d i) (r i)) (λ_ _ _ _=>trivial) (λh q=>?_) λv H hp=>?_
  · have q2:=uA (f:=u0 a d r) hi (az [1,0] rfl q)
    rw[e]at q2;exact q2
  · obtain⟨hQ,rfl⟩:=hp
    refine⟨[eh c a g,yN a d r],λh q=>?_,hQ,rfl⟩;refine az [1,0] rfl (uz (H:=[eh c a g]) (f:=u0 a d r) (g:=u0 a d r) hi (λ_ _=>rfl) ?_);rw[e];exact q
end
section
variable {P:Program} {n:Nat} {D:List Deferred} {L:List (Nat×Value)} {S:World→Prop} {o:Oper} {t t':TypeId} {x y:Operand} {a:CL} {g:CX} {r:Nat→Nat} {j:Nat}
theorem PV.seenNot(ho:o.op= .binOp .neq t x y t')(hu:P.underlying t=some (.pointer (P.pointee t)))(hx:cK L x=some (nB a g r j))(hy:cK L y=some (.pointer none)):PV P n D L S o (.bool (jA a j).isSome):=by
 cases hs:jA a j with
 |none=>rw[w8 hs]at hx;exact gQ ho hu hx hy
 |some s=>rw[lK hs]at hx;exact gH ho hu hx hy
end
theorem C4{n:Nat}{a:CL}(h:CLOk n a){j:Nat}(hj:j<5){s:MS LD}(hs:jA a j=some s):OkR KD s:=by
 unfold jA at hs;split at hs
 · exact((h.at' j hj).run s hs).1
 · exact(ul hj (Cp (h.at' j hj).dk.ok.s) hs).1
theorem Po{s:MS LD}(h:OkR KD s)(w:Int):WF (mirRow s.mirror w).flat:=by
 unfold mirRow;split
 · exact(h.mir _ _).wf
 · exact Eu OkRow.zero
theorem EY(c i k:Nat)(a:CL)(g:CX)(hi:i<5)(hok:DkOk (a.at' i).dk):DT 39 #[.pointer (some ⟨g.d i,0,none⟩), .int .i64 ((k:Nat):Int)] T0 [eh c a g] (RI (.agg (ek (gE (a.at' i).dk.s ((k:Nat):Int))).toArray) [eh c a g]):=by
 refine l3 (G2 (Q:=λv X=>v= .agg (ek (gE (a.at' i).dk.s ((k:Nat):Int))).toArray∧X=[]) hi ?_) λv H hp=>?_
 · refine Leg.Does.withinR (B:=[ah c (eZ g.n (my g) (kh a g.r) g.p) 71,eB 110 160 5 g.n (cM a.W),mD (g.p i) (a.at' i).past,rj (a.at' i) (g.d i) (g.r i)]) (Mc (g.d i) (a.at' i).dk ((k:Nat):Int) hok.ok) (λ_ _ _ _=>trivial) (λh q=>az [2,0,0,0,0] rfl q) λv H hp=>?_
   obtain⟨rfl,rfl⟩:=hp;exact⟨_,λh q=>az [1,1,0,0,0] rfl q,[],⟨rfl,rfl⟩,(aW _).symm⟩
 · obtain⟨X,⟨rfl,rfl⟩,rfl⟩:=hp
   exact⟨rfl,rfl⟩
theorem sQ(c n:Nat)(a:CL)(g:CX)(h:CLOk n a):
 DT 16 #[(.pointer (some ⟨c,0,none⟩))] T0 [eh c a g] (dH (λv H=>∃d r:Nat→Nat,v= .tuple #[.agg (ints ((cG a 5 0).toList.flatMap RowT.flat)).toArray, .agg (ints (fA a 5).flat).toArray, .agg (il a g r 5).toArray]∧H=[eh c a g,yN a d r])):=by
 refine BD 113 Tryz.func16 rfl rfl rfl λw0 F hF=>sr λ_ J1=>XZ PY (ints ((#v[RowT.zero,RowT.zero,RowT.zero,RowT.zero,RowT.zero]).toList.flatMap RowT.flat)) λb2=>?_
 refine XZ rN (ints ViewT.zero.flat) λb3=>?_
 refine XA PX λb4=>?_
 refine nx J1 (sr λ_ J2=>XA PX λb5=>?_);refine nx J2 (sr λ_ J3=>CE QB (su) ID ?_);refine XZ rN (ints ViewT.zero.flat) λb6=>?_
 refine SW 0 bi am ?_;refine nx J3 (aa λ_ J4=>sr λ_ J5=>PS ?_);refine nx J5 (aq ?_)
 refine bD (α:=(Nat)×(Nat→Nat)×(Nat→Nat)) (λ⟨i,d,r⟩=>i≤5) (λ⟨i,d,r⟩=>[(0,(.pointer (some ⟨c,0,none⟩))),(2,(.pointer (some ⟨b2,0,none⟩))),(3,(.pointer (some ⟨b3,0,none⟩))),(4,(.pointer (some ⟨b4,0,none⟩))),(5,(.pointer (some ⟨b5,0,none⟩))),(6,(.pointer (some ⟨b6,0,none⟩))),(18,(.int .i64 (((i:Nat):Int))))]) (λ⟨i,d,r⟩=>[eh c a g,ah b5 (il a g r i) 53,ah b6 (ints (fA a i).flat) 29,bz ((List.range i).map (u0 a d r)),ah b2 (ints ((#v[RowT.zero,RowT.zero,RowT.zero,RowT.zero,RowT.zero]).toList.flatMap RowT.flat)) 52,ah b3 (ints ViewT.zero.flat) 29,ah b4 [(.pointer none),(.pointer none),(.pointer none),(.pointer none),(.pointer none)] 53]) (λ⟨i,d,r⟩=>5-i) (0,λ_=>0,λ_=>0)
  (aO _) SB
  (λ_ q=>az [1,1,1,0,0,0,0] rfl (qw (ak [5,1,0,2,1,0] rfl q))) (λ⟨i,d,r⟩ hinv=>?_)
 obtain hi:=hinv;refine sr λ_ J6=>PS ?_
 refine ap ?_ ?_<;>intro h19;refine nx J6 (aa λ_ J7=>CY (qx J7 (aa λ_ J8=>aq (sr λ_ J9=>P2 ?_))));refine nx J9 (aa λ_ J10=>sr λ_ J11=>P3 ?_);refine CR L1 (FC (i:=i) (by omega)) ID λvR HR hR=>?_
 rcases hR with⟨hup,rfl,rfl⟩| ⟨s,hrun,hup,rfl,rfl⟩
 refine IX i rk iN ?_;refine bO (i:=1) (ab rfl) rfl rfl rfl rfl rfl iN rfl rfl (by simp only[dK,gk];omega) rfl rfl (nx J11 (sr λ_ J12=>PS ?_));refine IX i rk iN ?_;refine LT 1 qd (.pointer none) ?_ (hc:=by exact m4 (by omega));refine tp (Ru rfl qd rfl rfl) ?_;refine nx J12 (CY (sr λ_ J13=>?_));have hok:DkOk (a.at' i).dk:=(h.at' i (by omega)).dk;refine CR OU (Kp) ID λvR HR hR=>?_
 obtain⟨dn,rfl,rfl⟩:=hR;refine PS ?_;refine nx J13 (aa λ_ J14=>sr λ_ J15=>PS ?_);refine nx J15 (aq ?_)
 refine bD (α:=(Nat)) (λk=>k≤2048) (λk=>[(0,(.pointer (some ⟨c,0,none⟩))),(2,(.pointer (some ⟨b2,0,none⟩))),(3,(.pointer (some ⟨b3,0,none⟩))),(4,(.pointer (some ⟨b4,0,none⟩))),(5,(.pointer (some ⟨b5,0,none⟩))),(6,(.pointer (some ⟨b6,0,none⟩))),(7,(.int .i64 (((i:Nat):Int)))),(8,(.pointer (some ⟨dn,0,none⟩))),(18,(.int .i64 (((i:Nat):Int)))),(31,(.int .i64 (((k:Nat):Int))))]) (λk=>[eh c a g,dk dn (iE (a.at' i).dk k),ah b5 ((il a g r i).set i (.pointer none)) 53,ah b6 (ints (fA a i).flat) 29,bz ((List.range i).map (u0 a d r)),ah b2 (ints ((#v[RowT.zero,RowT.zero,RowT.zero,RowT.zero,RowT.zero]).toList.flatMap RowT.flat)) 52,ah b3 (ints ViewT.zero.flat) 29,ah b4 [(.pointer none),(.pointer none),(.pointer none),(.pointer none),(.pointer none)] 53]) (λk=>2048-k) 0
  (aO _) SB
  (λ_ s=>ak [1,0,0,0,0,0,0,0] rfl s) (λk hinv=>?_)
 obtain hk:=hinv;refine sr λ_ J16=>PS ?_
 refine ap ?_ ?_<;>intro h32;refine nx J16 (aa λ_ J17=>CY (qx J17 (aa λ_ J18=>aq (sr λ_ J19=>P2 ?_))));refine nx J19 (sr λ_ J20=>P2 ?_);refine CE QN (FZ (i:=i) (by omega)) ID ?_;refine PS ?_;refine CE QM (EY c i k a g (by omega) hok) ID ?_;refine XA M3 λb10=>?_
 refine bL (vs:=ek (gE (a.at' i).dk.s ((k:Nat):Int))) (i:=0) (ab rfl) rfl rfl rfl rfl rfl (by rw[aZ,cz hok.ok.s];exact nY) (fl _) rfl rfl (by rw[aZ,cz hok.ok.s];exact aH _) (gC (by rw[aZ,cz hok.ok.s];rfl)) rfl (nx J20 (sr λ_ J21=>tp (aM (vs:=ek (gE (a.at' i).dk.s ((k:Nat):Int))) rfl BZ rfl nY rfl (RO 0) (by rw[aZ];exact cz hok.ok.s _) (by rw[be,aD (by rw[aZ,cz hok.ok.s];exact aH _)])) ?_));refine BV ((ek zs).toArray) ?_;refine tp (PV.neqB (a:=(gE (a.at' i).dk.s ((k:Nat):Int))) (b:=zs) (m:=2) Oo On rfl Oq Ou Ot (cz hok.ok.s _) (by simp[zs]) rfl rfl rfl) ?_;refine ap ?_ ?_<;>intro h41;refine nx J21 (CY (ad (P2 ?_)));refine tp (ol rfl BZ lT rfl) ?_;refine CF NG (xQ dn (iE (a.at' i).dk k) ((k:Nat):Int) (.slice (some ⟨b10,0,none⟩) (64) (64)) ((gE (a.at' i).dk.s ((k:Nat):Int))) (ln hok.ok.s k (by omega)).1.1 (by have:=EX hok.ok.s k (by omega);omega)) (SM [2]) (λg d s=>KQ (DH 0 64 (cz hok.ok.s _) (by decide) rfl rfl g d s)) ?_;refine aw (af (ac J18 (ad (AD ?_))));refine PS ?_;refine aw ?_
 exact aL ((k+1):(Nat)) (by omega) (by show 2048- (k+1)<2048-k;omega)
  SB
  (λ_ s=>by rw[iE,if_neg h41];exact ak [2,0,1,1,1,1,1,1] rfl s)
 refine nx J21 (CN (aS (af (ac J18 (ad (AD ?_))))));refine PS ?_;refine aw ?_
 exact aL ((k+1):(Nat)) (by omega) (by show 2048- (k+1)<2048-k;omega)
  SB
  (λ_ s=>by rw[iE,if_pos (Decidable.not_not.1 h41)];exact ak [1,1,1,1,1,1,1,1] rfl s)
 refine nx J16 (aa λ_ J22=>CN (bh (aC (aC (bC (ac J14 (sr λ_ J23=>?_)))))));obtain rfl:k=2048:=by omega
 refine PS ?_;refine CE NF (BB dn (iE (a.at' i).dk 2048) (ln hok.ok.s 2048 (by omega)).1.1) (SM [1]) ?_;refine nx J23 (ad (P3 ?_));refine CR NH (qv i dn (ny (a.at' i).dk) (Cp hok.ok.s)) ID λvR HR hR=>?_
 rcases hR with⟨hn,h0,rfl,rfl⟩| ⟨s,rn,hn,rfl,rfl⟩
 refine P3 ?_;refine IX i rk iN ?_;refine bO (i:=2) (ab rfl) rfl rfl rfl rfl rfl iN rfl rfl (by simp only[dK,gk];omega) rfl rfl (nx J10 (aa λ_ J24=>D2 3 2 dA ?_));refine PD 0 ?_;refine IY 1 i rk iN ?_;refine LX 2 qd (.pointer none) ?_ (hc:=by exact by rw[fZ];exact m4 (by omega));refine ta 3 rfl (gQ rfl qd rfl rfl) ?_;refine PD 4 ?_;refine NT 5 ?_;refine NT 6 ?_;refine NT 7 ?_;refine NT 8 ?_;refine NT 9 ?_;refine NT 10 ?_;refine NT 11 ?_;refine NT 12 ?_;refine PD 13 ?_;refine DN (ac J24 (CN (aS (af (ac J8 (ad (AD ?_)))))));refine PS ?_;refine aw ?_
 exact aL ((i+1,d,r):(Nat)×(Nat→Nat)×(Nat→Nat)) (by omega) (by show 5- (i+1)<5-i;omega)
  SB
  (λ_ q=>by show bz [eh c a g,ah b5 (il a g r (i+1)) 53,ah b6 (ints (fA a (i+1)).flat) 29,bz ((List.range (i+1)).map (u0 a d r)),ah b2 (ints ((#v[RowT.zero,RowT.zero,RowT.zero,RowT.zero,RowT.zero]).toList.flatMap RowT.flat)) 52,ah b3 (ints ViewT.zero.flat) 29,ah b4 [(.pointer none),(.pointer none),(.pointer none),(.pointer none),(.pointer none)] 53] _;rw[←Ik (by omega) hup hn,FG ((oL hup).trans hn)];exact az [1,1,1,0,0,0,0] rfl (yb ((BS hup).trans hn) (ak [4,1,1,1,1,1,1] rfl q)))
 refine P3 ?_;refine IX i rk iN ?_;refine bO (i:=3) (ab rfl) rfl rfl rfl rfl rfl iN rfl rfl (by simp only[dK,gk];omega) rfl rfl (nx J10 (aa λ_ J25=>D2 4 3 dA ?_));refine PD 0 ?_;refine IY 1 i rk iN ?_;refine LX 2 qd (.pointer (some ⟨rn,0,none⟩)) ?_ (hc:=by exact by rw[fZ];exact m4 (by omega));refine ta 3 rfl (gH rfl qd rfl rfl) ?_;refine PD 4 ?_;refine PD 5 ?_;refine IY 6 i rk iN ?_;refine LX 7 qd (.pointer (some ⟨rn,0,none⟩)) ?_ (hc:=by exact by rw[fZ];exact m4 (by omega));refine FD 10 0 e6 aP ?_;refine LX 11 Y3 (.int .i64 ((fA a i).epoch)) ?_ (hc:=by exact aY _ rfl);refine AL 8 ?_;refine CE L0 (pc s dn rn) ID ?_;refine EN (tb 9 rfl (Rm (cs:=ints s.view.flat) (v:=Value.int .i64 s.view.epoch) rfl e6 rfl Y3 rfl rfl (aY s.view rfl)) ?_);refine PD 12 ?_;refine gS ?_ ?_<;>intro h69;refine PD 13 ?_;refine DN (ac J25 (CY (ad (PS ?_))));refine IX i rk iN ?_;refine LT 3 qd (.pointer (some ⟨rn,0,none⟩)) ?_ (hc:=by exact by rw[fZ];exact m4 (by omega));refine CE L0 (pc s dn rn) ID ?_;refine SW 4 bi am ?_;refine aw (af (ac J8 (ad (AD ?_))));refine PS ?_;refine aw ?_
 exact aL ((i+1,kT d i dn,kT r i rn):(Nat)×(Nat→Nat)×(Nat→Nat)) (by omega) (by show 5- (i+1)<5-i;omega)
  SB
  (λ_ q=>by show bz [eh c a g,ah b5 (il a g (kT r i rn) (i+1)) 53,ah b6 (ints (fA a (i+1)).flat) 29,bz ((List.range (i+1)).map (u0 a (kT d i dn) (kT r i rn))),ah b2 (ints ((#v[RowT.zero,RowT.zero,RowT.zero,RowT.zero,RowT.zero]).toList.flatMap RowT.flat)) 52,ah b3 (ints ViewT.zero.flat) 29,ah b4 [(.pointer none),(.pointer none),(.pointer none),(.pointer none),(.pointer none)] 53] _;rw[←zR (by omega) hup hn,pz ((oL hup).trans hn),if_pos h69];exact az [1,1,1,0,0,0,0] rfl (Em ((BS hup).trans hn) (ak [0,4,1,1,1,1,1,1] rfl q)))
 refine PD 13 ?_;refine DN (ac J25 (CN (aS (af (ac J8 (ad (AD ?_)))))));refine PS ?_;refine aw ?_
 exact aL ((i+1,kT d i dn,kT r i rn):(Nat)×(Nat→Nat)×(Nat→Nat)) (by omega) (by show 5- (i+1)<5-i;omega)
  SB
  (λ_ q=>by show bz [eh c a g,ah b5 (il a g (kT r i rn) (i+1)) 53,ah b6 (ints (fA a (i+1)).flat) 29,bz ((List.range (i+1)).map (u0 a (kT d i dn) (kT r i rn))),ah b2 (ints ((#v[RowT.zero,RowT.zero,RowT.zero,RowT.zero,RowT.zero]).toList.flatMap RowT.flat)) 52,ah b3 (ints ViewT.zero.flat) 29,ah b4 [(.pointer none),(.pointer none),(.pointer none),(.pointer none),(.pointer none)] 53] _;rw[←zR (by omega) hup hn,pz ((oL hup).trans hn),if_neg h69];exact az [1,1,1,0,0,0,0] rfl (Em ((BS hup).trans hn) (ak [0,4,1,1,1,1,1,1] rfl q)))
 refine IX i rk iN ?_;refine bO (i:=1) (ab rfl) rfl rfl rfl rfl rfl iN rfl rfl (by simp only[dK,gk];omega) rfl rfl (nx J11 (sr λ_ J26=>PS ?_));refine IX i rk iN ?_;refine LT 1 qd (.pointer (some ⟨(g.r i),0,none⟩)) ?_ (hc:=by exact m4 (by omega));refine tp (kE rfl qd rfl rfl) ?_;refine nx J26 (CN (qx J10 (aa λ_ J27=>D2 2 1 dA ?_)));refine PD 0 ?_;refine IY 1 i rk iN ?_;refine LX 2 qd (.pointer (some ⟨(g.r i),0,none⟩)) ?_ (hc:=by exact m4 (by omega));refine ta 3 rfl (gH rfl qd rfl rfl) ?_;refine PD 4 ?_;refine PD 5 ?_;refine IY 6 i rk iN ?_;refine LX 7 qd (.pointer (some ⟨(g.r i),0,none⟩)) ?_ (hc:=by exact m4 (by omega));refine FD 10 0 e6 aP ?_;refine LX 11 Y3 (.int .i64 ((fA a i).epoch)) ?_ (hc:=by exact aY _ rfl);refine AL 8 ?_;refine CE L0 (zS (i:=i) (by omega) hrun (pc s (g.d i) (g.r i))) ID ?_;refine EN (tb 9 rfl (Rm (cs:=ints s.view.flat) (v:=Value.int .i64 s.view.epoch) rfl e6 rfl Y3 rfl rfl (aY s.view rfl)) ?_);refine PD 12 ?_;refine gS ?_ ?_<;>intro h69;refine PD 13 ?_;refine DN (ac J27 (CY (ad (PS ?_))));refine IX i rk iN ?_;refine LT 1 qd (.pointer (some ⟨(g.r i),0,none⟩)) ?_ (hc:=by exact m4 (by omega));refine CE L0 (zS (i:=i) (by omega) hrun (pc s (g.d i) (g.r i))) ID ?_;refine SW 2 bi am ?_;refine aw (af (ac J8 (ad (AD ?_))));refine PS ?_;refine aw ?_
 exact aL ((i+1,d,r):(Nat)×(Nat→Nat)×(Nat→Nat)) (by omega) (by show 5- (i+1)<5-i;omega)
  SB
  (λ_ q=>by show bz [eh c a g,ah b5 (il a g r (i+1)) 53,ah b6 (ints (fA a (i+1)).flat) 29,bz ((List.range (i+1)).map (u0 a d r)),ah b2 (ints ((#v[RowT.zero,RowT.zero,RowT.zero,RowT.zero,RowT.zero]).toList.flatMap RowT.flat)) 52,ah b3 (ints ViewT.zero.flat) 29,ah b4 [(.pointer none),(.pointer none),(.pointer none),(.pointer none),(.pointer none)] 53] _;rw[←GS (by omega) hup hrun,pz (sZ hup hrun),if_pos h69];exact az [1,1,1,0,0,0,0] rfl (yb (by unfold MW;rw[if_pos hup]) (ak [3,0,0,0,0,0,0] rfl q)))
 refine PD 13 ?_;refine DN (ac J27 (CN (aS (af (ac J8 (ad (AD ?_)))))));refine PS ?_;refine aw ?_
 exact aL ((i+1,d,r):(Nat)×(Nat→Nat)×(Nat→Nat)) (by omega) (by show 5- (i+1)<5-i;omega)
  SB
  (λ_ q=>by show bz [eh c a g,ah b5 (il a g r (i+1)) 53,ah b6 (ints (fA a (i+1)).flat) 29,bz ((List.range (i+1)).map (u0 a d r)),ah b2 (ints ((#v[RowT.zero,RowT.zero,RowT.zero,RowT.zero,RowT.zero]).toList.flatMap RowT.flat)) 52,ah b3 (ints ViewT.zero.flat) 29,ah b4 [(.pointer none),(.pointer none),(.pointer none),(.pointer none),(.pointer none)] 53] _;rw[←GS (by omega) hup hrun,pz (sZ hup hrun),if_neg h69];exact az [1,1,1,0,0,0,0] rfl (yb (by unfold MW;rw[if_pos hup]) (ak [3,0,0,0,0,0,0] rfl q)))
 refine nx J6 (aa λ_ J28=>CN (bh (aC (aC (bC (ac J4 (sr λ_ J29=>?_)))))));obtain rfl:i=5:=by omega
 refine XZ PY (ints ((#v[RowT.zero,RowT.zero,RowT.zero,RowT.zero,RowT.zero]).toList.flatMap RowT.flat)) λb11=>?_
 refine nx J29 (aa λ_ J30=>sr λ_ J31=>PS ?_);refine nx J31 (aq ?_)
 refine bD (α:=(Nat)) (λi=>i≤5) (λi=>[(2,(.pointer (some ⟨b2,0,none⟩))),(3,(.pointer (some ⟨b3,0,none⟩))),(4,(.pointer (some ⟨b4,0,none⟩))),(5,(.pointer (some ⟨b5,0,none⟩))),(6,(.pointer (some ⟨b6,0,none⟩))),(11,(.pointer (some ⟨b11,0,none⟩))),(76,(.int .i64 (((i:Nat):Int))))]) (λi=>[eh c a g,yN a d r,ah b11 (ints ((cG a i 0).toList.flatMap RowT.flat)) 52,ah b5 (il a g r 5) 53,ah b6 (ints (fA a 5).flat) 29,ah b2 (ints ((#v[RowT.zero,RowT.zero,RowT.zero,RowT.zero,RowT.zero]).toList.flatMap RowT.flat)) 52,ah b3 (ints ViewT.zero.flat) 29,ah b4 [(.pointer none),(.pointer none),(.pointer none),(.pointer none),(.pointer none)] 53]) (λi=>5-i) 0
  (aO _) SB
  (λ_ s=>by show bz [eh c a g,yN a d r,ah b11 (ints ((cG a 0 0).toList.flatMap RowT.flat)) 52,ah b5 (il a g r 5) 53,ah b6 (ints (fA a 5).flat) 29,ah b2 (ints ((#v[RowT.zero,RowT.zero,RowT.zero,RowT.zero,RowT.zero]).toList.flatMap RowT.flat)) 52,ah b3 (ints ViewT.zero.flat) 29,ah b4 [(.pointer none),(.pointer none),(.pointer none),(.pointer none),(.pointer none)] 53] _;rw[Fa];exact ak [1,3,0,0,0,0,0,0] rfl s) (λi hinv=>?_)
 obtain hi3:=hinv;refine sr λ_ J32=>PS ?_
 refine ap ?_ ?_<;>intro h77;refine nx J32 (aa λ_ J33=>CY (qx J33 (aa λ_ J34=>aq (sr λ_ J35=>P2 ?_))));refine nx J35 (sr λ_ J36=>PS ?_);refine CR Ft (nd ((i:Nat):Int) (decide_eq_true ⟨by omega,by omega⟩)) ID λvR HR hR=>?_
 obtain⟨_,rfl,rfl⟩:=hR;revert vR;intro uw;refine iZ 0 rfl rfl (λhluw _=>tp (eA rfl km rfl hluw) ?_);refine PS ?_;refine nx J36 (aq ?_)
 refine bD (α:=(Nat)) (λj=>j≤2) (λj=>[(2,(.pointer (some ⟨b2,0,none⟩))),(3,(.pointer (some ⟨b3,0,none⟩))),(4,(.pointer (some ⟨b4,0,none⟩))),(5,(.pointer (some ⟨b5,0,none⟩))),(6,(.pointer (some ⟨b6,0,none⟩))),(11,(.pointer (some ⟨b11,0,none⟩))),(12,(.int .i64 (((i:Nat):Int)))),(76,(.int .i64 (((i:Nat):Int)))),(80,uw),(81,(.int .i64 2)),(82,(.int .i64 (((j:Nat):Int))))]) (λj=>[eh c a g,yN a d r,ah b11 (ints ((cG a i j).toList.flatMap RowT.flat)) 52,own uw (2) ([.int .i64 ((((i:Nat):Int)+1)%5), .int .i64 ((((i:Nat):Int)+2)%5)]) 3 1,ah b5 (il a g r 5) 53,ah b6 (ints (fA a 5).flat) 29,ah b2 (ints ((#v[RowT.zero,RowT.zero,RowT.zero,RowT.zero,RowT.zero]).toList.flatMap RowT.flat)) 52,ah b3 (ints ViewT.zero.flat) 29,ah b4 [(.pointer none),(.pointer none),(.pointer none),(.pointer none),(.pointer none)] 53]) (λj=>2-j) 0
  (aO _) SB
  (λ_ s=>ak [1,1,1,0,0,0,0,0,0] rfl s) (λj hinv=>?_)
 obtain hj:=hinv;refine sr λ_ J37=>PS ?_
 refine ap ?_ ?_<;>intro h83;refine jh 3 rfl rfl (by omega) (λgw capw hvw hcapw=>nx J37 (aa λ_ J38=>CY (qx J38 (aa λ_ J39=>aq (sr λ_ J40=>tp (bT (r:=j) hvw rfl km aP rfl rfl (by omega) (by omega) (by omega)) ?_)))));refine tp (cZ (v:=(.int .i64 (((((i+(j+1))%5):Nat):Int)))) rfl Y3 rfl rfl (gq 3 rfl hvw rfl) (K7 (by omega))) ?_;refine PS ?_;refine nx J40 (sr λ_ J41=>PS ?_);refine IX ((i+(j+1))%5) rk iN ?_;refine LT 4 qd (nB a g r ((i+(j+1))%5)) ?_ (hc:=by exact xC (by omega));refine tp (PV.seenNot rfl qd rfl rfl) ?_;refine bb ?_ ?_<;>intro h89;obtain⟨s,hs⟩:=Option.isSome_iff_exists.1 h89;have hsk:=C4 h (by omega) hs;rw[lK hs];refine nx J41 (CY (sr λ_ J42=>PS ?_));refine IX ((i+(j+1))%5) rk iN ?_;refine LT 4 qd (.pointer (some ⟨(rA a g r ((i+(j+1))%5)),0,none⟩)) ?_ (hc:=by exact(xC (by omega)).trans (by rw[lK hs]));refine PS ?_;refine CE QL (G7 (i:=((i+(j+1))%5)) (args:=λr=>#[.pointer (some ⟨r,0,none⟩), .int .i64 ((i:Nat):Int)]) (Q:=λv=>v= .tuple #[.agg (ints (mirRow s.mirror ((i:Nat):Int)).flat).toArray, .bool (eS s.mirror ((i:Nat):Int))]) (by omega) hs (λd r=>Ij s d r ((i:Nat):Int))) ID ?_;refine P3 ?_;refine XZ u6 (ints RowT.zero.flat) λb15=>?_
 refine SW 0 aX ag ?_;refine PS ?_;refine nx J42 (aa λ_ J43=>D2 0 3 dA ?_);refine FD 0 0 dT aP ?_;refine LX 1 Y3 (.int .i64 ((mirRow s.mirror ((i:Nat):Int)).version)) ?_ (hc:=by exact cf _ rfl);refine PD 2 ?_;refine IY 3 (i*174) Av aX ?_;refine ta 4 rfl (bc (r:=i*174) rfl dT rfl aP rfl rfl) ?_;refine LX 5 Y3 (.int .i64 (((cG a i j)[i]'(by omega)).version)) ?_ (hc:=by exact n8 co (cG a i j) (i:=i) 0 (by omega) (by omega) (by decide) (cf _ rfl));refine PD 6 ?_;refine gS ?_ ?_<;>intro h104;refine DN (ac J43 (CY (ad (PS ?_))));refine LW 0 dT aX ag ?_;refine IX (i*174) Av aX ?_;refine bL (vs:=ints (mirRow s.mirror ((i:Nat):Int)).flat) (i:=3) (ab rfl) rfl rfl rfl rfl rfl (by rw[(ag (mirRow s.mirror ((i:Nat):Int)))];exact aX) (bA _) rfl rfl (by have h0:=(fO (cG a i j));have h1:=(ag (mirRow s.mirror ((i:Nat):Int)));omega) (u9 co (cG a i j) (i:=i) 0 (by omega) (by omega) (by have h1:=(ag (mirRow s.mirror ((i:Nat):Int)));omega) (ct ((ag ((cG a i j)[i]'(by omega))).trans (ag (mirRow s.mirror ((i:Nat):Int))).symm))) rfl (aw (af (ac J39 (ad (AD ?_)))));refine PS ?_;refine aw ?_
 exact aL ((j+1):(Nat)) (by omega) (by show 2- (j+1)<2-j;omega)
  SB
  (λ_ q=>by show bz [eh c a g,yN a d r,ah b11 (ints ((cG a i (j+1)).toList.flatMap RowT.flat)) 52,own uw (2) ([.int .i64 ((((i:Nat):Int)+1)%5), .int .i64 ((((i:Nat):Int)+2)%5)]) 3 1,ah b5 (il a g r 5) 53,ah b6 (ints (fA a 5).flat) 29,ah b2 (ints ((#v[RowT.zero,RowT.zero,RowT.zero,RowT.zero,RowT.zero]).toList.flatMap RowT.flat)) 52,ah b3 (ints ViewT.zero.flat) 29,ah b4 [(.pointer none),(.pointer none),(.pointer none),(.pointer none),(.pointer none)] 53] _;rw[←HM (show i<5 by omega) (x:=(mirRow s.mirror ((i:Nat):Int))) ((wF hs).trans (by unfold tn;rw[if_pos (by simpa [C8 (show i<5 by omega)]using h104)])).symm];exact ak [1,1,1,1,1,1,1,1,1] rfl q)
 refine DN (ac J43 (CN (aS (af (ac J39 (ad (AD ?_)))))));refine PS ?_;refine aw ?_
 exact aL ((j+1):(Nat)) (by omega) (by show 2- (j+1)<2-j;omega)
  SB
  (λ_ q=>by show bz [eh c a g,yN a d r,ah b11 (ints ((cG a i (j+1)).toList.flatMap RowT.flat)) 52,own uw (2) ([.int .i64 ((((i:Nat):Int)+1)%5), .int .i64 ((((i:Nat):Int)+2)%5)]) 3 1,ah b5 (il a g r 5) 53,ah b6 (ints (fA a 5).flat) 29,ah b2 (ints ((#v[RowT.zero,RowT.zero,RowT.zero,RowT.zero,RowT.zero]).toList.flatMap RowT.flat)) 52,ah b3 (ints ViewT.zero.flat) 29,ah b4 [(.pointer none),(.pointer none),(.pointer none),(.pointer none),(.pointer none)] 53] _;rw[xc ((wF hs).trans (by unfold tn;rw[if_neg (by simpa [C8 (show i<5 by omega)]using h104)]))];exact ak [1,1,1,1,1,1,1,1,1] rfl q)
 refine nx J41 (CN (aS (af (ac J39 (ad (AD ?_))))));refine PS ?_;refine aw ?_
 exact aL ((j+1):(Nat)) (by omega) (by show 2- (j+1)<2-j;omega)
  SB
  (λ_ q=>by show bz [eh c a g,yN a d r,ah b11 (ints ((cG a i (j+1)).toList.flatMap RowT.flat)) 52,own uw (2) ([.int .i64 ((((i:Nat):Int)+1)%5), .int .i64 ((((i:Nat):Int)+2)%5)]) 3 1,ah b5 (il a g r 5) 53,ah b6 (ints (fA a 5).flat) 29,ah b2 (ints ((#v[RowT.zero,RowT.zero,RowT.zero,RowT.zero,RowT.zero]).toList.flatMap RowT.flat)) 52,ah b3 (ints ViewT.zero.flat) 29,ah b4 [(.pointer none),(.pointer none),(.pointer none),(.pointer none),(.pointer none)] 53] _;rw[xc (EH (by simpa using h89))];exact ak [0,0,0,0,0,0,0,0,0] rfl q)
 refine nx J37 (aa λ_ J44=>CN (bh (aC (aC (bC (af (ac J34 (ad (AD ?_)))))))));refine PS ?_;refine aw ?_
 exact aL ((i+1):(Nat)) (by omega) (by show 5- (i+1)<5-i;omega)
  SB
  (λ_ s=>by show bz [eh c a g,yN a d r,ah b11 (ints ((cG a (i+1) 0).toList.flatMap RowT.flat)) 52,ah b5 (il a g r 5) 53,ah b6 (ints (fA a 5).flat) 29,ah b2 (ints ((#v[RowT.zero,RowT.zero,RowT.zero,RowT.zero,RowT.zero]).toList.flatMap RowT.flat)) 52,ah b3 (ints ViewT.zero.flat) 29,ah b4 [(.pointer none),(.pointer none),(.pointer none),(.pointer none),(.pointer none)] 53] _;rw[←Fb,show 2=j by omega];exact ak [0,0,0,1,1,1,1,1] rfl s)
 refine nx J32 (aa λ_ J45=>CN (bh (aC (aC (bC (ac J30 (aa λ_ J46=>oZ (λw=>Frm F w∧w.heap[b11]?=some (.cells (ints ((cG a i 0).toList.flatMap RowT.flat)).toArray 52 (0,0))∧w.heap[b6]?=some (.cells (ints (fA a 5).flat).toArray 29 (0,0))∧w.heap[b5]?=some (.cells (il a g r 5).toArray 53 (0,0))∧True) dA rfl (λ_ s=>⟨fE s,s.block 2 (lb rfl) rfl,s.block 4 (lb rfl) rfl,s.block 3 (lb rfl) rfl,trivial⟩) (ta 0 rfl (aM (vs:=ints ((cG a i 0).toList.flatMap RowT.flat)) rfl Av rfl pX rfl (λ_ h=>h.2.1) (fO (cG a i 0)) (bo (fO (cG a i 0)))) ?_))))))));refine LY 1 e6 bi am ?_;refine ta 2 rfl (aM (vs:=il a g r 5) rfl rk rfl oI rfl (λ_ h=>h.2.2.2.1) gk (by rw[be,aD (dB gk)])) ?_;refine AL 3 ?_;refine bL (vs:=ints ((cG a i 0).toList.flatMap RowT.flat)) (i:=5) (ab rfl) rfl rfl rfl rfl rfl (by rw[(fO (cG a i 0))];exact pX) (bA _) rfl rfl (by have h0:=(fO (#v[RowT.zero,RowT.zero,RowT.zero,RowT.zero,RowT.zero]));have h1:=(fO (cG a i 0));omega) (ct ((fO (#v[RowT.zero,RowT.zero,RowT.zero,RowT.zero,RowT.zero])).trans (fO (cG a i 0)).symm)) rfl (EN (AL 4 ?_));refine SW 6 bi am ?_;refine EN (AL 5 ?_)
 refine bL (vs:=il a g r 5) (i:=7) (ab rfl) rfl rfl rfl rfl rfl (by rw[gk];exact oI) xB rfl rfl (by rw[gk];exact aH _) (gC (by rw[gk];rfl)) rfl (EN (DN (ac J46 (aj (TE.retCCC (H':=[eh c a g,yN a d r]) rfl (CellR.of rfl Av rfl pX (RO 5) (fO (cG a i 0))) (CellR.of rfl e6 rfl bi (RO 6) (am (fA a 5))) (CellR.of rfl rk rfl oI (RO 7) (by rw[gk])) (λ_ s=>ak [0,0] rfl s) ?_)))));obtain rfl:i=5:=by omega
 exact⟨d,r,rfl,rfl⟩
end Go.Proofs.YtmcjhkbcmmddgaaGreat
end

section
namespace Api
open Go Leg Codec Dsk Wal
theorem Fo(k a t:Int){N:Int}(h:N≤9223372036854775807):OkOp (JG k a t N):=⟨xT,h⟩
theorem Np(a:Int){k w h:Int}(hk:yi k)(hw:yi w)(hh:yi h):OkOp (N2 a k w h):=⟨⟨λn hn=>by
 simp only[N2,ChangeT.flat,cn,List.not_mem_nil,or_false]at hn;rcases hn with rfl|rfl|rfl
 · exact n4 hk
 · exact n4 hw
 · exact n4 hh⟩,by show(0:Int)≤_;omega⟩
theorem GG(i:Int):OkOp (JH i):=⟨xT,by show(0:Int)≤_;omega⟩
theorem GE(i:Int):OkOp (JF i):=⟨xT,by show(0:Int)≤_;omega⟩
theorem q7(w:Nat):OkOp (yy w):=Fo _ _ _ (by decide)
theorem GF{w:Nat}(h:w≤1):OkOp (No w):=Np _ ⟨by decide,by decide⟩ ⟨by omega,by omega⟩ ⟨by omega,by omega⟩
theorem vd{a:CL}{w k:Nat}(hw:w<5):nz a w (k+1)=(pG (nz a w k) (I2 5 ((w:Nat):Int) (((w+1+k%2)%5:Nat):Int))).1:=by
 show pN (nz a w k) w ((w+1+k%2)%5)=_;unfold pN;rw[if_neg (by omega)]
theorem ze{m w:Nat}{a:CL}(h:CLOk m a)(hw:w<5): ∀k,CLOk (m+k) (nz a w k)
 |0=>h
 |k+1=>by rw[vd hw];exact tM (ze h hw k) (uF _ _ _)
structure ZOk(n:Int)(w k:Nat):Prop where
 I:CLOk 20 (zI n w)
 D:CLOk 20 (zD n w)
 K: ∀j,j≤3→CLOk 20 (nz (zD n w) w j)
 C:CLOk 20 (zC n w k)
 L:CLOk 20 (zL n w k)
 Z:CLOk 20 (zZ n w k)
 T:CLOk 20 (zT n w k)
 E:CLOk 20 (zE n w k)
 F:CLOk 20 (zF n w k)
 G:CLOk 20 (zG n w k)
theorem Ro{n:Int}(hn:n≤1024){w k:Nat}(hw:w≤1)(hk:k≤3):ZOk n w k:=by
 have i:CLOk 1 (zI n w):=tM new_ok (Fo _ _ _ (by omega));have d:CLOk 2 (zD n w):=tM (i.settle 3) (q7 w);have s:=ze (w:=w) d (by omega);have c:CLOk (2+k+1) (zC n w k):=tM (s k) (GG _);have l:CLOk (2+k+1+1) (zL n w k):=tM c (GF hw);have z:CLOk (2+k+1+1) (zZ n w k):=l.settle 5;have t:CLOk (2+k+1+1+1) (zT n w k):=tM z (GE _);have e:CLOk (2+k+1+1+1+1) (zE n w k):=tM t (q7 w);have f:CLOk (2+k+1+1+1+1) (zF n w k):=e.settle 5;have g:CLOk (2+k+1+1+1+1+1) (zG n w k):=tM f (q7 w);exact⟨i.more (by omega),d.more (by omega),λj hj=>(s j).more (by omega),c.more (by omega),l.more (by omega),z.more (by omega),t.more (by omega),e.more (by omega),f.more (by omega),g.more (by omega)⟩
theorem K6{w j:Nat}:([.int .i64 ((((w:Nat):Int)+1)%5), .int .i64 ((((w:Nat):Int)+2)%5)]:List Value)[j%2]?=some (.int .i64 (((w+1+j%2)%5:Nat):Int)):=by
 rcases Nat.mod_two_eq_zero_or_one j with e|e
 · rw[e];exact congrArg (λz:Int=>some (Value.int .i64 z)) (by omega)
 · rw[e];exact congrArg (λz:Int=>some (Value.int .i64 z)) (by omega)
theorem L8{x:RowT}{w:Nat}(h:w<5):heirAt x ((w:Nat):Int)=x.heir[w]:=by
 unfold heirAt;rw[dif_pos (show cI ((w:Nat):Int)=true from decide_eq_true ⟨by omega,by omega⟩)];rfl
end Api
end

section
namespace Go.Proofs.YtmcjhkbcmmddgaaGreat
open Go Leg Codec Api Dsk Wal
theorem Qn:Tryz.prog.eqGuardType Tryz.prog.depth 51=false:=by kernel_rfl
theorem Qi:Tryz.prog.keyTypeAt 8 51=true:=by kernel_rfl
theorem Q0:oV Tryz.prog 8 51=some 174:=by kernel_rfl
theorem Pt:(match Tryz.prog.underlying 51 with|some (.struct _)|some (.array _ _)=>true|_=>false)=true:=by kernel_rfl
theorem Py:Tryz.prog.cellsOf 51=174:=by kernel_rfl
theorem Cf{n:Nat}{a:CL}(h:CLOk n a)(i:Nat):WF (ru a i).flat:=by
 have one: ∀(w:Nat) (r:RowT),w<5→WF r.flat→WF (wantW a i w r).flat:=λw r hw hr=>by
  unfold wantW;split
  · rename_i s q
    unfold tn;split
    · exact Po (C4 h hw q) _
    · exact hr
  · exact hr
 exact one _ _ (IU _ (by decide)) (one _ _ (IU _ (by decide)) (Eu OkRow.zero))
theorem clusterZombie_does(who n steps:Int):
 DT 4 #[(.int .i64 (who)),(.int .i64 (n)),(.int .i64 (steps))] T0 [] (RI (.bool true) []):=by
 refine BD 146 Tryz.func4 rfl rfl rfl λw0 F hF=>?_
 obtain⟨y,hw,hw1⟩: ∃y:Nat,who%2=((y:Nat):Int)∧y≤1:=⟨(who%2).toNat,by omega,by omega⟩;obtain⟨k,hk,hk3⟩: ∃k:Nat,steps%4=((k:Nat):Int)∧k≤3:=⟨(steps%4).toNat,by omega,by omega⟩;obtain⟨m,hm,hm2,hm65⟩: ∃m:Int,n%64=m-2∧2≤m∧m≤65:=⟨n%64+2,by omega,by omega,by omega⟩;have hz:ZOk m y k:=Ro (by omega) hw1 hk3;have hb:Zomb m y k:=P8 ⟨hm2,by omega⟩ hw1 hk3;obtain⟨s,hh,hh2⟩:=hb.heir;obtain⟨s2,hb2⟩:=hb.back;have hbd:=hb.bd;have hs:jA (zZ m y k) (y+1)=some s:=sZ hh.up hh.run;refine sr λ_ J1=>PS ?_
 refine nx J1 (aa λ_ J2=>sr λ_ J3=>CE Rq (FM) ID ?_);refine PS ?_;refine nx J3 (CN (qx J2 (sr λ_ J4=>PS ?_)));refine tp (o5 (r:=((y:Nat):Int)) rfl rfl rfl ((mask (k:=1) (by decide) _).trans hw)) ?_;refine PS ?_;refine tp (o5 (r:=(m-2)) rfl rfl rfl ((mask (k:=6) (by decide) _).trans hm)) ?_;refine tp (cB (r:=m) rfl rfl rfl ((bK (by omega) (by omega)).trans (by omega))) ?_;refine P2 ?_;refine nx J4 (sr λ_ J5=>PS ?_);refine tp (cB (r:=((y+1:Nat):Int)) rfl rfl rfl ((bK (by omega) (by omega)).trans (by omega))) ?_;refine PS ?_;refine nx J5 (sr λ_ J6=>CR Rh (zP) ID λvR HR hR=>?_);obtain⟨c,rfl,rfl⟩:=hR;refine PS ?_;refine nx J6 (sr λ_ J7=>P3 ?_);refine tp (kJ OpT.zero (OpT.mk 0 ((y:Nat):Int) 0 0 m ChangeT.zero 0 0 0) [(0,[Value.int .i64 0]),(1,[Value.int .i64 ((y:Nat):Int)]),(4,[Value.int .i64 m])] fP ka (g:=OpT.sg)) ?_;refine CE JJ (jP (c:=c) (a:=CL.new) (o:=(JG 0 ((y:Nat):Int) 0 m)) new_ok (by omega) (Fo _ _ _ (by omega))) ID ?_;refine nx J7 (sr λ_ J8=>PS ?_);refine CZ LQ (mV c 20 (zI m y) hz.I (by omega) 3 (by decide)) ID λvR=>?_
 refine nx J8 (sr λ_ J9=>P2 ?_);refine tp (kJ OpT.zero (OpT.mk 1 ((y:Nat):Int) 0 0 1 ChangeT.zero 0 0 0) [(0,[Value.int .i64 1]),(1,[Value.int .i64 ((y:Nat):Int)]),(4,[Value.int .i64 1])] fP ka (g:=OpT.sg)) ?_;refine CE JJ (jP (c:=c) (a:=(g8 (zI m y) 3)) (o:=(yy y)) (hz.I.settle 3) (by omega) (q7 y)) ID ?_;refine nx J9 (aa λ_ J10=>sr λ_ J11=>PS ?_);refine tp (o5 (r:=((k:Nat):Int)) rfl rfl rfl ((mask (k:=2) (by decide) _).trans hk)) ?_;refine PS ?_;refine nx J11 (aq ?_)
 refine bD (α:=(Nat)) (λj=>j≤k) (λj=>[(0,(.int .i64 (((y:Nat):Int)))),(1,(.int .i64 (m))),(6,(.bool false)),(7,(.int .i64 (((y+1:Nat):Int)))),(8,(.pointer (some ⟨c,0,none⟩))),(39,(.int .i64 (((k:Nat):Int)))),(40,(.int .i64 (((j:Nat):Int))))]) (λj=>[gm c (nz (zD m y) y j)]) (λj=>k-j) 0
  (aO _) SB
  (λ_ s=>s) (λj hinv=>?_)
 obtain hj:=hinv;refine sr λ_ J12=>PS ?_
 refine ap ?_ ?_<;>intro h41;refine nx J12 (aa λ_ J13=>CY (qx J13 (aa λ_ J14=>aq (sr λ_ J15=>P2 ?_))));refine nx J15 (ad (P3 ?_));refine CR Ft (nd ((y:Nat):Int) (decide_eq_true ⟨by omega,by omega⟩)) ID λvR HR hR=>?_
 obtain⟨_,rfl,rfl⟩:=hR;revert vR;intro uw;refine iZ 0 rfl rfl (λhluw _=>jh 0 rfl rfl (by omega) (λgw capw hvw hcapw=>PS ?_));refine tp (o5 (r:=((j%2:Nat):Int)) rfl rfl rfl ((mask (k:=1) (by decide) _).trans (by omega))) ?_;refine tp (bT (r:=j%2) hvw rfl km aP rfl rfl (by omega) (by omega) (by omega)) ?_;refine tp (cZ (v:=(.int .i64 ((((y+1+j%2)%5:Nat):Int)))) rfl Y3 rfl rfl (gq 0 rfl hvw rfl) K6) ?_;refine tp (kJ OpT.zero (OpT.mk 5 ((y:Nat):Int) (((y+1+j%2)%5:Nat):Int) 0 0 ChangeT.zero 0 0 0) [(0,[Value.int .i64 5]),(1,[Value.int .i64 ((y:Nat):Int)]),(2,[Value.int .i64 (((y+1+j%2)%5:Nat):Int)])] fP ka (g:=OpT.sg)) ?_;refine CE JJ (jP (c:=c) (a:=(nz (zD m y) y j)) (o:=(I2 5 ((y:Nat):Int) (((y+1+j%2)%5:Nat):Int))) (hz.K j (by omega)) (by omega) (uF _ _ _)) (SM [1]) ?_;refine aw (af (ac J14 (ad (AD ?_))));refine PS ?_;refine aw ?_
 exact aL ((j+1):(Nat)) (by omega) (by show k- (j+1)<k-j;omega)
  SB
  (λ_ s=>by rw[vd (show y<5 by omega)];exact ak [0] rfl s)
 refine nx J12 (aa λ_ J16=>CN (bh (aC (aC (bC (ac J10 (sr λ_ J17=>?_)))))));obtain rfl:k=j:=by omega
 refine P2 ?_;refine tp (kJ OpT.zero (OpT.mk 10 ((y:Nat):Int) 0 0 0 ChangeT.zero 0 (-1) 0) [(0,[Value.int .i64 10]),(1,[Value.int .i64 ((y:Nat):Int)]),(7,[Value.int .i64 (-1)])] fP ka (g:=OpT.sg)) ?_;refine CE JJ (jP (c:=c) (a:=(nz (zD m y) y k)) (o:=(JH ((y:Nat):Int))) (hz.K k (by omega)) (by omega) (GG _)) ID ?_;refine nx J17 (sr λ_ J18=>P4 ?_);refine tp (kJ ChangeT.zero (ChangeT.mk 1 ((y:Nat):Int) ((y+1:Nat):Int)) [(0,[Value.int .i64 1]),(1,[Value.int .i64 ((y:Nat):Int)]),(2,[Value.int .i64 ((y+1:Nat):Int)])] nP I0 (g:=ChangeT.sg)) ?_;refine tp (kJ OpT.zero (OpT.mk 4 ((y+1:Nat):Int) 0 0 0 (ChangeT.mk 1 ((y:Nat):Int) ((y+1:Nat):Int)) 0 0 0) [(0,[Value.int .i64 4]),(1,[Value.int .i64 ((y+1:Nat):Int)]),(5,ints (ChangeT.mk 1 ((y:Nat):Int) ((y+1:Nat):Int)).flat)] fP ka (g:=OpT.sg)) ?_;refine CE JJ (jP (c:=c) (a:=(zC m y k)) (o:=(No y)) hz.C (by omega) (GF hw1)) ID ?_;refine nx J18 (sr λ_ J19=>PS ?_);refine CZ LQ (mV c 20 (zL m y k) hz.L (by omega) 5 (by decide)) ID λvR=>?_
 refine nx J19 (sr λ_ J20=>PS ?_);refine G9 (H':=λg1:CX=>[eh c (zZ m y k) g1]) (λ_ s=>re s) (λg1=>CR O3 (sQ c 20 (zZ m y k) g1 hz.Z) ID λvR HR hR=>?_);obtain⟨d1,r1,rfl,rfl⟩:=hR;refine P4 ?_;refine XZ PY (ints ((#v[RowT.zero,RowT.zero,RowT.zero,RowT.zero,RowT.zero]).toList.flatMap RowT.flat)) λb10=>?_
 refine XZ rN (ints ViewT.zero.flat) λb11=>?_
 refine XA PX λb12=>?_
 refine bL (vs:=ints ((cG (zZ m y k) 5 0).toList.flatMap RowT.flat)) (i:=2) (ab rfl) rfl rfl rfl rfl rfl (by rw[(fO (cG (zZ m y k) 5 0))];exact pX) (bA _) rfl rfl (by have h0:=(fO (#v[RowT.zero,RowT.zero,RowT.zero,RowT.zero,RowT.zero]));have h1:=(fO (cG (zZ m y k) 5 0));omega) (ct ((fO (#v[RowT.zero,RowT.zero,RowT.zero,RowT.zero,RowT.zero])).trans (fO (cG (zZ m y k) 5 0)).symm)) rfl (SW 1 bi am ?_);refine bL (vs:=il (zZ m y k) g1 r1 5) (i:=0) (ab rfl) rfl rfl rfl rfl rfl (by rw[gk];exact oI) xB rfl rfl (by rw[gk];exact aH _) (gC (by rw[gk];rfl)) rfl (nx J20 (aa λ_ J21=>aa λ_ J22=>oZ (λw=>Frm F w∧w.heap[b10]?=some (.cells (ints ((cG (zZ m y k) 5 0).toList.flatMap RowT.flat)).toArray 52 (0,0))∧w.heap[b11]?=some (.cells (ints (fA (zZ m y k) 5).flat).toArray 29 (0,0))∧w.heap[b12]?=some (.cells (il (zZ m y k) g1 r1 5).toArray 53 (0,0))∧True) dA rfl (λ_ s=>⟨fE s,s.block 2 (lb rfl) rfl,s.block 1 (lb rfl) rfl,s.block 0 (lb rfl) rfl,trivial⟩) (LY 0 e6 bi am ?_)));refine PD 1 ?_;refine AL 2 ?_;refine CR pY (dC (fA (zZ m y k) 5) ((y:Nat):Int)) ID λvR HR hR=>?_
 obtain⟨hv,rfl⟩:=hR;rw[hb.out]at hv;subst hv;refine EN (PD 3 ?_);refine PD 4 ?_;refine IY 5 (y+1) rk iN ?_;refine LX 6 qd (.pointer (some ⟨(rA (zZ m y k) g1 r1 (y+1)),0,none⟩)) ?_ (hc:=by exact(xC (by omega)).trans (by rw[lK hs]));refine PD 9 ?_;refine PD 11 ?_;refine IY 12 (y*174) Av aX ?_;refine tb 13 rfl (bc (r:=y*174) rfl dT rfl aP rfl rfl) ?_;refine LX 14 Y3 (.int .i64 (((cG (zZ m y k) 5 0)[y]'(by omega)).version)) ?_ (hc:=by exact n8 co (cG (zZ m y k) 5 0) (i:=y) 0 (by omega) (by omega) (by decide) (cf _ rfl));refine tb 15 rfl (cB (r:=((ru (zZ m y k) y).version+1)) rfl rfl rfl (by rw[oO (show y<5 by omega)];exact bK (by omega) (by omega))) ?_;refine AL 7 ?_;refine CE QX (G7 (i:=y+1) (args:=λr=>#[.pointer (some ⟨r,0,none⟩)]) (Q:=λv=>v= .agg (ints s.own.flat).toArray) (by omega) hs (λd r=>H9 s d r)) (SM [3,3]) ?_;refine EN (tb 8 rfl (PV.fieldN (cs:=ints s.own.flat) (vs:=ints s.own.heir.toList) rfl dT rfl mS rfl gM rfl (Hc s.own 0 rfl (by decide) (bo (jq s.own.heir)))) ?_);refine tb 10 rfl (p9 (cs:=ints s.own.heir.toList) (v:=Value.int .i64 (s.own.heir[y]'(by omega))) (r:=y) rfl mS Y3 rfl aP rfl rfl (by omega) (by omega) (by omega) (kp s.own.heir (by omega))) ?_;refine PD 16 ?_;refine gS ?_ ?_<;>intro h89
 · exact absurd (by rw[L8 (show y<5 by omega)]at hh2;rw[hh2]) h89
 refine PD 17 ?_;refine DN (ac J22 (CN (qx J21 (sr λ_ J23=>P2 ?_))));refine CR L1 (px (i:=y+1) (by omega)) ID λvR HR hR=>?_
 obtain⟨hv,rfl⟩:=hR;rw[xy,if_pos hh.up]at hv;subst hv;refine PS ?_;refine CR OW (zS (i:=y+1) (by omega) hh.run (tk s (g1.d (y+1)) (g1.r (y+1)) ((y+1:Nat):Int) 0)) ID λvR HR hR=>?_
 obtain⟨hv,rfl⟩:=hR;rw[hh.rights]at hv;subst hv;refine PS ?_;refine nx J23 (sr λ_ J24=>P2 ?_);refine tp (kJ OpT.zero (OpT.mk 11 ((y:Nat):Int) 0 0 0 ChangeT.zero 0 0 0) [(0,[Value.int .i64 11]),(1,[Value.int .i64 ((y:Nat):Int)])] fP ka (g:=OpT.sg)) ?_;refine cr (H':=[gm c (zZ m y k),yN (zZ m y k) d1 r1,ah b12 (il (zZ m y k) g1 r1 5) 53,ah b11 (ints (fA (zZ m y k) 5).flat) 29,ah b10 (ints ((cG (zZ m y k) 5 0).toList.flatMap RowT.flat)) 52]) (λ_ s=>Aj s) (CE JJ (jP (c:=c) (a:=(zZ m y k)) (o:=(JF ((y:Nat):Int))) hz.Z (by omega) (GE _)) ID ?_);refine nx J24 (sr λ_ J25=>P2 ?_);refine tp (kJ OpT.zero (OpT.mk 1 ((y:Nat):Int) 0 0 1 ChangeT.zero 0 0 0) [(0,[Value.int .i64 1]),(1,[Value.int .i64 ((y:Nat):Int)]),(4,[Value.int .i64 1])] fP ka (g:=OpT.sg)) ?_;refine CE JJ (jP (c:=c) (a:=(zT m y k)) (o:=(yy y)) hz.T (by omega) (q7 y)) ID ?_;refine nx J25 (sr λ_ J26=>PS ?_);refine CZ LQ (mV c 20 (zE m y k) hz.E (by omega) 5 (by decide)) ID λvR=>?_
 refine nx J26 (sr λ_ J27=>PS ?_);refine G9 (H':=λg2:CX=>[eh c (zF m y k) g2,yN (zZ m y k) d1 r1,ah b12 (il (zZ m y k) g1 r1 5) 53,ah b11 (ints (fA (zZ m y k) 5).flat) 29,ah b10 (ints ((cG (zZ m y k) 5 0).toList.flatMap RowT.flat)) 52]) (λ_ s=>re s) (λg2=>CR O3 (sQ c 20 (zF m y k) g2 hz.F) ID λvR HR hR=>?_);obtain⟨d2,r2,rfl,rfl⟩:=hR;refine P4 ?_;refine XZ PY (ints ((#v[RowT.zero,RowT.zero,RowT.zero,RowT.zero,RowT.zero]).toList.flatMap RowT.flat)) λb14=>?_
 refine XZ rN (ints ViewT.zero.flat) λb15=>?_
 refine cr (H':=[eh c (zF m y k) g2,ah b15 (ints ViewT.zero.flat) 29,ah b14 (ints ((#v[RowT.zero,RowT.zero,RowT.zero,RowT.zero,RowT.zero]).toList.flatMap RowT.flat)) 52,yN (zF m y k) d2 r2,yN (zZ m y k) d1 r1,ah b12 (il (zZ m y k) g1 r1 5) 53,ah b11 (ints (fA (zZ m y k) 5).flat) 29,ah b10 (ints ((cG (zZ m y k) 5 0).toList.flatMap RowT.flat)) 52]) (λ_ s=>az [2,0,0,0,0,0,0,0] rfl s) (cr (H':=[gm c (zF m y k),ah b15 (ints ViewT.zero.flat) 29,ah b14 (ints ((#v[RowT.zero,RowT.zero,RowT.zero,RowT.zero,RowT.zero]).toList.flatMap RowT.flat)) 52,yN (zF m y k) d2 r2,yN (zZ m y k) d1 r1,ah b12 (il (zZ m y k) g1 r1 5) 53,ah b11 (ints (fA (zZ m y k) 5).flat) 29,ah b10 (ints ((cG (zZ m y k) 5 0).toList.flatMap RowT.flat)) 52]) (λ_ s=>Aj s) (XA PX λb16=>?_));refine bL (vs:=ints ((cG (zF m y k) 5 0).toList.flatMap RowT.flat)) (i:=3) (ab rfl) rfl rfl rfl rfl rfl (by rw[(fO (cG (zF m y k) 5 0))];exact pX) (bA _) rfl rfl (by have h0:=(fO (#v[RowT.zero,RowT.zero,RowT.zero,RowT.zero,RowT.zero]));have h1:=(fO (cG (zF m y k) 5 0));omega) (ct ((fO (#v[RowT.zero,RowT.zero,RowT.zero,RowT.zero,RowT.zero])).trans (fO (cG (zF m y k) 5 0)).symm)) rfl (SW 2 bi am ?_);refine bL (vs:=il (zF m y k) g2 r2 5) (i:=0) (ab rfl) rfl rfl rfl rfl rfl (by rw[gk];exact oI) xB rfl rfl (by rw[gk];exact aH _) (gC (by rw[gk];rfl)) rfl (nx J27 (aa λ_ J28=>D2 8 3 dA ?_));refine PD 0 ?_;refine IY 1 (y*174) Av aX ?_
 refine ta 2 rfl (aM (vs:=ints ((cG (zF m y k) 5 0)[y]'(by omega)).flat) rfl dT rfl aX rfl (λ_ h=>h.2.2.1) (ag ((cG (zF m y k) 5 0)[y]'(by omega))) (ki co (cG (zF m y k) 5 0) (i:=y) 0 (by omega) (by omega) (by decide) (bo (ag ((cG (zF m y k) 5 0)[y]'(by omega)))))) ?_;refine PD 3 ?_;refine IY 4 (y*174) Av aX ?_;refine ta 5 rfl (aM (vs:=ints ((cG (zZ m y k) 5 0)[y]'(by omega)).flat) rfl dT rfl aX rfl (λ_ h=>h.2.1) (ag ((cG (zZ m y k) 5 0)[y]'(by omega))) (ki co (cG (zZ m y k) 5 0) (i:=y) 0 (by omega) (by omega) (by decide) (bo (ag ((cG (zZ m y k) 5 0)[y]'(by omega)))))) ?_;refine ta 6 rfl (PV.eqlAgg (a:=((cG (zF m y k) 5 0)[y]'(by omega)).flat) (b:=((cG (zZ m y k) 5 0)[y]'(by omega)).flat) (m:=8) (c:=174) Qn Qi rfl Q0 (eg (ag ((cG (zF m y k) 5 0)[y]'(by omega)))) (eg (ag ((cG (zZ m y k) 5 0)[y]'(by omega)))) ⟨hZ Pt Py (eg (ag ((cG (zF m y k) 5 0)[y]'(by omega)))),hZ Pt Py (eg (ag ((cG (zZ m y k) 5 0)[y]'(by omega))))⟩ (by rw[oO (show y<5 by omega)];exact Cf hz.F _) (by rw[oO (show y<5 by omega)];exact Cf hz.Z _) rfl rfl rfl) ?_;refine gS ?_ ?_<;>intro h118;refine PD 7 ?_;refine PD 8 ?_;refine PD 9 ?_;refine tb 10 rfl (kJ OpT.zero (OpT.mk 1 ((y:Nat):Int) 0 0 1 ChangeT.zero 0 0 0) [(0,[Value.int .i64 1]),(1,[Value.int .i64 ((y:Nat):Int)]),(4,[Value.int .i64 1])] fP ka (g:=OpT.sg)) ?_;refine AL 11 ?_;refine CR JJ (jP (c:=c) (a:=(zF m y k)) (o:=(yy y)) hz.F (by omega) (q7 y)) (SM [1]) λvR HR hR=>?_
 obtain⟨hv,rfl⟩:=hR;rw[hb.err]at hv;subst hv;refine EN (PD 12 ?_);refine PD 13 ?_;refine PD 14 ?_;refine PD 15 ?_;refine PD 16 ?_;refine PD 18 ?_;refine PD 20 ?_;refine AL 17 ?_;refine G9 (H':=λg3:CX=>[eh c (zG m y k) g3,ah b16 (il (zF m y k) g2 r2 5) 53,ah b15 (ints (fA (zF m y k) 5).flat) 29,ah b14 (ints ((cG (zF m y k) 5 0).toList.flatMap RowT.flat)) 52,yN (zF m y k) d2 r2,yN (zZ m y k) d1 r1,ah b12 (il (zZ m y k) g1 r1 5) 53,ah b11 (ints (fA (zZ m y k) 5).flat) 29,ah b10 (ints ((cG (zZ m y k) 5 0).toList.flatMap RowT.flat)) 52]) (λ_ s=>re s) (λg3=>CR L1 (px (i:=y+1) (by omega)) ID λvR HR hR=>?_);obtain⟨hv,rfl⟩:=hR;rw[xy,if_pos hb2.up]at hv;subst hv;refine EN (AL 19 ?_);refine CR OW (zS (i:=y+1) (by omega) hb2.run (tk s2 (g3.d (y+1)) (g3.r (y+1)) ((y+1:Nat):Int) 0)) ID λvR HR hR=>?_
 obtain⟨hv,rfl⟩:=hR;rw[hb2.rights]at hv;subst hv;refine EN (PD 21 ?_);refine gS ?_ ?_<;>intro h133;refine PD 22 ?_;refine PD 23 ?_;refine PD 24 ?_;refine PD 25 ?_;refine tb 26 rfl (j8 (r:=(m-1)) rfl rfl rfl (bK (by omega) (by omega))) ?_;refine PD 27 ?_;refine gS ?_ ?_<;>intro h139;refine PD 28 ?_;refine PD 29 ?_;refine PD 30 ?_;refine PD 31 ?_;refine PD 32 ?_;refine PD 33 ?_;refine PD 34 ?_;refine DN (ac J28 (aj (WK [] (av rfl rfl ?_))));exact⟨congrArg Value.bool (decide_eq_true (by omega)),rfl⟩
 · exact absurd h139 (by omega)
 · exact absurd rfl h133
 · exact absurd (by rw[oO (show y<5 by omega),oO (show y<5 by omega),hb.row]) h118
end Go.Proofs.YtmcjhkbcmmddgaaGreat
end
