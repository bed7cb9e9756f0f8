/-
  Joined texts:what a statement's proof reaches.
-/
import Derived.Test.YtjblgopghhgflaaGreatPAT7
set_option maxHeartbeats 8000000
set_option maxRecDepth 100000
set_option linter.unusedSimpArgs false
set_option linter.unusedVariables false
section
namespace Go.Proofs.YtjblgopghhgflaaGreat
open Go Leg Codec Api Dsk Wal
theorem xk(i:Nat):(cD i .new).1≠none:=by
 obtain⟨D',e,_⟩:=LogD.new.open rfl rfl;unfold cD;rw[e];simp[iD]
theorem vU{i:Nat}{s:MS LD}(h:(cD i .new).1=some s):pT i=⟨some s,(bJ .new).D,[]⟩:=by
 show(il i .nil).1=_;unfold il;show Slot.mk (cD i DS.new).1 _ _=_;rw[h];rfl
def dJ(i:Nat)(d:Nat→Nat):Nat→Value:=λj=>if j<i then .pointer (some ⟨d j,0,none⟩)else .pointer none
def JO:Nat→Value:=λ_=> .slice none 0 0
theorem KC(i:Nat)(d:Nat→Nat)(x:Nat):lO (dJ i d) i (.pointer (some ⟨x,0,none⟩))=dJ (i+1) (lO d i x):=funext λj=>by
 unfold dJ lO
 by_cases hj:j=i
 · subst hj;simp
 · rw[if_neg hj,if_neg hj]
   show(if j<i then _ else _)=_
   by_cases h:j<i
   · rw[if_pos h,if_pos (by omega)]
   · rw[if_neg h,if_neg (by omega)]
theorem IT{n:Nat}{D M P D' M' P':Nat→Value}(h1: ∀i,i<5→D i=D' i)(h2: ∀i,i<5→M i=M' i)(h3: ∀i,i<5→P i=P' i):eZ n D M P=eZ n D' M' P':=by
 unfold eZ;rw[eg (λi hi=>h1 i (fA.1 hi)),eg (λi hi=>h2 i (fA.1 hi)),eg (λi hi=>h3 i (fA.1 hi))]
theorem xK{f g:Nat→HP}{i:Nat}(hg: ∀j,j<i→g j=f j){H:List HP}{h:Hl}(s:bH (g i::bH ((List.range i).map f)::H) h):bH (bH ((List.range (i+1)).map g)::H) h:=by
 have e:(List.range (i+1)).map g=(List.range i).map f++[g i]:=by
  rw[dd,de,eg (λj hj=>hg j (fA.1 hj))];rfl
 rw[e];obtain⟨h1,h2,d,rfl,a,b⟩:=s;have s2:bH ((g i::(List.range i).map f)++H) (jn h1 h2):=⟨h1,h2,d,rfl,a,(ck _ _).2 b⟩;exact(ck _ _).1 (eG ((List.perm_append_comm (l₁:=[g i])).append_right H) s2)
abbrev xU(d r:Nat→Nat)(j:Nat):HP:=lv (pT j) (d j) (r j) (.slice none 0 0)
theorem Kk{d r:Nat→Nat}{i x y:Nat}{s:MS LD}(hs:(cD i .new).1=some s){X Y:HP}{h:Hl}(q:bH [fw s x y,dk x s.e.D,X,Y,bH ((List.range i).map (xU d r))] h):bH [X,Y,bH ((List.range (i+1)).map (xU (lO d i x) (lO r i y)))] h:=by
 have q2:=iq 37 3 q
 have e:xU (lO d i x) (lO r i y) i=bH [dk x s.e.D,ni (.slice none 0 0) [],fw s x y]:=by
  unfold xU lv la Slot.dk rD;rw[jG,jG,vU hs]
 have q4:=(ck [dk x s.e.D,ni (.slice none 0 0) [],fw s x y] [bH ((List.range i).map (xU d r)),X,Y]).1 (aD [2,0,0,2,0,0] rfl q2);have q5:=xK (i:=i) (f:=xU d r) (g:=xU (lO d i x) (lO r i y)) (H:=[X,Y]) (λj hj=>by unfold xU;rw[nJ d x (show j≠i by omega),nJ r y (show j≠i by omega)]) (by rw[e];exact q4);exact aD [1,1,0] rfl q5
theorem Ki(i:Nat)(hi:i<5):CL.new.at' i=pT i:=by simp[CL.new,CL.at',List.getD_eq_getElem?_getD,hi]
theorem Kj{c n:Nat}{d r:Nat→Nat}{h:Hl}(s:bH [am c (eZ n (dJ 5 d) (dJ 5 r) JO) 104,eO 156 208 5 n (List.replicate 25 []),bH ((List.range 5).map (xU d r))] h):bH [gq c .new] h:=by
 have e1:eZ n (nu ⟨n,d,r,JO⟩) (kI .new r) JO=eZ n (dJ 5 d) (dJ 5 r) JO:=IT (λi hi=>by unfold dJ;rw[if_pos hi]) (λi hi=>by
  unfold dJ;rw[if_pos hi];show zc (CL.new.at' i) (r i)=_;rw[Ki i hi];cases hs:(cD i .new).1 with
  |none=>exact absurd hs (xk i)
  |some s=>rw[vU hs];rfl) (λ_ _=>rfl)
 have e2:(List.range 5).map (λi=>lv (CL.new.at' i) (d i) (r i) (JO i))=(List.range 5).map (xU d r):=eg λi hi=>by
  rw[Ki i (fA.1 hi)];rfl
 have e3:cV CL.new.W=List.replicate 25 []:=rfl;refine br (p:=rR c .new) (H:=[]) ⟨n,d,r,JO⟩ ?_;unfold rR;rw[e1,e2,e3];exact s
theorem Ae:
 DT 14 #[] T0 [] (dB (λv H=>∃c,v= .pointer (some ⟨c,0,none⟩)∧H=[gq c .new])):=by
 refine BD 33 Tryz.func14 rfl rfl rfl λw0 F hF=>sr λ_ J1=>PS ?_
 refine nx J1 (sr λ_ J2=>CR QN (Dr) ID λvR HR hR=>?_);obtain⟨n,rfl,rfl⟩:=hR;refine BV #[(.pointer (some ⟨n,0,none⟩)),(.pointer none),(.pointer none),(.pointer none),(.pointer none),(.pointer none),(.pointer none),(.pointer none),(.pointer none),(.pointer none),(.pointer none),(.slice none 0 0),(.slice none 0 0),(.slice none 0 0),(.slice none 0 0),(.slice none 0 0)] ?_;refine XB λb5=>?_
 refine PS ?_;refine nx J2 (aa λ_ J3=>sr λ_ J4=>PS ?_);refine nx J4 (aq ?_)
 refine bA (α:=(Nat)×(Nat→Nat)×(Nat→Nat)) (λ⟨i,d,r⟩=>i≤5) (λ⟨i,d,r⟩=>[(0,(.pointer none)),(1,(.pointer (some ⟨b5,0,none⟩))),(6,(.int .i64 (((i:Nat):Int))))]) (λ⟨i,d,r⟩=>[am b5 (eZ n (dJ i d) (dJ i r) JO) 104,eO 156 208 5 n (List.replicate 25 []),bH ((List.range i).map (xU d r))]) (λ⟨i,d,r⟩=>5-i) (0,λ_=>0,λ_=>0)
  (aN _) SB
  (λ_ s=>aD [1,1,0] rfl (qK s)) (λ⟨i,d,r⟩ hinv=>?_)
 obtain hi:=hinv;refine sr λ_ J5=>PS ?_
 refine ao ?_ ?_<;>intro h7;have hlt:i<5:=by omega
 refine nx J5 (aa λ_ J6=>CY (qx J6 (aa λ_ J7=>aq (sr λ_ J8=>P2 ?_))));refine nx J8 (aa λ_ J9=>D0 dK ?_);refine PD 0 ?_;refine PD 1 ?_;refine PD 3 ?_;refine FD 4 1 jw tv ?_;refine AL 2 ?_;refine CR NJ (F0) ID λvR HR hR=>?_
 obtain⟨dn,rfl,rfl⟩:=hR;refine EN (IY 5 (1+i) Cd p7 ?_);refine AL 6 ?_;refine bI (i:=1) (ab rfl) rfl rfl rfl rfl rfl p7 rfl rfl (by rw[sK];omega) (Mn n (dJ i d) (dJ i r) JO (.pointer (some ⟨dn,0,none⟩)) hlt) rfl (EN (DN (ac J9 (D0 dK ?_))));refine PD 0 ?_;refine PD 1 ?_;refine PD 2 ?_;refine PD 3 ?_;refine PD 4 ?_;refine PD 5 ?_;refine FD 6 1 jw tv ?_;refine IY 7 (1+i) Cd p7 ?_;refine PD 13 ?_;refine FD 14 6 jw pJ ?_;refine AL 8 ?_;refine LT 1 ut (.pointer (some ⟨dn,0,none⟩)) ?_ (hc:=by exact(Ef n (lO (dJ i d) i (.pointer (some ⟨dn,0,none⟩))) (dJ i r) JO hlt).trans (congrArg some (jG (dJ i d) i _)));refine EN (AL 9 ?_);refine CR NI (qJ i dn .new DkOk.new) ID λvR HR hR=>?_
 rcases hR with⟨hn,_⟩| ⟨s,rn,hs,rfl,rfl⟩
 · exact absurd hn (xk i)
 refine EN (PD 10 ?_);refine PD 11 ?_;refine PD 12 ?_;refine IY 15 (6+i) rE iR ?_;refine AL 16 ?_;refine bI (i:=2) (ab rfl) rfl rfl rfl rfl rfl iR rfl rfl (by rw[sK];omega) (wP n (lO (dJ i d) i (.pointer (some ⟨dn,0,none⟩))) (dJ i r) JO (.pointer (some ⟨rn,0,none⟩)) hlt) rfl (EN (DN (ag (ac J7 (ae (AD ?_))))));refine PS ?_;refine au ?_
 exact aK ((i+1,lO d i dn,lO r i rn):(Nat)×(Nat→Nat)×(Nat→Nat)) (by omega) (by show 5- (i+1)<5-i;omega)
  SB
  (λ_ q=>by
   show bH [am b5 (eZ n (dJ (i+1) (lO d i dn)) (dJ (i+1) (lO r i rn)) JO) 104,_,_] _;rw[←KC,←KC]
   exact Kk hs (aD [0,0,0,0,0] rfl q))
 refine nx J5 (aa λ_ J10=>CN (aX (aA (aA (bu (ac J3 (sr λ_ J11=>P2 ?_)))))));exact nx J11 (aj (aF (H':=[gq b5 .new]) (dE _) (λ_ s=>by have h5:i=5:=(by omega);subst h5;exact Kj s) (aw rfl rfl ⟨b5,rfl,rfl⟩)))
end Go.Proofs.YtjblgopghhgflaaGreat
end

section
namespace Api
open Go Leg Codec Dsk Wal
def iC(D:DS):Nat→DS
 |0=> .new
 |k+1=>if fa D.s ((k:Nat):Int)=zs then iC D k else((iC D k).write ((k:Nat):Int) (fa D.s ((k:Nat):Int))).2
def k9(D:DS):DS:=(iC D 2048).sync.2
def N5(a:CL)(i:Nat):Option (MS LD):=if(a.at' i).up then none else(cD i (k9 (a.at' i).dk)).1
def fU(a:CL)(i:Nat):Option (MS LD):=if(a.at' i).up then(a.at' i).run else(cD i (k9 (a.at' i).dk)).1
def Km(s:MS LD)(b:BookT)(i:Nat):BookT:=(fz b ((i:Nat):Int) (cb s.mirror ((i:Nat):Int))).1
def pV(s:MS LD)(b:BookT):Nat→BookT
 |0=>b
 |i+1=>Km s (pV s b i) i
def gR(a:CL):Nat→BookT
 |0=> .zero
 |j+1=>match fU a j with
  |some s=>pV s (gR a j) 5
  |none=>gR a j
def cx(a:CL):BookT:=gR a 5
theorem tt{a:CL}{j:Nat}{s:MS LD}(h:fU a j=some s):gR a (j+1)=pV s (gR a j) 5:=by rw[gR,h]
theorem tu{a:CL}{j:Nat}(h:fU a j=none):gR a (j+1)=gR a j:=by rw[gR,h]
def fI(a:CL):Nat→ViewT×Bool
 |0=>(firstV,false)
 |j+1=>match fU a j with
  |some s=>if(fI a j).2=false∨s.view.epoch>(fI a j).1.epoch then(s.view,true)else fI a j
  |none=>fI a j
def gv(a:CL):ViewT:=(fI a 5).1
theorem ox{a:CL}{j:Nat}(h:fU a j=none):fI a (j+1)=fI a j:=by rw[fI,h]
theorem jT{a:CL}{j:Nat}{s:MS LD}(h:fU a j=some s):fI a (j+1)=if(fI a j).2=false∨s.view.epoch>(fI a j).1.epoch then(s.view,true)else fI a j:=by rw[fI,h]
theorem wc{a:CL}{j:Nat}{s:MS LD}(h:fU a j=some s)(hk:(fI a j).2=true)(he: ¬s.view.epoch>(fI a j).1.epoch):fI a (j+1)=fI a j:=by
 rw[jT h,if_neg (λq=>q.elim (λz=>by rw[hk]at z;cases z) he)]
def uX(v:ViewT)(i:Nat):Int:=(jV v ((i:Nat):Int)).getD ((i:Nat):Int)
def jh(B:BookT)(key:Int)(i:Nat):CellT:=dp B ((i:Nat):Int) key
def Lx(B:BookT)(key:Int)(i ow:Nat)(S:List Int):List Int:=S.set ow (gr (S.getD ow 0+gr ((jh B key i).inn- (jh B key i).out)))
def Ob(B:BookT)(key:Int)(i ow j:Nat)(S:List Int):List Int:=S.set ow (gr (S.getD ow 0+gr ((jh B key j).given.toList.getD i 0- (jh B key i).given.toList.getD j 0)))
def Ns(B:BookT)(key:Int)(i ow:Nat)(S:List Int):Nat→List Int
 |0=>S
 |j+1=>Ob B key i ow j (Ns B key i ow S j)
def xl(B:BookT)(key:Int)(v:ViewT):Nat→List Int
 |0=>List.replicate 5 0
 |i+1=>if 0≤uX v i∧uX v i<5 then Ns B key i (uX v i).toNat (Lx B key i (uX v i).toNat (xl B key v i)) 5 else xl B key v i
theorem rk(B:BookT)(key:Int)(i ow:Nat)(S:List Int): ∀j,(Ns B key i ow S j).length=S.length
 |0=>rfl
 |j+1=>by rw[Ns,Ob,cK];exact rk B key i ow S j
theorem j9(B:BookT)(key:Int)(v:ViewT): ∀i,(xl B key v i).length=5
 |0=>by simp[xl]
 |i+1=>by
  rw[xl];split
  · rw[rk,Lx,cK];exact j9 B key v i
  · exact j9 B key v i
def qj(B:BookT)(key:Int)(k:Nat):Vector CellT 5:=Vector.ofFn λj:Fin 5=>if j.val<k then jh B key j.val else .zero
theorem KI{B:BookT}{key:Int}{j:Nat}(hj:j<5):(qj B key 5)[j]=jh B key j:=by simp[qj,hj]
theorem KH{B:BookT}{key:Int}{i:Nat}(hi:i<5):(qj B key i).set i (jh B key i) hi=qj B key (i+1):=by
 ext j hj
 rw[Vector.getElem_set];simp only[qj,Vector.getElem_ofFn];split
 · rename_i h;subst h;rw[if_pos (by omega)]
 · by_cases h:j<i
   · rw[if_pos h,if_pos (by omega)]
   · rw[if_neg h,if_neg (by omega)]
def Oc(k i j:Int):OpT:=⟨k,i,j,0,0, .zero,0,0,0⟩
theorem KG:OkCh ChangeT.zero:=⟨by
 have: ∀n∈ChangeT.zero.flat,(Lit.int IntKind.i64 n).wf=true:=by decide+kernel
 intro n hn;exact this n hn⟩
theorem Bv(k i j:Int):OkOp (Oc k i j):=⟨KG,by show(0:Int)≤9223372036854775807;omega⟩
def xj(a:CL)(i j:Nat):CL:=if i=j then a else(Cg a (Oc 5 ((i:Nat):Int) ((j:Nat):Int))).1
def Oo(a:CL)(i:Nat):CL:=(Cg a (Oc 8 ((i:Nat):Int) 0)).1
def vL(a:CL)(i:Nat):Nat→CL
 |0=>a
 |j+1=>xj (vL a i j) i j
def sweepTo(a:CL):Nat→CL
 |0=>a
 |i+1=>vL (sweepTo a i) i 5
def xh(a:CL):CL:=sweepTo a 5
def uJ(a:CL):Nat→CL
 |0=>a
 |i+1=>Oo (uJ a i) i
def Iv(W:List (List MsgT))(k:Nat):Nat:=((List.range k).map λq=>if q%6=0 then 0 else(W.getD q []).length).sum
theorem Aj(W:List (List MsgT))(k:Nat):Iv W (k+1)=Iv W k+(if k%6=0 then 0 else(W.getD k []).length):=by simp[Iv,dd]
def AY(a:CL):Nat:=Iv a.W 25
def nc:Nat→CL→CL
 |0,a=>a
 |k+1,a=>if AY a=0 then a else nc k (xh a)
def xE(a:CL):CL:=nc 400 (uJ a 5)
theorem HK(a:CL):nc (400-0) (uJ a 5)=xE a:=by unfold xE;rw[Rw]
def ka(a:CL):Nat→CL
 |0=>a
 |k+1=>xE (ka a k)
theorem Jy{a:CL}{i j:Nat}(h:i≠j):vL a i (j+1)=(Cg (vL a i j) (Oc 5 ((i:Nat):Int) ((j:Nat):Int))).1:=by
 show xj _ i j=_;unfold xj;rw[if_neg h]
theorem Jz{a:CL}{i j:Nat}(h:i=j):vL a i (j+1)=vL a i j:=by
 show xj _ i j=_;unfold xj;rw[if_pos h]
theorem tw{k:Nat}(h:k<400)(d:CL):nc (400-k) d=if AY d=0 then d else nc (400- (k+1)) (xh d):=by
 rw[show 400-k=(400- (k+1))+1 by omega];rfl
theorem A9{k:Nat}(h: ¬k<400)(d:CL):nc (400-k) d=d:=by
 rw[show 400-k=0 by omega];rfl
section
variable {n:Nat} {a:CL}
theorem CLOk.step(h:CLOk n a)(i j:Nat):CLOk n (xj a i j):=by
 unfold xj;split
 · exact h
 · exact FQ h (Bv ..) (by show ¬((0:Int)≤5∧(5:Int)≤4);omega)
theorem CLOk.tik(h:CLOk n a)(i:Nat):CLOk n (Oo a i):=FQ h (Bv ..) (by show ¬((0:Int)≤8∧(8:Int)≤4);omega)
theorem CLOk.rows(h:CLOk n a)(i:Nat): ∀j,CLOk n (vL a i j)
 |0=>h
 |j+1=>(CLOk.rows h i j).step i j
theorem CLOk.sweepTo(h:CLOk n a): ∀i,CLOk n (sweepTo a i)
 |0=>h
 |i+1=>(CLOk.sweepTo h i).rows i 5
theorem CLOk.ticks(h:CLOk n a): ∀i,CLOk n (uJ a i)
 |0=>h
 |i+1=>(CLOk.ticks h i).tik i
theorem CLOk.sweeps: ∀(k:Nat) {a:CL},CLOk n a→CLOk n (nc k a)
 |0,_,h=>h
 |k+1,a,h=>by
  unfold nc;split
  · exact h
  · exact CLOk.sweeps k (h.sweepTo 5)
theorem CLOk.settle(h:CLOk n a): ∀k,CLOk n (ka a k)
 |0=>h
 |k+1=>by
  rw[ka,xE];exact CLOk.sweeps 400 ((CLOk.settle h k).ticks 5)
theorem CLOk.len(h:CLOk n a): ∀k,Iv a.W k≤8*k
 |0=>aI _
 |k+1=>by
  rw[Aj];have:=CLOk.len h k;have:=(h.way k).1;split<;>omega
end
end Api
namespace Go.Proofs.YtjblgopghhgflaaGreat
open Go Leg Codec Api Dsk Wal
theorem sx(W:List (List MsgT)): ∀k,k≤25→mA (cV W) k=Iv W k
 |0,_=>rfl
 |k+1,h=>by
  rw[sy,Aj,sx W k (by omega),oj W (by omega),cf]
theorem EL{n:Nat}{a:CL}(h:CLOk n a): ∀k,k<25→mA (cV a.W) k+((cV a.W).getD k []).length≤1000000000:=λk hk=>by
 rw[sx a.W k (by omega),oj a.W hk,cf];have:=h.len k;have:=(h.way k).1;omega
theorem Dw(c n i:Nat)(D M P:Nat→Value)(hi:i<5)(hM:M i= .pointer none):
 DT 18 #[(.pointer (some ⟨c,0,none⟩)),(.int .i64 (((i:Nat):Int)))] T0 [am c (eZ n D M P) 104] (RI (.pointer none) [am c (eZ n D M P) 104]):=by
 refine BD 15 Tryz.func18 rfl rfl rfl λw0 F hF=>sr λ_ J1=>PS ?_
 refine nx J1 (aa λ_ J2=>sr λ_ J3=>P2 ?_);refine CE Dq (tn c n i D M P hi hM) ID ?_;refine PS ?_;refine nx J3 (CY (sr λ_ J4=>PS ?_));exact nx J4 (aj (af (WK [0] (aw rfl rfl ⟨rfl,rfl⟩))))
theorem Dv(c n i:Nat)(D M P:Nat→Value)(hi:i<5)(d r:Nat)(e:DS)(hD:D i= .pointer (some ⟨d,0,none⟩))(hM:M i= .pointer (some ⟨r,0,none⟩)):
 DT 18 #[(.pointer (some ⟨c,0,none⟩)),(.int .i64 (((i:Nat):Int)))] T0 [am c (eZ n D M P) 104,dk d e] (dB (λv H=>((e.dn=false∧v= .pointer (some ⟨r,0,none⟩))∨(e.dn=true∧v= .pointer none))∧H=[am c (eZ n D M P) 104,dk d e])):=by
 refine BD 15 Tryz.func18 rfl rfl rfl λw0 F hF=>sr λ_ J1=>PS ?_
 refine nx J1 (aa λ_ J2=>sr λ_ J3=>P2 ?_);refine CE Dq (tm c n i D M P hi d r e hD hM) ID ?_;refine bf ?_ ?_<;>intro h7;refine PS ?_;refine nx J3 (CN (qx J2 (sr λ_ J4=>P3 ?_)));refine FA 6 jw pJ ?_;refine IX (6+i) rE iR ?_;refine LT 0 ql (.pointer (some ⟨r,0,none⟩)) ?_ (hc:=by exact(yB n D M P hi).trans (congrArg some hM));refine PS ?_;refine nx J4 (aj (WK [0,0] (aw rfl rfl ?_)));exact⟨.inl ⟨(by simpa using h7),rfl⟩,rfl⟩;refine PS ?_;refine nx J3 (CY (sr λ_ J5=>PS ?_));refine nx J5 (aj (af (WK [0,0] (aw rfl rfl ?_))));exact⟨.inr ⟨(by simpa using h7),rfl⟩,rfl⟩
theorem F1(c n i:Nat)(D M P:Nat→Value)(hi:i<5)(d:Nat)(hD:D i= .pointer (some ⟨d,0,none⟩)):
 DT 67 #[(.pointer (some ⟨c,0,none⟩)),(.int .i64 (((i:Nat):Int)))] T0 [am c (eZ n D M P) 104] (RI (.pointer (some ⟨d,0,none⟩)) [am c (eZ n D M P) 104]):=by
 refine BD 15 Tryz.func67 rfl rfl rfl λw0 F hF=>sr λ_ J1=>PS ?_
 refine nx J1 (aa λ_ J2=>sr λ_ J3=>P2 ?_);refine CE qQ (eb c i hi) ID ?_;refine PS ?_;refine nx J3 (CN (qx J2 (sr λ_ J4=>P3 ?_)));refine FA 1 jw tv ?_;refine IX (1+i) Cd p7 ?_;refine LT 0 ut (.pointer (some ⟨d,0,none⟩)) ?_ (hc:=by exact(Ef n D M P hi).trans (congrArg some hD));refine PS ?_;exact nx J4 (aj (WK [0] (aw rfl rfl ⟨rfl,rfl⟩)))
abbrev Bd(c:Nat)(a:CL)(i:Nat)(g:CX):List HP:=am c (eZ g.n (nu g) (kI a g.r) g.p) 104::eO 156 208 5 g.n (cV a.W)::la (a.at' i) (g.d i) (g.r i) (g.p i)
def cT(c:Nat)(a:CL)(g:CX):HP:=bH (rR c a g)
theorem H6{α:Type}(A B C:List α):((A++B)++C).Perm ((A++C)++B):=by
 rw[aG,aG];exact List.Perm.append_left _ List.perm_append_comm
section
variable {f:FuncId} {args:Array Value} {c i:Nat} {a:CL} {g:CX}
theorem Ay{H:List HP}{h:Hl}(s:bH (gq c a::H) h): ∃g,bH (cT c a g::H) h:=by
 obtain⟨h1,h2,d,e,⟨g,t⟩,s2⟩:=s;exact⟨g,h1,h2,d,e,t,s2⟩
theorem HC(hi:i<5){h:Hl}(s:bH [cT c a g] h):bH (Bd c a i g++[bH (((List.range 5).map λi=>lv (a.at' i) (g.d i) (g.r i) (g.p i)).eraseIdx i)]) h:=by
 have s0:bH (rR c a g++[]) h:=(ck _ _).2 s;have s2:=uT (f:=λi=>lv (a.at' i) (g.d i) (g.r i) (g.p i)) hi (aD [2,0,0] rfl s0);have s3:=(ck (la (a.at' i) (g.d i) (g.r i) (g.p i)) _).2 s2;exact aD [4,4,0,0,0,0] rfl s3
theorem HB(hi:i<5){h:Hl}(s:bH (Bd c a i g++[bH (((List.range 5).map λi=>lv (a.at' i) (g.d i) (g.r i) (g.p i)).eraseIdx i)]) h):bH [cT c a g] h:=by
 have s1:=aD [2,2,2,2,0,0] rfl s;have s2:=(ck (la (a.at' i) (g.d i) (g.r i) (g.p i)) _).1 s1;have s3:=uS (f:=λi=>lv (a.at' i) (g.d i) (g.r i) (g.p i)) (g:=λi=>lv (a.at' i) (g.d i) (g.r i) (g.p i)) hi (λ_ _=>rfl) s2;exact(ck (rR c a g) []).1 (aD [1,1,0] rfl s3)
theorem G6{Q:Value→List HP→Prop}(hi:i<5)(core:DT f args T0 (Bd c a i g) (dB λv H=>∃X,Q v X∧H=Bd c a i g++X)):
 DT f args T0 [cT c a g] (dB λv H=>∃X,Q v X∧H=cT c a g::X):=by
 refine Leg.Does.withinR (B:=[bH (((List.range 5).map λi=>lv (a.at' i) (g.d i) (g.r i) (g.p i)).eraseIdx i)]) core (λ_ _ _ _=>trivial) (λh s=>HC hi s) λv H hp=>?_
 obtain⟨X,hQ,rfl⟩:=hp;refine⟨_,λh s=>?_,X,hQ,rfl⟩;have s1:=(ck _ X).1 (eG (H6 (Bd c a i g) X [bH (((List.range 5).map λi=>lv (a.at' i) (g.d i) (g.r i) (g.p i)).eraseIdx i)]) s);exact(ck [cT c a g] X).2 (cO s1 (λh t=>HB hi t) λ_ t=>t)
theorem F3{Q:Value→Prop}(hi:i<5)(core:DT f args T0 (Bd c a i g) (dB λv H=>Q v∧H=Bd c a i g)):
 DT f args T0 [cT c a g] (dB λv H=>Q v∧H=[cT c a g]):=
 mp (G6 (Q:=λv X=>Q v∧X=[]) hi (mp core λv H hp=>by
  obtain⟨h1,rfl⟩:=hp
  exact⟨[],⟨h1,rfl⟩,(aR _).symm⟩)) λv H hp=>by
  obtain⟨X,⟨h1,rfl⟩,rfl⟩:=hp;exact⟨h1,rfl⟩
theorem Lo{x:Slot}{s:MS LD}(h:x.run=some s):x.up= !s.e.D.dn:=by unfold Slot.up;rw[h]
theorem Gs{x:Slot}(h:x.run=none):x.up=false:=by unfold Slot.up;rw[h]
theorem zO{s:MS LD}(hs:(a.at' i).run=some s):Bd c a i g=[am c (eZ g.n (nu g) (kI a g.r) g.p) 104,eO 156 208 5 g.n (cV a.W),dk (g.d i) s.e.D,ni (g.p i) (a.at' i).past,fw s (g.d i) (g.r i)]:=by
 unfold Bd la Slot.dk rD;rw[hs]
def GV(a:CL)(g:CX)(i:Nat):Value:=if(a.at' i).up then .pointer (some ⟨g.r i,0,none⟩)else .pointer none
theorem Fz(hi:i<5):DT 18 #[.pointer (some ⟨c,0,none⟩), .int .i64 ((i:Nat):Int)] T0 [cT c a g] (dB λv H=>v=GV a g i∧H=[cT c a g]):=by
 refine F3 (Q:=λv=>v=GV a g i) hi ?_;unfold GV;cases hr:(a.at' i).run with
 |none=>
  rw[Gs hr];refine Leg.Does.withinR (A:=[am c (eZ g.n (nu g) (kI a g.r) g.p) 104]) (B:=eO 156 208 5 g.n (cV a.W)::la (a.at' i) (g.d i) (g.r i) (g.p i)) (Dw c g.n i (nu g) (kI a g.r) g.p hi (po hr)) (λ_ _ _ _=>trivial) (λh s=>s) λv H hp=>?_
  obtain⟨rfl,rfl⟩:=hp;exact⟨_,λh s=>s,rfl,rfl⟩
 |some s=>
  rw[Lo hr,zO hr];refine Leg.Does.withinR (B:=[eO 156 208 5 g.n (cV a.W),ni (g.p i) (a.at' i).past,fw s (g.d i) (g.r i)]) (Dv c g.n i (nu g) (kI a g.r) g.p hi (g.d i) (g.r i) s.e.D rfl (x7 hr)) (λ_ _ _ _=>trivial) (λh s=>aD [0,1,0,0,0] rfl s) λv H hp=>?_
  obtain⟨hv,rfl⟩:=hp;refine⟨_,λh s=>aD [0,1,0,0,0] rfl s,?_,rfl⟩;rcases hv with⟨h1,rfl⟩| ⟨h1,rfl⟩<;>rw[h1]<;>rfl
theorem yx(hi:i<5):DT 67 #[.pointer (some ⟨c,0,none⟩), .int .i64 ((i:Nat):Int)] T0 [cT c a g] (dB λv H=>v= .pointer (some ⟨g.d i,0,none⟩)∧H=[cT c a g]):=by
 refine F3 (Q:=λv=>v= .pointer (some ⟨g.d i,0,none⟩)) hi ?_;refine Leg.Does.withinR (A:=[am c (eZ g.n (nu g) (kI a g.r) g.p) 104]) (B:=eO 156 208 5 g.n (cV a.W)::la (a.at' i) (g.d i) (g.r i) (g.p i)) (F1 c g.n i (nu g) (kI a g.r) g.p hi (g.d i) rfl) (λ_ _ _ _=>trivial) (λh s=>s) λv H hp=>?_
 obtain⟨rfl,rfl⟩:=hp;exact⟨_,λh s=>s,rfl,rfl⟩
theorem Pr{s:MS LD}{Q:Value→Prop}(hi:i<5)(hs:(a.at' i).run=some s)(hf:DT f args T0 [fw s (g.d i) (g.r i)] (dB λv H=>Q v∧H=[fw s (g.d i) (g.r i)])):DT f args T0 [cT c a g] (dB λv H=>Q v∧H=[cT c a g]):=by
 refine F3 hi ?_;rw[zO hs];refine Leg.Does.withinR (B:=[am c (eZ g.n (nu g) (kI a g.r) g.p) 104,eO 156 208 5 g.n (cV a.W),dk (g.d i) s.e.D,ni (g.p i) (a.at' i).past]) hf (λ_ _ _ _=>trivial) (λh q=>aD [4,0,0,0,0] rfl q) λv H hp=>?_
 obtain⟨hQ,rfl⟩:=hp;exact⟨_,λh q=>aD [1,1,1,1,0] rfl q,hQ,rfl⟩
theorem xC{s:MS LD}{d r:Nat}{v0:RepT→Value}(hf: ∀x,DT f args T0 [am r (RepT.cells x) 123] (dB λv H=>v=v0 x∧H=[am r (RepT.cells x) 123])){w:Value}(hv: ∀a,v0 (s.rep a)=w):DT f args T0 [fw s d r] (dB λv H=>v=w∧H=[fw s d r]):=
 Leg.Does.pack (B:=[]) λx=>Leg.Does.withinR (A:=[am r (RepT.cells (s.rep x)) 123]) (B:=[GY x.lg d ((s.e.cnt:Nat):Int) s.e.used,ni x.rs s.replies,Gr x.vo s.vote]) (hf (s.rep x)) (λ_ _ _ _=>trivial) (λ_ q=>q) λv H hp=>by
  obtain⟨rfl,rfl⟩:=hp;exact⟨[fw s d r],λ_ q=>br (p:=HH s d r) (H:=[]) x q,hv x,rfl⟩
theorem nI(s:MS LD)(d r:Nat):DT 21 #[.pointer (some ⟨r,0,none⟩)] T0 [fw s d r] (dB λv H=>v= .agg (ints s.view.flat).toArray∧H=[fw s d r]):=xC (λx=>Fi r x) λ_=>rfl
theorem H9(s:MS LD)(d r:Nat):DT 33 #[.pointer (some ⟨r,0,none⟩)] T0 [fw s d r] (dB λv H=>v= .agg (ints s.own.flat).toArray∧H=[fw s d r]):=xC (λx=>HV r x) λ_=>rfl
theorem Ah(s:MS LD)(d r:Nat)(who:Int):DT 42 #[.pointer (some ⟨r,0,none⟩), .int .i64 who] T0 [fw s d r] (dB λv H=>v= .tuple #[.agg (ints (cb s.mirror who).flat).toArray, .bool (fy s.mirror who)]∧H=[fw s d r]):=xC (λx=>xL r x who) λ_=>rfl
theorem Fy(hi:i<5):DT 18 #[.pointer (some ⟨c,0,none⟩), .int .i64 ((i:Nat):Int)] T0 [cT c a g] (dB λv H=>((a.at' i).up=false∧v= .pointer none∧H=[cT c a g])∨∃s,(a.at' i).run=some s∧(a.at' i).up=true∧v= .pointer (some ⟨g.r i,0,none⟩)∧H=[cT c a g]):=
 mp (Fz hi) λv H hp=>by
  obtain⟨rfl,rfl⟩:=hp;unfold GV;cases hu:(a.at' i).up with
  |false=>exact .inl ⟨rfl,rfl,rfl⟩
  |true=>
   cases hs:(a.at' i).run with
   |none=>rw[Gs hs]at hu;cases hu
   |some s=>exact .inr ⟨s,rfl,rfl,rfl,rfl⟩
end
theorem CB(c n:Nat)(a:CL)(h:CLOk n a)(hn:n≤100000):
 DT 69 #[(.pointer (some ⟨c,0,none⟩))] T0 [gq c a] (dB (λ_ H=>H=[gq c (xh a)])):=by
 refine BD 20 Tryz.func69 rfl rfl rfl λw0 F hF=>sr λ_ J1=>PS ?_
 refine nx J1 (aq ?_)
 refine bA (α:=(Nat)) (λi=>i≤5) (λi=>[(0,(.pointer (some ⟨c,0,none⟩))),(4,(.int .i64 (((i:Nat):Int))))]) (λi=>[gq c (sweepTo a i)]) (λi=>5-i) 0
  (aN _) SB
  (λ_ s=>s) (λi hinv=>?_)
 obtain hi:=hinv;refine sr λ_ J2=>PS ?_
 refine ao ?_ ?_<;>intro h5;refine nx J2 (aa λ_ J3=>CY (qx J3 (aa λ_ J4=>aq (sr λ_ J5=>P2 ?_))));refine nx J5 (sr λ_ J6=>PS ?_);refine nx J6 (aq ?_)
 refine bA (α:=(Nat)) (λj=>j≤5) (λj=>[(0,(.pointer (some ⟨c,0,none⟩))),(2,(.int .i64 (((i:Nat):Int)))),(4,(.int .i64 (((i:Nat):Int)))),(7,(.int .i64 (((j:Nat):Int))))]) (λj=>[gq c (vL (sweepTo a i) i j)]) (λj=>5-j) 0
  (aN _) SB
  (λ_ s=>s) (λj hinv=>?_)
 obtain hj:=hinv;refine sr λ_ J7=>PS ?_
 refine ao ?_ ?_<;>intro h8;refine nx J7 (aa λ_ J8=>CY (qx J8 (aa λ_ J9=>aq (sr λ_ J10=>P2 ?_))));refine nx J10 (sr λ_ J11=>P3 ?_);refine ao ?_ ?_<;>intro h12;refine nx J11 (CY (ae (P3 ?_)));refine tp (lY OpT.zero (OpT.mk 5 ((i:Nat):Int) ((j:Nat):Int) 0 0 ChangeT.zero 0 0 0) [(0,[Value.int .i64 5]),(1,[Value.int .i64 ((i:Nat):Int)]),(2,[Value.int .i64 ((j:Nat):Int)])] gh qo (g:=OpT.sg)) ?_;refine CE L2 (ug (c:=c) (o:=(Oc 5 ((i:Nat):Int) ((j:Nat):Int))) ((h.sweepTo i).rows i j) hn (Bv ..)) ID ?_;refine au (ag (ac J9 (ae (AD ?_))));refine PS ?_;refine au ?_
 exact aK ((j+1):(Nat)) (by omega) (by show 5- (j+1)<5-j;omega)
  SB
  (λ_ s=>by rw[Jy (by omega)];exact s)
 refine nx J11 (CN (aU (ag (ac J9 (ae (AD ?_))))));refine PS ?_;refine au ?_
 exact aK ((j+1):(Nat)) (by omega) (by show 5- (j+1)<5-j;omega)
  SB
  (λ_ s=>by rw[Jz (by omega)];exact s)
 refine nx J7 (aa λ_ J12=>CN (aX (aA (aA (bu (ag (ac J4 (ae (AD ?_)))))))));refine PS ?_;refine au ?_
 exact aK ((i+1):(Nat)) (by omega) (by show 5- (i+1)<5-i;omega)
  SB
  (λ_ s=>by rw[show j=5 by omega]at s;exact s)
 exact nx J2 (aa λ_ J13=>CN (aX (aA (aA (bu (aF (H':=[gq c (xh a)]) (dE _) (λ_ s=>by rw[show i=5 by omega]at s;exact s) (bG rfl rfl)))))))
theorem Bb(c n:Nat)(a:CL)(h:CLOk n a)(hn:n≤100000)(rounds:Nat)(hrd:rounds≤1000):
 DT 30 #[(.pointer (some ⟨c,0,none⟩)),(.int .i64 (((rounds:Nat):Int)))] T0 [gq c a] (dB (λ_ H=>H=[gq c (ka a rounds)])):=by
 refine BD 36 Tryz.func30 rfl rfl rfl λw0 F hF=>aa λ_ J1=>sr λ_ J2=>PS ?_
 refine tp (jE rfl PK rfl rfl) ?_;refine nx J2 (CN (qx J1 (sr λ_ J3=>PS ?_)));refine nx J3 (aq ?_)
 refine bA (α:=(Nat)) (λm=>m≤rounds) (λm=>[(0,(.pointer (some ⟨c,0,none⟩))),(1,(.int .i64 (((rounds:Nat):Int)))),(4,(.int .i64 (((m:Nat):Int))))]) (λm=>[gq c (ka a m)]) (λm=>rounds-m) 0
  (aN _) SB
  (λ_ s=>s) (λm hinv=>?_)
 obtain hm:=hinv;refine aa λ_ J4=>sr λ_ J5=>P3 ?_
 refine ao ?_ ?_<;>intro h11;refine nx J5 (CY (qx J4 (aa λ_ J6=>aq (aa λ_ J7=>sr λ_ J8=>PS ?_))));refine nx J8 (aq ?_)
 refine bA (α:=(Nat)) (λi=>i≤5) (λi=>[(0,(.pointer (some ⟨c,0,none⟩))),(1,(.int .i64 (((rounds:Nat):Int)))),(4,(.int .i64 (((m:Nat):Int)))),(14,(.int .i64 (((i:Nat):Int))))]) (λi=>[gq c (uJ (ka a m) i)]) (λi=>5-i) 0
  (aN _) SB
  (λ_ s=>s) (λi hinv=>?_)
 obtain hi:=hinv;refine sr λ_ J9=>PS ?_
 refine ao ?_ ?_<;>intro h15;refine nx J9 (aa λ_ J10=>CY (qx J10 (aa λ_ J11=>aq (sr λ_ J12=>P2 ?_))));refine nx J12 (ae (P2 ?_));refine tp (lY OpT.zero (OpT.mk 8 ((i:Nat):Int) 0 0 0 ChangeT.zero 0 0 0) [(0,[Value.int .i64 8]),(1,[Value.int .i64 ((i:Nat):Int)])] gh qo (g:=OpT.sg)) ?_;refine CE L2 (ug (c:=c) (o:=(Oc 8 ((i:Nat):Int) 0)) ((h.settle m).ticks i) hn (Bv ..)) ID ?_;refine au (ag (ac J11 (ae (AD ?_))));refine PS ?_;refine au ?_
 exact aK ((i+1):(Nat)) (by omega) (by show 5- (i+1)<5-i;omega)
  SB
  (λ_ s=>s)
 refine nx J9 (aa λ_ J13=>CN (aX (aA (aA (bu (ac J7 (sr λ_ J14=>PS ?_)))))));refine nx J14 (aq ?_)
 refine bA (α:=(Nat)×(CL)) (λ⟨k,d⟩=>k≤400∧CLOk n d∧nc (400-k) d=xE (ka a m)) (λ⟨k,d⟩=>[(0,(.pointer (some ⟨c,0,none⟩))),(1,(.int .i64 (((rounds:Nat):Int)))),(4,(.int .i64 (((m:Nat):Int)))),(6,(.int .i64 (((k:Nat):Int))))]) (λ⟨k,d⟩=>[gq c d]) (λ⟨k,d⟩=>400-k) (0,uJ (ka a m) i)
  ⟨aN _,(h.settle m).ticks i,by rw[show i=5 by omega];exact HK _⟩ SB
  (λ_ s=>s) (λ⟨k,d⟩ hinv=>?_)
 obtain⟨hk,hd,hs⟩:=hinv;refine aa λ_ J15=>sr λ_ J16=>P2 ?_
 refine ao ?_ ?_<;>intro h23;refine P3 ?_;refine FA 0 jw A8 ?_;refine Nh (H':=λg:CX=>[am c (eZ g.n (nu g) (kI d g.r) g.p) 104,eO 156 208 5 g.n (cV d.W),bH ((List.range 5).map λi=>lv (d.at' i) (g.d i) (g.r i) (g.p i))]) (λ_ s=>fT s) (λg=>LT 0 KS (.pointer (some ⟨g.n,0,none⟩)) ?_ (hc:=by exact B1 g.n (nu g) (kI d g.r) g.p));refine CE QI (Ds g.n (cV d.W) (EL hd)) (SM [1]) ?_;rw[sx d.W 25 (aI _)];change TL _ _ _ _ _ _ _ _ _ [eO 156 208 5 g.n (cV d.W),am c (eZ g.n (nu g) (kI d g.r) g.p) 104,bH ((List.range 5).map λi=>lv (d.at' i) (g.d i) (g.r i) (g.p i))];refine cJ (H':=[gq c d]) (λ_ s=>br (p:=rR c d) (H:=[]) g (aD [1,0,0] rfl s)) (PS ?_);refine ao ?_ ?_<;>intro h30;refine PS ?_;refine nx J16 (CY (qx J15 (aa λ_ J17=>aq (ae (PS ?_)))));refine CZ QG (CB c n d hd hn) ID λvR=>?_
 refine au (ag (ac J17 (ae (PS ?_))));refine AD ?_;refine PS ?_;refine au ?_
 exact aK ((k+1,xh d):(Nat)×(CL)) ⟨by omega,hd.sweepTo 5,by rw[tw (by omega),if_neg (by unfold AY at*;omega)]at hs;exact hs⟩ (by show 400- (k+1)<400-k;omega)
  SB
  (λ_ s=>s)
 have hfin:d=ka a (m+1):=by rw[tw (by omega),if_pos (by unfold AY at*;omega)]at hs;exact hs
 refine PS ?_;refine nx J16 (CN (aX (aA (aA (bu (ag (ac J6 (ae (PS ?_)))))))));refine AD ?_;refine PS ?_;refine au ?_
 exact aK ((m+1):(Nat)) (by omega) (by show rounds- (m+1)<rounds-m;omega)
  SB
  (λ_ s=>by rw[hfin]at s;exact s)
 have hfin:d=ka a (m+1):=by rw[A9 (by omega)]at hs;exact hs
 refine PS ?_
 iterate 6 refine UF ?_
 refine PS ?_;refine nx J16 (CN (aX (aA (aA (bu (ag (ac J6 (ae (PS ?_)))))))));refine AD ?_;refine PS ?_;refine au ?_
 exact aK ((m+1):(Nat)) (by omega) (by show rounds- (m+1)<rounds-m;omega)
  SB
  (λ_ s=>by rw[hfin]at s;exact s)
 exact nx J5 (CN (aX (aA (aA (bu (aF (H':=[gq c (ka a rounds)]) (dE _) (λ_ s=>by rw[show m=rounds by omega]at s;exact s) (bG rfl rfl)))))))
end Go.Proofs.YtjblgopghhgflaaGreat
end

section
namespace Api
open Go Leg Codec Dsk Wal
structure RepOk(m:Nat)(s:MS LD):Prop where
 ops:0≤s.ops∧s.ops≤((m:Nat):Int)
 r: ∀x∈s.replies,1≤x.op∧x.op≤s.ops
 one:(s.replies.map (·.op)).Nodup
 w:0<s.waits→s.waits≤s.ops∧∀x∈s.replies,x.op≠s.waits
structure RepsOk(m:Nat)(a:CL):Prop where
 ok: ∀i s,(a.at' i).run=some s→RepOk m s
theorem HJ(a:CL)(l:List OpT)(o:OpT):eC a (l++[o])=(Cg (eC a l) o).1:=by simp[eC]
theorem HI(a:CL)(l:List OpT){k:Nat}(hk:k<l.length):eC a (l.take (k+1))=(Cg (eC a (l.take k)) (l[k])).1:=by
 rw[cB hk,HJ]
structure RW(r:ReplyT):Prop where
 op:wu r.op
 err:wu r.err
 value:wu r.value
def DP:OpT:=⟨0,0,0,0,5, .zero,0,0,0⟩
theorem DO:OkOp DP:=⟨KG,by decide⟩
def Md:CL:=(Cg .new DP).1
def fitB:CL:=ka Md 3
theorem fitA_ok:CLOk 1 Md:=KA new_ok DO
def Pv:Bool:=decide ((Cg .new DP).2=0)&&(match(fitB.at' 2).run with
 |some s=>decide (nE s.book 0=5)
 |none=>false)&&(fitB.at' 2).up&&(fitB.at' 4).up
theorem IL:Pv=true:=by decide+kernel
theorem Mc:(Cg .new DP).2=0∧∃s2,(fitB.at' 2).run=some s2∧(fitB.at' 2).up=true∧nE s2.book 0=5∧(fitB.at' 4).up=true:=by
 have h:=IL;unfold Pv at h;rw[av,av,av]at h;obtain⟨⟨⟨h1,h2⟩,h3⟩,h4⟩:=h;refine⟨of_decide_eq_true h1,?_⟩;cases hs:(fitB.at' 2).run with
 |none=>rw[hs]at h2;cases h2
 |some s=>rw[hs]at h2;exact⟨s,rfl,h3,of_decide_eq_true h2,h4⟩
def EW{α:Type}(f:α→List Int)(us:List Value)(x:α)(_:Hl):Prop:=us=ints (f x)∧WF (f x)
theorem Nb{α:Type}{f:α→List Int}{m:Nat}{v:Value}{l:List α}{F:Hl}(h:IsL m (EW f) v l F):IsL m (EF f) v l F∧∀o∈l,WF (f o):=by
 rcases h with⟨rfl,rfl⟩| ⟨a,c,rfl,rfl⟩| ⟨b,off,cap,cs,T,z,rfl,h1,h2,h3,h4⟩
 · exact⟨.inl ⟨rfl,rfl⟩,λo ho=>by cases ho⟩
 · exact⟨.inr (.inl ⟨a,c,rfl,rfl⟩),λo ho=>by cases ho⟩
 · refine⟨.inr (.inr ⟨b,off,cap,cs,T,z,rfl,h1,h2,h3,λj hj=>?_⟩),λo ho=>?_⟩
   · obtain⟨us,e1,e2,e3⟩:=h4 j hj
     exact⟨us,e1,e2,e3.1⟩
   · obtain⟨j,hj,rfl⟩:=fM ho
     obtain⟨us,e1,e2,e3⟩:=h4 j hj;exact e3.2
theorem LQ{o:OpT}(h:WF o.flat):OkOp o:=by
 refine⟨⟨λn hn=>h n ?_⟩,?_⟩
 · simp only[OpT.flat,bS,cA,List.not_mem_nil,or_false]
   simp[hn]
 · have:=wZ (h o.n (by simp[OpT.flat]))
   omega
theorem Nx{x:Value}{l:List OpT}{F:Hl}(h:IsL 11 (EW OpT.flat) x l F): ∀o∈l,OkOp o:=λo ho=>LQ ((Nb h).2 o ho)
section
variable {A m:List ReplyT} {e:Int}
end
end Api
end

section
namespace Go.Proofs.YtjblgopghhgflaaGreat
open Go Leg Codec Api Dsk Wal
theorem FB(x:Value)(l:List OpT):
 DT 13 #[x] (IsL 11 (EF OpT.flat) x l) [] (RI (.bool (decide (((l.length:Nat):Int)≤1200))) []):=by
 refine BD 6 Tryz.func13 rfl rfl rfl λw0 F hF=>sr λ_ J1=>PS ?_
 refine nx J1 (sr λ_ J2=>PS ?_);refine tp (ef rfl Tryz.underlying22 rfl hF.len) ?_;refine P2 ?_;exact nx J2 (aj (WK [] (aw rfl rfl ⟨rfl,rfl⟩)))
theorem lu{D:DS}(hD:Whole D.s): ∀k,k≤2048→Wrote .new k (0,iC D k)∧(iC D k).ar=false∧(iC D k).dn=false
 |0,_=>⟨Wrote.none DkOk.new.ok DkOk.new.inn,rfl,rfl⟩
 |k+1,hk=>by
  obtain⟨h,ha,hd⟩:=lu hD k (by omega);rw[iC];split
  · exact⟨h.more (by omega),ha,hd⟩
  · have h1:0≤((k:Nat):Int)∧((k:Nat):Int)<2048:=by omega
    have h2:(fa D.s ((k:Nat):Int)).length≤64:=by rw[cp hD];exact aI _
    have w:=lZ h1 h2 hd (.inl ha);have o:=Wrote.one h.1 h.2.1 h1 h2;rw[w]at o ⊢;exact⟨h.then rfl o,by show(uW _ _ _).ar=false;unfold uW;exact ha,rfl⟩
theorem CC{D:DS}(hD:Whole D.s):DkOk (k9 D):=by
 obtain⟨h,_⟩:=lu hD 2048 (aI _);exact(DkOk.wrote DkOk.new h (aI _)).2
theorem E4{D:DS}(hD:Whole D.s)(k:Nat)(hk:k≤2048):(iC D k).ws.length≤2048:=by
 obtain⟨⟨_,_,h⟩,_,hd⟩:=lu hD k hk;rcases h with⟨h,_⟩| ⟨_,h,_⟩
 · cases h
 · have:(DS.new).ws.length=0:=rfl
   have h:(iC D k).ws.length≤(DS.new).ws.length+k:=h;omega
theorem Gh(i d:Nat)(D:DS)(hok:DkOk D):
 DT 76 #[(.int .i64 (((i:Nat):Int))),(.pointer (some ⟨d,0,none⟩))] T0 [dk d D] (dB (λv H=>((cD i (k9 D)).1=none∧v= .pointer none∧H=[dk d D])∨∃s r dn,(cD i (k9 D)).1=some s∧v= .pointer (some ⟨r,0,none⟩)∧H=[dk d D,fw s dn r])):=by
 refine BD 36 Tryz.func76 rfl rfl rfl λw0 F hF=>sr λ_ J1=>PS ?_
 refine nx J1 (sr λ_ J2=>CR NJ (F0) ID λvR HR hR=>?_);obtain⟨dn,rfl,rfl⟩:=hR;refine PS ?_;refine nx J2 (aa λ_ J3=>sr λ_ J4=>PS ?_);refine nx J4 (aq ?_)
 refine bA (α:=(Nat)) (λk=>k≤2048) (λk=>[(0,(.int .i64 (((i:Nat):Int)))),(1,(.pointer (some ⟨d,0,none⟩))),(4,(.pointer none)),(5,(.pointer (some ⟨dn,0,none⟩))),(11,(.int .i64 (((k:Nat):Int))))]) (λk=>[dk d D,dk dn (iC D k)]) (λk=>2048-k) 0
  (aN _) SB
  (λ_ s=>aD [1,0] rfl s) (λk hinv=>?_)
 obtain hk:=hinv;refine sr λ_ J5=>PS ?_
 refine ao ?_ ?_<;>intro h12;refine nx J5 (aa λ_ J6=>CY (qx J6 (aa λ_ J7=>aq (sr λ_ J8=>P2 ?_))));refine nx J8 (sr λ_ J9=>P2 ?_);refine CE QH (Me d D ((k:Nat):Int) hok.ok) ID ?_;refine XA EJ λb7=>?_
 refine bO (vs:=eB (fa D.s ((k:Nat):Int))) (i:=0) (ab rfl) rfl rfl rfl rfl rfl (by rw[bh,cp hok.ok.s];exact km) (fk _) rfl rfl (by rw[bh,cp hok.ok.s];exact aI _) (gi (by rw[bh,cp hok.ok.s];rfl)) rfl (nx J9 (sr λ_ J10=>tp (aO (vs:=eB (fa D.s ((k:Nat):Int))) rfl qm rfl km rfl (RO 0) (by rw[bh];exact cp hok.ok.s _) (by rw[ba,aB (by rw[bh,cp hok.ok.s];exact aI _)])) ?_));refine BV ((eB zs).toArray) ?_;refine tp (PV.neqB (a:=(fa D.s ((k:Nat):Int))) (b:=zs) (m:=2) ME MD rfl MF MH MG (cp hok.ok.s _) (by simp[zs]) rfl rfl rfl) ?_;refine ao ?_ ?_<;>intro h19;refine nx J10 (CY (ae (P2 ?_)));refine tp (oH rfl qm mg rfl) ?_;refine CF NH (yw dn (iC D k) ((k:Nat):Int) (.slice (some ⟨b7,0,none⟩) (64) (64)) ((fa D.s ((k:Nat):Int))) (lu hok.ok.s k (by omega)).1.1 (by have:=E4 hok.ok.s k (by omega);omega)) (SM [2]) (λg d s=>K7 (DI 0 64 (cp hok.ok.s _) (by decide) rfl rfl g d s)) ?_;refine au (ag (ac J7 (ae (AD ?_))));refine PS ?_;refine au ?_
 exact aK ((k+1):(Nat)) (by omega) (by show 2048- (k+1)<2048-k;omega)
  SB
  (λ_ s=>by rw[iC,if_neg h19];exact ak [2,0] rfl s)
 refine nx J10 (CN (aU (ag (ac J7 (ae (AD ?_))))));refine PS ?_;refine au ?_
 exact aK ((k+1):(Nat)) (by omega) (by show 2048- (k+1)<2048-k;omega)
  SB
  (λ_ s=>by rw[iC,if_pos (Decidable.not_not.1 h19)];exact ak [1,1] rfl s)
 refine nx J5 (aa λ_ J11=>CN (aX (aA (aA (bu (ac J3 (sr λ_ J12=>?_)))))));obtain rfl:k=2048:=by omega
 refine PS ?_;refine CE NG (BS dn (iC D 2048) (lu hok.ok.s 2048 (by omega)).1.1) (SM [1]) ?_;refine nx J12 (sr λ_ J13=>P2 ?_);refine CR NI (qJ i dn (k9 D) (CC hok.ok.s)) ID λvR HR hR=>?_
 rcases hR with⟨hn,h0,rfl,rfl⟩| ⟨s,r,hn,rfl,rfl⟩
 refine P4 ?_;refine PS ?_;refine nx J13 (aa λ_ J14=>sr λ_ J15=>P2 ?_);refine ao ?_ ?_<;>intro h34;refine nx J15 (CY (sr λ_ J16=>PS ?_));exact nx J16 (aj (af (WK [1] (aw rfl rfl (.inl ⟨hn,rfl,rfl⟩)))))
 · exact absurd h34 (by simpa using h0)
 refine P4 ?_;refine PS ?_;refine nx J13 (aa λ_ J17=>sr λ_ J18=>P2 ?_);refine nx J18 (CN (qx J17 (sr λ_ J19=>P2 ?_)));exact nx J19 (aj (WK [2,0] (aw rfl rfl (.inr ⟨s,r,dn,hn,rfl,rfl⟩))))
def Qj(a:CL)(i:Nat)(d r:Nat):HP:=match N5 a i with
 |some s=>fw s d r
 |none=>λ_=>True
abbrev wz(a:CL)(d r:Nat→Nat)(j:Nat):HP:=Qj a j (d j) (r j)
def q7(a:CL)(d r:Nat→Nat):HP:=bH ((List.range 5).map (wz a d r))
def ot(a:CL)(g:CX)(r:Nat→Nat)(i:Nat):Nat:=if(a.at' i).up then g.r i else r i
def lc(a:CL)(g:CX)(r:Nat→Nat)(i:Nat):Value:=match fU a i with
 |some _=> .pointer (some ⟨ot a g r i,0,none⟩)
 |none=> .pointer none
def jS(a:CL)(g:CX)(r:Nat→Nat)(i:Nat):List Value:=(List.range 5).map λj=>if j<i then lc a g r j else .pointer none
section
variable {a:CL} {g:CX} {r d:Nat→Nat} {i x y:Nat}
theorem ia:(jS a g r i).length=5:=by simp[jS]
theorem Dx: ∀u∈jS a g r i,u.oneCell'=true:=λu hu=>by
 unfold jS at hu;obtain⟨j,_,rfl⟩:=dQ.1 hu;unfold lc
 repeat' split
 all_goals rfl
theorem x9{v:Value}(hi:i<5){r':Nat→Nat}(hr: ∀j,j<i→lc a g r' j=lc a g r j)(hv:v=lc a g r' i):(jS a g r i).set i v=jS a g r' (i+1):=by
 refine List.ext_getElem? λj=>?_
 unfold jS
 by_cases hj:j=i
 · subst hj
   rw[List.getElem?_set_self (by simp;omega),List.getElem?_map,List.getElem?_range hi];simp[hv]
 · rw[List.getElem?_set_ne (λe=>hj e.symm),List.getElem?_map,List.getElem?_map]
   by_cases h5:j<5
   · rw[List.getElem?_range h5]
     simp only[Option.map_some]
     by_cases h:j<i
     · rw[if_pos h,if_pos (by omega),hr j h]
     · rw[if_neg h,if_neg (by omega)]
   · rw[List.getElem?_eq_none (by rw[pz];omega)];rfl
theorem GX{v:Value}(hi:i<5):((jS a g r i).set i v)[i]?=some v:=List.getElem?_set_self (by rw[ia];exact hi)
theorem kJ{j:Nat}(hj:j<5):(jS a g r 5)[j]?=some (lc a g r j):=by
 unfold jS;rw[List.getElem?_map,List.getElem?_range hj];simp[hj]
theorem Jv{s:MS LD}(hu:(a.at' i).up=true)(hs:(a.at' i).run=some s):fU a i=some s:=by unfold fU;rw[if_pos hu];exact hs
theorem xx(hu:(a.at' i).up=false):fU a i=(cD i (k9 (a.at' i).dk)).1:=by unfold fU;rw[if_neg (by rw[hu];decide)]
theorem Gi(hu:(a.at' i).up=false):N5 a i=(cD i (k9 (a.at' i).dk)).1:=by unfold N5;rw[if_neg (by rw[hu];decide)]
theorem fG{s:MS LD}(hs:fU a i=some s):lc a g r i= .pointer (some ⟨ot a g r i,0,none⟩):=by unfold lc;rw[hs]
theorem se(hs:fU a i=none):lc a g r i= .pointer none:=by unfold lc;rw[hs]
theorem HA{j:Nat}(hj:j<i):lc a g (lO r i y) j=lc a g r j:=by
 unfold lc ot;rw[nJ r y (show j≠i by omega)]
theorem L6{s:MS LD}(hi:i<5)(hu:(a.at' i).up=true)(hs:(a.at' i).run=some s):(jS a g r i).set i (.pointer (some ⟨g.r i,0,none⟩))=jS a g r (i+1):=
 x9 hi (λ_ _=>rfl) (by rw[fG (Jv hu hs)];unfold ot;rw[if_pos hu])
theorem Iu(hi:i<5)(hu:(a.at' i).up=false)(hn:(cD i (k9 (a.at' i).dk)).1=none):((jS a g r i).set i (.pointer none)).set i (.pointer none)=jS a g r (i+1):=by
 rw[iM];exact x9 hi (λ_ _=>rfl) (by rw[se ((xx hu).trans hn)])
theorem It{s:MS LD}(hi:i<5)(hu:(a.at' i).up=false)(hn:(cD i (k9 (a.at' i).dk)).1=some s):((jS a g r i).set i (.pointer none)).set i (.pointer (some ⟨y,0,none⟩))=jS a g (lO r i y) (i+1):=by
 rw[iM];refine x9 hi (λj hj=>HA hj) ?_;rw[fG ((xx hu).trans hn)];unfold ot;rw[if_neg (by rw[hu];decide),jG]
theorem Ep{H:List HP}{h:Hl}(hn:N5 a i=none)(s:bH (bH ((List.range i).map (wz a d r))::H) h):bH (bH ((List.range (i+1)).map (wz a d r))::H) h:=by
 refine xK (f:=wz a d r) (g:=wz a d r) (λ_ _=>rfl) ?_;have e:wz a d r i= λ_=>True:=by unfold wz Qj;rw[hn]
 rw[e];exact qK s
theorem KR{s:MS LD}{H:List HP}{h:Hl}(hn:N5 a i=some s)(q:bH (fw s x y::bH ((List.range i).map (wz a d r))::H) h):bH (bH ((List.range (i+1)).map (wz a (lO d i x) (lO r i y)))::H) h:=by
 refine xK (f:=wz a d r) (g:=wz a (lO d i x) (lO r i y)) (λj hj=>by unfold wz;rw[nJ d x (show j≠i by omega),nJ r y (show j≠i by omega)]) ?_;have e:wz a (lO d i x) (lO r i y) i=fw s x y:=by unfold wz Qj;rw[hn,jG,jG]
 rw[e];exact q
theorem oE{f:FuncId}{args:Nat→Array Value}{Q:Value→Prop}{c:Nat}{s:MS LD}(hi:i<5)(hs:fU a i=some s)(hf: ∀d r,DT f (args r) T0 [fw s d r] (dB λv H=>Q v∧H=[fw s d r])):
 DT f (args (ot a g r i)) T0 [cT c a g,q7 a d r] (dB λv H=>Q v∧H=[cT c a g,q7 a d r]):=by
 cases hu:(a.at' i).up with
 |true=>
  have hr:(a.at' i).run=some s:=by unfold fU at hs;rw[if_pos hu]at hs;exact hs
  unfold ot;rw[if_pos hu];refine Leg.Does.withinR (B:=[q7 a d r]) (Pr hi hr (hf (g.d i) (g.r i))) (λ_ _ _ _=>trivial) (λh q=>q) λv H hp=>?_
  obtain⟨hQ,rfl⟩:=hp;exact⟨_,λ_ q=>q,hQ,rfl⟩
 |false=>
  have ha:N5 a i=some s:=by rw[Gi hu,←xx hu];exact hs
  unfold ot;rw[if_neg (by rw[hu];decide)];have e:wz a d r i=fw s (d i) (r i):=by unfold wz Qj;rw[ha]
  refine Leg.Does.withinR (B:=[bH (((List.range 5).map (wz a d r)).eraseIdx i),cT c a g]) (hf (d i) (r i)) (λ_ _ _ _=>trivial) (λh q=>?_) λv H hp=>?_
  · have q2:=uT (f:=wz a d r) hi (aD [1,0] rfl q)
    rw[e]at q2;exact q2
  · obtain⟨hQ,rfl⟩:=hp
    refine⟨[cT c a g,q7 a d r],λh q=>?_,hQ,rfl⟩;refine aD [1,0] rfl (uS (H:=[cT c a g]) (f:=wz a d r) (g:=wz a d r) hi (λ_ _=>rfl) ?_);rw[e];exact q
end
theorem Eo(c i:Nat)(a:CL)(g:CX)(hi:i<5)(hok:DkOk (a.at' i).dk):DT 76 #[.int .i64 ((i:Nat):Int), .pointer (some ⟨g.d i,0,none⟩)] T0 [cT c a g] (dB (λv H=>((cD i (k9 (a.at' i).dk)).1=none∧v= .pointer none∧H=[cT c a g])∨∃s r dn,(cD i (k9 (a.at' i).dk)).1=some s∧v= .pointer (some ⟨r,0,none⟩)∧H=[cT c a g,fw s dn r])):=by
 refine mp (G6 (Q:=λv X=>((cD i (k9 (a.at' i).dk)).1=none∧v= .pointer none∧X=[])∨∃s r dn,(cD i (k9 (a.at' i).dk)).1=some s∧v= .pointer (some ⟨r,0,none⟩)∧X=[fw s dn r]) hi ?_) λv H hp=>?_
 · refine Leg.Does.withinR (B:=[am c (eZ g.n (nu g) (kI a g.r) g.p) 104,eO 156 208 5 g.n (cV a.W),ni (g.p i) (a.at' i).past,rD (a.at' i) (g.d i) (g.r i)]) (Gh i (g.d i) (a.at' i).dk hok) (λ_ _ _ _=>trivial) (λh q=>aD [2,0,0,0,0] rfl q) λv H hp=>?_
   rcases hp with⟨hn,rfl,rfl⟩| ⟨s,r,dn,hn,rfl,rfl⟩
   · exact⟨_,λh q=>aD [1,1,0,0,0] rfl q,[], .inl ⟨hn,rfl,rfl⟩,(aR _).symm⟩
   · exact⟨_,λh q=>aD [2,2,0,1,1,0] rfl q,[fw s dn r], .inr ⟨s,r,dn,hn,rfl,rfl⟩,rfl⟩
 · obtain⟨X,hq,rfl⟩:=hp
   rcases hq with⟨hn,rfl,rfl⟩| ⟨s,r,dn,hn,rfl,rfl⟩
   · exact .inl ⟨hn,rfl,rfl⟩
   · exact .inr ⟨s,r,dn,hn,rfl,rfl⟩
theorem nW(c n:Nat)(a:CL)(g:CX)(h:CLOk n a):
 DT 41 #[(.pointer (some ⟨c,0,none⟩))] T0 [cT c a g] (dB (λv H=>∃r d:Nat→Nat,v= .agg (jS a g r 5).toArray∧H=[cT c a g,q7 a d r])):=by
 refine BD 32 Tryz.func41 rfl rfl rfl λw0 F hF=>sr λ_ J1=>XA Ql λb2=>?_
 refine nx J1 (sr λ_ J2=>XA Ql λb3=>?_);refine nx J2 (aa λ_ J3=>sr λ_ J4=>PS ?_);refine nx J4 (aq ?_)
 refine bA (α:=(Nat)×(Nat→Nat)×(Nat→Nat)) (λ⟨i,d,r⟩=>i≤5) (λ⟨i,d,r⟩=>[(0,(.pointer (some ⟨c,0,none⟩))),(2,(.pointer (some ⟨b2,0,none⟩))),(3,(.pointer (some ⟨b3,0,none⟩))),(5,(.int .i64 (((i:Nat):Int))))]) (λ⟨i,d,r⟩=>[cT c a g,am b3 (jS a g r i) 62,bH ((List.range i).map (wz a d r)),am b2 [(.pointer none),(.pointer none),(.pointer none),(.pointer none),(.pointer none)] 62]) (λ⟨i,d,r⟩=>5-i) (0,λ_=>0,λ_=>0)
  (aN _) SB
  (λ_ q=>aD [1,1,0,0] rfl (qK (ak [2,0,0] rfl q))) (λ⟨i,d,r⟩ hinv=>?_)
 obtain hi:=hinv;refine sr λ_ J5=>PS ?_
 refine ao ?_ ?_<;>intro h6;refine nx J5 (aa λ_ J6=>CY (qx J6 (aa λ_ J7=>aq (sr λ_ J8=>P2 ?_))));refine nx J8 (sr λ_ J9=>P3 ?_);refine CR QZ (Fy (i:=i) (by omega)) ID λvR HR hR=>?_
 rcases hR with⟨hup,rfl,rfl⟩| ⟨s,hrun,hup,rfl,rfl⟩
 refine IX i rE iR ?_;refine bI (i:=1) (ab rfl) rfl rfl rfl rfl rfl iR rfl rfl (by simp only[cK,ia];omega) rfl rfl (nx J9 (sr λ_ J10=>PS ?_));refine IX i rE iR ?_;refine LT 1 ql (.pointer none) ?_ (hc:=by exact GX (by omega));refine tp (KY rfl ql rfl rfl) ?_;refine P3 ?_;refine CE OI (yx (i:=i) (by omega)) ID ?_;refine tq (gd rfl ut rfl rfl) ?_;refine PS ?_;refine nx J10 (CY (ae (P4 ?_)));refine CE OI (yx (i:=i) (by omega)) ID ?_;refine CR QF (Eo c i a g (by omega) (h.at' i (by omega)).dk) ID λvR HR hR=>?_
 rcases hR with⟨hn,rfl,rfl⟩| ⟨s,rn,dn,hn,rfl,rfl⟩
 refine IX i rE iR ?_;refine bI (i:=1) (ab rfl) rfl rfl rfl rfl rfl iR rfl rfl (by simp only[cK,ia];omega) rfl rfl (au (ag (ac J7 (ae (AD ?_)))));refine PS ?_;refine au ?_
 exact aK ((i+1,d,r):(Nat)×(Nat→Nat)×(Nat→Nat)) (by omega) (by show 5- (i+1)<5-i;omega)
  SB
  (λ_ q=>by show bH [cT c a g,am b3 (jS a g r (i+1)) 62,bH ((List.range (i+1)).map (wz a d r)),am b2 [(.pointer none),(.pointer none),(.pointer none),(.pointer none),(.pointer none)] 62] _;rw[←Iu (by omega) hup hn];exact aD [1,1,0,0] rfl (Ep ((Gi hup).trans hn) (ak [2,0,0,0] rfl q)))
 refine IX i rE iR ?_;refine bI (i:=2) (ab rfl) rfl rfl rfl rfl rfl iR rfl rfl (by simp only[cK,ia];omega) rfl rfl (au (ag (ac J7 (ae (AD ?_)))));refine PS ?_;refine au ?_
 exact aK ((i+1,lO d i dn,lO r i rn):(Nat)×(Nat→Nat)×(Nat→Nat)) (by omega) (by show 5- (i+1)<5-i;omega)
  SB
  (λ_ q=>by show bH [cT c a g,am b3 (jS a g (lO r i rn) (i+1)) 62,bH ((List.range (i+1)).map (wz a (lO d i dn) (lO r i rn))),am b2 [(.pointer none),(.pointer none),(.pointer none),(.pointer none),(.pointer none)] 62] _;rw[←It (by omega) hup hn];exact aD [1,1,0,0] rfl (KR ((Gi hup).trans hn) (ak [1,2,0,0,0] rfl q)))
 refine IX i rE iR ?_;refine bI (i:=1) (ab rfl) rfl rfl rfl rfl rfl iR rfl rfl (by simp only[cK,ia];omega) rfl rfl (nx J9 (sr λ_ J11=>PS ?_));refine IX i rE iR ?_;refine LT 1 ql (.pointer (some ⟨(g.r i),0,none⟩)) ?_ (hc:=by exact GX (by omega));refine tp (jE rfl ql rfl rfl) ?_;refine PS ?_
 iterate 4 refine UF ?_
 refine PS ?_;refine nx J11 (CN (aU (ag (ac J7 (ae (AD ?_))))));refine PS ?_;refine au ?_
 exact aK ((i+1,d,r):(Nat)×(Nat→Nat)×(Nat→Nat)) (by omega) (by show 5- (i+1)<5-i;omega)
  SB
  (λ_ q=>by show bH [cT c a g,am b3 (jS a g r (i+1)) 62,bH ((List.range (i+1)).map (wz a d r)),am b2 [(.pointer none),(.pointer none),(.pointer none),(.pointer none),(.pointer none)] 62] _;rw[←L6 (by omega) hup hrun];exact aD [1,1,0,0] rfl (Ep (by unfold N5;rw[if_pos hup]) (ak [2,0,0,0] rfl q)))
 refine nx J5 (aa λ_ J12=>CN (aX (aA (aA (bu (ac J3 (sr λ_ J13=>?_)))))));obtain rfl:i=5:=by omega
 refine tp (aO (vs:=jS a g r 5) rfl rE rfl pJ rfl (RO 1) ia (by rw[ba,aB (da ia)])) ?_;exact bO (vs:=jS a g r 5) (i:=3) (ab rfl) rfl rfl rfl rfl rfl (by rw[ia];exact pJ) Dx rfl rfl (by rw[ia];exact aI _) (gi (Eq.trans (rfl:_=5) (by rw[ia]:(jS a g r 5).length=5).symm)) rfl (nx J13 (aj (zq (H':=[cT c a g,bH ((List.range 5).map (wz a d r))]) rfl rfl rE rfl pJ (RO 3) (by rw[ia]) (λ_ s=>ak [0,1] rfl s) ⟨r,d,rfl,rfl⟩)))
section
variable {P:Program} {n:Nat} {D:List Deferred} {L:List (Nat×Value)} {S:World→Prop} {o:Oper} {t t':TypeId} {x y:Operand} {a:CL} {g:CX} {r:Nat→Nat} {j:Nat}
theorem PV.seenNil(ho:o.op= .binOp .eql t x y t')(hu:P.underlying t=some (.pointer (P.pointee t)))(hx:cR L x=some (lc a g r j))(hy:cR L y=some (.pointer none)):PV P n D L S o (.bool (!(fU a j).isSome)):=by
 cases hs:fU a j with
 |none=>rw[se hs]at hx;exact KY ho hu hx hy
 |some s=>rw[fG hs]at hx;exact jE ho hu hx hy
theorem PV.seenNot(ho:o.op= .binOp .neq t x y t')(hu:P.underlying t=some (.pointer (P.pointee t)))(hx:cR L x=some (lc a g r j))(hy:cR L y=some (.pointer none)):PV P n D L S o (.bool (fU a j).isSome):=by
 cases hs:fU a j with
 |none=>rw[se hs]at hx;exact iy ho hu hx hy
 |some s=>rw[fG hs]at hx;exact gd ho hu hx hy
abbrev PM:= @PV.seenNot
end
theorem nO{n:Nat}{a:CL}(h:CLOk n a){j:Nat}(hj:j<5){s:MS LD}(hs:fU a j=some s):OkR KD s:=by
 unfold fU at hs;split at hs
 · exact((h.at' j hj).run s hs).1
 · exact(uN hj (CC (h.at' j hj).dk.ok.s) hs).1
theorem M9{s:MS LD}(h:OkR KD s)(w:Int):WF (cb s.mirror w).flat:=by
 unfold cb;split
 · exact(h.mir _ _).wf
 · exact Ew OkRow.zero
theorem Qp:(Tryz.prog.info? 121).map (·.zero)=some (some (.agg (ints BookT.zero.flat).toArray)):=by kernel_rfl
theorem qD(c n:Nat)(a:CL)(g:CX)(h:CLOk n a):
 DT 38 #[(.pointer (some ⟨c,0,none⟩))] T0 [cT c a g] (dB (λv H=>∃(b:Nat) (d r:Nat→Nat),v= .pointer (some ⟨b,0,none⟩)∧H=[cT c a g,q7 a d r,am b (ints (cx a).flat) 121])):=by
 refine BD 33 Tryz.func38 rfl rfl rfl λw0 F hF=>sr λ_ J1=>PS ?_
 refine nx J1 (sr λ_ J2=>XZ Qp (ints BookT.zero.flat) λb9=>?_);refine PS ?_;refine nx J2 (aa λ_ J3=>sr λ_ J4=>PS ?_);refine CR NO (nW c n a g h) (SM [1]) λvR HR hR=>?_
 obtain⟨r,d,rfl,rfl⟩:=hR;refine PS ?_;refine nx J4 (aq ?_)
 refine bA (α:=(Nat)) (λj=>j≤5) (λj=>[(2,(.pointer none)),(3,(.pointer (some ⟨b9,0,none⟩))),(11,(.agg (jS a g r 5).toArray)),(12,(.int .i64 (((j:Nat):Int))))]) (λj=>[cT c a g,q7 a d r,am b9 (ints (gR a j).flat) 121]) (λj=>5-j) 0
  (aN _) SB
  (λ_ q=>aD [0,0,0] rfl q) (λj hinv=>?_)
 obtain hj:=hinv;refine sr λ_ J5=>PS ?_
 refine ao ?_ ?_<;>intro h13;refine nx J5 (aa λ_ J6=>CY (qx J6 (aa λ_ J7=>aq (sr λ_ J8=>tp (lM (cs:=jS a g r 5) (v:=(lc a g r j)) (r:=j) rfl rE ql rfl iR rfl rfl (by omega) (by omega) (by omega) (kJ (by omega))) ?_))));refine PS ?_;refine nx J8 (aa λ_ J9=>sr λ_ J10=>PS ?_);refine tp (PV.seenNil rfl ql rfl rfl) ?_;refine bf ?_ ?_<;>intro h16;refine nx J10 (CY (aX (aA (bu (ac J7 (ae (AD ?_)))))));refine PS ?_;refine au ?_
 exact aK ((j+1):(Nat)) (by omega) (by show 5- (j+1)<5-j;omega)
  SB
  (λ_ q=>by show bH [cT c a g,q7 a d r,am b9 (ints (gR a (j+1)).flat) 121] _;rw[tu (by simpa using h16)];exact q)
 obtain⟨s,hs⟩:=Option.isSome_iff_exists.1 (by simpa using h16);have hsk:=nO h (by omega) hs;rw[fG hs];refine nx J10 (CN (qx J9 (sr λ_ J11=>PS ?_)));refine nx J11 (aq ?_)
 refine bA (α:=(Nat)) (λi=>i≤5) (λi=>[(2,(.pointer none)),(3,(.pointer (some ⟨b9,0,none⟩))),(5,(.pointer (some ⟨(ot a g r j),0,none⟩))),(11,(.agg (jS a g r 5).toArray)),(12,(.int .i64 (((j:Nat):Int)))),(17,(.int .i64 (((i:Nat):Int))))]) (λi=>[cT c a g,q7 a d r,am b9 (ints (pV s (gR a j) i).flat) 121]) (λi=>5-i) 0
  (aN _) SB
  (λ_ s=>s) (λi hinv=>?_)
 obtain hi:=hinv;refine sr λ_ J12=>PS ?_
 refine ao ?_ ?_<;>intro h18;refine nx J12 (aa λ_ J13=>CY (qx J13 (aa λ_ J14=>aq (sr λ_ J15=>P2 ?_))));refine nx J15 (sr λ_ J16=>P2 ?_);refine CE OM (oE (i:=j) (args:=λr=>#[.pointer (some ⟨r,0,none⟩), .int .i64 ((i:Nat):Int)]) (Q:=λv=>v= .tuple #[.agg (ints (cb s.mirror ((i:Nat):Int)).flat).toArray, .bool (fy s.mirror ((i:Nat):Int))]) (by omega) hs (λd r=>Ah s d r ((i:Nat):Int))) ID ?_;refine P3 ?_;refine XZ uB (ints RowT.zero.flat) λb7=>?_
 refine SW 0 bg ah ?_;refine PS ?_;refine nx J16 (ae (P2 ?_));refine LW 0 dV bg ah ?_;refine CE L0 (lK b9 0 121 (λx=>ints x.flat) Qb (pV s (gR a j) i) ((i:Nat):Int) (cb s.mirror ((i:Nat):Int)) (M9 hsk _)) (SM [3]) ?_;refine au (ag (ac J14 (ae (AD ?_))));refine PS ?_;refine au ?_
 exact aK ((i+1):(Nat)) (by omega) (by show 5- (i+1)<5-i;omega)
  SB
  (λ_ q=>ak [2,2,0] rfl q)
 refine nx J12 (aa λ_ J17=>CN (aX (aA (aA (bu (ag (ac J7 (ae (AD ?_)))))))));refine PS ?_;refine au ?_
 exact aK ((j+1):(Nat)) (by omega) (by show 5- (j+1)<5-j;omega)
  SB
  (λ_ q=>by show bH [cT c a g,q7 a d r,am b9 (ints (gR a (j+1)).flat) 121] _;rw[tt hs,show 5=i by omega];exact q)
 refine nx J5 (aa λ_ J18=>CN (aX (aA (aA (bu (ac J3 (sr λ_ J19=>P2 ?_)))))));exact nx J19 (aj (aF (H':=[cT c a g,q7 a d r,am b9 (ints (cx a).flat) 121]) (dE _) (λ_ q=>by rw[show j=5 by omega]at q;exact q) (aw rfl rfl ⟨b9,d,r,rfl,rfl⟩)))
theorem sC(c n:Nat)(a:CL)(g:CX)(h:CLOk n a):
 DT 44 #[(.pointer (some ⟨c,0,none⟩))] T0 [cT c a g] (dB (λv H=>∃d r:Nat→Nat,v= .agg (ints (gv a).flat).toArray∧H=[cT c a g,q7 a d r])):=by
 refine BD 31 Tryz.func44 rfl rfl rfl λw0 F hF=>sr λ_ J1=>XZ sY (ints ViewT.zero.flat) λb2=>?_
 refine nx J1 (sr λ_ J2=>CE NR (sI) ID ?_);refine XZ sY (ints ViewT.zero.flat) λb3=>?_
 refine SW 0 bm an ?_;refine PS ?_;refine nx J2 (aa λ_ J3=>sr λ_ J4=>PS ?_);refine CR NO (nW c n a g h) (SM [2]) λvR HR hR=>?_
 obtain⟨r,d,rfl,rfl⟩:=hR;refine PS ?_;refine nx J4 (aq ?_)
 refine bA (α:=(Nat)) (λj=>j≤5) (λj=>[(2,(.pointer (some ⟨b2,0,none⟩))),(3,(.pointer (some ⟨b3,0,none⟩))),(4,(.bool ((fI a j).2))),(9,(.agg (jS a g r 5).toArray)),(10,(.int .i64 (((j:Nat):Int))))]) (λj=>[cT c a g,q7 a d r,am b3 (ints ((fI a j).1).flat) 44,am b2 (ints ViewT.zero.flat) 44]) (λj=>5-j) 0
  (aN _) SB
  (λ_ s=>s) (λj hinv=>?_)
 obtain hj:=hinv;refine sr λ_ J5=>PS ?_
 refine ao ?_ ?_<;>intro h11;refine nx J5 (aa λ_ J6=>CY (qx J6 (aa λ_ J7=>aq (sr λ_ J8=>tp (lM (cs:=jS a g r 5) (v:=(lc a g r j)) (r:=j) rfl rE ql rfl iR rfl rfl (by omega) (by omega) (by omega) (kJ (by omega))) ?_))));refine PS ?_;refine nx J8 (aa λ_ J9=>D1 2 dK ?_);refine PD 0 ?_;refine ta 1 rfl (PM rfl ql rfl rfl) ?_;refine oc ?_ ?_<;>intro h14;obtain⟨s,hs⟩:=Option.isSome_iff_exists.1 h14;have hsk:=nO h (by omega) hs;rw[fG hs];refine PD 2 ?_;refine PD 3 ?_;refine oc ?_ ?_<;>intro h16;refine PD 4 ?_;refine PD 5 ?_;refine PD 6 ?_;refine FD 9 0 eX aQ ?_;refine LX 10 Y3 (.int .i64 (((fI a j).1).epoch)) ?_ (hc:=by exact aZ _ rfl);refine AL 7 ?_;refine CE JS (oE (i:=j) (args:=λr=>#[.pointer (some ⟨r,0,none⟩)]) (Q:=λv=>v= .agg (ints s.view.flat).toArray) (by omega) hs (λd r=>nI s d r)) ID ?_;refine EN (tb 8 rfl (yR (cs:=ints s.view.flat) (v:=Value.int .i64 s.view.epoch) rfl eX rfl Y3 rfl rfl (aZ s.view rfl)) ?_);refine PD 11 ?_;refine iK ?_ ?_<;>intro h24;refine PD 12 ?_;refine PD 13 ?_;refine DN (ac J9 (CY (ae (PS ?_))));refine CE JS (oE (i:=j) (args:=λr=>#[.pointer (some ⟨r,0,none⟩)]) (Q:=λv=>v= .agg (ints s.view.flat).toArray) (by omega) hs (λd r=>nI s d r)) ID ?_;refine SW 2 bm an ?_;refine PS ?_;refine au (ag (ac J7 (ae (AD ?_))));refine PS ?_;refine au ?_
 exact aK ((j+1):(Nat)) (by omega) (by show 5- (j+1)<5-j;omega)
  (aS (aS (bv rfl (by rw[jT hs,if_pos (.inr h24)]) SB)))
  (λ_ q=>by show bH [cT c a g,q7 a d r,am b3 (ints (fI a (j+1)).1.flat) 44,am b2 (ints ViewT.zero.flat) 44] _;rw[jT hs,if_pos (.inr h24)];exact ak [0,0,0,0] rfl q)
 refine PD 12 ?_;refine PD 13 ?_;refine DN (ac J9 (CN (aU (ag (ac J7 (ae (AD ?_)))))));refine PS ?_;refine au ?_
 exact aK ((j+1):(Nat)) (by omega) (by show 5- (j+1)<5-j;omega)
  (aS (aS (bv rfl (by rw[wc hs (by simpa using h16) h24]) SB)))
  (λ_ q=>by show bH [cT c a g,q7 a d r,am b3 (ints (fI a (j+1)).1.flat) 44,am b2 (ints ViewT.zero.flat) 44] _;rw[wc hs (by simpa using h16) h24];exact ak [0,0,0,0] rfl q)
 refine PD 4 ?_;refine PD 5 ?_;refine NT 6 ?_;refine NT 7 ?_;refine NT 8 ?_;refine NT 9 ?_;refine NT 10 ?_;refine NT 11 ?_;refine PD 12 ?_;refine PD 13 ?_;refine DN (ac J9 (CY (ae (PS ?_))));refine CE JS (oE (i:=j) (args:=λr=>#[.pointer (some ⟨r,0,none⟩)]) (Q:=λv=>v= .agg (ints s.view.flat).toArray) (by omega) hs (λd r=>nI s d r)) ID ?_;refine SW 2 bm an ?_;refine PS ?_;refine au (ag (ac J7 (ae (AD ?_))));refine PS ?_;refine au ?_
 exact aK ((j+1):(Nat)) (by omega) (by show 5- (j+1)<5-j;omega)
  (aS (aS (bv rfl (by rw[jT hs,if_pos (.inl (by simpa using h16))]) SB)))
  (λ_ q=>by show bH [cT c a g,q7 a d r,am b3 (ints (fI a (j+1)).1.flat) 44,am b2 (ints ViewT.zero.flat) 44] _;rw[jT hs,if_pos (.inl (by simpa using h16))];exact ak [0,0,0,0] rfl q)
 refine PD 2 ?_;refine NT 3 ?_;refine NT 4 ?_;refine NT 5 ?_;refine wq (i:=6) (b:=false) rfl (by kernel_rfl) (by kernel_rfl) (by kernel_rfl) (λ_ _ _ _ h=>h) rfl rfl rfl rfl rfl (wq (i:=7) (b:=false) rfl (by kernel_rfl) (by kernel_rfl) (by kernel_rfl) (λ_ _ _ _ h=>h) rfl rfl rfl rfl rfl (wq (i:=8) (b:=false) rfl (by kernel_rfl) (by kernel_rfl) (by kernel_rfl) (λ_ _ _ _ h=>h) rfl rfl rfl rfl rfl (wq (i:=9) (b:=false) rfl (by kernel_rfl) (by kernel_rfl) (by kernel_rfl) (λ_ _ _ _ h=>h) rfl rfl rfl rfl rfl (wq (i:=10) (b:=false) rfl (by kernel_rfl) (by kernel_rfl) (by kernel_rfl) (λ_ _ _ _ h=>h) rfl rfl rfl rfl rfl (wq (i:=11) (b:=false) rfl (by kernel_rfl) (by kernel_rfl) (by kernel_rfl) (λ_ _ _ _ h=>h) rfl rfl rfl rfl rfl (NT 12 ?_))))));refine PD 13 ?_;refine DN (ac J9 (CN (aU (ag (ac J7 (ae (AD ?_)))))));refine PS ?_;refine au ?_
 exact aK ((j+1):(Nat)) (by omega) (by show 5- (j+1)<5-j;omega)
  (aS (aS (bv rfl (by rw[ox (by simpa using h14)]) SB)))
  (λ_ q=>by show bH [cT c a g,q7 a d r,am b3 (ints (fI a (j+1)).1.flat) 44,am b2 (ints ViewT.zero.flat) 44] _;rw[ox (by simpa using h14)];exact ak [0,0,0,0] rfl q)
 refine nx J5 (aa λ_ J10=>CN (aX (aA (aA (bu (ac J3 (sr λ_ J11=>LW 2 eX bm an ?_)))))));refine SW 3 bm an ?_;refine nx J11 (aj (RC 3 [0,0] eX bm (an _) ?_));exact⟨d,r,by rw[show j=5 by omega];rfl,rfl⟩
def pg(v:ViewT)(k:Nat):List Int:=(List.range 5).map λj=>if j<k then uX v j else 0
theorem my(v:ViewT)(k:Nat):(ints (pg v k)).length=5:=by simp[pg,ints]
theorem Do{v:ViewT}{i:Nat}(hi:i<5):(ints (pg v i)).set i (.int .i64 (uX v i))=ints (pg v (i+1)):=by
 refine List.ext_getElem? λj=>?_
 unfold pg ints
 by_cases hj:j=i
 · subst hj
   rw[List.getElem?_set_self (by simp;omega),List.getElem?_map,List.getElem?_map,List.getElem?_range hi];simp
 · rw[List.getElem?_set_ne (λe=>hj e.symm),List.getElem?_map,List.getElem?_map,List.getElem?_map,List.getElem?_map]
   by_cases h5:j<5
   · rw[List.getElem?_range h5]
     simp only[Option.map_some]
     by_cases h:j<i
     · rw[if_pos h,if_pos (by omega)]
     · rw[if_neg h,if_neg (by omega)]
   · rw[List.getElem?_eq_none (by rw[pz];omega)];rfl
theorem JN{v:ViewT}{j:Nat}(hj:j<5):(ints (pg v 5))[j]?=some (.int .i64 (uX v j)):=by
 unfold pg ints;rw[List.getElem?_map,List.getElem?_map,List.getElem?_range hj];simp[hj]
theorem Ih{v:ViewT}{i:Nat}(hi:i<5)(h: ¬(jV v ((i:Nat):Int)).isSome=true):(ints (pg v i)).set i (.int .i64 ((i:Nat):Int))=ints (pg v (i+1)):=by
 rw[←Do hi];unfold uX;rw[show jV v ((i:Nat):Int)=none by simpa using h];rfl
theorem Ig{v:ViewT}{i:Nat}(hi:i<5)(h:(jV v ((i:Nat):Int)).isSome=true):((ints (pg v i)).set i (.int .i64 ((i:Nat):Int))).set i (.int .i64 ((jV v ((i:Nat):Int)).getD 0))=ints (pg v (i+1)):=by
 rw[←Do hi,iM];unfold uX;obtain⟨x,hx⟩:=Option.isSome_iff_exists.1 h;rw[hx];rfl
theorem Bt(v:ViewT)(hh:Rng v):
 DT 45 #[(.agg (ints v.flat).toArray)] T0 [] (RI (.agg (ints (pg v 5)).toArray) []):=by
 refine BD 25 Tryz.func45 rfl rfl rfl λw0 F hF=>sr λ_ J1=>XY (ints v.flat) λb1=>?_
 refine XZ Qf (ints (#v[0,0,0,0,0]).toList) λb2=>?_
 refine nx J1 (sr λ_ J2=>XZ Qf (ints (#v[0,0,0,0,0]).toList) λb3=>?_);refine nx J2 (aa λ_ J3=>sr λ_ J4=>PS ?_);refine nx J4 (aq ?_)
 refine bA (α:=(Nat)) (λi=>i≤5) (λi=>[(1,(.pointer (some ⟨b1,0,none⟩))),(2,(.pointer (some ⟨b2,0,none⟩))),(3,(.pointer (some ⟨b3,0,none⟩))),(7,(.int .i64 (((i:Nat):Int))))]) (λi=>[am b3 (ints (pg v i)) 42,am b1 (ints v.flat) 44,am b2 (ints (#v[0,0,0,0,0]).toList) 42]) (λi=>5-i) 0
  (aN _) SB
  (λ_ s=>ak [0,1,0] rfl s) (λi hinv=>?_)
 obtain hi:=hinv;refine sr λ_ J5=>PS ?_
 refine ao ?_ ?_<;>intro h8;refine nx J5 (aa λ_ J6=>CY (qx J6 (aa λ_ J7=>aq (sr λ_ J8=>P2 ?_))));refine nx J8 (sr λ_ J9=>P2 ?_);refine IX i ky aQ ?_;refine bI (i:=0) (ab rfl) rfl rfl rfl rfl rfl aQ rfl rfl (by simp only[cK,my];omega) rfl rfl (nx J9 (sr λ_ J10=>LW 1 eX bm an ?_));refine PS ?_;refine CE L1 (ry v ((i:Nat):Int) hh) ID ?_;refine P3 ?_;refine bf ?_ ?_<;>intro h18;refine P2 ?_;refine nx J10 (sr λ_ J11=>PS ?_);refine nx J11 (CY (ae (P2 ?_)));refine IX i ky aQ ?_;refine bI (i:=0) (ab rfl) rfl rfl rfl rfl rfl aQ rfl rfl (by simp only[cK,my];omega) rfl rfl (au (ag (ac J7 (ae (AD ?_)))));refine PS ?_;refine au ?_
 exact aK ((i+1):(Nat)) (by omega) (by show 5- (i+1)<5-i;omega)
  SB
  (λ_ q=>by show bH [am b3 (ints (pg v (i+1))) 42,am b1 (ints v.flat) 44,am b2 (ints (#v[0,0,0,0,0]).toList) 42] _;rw[←Ig (by omega) h18];exact ak [0,0,0] rfl q)
 refine P2 ?_;refine nx J10 (sr λ_ J12=>PS ?_);refine nx J12 (CN (aU (ag (ac J7 (ae (AD ?_))))));refine PS ?_;refine au ?_
 exact aK ((i+1):(Nat)) (by omega) (by show 5- (i+1)<5-i;omega)
  SB
  (λ_ q=>by show bH [am b3 (ints (pg v (i+1))) 42,am b1 (ints v.flat) 44,am b2 (ints (#v[0,0,0,0,0]).toList) 42] _;rw[←Ih (by omega) (by simpa using h18)];exact ak [0,0,0] rfl q)
 refine nx J5 (aa λ_ J13=>CN (aX (aA (aA (bu (ac J3 (sr λ_ J14=>?_)))))));obtain rfl:i=5:=by omega
 refine tp (aO (vs:=ints (pg v 5)) rfl ky rfl fu rfl (RO 0) (my _ _) (by rw[ba,aB (da (my _ _))])) ?_;exact bO (vs:=ints (pg v 5)) (i:=2) (ab rfl) rfl rfl rfl rfl rfl (by rw[my];exact fu) (bF _) rfl rfl (by rw[my];exact aI _) (gi (by rw[my];rfl)) rfl (nx J14 (aj (zq (H':=[]) rfl rfl ky rfl fu (RO 2) (by rw[my _ _]) (λ_ s=>ak [] rfl s) ⟨rfl,rfl⟩)))
theorem Ks{S:List Int}{o k:Nat}(ho:o=k)(h:k<S.length):(ints S)[o]?=some (.int .i64 (S.getD k 0)):=by
 subst ho;simp[ints,List.getD_eq_getElem?_getD,h]
theorem Kr{S:List Int}{o k:Nat}{x:Int}(ho:o=k):(ints S).set o (.int .i64 x)=ints (S.set k x):=by
 subst ho;simp[ints,zD]
theorem KJ{B:BookT}{key:Int}{i o:Nat}(k:Nat)(hi:i<5)(ho:o=i*7+k)(hk:k<7){r:Option Value}(hr:(ints (jh B key i).flat)[k]?=r):(ints ((qj B key 5).toList.flatMap CellT.flat))[o]?=r:=
 oX bD (qj B key 5) k hi ho hk (by rw[KI hi];exact hr)
theorem Ei{B:BookT}{key:Int}{i j o:Nat}(hi:i<5)(hj:j<5)(ho:o=i*7+(2+j)):(ints ((qj B key 5).toList.flatMap CellT.flat))[o]?=some (.int .i64 ((jh B key i).given.toList.getD j 0)):=
 KJ (2+j) hi ho (by omega) (by simp[CellT.flat,ints,List.getElem?_cons_succ,show 2+j=j+1+1 by omega,List.getD_eq_getElem?_getD,hj])
theorem PI{B:BookT}{key:Int}{i o:Nat}(hi:i<5)(ho:o=i*7):wr (ints ((qj B key i).toList.flatMap CellT.flat)) o (ints (jh B key i).flat)=ints ((qj B key (i+1)).toList.flatMap CellT.flat):=by
 have h:=vz bD (qj B key i) (i:=i) (o:=o) 0 (vs:=ints (jh B key i).flat) (u':=jh B key i) hi (by omega) (by rw[bn,bz];exact aI _) (cy ((bz _).trans (bz _).symm))
 rwa [KH hi]at h
theorem N3{B:BookT}{key:Int}{k:Nat}:(ints ((qj B key k).toList.flatMap CellT.flat)).length=35:=by
 rw[yn bD,aC]
theorem yb{n:Nat}{a:CL}(h:CLOk n a): ∀j,j≤5→Rng (fI a j).1
 |0,_=>Rng.first
 |j+1,hj=>by
  have ih:=yb h j (by omega);rcases hs:fU a j with _|s
  · rw[ox hs];exact ih
  · have hk:=nO h (by omega) hs
    rw[jT hs];split
    · exact hk.view.rng
    · exact ih
theorem Iz{n:Nat}{a:CL}(h:CLOk n a):Rng (gv a):=yb h 5 (aI _)
theorem Ba(c n:Nat)(a:CL)(g:CX)(h:CLOk n a)(key:Int):
 DT 37 #[(.pointer (some ⟨c,0,none⟩)),(.int .i64 (key))] T0 [cT c a g] (dB (λv H=>(¬(0≤key∧key<4)∧v= .agg (ints (List.replicate 5 0)).toArray∧H=[cT c a g])∨((0≤key∧key<4)∧∃d r:Nat→Nat,v= .agg (ints (xl (cx a) key (gv a) 5)).toArray∧H=[cT c a g,q7 a d r]))):=by
 refine Leg.Does.body (vs:=[(.pointer (some ⟨c,0,none⟩)),(.int .i64 (key))]) (n:=82) Tryz.func37 rfl rfl rfl (λw0 F hF=>?_);refine aa (λK1 hK1=>?_);refine ae ?_;refine rc (ab rfl) rfl rfl rfl Qf (λb4=>?_);change TL _ _ _ _ _ _ _ _ _ [am b4 (ints (#v[0,0,0,0,0]).toList) 42,cT c a g];refine au ?_;refine ac hK1 ?_;clear hK1;refine aa (λK2 hK2=>?_);refine ae ?_;refine rc (ab rfl) rfl rfl rfl Qf (λb5=>?_);change TL _ _ _ _ _ _ _ _ _ [am b5 (ints (#v[0,0,0,0,0]).toList) 42,am b4 (ints (#v[0,0,0,0,0]).toList) 42,cT c a g];refine au ?_;refine ac hK2 ?_;clear hK2;refine aa (λK3 hK3=>?_);refine aa (λK4 hK4=>?_);refine ae ?_;refine mF (ab rfl) rfl rfl (kA rfl rfl) ?_;refine mF (ab rfl) rfl rfl (PV.lss rfl rfl rfl) ?_;refine ao (λh13=>?_) (λh13=>?_)
 · skip
   refine mF (ab rfl) rfl rfl (kA rfl rfl) ?_;refine ra (b:=true) rfl rfl rfl rfl (lb rfl) ?_;refine ra (b:=true) rfl rfl rfl rfl (lb rfl) ?_;refine mF (ab rfl) rfl rfl (zy rfl rfl rfl) ?_;refine au ?_;refine ac hK4 ?_;clear hK4;refine oh rfl ?_;refine aa (λK5 hK5=>?_);refine ae ?_;refine mF (ab rfl) rfl rfl (aO (vs:=ints (#v[0,0,0,0,0]).toList) rfl ky rfl fu rfl (fE 0 rfl rfl) (eh (#v[0,0,0,0,0])) (whole (eh (#v[0,0,0,0,0])))) ?_;refine bO (vs:=ints (#v[0,0,0,0,0]).toList) (i:=1) (H':=[am b5 (ints (#v[0,0,0,0,0]).toList) 42,am b4 (ints (#v[0,0,0,0,0]).toList) 42,cT c a g]) (ab rfl) rfl rfl rfl rfl rfl (by rw[(eh (#v[0,0,0,0,0]))];exact fu) (bF _) rfl rfl (by have h0:=(eh (#v[0,0,0,0,0]));have h1:=(eh (#v[0,0,0,0,0]));omega) (cy ((eh (#v[0,0,0,0,0])).trans (eh (#v[0,0,0,0,0])).symm)) rfl ?_;refine au ?_;refine ac hK5 ?_;clear hK5;refine aj ?_;refine af ?_;clear hK3;refine zq (H':=[cT c a g]) rfl rfl ky rfl fu (fE 1 rfl rfl) (eh (#v[0,0,0,0,0])) (λ_ s=>ak [2] rfl s) ?_;exact .inl ⟨by omega,rfl,rfl⟩
 · skip
   refine mF (ab rfl) rfl rfl (kA rfl rfl) ?_;refine mF (cm rfl rfl rfl) rfl rfl (kA rfl rfl) ?_;refine mF (cm rfl rfl rfl) rfl rfl (PV.geq rfl rfl rfl) ?_;refine ao (λh16=>?_) (λh16=>?_)
   · skip
     refine mF (ab rfl) rfl rfl (zy rfl rfl rfl) ?_;refine au ?_;refine ac hK4 ?_;clear hK4;refine oh rfl ?_;refine aa (λK6 hK6=>?_);refine ae ?_;refine mF (ab rfl) rfl rfl (aO (vs:=ints (#v[0,0,0,0,0]).toList) rfl ky rfl fu rfl (fE 0 rfl rfl) (eh (#v[0,0,0,0,0])) (whole (eh (#v[0,0,0,0,0])))) ?_;refine bO (vs:=ints (#v[0,0,0,0,0]).toList) (i:=1) (H':=[am b5 (ints (#v[0,0,0,0,0]).toList) 42,am b4 (ints (#v[0,0,0,0,0]).toList) 42,cT c a g]) (ab rfl) rfl rfl rfl rfl rfl (by rw[(eh (#v[0,0,0,0,0]))];exact fu) (bF _) rfl rfl (by have h0:=(eh (#v[0,0,0,0,0]));have h1:=(eh (#v[0,0,0,0,0]));omega) (cy ((eh (#v[0,0,0,0,0])).trans (eh (#v[0,0,0,0,0])).symm)) rfl ?_;refine au ?_;refine ac hK6 ?_;clear hK6;refine aj ?_;refine af ?_;clear hK3;refine zq (H':=[cT c a g]) rfl rfl ky rfl fu (fE 1 rfl rfl) (eh (#v[0,0,0,0,0])) (λ_ s=>ak [2] rfl s) ?_;exact .inl ⟨by omega,rfl,rfl⟩
   · skip
     refine mF (ab rfl) rfl rfl (zy rfl rfl rfl) ?_;refine au ?_;refine ac hK4 ?_;clear hK4;refine Hb rfl ?_;refine aU ?_;refine ac hK3 ?_;clear hK3;refine aa (λK7 hK7=>?_);refine ae ?_;refine mF (ab rfl) rfl rfl (kA rfl rfl) ?_;refine lL (A:=[cT c a g]) (B:=[am b5 (ints (#v[0,0,0,0,0]).toList) 42,am b4 (ints (#v[0,0,0,0,0]).toList) 42]) (ab rfl) rfl rfl rfl NP rfl (qD c n a g h) (λ_ s=>aD [2] rfl s) (λ_ _ _=>trivial) (λvR HR hR=>?_);obtain⟨bt,d,r,rfl,rfl⟩:=hR;change TL _ _ _ _ _ _ _ _ _ [cT c a g,q7 a d r,am bt (ints (cx a).flat) 121,am b5 (ints (#v[0,0,0,0,0]).toList) 42,am b4 (ints (#v[0,0,0,0,0]).toList) 42];refine mF (ab rfl) rfl rfl (Rn rfl rfl) ?_;refine au ?_;refine ac hK7 ?_;clear hK7;refine aa (λK8 hK8=>?_);refine ae ?_;refine rc (ab rfl) rfl rfl rfl Ol (λb7=>?_);change TL _ _ _ _ _ _ _ _ _ [am b7 (ints ((#v[CellT.zero,CellT.zero,CellT.zero,CellT.zero,CellT.zero]).toList.flatMap CellT.flat)) 132,cT c a g,q7 a d r,am bt (ints (cx a).flat) 121,am b5 (ints (#v[0,0,0,0,0]).toList) 42,am b4 (ints (#v[0,0,0,0,0]).toList) 42];refine au ?_;refine ac hK8 ?_;clear hK8;refine aa (λK9 hK9=>?_);refine aa (λK10 hK10=>?_);refine ae ?_;refine mF (ab rfl) rfl rfl (kA rfl rfl) ?_;refine au ?_;refine ac hK10 ?_;clear hK10;refine aq ?_
     refine bA (α:=(Nat)) (λi=>i≤5) (λi=>[(0,(.pointer (some ⟨c,0,none⟩))),(1,(.int .i64 (key))),(4,(.pointer (some ⟨b4,0,none⟩))),(5,(.pointer (some ⟨b5,0,none⟩))),(6,(.pointer (some ⟨bt,0,none⟩))),(7,(.pointer (some ⟨b7,0,none⟩))),(21,(.int .i64 (((i:Nat):Int))))]) (λi=>[cT c a g,q7 a d r,am bt (ints (cx a).flat) 121,am b7 (ints ((qj (cx a) key i).toList.flatMap CellT.flat)) 132,am b5 (ints (#v[0,0,0,0,0]).toList) 42,am b4 (ints (#v[0,0,0,0,0]).toList) 42]) (λi=>5-i) 0
      (aN _) (aS (aS (aS (aS (aS (aS (bv rfl (by congr 1) (Og _))))))))
      (λ_ s=>ak [1,1,1,0,0,0] rfl s) (λi hinv=>?_)
     obtain hi:=hinv;refine aa (λK11 hK11=>?_);refine ae ?_;refine mF (ab rfl) rfl rfl (PV.lss rfl rfl rfl) ?_;refine ao (λh22=>?_) (λh22=>?_)
     · skip
       refine au ?_;refine ac hK11 ?_;clear hK11;refine aa (λK12 hK12=>?_);refine oh rfl ?_;refine aU ?_;refine ac hK12 ?_;clear hK12;refine aa (λK13 hK13=>?_);refine aq ?_;refine aa (λK14 hK14=>?_);refine ae ?_;refine mF (ab rfl) rfl rfl (kA rfl rfl) ?_;refine mF (ab rfl) rfl rfl (Rn rfl rfl) ?_;refine au ?_;refine ac hK14 ?_;clear hK14;refine ae ?_;refine mF (ab rfl) rfl rfl (kA rfl rfl) ?_;refine mF (ab rfl) rfl rfl (kA rfl rfl) ?_;refine mF (ab rfl) rfl rfl (kA rfl rfl) ?_;refine mF (ab rfl) rfl rfl (kA rfl rfl) ?_;refine lL (A:=[am bt (ints (cx a).flat) 121]) (B:=[cT c a g,q7 a d r,am b7 (ints ((qj (cx a) key i).toList.flatMap CellT.flat)) 132,am b5 (ints (#v[0,0,0,0,0]).toList) 42,am b4 (ints (#v[0,0,0,0,0]).toList) 42]) (ab rfl) rfl rfl rfl NF rfl (oQ bt 0 121 (λx=>ints x.flat) Qb (cx a) ((i:Nat):Int) key) (λ_ s=>aD [2] rfl s) (λ_ _ _=>trivial) (λvR HR hR=>?_);obtain⟨rfl,rfl⟩:=hR;change TL _ _ _ _ _ _ _ _ _ [am bt (ints (cx a).flat) 121,cT c a g,q7 a d r,am b7 (ints ((qj (cx a) key i).toList.flatMap CellT.flat)) 132,am b5 (ints (#v[0,0,0,0,0]).toList) 42,am b4 (ints (#v[0,0,0,0,0]).toList) 42];refine mF (ab rfl) rfl rfl (e9 (r:=i*7) rfl zo fY rfl rfl (by omega) (by omega) (by omega)) ?_
       refine bO (vs:=ints (jh (cx a) key i).flat) (i:=3) (H':=[am bt (ints (cx a).flat) 121,cT c a g,q7 a d r,am b7 (ints ((qj (cx a) key (i+1)).toList.flatMap CellT.flat)) 132,am b5 (ints (#v[0,0,0,0,0]).toList) 42,am b4 (ints (#v[0,0,0,0,0]).toList) 42]) (ab rfl) rfl rfl rfl rfl rfl (by rw[bz];exact fY) (bF _) rfl rfl (by rw[N3,bz];omega) (PI (by omega) (by omega)) rfl ?_;refine au ?_;refine ag ?_;refine ac hK13 ?_;clear hK13;refine ae ?_;refine mF (ab rfl) rfl rfl (cL rfl rfl rfl (bX (by omega) (by omega))) ?_;refine mF (ab rfl) rfl rfl (kA rfl rfl) ?_;refine au ?_
       exact aK ((i+1):(Nat)) (by omega) (by show 5- (i+1)<5-i;omega)
        (aS (aS (aS (aS (aS (aS (bv rfl (by simp) (Og _))))))))
        (λ_ s=>ak [1,1,0,0,0,0] rfl s)
     · skip
       refine au ?_;refine ac hK11 ?_;clear hK11;refine aa (λK15 hK15=>?_);refine Hb rfl ?_;refine aX ?_;refine aA ?_;clear hK15;refine aA ?_;refine bu ?_;refine ac hK9 ?_;clear hK9;refine aa (λK16 hK16=>?_);refine aa (λK17 hK17=>?_);refine ae ?_;obtain rfl:i=5:=by omega
       change TL _ _ _ _ _ _ _ _ _ [cT c a g,q7 a d r,am bt (ints (cx a).flat) 121,am b7 (ints ((qj (cx a) key 5).toList.flatMap CellT.flat)) 132,am b5 (ints (xl (cx a) key (gv a) 0)) 42,am b4 (ints (#v[0,0,0,0,0]).toList) 42];refine mF (ab rfl) rfl rfl (kA rfl rfl) ?_;refine lL (A:=[cT c a g]) (B:=[q7 a d r,am bt (ints (cx a).flat) 121,am b7 (ints ((qj (cx a) key 5).toList.flatMap CellT.flat)) 132,am b5 (ints (xl (cx a) key (gv a) 0)) 42,am b4 (ints (#v[0,0,0,0,0]).toList) 42]) (ab rfl) rfl rfl rfl NN rfl (sC c n a g h) (λ_ s=>s) (λ_ _ _=>trivial) (λvR HR hR=>?_);obtain⟨d2,r2,rfl,rfl⟩:=hR;change TL _ _ _ _ _ _ _ _ _ [cT c a g,q7 a d2 r2,q7 a d r,am bt (ints (cx a).flat) 121,am b7 (ints ((qj (cx a) key 5).toList.flatMap CellT.flat)) 132,am b5 (ints (xl (cx a) key (gv a) 0)) 42,am b4 (ints (#v[0,0,0,0,0]).toList) 42];refine lL (A:=[]) (B:=[cT c a g,q7 a d2 r2,q7 a d r,am bt (ints (cx a).flat) 121,am b7 (ints ((qj (cx a) key 5).toList.flatMap CellT.flat)) 132,am b5 (ints (xl (cx a) key (gv a) 0)) 42,am b4 (ints (#v[0,0,0,0,0]).toList) 42]) (ab rfl) rfl rfl rfl QS rfl (Bt (gv a) (Iz h)) (λ_ s=>s) (λ_ _ _=>trivial) (λvR HR hR=>?_);obtain⟨rfl,rfl⟩:=hR;change TL _ _ _ _ _ _ _ _ _ [cT c a g,q7 a d2 r2,q7 a d r,am bt (ints (cx a).flat) 121,am b7 (ints ((qj (cx a) key 5).toList.flatMap CellT.flat)) 132,am b5 (ints (xl (cx a) key (gv a) 0)) 42,am b4 (ints (#v[0,0,0,0,0]).toList) 42]
       refine mF (ab rfl) rfl rfl (kA rfl rfl) ?_;refine au ?_;refine ac hK17 ?_;clear hK17;refine aq ?_
       refine bA (α:=(Nat)) (λi=>i≤5) (λi=>[(4,(.pointer (some ⟨b4,0,none⟩))),(5,(.pointer (some ⟨b5,0,none⟩))),(7,(.pointer (some ⟨b7,0,none⟩))),(33,(.agg (ints (pg (gv a) 5)).toArray)),(34,(.int .i64 (((i:Nat):Int))))]) (λi=>[cT c a g,q7 a d2 r2,am b7 (ints ((qj (cx a) key 5).toList.flatMap CellT.flat)) 132,am b5 (ints (xl (cx a) key (gv a) i)) 42,am b4 (ints (#v[0,0,0,0,0]).toList) 42]) (λi=>5-i) 0
        (aN _) (aS (aS (aS (aS (bv rfl (by congr 1) (Og _))))))
        (λ_ s=>ak [0,0,2,2,2] rfl s) (λi hinv=>?_)
       obtain hi:=hinv;refine aa (λK18 hK18=>?_);refine ae ?_;refine mF (ab rfl) rfl rfl (PV.lss rfl rfl rfl) ?_;refine ao (λh35=>?_) (λh35=>?_)
       · skip
         refine au ?_;refine ac hK18 ?_;clear hK18;refine aa (λK19 hK19=>?_);refine oh rfl ?_;refine aU ?_;refine ac hK19 ?_;clear hK19;refine aa (λK20 hK20=>?_);refine aq ?_;refine aa (λK21 hK21=>?_);refine ae ?_;refine mF (ab rfl) rfl rfl (kA rfl rfl) ?_;refine mF (ab rfl) rfl rfl (lM (cs:=ints (pg (gv a) 5)) (v:=(.int .i64 (uX (gv a) i))) (r:=i) rfl ky Y3 rfl aQ rfl rfl (by omega) (by omega) (by omega) (JN (by omega))) ?_;refine mF (ab rfl) rfl rfl (Rn rfl rfl) ?_;refine mF (ab rfl) rfl rfl (Rn rfl rfl) ?_;refine au ?_;refine ac hK21 ?_;clear hK21;refine aa (λK22 hK22=>?_);refine aa (λK23 hK23=>?_);refine ae ?_;refine mF (ab rfl) rfl rfl (kA rfl rfl) ?_;refine mF (ab rfl) rfl rfl (PV.lss rfl rfl rfl) ?_;refine ao (λh39=>?_) (λh39=>?_)
         · skip
           refine mF (ab rfl) rfl rfl (kA rfl rfl) ?_;refine ra (b:=true) rfl rfl rfl rfl (lb rfl) ?_;refine ra (b:=true) rfl rfl rfl rfl (lb rfl) ?_;refine mF (ab rfl) rfl rfl (zy rfl rfl rfl) ?_;refine au ?_;refine ac hK23 ?_;clear hK23;refine oh rfl ?_;refine aX ?_;refine aA ?_;clear hK22;refine bu ?_;refine ac hK20 ?_;clear hK20;refine ae ?_;refine mF (ab rfl) rfl rfl (cL rfl rfl rfl (bX (by omega) (by omega))) ?_;refine mF (ab rfl) rfl rfl (kA rfl rfl) ?_;refine au ?_
           exact aK ((i+1):(Nat)) (by omega) (by show 5- (i+1)<5-i;omega)
            (aS (aS (aS (aS (bv rfl (by simp) (Og _))))))
            (λ_ q=>by show bH [cT c a g,q7 a d2 r2,am b7 (ints ((qj (cx a) key 5).toList.flatMap CellT.flat)) 132,am b5 (ints (xl (cx a) key (gv a) (i+1))) 42,am b4 (ints (#v[0,0,0,0,0]).toList) 42] _;rw[xl,if_neg (by omega)];exact ak [0,0,0,0,0] rfl q)
         · skip
           refine mF (ab rfl) rfl rfl (kA rfl rfl) ?_;refine mF (cm rfl rfl rfl) rfl rfl (kA rfl rfl) ?_;refine mF (cm rfl rfl rfl) rfl rfl (PV.geq rfl rfl rfl) ?_;refine ao (λh42=>?_) (λh42=>?_)
           · skip
             refine mF (ab rfl) rfl rfl (zy rfl rfl rfl) ?_;refine au ?_;refine ac hK23 ?_;clear hK23;refine oh rfl ?_;refine aX ?_;refine aA ?_;clear hK22;refine bu ?_;refine ac hK20 ?_;clear hK20;refine ae ?_;refine mF (ab rfl) rfl rfl (cL rfl rfl rfl (bX (by omega) (by omega))) ?_;refine mF (ab rfl) rfl rfl (kA rfl rfl) ?_;refine au ?_
             exact aK ((i+1):(Nat)) (by omega) (by show 5- (i+1)<5-i;omega)
              (aS (aS (aS (aS (bv rfl (by simp) (Og _))))))
              (λ_ q=>by show bH [cT c a g,q7 a d2 r2,am b7 (ints ((qj (cx a) key 5).toList.flatMap CellT.flat)) 132,am b5 (ints (xl (cx a) key (gv a) (i+1))) 42,am b4 (ints (#v[0,0,0,0,0]).toList) 42] _;rw[xl,if_neg (by omega)];exact ak [0,0,0,0,0] rfl q)
           · skip
             obtain⟨ow,how,hw5⟩: ∃ow:Nat,uX (gv a) i=((ow:Nat):Int)∧ow<5:=⟨(uX (gv a) i).toNat,by omega,by omega⟩;rw[how];refine mF (ab rfl) rfl rfl (zy rfl rfl rfl) ?_;refine au ?_;refine ac hK23 ?_;clear hK23;refine Hb rfl ?_;refine aU ?_;refine ac hK22 ?_;clear hK22;refine aa (λK24 hK24=>?_);refine sO (λw=>Frm F w∧w.heap[b7]?=some (.cells (ints ((qj (cx a) key 5).toList.flatMap CellT.flat)).toArray 132 (0,0))∧True) dK rfl (λ_ s=>⟨fN s,s.block 2 (lb rfl) rfl,trivial⟩) ?_;refine KW (i:=0) rfl (by kernel_rfl) (by kernel_rfl) (by kernel_rfl) (λ_ _ _ _ h=>h) (ab rfl) rfl rfl (kA rfl rfl) ?_;refine KW (i:=1) rfl (by kernel_rfl) (by kernel_rfl) (by kernel_rfl) (λ_ _ _ _ h=>h) (ab rfl) rfl rfl (e9 (r:=ow) rfl ky aQ rfl rfl (by omega) (by omega) (by omega)) ?_;refine KW (i:=3) rfl (by kernel_rfl) (by kernel_rfl) (by kernel_rfl) (λ_ _ _ _ h=>h) (ab rfl) rfl rfl (kA rfl rfl) ?_;refine KW (i:=4) rfl (by kernel_rfl) (by kernel_rfl) (by kernel_rfl) (λ_ _ _ _ h=>h) (ab rfl) rfl rfl (e9 (r:=i*7) rfl zo fY rfl rfl (by omega) (by omega) (by omega)) ?_;refine KW (i:=5) rfl (by kernel_rfl) (by kernel_rfl) (by kernel_rfl) (λ_ _ _ _ h=>h) (ab rfl) rfl rfl (bc (r:=i*7) rfl nF rfl aQ rfl rfl) ?_
             refine KW (i:=6) rfl (by kernel_rfl) (by kernel_rfl) (by kernel_rfl) (λ_ _ _ _ h=>h) (ab rfl) rfl rfl (iI (v:=(.int .i64 ((jh (cx a) key i).inn))) rfl Y3 rfl rfl (λ_ h=>h.2.1) (KJ 0 (by omega) (by omega) (by decide) (sV _ rfl))) ?_;refine KW (i:=7) rfl (by kernel_rfl) (by kernel_rfl) (by kernel_rfl) (λ_ _ _ _ h=>h) (ab rfl) rfl rfl (kA rfl rfl) ?_;refine KW (i:=8) rfl (by kernel_rfl) (by kernel_rfl) (by kernel_rfl) (λ_ _ _ _ h=>h) (ab rfl) rfl rfl (e9 (r:=i*7) rfl zo fY rfl rfl (by omega) (by omega) (by omega)) ?_;refine KW (i:=9) rfl (by kernel_rfl) (by kernel_rfl) (by kernel_rfl) (λ_ _ _ _ h=>h) (ab rfl) rfl rfl (bc (r:=i*7+1) rfl nF rfl aQ rfl rfl) ?_;refine KW (i:=10) rfl (by kernel_rfl) (by kernel_rfl) (by kernel_rfl) (λ_ _ _ _ h=>h) (ab rfl) rfl rfl (iI (v:=(.int .i64 ((jh (cx a) key i).out))) rfl Y3 rfl rfl (λ_ h=>h.2.1) (KJ 1 (by omega) (by omega) (by decide) (sU _ rfl))) ?_;refine KW (i:=11) rfl (by kernel_rfl) (by kernel_rfl) (by kernel_rfl) (λ_ _ _ _ h=>h) (ab rfl) rfl rfl (jC (r:=(gr ((jh (cx a) key i).inn- (jh (cx a) key i).out))) rfl rfl rfl rfl) ?_;refine cX [2] (by kernel_rfl) rfl ?_;refine aH rfl ?_ ?_
             · skip
               refine mF (ab rfl) rfl rfl (iI (v:=(.int .i64 ((xl (cx a) key (gv a) i).getD ow 0))) rfl Y3 rfl rfl (fE 3 rfl rfl) (Ks (by omega) (by simp only[Lx,Ob,cK,rk,j9,ec];omega))) ?_;refine au ?_;refine wo (λ_ s=>⟨fN s,s.block 2 (lb rfl) rfl,trivial⟩) ?_;refine KW (i:=12) rfl (by kernel_rfl) (by kernel_rfl) (by kernel_rfl) (λ_ _ _ _ h=>h) (ab rfl) rfl rfl (cL (r:=(gr ((xl (cx a) key (gv a) i).getD ow 0+gr ((jh (cx a) key i).inn- (jh (cx a) key i).out)))) rfl rfl rfl rfl) ?_;refine KW (i:=13) rfl (by kernel_rfl) (by kernel_rfl) (by kernel_rfl) (λ_ _ _ _ h=>h) (ab rfl) rfl rfl (e9 (r:=ow) rfl ky aQ rfl rfl (by omega) (by omega) (by omega)) ?_;refine cX [14] (by kernel_rfl) rfl ?_;refine aH rfl ?_ ?_
               · skip
                 refine bI (i:=3) (H':=[cT c a g,q7 a d2 r2,am b7 (ints ((qj (cx a) key 5).toList.flatMap CellT.flat)) 132,am b5 (ints (Lx (cx a) key i ow (xl (cx a) key (gv a) i))) 42,am b4 (ints (#v[0,0,0,0,0]).toList) 42]) (ab rfl) rfl rfl rfl rfl rfl aQ rfl rfl (by simp only[ints_length,Lx,Ob,cK,rk,j9,ec];omega) (Kr (by omega)) rfl ?_;refine au ?_;refine wo (λ_ s=>⟨fN s,s.block 2 (lb rfl) rfl,trivial⟩) ?_;refine TD.done (by kernel_rfl) ?_;refine ac hK24 ?_;clear hK24;refine aa (λK25 hK25=>?_);refine ae ?_;refine mF (ab rfl) rfl rfl (kA rfl rfl) ?_;refine au ?_;refine ac hK25 ?_;clear hK25;refine aq ?_
                 refine bA (α:=(Nat)) (λj=>j≤5) (λj=>[(4,(.pointer (some ⟨b4,0,none⟩))),(5,(.pointer (some ⟨b5,0,none⟩))),(7,(.pointer (some ⟨b7,0,none⟩))),(9,(.int .i64 (((i:Nat):Int)))),(10,(.int .i64 (((ow:Nat):Int)))),(33,(.agg (ints (pg (gv a) 5)).toArray)),(34,(.int .i64 (((i:Nat):Int)))),(58,(.int .i64 (((j:Nat):Int))))]) (λj=>[cT c a g,q7 a d2 r2,am b7 (ints ((qj (cx a) key 5).toList.flatMap CellT.flat)) 132,am b5 (ints (Ns (cx a) key i ow (Lx (cx a) key i ow (xl (cx a) key (gv a) i)) j)) 42,am b4 (ints (#v[0,0,0,0,0]).toList) 42]) (λj=>5-j) 0
                  (aN _) (aS (aS (aS (aS (aS (aS (aS (bv rfl (by congr 1) (Og _)))))))))
                  (λ_ s=>s) (λj hinv=>?_)
                 obtain hj:=hinv;refine aa (λK26 hK26=>?_);refine ae ?_;refine mF (ab rfl) rfl rfl (PV.lss rfl rfl rfl) ?_;refine ao (λh59=>?_) (λh59=>?_)
                 · skip
                   refine au ?_;refine ac hK26 ?_;clear hK26;refine aa (λK27 hK27=>?_);refine oh rfl ?_;refine aU ?_;refine ac hK27 ?_;clear hK27;refine aa (λK28 hK28=>?_);refine aq ?_;refine aa (λK29 hK29=>?_);refine ae ?_;refine mF (ab rfl) rfl rfl (kA rfl rfl) ?_;refine mF (ab rfl) rfl rfl (Rn rfl rfl) ?_;refine au ?_;refine ac hK29 ?_;clear hK29;refine sO (λw=>Frm F w∧w.heap[b7]?=some (.cells (ints ((qj (cx a) key 5).toList.flatMap CellT.flat)).toArray 132 (0,0))∧True) dK rfl (λ_ s=>⟨fN s,s.block 2 (lb rfl) rfl,trivial⟩) ?_;refine KW (i:=0) rfl (by kernel_rfl) (by kernel_rfl) (by kernel_rfl) (λ_ _ _ _ h=>h) (ab rfl) rfl rfl (kA rfl rfl) ?_;refine KW (i:=1) rfl (by kernel_rfl) (by kernel_rfl) (by kernel_rfl) (λ_ _ _ _ h=>h) (ab rfl) rfl rfl (e9 (r:=ow) rfl ky aQ rfl rfl (by omega) (by omega) (by omega)) ?_;refine KW (i:=3) rfl (by kernel_rfl) (by kernel_rfl) (by kernel_rfl) (λ_ _ _ _ h=>h) (ab rfl) rfl rfl (kA rfl rfl) ?_;refine KW (i:=4) rfl (by kernel_rfl) (by kernel_rfl) (by kernel_rfl) (λ_ _ _ _ h=>h) (ab rfl) rfl rfl (kA rfl rfl) ?_;refine KW (i:=5) rfl (by kernel_rfl) (by kernel_rfl) (by kernel_rfl) (λ_ _ _ _ h=>h) (ab rfl) rfl rfl (e9 (r:=j*7) rfl zo fY rfl rfl (by omega) (by omega) (by omega)) ?_;refine KW (i:=6) rfl (by kernel_rfl) (by kernel_rfl) (by kernel_rfl) (λ_ _ _ _ h=>h) (ab rfl) rfl rfl (bc (r:=j*7+2) rfl nF rfl fu rfl rfl) ?_
                   refine KW (i:=7) rfl (by kernel_rfl) (by kernel_rfl) (by kernel_rfl) (λ_ _ _ _ h=>h) (ab rfl) rfl rfl (e9 (r:=j*7+2+i) rfl ky aQ rfl rfl (by omega) (by omega) (by omega)) ?_;refine KW (i:=8) rfl (by kernel_rfl) (by kernel_rfl) (by kernel_rfl) (λ_ _ _ _ h=>h) (ab rfl) rfl rfl (iI (v:=(.int .i64 ((jh (cx a) key j).given.toList.getD i 0))) rfl Y3 rfl rfl (λ_ h=>h.2.1) (Ei (by omega) (by omega) (by omega))) ?_;refine KW (i:=9) rfl (by kernel_rfl) (by kernel_rfl) (by kernel_rfl) (λ_ _ _ _ h=>h) (ab rfl) rfl rfl (kA rfl rfl) ?_;refine KW (i:=10) rfl (by kernel_rfl) (by kernel_rfl) (by kernel_rfl) (λ_ _ _ _ h=>h) (ab rfl) rfl rfl (kA rfl rfl) ?_;refine KW (i:=11) rfl (by kernel_rfl) (by kernel_rfl) (by kernel_rfl) (λ_ _ _ _ h=>h) (ab rfl) rfl rfl (e9 (r:=i*7) rfl zo fY rfl rfl (by omega) (by omega) (by omega)) ?_;refine KW (i:=12) rfl (by kernel_rfl) (by kernel_rfl) (by kernel_rfl) (λ_ _ _ _ h=>h) (ab rfl) rfl rfl (bc (r:=i*7+2) rfl nF rfl fu rfl rfl) ?_;refine KW (i:=13) rfl (by kernel_rfl) (by kernel_rfl) (by kernel_rfl) (λ_ _ _ _ h=>h) (ab rfl) rfl rfl (e9 (r:=i*7+2+j) rfl ky aQ rfl rfl (by omega) (by omega) (by omega)) ?_
                   refine KW (i:=14) rfl (by kernel_rfl) (by kernel_rfl) (by kernel_rfl) (λ_ _ _ _ h=>h) (ab rfl) rfl rfl (iI (v:=(.int .i64 ((jh (cx a) key i).given.toList.getD j 0))) rfl Y3 rfl rfl (λ_ h=>h.2.1) (Ei (by omega) (by omega) (by omega))) ?_;refine KW (i:=15) rfl (by kernel_rfl) (by kernel_rfl) (by kernel_rfl) (λ_ _ _ _ h=>h) (ab rfl) rfl rfl (jC (r:=(gr ((jh (cx a) key j).given.toList.getD i 0- (jh (cx a) key i).given.toList.getD j 0))) rfl rfl rfl rfl) ?_;refine cX [2] (by kernel_rfl) rfl ?_;refine aH rfl ?_ ?_
                   · skip
                     refine mF (ab rfl) rfl rfl (iI (v:=(.int .i64 ((Ns (cx a) key i ow (Lx (cx a) key i ow (xl (cx a) key (gv a) i)) j).getD ow 0))) rfl Y3 rfl rfl (fE 3 rfl rfl) (Ks (by omega) (by simp only[Lx,Ob,cK,rk,j9,ec];omega))) ?_;refine au ?_;refine wo (λ_ s=>⟨fN s,s.block 2 (lb rfl) rfl,trivial⟩) ?_;refine KW (i:=16) rfl (by kernel_rfl) (by kernel_rfl) (by kernel_rfl) (λ_ _ _ _ h=>h) (ab rfl) rfl rfl (cL (r:=(gr ((Ns (cx a) key i ow (Lx (cx a) key i ow (xl (cx a) key (gv a) i)) j).getD ow 0+gr ((jh (cx a) key j).given.toList.getD i 0- (jh (cx a) key i).given.toList.getD j 0)))) rfl rfl rfl rfl) ?_;refine KW (i:=17) rfl (by kernel_rfl) (by kernel_rfl) (by kernel_rfl) (λ_ _ _ _ h=>h) (ab rfl) rfl rfl (e9 (r:=ow) rfl ky aQ rfl rfl (by omega) (by omega) (by omega)) ?_;refine cX [18] (by kernel_rfl) rfl ?_;refine aH rfl ?_ ?_
                     · skip
                       refine bI (i:=3) (H':=[cT c a g,q7 a d2 r2,am b7 (ints ((qj (cx a) key 5).toList.flatMap CellT.flat)) 132,am b5 (ints (Ob (cx a) key i ow j (Ns (cx a) key i ow (Lx (cx a) key i ow (xl (cx a) key (gv a) i)) j))) 42,am b4 (ints (#v[0,0,0,0,0]).toList) 42]) (ab rfl) rfl rfl rfl rfl rfl aQ rfl rfl (by simp only[ints_length,Lx,Ob,cK,rk,j9,ec];omega) (Kr (by omega)) rfl ?_;refine au ?_;refine wo (λ_ s=>⟨fN s,s.block 2 (lb rfl) rfl,trivial⟩) ?_;refine TD.done (by kernel_rfl) ?_;refine ag ?_;refine ac hK28 ?_;clear hK28;refine ae ?_;refine mF (ab rfl) rfl rfl (cL rfl rfl rfl (bX (by omega) (by omega))) ?_;refine mF (ab rfl) rfl rfl (kA rfl rfl) ?_;refine au ?_
                       exact aK ((j+1):(Nat)) (by omega) (by show 5- (j+1)<5-j;omega)
                        (aS (aS (aS (aS (aS (aS (aS (bv rfl (by simp) (Og _)))))))))
                        (λ_ s=>s)
                     exact bM
                   exact bM
                 · skip
                   refine au ?_;refine ac hK26 ?_;clear hK26;refine aa (λK30 hK30=>?_);refine Hb rfl ?_;refine aX ?_;refine aA ?_;clear hK30;refine aA ?_;refine bu ?_;refine ag ?_;refine ac hK20 ?_;clear hK20;refine ae ?_;refine mF (ab rfl) rfl rfl (cL rfl rfl rfl (bX (by omega) (by omega))) ?_;refine mF (ab rfl) rfl rfl (kA rfl rfl) ?_;refine au ?_
                   exact aK ((i+1):(Nat)) (by omega) (by show 5- (i+1)<5-i;omega)
                    (aS (aS (aS (aS (bv rfl (by simp) (Og _))))))
                    (λ_ q=>by show bH [cT c a g,q7 a d2 r2,am b7 (ints ((qj (cx a) key 5).toList.flatMap CellT.flat)) 132,am b5 (ints (xl (cx a) key (gv a) (i+1))) 42,am b4 (ints (#v[0,0,0,0,0]).toList) 42] _;rw[xl,if_pos (by omega),show(uX (gv a) i).toNat=ow by omega];rw[show j=5 by omega]at q;exact ak [0,0,0,0,0] rfl q)
               exact bM
             exact bM
       · skip
         refine au ?_;refine ac hK18 ?_;clear hK18;refine aa (λK31 hK31=>?_);refine Hb rfl ?_;refine aX ?_;refine aA ?_;clear hK31;refine aA ?_;refine bu ?_;refine ac hK16 ?_;clear hK16;refine aa (λK32 hK32=>?_);refine ae ?_;obtain rfl:i=5:=by omega
         refine mF (ab rfl) rfl rfl (aO (vs:=ints (xl (cx a) key (gv a) 5)) rfl ky rfl fu rfl (fE 3 rfl rfl) (by simp only[ints_length,j9]) (by rw[ba,aB (by simp only[ints_length,j9];exact aI _)])) ?_;refine bO (vs:=ints (xl (cx a) key (gv a) 5)) (i:=4) (H':=[cT c a g,q7 a d2 r2,am b7 (ints ((qj (cx a) key 5).toList.flatMap CellT.flat)) 132,am b5 (ints (xl (cx a) key (gv a) 5)) 42,am b4 (ints (xl (cx a) key (gv a) 5)) 42]) (ab rfl) rfl rfl rfl rfl rfl (by simp only[ints_length,j9];exact fu) (bF _) rfl rfl (by simp only[ints_length,j9];exact aI _) (gi (by simp only[ints_length,j9];rfl)) rfl ?_;refine au ?_;refine ac hK32 ?_;clear hK32;refine aj ?_;refine zq (H':=[cT c a g,q7 a d2 r2]) rfl rfl ky rfl fu (fE 4 rfl rfl) (by rw[ints_length,j9]) (λ_ s=>ak [0,0] rfl s) ?_;exact .inr ⟨by omega,d2,r2,rfl,rfl⟩
end Go.Proofs.YtjblgopghhgflaaGreat
end

section
namespace Api
open Go Leg Codec Dsk Wal
def pq:CL:=ka Md 2
theorem BK:CLOk 1 pq:=fitA_ok.settle 2
def Pu:Bool:=decide (nE (cx pq) 0=5)&&decide ((xl (cx pq) 0 (gv pq) 5).getD 0 0=5)&&decide ((gv pq).flat=firstV.flat)
theorem IK:Pu=true:=by decide+kernel
theorem Ky:nE (cx pq) 0=5∧(xl (cx pq) 0 (gv pq) 5).getD 0 0=5∧(gv pq).flat=firstV.flat:=by
 have h:=IK;unfold Pu at h;rw[av,av]at h;exact⟨of_decide_eq_true h.1.1,of_decide_eq_true h.1.2,of_decide_eq_true h.2⟩
end Api
end

section
namespace Go.Proofs.YtjblgopghhgflaaGreat
open Go Leg Codec Api Dsk Wal
theorem Qy:Tryz.prog.eqGuardType Tryz.prog.depth 44=false:=by kernel_rfl
theorem Qs:Tryz.prog.keyTypeAt 4 44=true:=by kernel_rfl
theorem Q4:oB Tryz.prog 4 44=some 7:=by kernel_rfl
theorem Pz:(match Tryz.prog.underlying 44 with|some (.struct _)|some (.array _ _)=>true|_=>false)=true:=by kernel_rfl
theorem PH:Tryz.prog.cellsOf 44=7:=by kernel_rfl
theorem Qw:Tryz.prog.eqGuardType Tryz.prog.depth 60=false:=by kernel_rfl
theorem Qq:Tryz.prog.keyTypeAt 8 60=true:=by kernel_rfl
theorem Q2:oB Tryz.prog 8 60=some 174:=by kernel_rfl
theorem Px:(match Tryz.prog.underlying 60 with|some (.struct _)|some (.array _ _)=>true|_=>false)=true:=by kernel_rfl
theorem PF:Tryz.prog.cellsOf 60=174:=by kernel_rfl
theorem FO:
 DT 36 #[] T0 [] (RI (.bool true) []):=by
 refine BD 40 Tryz.func36 rfl rfl rfl λw0 F hF=>?_
 obtain⟨hf1,_⟩:=Mc;obtain⟨hv5,hs5,hf5⟩:=Ky;have hwl:WF (gv pq).flat:=hf5▸OkVw.first.wf;refine sr λ_ J1=>PS ?_
 refine nx J1 (sr λ_ J2=>CR Pg (Ae) ID λvR HR hR=>?_);obtain⟨c,rfl,rfl⟩:=hR;refine PS ?_;refine nx J2 (aa λ_ J3=>sr λ_ J4=>PS ?_);refine tp (jE rfl PK rfl rfl) ?_;refine nx J4 (CN (qx J3 (sr λ_ J5=>PS ?_)));refine tp (lY OpT.zero (OpT.mk 0 0 0 0 5 ChangeT.zero 0 0 0) [(0,[Value.int .i64 0]),(4,[Value.int .i64 5])] gh qo (g:=OpT.sg)) ?_;refine CR L2 (ug (c:=c) (o:=DP) new_ok (by decide) DO) ID λvR HR hR=>?_
 obtain⟨hv,rfl⟩:=hR;rw[hf1]at hv;subst hv;refine nx J5 (sr λ_ J6=>PS ?_);refine CZ QX (Bb c 1 Md fitA_ok (by decide) 2 (by decide)) ID λvR=>?_
 refine nx J6 (sr λ_ J7=>PS ?_);refine Nh (H':=λg:CX=>[cT c pq g]) (λ_ s=>Ay s) (λg=>CR NP (qD c 1 pq g BK) ID λvR HR hR=>?_);obtain⟨bt,d,r,rfl,rfl⟩:=hR;refine PS ?_;refine nx J7 (sr λ_ J8=>PS ?_);refine tp (gd rfl Tryz.underlying72 rfl rfl) ?_;refine P2 ?_;refine CR ON (qZ bt 0 121 (λx=>ints x.flat) Qb (cx pq) 0) (SM [2]) λvR HR hR=>?_
 obtain⟨hv,rfl⟩:=hR;rw[hv5]at hv;subst hv;refine P4 ?_;refine CR QU (Ba c 1 pq g BK 0) (SM [1]) λvR HR hR=>?_
 obtain⟨_,d2,r2,rfl,rfl⟩:=hR.resolve_left (λq=>q.1 (by decide));refine tq (lM (cs:=ints (xl (cx pq) 0 (gv pq) 5)) (v:=(.int .i64 5)) (r:=0) rfl ky Y3 rfl aQ rfl rfl (by omega) (by omega) (by omega) ((Ks rfl (by rw[j9];decide)).trans (by rw[hs5]))) ?_;refine P3 ?_;refine BV ((ints RowT.zero.flat).toArray) ?_;refine CR Im (jo .zero Li) ID λvR HR hR=>?_
 obtain⟨hv,rfl⟩:=hR;rw[show eH .zero=true by decide]at hv;subst hv;refine P3 ?_;refine CR NN (sC c 1 pq g BK) ID λvR HR hR=>?_
 obtain⟨d3,r3,rfl,rfl⟩:=hR;refine CE NR (sI) ID ?_;refine tq (PV.eqlAgg (a:=(gv pq).flat) (b:=firstV.flat) (m:=4) (c:=7) Qy Qs rfl Q4 (dA (an (gv pq))) (dA (an firstV)) ⟨gx Pz PH (dA (an (gv pq))),gx Pz PH (dA (an firstV))⟩ hwl OkVw.first.wf rfl rfl rfl) ?_;refine ao ?_ ?_<;>intro h34;refine P2 ?_;refine CR NJ (F0) ID λvR HR hR=>?_
 obtain⟨dn,rfl,rfl⟩:=hR;refine tq (gd rfl ut rfl rfl) ?_;refine P2 ?_;refine nx J8 (aj (WK [] (aw rfl rfl ?_)));exact⟨by simp[hf5],rfl⟩
 · exact absurd hf5 h34
theorem DF(x:Value)(l:List OpT)(hn:l.length≤100000)(hok: ∀o∈l,OkOp o):
 DT 40 #[x] (IsL 11 (EF OpT.flat) x l) [] (dB (λv H=>∃c:Nat,v= .pointer (some ⟨c,0,none⟩)∧H=[gq c (eC .new l)])):=by
 refine BD 18 Tryz.func40 rfl rfl rfl λw0 F hF=>sr λ_ J1=>PS ?_
 refine nx J1 (sr λ_ J2=>CR Pg (Ae) ID λvR HR hR=>?_);obtain⟨c,rfl,rfl⟩:=hR;refine PS ?_;refine nx J2 (aa λ_ J3=>sr λ_ J4=>PS ?_);refine tp (ef rfl Tryz.underlying22 rfl hF.len) ?_;refine PS ?_;refine nx J4 (aq ?_)
 refine bA (α:=(Nat)) (λk=>k≤l.length) (λk=>[(2,(.pointer none)),(3,(.pointer (some ⟨c,0,none⟩))),(7,x),(8,(.int .i64 (((l.length:Nat):Int)))),(9,(.int .i64 (((k:Nat):Int))))]) (λk=>[gq c (eC .new (l.take k))]) (λk=>l.length-k) 0
  (aN _) SB
  (λ_ s=>s) (λk hinv=>?_)
 obtain hk:=hinv;refine sr λ_ J5=>PS ?_
 refine ao ?_ ?_<;>intro h10;obtain⟨b_e,off_e,cap_e,cs_e,T_e,z_e,us_e,hv_e,hc_e,hb_e,hl_e,hs_e,hE_e⟩:=IsL.at hF (j:=k) (by omega);have hkl:k<l.length:=by omega
 obtain⟨o,ho⟩: ∃o,o=l[k]:=⟨_,rfl⟩;replace hE_e:us_e=ints l[k].flat:=hE_e;rw[←ho]at hE_e;have hoo:OkOp o:=ho▸hok _ (ey ..);have hck:CLOk l.length (eC .new (l.take k)):=(Fa (l.take k) new_ok (λo ho=>hok o (mL ho))).more (by rw[bq];omega);refine nx J5 (aa λ_ J6=>CY (qx J6 (aa λ_ J7=>aq (sr λ_ J8=>tp (bU (r:=off_e+k*11) hv_e rfl Tryz.underlying22 Cy rfl rfl (by omega) (by omega) (by omega)) ?_))));refine tp (Rl (vs:=ints o.flat) rfl gh rfl Cy rfl (ED hb_e (λ_ h=>fN h)) (KZ _) (hs_e.trans hE_e)) ?_;refine XZ Rr (ints OpT.zero.flat) λb5=>?_
 refine SW 0 Cy KZ ?_;refine nx J8 (ae (PS ?_));refine LW 0 gh Cy KZ ?_;refine CE L2 (ug (c:=c) (a:=eC .new (l.take k)) (o:=o) hck (by omega) hoo) (SM [1]) ?_;refine au (ag (ac J7 (ae (AD ?_))));refine PS ?_;refine au ?_
 exact aK ((k+1):(Nat)) (by omega) (by show l.length- (k+1)<l.length-k;omega)
  SB
  (λ_ s=>by rw[HI .new l hkl,←ho];exact ak [0] rfl s)
 refine nx J5 (aa λ_ J9=>CN (aX (aA (aA (bu (ac J3 (sr λ_ J10=>P2 ?_)))))));exact nx J10 (aj (aF (H':=[gq c (eC .new l)]) (dE _) (λ_ s=>by rw[show k=l.length by omega,iY]at s;exact s) (aw rfl rfl ⟨c,rfl,rfl⟩)))
end Go.Proofs.YtjblgopghhgflaaGreat
end

section
namespace Wal
open Go Leg Codec Api Dsk
def Worn(s x:ix):Prop:=x.getD 63 0≠1∨∃c,c≤64∧x=List.replicate c 0++s.drop c
theorem Worn.zs{s:ix}:Worn s zs:= .inl AR
theorem Worn.full{s:ix}:Worn s s:= .inr ⟨0,by omega,by simp⟩
theorem Gu{x:ix}{c:Nat}(hc:c≤64):lU x zs c=List.replicate c 0++x.drop c:=by
 unfold lU Dsk.zs;rw[Gl,Nat.min_eq_left hc]
theorem zF{x:ix}{c:Nat}(hx:x.length=64)(h:x.getD 63 0≠1)(hc:c≤64):(List.replicate c 0++x.drop c).getD 63 0≠1:=by
 rw[List.getD_eq_getElem?_getD]
 by_cases q:c=64
 · subst q
   rw[List.getElem?_append_left (by simp)];simp
 · rw[List.getElem?_append_right (by rw[ec];omega),ec,List.getElem?_drop,show c+(63-c)=63 by omega]
   rwa [List.getD_eq_getElem?_getD]at h
theorem Worn.torn{s x:ix}(hx:x.length=64)(h:Worn s x){c:Nat}(hc:c≤64):Worn s (lU x Dsk.zs c):=by
 rw[Gu hc];rcases h with h| ⟨d,hd,rfl⟩
 · exact .inl (zF hx h hc)
 · right
   by_cases q:c≤d
   · refine⟨d,hd,?_⟩
     rw[ij (by simpa using q),Gm,←aG,List.replicate_append_replicate,show c+(d-c)=d by omega]
   · refine⟨c,hc,?_⟩
     rw[gT,co (by rw[ec];omega),ec,jj,bb,show d+(c-d)=c by omega]
theorem Fl{x b:ix}{number place all:Int}(hx:x.length=64)(h:fp x number place=some (b,all)):Em (x.take 4)=number:=by
 unfold fp at h;split at h
 · cases h
 · rename_i t ht
   split at h
   · cases h
   · split at h
     · cases h
     · rename_i h2
       have e:t=(x.take 63).take ((x.take 63).length-4):=by
        unfold mX at ht;split at ht
        · cases ht
        · split at ht
          · exact(cw ht).symm
          · cases ht
       have e2:t.take 4=x.take 4:=by
        rw[e,Ex,Ex,bq];congr 1;omega
       rw[e2]at h2;exact Decidable.not_not.1 λq=>h2 (.inl q)
theorem Worn.piece{number place all':Int}{pl al:Nat}{p b x:ix}(hp:p.length≤52)(h0:0<number)(h1:number<65536)(h:Worn (m3 number pl al p) x)(hx:x.length=64)(q:fp x number place=some (b,all')):x=m3 number pl al p:=by
 rcases h with h| ⟨c,hc,rfl⟩
 · rw[nR h]at q;cases q
 · have e:=Fl hx q
   obtain⟨r,hr⟩: ∃r,m3 number pl al p=0::0::r8 (number.fdiv 256)::r8 number::r:=by
    have a1:r8 (number.fdiv 16777216)=0:=by
     have:=kq (number.fdiv 16777216);rw[Int.fdiv_eq_ediv_of_nonneg _ (by decide)]at this ⊢;apply UInt8.toNat_inj.1;show _=0;omega
    have a2:r8 (number.fdiv 65536)=0:=by
     have:=kq (number.fdiv 65536);rw[Int.fdiv_eq_ediv_of_nonneg _ (by decide)]at this ⊢;apply UInt8.toNat_inj.1;show _=0;omega
    exact⟨_,by unfold m3 jJ qg KO;rw[a1,a2];rfl⟩
   have z4:c=3∨4≤c→Em ((List.replicate c 0++(m3 number pl al p).drop c).take 4)=if c=3 then number%256 else 0:=λhc'=>by
    rcases hc' with rfl|hc'
    · rw[hr,if_pos rfl]
      show Em [0,0,0,r8 number]=_;rw[yI,kq];simp
    · rw[if_neg (by omega),ci (by simpa using hc'),Gl,Nat.min_eq_left hc']
      show Em [0,0,0,0]=0;rw[yI];rfl
   match c,hc with
   |0,_=>rfl
   |1,_=>rw[hr];rfl
   |2,_=>rw[hr];rfl
   |3,_=>
    rw[z4 (.inl rfl),if_pos rfl]at e
    have a3:r8 (number.fdiv 256)=0:=by
     have:=kq (number.fdiv 256);rw[Int.fdiv_eq_ediv_of_nonneg _ (by decide)]at this ⊢;apply UInt8.toNat_inj.1;show _=0;omega
    rw[hr,a3];rfl
   |c+4,hc=>
    rw[z4 (.inr (by omega)),if_neg (by omega)]at e;omega
structure Rub(rd:Int→ix)(ls:List (List UInt8))(bs:List UInt8):Prop where
 len: ∀j,(rd j).length=64
 shows:Shows rd 0 (gX 0 ls)
 worn: ∀i (h:i< (bl ((ls.length+1:Nat):Int) bs).length),Worn (bl ((ls.length+1:Nat):Int) bs)[i] (rd (((cG ls:Nat):Int)+i))
 rest: ∀j,((cG ls+be bs.length:Nat):Int)≤j→(rd j).getD 63 0≠1
theorem Rub.scan{rd:Int→ix}{ls:List (List UInt8)}{bs:List UInt8}(h:Rub rd ls bs)(hsh: ∀b∈ls,b.length≤3000)(hb:bs.length≤3000)(hro:cG ls+be bs.length≤2048):
 ∃ls',(ls'=ls∨ls'=ls++[bs])∧gm rd iF 0 0=(ls',((cG ls':Nat):Int))∧Shows rd 0 (gX 0 ls'):=by
 have hge:=tA ls;have hpl:=pP hb;have hpp:=mu bs.length;have hss:(bl ((ls.length+1:Nat):Int) bs).length=be bs.length:=cE _ _;obtain⟨f,hf⟩: ∃f,iF=ls.length+(f+1):=⟨iF-ls.length-1,by rw[qU];omega⟩;have sc:=xz (rd:=rd) ls 0 0 (f+1) hsh (by omega) h.shows;rw[←hf,show((0:Nat):Int)=0 from rfl,Int.zero_add,bn,show(((gX 0 ls).length:Nat):Int)=((cG ls:Nat):Int)from rfl]at sc;cases hst:fS rd (((ls.length:Nat):Int)+1) ((cG ls:Nat):Int)with
 |none=>
  rw[rl hst]at sc;exact⟨ls, .inl rfl,by simpa using sc,h.shows⟩
 |some p=>
  obtain⟨b,all⟩:=p;obtain⟨f1,f2,f3⟩:=kD (h.len _) hst
  have pick: ∀(k:Nat) (hk:(k:Int)<all),∃hk2:k< (bl ((ls.length+1:Nat):Int) bs).length,rd (((cG ls:Nat):Int)+k)=(bl ((ls.length+1:Nat):Int) bs)[k]:=λk hk=>by
   obtain⟨x,hx⟩:=f3 k hk
   by_cases hk2:k< (bl ((ls.length+1:Nat):Int) bs).length
   · refine⟨hk2,?_⟩
     have w:=h.worn k hk2;rw[tC hk2]at w ⊢;exact w.piece (rm _ _) (by omega) (by omega) (h.len _) hx
   · rw[hss]at hk2
     rw[nR (h.rest _ (by omega))]at hx;cases hx
  obtain⟨h00,e00⟩:=pick 0 f1;obtain⟨x0,hx0⟩:=f3 0 f1;rw[e00,show(((ls.length:Nat):Int)+1)=((ls.length+1:Nat):Int)by omega,sn h00 (by omega) (by omega) hb]at hx0;injection hx0 with hx0
  simp only[Prod.mk.injEq]at hx0;have hall:all=((be bs.length:Nat):Int):=hx0.2.symm;have hst2:=vE (rd:=rd) (number:=((ls.length+1:Nat):Int)) (at':=((cG ls:Nat):Int)) (b:=bs) (by omega) (by omega) hb (λj hj=>(pick j (by rw[hall];rw[hss]at hj;omega)).2);rw[show((ls.length+1:Nat):Int)=((ls.length:Nat):Int)+1 by omega]at hst2;rw[Bg hst2]at sc;have hst3:fS rd (((ls.length:Nat):Int)+1+1) (((cG ls:Nat):Int)+((be bs.length:Nat):Int))=none:=zN (h.rest _ (by omega));rw[rl hst3]at sc;have hsz:=uO ls bs;refine⟨ls++[bs], .inr rfl,by rw[sc,hsz];simp,?_⟩;rw[nq];refine Shows.append h.shows λj hj=>?_
  simp only[gX,aR,bn]at hj ⊢;have:=(pick j (by rw[hall];rw[hss]at hj;omega)).2;rw[←this];congr 1;simp only[cG];omega
structure Dirt(D:DS)(ls:List (List UInt8))(bs:List UInt8):Prop where
 ok:D.Ok
 inn:Wal.DS.In D
 short: ∀b∈ls,b.length≤3000
 short':bs.length≤3000
 room:cG ls+be bs.length≤2048
 rub:Rub (fa D.s) ls bs
 ws: ∀p∈D.ws,((cG ls:Nat):Int)≤p.1∧p.2=zs
theorem Half.dirt{D:DS}{ls:List (List UInt8)}{bs:List UInt8}(h:Half D ls bs)(mask torn n:Int):Dirt (D.crash mask torn n) ls bs:=by
 obtain⟨c,h1,h2⟩:=h.crash mask torn n;have hr: ∀j,(D.crash mask torn n).read j=fa (D.crash mask torn n).s j:=λj=>rfl
 have hss:(bl ((ls.length+1:Nat):Int) bs).length=be bs.length:=cE _ _;refine⟨c.ok,c.inn,h.short,h.short',h.room,⟨λj=>cp c.ok.s j,h1,λi hi=>?_,λj hj=>?_⟩,λp hp=>by cases hp⟩
 · rw[←hr]
   rcases h2 (((cG ls:Nat):Int)+i) (by omega)with q| ⟨k,hk,e,q⟩|q
   · rw[q];exact Worn.zs
   · obtain rfl:k=i:=by omega
     rw[q];exact Worn.full
   · exact .inl q
 · rw[←hr]
   rcases h2 j (by omega)with q| ⟨k,hk,e,q⟩|q
   · rw[q];exact AR
   · rw[hss]at hk;omega
   · exact q
theorem yA{P:Int→ix→Prop}{mask torn base:Int}{c:Nat}{s ws:fK}(hs: ∀j,P j (fa s j))(hw: ∀p∈ws,base≤p.1∧p.2=zs)(hz: ∀j,base≤j→P j zs)(ht: ∀j x,base≤j→P j x→P j (lU x zs c)): ∀k,k≤ws.length→∀j,P j (fa (gO mask torn c s ws k) j)
 |0,_,j=>hs j
 |k+1,hk,j=>by
  have ih:=yA (mask:=mask) (torn:=torn) hs hw hz ht k (by omega);obtain⟨h1,h2⟩:=hw (kY ws k) (by rw[uH (by omega)];exact ey _);simp only[gO,kh,h2];split
  · rw[lw]
    split
    · rename_i e;subst e;exact ht _ _ h1 (ih _)
    · exact ih j
  · split
    · rw[lw]
      split
      · rename_i e;subst e;exact hz _ h1
      · exact ih j
    · exact ih j
theorem Dirt.crash{D:DS}{ls:List (List UInt8)}{bs:List UInt8}(h:Dirt D ls bs)(mask torn n:Int):Dirt (D.crash mask torn n) ls bs:=by
 have c:=P6 h.ok h.inn mask torn n;have hss:(bl ((ls.length+1:Nat):Int) bs).length=be bs.length:=cE _ _
 have key:=yA (P:=λj x=>x.length=64∧(j< ((cG ls:Nat):Int)→x=fa D.s j)∧(∀i (hi:i< (bl ((ls.length+1:Nat):Int) bs).length),j=((cG ls:Nat):Int)+i→Worn (bl ((ls.length+1:Nat):Int) bs)[i] x)∧(((cG ls+be bs.length:Nat):Int)≤j→x.getD 63 0≠1)) (mask:=mask) (torn:=torn) (base:=((cG ls:Nat):Int)) (c:=nw n) (s:=D.s) (ws:=D.ws)
  (λj=>⟨cp h.ok.s j,λ_=>rfl,λi hi e=>by rw[e];exact h.rub.worn i hi,λe=>h.rub.rest j e⟩) h.ws
  (λj hj=>⟨by simp[zs],λq=>by omega,λ_ _ _=>Worn.zs,λ_=>AR⟩)
  (λj x hj ⟨a,_,b2,b3⟩=>⟨o6 a (by simp[zs]),λq=>by omega,λi hi e=>(b2 i hi e).torn a (nv n),λe=>by rw[Gu (nv n)];exact zF a (b3 e) (nv n)⟩) D.ws.length (aI _)
 refine⟨c.ok,c.inn,h.short,h.short',h.room,⟨λj=>(key j).1,λj hj=>?_,λi hi=>(key _).2.2.1 i hi rfl,λj hj=>(key j).2.2.2 hj⟩,λp hp=>by cases hp⟩;show fa (gO mask torn (nw n) D.s D.ws D.ws.length) _=_;rw[(key _).2.1 (by simp only[cG];omega)];exact h.rub.shows j hj
theorem Ie{D:DS}(h:D.dn=true):(bJ D).err≠0∧(bJ D).D=D:=by
 have hw: ∀at' bs,(D.write at' bs).2=D:=λat' bs=>by
  unfold DS.write;split
  · rfl
  · rw[if_pos (.inl h)]
    cases D;simp only at h;subst h;rfl
 have w: ∀n at',(gK n at' D).2=D:=λn=>by
  induction n with
  |zero=>intro at';rfl
  |succ n ih=>
   intro at';rw[gK];split
   · exact ih _
   · split
     · rw[hw];exact ih _
     · exact hw _ _
 have s:D.sync=(4,D):=by rw[DS.sync,if_pos h]
 unfold bJ;simp only;split
 · rename_i q;exact⟨q,w _ _⟩
 · rw[w,s]
   rw[if_pos (by show ¬(4:Int)=0;decide)];exact⟨by show ¬(4:Int)=0;decide,rfl⟩
theorem wY: ∀(n:Nat) (at':Int) (D:DS),D.Ok→Wal.DS.In D→D.dn=false→0≤at'→at'+n≤2048→∃D',D'.Ok∧Wal.DS.In D'∧D'.s=D.s∧(∀p∈D'.ws,p∈D.ws∨(at'≤p.1∧p.2=zs))∧((gK n at' D=(0,D')∧D'.dn=false∧∀j,D'.read j=if at'≤j∧j<at'+n then zs else D.read j)∨gK n at' D=(4,D'))
 |0,at',D,h,hi,hd,_,_=>⟨D,h,hi,rfl,λp hp=> .inl hp, .inl ⟨rfl,hd,λj=>by rw[if_neg (by omega)]⟩⟩
 |n+1,at',D,h,hi,hd,h0,h1=>by
  by_cases hz:D.read at'=zs
  · obtain⟨D',a,b,e,f,g⟩:=wY n (at'+1) D h hi hd (by omega) (by omega)
    refine⟨D',a,b,e,λp hp=>(f p hp).imp id λ⟨x,y⟩=>⟨by omega,y⟩,?_⟩;rw[gK,if_pos hz];rcases g with⟨g1,g2,g3⟩|g
    · refine .inl ⟨g1,g2,λj=>?_⟩
      rw[g3 j]
      by_cases q:j=at'
      · subst q;rw[if_neg (by omega),if_pos (by omega),hz]
      · by_cases q2:at'+1≤j∧j<at'+1+n
        · rw[if_pos q2,if_pos (by omega)]
        · rw[if_neg q2,if_neg (by omega)]
    · exact .inr g
  · by_cases hc:D.ar=true∧D.lf=0
    · have hw:=rU (D:=D) (at':=at') (bs:=[]) (by omega) (by simp) hc
      refine⟨{D with dn:=true},⟨h.s,h.ws,h.lf⟩,hi,rfl,λp hp=> .inl hp, .inr ?_⟩;rw[gK,if_neg hz,hw,if_neg (by show ¬(4:Int)=0;decide)]
    · have h4:D.ar=false∨0<D.lf:=by
       have:=h.lf;cases q:D.ar
       · exact .inl rfl
       · right
         have:D.lf≠0:=λe=>hc ⟨q,e⟩
         omega
      have hw:=lZ (D:=D) (at':=at') (bs:=[]) (by omega) (by simp) hd h4;obtain⟨D',a,b,e,f,g⟩:=wY n (at'+1) (uW D at' []) (wL h (by simp) h4) (wM hi (by omega)) rfl (by omega) (by omega);refine⟨D',a,b,e.trans rfl,λp hp=>?_,?_⟩
      · rcases f p hp with q| ⟨x,y⟩
        · rcases bS.1 q with q|q
          · exact .inl q
          · rw[bR]at q;subst q
            exact .inr ⟨Int.le_refl _,xP⟩
        · exact .inr ⟨by omega,y⟩
      rw[gK,if_neg hz,hw,if_pos rfl];rcases g with⟨g1,g2,g3⟩|g
      · refine .inl ⟨g1,g2,λj=>?_⟩
        rw[g3 j,uV,xP]
        by_cases q:j=at'
        · subst q;rw[if_neg (by omega),if_pos rfl,if_pos (by omega)]
        · rw[if_neg q]
          by_cases q2:at'+1≤j∧j<at'+1+n
          · rw[if_pos q2,if_pos (by omega)]
          · rw[if_neg q2,if_neg (by omega)]
      · exact .inr g
def Rests(D:DS)(ls:List (List UInt8))(Q:List UInt8→Prop):Prop:=LogD D ls∨∃bs,Q bs∧Dirt D ls bs
theorem Rests.arm{D:DS}{ls:List (List UInt8)}{Q:List UInt8→Prop}(h:Rests D ls Q){n:Int}(hn:n≤9223372036854775807):Rests (D.arm n) ls Q:=by
 rcases h with h| ⟨bs,q,h⟩
 · exact .inl ⟨Rq h.ok hn,h.inn,h.ws,h.short,h.room,h.shows,h.zero⟩
 · exact .inr ⟨bs,q,Rq h.ok hn,h.inn,h.short,h.short',h.room,h.rub,h.ws⟩
theorem Rests.crash{D:DS}{ls:List (List UInt8)}{Q:List UInt8→Prop}(h:Rests D ls Q)(mask torn n:Int):Rests (D.crash mask torn n) ls Q:=by
 rcases h with h| ⟨bs,q,h⟩
 · exact .inl (h.crash _ _ _).1
 · exact .inr ⟨bs,q,h.crash _ _ _⟩
def Qd(Q:List UInt8→Prop)(ls ls':List (List UInt8)):Prop:=ls'=ls∨∃bs,Q bs∧ls'=ls++[bs]
theorem Rests.open{D:DS}{ls:List (List UInt8)}{Q:List UInt8→Prop}(h:Rests D ls Q)(hw:D.dn=false→D.ws=[]):
 ((bJ D).err≠0∧Rests (bJ D).D ls Q)∨∃ls' D',bJ D=⟨0,ls',((cG ls':Nat):Int),D'⟩∧Qd Q ls ls'∧LogD D' ls'∧D'.dn=false:=by
 cases hd:D.dn
 case true=>
  obtain⟨e,r⟩:=Ie hd;exact .inl ⟨e,by rw[r];exact h⟩
 case false=>
 have hw:=hw hd;have hrd: ∀j,D.read j=fa D.s j:=λj=>by rw[DS.read,hw];rfl
 -- the scan
 have sc:D.Ok∧Wal.DS.In D∧∃ls',Qd Q ls ls'∧gm D.read iF 0 0=(ls',((cG ls':Nat):Int))∧Shows D.read 0 (gX 0 ls')∧cG ls≤cG ls'∧cG ls'≤2048∧∀b∈ls',b.length≤3000:=by
  rcases h with h| ⟨bs,q,h⟩
  · exact⟨h.ok,h.inn,ls, .inl rfl,h.scan,h.shows,aI _,h.room,h.short⟩
  · obtain⟨ls',a,b,c⟩:=h.rub.scan h.short h.short' h.room
    have er:D.read=fa D.s:=funext hrd;have:=uO ls bs;have:=h.room;refine⟨h.ok,h.inn,ls',a.imp id λe=>⟨bs,q,e⟩,by rw[er];exact b,by rw[er];exact c,?_⟩;rcases a with rfl|rfl
    · exact⟨by omega,by omega,h.short⟩
    · refine⟨by omega,by omega,λx hx=>?_⟩
      rcases bS.1 hx with hx|hx
      · exact h.short x hx
      · rw[bR]at hx;subst hx;exact h.short'
 obtain⟨hok,hin,ls',ha,hs,hsh,hle,hro,hshort⟩:=sc;obtain⟨D',a,b,e,f,g⟩:=wY (2048- ((cG ls':Nat):Int)).toNat ((cG ls':Nat):Int) D hok hin hd (by omega) (by omega);rcases g with⟨g1,g2,g3⟩|g
 · right
   obtain⟨s1,s2,s3,_⟩:=l5 g2
   have rd: ∀j,D'.sync.2.read j=if((cG ls':Nat):Int)≤j∧j<2048 then zs else D.read j:=λj=>by
    rw[rj g2,g3 j]
    by_cases q:((cG ls':Nat):Int)≤j∧j<2048
    · rw[if_pos q,if_pos (by omega)]
    · rw[if_neg q,if_neg (by omega)]
   refine⟨ls',D'.sync.2,Bu hs g1 s1,ha,⟨PY a,wJ b,s2,hshort,hro,λj hj=>?_,λj hj=>?_⟩,s3⟩
   · rw[rd,if_neg (by simp only[cG];omega)];exact hsh j hj
   · rw[rd]
     by_cases q:j<2048
     · rw[if_pos ⟨hj,q⟩]
     · rw[if_neg (by omega)];exact DS.In.read hin (by omega)
 · left
   rw[xR hs g (by decide)];refine⟨(by show(4:Int)≠0;decide),?_⟩;rcases h with h| ⟨bs,q,h⟩
   · exfalso
     have: ∀n at',((cG ls:Nat):Int)≤at'→gK n at' D=(0,D):=λn=>by
      induction n with
      |zero=>intro at' _;rfl
      |succ n ih=>intro at' h2;rw[gK,if_pos (h.zero _ h2),ih _ (by omega)]
     rw[this _ _ (by omega)]at g;cases g
   · refine .inr ⟨bs,q,a,b,h.short,h.short',h.room,by rw[e];exact h.rub,λp hp=>?_⟩
     rcases f p hp with q| ⟨x,y⟩
     · rw[hw]at q;cases q
     · exact⟨by omega,y⟩
end Wal
end

section
namespace Api
open Go Leg Codec Dsk Wal
theorem A4{a b:Nat}(ha:a<256)(hb:b<256)(h:UInt8.ofNat a=UInt8.ofNat b):a=b:=by
 have:=congrArg UInt8.toNat h;simp only[UInt8.toNat_ofNat']at this;omega
theorem DY: ∀(k n m:Nat) {r r':List UInt8},n≤k→tW n++r=tW m++r'→n=m∧r=r'
 |k,n,m,r,r',hk,h=>by
  by_cases h1:n<128
  · rw[nt h1]at h
    by_cases h2:m<128
    · rw[nt h2]at h
      injection h with e1 e2
      exact⟨A4 (by omega) (by omega) e1,e2⟩
    · rw[oC h2]at h
      injection h with e1 e2
      have:=A4 (by omega) (by omega) e1;omega
  · rw[oC h1]at h
    by_cases h2:m<128
    · rw[nt h2]at h
      injection h with e1 e2
      have:=A4 (by omega) (by omega) e1;omega
    · rw[oC h2]at h
      injection h with e1 e2
      have q:=A4 (by omega) (by omega) e1
      match k,hk with
      |0,hk=>omega
      |k+1,hk=>
       obtain⟨a,b⟩:=DY k (n / 128) (m / 128) (by omega) e2;exact⟨by omega,b⟩
theorem lh{a b:Int}{r r':List UInt8}(h:jg a++r=jg b++r'):a%18446744073709551616=b%18446744073709551616∧r=r':=by
 obtain⟨x,y⟩:=DY _ _ _ (aI _) h;exact⟨by omega,y⟩
theorem yt{a b:Int}{r r':List UInt8}(ha:wu a)(hb:wu b)(h:jg a++r=jg b++r'):a=b∧r=r':=by
 obtain⟨x,y⟩:=lh h;unfold wu at ha hb;exact⟨by omega,y⟩
theorem yq: ∀{a b:List Int} {r r':List UInt8},a.length=b.length→WF a→WF b→bj a++r=bj b++r'→a=b∧r=r'
 | [],[],_,_,_,_,_,h=>⟨rfl,h⟩
 | [],_::_,_,_,hl,_,_,_=>by cases hl
 |_::_,[],_,_,hl,_,_,_=>by cases hl
 |x::a,y::b,r,r',hl,ha,hb,h=>by
  rw[fe,fe,aG,aG]at h;obtain⟨e1,e2⟩:=yt (wZ (ha x (cC ..))) (wZ (hb y (cC ..))) h;obtain⟨e3,e4⟩:=yq (by simpa using hl) (λn hn=>ha n (cU _ hn)) (λn hn=>hb n (cU _ hn)) e2;exact⟨by rw[e1,e3],e4⟩
structure SameR(x y:RowT):Prop where
 version:x.version=y.version
 cells:x.cells=y.cells
 heir: ∀(i:Nat) (h:i<5),x.heir[i]=y.heir[i]
 left: ∀(i:Nat) (h:i<5),(0:Int)<y.heir[i]→x.left[i]=y.left[i]
theorem Ap{x y:RowT}[hx:OkRow x][hy:OkRow y]{r r':List UInt8}: ∀(m i:Nat),i+m=5→ek x m i++r=ek y m i++r'→(∀j (h:j<5),i≤j→x.heir[j]=y.heir[j]∧(0<y.heir[j]→x.left[j]=y.left[j]))∧r=r'
 |0,i,hi,h=>⟨λj hj q=>by omega,h⟩
 |m+1,i,hi,h=>by
  have h5:i<5:=by omega
  simp only[ek,dif_pos h5,aG]at h;obtain⟨e1,e2⟩:=yt (hx.heir i h5) (hy.heir i h5) h
  have key:(0<y.heir[i]→x.left[i]=y.left[i])∧ek x m (i+1)++r=ek y m (i+1)++r':=by
   rw[e1]at e2;split at e2
   · obtain⟨e3,e4⟩:=yq (by rw[cv,cv];simp) (nB λk hk=>hx.left i k h5 hk) (nB λk hk=>hy.left i k h5 hk) e2
     exact⟨λ_=>Aq e3,e4⟩
   · rename_i q;exact⟨λz=>absurd z q,by simpa using e2⟩
  obtain⟨a,b⟩:=Ap m (i+1) (by omega) key.2;refine⟨λj hj q=>?_,b⟩
  by_cases e:j=i
  · subst e;exact⟨e1,key.1⟩
  · exact a j hj (by omega)
theorem LI{x y:RowT}[hx:OkRow x][hy:OkRow y]{r r':List UInt8}(h:eS x++r=eS y++r'):SameR x y∧r=r':=by
 unfold eS at h;simp only[aG]at h;obtain⟨e1,e2⟩:=yt hx.version hy.version h;obtain⟨e3,e4⟩:=yq (by rw[cv,cv];simp) (nB hx.cells) (nB hy.cells) e2;obtain⟨a,b⟩:=Ap 5 0 rfl e4;exact⟨⟨e1,Aq e3,λi hi=>(a i hi (aN _)).1,λi hi=>(a i hi (aN _)).2⟩,b⟩
def Logs(e:LD)(ls:List (List UInt8))(Q:List UInt8→Prop):Prop:=(e.D.dn=false∧LogD e.D ls∧e.cnt=ls.length∧e.used=((cG ls:Nat):Int))∨(e.D.dn=true∧∃bs,Q bs∧Half e.D ls bs)
theorem JG{e:LD}(h:e.D.dn=true)(hu:0≤e.used)(bs:List UInt8):(e.put bs).2≠0∧(e.put bs).1=e:=by
 have hw: ∀at' b,(e.D.write at' b).2=e.D∧(e.D.write at' b).1≠0:=λat' b=>by
  unfold DS.write;split
  · exact⟨rfl,by show(5:Int)≠0;decide⟩
  · rw[if_pos (.inl h)]
    refine⟨?_,by show(4:Int)≠0;decide⟩;show {e.D with dn:=true}=e.D;rw[←h]
 unfold LD.put lQ
 by_cases h3:3000<bs.length
 · rw[if_pos h3];exact⟨by show(2:Int)≠0;decide,rfl⟩
 rw[if_neg h3]
 by_cases h4:(be bs.length:Int)>2048-e.used
 · rw[if_pos h4];exact⟨by show(3:Int)≠0;decide,rfl⟩
 rw[if_neg h4]
 obtain⟨s,ss,hs⟩: ∃s ss,bl ((e.cnt+1:Nat):Int) bs=s::ss:=by
  cases q:bl ((e.cnt+1:Nat):Int) bs with
  |nil=>have:=cE ((e.cnt+1:Nat):Int) bs;rw[q]at this;have:=mu bs.length;simp at*;omega
  |cons s ss=>exact⟨s,ss,rfl⟩
 have e1:gf (bl ((e.cnt+1:Nat):Int) bs) e.used e.D=e.D.write e.used s:=by
  rw[hs,gf,if_neg (hw _ _).2]
 rw[e1];simp only;rw[if_pos (hw _ _).2];exact⟨(hw _ _).2,by show LD.mk e.cnt e.used (e.D.write e.used s).2=e;rw[(hw _ _).1]⟩
theorem Logs.put{e:LD}{ls:List (List UInt8)}{Q:List UInt8→Prop}(h:Logs e ls Q)(he:e.Ok){bs:List UInt8}(hb:bs.length≤3000)(hq:Q bs):
 ((e.put bs).2=0∧∀R,Logs (e.put bs).1 (ls++[bs]) R)∨((e.put bs).2≠0∧Logs (e.put bs).1 ls Q):=by
 rcases h with⟨hd,hl,hc,hu⟩| ⟨hd,b,q,hh⟩
 · have eq:e.put bs=(⟨(lQ e.D ls.length ((cG ls:Nat):Int) bs).cnt,(lQ e.D ls.length ((cG ls:Nat):Int) bs).used,(lQ e.D ls.length ((cG ls:Nat):Int) bs).D⟩,(lQ e.D ls.length ((cG ls:Nat):Int) bs).err):=by
    unfold LD.put;rw[hc,hu]
   rcases JE hl hd hb with⟨_,r⟩| ⟨_,D',r,l,d,_⟩| ⟨_,D',r,l⟩
   · rw[eq,r]
     exact .inr ⟨by show(3:Int)≠0;decide, .inl ⟨hd,hl,rfl,rfl⟩⟩
   · rw[eq,r]
     exact .inl ⟨rfl,λ_=> .inl ⟨d,l,by simp,rfl⟩⟩
   · have w:=Rs (bl ((ls.length+1:Nat):Int) bs) ((cG ls:Nat):Int) e.D hl.ok hl.inn (by omega) (by rw[cE];have:=l.room;omega) (nd _ _)
     have dn:D'.dn=true:=by
      have r2:=r;unfold lQ at r2;have:=l.room;rw[if_neg (by omega),if_neg (by omega)]at r2;simp only at r2;rcases w.2.2 with⟨w1,_⟩| ⟨_,_,w0,w1⟩
      · rw[hd]at w1;cases w1
      · split at r2
        · rename_i z
          injection r2 with _ _ _ r3
          rw[←r3];exact w1 z
        · rename_i z
          have z:_=(0:Int):=Decidable.not_not.1 z;have:=(l5 (w0 z)).1;rw[if_neg (by rw[this];decide)]at r2;injection r2 with r3
          cases r3
     rw[eq,r];exact .inr ⟨by show(4:Int)≠0;decide, .inr ⟨dn,bs,hq,l⟩⟩
 · obtain⟨a,b'⟩:=JG hd he.used.1 bs
   exact .inr ⟨a,by rw[b'];exact .inr ⟨hd,b,q,hh⟩⟩
theorem Logs.mono{e:LD}{ls:List (List UInt8)}{Q R:List UInt8→Prop}(h:Logs e ls Q)(hr: ∀b,Q b→R b):Logs e ls R:=h.imp id λ⟨a,b,c,d⟩=>⟨a,b,hr b c,d⟩
theorem Logs.crash{e:LD}{ls:List (List UInt8)}{Q:List UInt8→Prop}(h:Logs e ls Q)(mask torn n:Int):Rests (e.D.crash mask torn n) ls Q:=by
 rcases h with⟨_,h,_⟩| ⟨_,bs,q,h⟩
 · exact .inl (h.crash _ _ _).1
 · exact .inr ⟨bs,q,h.dirt _ _ _⟩
theorem Logs.arm{e:LD}{ls:List (List UInt8)}{Q:List UInt8→Prop}(h:Logs e ls Q){n:Int}(hn:n≤9223372036854775807):Logs {e with D:=e.D.arm n} ls Q:=by
 rcases h with⟨a,h,b⟩| ⟨a,bs,q,h⟩
 · exact .inl ⟨a,⟨Rq h.ok hn,h.inn,h.ws,h.short,h.room,h.shows,h.zero⟩,b⟩
 · exact .inr ⟨a,bs,q,⟨Rq h.ok hn,h.inn,h.short,h.short',h.room,h.shows,h.zero,h.ws⟩⟩
theorem vC{D:DS}(hD:Whole D.s): ∀k,k≤2048→Calm (iC D k)∧∀j,(iC D k).read j=if 0≤j∧j< ((k:Nat):Int)then fa D.s j else zs
 |0,_=>⟨Calm.new,λj=>by rw[if_neg (by omega)];rfl⟩
 |k+1,hk=>by
  obtain⟨c,r⟩:=vC hD k (by omega);rw[iC];split
  · rename_i z
    refine⟨c,λj=>?_⟩;rw[r]
    by_cases q:j=((k:Nat):Int)
    · subst q;rw[if_neg (by omega),if_pos (by omega),z]
    · by_cases q2:0≤j∧j< ((k:Nat):Int)
      · rw[if_pos q2,if_pos (by omega)]
      · rw[if_neg q2,if_neg (by omega)]
  · have hl:=cp hD ((k:Nat):Int)
    have hw:=lZ (D:=iC D k) (at':=((k:Nat):Int)) (bs:=fa D.s ((k:Nat):Int)) (by omega) (by omega) c.dn (.inl c.ar);rw[hw];refine⟨c.put (by omega) (by omega),λj=>?_⟩;show(uW _ _ _).read j=_;rw[uV,Ac hl,r]
    by_cases q:j=((k:Nat):Int)
    · subst q;rw[if_pos rfl,if_pos (by omega)]
    · rw[if_neg q]
      by_cases q2:0≤j∧j< ((k:Nat):Int)
      · rw[if_pos q2,if_pos (by omega)]
      · rw[if_neg q2,if_neg (by omega)]
theorem xi{D:DS}{ls:List (List UInt8)}{Q:List UInt8→Prop}(h:Rests D ls Q∨∃bs,Q bs∧Half D ls bs):Rests (k9 D) ls Q∧((k9 D).dn=false→(k9 D).ws=[]):=by
 have hok:D.Ok∧Wal.DS.In D:=by
  rcases h with(h| ⟨_,_,h⟩)| ⟨_,_,h⟩<;>exact⟨h.ok,h.inn⟩
 obtain⟨c,r⟩:=vC hok.1.s 2048 (aI _);obtain⟨s1,s2,s3,_⟩:=l5 c.dn;have c2:=c.sync
 have rd: ∀j,(k9 D).read j=fa D.s j:=λj=>by
  show(iC D 2048).sync.2.read j=_;rw[rj c.dn,r];split
  · rfl
  · rename_i q
    have: ∀(s:fK),Wal.In s→fa s j=zs:=λs hs=>by
     induction s with
     |nil=>rfl
     |cons p s ih=>
      obtain⟨a,b⟩:=p;have:=hs (a,b) (cC ..);rw[fa,if_neg (by intro e;subst e;exact q this)];exact ih λx hx=>hs x (cU _ hx)
    exact(this _ hok.2.1).symm
 have sg: ∀j,fa (k9 D).s j=fa D.s j:=λj=>by
  rw[←rd,DS.read,show(k9 D).ws=[]from s2];rfl
 refine⟨?_,λ_=>s2⟩;rcases h with(h| ⟨bs,q,h⟩)| ⟨bs,q,h⟩
 · refine .inl ⟨c2.ok,c2.inn,s2,h.short,h.room,λj hj=>?_,λj hj=>?_⟩
   · rw[rd,←h.rds];exact h.shows j hj
   · rw[rd,←h.rds];exact h.zero j hj
 · refine .inr ⟨bs,q,c2.ok,c2.inn,h.short,h.short',h.room,⟨λj=>?_,λj hj=>?_,λi hi=>?_,λj hj=>?_⟩,λp hp=>?_⟩
   · rw[sg];exact h.rub.len j
   · rw[sg];exact h.rub.shows j hj
   · rw[sg];exact h.rub.worn i hi
   · rw[sg];exact h.rub.rest j hj
   · have hp:p∈(iC D 2048).sync.2.ws:=hp
     rw[s2]at hp;cases hp
 · refine .inl ⟨c2.ok,c2.inn,s2,h.short,by have:=h.room;omega,λj hj=>?_,λj hj=>?_⟩
   · rw[rd];exact h.shows j hj
   · rw[rd];exact h.zero j hj
variable {key:Nat}
theorem vj{bs:List UInt8}(h:(cW bs).2=0):bs=dF (cW bs).1∧(0≤(cW bs).1.kind∧(cW bs).1.kind<6)∧TameR (cW bs).1.row:=by
 unfold cW at h ⊢;split
 · rename_i m q
   obtain⟨a,_,b,_,c⟩:=xF q;exact⟨by rw[a,aR],b,c⟩
 · rename_i q
   split at h
   · rename_i m q2;exact absurd q2 (q m)
   · exact absurd h (by decide)
theorem rz{bs:List UInt8}(h:(eT bs).2=0):bs=cq (eT bs).1∧(0≤(eT bs).1.kind∧(eT bs).1.kind<10)∧TameR (eT bs).1.row:=by
 unfold eT at h ⊢;split
 · rename_i m q
   obtain⟨a,_,b,_,c⟩:=xV q;exact⟨by rw[a,aR],b,c⟩
 · rename_i q
   split at h
   · rename_i m q2;exact absurd q2 (q m)
   · exact absurd h (by decide)
theorem JL{x:RowT}(h:TameR x):OkRow x:=OkRow.of h.wf
theorem PB(a:Int)(r:List UInt8):bj [a]++r=jg a++r:=by rw[fe,iG,aR]
theorem PA(a b:Int)(r:List UInt8):bj [a,b]++r=jg a++(jg b++r):=by rw[fe,fe,iG,aR,aG]
theorem vg{m:RecT}(h:0≤m.kind∧m.kind<6): ∃r,dF m=jg m.kind++r:=by
 unfold dF
 repeat' split
 all_goals first| (exfalso;omega)| (simp only[fe,aG];exact⟨_,rfl⟩)
theorem vh{m:MsgT}(h:0≤m.kind∧m.kind<10): ∃r,cq m=jg m.kind++r:=by
 unfold cq
 repeat' split
 all_goals first| (simp only[fe,aG];exact⟨_,rfl⟩)| (exfalso;rename_i a _ b _ _ _ _;have:=yf a b;omega)
theorem tX{m:RecT}(k:m.kind=0):dF m=jg 0++eS m.row:=by unfold dF;rw[if_pos k,k];exact PB _ _
theorem yu{m:MsgT}{k:Int}(e:m.kind=k)(h:k=0∨k=2∨k=9):cq m=jg k++(jg m.whose++eS m.row):=by
 unfold cq;rw[e,if_pos (by rcases h with rfl|rfl|rfl<;>rfl)];exact PA _ _ _
variable {s:MS LD}
theorem IZ{x:Slot}{s:MS LD}(h:x.run=some s)(n:Int):uo x n= {x with run:=some (s.dsk (s.e.D.arm n))}:=by unfold uo;rw[h]
theorem I0{x:Slot}(h:x.run=none)(n:Int):uo x n= {x with D:=x.D.arm n}:=by unfold uo;rw[h]
theorem CK{x:Slot}{s:MS LD}(h:x.run=some s)(i:Nat):(il i x).1=x:=by unfold il;rw[h]
theorem CM{x:Slot}(h:x.run=none)(i:Nat):(il i x).1= {x with run:=(cD i x.D).1,D:=(bJ x.D).D}:=by unfold il;rw[h]
theorem Fs(i:Nat):pT i=Slot.mk (cD i DS.new).1 (bJ DS.new).D []:=by
 show(il i .nil).1=_;unfold il;show Slot.mk (cD i DS.new).1 _ _=_;rfl
theorem NU(A:Option (MS LD))(B:DS)(C:List ReplyT):(Slot.mk A B C).run=A∧(Slot.mk A B C).D=B:=⟨rfl,rfl⟩
theorem sv{i:Nat}(hi:i<5):(CL.new.at' i).run=(cD i DS.new).1∧(CL.new.at' i).D=(bJ DS.new).D:=by
 have e:CL.new.at' i=pT i:=by simp[CL.new,CL.at',List.getD_eq_getElem?_getD,hi]
 rw[e,Fs];exact NU _ _ _
end Api
end

section
namespace Api
open Go Leg Codec Dsk Wal
theorem G5{m:RecT}(hk:m.kind=0∨m.kind=1)(h:OkRc m)(hr:eH m.row=true):cW (dF (qa m))=(qa m,0):=KB h (by unfold wx;rw[if_pos hk];exact hr)
theorem G4{y:RowT}(hy:TameR y)(hr:eH y=true):cW (dF (dT y))=(dT y,0):=by
 have h:OkRc (dT y):=⟨(by show(0:Int)≤0∧(0:Int)<6;decide),(by show(0:Int)≤0∧(0:Int)<5;decide),hy,wN, .zero, .zero, .zero⟩;have e:=G5 (m:=dT y) (.inl rfl) h hr;have n:qa (dT y)=dT y:=by unfold qa;rw[if_pos (show(dT y).kind=0 from rfl)];rfl
 rwa [n]at e
theorem Mf{w:Int}(hw:0≤w∧w<5){y:RowT}(hy:TameR y)(hr:eH y=true):cW (dF (fq w y))=(fq w y,0):=by
 have h:OkRc (fq w y):=⟨(by show(0:Int)≤1∧(1:Int)<6;decide),hw,hy,wN, .zero, .zero, .zero⟩;have e:=G5 (m:=fq w y) (.inr rfl) h hr;have n:qa (fq w y)=fq w y:=by unfold qa;rw[if_neg (show ¬(fq w y).kind=0 by show ¬(1:Int)=0;decide),if_pos (show(fq w y).kind=1 from rfl)];rfl
 rwa [n]at e
theorem yy{bs:List UInt8}(h:(cW bs).2=0):eH (cW bs).1.row=true:=by
 rcases yz bs with⟨m,e,_,r,_⟩|e
 · rw[e];exact r
 · rw[e]at h;exact absurd h (by decide)
theorem F2{bs:List UInt8}(h:(eT bs).2=0):eH (eT bs).1.row=true:=by
 rcases Ea bs with⟨m,e,_,r,_⟩|e
 · rw[e];exact r
 · rw[e]at h;exact absurd h (by decide)
theorem vk{bs:List UInt8}(h:(cW bs).2≠0):(cW bs).1= .zero:=by
 rcases yz bs with⟨m,e,_⟩|e
 · rw[e]at h;exact absurd rfl h
 · rw[e]
theorem Bj{y:RowT}[OkRow y](h:(cW (dF (dT y))).2=0):(cW (dF (dT y))).1.kind=0∧(cW (dF (dT y))).1.row.version=y.version:=by
 obtain⟨e,k,t⟩:=vj h;have:=JL t;generalize (cW (dF (dT y))).1=m at*;have e:jg 0++eS y=dF m:=(tX (m:=dT y) rfl).symm.trans e
 by_cases k0:m.kind=0
 · refine⟨k0,?_⟩
   rw[tX k0]at e;have e:=(lh e).2;rw[←aR (eS y),←aR (eS m.row)]at e;exact(LI e).1.version.symm
 · exfalso
   obtain⟨r,e2⟩:=vg k;rw[e2]at e;have:=(lh e).1;omega
theorem Jx{w:Int}(hw:0≤w∧w<5){x:RowT}(h:(eT (cq {MsgT.zero with kind:=0,whose:=w,row:=x})).2=0)(hk:(eT (cq {MsgT.zero with kind:=0,whose:=w,row:=x})).1.kind=0):
 (eT (cq {MsgT.zero with kind:=0,whose:=w,row:=x})).1.whose=w∧cW (dF (dT x))=(dT (eT (cq {MsgT.zero with kind:=0,whose:=w,row:=x})).1.row,0):=by
 obtain⟨e,_,t⟩:=rz h;have r:=F2 h
 have hq:0≤(eT (cq {MsgT.zero with kind:=0,whose:=w,row:=x})).1.whose∧(eT (cq {MsgT.zero with kind:=0,whose:=w,row:=x})).1.whose<5:=by
  rcases Ea (cq {MsgT.zero with kind:=0,whose:=w,row:=x})with⟨m,e,_,_,_,q⟩|e
  · rw[e];exact(xV q).2.2.2.1
  · rw[e];exact⟨by decide,by decide⟩
 generalize (eT (cq {MsgT.zero with kind:=0,whose:=w,row:=x})).1=q at*;have e1:cq q=jg 0++(jg q.whose++eS q.row):=yu hk (.inl rfl);have e2:cq {MsgT.zero with kind:=0,whose:=w,row:=x}=jg 0++(jg w++eS x):=yu rfl (.inl rfl);rw[e1,e2]at e;obtain⟨a,b⟩:=lh (lh e).2;refine⟨by omega,?_⟩
 have e3:dF (dT x)=dF (dT q.row):=by
  rw[tX rfl,tX rfl];show jg 0++eS x=jg 0++eS q.row;rw[b]
 rw[e3];exact G4 t r
inductive GL(R:Int→Int→RowT→Prop)(j:Int):List (List UInt8)→Int→List RowT→Prop
 |nil:GL R j [] 0 []
 |own {ls:List (List UInt8)} {v:Int} {l:List RowT} {b:List UInt8} {w:Int}:GL R j ls v l→v<w→w≤v+5→((cW b).2=0→(cW b).1.kind=0∧(cW b).1.row.version=w)→GL R j (ls++[b]) w (l++[(cW b).1.row])
 |oth {ls:List (List UInt8)} {v:Int} {l:List RowT} {b:List UInt8}:GL R j ls v l→((cW b).2=0→(cW b).1.kind≠0∧((cW b).1.kind=1→R (cW b).1.whose j (cW b).1.row))→GL R j (ls++[b]) v l
section
variable {R S:Int→Int→RowT→Prop} {j v:Int} {ls:List (List UInt8)} {l:List RowT}
theorem GL.mono(h:GL R j ls v l)(hs: ∀i y,R i j y→S i j y):GL S j ls v l:=by
 induction h with
 |nil=>exact .nil
 |own _ h1 h2 h3 ih=>exact .own ih h1 h2 h3
 |oth _ h1 ih=>exact .oth ih λq=>⟨(h1 q).1,λk=>hs _ _ ((h1 q).2 k)⟩
theorem GL.num(h:GL R j ls v l):0≤v∧v≤5* ((ls.length:Nat):Int):=by
 induction h with
 |nil=>exact⟨by decide,by decide⟩
 |own _ h1 h2 _ ih=>rw[ai,fc];omega
 |oth _ _ ih=>rw[ai,fc];omega
theorem GL.le(h:GL R j ls v l): ∀y∈l,y.version≤v:=by
 induction h with
 |nil=>intro y hy;cases hy
 | @own ls v l b w g h1 h2 h3 ih=>
  intro y hy;have:=g.num;rcases bS.1 hy with hy|hy
  · have:=ih y hy;omega
  · rw[bR]at hy;subst hy
    by_cases q:(cW b).2=0
    · rw[(h3 q).2];exact Int.le_refl _
    · rw[vk q];show(0:Int)≤w;omega
 |oth _ _ ih=>exact ih
theorem GL.right(h:GL R j ls v l): ∀y∈l,eH y=true:=by
 induction h with
 |nil=>intro y hy;cases hy
 | @own ls v l b w g h1 h2 h3 ih=>
  intro y hy;rcases bS.1 hy with hy|hy
  · exact ih y hy
  · rw[bR]at hy;subst hy
    by_cases q:(cW b).2=0
    · exact yy q
    · rw[vk q];exact ou
 |oth _ _ ih=>exact ih
theorem GL.one(h:GL R j ls v l): ∀y∈l,∀z∈l,0<y.version→y.version=z.version→y=z:=by
 induction h with
 |nil=>intro y hy;cases hy
 | @own ls v l b w g h1 h2 h3 ih=>
  have le:=g.le
  have big:0< (cW b).1.row.version→(cW b).1.row.version=w:=λp=>by
   by_cases q:(cW b).2=0
   · exact(h3 q).2
   · rw[vk q]at p;exact absurd p (by decide)
  intro y hy z hz p e;rcases bS.1 hy with hy|hy<;>rcases bS.1 hz with hz|hz
  · exact ih y hy z hz p e
  · rw[bR]at hz;subst hz
    have:=big (by omega);have:=le y hy;omega
  · rw[bR]at hy;subst hy
    have:=big p;have:=le z hz;omega
  · rw[bR]at hy hz;rw[hy,hz]
 |oth _ _ ih=>exact ih
def Qg(R:Int→Int→RowT→Prop)(j v:Int)(b:List UInt8):Prop:=(cW b).2=0→((cW b).1.kind=0∧v< (cW b).1.row.version∧(cW b).1.row.version≤v+5)∨((cW b).1.kind≠0∧((cW b).1.kind=1→R (cW b).1.whose j (cW b).1.row))
theorem Qg.mono{b:List UInt8}(h:Qg R j v b)(hs: ∀i y,R i j y→S i j y):Qg S j v b:=λq=>(h q).imp id λ⟨a,k⟩=>⟨a,λe=>hs _ _ (k e)⟩
theorem GL.add(h:GL R j ls v l){b:List UInt8}(q:Qg R j v b): ∃w l',GL R j (ls++[b]) w l'∧l<+:l'∧v≤w:=by
 by_cases d:(cW b).2=0
 · rcases q d with⟨k,h1,h2⟩| ⟨k,h1⟩
   · exact⟨_,_,h.own h1 h2 λ_=>⟨k,rfl⟩,List.prefix_append _ _,by omega⟩
   · exact⟨_,_,h.oth λ_=>⟨k,h1⟩,List.prefix_refl _,Int.le_refl _⟩
 · exact⟨_,_,h.oth λz=>absurd z d,List.prefix_refl _,Int.le_refl _⟩
def MR(R:Int→Int→RowT→Prop)(j i:Int)(y:RowT):Prop:=y= .zero∨(R i j y∧0<y.version)
def OwnIn(l:List RowT)(x:RowT):Prop:=(cW (dF (dT x))).2=0→(cW (dF (dT x))).1.row.version≤0∨(cW (dF (dT x))).1.row∈l
theorem MR.mono{i:Int}{y:RowT}(h:MR R j i y)(hs: ∀i y,R i j y→S i j y):MR S j i y:=h.imp id λ⟨a,b⟩=>⟨hs _ _ a,b⟩
theorem MR.pos{i:Int}{y:RowT}(h:MR R j i y):0≤y.version:=by
 rcases h with rfl| ⟨_,h⟩
 · exact Int.le_refl _
 · omega
theorem OwnIn.zero:OwnIn l .zero:=λq=> .inl (by rw[(Bj q).2];exact Int.le_refl _)
theorem Du{m:MirT}(h: ∀(i:Nat) (_:i<5),MR R j ((i:Nat):Int) m.rows[i]){w:Int}{y:RowT}(hy:0<y.version→R w j y): ∀(i:Nat) (_:i<5),MR R j ((i:Nat):Int) (kf m w y).1.rows[i]:=by
 unfold kf;split
 · rename_i t
   unfold kG at t;simp only[av]at t;obtain⟨⟨⟨hw,_⟩,_⟩,hv⟩:=t;have hv:y.version>(cb m w).version:=of_decide_eq_true hv;have hn:0≤w∧w<5:=of_decide_eq_true hw
   have p:0≤(cb m w).version:=by
    unfold cb;rw[dif_pos hw];exact(h w.toNat (fm hw)).pos
   unfold u7;rw[dif_pos hw];intro i hi;rw[Vector.getElem_set];split
   · rename_i e
     subst e;rw[show((w.toNat:Nat):Int)=w by omega];exact .inr ⟨hy (by omega),by omega⟩
   · exact h i hi
 · exact h
theorem Ag(m:MirT)(w:Int):(jR m w).rows=m.rows:=by unfold jR;split<;>rfl
theorem si{δ:Type}(b:List UInt8): ∀(ls:List (List UInt8)) (s:MS δ),iD (ls++[b]) s=(match iD ls s with
 |none=>none
 |some t=>if(cW b).2≠0 then none else some (iN t (cW b).1))
 | [],s=>by
  show iD [b] s=_;rw[iD,iD];split
  · rfl
  · rw[iD]
 |c::ls,s=>by
  show iD (c::(ls++[b])) s=_;rw[iD,iD];split
  · rfl
  · exact si b ls _
theorem HN{b:List UInt8}(h:(cW b).2=0)(hk:(cW b).1.kind=5):1≤(cW b).1.view.epoch:=by
 have: ∃r,di b=some (((cW b).1,true),r):=by
  unfold cW at h ⊢;split
  · rename_i m q;exact⟨[],q⟩
  · rename_i q
    split at h
    · rename_i m q2;exact absurd q2 (q m)
    · exact absurd h (by decide)
 obtain⟨r,q⟩:=this;obtain⟨_,o,_⟩:=xF q;unfold wx at o;rw[if_neg (by omega),if_pos hk]at o;unfold kp at o;rw[av,decide_eq_true_iff]at o;exact o.1.1
structure Knows(R:Int→Int→RowT→Prop)(j v:Int)(l:List RowT)(s:MS LD):Prop where
 ver:s.own.version=v
 own:OwnIn l s.own
 mir: ∀(i:Nat) (_:i<5),MR R j ((i:Nat):Int) s.mirror.rows[i]
 ep:1≤s.view.epoch
theorem Kl: ∀(i:Nat) (_:i<5),MR R j ((i:Nat):Int) MirT.zero.rows[i]:=λi hi=> .inl (by match i,hi with|0,_|1,_|2,_|3,_|4,_=>rfl)
theorem xG{n:Int}{e:LD}(h:GL R j ls v l): ∀s,iD ls (Bz n e)=some s→Knows R j v l s:=by
 induction h with
 |nil=>
  intro s q;obtain rfl:=cw q;exact⟨rfl, .zero,Kl,by show(1:Int)≤1;decide⟩
 | @own ls v l b w g h1 h2 h3 ih=>
  intro s q;rw[si]at q;split at q
  · cases q
  rename_i t ht;split at q
  · cases q
  rename_i d;have d:(cW b).2=0:=Decidable.not_not.1 d;obtain rfl:=cw q;obtain⟨k,kv⟩:=h3 d;obtain⟨_,_,im,ie⟩:=ih t ht;have e:iN t (cW b).1= {t with own:=(cW b).1.row,busy:=true,kept:=0}:=by unfold iN;rw[if_pos k]
  rw[e];refine⟨kv,λz=> .inr ?_,im,ie⟩;show(cW (dF (dT (cW b).1.row))).1.row∈_;rw[G4 (vj d).2.2 (yy d)];exact Ce _ (bR.2 rfl)
 | @oth ls v l b g h1 ih=>
  intro s q;rw[si]at q;split at q
  · cases q
  rename_i t ht;split at q
  · cases q
  rename_i d;have d:(cW b).2=0:=Decidable.not_not.1 d;obtain rfl:=cw q;obtain⟨k,kr⟩:=h1 d;obtain⟨iv,io,im,ie⟩:=ih t ht;unfold iN;rw[if_neg k];split
  · rename_i k1;exact⟨iv,io,Du im λ_=>kr k1,ie⟩
  split
  · exact⟨iv,io,(by show ∀(i:Nat) (_:i<5),MR R j ((i:Nat):Int) (jR t.mirror _).rows[i];rw[Ag];exact im),ie⟩
  split
  · exact⟨iv,io,im,ie⟩
  split
  · exact⟨iv,io,im,ie⟩
  split
  · rename_i k5;exact⟨iv,io,im,HN d k5⟩
  · exact⟨iv,io,im,ie⟩
end
theorem Logs.len{e:LD}{ls:List (List UInt8)}{Q:List UInt8→Prop}(h:Logs e ls Q):ls.length≤2048:=by
 have:=tA ls;rcases h with⟨_,h,_⟩| ⟨_,bs,_,h⟩
 · have:=h.room;omega
 · have:=h.room;omega
def Ha(j:Int)(l:List RowT)(x:SaidT):Prop:=(eT (cq x.msg)).2=0→(eT (cq x.msg)).1.kind=0→(eT (cq x.msg)).1.whose=j∧((eT (cq x.msg)).1.row.version≤0∨((eT (cq x.msg)).1.row∈l∧x.to'∈gJ j))
class NK(m:MsgT):Prop where
 nk:(eT (cq m)).2=0→(eT (cq m)).1.kind≠0
class NL(l:List SaidT):Prop where
 all: ∀x∈l,(eT (cq x.msg)).2=0→(eT (cq x.msg)).1.kind≠0
theorem L3{m:MsgT}(h:decide (1≤m.kind∧m.kind≤9)=true):NK m:=⟨λh1 k=>by
 have hk:=of_decide_eq_true h;obtain⟨e,_,_⟩:=rz h1;generalize (eT (cq m)).1=q at*;have e1:cq q=jg 0++(jg q.whose++eS q.row):=yu k (.inl rfl);obtain⟨r,e2⟩:=vh (m:=m) (by omega);rw[e1,e2]at e;have:=(lh e).1
 omega⟩
instance (v:Int):NK (oz v):=L3 rfl
instance (i:Int)(y:RowT):NK (pS i y):=L3 rfl
instance (v:ViewT):NK (jx v):=L3 rfl
instance (i:Int)(v:ViewT):NK (nf i v):=L3 rfl
instance (i:Int)(y:RowT):NK (fZ i y):=L3 rfl
instance (e:Int)(b:BallotT):NK (fJ e b):=L3 rfl
instance (e:Int)(b h:BallotT)(c:ChangeT):NK (kd e b h c):=L3 rfl
instance (e:Int)(b:BallotT)(c:ChangeT):NK (iT e b c):=L3 rfl
instance (e:Int)(b:BallotT):NK (ja e b):=L3 rfl
instance (t:Int)(m:MsgT)[h:NK m]:NL [⟨t,m⟩]:=⟨λx hx=>by rw[bR]at hx;subst hx;exact h.nk⟩
instance (i:Int)(m:MsgT)(p:Nat→Bool)(k:Nat)[h:NK m]:NL (nj i m p k):=⟨λx hx=>by
 unfold nj at hx;obtain⟨j,_,rfl⟩:=dQ.1 hx
 exact h.nk⟩
class TS(R:Int→Int→RowT→Prop)(l0:List RowT)(s:MS LD):Prop where
 mir: ∀(i:Nat) (_:i<5),MR R s.id ((i:Nat):Int) s.mirror.rows[i]
 ep:1≤s.view.epoch
 log: ∃ls l,l0<+:l∧Logs s.e ls (Qg R s.id s.own.version)∧GL R s.id ls s.own.version l∧OwnIn l s.own∧∀x∈s.o,Ha s.id l x
section
variable {R:Int→Int→RowT→Prop} {l0:List RowT} {s:MS LD}
theorem TS.bd(h:TS R l0 s):0≤s.own.version∧s.own.version≤10240:=by
 obtain⟨ls,l,_,a,b,_⟩:=h.log;have:=b.num;have:=a.len;omega
theorem TS.same{t:MS LD}(h:TS R l0 s)(h0:t.id=s.id)(h1:t.own=s.own)(h2:t.mirror.rows=s.mirror.rows)(h3:t.view=s.view)(h4:t.o=s.o)(h5:t.e=s.e):TS R l0 t:=⟨by rw[h0,h2];exact h.mir,by rw[h3];exact h.ep,by rw[h0,h1,h4,h5];exact h.log⟩
theorem w8[ok:OkR KD s][h:TS R l0 s]{r:RecT}(hr:(cW (dF r)).2=0→(cW (dF r)).1.kind≠0∧((cW (dF r)).1.kind=1→R (cW (dF r)).1.whose s.id (cW (dF r)).1.row)):TS R l0 (dw KD s r):=⟨h.mir,h.ep,by
 obtain⟨ls,l,p,a,b,c,d⟩:=h.log;rcases a.put (bs:=dF r) ok.e (tY r) (λq=> .inr (hr q))with⟨_,q⟩| ⟨_,q⟩
 · exact⟨_,l,p,q _,b.oth hr,c,d⟩
 · exact⟨ls,l,p,q,b,c,d⟩⟩
theorem GH{m:RecT}(hk:m.kind=2∨m.kind=3∨m.kind=4∨m.kind=5): ∀j,(cW (dF m)).2=0→(cW (dF m)).1.kind≠0∧((cW (dF m)).1.kind=1→R (cW (dF m)).1.whose j (cW (dF m)).1.row):=λj h=>by
 obtain⟨e,_,_⟩:=vj h;generalize (cW (dF m)).1=q at*;obtain⟨r',e2⟩:=vg (m:=m) (by omega)
 have no:q.kind=0∨q.kind=1→False:=λk=>by
  obtain⟨r,e1⟩:=vg (m:=q) (by omega);rw[e1,e2]at e;have:=(lh e).1;omega
 exact⟨λk=>no (.inl k),λk=>(no (.inr k)).elim⟩
instance [OkR KD s][TS R l0 s](w:Int):TS R l0 (dw KD s (gS w)):=w8 (GH (.inl rfl) _)
instance [OkR KD s][TS R l0 s](v:ViewT):TS R l0 (dw KD s (j7 v)):=w8 (GH (.inr (.inr (.inr rfl))) _)
instance [OkR KD s][TS R l0 s](e:Int)(b:BallotT):TS R l0 (dw KD s (gZ e b)):=w8 (GH (.inr (.inl rfl)) _)
instance [OkR KD s][TS R l0 s](e:Int)(b:BallotT)(c:ChangeT):TS R l0 (dw KD s (lr e b c)):=w8 (GH (.inr (.inr (.inl rfl))) _)
theorem Ji[h:TS R l0 s](m:List SaidT)(hm: ∀l,OwnIn l s.own→∀x∈m,Ha s.id l x):TS R l0 (gE KD s m):=⟨h.mir,h.ep,by
 obtain⟨ls,l,p,a,b,c,d⟩:=h.log;refine⟨ls,l,p,a,b,c,?_⟩;show ∀x∈(if KD.dn s.e=true then s.o else s.o++m),Ha s.id l x;split
 · exact d
 · exact λx hx=>(bS.1 hx).elim (d x) (hm l c x)⟩
instance [TS R l0 s](m:List SaidT)[g:NL m]:TS R l0 (gE KD s m):=Ji m λ_ _ x hx h1 h2=>absurd h2 (g.all x hx h1)
instance [TS R l0 s](t:Int)(m:MsgT)[NK m]:TS R l0 (Bh KD s t m):=inferInstanceAs (TS R l0 (gE KD s _))
theorem GT{w:Int}(h:cH w=true):0≤w∧w<5:=of_decide_eq_true h
instance [ok:OkR KD s][h:TS R l0 s]:TS R l0 (fg KD s):=Ji _ λl c x hx h1 h2=>by
 unfold oo at hx;rw[dQ]at hx;obtain⟨w,hw,rfl⟩:=hx;have hw:=(N7.1 hw).1;obtain⟨e1,e2⟩:=Jx (x:=s.own) (GT ok.id) h1 h2;have c:=c (by rw[e2]);rw[e2]at c;exact⟨e1,c.imp id λe=>⟨e,hw⟩⟩
instance [h:TS R l0 s](f:Int):TS R l0 (iO s f):=h.same rfl rfl rfl rfl rfl rfl
instance [h:TS R l0 s]:TS R l0 (lS s):=h.same rfl rfl rfl rfl rfl rfl
instance [h:TS R l0 s](a b c:Int):TS R l0 (dI s a b c):=h.same rfl rfl rfl rfl rfl rfl
instance [h:TS R l0 s]:TS R l0 (bP s):=h.same rfl rfl rfl rfl rfl rfl
instance [h:TS R l0 s](w:Int)(x:RowT):TS R l0 (AN s w x):=h.same rfl rfl rfl rfl rfl rfl
instance [h:TS R l0 s]:TS R l0 (gP s):=h.same rfl rfl rfl rfl rfl rfl
instance [h:TS R l0 s](w:Int):TS R l0 (jY s w):=h.same rfl rfl (Ag _ _) rfl rfl rfl
instance [h:TS R l0 s](f w:Int)(y:RowT):TS R l0 (vA s f w y):=h.same rfl rfl rfl rfl rfl rfl
instance [h:TS R l0 s](n:Int):TS R l0 (dz s n):=h.same rfl rfl rfl rfl rfl rfl
instance [h:TS R l0 s](v:VoteT):TS R l0 (lp s v):=h.same rfl rfl rfl rfl rfl rfl
instance [h:TS R l0 s](a:AccT):TS R l0 (vu s a):=h.same rfl rfl rfl rfl rfl rfl
theorem Hr[h:TS R l0 s]{w:Int}{x:RowT}(hx:0<x.version→R w s.id x):TS R l0 (hZ s w x):=⟨Du h.mir hx,h.ep,h.log⟩
theorem Jj[h:TS R l0 s]{v:ViewT}(hv:1≤v.epoch):TS R l0 (lG s v):=⟨h.mir,hv,h.log⟩
instance [TS R l0 s](y:RowT):TS R l0 (k8 KD s y):=inferInstanceAs (TS R l0 (gE KD s _))
instance [TS R l0 s](v:ViewT):TS R l0 (l4 KD s v):=inferInstanceAs (TS R l0 (gE KD s _))
instance [TS R l0 s](m:MsgT)[NK m]:TS R l0 (jt KD s m):=inferInstanceAs (TS R l0 (gE KD s _))
theorem Gt[ok:OkR KD s][h:TS R l0 s](x:RowT)[OkRow x](h1:s.own.version<x.version)(h2:x.version≤s.own.version+5)(op:Int):TS R l0 (eW KD s x op).1:=by
 obtain⟨ls,l,p,a,b,c,d⟩:=h.log
 have hq:Qg R s.id s.own.version (dF (dT x)):=λq=>by
  obtain⟨k,v⟩:=Bj q;exact .inl ⟨k,by omega,by omega⟩
 have r:=a.put (bs:=dF (dT x)) ok.e (tY _) hq;unfold eW;split
 · rename_i z
   rcases r with⟨q,_⟩| ⟨_,q⟩
   · exact absurd q z
   · exact⟨h.mir,h.ep,ls,l,p,q,b,c,d⟩
 · rename_i z
   rcases r with⟨_,q⟩| ⟨q,_⟩
   · have:TS R l0 (qT (dw KD s (dT x)) x op):=⟨h.mir,h.ep,_,_,p.trans (List.prefix_append _ _),q _,b.own h1 h2 Bj,λ_=> .inr (Ce _ (bR.2 rfl)),λy hy q1 q2=>by
      obtain⟨e1,e2⟩:=d y hy q1 q2
      exact⟨e1,e2.imp id λ⟨e3,e4⟩=>⟨List.mem_append_left _ e3,e4⟩⟩⟩
     exact inferInstanceAs (TS R l0 (fg KD (qT (dw KD s (dT x)) x op)))
   · exact absurd q z
theorem vF(x:RowT)(w v:Int)(l:Vector CellT 4):(lx x w v l).version=x.version:=by unfold lx;split<;>rfl
theorem G1{x d:RowT}{w:Int}(hw:cH w=true)(h: ¬0<fh x w)(hv:0≤x.version∧x.version≤20000):(cz x w d).1.version=x.version+1:=by
 have q: ∀k,(m7 x w d k).version=x.version:=λk=>by
  induction k with
  |zero=>exact vF _ _ _ _
  |succ k ih=>
   rw[l8];unfold ml;split
   · rw[vF];exact ih
   · exact ih
 unfold cz;rw[hw,if_neg (by decide),if_neg h];show gr ((m7 x w d 5).version+1)=_;rw[q,Je (by omega) (by omega)]
theorem yi(f:Int→RowT): ∀(l:List Int) (x:RowT),(∀i∈l,cH i=true)→0≤x.version→x.version+l.length≤20000→x.version≤(l.foldl (λx i=>if 0<fh x i then x else(cz x i (f i)).1) x).version∧(l.foldl (λx i=>if 0<fh x i then x else(cz x i (f i)).1) x).version≤x.version+l.length
 | [],_,_,_,_=>⟨Int.le_refl _,by simp⟩
 |i::l,x,hl,h0,h1=>by
  simp only[ax]at h1;rw[List.foldl_cons]
  by_cases q:0<fh x i
  · rw[if_pos q]
    have:=yi f l x (λk hk=>hl k (cU _ hk)) h0 (by omega);simp only[ax];omega
  · rw[if_neg q]
    have e:=G1 (d:=f i) (hl i (cC ..)) q ⟨h0,by omega⟩;have:=yi f l (cz x i (f i)).1 (λk hk=>hl k (cU _ hk)) (by omega) (by omega);simp only[ax];omega
theorem FH[h:TS R l0 s](hd: ¬(bE s).length=0):s.own.version< (mQ s (bE s)).version∧(mQ s (bE s)).version≤s.own.version+5:=by
 have hb:=h.bd;have hl:(bE s).length≤5:=Aw s 5;have hm: ∀i∈bE s,cH i=true∧jV s.view i=some s.id∧fh s.own i≤0:=λi hi=>ub hi
 unfold mQ;generalize bE s=l at*
 match l,hd with
 | [],hd=>exact absurd rfl hd
 |i::l,_=>
  simp only[ax]at hl;obtain⟨a,_,b⟩:=hm i (cC ..);have nb: ¬0<fh s.own i:=by omega
  rw[List.foldl_cons,if_neg nb];have e:=G1 (d:=kx s i) a nb ⟨hb.1,by omega⟩;have:=yi (λi=>kx s i) l (cz s.own i (kx s i)).1 (λk hk=>(hm k (cU _ hk)).1) (by omega) (by omega);omega
theorem JK[h:TS R l0 s](o:OpT)(hp: ¬((dm s o).2.2≠0∨o.kind=3)):(dm s o).1.version=s.own.version+1:=by
 have hb:=h.bd
 have more: ∀(k n c:Int) (u:CellT),(ld s.own k n c u).2=0→(ld s.own k n c u).1.version=s.own.version+1:=λk n c u q=>by
  unfold ld at q ⊢;split
  · rename_i z;rw[if_pos z]at q;exact absurd q (by decide)
  · show gr (s.own.version+1)=_
    exact Je (by omega) (by omega)
 have grow:(gF (s.rep .nil) o).2=0→(gF (s.rep .nil) o).1.version=s.own.version+1:=λq=>by
  unfold gF pL pM mh at q ⊢
  repeat' split
  all_goals first| (exact more _ _ _ _ (by simpa [*]using q))| (exfalso;simp[*]at q)
 have hp1:(dm s o).2.2=0:=Decidable.not_not.1 λq=>hp (.inl q)
 have hp2: ¬o.kind=3:=λq=>hp (.inr q)
 unfold dm kF at hp1 ⊢
 by_cases z1:ju (s.rep .nil).view (s.rep .nil).id=false
 · rw[if_pos z1]at hp1;exact absurd hp1 (by decide)
 rw[if_neg z1]at hp1 ⊢
 by_cases z2:np o.key=false
 · rw[if_pos z2]at hp1;exact absurd hp1 (by decide)
 rw[if_neg z2,if_neg hp2]at hp1 ⊢
 by_cases z3:(s.rep .nil).busy=true
 · rw[if_pos z3]at hp1;exact absurd hp1 (by decide)
 rw[if_neg z3]at hp1 ⊢
 by_cases z4:(gF (s.rep .nil) o).2≠0
 · rw[if_pos z4]at hp1;exact absurd hp1 z4
 rw[if_neg z4]at hp1 ⊢
 by_cases z5:o.kind≠0∧nY (s.rep .nil).book (s.rep .nil).id o.key<o.n
 · rw[if_pos z5]at hp1;exact absurd hp1 (by decide)
 rw[if_neg z5];exact grow (Decidable.not_not.1 z4)
instance [OkR KD s][h:TS R l0 s]:TS R l0 (lH KD s):=by
 unfold lH;split
 · exact h
 rename_i q;split
 · have hd: ¬(bE s).length=0:=λz=>q (by rw[decide_eq_true z,Bool.or_true])
   obtain⟨a,b⟩:=FH (R:=R) (l0:=l0) (s:=s) hd;exact Gt _ a b 0
 · exact h
instance [OkR KD s][h:TS R l0 s](f:Int)(m:MsgT):TS R l0 (dv KD s f m):=by
 unfold dv kL
 repeat' split
 all_goals first|exact h|exact inferInstance
theorem NV{w j:Int}{y:RowT}(hw:0≤w∧w<5)(ht:TameR y)(hr:eH y=true)(hy:R w j y):(cW (dF (fq w y))).2=0→(cW (dF (fq w y))).1.kind≠0∧((cW (dF (fq w y))).1.kind=1→R (cW (dF (fq w y))).1.whose j (cW (dF (fq w y))).1.row):=λ_=>by
 rw[Mf hw ht hr];exact⟨(by show(1:Int)≠0;decide),λ_=>hy⟩
theorem Nn[OkR KD s][h:TS R l0 s](f:Int)(m:MsgT)[OkMg m](ht:TameR m.row)(hm:0<m.row.version→R f s.id m.row):TS R l0 (iB KD s f m):=by
 unfold iB;split
 · exact h
 rename_i q;have ew:m.whose=f:=Decidable.not_not.1 λz=>q (.inl z)
 have pos: ∀w,0≤(cb s.mirror w).version:=λw=>by
  unfold cb;split
  · exact(h.mir _ _).pos
  · exact Int.le_refl _
 split
 · rename_i t
   have t2:=t;unfold kG at t2;simp only[av]at t2;obtain⟨⟨⟨hw,_⟩,hr⟩,hv⟩:=t2;have hv:m.row.version>(cb s.mirror m.whose).version:=of_decide_eq_true hv;have:=pos m.whose;have hy:R m.whose s.id m.row:=by rw[ew];exact hm (by omega)
   have:TS R l0 (dw KD s (fq m.whose m.row)):=w8 (NV (GT hw) ht hr hy);split
   · exact this
   · have:TS R l0 (hZ (dw KD s (fq m.whose m.row)) m.whose m.row):=Hr λ_=>hy
     exact inferInstance
 · exact inferInstance
instance [OkR KD s][h:TS R l0 s](f:Int)(m:MsgT)[OkMg m]:TS R l0 (e8 KD s f m):=by
 unfold e8;split<;>exact inferInstance
theorem qL[TS R l0 s]{f:MS LD→MS LD}(hf:TS R l0 (f s))(t:Int)(m:MsgT)[NK m]:TS R l0 (mZ KD f s t m):=by unfold mZ;split;exact hf;exact inferInstance
instance [OkR KD s][h:TS R l0 s](f w:Int):TS R l0 (eR KD s f w):=by
 unfold eR
 repeat' split
 · exact h
 · exact qL inferInstance _ _
 · exact inferInstance
 · exact qL inferInstance _ _
instance [OkR KD s][h:TS R l0 s](i w:Int):TS R l0 (gG KD s i w):=by
 unfold gG;split
 · exact h
 · exact qL inferInstance _ _
instance [OkR KD s][TS R l0 s](i:Int):TS R l0 (ma KD s i):=by unfold ma;exact inferInstance
theorem AB: ∀(l:List Int) (s:MS LD),OkR KD s→TS R l0 s→TS R l0 (gz KD l s)
 | [],_,_,h=>h
 |i::l,s,_,h=>AB l (ma KD s i) inferInstance inferInstance
instance [OkR KD s][h:TS R l0 s]:TS R l0 (p4 KD s):=AB _ _ inferInstance h
instance [OkR KD s][h:TS R l0 s](v:ViewT)[OkVw v]:TS R l0 (gN KD s v):=by
 unfold gN;split
 · exact h
 rename_i q;split
 · exact inferInstance
 · have:=h.ep
   have:TS R l0 (lG (dw KD s (j7 v)) v):=Jj (by omega);exact inferInstance
instance [OkR KD s][h:TS R l0 s](f:Int)(m:MsgT)[OkMg m]:TS R l0 (jm KD s f m):=by unfold jm;exact inferInstance
instance [OkR KD s][h:TS R l0 s](c:ChangeT):TS R l0 (jy KD s c):=by
 unfold jy
 repeat' split
 all_goals first|exact h|exact inferInstance
instance [OkR KD s][h:TS R l0 s](f:Int)(m:MsgT):TS R l0 (kC KD f m s):=by
 unfold kC;split
 · exact h
 · rename_i vt hv
   have:=OkR.vote (s:=s) (K:=KD) vt hv;split<;>exact inferInstance
theorem td[OkR KD s][h:TS R l0 s]{f:MS LD→MS LD}(hf: ∀s:MS LD,OkR KD s→TS R l0 s→TS R l0 (f s))(w:Int)(m:MsgT):TS R l0 (eU KD f s w m):=by
 unfold eU
 repeat' split
 · exact inferInstance
 · exact h
 · exact h
 · exact hf _ inferInstance inferInstance
instance [OkR KD s][TS R l0 s](w:Int)(m:MsgT):TS R l0 (pH KD s w m):=td (λ_ _ _=>inferInstance) w m
instance [OkR KD s][h:TS R l0 s](w:Int)(m:MsgT):TS R l0 (kE KD w m s):=by unfold kE;exact qL inferInstance _ _
instance [OkR KD s][h:TS R l0 s](w:Int)(m:MsgT)[OkMg m]:TS R l0 (m5 KD w m s):=by
 unfold m5
 repeat' split
 all_goals first|exact h|exact inferInstance
instance [OkR KD s][TS R l0 s](w:Int)(m:MsgT)[OkMg m]:TS R l0 (qG KD s w m):=td (λ_ _ _=>inferInstance) w m
theorem vM[OkR KD s][h:TS R l0 s]{f:MS LD→MsgT→MS LD}{m:MsgT}[NK m](hf: ∀s:MS LD,OkR KD s→TS R l0 s→TS R l0 (f s m)):TS R l0 (jc KD f s m):=by
 unfold jc;split
 · exact hf _ inferInstance inferInstance
 · exact inferInstance
instance [OkR KD s][h:TS R l0 s](vt:VoteT)[OkVt vt]:TS R l0 (jM KD s vt):=vM λ_ _ _=>inferInstance
instance [OkR KD s][h:TS R l0 s](f:Int)(m:MsgT)[OkMg m]:TS R l0 (oJ KD f m s):=by
 unfold oJ;split
 · exact h
 · rename_i vt hv
   have:=OkR.vote (s:=s) (K:=KD) vt hv;split<;>exact inferInstance
instance [OkR KD s][TS R l0 s](w:Int)(m:MsgT)[OkMg m]:TS R l0 (pI KD s w m):=td (λ_ _ _=>inferInstance) w m
theorem yK[OkR KD s][h:TS R l0 s](w:Int)(m:MsgT)[OkMg m]{a:AccT}(ha:OkAc a):TS R l0 (mD KD w m a s):=by
 have:=OkMg.promM m.epoch (m:=m) ha;unfold mD;exact qL inferInstance _ _
instance [OkR KD s][h:TS R l0 s](w:Int)(m:MsgT)[OkMg m]:TS R l0 (n4 KD w m s):=by
 unfold n4
 repeat' split
 · exact h
 · exact inferInstance
 · exact yK w m inferInstance
 · exact yK w m inferInstance
instance [OkR KD s][TS R l0 s](w:Int)(m:MsgT)[OkMg m]:TS R l0 (qH KD s w m):=td (λ_ _ _=>inferInstance) w m
instance [OkR KD s][h:TS R l0 s](vt:VoteT)[OkVt vt]:TS R l0 (lC KD s vt):=vM λ_ _ _=>inferInstance
instance [OkR KD s][h:TS R l0 s](vt:VoteT)[OkVt vt]:TS R l0 (m6 KD s vt):=by unfold m6;split<;>exact inferInstance
instance [OkR KD s][h:TS R l0 s](c:ChangeT):TS R l0 (nZ KD s c):=by unfold nZ;exact inferInstance
instance [OkR KD s][h:TS R l0 s](c:ChangeT):TS R l0 (cF KD s c).1:=by
 unfold cF
 repeat' split
 all_goals first|exact h|exact inferInstance
instance [OkR KD s][h:TS R l0 s](op:Int)(c:ChangeT)[OkCh c]:TS R l0 (dH KD s op c).1:=by
 unfold dH
 repeat' split
 all_goals exact inferInstance
theorem IR[OkR KD s][h:TS R l0 s](o:OpT)[OkCh o.change]:TS R l0 (ca KD s o).1:=by
 unfold ca;split
 · exact inferInstance
 · unfold oT
   split
   · exact inferInstance
   · rename_i q
     have e:=JK (R:=R) (l0:=l0) (s:=bP s) o q;have:TS R l0 (eW KD (bP s) (dm (bP s) o).1 (bP s).ops).1:=Gt _ (by omega) (by omega) _;split
     · exact inferInstance
     · exact this
instance [OkR KD s][h:TS R l0 s]:TS R l0 (bT KD s):=by unfold bT;split<;>exact inferInstance
instance [OkR KD s][h:TS R l0 s]:TS R l0 (cd KD s):=by unfold cd;split;exact inferInstance;exact h
instance [OkR KD s][h:TS R l0 s]:TS R l0 (gj KD s):=by unfold gj;split;exact inferInstance;exact h
instance [OkR KD s][h:TS R l0 s]:TS R l0 (o7 KD s):=by
 unfold o7;split
 · exact h
 · rename_i vt hv
   have:=OkR.vote (s:=s) (K:=KD) vt hv
   repeat' split
   all_goals first|exact h|exact inferInstance
instance [OkR KD s][h:TS R l0 s]:TS R l0 (gU KD s):=by unfold gU;split<;>exact inferInstance
theorem Lv[OkR KD s][h:TS R l0 s](f:Int)(m:MsgT)[OkMg m](ht:TameR m.row)(hm:m.kind=0→0<m.row.version→R f s.id m.row):TS R l0 (gk KD s f m):=by
 unfold gk;split
 · rename_i q;exact Nn f m ht (hm q)
 repeat' split
 all_goals first|exact h|exact inferInstance
end
def RL(Ls:Nat→List RowT)(i j:Int)(y:RowT):Prop:=j∈gJ i∧y∈Ls i.toNat
structure TM(R:Int→Int→RowT→Prop)(l:List RowT)(j:Int)(s:MS LD):Prop where
 mir: ∀(i:Nat) (_:i<5),MR R j ((i:Nat):Int) s.mirror.rows[i]
 ep:1≤s.view.epoch
 log: ∃ls,Logs s.e ls (Qg R j s.own.version)∧GL R j ls s.own.version l∧OwnIn l s.own
def TD(R:Int→Int→RowT→Prop)(l:List RowT)(j:Int)(D:DS):Prop:=∃ls v,Rests D ls (Qg R j v)∧GL R j ls v l
def TW(Ls:Nat→List RowT)(k:Nat)(m:MsgT):Prop:=(eT (cq m)).2=0→(eT (cq m)).1.kind=0→(eT (cq m)).1.whose=((k / 5:Nat):Int)∧((eT (cq m)).1.row.version≤0∨((eT (cq m)).1.row∈Ls (k / 5)∧((k%5:Nat):Int)∈gJ ((k / 5:Nat):Int)))
structure TC(Ls:Nat→List RowT)(a:CL):Prop where
 run: ∀i,i<5→∀s,(a.at' i).run=some s→TM (RL Ls) (Ls i) ((i:Nat):Int) s
 D: ∀i,i<5→(a.at' i).run=none→TD (RL Ls) (Ls i) ((i:Nat):Int) (a.at' i).D
 way: ∀k,∀m∈a.W.getD k [],TW Ls k m
def Up(Ls Ls':Nat→List RowT):Prop:=∀i,Ls i<+:Ls' i
theorem Rests.mono{D:DS}{ls:List (List UInt8)}{Q R:List UInt8→Prop}(h:Rests D ls Q)(hr: ∀b,Q b→R b):Rests D ls R:=h.imp id λ⟨b,q,d⟩=>⟨b,hr b q,d⟩
section
variable {R S:Int→Int→RowT→Prop} {l:List RowT} {j:Int}
theorem TM.mono{s:MS LD}(h:TM R l j s)(hs: ∀i y,R i j y→S i j y):TM S l j s:=⟨λi hi=>(h.mir i hi).mono hs,h.ep,by
 obtain⟨ls,a,b,c⟩:=h.log
 exact⟨ls,a.mono λ_ q=>q.mono hs,b.mono hs,c⟩⟩
theorem TD.mono{D:DS}(h:TD R l j D)(hs: ∀i y,R i j y→S i j y):TD S l j D:=by
 obtain⟨ls,v,a,b⟩:=h;exact⟨ls,v,Rests.mono a λ_ q=>q.mono hs,b.mono hs⟩
theorem TM.ts{s:MS LD}(h:TM R l j s)(hi:s.id=j)(ho:s.o=[]):TS R l s:=⟨by rw[hi];exact h.mir,h.ep,by
 obtain⟨ls,a,b,c⟩:=h.log
 exact⟨ls,l,List.prefix_refl _,by rw[hi];exact a,by rw[hi];exact b,c,λx hx=>by rw[ho]at hx;cases hx⟩⟩
theorem TM.dk{s:MS LD}(h:TM R l j s): ∃ls v,(Rests s.e.D ls (Qg R j v)∨∃bs,Qg R j v bs∧Half s.e.D ls bs)∧GL R j ls v l:=by
 obtain⟨ls,a,b,_⟩:=h.log;refine⟨ls,_,?_,b⟩;rcases a with⟨_,a,_⟩| ⟨_,a⟩
 · exact .inl (.inl a)
 · exact .inr a
theorem xa{i:Nat}{D:DS}(h:TD R l ((i:Nat):Int) D)(hw:D.dn=false→D.ws=[]): ∃l',l<+:l'∧(∀s,(cD i D).1=some s→TM R l' ((i:Nat):Int) s)∧((cD i D).1=none→TD R l' ((i:Nat):Int) (bJ D).D):=by
 obtain⟨ls,v,r,g⟩:=h;rcases r.open hw with⟨e,r⟩| ⟨ls',D',e,ad,lg,dn⟩
 · have n:(cD i D).1=none:=by unfold cD;rw[if_pos e]
   exact⟨l,List.prefix_refl _,(λs q=>by rw[n]at q;cases q),λ_=>⟨ls,v,r,g⟩⟩
 · have: ∃w l',GL R ((i:Nat):Int) ls' w l'∧l<+:l':=by
    rcases ad with rfl| ⟨bs,q,rfl⟩
    · exact⟨v,l,g,List.prefix_refl _⟩
    · obtain⟨w,l',a,b,_⟩:=g.add q
      exact⟨w,l',a,b⟩
   obtain⟨w,l',g,p⟩:=this;refine⟨l',p,λs q=>?_,λ_=>?_⟩
   · obtain⟨_,q⟩:=oq q
     rw[e]at q;have k:=xG g s q;have f:=(I7 _ (Ro _ _) q).e;refine⟨k.mir,k.ep,ls',?_,by rw[k.ver];exact g,k.own⟩;rw[f];exact .inl ⟨dn,lg,rfl,rfl⟩
   · rw[e];exact⟨ls',w, .inl lg,g⟩
end
section
variable {Ls Ls':Nat→List RowT} {a:CL}
theorem RL.mono(u:Up Ls Ls'){i j:Int}{y:RowT}(h:RL Ls i j y):RL Ls' i j y:=⟨h.1,(u _).subset h.2⟩
theorem TW.mono(u:Up Ls Ls'){k:Nat}{m:MsgT}(h:TW Ls k m):TW Ls' k m:=λq1 q2=>⟨(h q1 q2).1,(h q1 q2).2.imp id λ⟨e,w⟩=>⟨(u _).subset e,w⟩⟩
theorem TC.put(h:TC Ls a)(h5:a.ms.length=5){i:Nat}(hi:i<5){x:Slot}{W:List (List MsgT)}{l:List RowT}(p:Ls i<+:l)(h1: ∀s,x.run=some s→TM (RL Ls) l ((i:Nat):Int) s)(h2:x.run=none→TD (RL Ls) l ((i:Nat):Int) x.D)(h3: ∀Ls',Up Ls Ls'→Ls' i=l→∀k,∀m∈W.getD k [],TW Ls' k m): ∃Ls',TC Ls' ⟨a.ms.set i x,W⟩:=by
 have hl:i<a.ms.length:=by omega
 let Ls':Nat→List RowT:=λk=>if k=i then l else Ls k
 have ei:Ls' i=l:=if_pos rfl;have en: ∀j,j≠i→Ls' j=Ls j:=λj q=>if_neg q
 have u:Up Ls Ls':=λj=>by
  by_cases q:j=i
  · subst q;rw[ei];exact p
  · rw[en j q];exact List.prefix_refl _
 refine⟨Ls',λj hj s q=>?_,λj hj q=>?_,h3 Ls' u ei⟩
 · by_cases e:j=i
   · subst e;rw[sM hl]at q;rw[ei];exact(h1 s q).mono λ_ _=>RL.mono u
   · rw[um e]at q;rw[en j e];exact(h.run j hj s q).mono λ_ _=>RL.mono u
 · by_cases e:j=i
   · subst e;rw[sM hl]at q ⊢;rw[ei];exact(h2 q).mono λ_ _=>RL.mono u
   · rw[um e]at q ⊢;rw[en j e];exact(h.D j hj q).mono λ_ _=>RL.mono u
theorem HX{P:Nat→MsgT→Prop}{f:Nat}{W:List (List MsgT)}{s:SaidT}(h: ∀k,∀m∈W.getD k [],P k m)(hs:dx ((f:Nat):Int) s.to'=true→P (bC ((f:Nat):Int) s.to') s.msg): ∀k,∀m∈(qP W f s).getD k [],P k m:=λk=>by
 unfold qP;split
 · rename_i hv
   by_cases q:k=bC ((f:Nat):Int) s.to'
   · subst q
     by_cases hl:bC ((f:Nat):Int) s.to'<W.length
     · rw[List.getD_eq_getElem?_getD,List.getElem?_set_self hl,Mx]
       intro m hm;split at hm
       · rcases bS.1 hm with hm|hm
         · exact h _ m hm
         · rw[bR]at hm;subst hm;exact hs hv
       · exact h _ m hm
     · rw[n7 (by omega)];exact h _
   · rw[List.getD_eq_getElem?_getD,List.getElem?_set_ne (λe=>q e.symm),←List.getD_eq_getElem?_getD];exact h k
 · exact h k
theorem xr{P:Nat→MsgT→Prop}{f:Nat}: ∀(l:List SaidT) {W:List (List MsgT)},(∀k,∀m∈W.getD k [],P k m)→(∀x∈l,dx ((f:Nat):Int) x.to'=true→P (bC ((f:Nat):Int) x.to') x.msg)→∀k,∀m∈(it W f l).getD k [],P k m
 | [],_,h,_=>h
 |s::l,W,h,hl=>xr l (W:=qP W f s) (HX h (hl s (cC ..))) λx hx=>hl x (cU _ hx)
theorem Gq{f t:Nat}(ht:t<5):(f*5+t) / 5=f∧(f*5+t)%5=t:=by omega
theorem Jn{i:Nat}{x:SaidT}(h:Ha ((i:Nat):Int) (Ls i) x)(hv:dx ((i:Nat):Int) x.to'=true):TW Ls (bC ((i:Nat):Int) x.to') x.msg:=λq1 q2=>by
 obtain⟨e1,e2⟩:=h q1 q2;unfold dx at hv;rw[av,av]at hv;obtain⟨ht,et⟩:=lE hv.1.2;have d:=Gq (f:=i) ht;show _∧_;unfold bC;rw[show((i:Nat):Int).toNat=i from rfl,d.1,d.2,et];exact⟨e1,e2⟩
theorem TC.did(h:TC Ls a)(h5:a.ms.length=5){i:Nat}(hi:i<5){s:MS LD}(hid:s.id=((i:Nat):Int))(hs:TS (RL Ls) (Ls i) s): ∃Ls',TC Ls' (a.did i s):=by
 obtain⟨ls,l,p,lg,gl,oi,tl⟩:=hs.log;have hm:=hs.mir;rw[hid]at lg gl tl hm;refine h.put h5 hi (x:= {a.at' i with run:=some s.hush}) p (λt q=>?_) (λq=>by cases q) λLs' u e=>?_
 · obtain rfl:=cw q
   exact⟨hm,hs.ep,ls,lg,gl,oi⟩
 · refine xr (P:=TW Ls') _ (λk m hk=>(h.way k m hk).mono u) λx hx hv=>Jn ?_ hv
   rw[e];exact tl x hx
theorem Lw(s:MS LD)(f:Int)(m:MsgT):(gk KD s f m).id=s.id:=by
 rcases Gv (K:=KD) s f m with q| ⟨_,q,_⟩<;>exact q.id
theorem IS(s:MS LD)(o:OpT):(ca KD s o).1.id=s.id:=by
 rcases AA (K:=KD) s o with⟨_,_,q,_⟩| ⟨q,_⟩<;>exact q.id
theorem Lt(s:MS LD):(gU KD s).id=s.id:=(inferInstance:Qt s (gU KD s)).id
theorem TC.onway(h:TC Ls a){k:Nat}{l:List MsgT}(hl: ∀m∈l,TW Ls k m):TC Ls (a.way k l):=⟨h.run,h.D,λj m hm=>by
 by_cases q:j=k
 · subst q
   by_cases hk:j<a.W.length
   · have hm:m∈(a.W.set j l).getD j []:=hm
     rw[List.getD_eq_getElem?_getD,List.getElem?_set_self hk]at hm;exact hl m hm
   · have hm:m∈(a.W.set j l).getD j []:=hm
     rw[n7 (by omega)]at hm;exact h.way j m hm
 · have hm:m∈(a.W.set k l).getD j []:=hm
   rw[List.getD_eq_getElem?_getD,List.getElem?_set_ne (λe=>q e.symm),←List.getD_eq_getElem?_getD]at hm;exact h.way j m hm⟩
theorem Lu{n f t:Nat}(g:CLOk n a)(h:TC Ls a)(ht:t<5){m:MsgT}(hm:TW Ls (f*5+t) m): ∃Ls',TC Ls' (uh a f t m).1:=by
 unfold uh;split
 · exact⟨Ls,h⟩
 · rename_i s hs
   split
   · exact⟨Ls,h⟩
   · split
     · rename_i hd
       obtain⟨h1,h2,h3⟩:=(g.at' t ht).run s hs;have:=(h.run t ht s hs).ts h2 h3;have:=BW (cq m);have d:=Gq (f:=f) ht;have ok:OkR KD (gk KD s ((f:Nat):Int) (eT (cq m)).1):=inferInstance;have idk:(gk KD s ((f:Nat):Int) (eT (cq m)).1).id=((t:Nat):Int):=(Lw s _ _).trans h2;refine h.did g.ms ht idk (Lv _ _ (rz hd).2.2 λk hv=>?_);obtain⟨_,e2⟩:=hm hd k;rw[d.1,d.2]at e2;rcases e2 with e2| ⟨e2,e3⟩
       · omega
       · rw[h2];exact⟨e3,e2⟩
     · exact⟨Ls,h⟩
theorem No{n:Nat}(g:CLOk n a)(h:TC Ls a)(o:OpT): ∃Ls',TC Ls' (pE a o).1:=by
 unfold pE;split
 · exact⟨Ls,h⟩
 · rename_i hv
   have hv:dx o.at' o.to'=true:=by simpa using hv
   have hw:=h.way (bC o.at' o.to');have gw:=g.way (bC o.at' o.to');split
   · exact⟨Ls,h⟩
   · rename_i m l hl
     rw[hl]at hw gw;split
     · split
       · refine⟨Ls,h.onway λx hx=>?_⟩
         unfold EC at hx;split at hx
         · rcases bS.1 hx with hx|hx
           · exact hw x hx
           · rw[bR]at hx;subst hx;exact hw _ (cC ..)
         · exact hw x hx
       · exact⟨Ls,h⟩
     · split
       · exact⟨Ls,h⟩
       · rename_i m2 l2 hl2
         have hlen:=jI (max o.n 0% ((m::l).length:Int)).toNat (m::l);have hmem:=λx=>(nK (x:=x) (max o.n 0% ((m::l).length:Int)).toNat (m::l)).1
         rw[hl2]at hlen hmem;have z:TC Ls (a.way (bC o.at' o.to') l2):=h.onway λx hx=>hw x (hmem x (cU _ hx))
         have g2:CLOk n (a.way (bC o.at' o.to') l2):=g.onway ⟨by simp only[ax]at hlen gw;omega,λx hx=>gw.2 x (hmem x (cU _ hx))⟩
         have ht:o.to'.toNat<5:=by
          unfold dx at hv;rw[av,av]at hv;exact(lE hv.1.2).1
         split
         · exact⟨Ls,z⟩
         · exact Lu g2 z ht (hw m2 (hmem m2 (cC ..)))
theorem Oq{n:Nat}(g:CLOk n a)(h:TC Ls a){o:OpT}(ho:OkOp o): ∃Ls',TC Ls' (Cg a o).1:=by
 unfold Cg;split
 · exact⟨Ls,h⟩
 rename_i hm;have hm:je o.at'=true:=by simpa using hm
 have hi:=(lE hm).1;have ways: ∀Ls',Up Ls Ls'→∀k,∀m∈a.W.getD k [],TW Ls' k m:=λLs' u k m q=>(h.way k m q).mono u
 split
 · unfold F7
   split
   · exact⟨Ls,h⟩
   · rename_i s hs
     split
     · exact⟨Ls,h⟩
     · obtain⟨h1,h2,h3⟩:=(g.at' _ hi).run s hs
       have:=(h.run _ hi s hs).ts h2 h3;have:=ho.change;exact h.did g.ms hi ((IS s o).trans h2) (IR o)
 split
 · exact No g h o
 split
 · unfold ES
   split
   · exact⟨Ls,h⟩
   · rename_i s hs
     split
     · exact⟨Ls,h⟩
     · obtain⟨h1,h2,h3⟩:=(g.at' _ hi).run s hs
       have:=(h.run _ hi s hs).ts h2 h3;exact h.did g.ms hi ((Lt s).trans h2) inferInstance
 split
 · cases ht:(a.at' o.at'.toNat).run with
   |some t=>
    rw[IZ ht];refine h.put g.ms hi (List.prefix_refl _) (λs q=>?_) (λq=>by cases q) λLs' u _=>ways Ls' u
    obtain rfl:=cw q;have z:=h.run _ hi t ht;obtain⟨ls,l,b⟩:=z.log;exact⟨z.mir,z.ep,ls,l.arm ho.n,b⟩
   |none=>
    rw[I0 ht];refine h.put g.ms hi (List.prefix_refl _) (λs q=>?_) (λq=>?_) λLs' u _=>ways Ls' u
    · have q:(a.at' o.at'.toNat).run=some s:=q
      rw[ht]at q;cases q
    · obtain⟨ls,v,r,b⟩:=h.D _ hi ht
      exact⟨ls,v,r.arm ho.n,b⟩
 split
 · refine h.put g.ms hi (List.prefix_refl _) (λs q=>by cases q) (λ_=>?_) λLs' u _=>ways Ls' u
   show TD _ _ _ ((a.at' o.at'.toNat).dk.crash o.mask o.torn o.cut);unfold Slot.dk;split
   · rename_i s hs
     obtain⟨ls,l,b,_⟩:=(h.run _ hi s hs).log;exact⟨ls,_,l.crash _ _ _,b⟩
   · rename_i hs
     obtain⟨ls,v,l,b⟩:=h.D _ hi hs;exact⟨ls,v,l.crash _ _ _,b⟩
 split
 · have up:=(g.at' _ hi).D
   cases hs:(a.at' o.at'.toNat).run with
   |some s=>
    rw[CK hs];exact h.put g.ms hi (List.prefix_refl _) (h.run _ hi) (h.D _ hi) λLs' u _=>ways Ls' u
   |none=>
    rw[CM hs];obtain⟨l',p,h1,h2⟩:=xa (h.D _ hi hs) (up hs).up;exact h.put g.ms hi p h1 h2 λLs' u _=>ways Ls' u
 · exact⟨Ls,h⟩
theorem Np: ∃Ls,TC Ls CL.new:=by
 refine⟨λ_=>[],?_⟩
 have st: ∀i,i<5→(∀s,(cD i DS.new).1=some s→TM (RL λ_=>[]) [] ((i:Nat):Int) s)∧((cD i DS.new).1=none→TD (RL λ_=>[]) [] ((i:Nat):Int) (bJ DS.new).D):=λi hi=>by
  obtain⟨D',e,lg,_,dn⟩:=LogD.new.open rfl rfl;refine⟨λs q=>?_,λ_=>by rw[e];exact⟨[],0, .inl lg, .nil⟩⟩;obtain⟨_,q⟩:=oq q;rw[e]at q;have k:=xG (R:=RL λ_=>[]) (j:=((i:Nat):Int)) .nil s q;have f:=(I7 _ (Ro _ _) q).e;refine⟨k.mir,k.ep,[],?_,by rw[k.ver];exact .nil,k.own⟩;rw[f];exact .inl ⟨dn,lg,rfl,rfl⟩
 refine⟨λi hi s q=>?_,λi hi q=>?_,λk m hm=>?_⟩
 · rw[(sv hi).1]at q
   exact(st i hi).1 s q
 · rw[(sv hi).1]at q
   rw[(sv hi).2];exact(st i hi).2 q
 · have z:CL.new.W.getD k []=[]:=by
    show(List.replicate 25 ([]:List MsgT)).getD k []=[];rw[List.getD_eq_getElem?_getD,List.getElem?_replicate];split<;>rfl
   rw[z]at hm;cases hm
theorem Jo: ∀(l:List OpT) {n:Nat} {a:CL} {Ls:Nat→List RowT},CLOk n a→TC Ls a→(∀o∈l,OkOp o)→∃Ls',TC Ls' (eC a l)
 | [],_,_,Ls,_,h,_=>⟨Ls,h⟩
 |o::l,_,a,_,g,h,hl=>by
  obtain⟨Ls',h'⟩:=Oq g h (hl o (cC ..));exact Jo l (KA g (hl o (cC ..))) h' λx hx=>hl x (cU _ hx)
theorem MC{n:Nat}(g:CLOk n a)(h:TC Ls a){i:Nat}(hi:i<5): ∃ls v,GL (RL Ls) ((i:Nat):Int) ls v (Ls i):=by
 cases hs:(a.at' i).run with
 |some s=>
  obtain⟨ls,_,b,_⟩:=(h.run i hi s hs).log;exact⟨ls,_,b⟩
 |none=>
  obtain⟨ls,v,_,b⟩:=h.D i hi hs;exact⟨ls,v,b⟩
theorem A5{n:Nat}(g:CLOk n a)(h:TC Ls a){i:Nat}(hi:i<5){s:MS LD}(q:fU a i=some s):(∀(k:Nat) (_:k<5),MR (RL Ls) ((i:Nat):Int) ((k:Nat):Int) s.mirror.rows[k])∧1≤s.view.epoch∧∀y∈Ls i,y.version≤s.own.version:=by
 have of: ∀l,Ls i<+:l→TM (RL Ls) l ((i:Nat):Int) s→(∀(k:Nat) (_:k<5),MR (RL Ls) ((i:Nat):Int) ((k:Nat):Int) s.mirror.rows[k])∧1≤s.view.epoch∧∀y∈Ls i,y.version≤s.own.version:=λl p t=>by
  obtain⟨ls,_,b,_⟩:=t.log;exact⟨t.mir,t.ep,λy hy=>b.le y (p.subset hy)⟩
 unfold fU at q;split at q
 · exact of _ (List.prefix_refl _) (h.run i hi s q)
 · have: ∃ls v,(Rests (a.at' i).dk ls (Qg (RL Ls) ((i:Nat):Int) v)∨∃bs,Qg (RL Ls) ((i:Nat):Int) v bs∧Half (a.at' i).dk ls bs)∧GL (RL Ls) ((i:Nat):Int) ls v (Ls i):=by
    unfold Slot.dk;split
    · rename_i t ht
      exact(h.run i hi t ht).dk
    · rename_i ht
      obtain⟨ls,v,l,b⟩:=h.D i hi ht;exact⟨ls,v, .inl l,b⟩
   obtain⟨ls,v,l,b⟩:=this;obtain⟨r,w⟩:=xi l;obtain⟨l',p,h1,_⟩:=xa ⟨ls,v,r,b⟩ w;exact of _ p (h1 s q)
def gV(r y:RowT):RowT:=if y.version>r.version then y else r
def qh(a:CL)(i w:Nat):RowT:=match fU a w with
 |some s=>cb s.mirror ((i:Nat):Int)
 |none=> .zero
def tc(a:CL)(i w:Nat)(r:RowT):RowT:=match fU a w with
 |some s=>gV r (cb s.mirror ((i:Nat):Int))
 |none=>r
def Ct(a:CL)(i:Nat):RowT:=tc a i ((i+2)%5) (tc a i ((i+1)%5) .zero)
theorem fL{r:RowT}(h:0≤r.version):gV r .zero=r:=by unfold gV;rw[if_neg (by show ¬(0:Int)>r.version;omega)]
theorem dC{r y:RowT}(h:0≤r.version):0≤(gV r y).version:=by unfold gV;split<;>omega
theorem iQ{i w:Nat}{r:RowT}(h:0≤r.version):tc a i w r=gV r (qh a i w):=by
 unfold tc qh;split
 · rfl
 · exact(fL h).symm
theorem Iq(m:MirT){i:Nat}(h:i<5):cb m ((i:Nat):Int)=m.rows[i]:=by rw[cb,dif_pos (show cH ((i:Nat):Int)=true from decide_eq_true ⟨by omega,by omega⟩)];rfl
theorem tQ{n:Nat}(g:CLOk n a)(h:TC Ls a){i w:Nat}(hi:i<5)(hw:w<5):MR (RL Ls) ((w:Nat):Int) ((i:Nat):Int) (qh a i w):=by
 unfold qh;split
 · rename_i s q
   rw[Iq _ hi];exact(A5 g h hw q).1 i hi
 · exact .inl rfl
theorem Ir{n:Nat}(g:CLOk n a)(h:TC Ls a){i w:Nat}(hi:i<5)(hw:w<5)(hn: ¬((w:Nat):Int)∈gJ ((i:Nat):Int)):qh a i w= .zero:=by
 rcases tQ g h hi hw with e| ⟨⟨e,_⟩,_⟩
 · exact e
 · exact absurd e hn
theorem Fv{n:Nat}(g:CLOk n a)(h:TC Ls a){i w:Nat}(hi:i<5)(hw:w<5):eH (qh a i w)=true:=by
 rcases tQ g h hi hw with e| ⟨⟨_,e⟩,_⟩
 · rw[e];exact ou
 · obtain⟨ls,v,b⟩:=MC g h hi
   exact b.right _ e
theorem H5{y z:RowT}(hy:0≤y.version)(hz:0≤z.version)(h:0<y.version→y.version=z.version→y=z):gV (gV .zero y) z=gV (gV .zero z) y:=by
 have z0:RowT.zero.version=0:=rfl;unfold gV
 by_cases a:y.version>RowT.zero.version<;>by_cases b:z.version>RowT.zero.version
 · rw[if_pos a,if_pos b]
   by_cases c:z.version>y.version
   · rw[if_pos c,if_neg (by omega)]
   · rw[if_neg c]
     by_cases d:y.version>z.version
     · rw[if_pos d]
     · rw[if_neg d];exact h (by omega) (by omega)
 · rw[if_pos a,if_neg b,if_neg (by omega),if_pos a]
 · rw[if_neg a,if_pos b,if_neg (by omega)]
 · rw[if_neg a,if_neg b,if_neg a]
theorem Fj(b:BookT){w i:Nat}(hw:w<5)(hi:i<5)(x:RowT):bL (uU b ((w:Nat):Int) x) ((i:Nat):Int)=if w=i then x else bL b ((i:Nat):Int):=by
 rw[nX _ hi,nX _ hi,uU,dif_pos (show cH ((w:Nat):Int)=true from decide_eq_true ⟨by omega,by omega⟩)];show(b.rows.set w x hw)[i]=_;rw[Vector.getElem_set]
theorem Is(b:BookT){w i:Nat}(hw:w<5)(hi:i<5){x:RowT}(hx:eH x=true):bL (fz b ((w:Nat):Int) x).1 ((i:Nat):Int)=if w=i then gV (bL b ((i:Nat):Int)) x else bL b ((i:Nat):Int):=by
 have mw:cH ((w:Nat):Int)=true:=decide_eq_true ⟨by omega,by omega⟩;unfold fz;rw[mw,hx,n8,n8];split
 · rename_i q
   have q:=of_decide_eq_true q;rw[Fj _ hw hi];split
   · rename_i e;subst e;unfold gV;rw[if_pos q]
   · rfl
 · rename_i q
   have q: ¬x.version>(bL b ((w:Nat):Int)).version:=λz=>q (decide_eq_true z)
   split
   · rename_i e;subst e;unfold gV;rw[if_neg q]
   · rfl
theorem vV{s:MS LD}(hr: ∀k,k<5→eH (cb s.mirror ((k:Nat):Int))=true)(b:BookT){i:Nat}(hi:i<5): ∀k,k≤5→bL (pV s b k) ((i:Nat):Int)=if i<k then gV (bL b ((i:Nat):Int)) (cb s.mirror ((i:Nat):Int))else bL b ((i:Nat):Int)
 |0,_=>by rw[if_neg (by omega)];rfl
 |k+1,hk=>by
  rw[pV,Km,Is _ (by omega) hi (hr k (by omega)),vV hr b hi k (by omega)]
  by_cases e:k=i
  · subst e;rw[if_pos rfl,if_neg (by omega),if_pos (by omega)]
  · rw[if_neg e]
    by_cases q:i<k
    · rw[if_pos q,if_pos (by omega)]
    · rw[if_neg q,if_neg (by omega)]
theorem o5{n:Nat}(g:CLOk n a)(h:TC Ls a){i:Nat}(hi:i<5): ∀j,j<5→bL (gR a (j+1)) ((i:Nat):Int)=tc a i j (bL (gR a j) ((i:Nat):Int)):=λj hj=>by
 unfold tc;cases q:fU a j with
 |none=>rw[tu q]
 |some s=>
  rw[tt q,vV (λk hk=>?_) _ hi 5 (aI _),if_pos hi];have:=Fv g h (w:=j) hk hj;unfold qh at this;rw[q]at this;exact this
theorem EQ{n:Nat}(g:CLOk n a)(h:TC Ls a){i:Nat}(hi:i<5):bL (cx a) ((i:Nat):Int)=Ct a i:=by
 have z0:(0:Int)≤RowT.zero.version:=Int.le_refl _
 have st:bL (gR a 0) ((i:Nat):Int)= .zero:=by
  rw[nX _ hi];show BookT.zero.rows[i]=_
  match i,hi with|0,_|1,_|2,_|3,_|4,_=>rfl
 have e:bL (cx a) ((i:Nat):Int)=gV (gV (gV (gV (gV .zero (qh a i 0)) (qh a i 1)) (qh a i 2)) (qh a i 3)) (qh a i 4):=by
  show bL (gR a 5) _=_;rw[o5 g h hi 4 (by omega),o5 g h hi 3 (by omega),o5 g h hi 2 (by omega),o5 g h hi 1 (by omega),o5 g h hi 0 (by omega),st];rw[iQ z0,iQ (dC z0),iQ (dC (dC z0)),iQ (dC (dC (dC z0))),iQ (dC (dC (dC (dC z0))))]
 rw[e];unfold Ct;rw[iQ z0,iQ (dC z0)];have none: ∀w,w<5→¬((w:Nat):Int)∈gJ ((i:Nat):Int)→qh a i w= .zero:=λw hw=>Ir g h hi hw
 have sw: ∀w u,w<5→u<5→gV (gV .zero (qh a i w)) (qh a i u)=gV (gV .zero (qh a i u)) (qh a i w):=λw u hw hu=>by
  have p1:=tQ g h hi hw;have p2:=tQ g h hi hu;refine H5 p1.pos p2.pos λc d=>?_
  rcases p1 with e| ⟨⟨_,e⟩,_⟩
  · rw[e]at c;exact absurd c (by decide)
  · rcases p2 with e2| ⟨⟨_,e2⟩,_⟩
    · rw[e2]at d;rw[d]at c;exact absurd c (by decide)
    · obtain⟨ls,v,b⟩:=MC g h hi
      exact b.one _ e _ e2 c d
 match i,hi with
 |0,_=>rw[none 0 (by omega) (by decide),none 3 (by omega) (by decide),none 4 (by omega) (by decide),fL z0,fL (dC (dC z0)),fL (dC (dC z0))]
 |1,_=>rw[none 0 (by omega) (by decide),none 1 (by omega) (by decide),none 4 (by omega) (by decide),fL z0,fL z0,fL (dC (dC z0))]
 |2,_=>rw[none 0 (by omega) (by decide),none 1 (by omega) (by decide),none 2 (by omega) (by decide),fL z0,fL z0,fL z0]
 |3,_=>rw[none 1 (by omega) (by decide),none 2 (by omega) (by decide),none 3 (by omega) (by decide),fL (dC z0),fL (dC z0),fL (dC z0)];exact sw 0 4 (by omega) (by omega)
 |4,_=>rw[none 2 (by omega) (by decide),none 3 (by omega) (by decide),none 4 (by omega) (by decide),fL (dC (dC z0)),fL (dC (dC z0)),fL (dC (dC z0))]
theorem Ll{n:Nat}(g:CLOk n a)(h:TC Ls a){i:Nat}(hi:i<5){s:MS LD}(q:fU a i=some s):(Ct a i).version≤s.own.version:=by
 have z0:(0:Int)≤RowT.zero.version:=Int.le_refl _;obtain⟨_,_,hl⟩:=A5 g h hi q
 have own:0≤s.own.version→∀w,w<5→(qh a i w).version≤s.own.version:=λp w hw=>by
  rcases tQ g h hi hw with e| ⟨⟨_,e⟩,_⟩
  · rw[e];exact p
  · exact hl _ e
 have pos:0≤s.own.version:=by
  have of: ∀l,TM (RL Ls) l ((i:Nat):Int) s→0≤s.own.version:=λl t=>by
   obtain⟨ls,_,b,_⟩:=t.log;exact b.num.1
  unfold fU at q;split at q
  · exact of _ (h.run i hi s q)
  · have: ∃ls v,(Rests (a.at' i).dk ls (Qg (RL Ls) ((i:Nat):Int) v)∨∃bs,Qg (RL Ls) ((i:Nat):Int) v bs∧Half (a.at' i).dk ls bs)∧GL (RL Ls) ((i:Nat):Int) ls v (Ls i):=by
     unfold Slot.dk;split
     · rename_i t ht
       exact(h.run i hi t ht).dk
     · rename_i ht
       obtain⟨ls,v,l,b⟩:=h.D i hi ht;exact⟨ls,v, .inl l,b⟩
    obtain⟨ls,v,l,b⟩:=this;obtain⟨r,w⟩:=xi l;obtain⟨l',p,h1,_⟩:=xa ⟨ls,v,r,b⟩ w;exact of _ (h1 s q)
 have pk: ∀r y:RowT,r.version≤s.own.version→y.version≤s.own.version→(gV r y).version≤s.own.version:=λr y h1 h2=>by unfold gV;split<;>assumption
 unfold Ct;rw[iQ z0,iQ (dC z0)];exact pk _ _ (pk _ _ pos (own pos _ (Nat.mod_lt _ (by decide)))) (own pos _ (Nat.mod_lt _ (by decide)))
def oy(a:CL):Nat→Int
 |0=>1
 |j+1=>match fU a j with
  |some s=>max (oy a j) s.view.epoch
  |none=>oy a j
theorem DG{n:Nat}(g:CLOk n a)(h:TC Ls a): ∀j,j≤5→(fI a j).1.epoch=oy a j∧((fI a j).2=false→oy a j=1)
 |0,_=>⟨rfl,λ_=>rfl⟩
 |j+1,hj=>by
  obtain⟨e1,e2⟩:=DG g h j (by omega);cases q:fU a j with
  |none=>rw[ox q,oy,q];exact⟨e1,e2⟩
  |some s=>
   obtain⟨_,ep,_⟩:=A5 g h (show j<5 by omega) q;rw[jT q,oy,q];simp only;split
   · rename_i z
     refine⟨?_,λz=>by cases z⟩;rcases z with z|z
     · rw[e2 z];show s.view.epoch=_;omega
     · rw[←e1];show s.view.epoch=_;omega
   · rename_i z
     have z1: ¬(fI a j).2=false:=λe=>z (.inl e)
     have z2: ¬s.view.epoch>(fI a j).1.epoch:=λe=>z (.inr e)
     exact⟨by rw[←e1];omega,λe=>absurd e z1⟩
end
end Api
end

section
namespace Go.Proofs.YtjblgopghhgflaaGreat
open Go Leg Codec Api Dsk Wal
def gY(a:CL)(i:Nat):Nat→RowT
 |0=> .zero
 |j+1=>tc a i ((i+(j+1))%5) (gY a i j)
theorem vw{a:CL}{i j:Nat}(h:fU a ((i+(j+1))%5)=none):gY a i (j+1)=gY a i j:=by rw[gY,tc,h]
theorem qB{a:CL}{i j:Nat}{s:MS LD}(h:fU a ((i+(j+1))%5)=some s):gY a i (j+1)=gV (gY a i j) (cb s.mirror ((i:Nat):Int)):=by rw[gY,tc,h]
theorem wH{n:Nat}{a:CL}(h:CLOk n a){i:Nat}(hi:i<5): ∀j,j≤2→WF (gY a i j).flat
 |0,_=>Ew OkRow.zero
 |j+1,hj=>by
  cases q:fU a ((i+(j+1))%5)with
  |none=>rw[vw q];exact wH h hi j (by omega)
  |some s=>
   rw[qB q,gV];split
   · exact M9 (nO h (Nat.mod_lt _ (by decide)) q) _
   · exact wH h hi j (by omega)
theorem FG{a:CL}{j:Nat}(h:fU a j=none):oy a (j+1)=oy a j:=by rw[oy,h]
theorem yc{a:CL}{j:Nat}{s:MS LD}(h:fU a j=some s):oy a (j+1)=max (oy a j) s.view.epoch:=by rw[oy,h]
theorem Nk{i j:Nat}(h:j<2):([.int .i64 ((((i:Nat):Int)+1)%5), .int .i64 ((((i:Nat):Int)+2)%5)]:List Value)[j]?=some (.int .i64 (((i+(j+1))%5:Nat):Int)):=by
 match j,h with
 |0,_=>exact congrArg (λz:Int=>some (Value.int .i64 z)) (by omega)
 |1,_=>exact congrArg (λz:Int=>some (Value.int .i64 z)) (by omega)
theorem vp(x:Value)(l:List OpT)(hok: ∀o∈l,OkOp o):
 DT 9 #[x] (IsL 11 (EF OpT.flat) x l) [] (RI (.bool true) []):=by
 refine BD 91 Tryz.func9 rfl rfl rfl λw0 F hF=>sr λ_ J1=>PS ?_
 refine nx J1 (aa λ_ J2=>sr λ_ J3=>CE QV (FO) ID ?_);refine PS ?_;refine nx J3 (CN (qx J2 (aa λ_ J4=>sr λ_ J5=>PS ?_)));refine CF Q0 (FB x l) ID (λ_ d _=>IsL.more EF.more hF d) ?_;refine ao ?_ ?_<;>intro h16;refine PS ?_;refine nx J5 (CN (qx J4 (sr λ_ J6=>PS ?_)));refine CQ QT (DF x l (by omega) hok) ID (λ_ d _=>IsL.more EF.more hF d) λvR HR hR=>?_
 obtain⟨c,rfl,rfl⟩:=hR;refine PS ?_;refine nx J6 (sr λ_ J7=>?_);have hcl:CLOk l.length (eC .new l):=(Fa l new_ok hok).more (by omega);obtain⟨Ls0,ht0⟩:=Np;obtain⟨Ls,htc⟩:=Jo l new_ok ht0 hok;refine PS ?_;refine Nh (H':=λg:CX=>[cT c (eC .new l) g]) (λ_ s=>Ay s) (λg=>CR NO (nW c l.length (eC .new l) g hcl) ID λvR HR hR=>?_);obtain⟨r1,d1,rfl,rfl⟩:=hR;refine XA Ql λb4=>?_
 refine bO (vs:=jS (eC .new l) g r1 5) (i:=0) (ab rfl) rfl rfl rfl rfl rfl (by rw[ia];exact pJ) Dx rfl rfl (by rw[ia];exact aI _) (gi (by rw[ia];rfl)) rfl (nx J7 (sr λ_ J8=>PS ?_));refine CR NP (qD c l.length (eC .new l) g hcl) (SM [1]) λvR HR hR=>?_
 obtain⟨bt,d2,r2,rfl,rfl⟩:=hR;refine PS ?_;refine nx J8 (sr λ_ J9=>PS ?_);refine nx J9 (aa λ_ J10=>sr λ_ J11=>PS ?_);refine nx J11 (aq ?_)
 refine bA (α:=(Nat)) (λi=>i≤5) (λi=>[(3,(.pointer (some ⟨c,0,none⟩))),(4,(.pointer (some ⟨b4,0,none⟩))),(5,(.pointer (some ⟨bt,0,none⟩))),(6,(.int .i64 ((oy (eC .new l) i)))),(24,(.int .i64 (((i:Nat):Int))))]) (λi=>[cT c (eC .new l) g,q7 (eC .new l) d1 r1,am b4 (jS (eC .new l) g r1 5) 62,q7 (eC .new l) d2 r2,am bt (ints (cx (eC .new l)).flat) 121]) (λi=>5-i) 0
  (aN _) SB
  (λ_ s=>ak [0,3,2,0,0] rfl s) (λi hinv=>?_)
 obtain hi:=hinv;refine sr λ_ J12=>PS ?_
 refine ao ?_ ?_<;>intro h25;refine nx J12 (aa λ_ J13=>CY (qx J13 (aa λ_ J14=>aq (sr λ_ J15=>P2 ?_))));refine nx J15 (sr λ_ J16=>XZ uB (ints RowT.zero.flat) λb8=>?_);refine nx J16 (aa λ_ J17=>sr λ_ J18=>PS ?_);refine CR Io (oU ((i:Nat):Int) (decide_eq_true ⟨by omega,by omega⟩)) ID λvR HR hR=>?_
 obtain⟨_,rfl,rfl⟩:=hR;revert vR;intro uw;refine kO 0 rfl rfl (λhluw _=>tp (ef rfl kM rfl hluw) ?_);refine PS ?_;refine nx J18 (aq ?_)
 refine bA (α:=(Nat)) (λj=>j≤2) (λj=>[(3,(.pointer (some ⟨c,0,none⟩))),(4,(.pointer (some ⟨b4,0,none⟩))),(5,(.pointer (some ⟨bt,0,none⟩))),(6,(.int .i64 ((oy (eC .new l) i)))),(7,(.int .i64 (((i:Nat):Int)))),(8,(.pointer (some ⟨b8,0,none⟩))),(24,(.int .i64 (((i:Nat):Int)))),(28,uw),(29,(.int .i64 2)),(30,(.int .i64 (((j:Nat):Int))))]) (λj=>[cT c (eC .new l) g,q7 (eC .new l) d1 r1,am b4 (jS (eC .new l) g r1 5) 62,q7 (eC .new l) d2 r2,am bt (ints (cx (eC .new l)).flat) 121,own uw (2) ([.int .i64 ((((i:Nat):Int)+1)%5), .int .i64 ((((i:Nat):Int)+2)%5)]) 3 1,am b8 (ints (gY (eC .new l) i j).flat) 60]) (λj=>2-j) 0
  (aN _) SB
  (λ_ s=>ak [2,2,2,2,2,0,0] rfl s) (λj hinv=>?_)
 obtain hj:=hinv;refine sr λ_ J19=>PS ?_
 refine ao ?_ ?_<;>intro h31;refine j5 5 rfl rfl (by omega) (λgw capw hvw hcapw=>nx J19 (aa λ_ J20=>CY (qx J20 (aa λ_ J21=>aq (sr λ_ J22=>tp (bU (r:=j) hvw rfl kM aQ rfl rfl (by omega) (by omega) (by omega)) ?_)))));refine tp (dr (v:=(.int .i64 (((((i+(j+1))%5):Nat):Int)))) rfl Y3 rfl rfl (gC 5 rfl hvw rfl) (Nk (by omega))) ?_;refine PS ?_;refine nx J22 (sr λ_ J23=>PS ?_);refine IX ((i+(j+1))%5) rE iR ?_;refine LT 2 ql (lc (eC .new l) g r1 ((i+(j+1))%5)) ?_ (hc:=by exact kJ (by omega));refine tp (PM rfl ql rfl rfl) ?_;refine bf ?_ ?_<;>intro h37;obtain⟨s,hs⟩:=Option.isSome_iff_exists.1 h37;have hsk:=nO hcl (by omega) hs;rw[fG hs];refine nx J23 (CY (sr λ_ J24=>PS ?_));refine IX ((i+(j+1))%5) rE iR ?_;refine LT 2 ql (.pointer (some ⟨(ot (eC .new l) g r1 ((i+(j+1))%5)),0,none⟩)) ?_ (hc:=by exact(kJ (by omega)).trans (by rw[fG hs]));refine PS ?_;refine CE OM (oE (i:=((i+(j+1))%5)) (args:=λr=>#[.pointer (some ⟨r,0,none⟩), .int .i64 ((i:Nat):Int)]) (Q:=λv=>v= .tuple #[.agg (ints (cb s.mirror ((i:Nat):Int)).flat).toArray, .bool (fy s.mirror ((i:Nat):Int))]) (by omega) hs (λd r=>Ah s d r ((i:Nat):Int))) ID ?_;refine P3 ?_;refine XZ uB (ints RowT.zero.flat) λb11=>?_
 refine SW 0 bg ah ?_;refine PS ?_;refine nx J24 (sr λ_ J25=>FA 0 dV aQ ?_);refine LT 0 Y3 (.int .i64 ((cb s.mirror ((i:Nat):Int)).version)) ?_ (hc:=by exact ce _ rfl);refine FA 0 dV aQ ?_;refine LT 7 Y3 (.int .i64 ((gY (eC .new l) i j).version)) ?_ (hc:=by exact ce _ rfl);refine PS ?_;refine ao ?_ ?_<;>intro h50;refine nx J25 (CY (ae (LW 0 dV bg ah ?_)));refine SW 7 bg ah ?_;refine au (ag (ac J21 (ae (AD ?_))));refine PS ?_;refine au ?_
 exact aK ((j+1):(Nat)) (by omega) (by show 2- (j+1)<2-j;omega)
  SB
  (λ_ q=>by show bH [cT c (eC .new l) g,q7 (eC .new l) d1 r1,am b4 (jS (eC .new l) g r1 5) 62,q7 (eC .new l) d2 r2,am bt (ints (cx (eC .new l)).flat) 121,own uw (2) ([.int .i64 ((((i:Nat):Int)+1)%5), .int .i64 ((((i:Nat):Int)+2)%5)]) 3 1,am b8 (ints (gY (eC .new l) i (j+1)).flat) 60] _;rw[qB hs,gV,if_pos h50];exact ak [1,1,1,1,1,1,1] rfl q)
 refine nx J25 (CN (aU (ag (ac J21 (ae (AD ?_))))));refine PS ?_;refine au ?_
 exact aK ((j+1):(Nat)) (by omega) (by show 2- (j+1)<2-j;omega)
  SB
  (λ_ q=>by show bH [cT c (eC .new l) g,q7 (eC .new l) d1 r1,am b4 (jS (eC .new l) g r1 5) 62,q7 (eC .new l) d2 r2,am bt (ints (cx (eC .new l)).flat) 121,own uw (2) ([.int .i64 ((((i:Nat):Int)+1)%5), .int .i64 ((((i:Nat):Int)+2)%5)]) 3 1,am b8 (ints (gY (eC .new l) i (j+1)).flat) 60] _;rw[qB hs,gV,if_neg h50];exact ak [1,1,1,1,1,1,1] rfl q)
 refine nx J23 (CN (aU (ag (ac J21 (ae (AD ?_))))));refine PS ?_;refine au ?_
 exact aK ((j+1):(Nat)) (by omega) (by show 2- (j+1)<2-j;omega)
  SB
  (λ_ q=>by show bH [cT c (eC .new l) g,q7 (eC .new l) d1 r1,am b4 (jS (eC .new l) g r1 5) 62,q7 (eC .new l) d2 r2,am bt (ints (cx (eC .new l)).flat) 121,own uw (2) ([.int .i64 ((((i:Nat):Int)+1)%5), .int .i64 ((((i:Nat):Int)+2)%5)]) 3 1,am b8 (ints (gY (eC .new l) i (j+1)).flat) 60] _;rw[vw (by simpa using h37)];exact ak [0,0,0,0,0,0,0] rfl q)
 obtain rfl:j=2:=by omega
 have hrow:bL (cx (eC .new l)) ((i:Nat):Int)=(gY (eC .new l) i 2):=EQ hcl htc (by omega);refine nx J19 (aa λ_ J26=>CN (aX (aA (aA (bu (ac J17 (aa λ_ J27=>aa λ_ J28=>D2 6 2 dK ?_)))))));refine PD 0 ?_;refine PD 1 ?_;refine LY 3 dV bg ah ?_;refine AL 2 ?_;refine CR JR (lJ bt 0 121 (λx=>ints x.flat) Qb (cx (eC .new l)) ((i:Nat):Int)) (SM [4]) λvR HR hR=>?_
 obtain⟨hv,rfl⟩:=hR;rw[hrow]at hv;subst hv;refine EN (ta 4 rfl (EE (a:=(gY (eC .new l) i 2).flat) (b:=(gY (eC .new l) i 2).flat) (m:=8) (c:=174) Qw Qq rfl Q2 (dA (ah (gY (eC .new l) i 2))) (dA (ah (gY (eC .new l) i 2))) ⟨gx Px PF (dA (ah (gY (eC .new l) i 2))),gx Px PF (dA (ah (gY (eC .new l) i 2)))⟩ (wH hcl (by omega) _ (by omega)) (wH hcl (by omega) _ (by omega)) rfl rfl rfl) ?_);refine iK ?_ ?_<;>intro h57
 · exact absurd rfl h57
 refine PD 5 ?_;refine PD 6 ?_;refine IY 7 i rE iR ?_;refine LX 8 ql (lc (eC .new l) g r1 i) ?_ (hc:=by exact kJ (by omega));refine tb 9 rfl (PM rfl ql rfl rfl) ?_;refine oc ?_ ?_<;>intro h62;obtain⟨s,hs⟩:=Option.isSome_iff_exists.1 h62;have hsk:=nO hcl (by omega) hs;rw[fG hs];refine PD 10 ?_;refine FD 11 0 dV aQ ?_;refine LX 12 Y3 (.int .i64 ((gY (eC .new l) i 2).version)) ?_ (hc:=by exact ce _ rfl);refine PD 13 ?_;refine IY 14 i rE iR ?_;refine LX 15 ql (.pointer (some ⟨(ot (eC .new l) g r1 i),0,none⟩)) ?_ (hc:=by exact(kJ (by omega)).trans (by rw[fG hs]));refine AL 16 ?_;refine CE QW (oE (i:=i) (args:=λr=>#[.pointer (some ⟨r,0,none⟩)]) (Q:=λv=>v= .agg (ints s.own.flat).toArray) (by omega) hs (λd r=>H9 s d r)) (SM [1,1]) ?_;refine EN (tb 17 rfl (yR (cs:=ints s.own.flat) (v:=Value.int .i64 s.own.version) rfl dV rfl Y3 rfl rfl (ce s.own rfl)) ?_);refine PD 18 ?_;refine iK ?_ ?_<;>intro h71
 · exact absurd h71 (by have:=Ll hcl htc (by omega) hs;have e:Ct (eC .new l) i=(gY (eC .new l) i 2):=rfl;rw[e]at this;omega)
 refine PD 19 ?_;refine PD 20 ?_;refine DN (ac J28 (CN (qx J27 (sr λ_ J29=>PS ?_))));refine IX i rE iR ?_;refine LT 3 ql (.pointer (some ⟨(ot (eC .new l) g r1 i),0,none⟩)) ?_ (hc:=by exact(kJ (by omega)).trans (by rw[fG hs]));refine tp (gd rfl ql rfl rfl) ?_;refine nx J29 (CY (ae (P2 ?_)));refine IX i rE iR ?_;refine LT 3 ql (.pointer (some ⟨(ot (eC .new l) g r1 i),0,none⟩)) ?_ (hc:=by exact(kJ (by omega)).trans (by rw[fG hs]));refine CE JS (oE (i:=i) (args:=λr=>#[.pointer (some ⟨r,0,none⟩)]) (Q:=λv=>v= .agg (ints s.view.flat).toArray) (by omega) hs (λd r=>nI s d r)) ID ?_;refine tp (yR (cs:=ints s.view.flat) (v:=Value.int .i64 s.view.epoch) rfl eX rfl Y3 rfl rfl (aZ s.view rfl)) ?_;refine tp (sS rfl rfl rfl) ?_;refine PS ?_;refine au (ag (ac J14 (ae (AD ?_))));refine PS ?_;refine au ?_
 exact aK ((i+1):(Nat)) (by omega) (by show 5- (i+1)<5-i;omega)
  (aS (aS (aS (bv rfl (by rw[yc hs]) SB))))
  (λ_ q=>ak [0,0,1,1,0] rfl q)
 refine PD 10 ?_;refine NT 11 ?_;refine NT 12 ?_;refine NT 13 ?_;refine NT 14 ?_;refine NT 15 ?_;refine NT 16 ?_;refine NT 17 ?_;refine NT 18 ?_;refine PD 19 ?_;refine PD 20 ?_;refine DN (ac J28 (CN (qx J27 (sr λ_ J30=>PS ?_))));refine IX i rE iR ?_;refine LT 3 ql (lc (eC .new l) g r1 i) ?_ (hc:=by exact kJ (by omega));refine tp (PM rfl ql rfl rfl) ?_;refine bf ?_ ?_<;>intro h77;obtain⟨s,hs⟩:=Option.isSome_iff_exists.1 h77;have hsk:=nO hcl (by omega) hs;rw[fG hs];refine nx J30 (CY (ae (P2 ?_)));refine IX i rE iR ?_;refine LT 3 ql (.pointer (some ⟨(ot (eC .new l) g r1 i),0,none⟩)) ?_ (hc:=by exact(kJ (by omega)).trans (by rw[fG hs]));refine CE JS (oE (i:=i) (args:=λr=>#[.pointer (some ⟨r,0,none⟩)]) (Q:=λv=>v= .agg (ints s.view.flat).toArray) (by omega) hs (λd r=>nI s d r)) (SM [1,1]) ?_;refine tp (yR (cs:=ints s.view.flat) (v:=Value.int .i64 s.view.epoch) rfl eX rfl Y3 rfl rfl (aZ s.view rfl)) ?_;refine tp (sS rfl rfl rfl) ?_;refine PS ?_;refine au (ag (ac J14 (ae (AD ?_))));refine PS ?_;refine au ?_
 exact aK ((i+1):(Nat)) (by omega) (by show 5- (i+1)<5-i;omega)
  (aS (aS (aS (bv rfl (by rw[yc hs]) SB))))
  (λ_ q=>ak [0,0,1,1,0] rfl q)
 refine nx J30 (CN (aU (ag (ac J14 (ae (AD ?_))))));refine PS ?_;refine au ?_
 exact aK ((i+1):(Nat)) (by omega) (by show 5- (i+1)<5-i;omega)
  (aS (aS (aS (bv rfl (by rw[FG (by simpa using h77)]) SB))))
  (λ_ q=>ak [1,1,1,1,0] rfl q)
 refine nx J12 (aa λ_ J31=>CN (aX (aA (aA (bu (ac J10 (sr λ_ J32=>PS ?_)))))));refine CR NN (sC c l.length (eC .new l) g hcl) ID λvR HR hR=>?_
 obtain⟨d3,r3,rfl,rfl⟩:=hR;refine tp (yR (cs:=ints (gv (eC .new l)).flat) (v:=Value.int .i64 ((gv (eC .new l)).epoch)) rfl eX rfl Y3 rfl rfl (aZ _ rfl)) ?_;refine P3 ?_;refine nx J32 (aj (WK [] (aw rfl rfl ?_)));exact⟨by rw[show i=5 by omega,←(DG hcl htc 5 (by omega)).1];simp[gv],rfl⟩;refine PS ?_;refine nx J5 (CY (sr λ_ J33=>PS ?_));exact nx J33 (aj (af (WK [] (aw rfl rfl ⟨rfl,rfl⟩))))
theorem auditTruths_row(x:Value)(l:List OpT):DT 9 #[x] (IsL 11 (EW OpT.flat) x l) [] (RI (.bool true) []):=λw F r m=>vp x l (Nx r) w F (Nb r).1 m
end Go.Proofs.YtjblgopghhgflaaGreat
end

section
namespace Api
open Go Leg Codec Wal
theorem OpT.of(l:List Int)(h:l.length=11): ∃x:OpT,x.flat=l:=by
 match l,h with
 | [a,b,c,d,e,f,g,i,j,k,m],_=>exact⟨⟨a,b,c,d,e,⟨f,g,i⟩,j,k,m⟩,rfl⟩
end Api
end
