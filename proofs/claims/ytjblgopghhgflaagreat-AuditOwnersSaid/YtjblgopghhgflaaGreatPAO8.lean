/-
  Joined texts:what a statement's proof reaches.
-/
import Derived.Test.YtjblgopghhgflaaGreatPAO7
set_option maxHeartbeats 8000000
set_option maxRecDepth 100000
set_option linter.unusedSimpArgs false
set_option linter.unusedVariables false
section
namespace Go.Proofs.YtjblgopghhgflaaGreat
open Go Leg Codec Api Dsk Wal
theorem vm(i:Nat):(cY i .new).1≠none:=by
 obtain⟨D',e,_⟩:=LogD.new.open rfl rfl;unfold cY;rw[e];simp[lq]
theorem tW{i:Nat}{s:MS LD}(h:(cY i .new).1=some s):si i=⟨some s,(bL .new).D,[]⟩:=by
 show(j5 i .nil).1=_;unfold j5;show Slot.mk (cY i DS.new).1 _ _=_;rw[h];rfl
def dJ(i:Nat)(d:Nat→Nat):Nat→Value:=λj=>if j<i then .pointer (some ⟨d j,0,none⟩)else .pointer none
def Hn:Nat→Value:=λ_=> .slice none 0 0
theorem H5(i:Nat)(d:Nat→Nat)(x:Nat):kL (dJ i d) i (.pointer (some ⟨x,0,none⟩))=dJ (i+1) (kL d i x):=funext λj=>by
 unfold dJ kL
 by_cases hj:j=i
 · subst hj;simp
 · rw[if_neg hj,if_neg hj]
   show(if j<i then _ else _)=_
   by_cases h:j<i
   · rw[if_pos h,if_pos (by omega)]
   · rw[if_neg h,if_neg (by omega)]
theorem Gz{n:Nat}{D M P D' M' P':Nat→Value}(h1: ∀i,i<5→D i=D' i)(h2: ∀i,i<5→M i=M' i)(h3: ∀i,i<5→P i=P' i):eG n D M P=eG n D' M' P':=by
 unfold eG;rw[dd (λi hi=>h1 i (eY.1 hi)),dd (λi hi=>h2 i (eY.1 hi)),dd (λi hi=>h3 i (eY.1 hi))]
theorem vN{f g:Nat→HP}{i:Nat}(hg: ∀j,j<i→g j=f j){H:List HP}{h:Hl}(s:bE (g i::bE ((List.range i).map f)::H) h):bE (bE ((List.range (i+1)).map g)::H) h:=by
 have e:(List.range (i+1)).map g=(List.range i).map f++[g i]:=by
  rw[cR,cS,dd (λj hj=>hg j (eY.1 hj))];rfl
 rw[e];obtain⟨h1,h2,d,rfl,a,b⟩:=s;have s2:bE ((g i::(List.range i).map f)++H) (jn h1 h2):=⟨h1,h2,d,rfl,a,(bX _ _).2 b⟩;exact(bX _ _).1 (eg ((List.perm_append_comm (l₁:=[g i])).append_right H) s2)
abbrev we(d r:Nat→Nat)(j:Nat):HP:=kq (si j) (d j) (r j) (.slice none 0 0)
theorem HK{d r:Nat→Nat}{i x y:Nat}{s:MS LD}(hs:(cY i .new).1=some s){X Y:HP}{h:Hl}(q:bE [e6 s x y,dk x s.e.D,X,Y,bE ((List.range i).map (we d r))] h):bE [X,Y,bE ((List.range (i+1)).map (we (kL d i x) (kL r i y)))] h:=by
 have q2:=gC 37 3 q
 have e:we (kL d i x) (kL r i y) i=bE [dk x s.e.D,mi (.slice none 0 0) [],e6 s x y]:=by
  unfold we kq kb Slot.dk qf;rw[iS,iS,tW hs]
 have q4:=(bX [dk x s.e.D,mi (.slice none 0 0) [],e6 s x y] [bE ((List.range i).map (we d r)),X,Y]).1 (aC [2,0,0,2,0,0] rfl q2);have q5:=vN (i:=i) (f:=we d r) (g:=we (kL d i x) (kL r i y)) (H:=[X,Y]) (λj hj=>by unfold we;rw[mF d x (show j≠i by omega),mF r y (show j≠i by omega)]) (by rw[e];exact q4);exact aC [1,1,0] rfl q5
theorem HI(i:Nat)(hi:i<5):CL.new.at' i=si i:=by simp[CL.new,CL.at',List.getD_eq_getElem?_getD,hi]
theorem HJ{c n:Nat}{d r:Nat→Nat}{h:Hl}(s:bE [ah c (eG n (dJ 5 d) (dJ 5 r) Hn) 104,eu 156 208 5 n (List.replicate 25 []),bE ((List.range 5).map (we d r))] h):bE [fG c .new] h:=by
 have e1:eG n (mo ⟨n,d,r,Hn⟩) (jK .new r) Hn=eG n (dJ 5 d) (dJ 5 r) Hn:=Gz (λi hi=>by unfold dJ;rw[if_pos hi]) (λi hi=>by
  unfold dJ;rw[if_pos hi];show xq (CL.new.at' i) (r i)=_;rw[HI i hi];cases hs:(cY i .new).1 with
  |none=>exact absurd hs (vm i)
  |some s=>rw[tW hs];rfl) (λ_ _=>rfl)
 have e2:(List.range 5).map (λi=>kq (CL.new.at' i) (d i) (r i) (Hn i))=(List.range 5).map (we d r):=dd λi hi=>by
  rw[HI i (eY.1 hi)];rfl
 have e3:cJ CL.new.W=List.replicate 25 []:=rfl;refine bj (p:=qu c .new) (H:=[]) ⟨n,d,r,Hn⟩ ?_;unfold qu;rw[e1,e2,e3];exact s
theorem ym:
 DT 14 #[] T0 [] (dm (λv H=>∃c,v= .pointer (some ⟨c,0,none⟩)∧H=[fG c .new])):=by
 refine BD 33 Tryz.func14 rfl rfl rfl λw0 F hF=>sr λ_ J1=>PS ?_
 refine nx J1 (sr λ_ J2=>CR N1 (Bm) ID λvR HR hR=>?_);obtain⟨n,rfl,rfl⟩:=hR;refine BV #[(.pointer (some ⟨n,0,none⟩)),(.pointer none),(.pointer none),(.pointer none),(.pointer none),(.pointer none),(.pointer none),(.pointer none),(.pointer none),(.pointer none),(.pointer none),(.slice none 0 0),(.slice none 0 0),(.slice none 0 0),(.slice none 0 0),(.slice none 0 0)] ?_;refine XB λb5=>?_
 refine PS ?_;refine nx J2 (ab λ_ J3=>sr λ_ J4=>PS ?_);refine nx J4 (aq ?_)
 refine bp (α:=(Nat)×(Nat→Nat)×(Nat→Nat)) (λ⟨i,d,r⟩=>i≤5) (λ⟨i,d,r⟩=>[(0,(.pointer none)),(1,(.pointer (some ⟨b5,0,none⟩))),(6,(.int .i64 (((i:Nat):Int))))]) (λ⟨i,d,r⟩=>[ah b5 (eG n (dJ i d) (dJ i r) Hn) 104,eu 156 208 5 n (List.replicate 25 []),bE ((List.range i).map (we d r))]) (λ⟨i,d,r⟩=>5-i) (0,λ_=>0,λ_=>0)
  (aO _) SB
  (λ_ s=>aC [1,1,0] rfl (py s)) (λ⟨i,d,r⟩ hinv=>?_)
 obtain hi:=hinv;refine sr λ_ J5=>PS ?_
 refine an ?_ ?_<;>intro h7;have hlt:i<5:=by omega
 refine nx J5 (ab λ_ J6=>CY (qx J6 (ab λ_ J7=>aq (sr λ_ J8=>P2 ?_))));refine nx J8 (ab λ_ J9=>D0 dB ?_);refine PD 0 ?_;refine PD 1 ?_;refine PD 3 ?_;refine FD 4 1 iB rP ?_;refine AL 2 ?_;refine CR KT (DO) ID λvR HR hR=>?_
 obtain⟨dn,rfl,rfl⟩:=hR;refine EN (IY 5 (1+i) Ai oM ?_);refine AL 6 ?_;refine bD (i:=1) (aa rfl) rfl rfl rfl rfl rfl oM rfl rfl (by rw[ra];omega) (Jt n (dJ i d) (dJ i r) Hn (.pointer (some ⟨dn,0,none⟩)) hlt) rfl (EN (DN (ac J9 (D0 dB ?_))));refine PD 0 ?_;refine PD 1 ?_;refine PD 2 ?_;refine PD 3 ?_;refine PD 4 ?_;refine PD 5 ?_;refine FD 6 1 iB rP ?_;refine IY 7 (1+i) Ai oM ?_;refine PD 13 ?_;refine FD 14 6 iB oW ?_;refine AL 8 ?_;refine LT 1 sM (.pointer (some ⟨dn,0,none⟩)) ?_ (hc:=by exact(B5 n (kL (dJ i d) i (.pointer (some ⟨dn,0,none⟩))) (dJ i r) Hn hlt).trans (congrArg some (iS (dJ i d) i _)));refine EN (AL 9 ?_);refine CR KS (pw i dn .new DkOk.new) ID λvR HR hR=>?_
 rcases hR with⟨hn,_⟩| ⟨s,rn,hs,rfl,rfl⟩
 · exact absurd hn (vm i)
 refine EN (PD 10 ?_);refine PD 11 ?_;refine PD 12 ?_;refine IY 15 (6+i) uD j0 ?_;refine AL 16 ?_;refine bD (i:=2) (aa rfl) rfl rfl rfl rfl rfl j0 rfl rfl (by rw[ra];omega) (uQ n (kL (dJ i d) i (.pointer (some ⟨dn,0,none⟩))) (dJ i r) Hn (.pointer (some ⟨rn,0,none⟩)) hlt) rfl (EN (DN (af (ac J7 (ad (AD ?_))))));refine PS ?_;refine ap ?_
 exact aI ((i+1,kL d i dn,kL r i rn):(Nat)×(Nat→Nat)×(Nat→Nat)) (by omega) (by show 5- (i+1)<5-i;omega)
  SB
  (λ_ q=>by
   show bE [ah b5 (eG n (dJ (i+1) (kL d i dn)) (dJ (i+1) (kL r i rn)) Hn) 104,_,_] _;rw[←H5,←H5]
   exact HK hs (aC [0,0,0,0,0] rfl q))
 refine nx J5 (ab λ_ J10=>CN (aW (az (az (bm (ac J3 (sr λ_ J11=>P2 ?_)))))));exact nx J11 (ai (aF (H':=[fG b5 .new]) (di _) (λ_ s=>by have h5:i=5:=(by omega);subst h5;exact HJ s) (au rfl rfl ⟨b5,rfl,rfl⟩)))
end Go.Proofs.YtjblgopghhgflaaGreat
end

section
namespace Api
open Go Leg Codec Dsk Wal
def kp(D:DS):Nat→DS
 |0=> .new
 |k+1=>if iy D.s ((k:Nat):Int)=zs then kp D k else((kp D k).write ((k:Nat):Int) (iy D.s ((k:Nat):Int))).2
def na(D:DS):DS:=(kp D 2048).sync.2
def Ll(a:CL)(i:Nat):Option (MS LD):=if(a.at' i).up then none else(cY i (na (a.at' i).dk)).1
def iW(a:CL)(i:Nat):Option (MS LD):=if(a.at' i).up then(a.at' i).run else(cY i (na (a.at' i).dk)).1
def KZ(s:MS LD)(b:BookT)(i:Nat):BookT:=(fy b ((i:Nat):Int) (da s.mirror ((i:Nat):Int))).1
def su(s:MS LD)(b:BookT):Nat→BookT
 |0=>b
 |i+1=>KZ s (su s b i) i
def iC(a:CL):Nat→BookT
 |0=> .zero
 |j+1=>match iW a j with
  |some s=>su s (iC a j) 5
  |none=>iC a j
def br(a:CL):BookT:=iC a 5
theorem y3{a:CL}{j:Nat}{s:MS LD}(h:iW a j=some s):iC a (j+1)=su s (iC a j) 5:=by rw[iC,h]
theorem y5{a:CL}{j:Nat}(h:iW a j=none):iC a (j+1)=iC a j:=by rw[iC,h]
def fM(a:CL):Nat→ViewT×Bool
 |0=>(firstV,false)
 |j+1=>match iW a j with
  |some s=>if(fM a j).2=false∨s.view.epoch>(fM a j).1.epoch then(s.view,true)else fM a j
  |none=>fM a j
def dU(a:CL):ViewT:=(fM a 5).1
theorem pL{a:CL}{j:Nat}(h:iW a j=none):fM a (j+1)=fM a j:=by rw[fM,h]
theorem kd{a:CL}{j:Nat}{s:MS LD}(h:iW a j=some s):fM a (j+1)=if(fM a j).2=false∨s.view.epoch>(fM a j).1.epoch then(s.view,true)else fM a j:=by rw[fM,h]
theorem ub{a:CL}{j:Nat}{s:MS LD}(h:iW a j=some s)(hk:(fM a j).2=true)(he: ¬s.view.epoch>(fM a j).1.epoch):fM a (j+1)=fM a j:=by
 rw[kd h,if_neg (λq=>q.elim (λz=>by rw[hk]at z;cases z) he)]
def oX(v:ViewT)(i:Nat):Int:=(gZ v ((i:Nat):Int)).getD ((i:Nat):Int)
def ik(B:BookT)(key:Int)(i:Nat):CellT:=cV B ((i:Nat):Int) key
def GZ(B:BookT)(key:Int)(i ow:Nat)(S:List Int):List Int:=S.set ow (fP (S.getD ow 0+fP ((ik B key i).inn- (ik B key i).out)))
def KB(B:BookT)(key:Int)(i ow j:Nat)(S:List Int):List Int:=S.set ow (fP (S.getD ow 0+fP ((ik B key j).given.toList.getD i 0- (ik B key i).given.toList.getD j 0)))
def JI(B:BookT)(key:Int)(i ow:Nat)(S:List Int):Nat→List Int
 |0=>S
 |j+1=>KB B key i ow j (JI B key i ow S j)
def ql(B:BookT)(key:Int)(v:ViewT):Nat→List Int
 |0=>List.replicate 5 0
 |i+1=>if 0≤oX v i∧oX v i<5 then JI B key i (oX v i).toNat (GZ B key i (oX v i).toNat (ql B key v i)) 5 else ql B key v i
theorem p7(B:BookT)(key:Int)(i ow:Nat)(S:List Int): ∀j,(JI B key i ow S j).length=S.length
 |0=>rfl
 |j+1=>by rw[JI,KB,cu];exact p7 B key i ow S j
theorem jm(B:BookT)(key:Int)(v:ViewT): ∀i,(ql B key v i).length=5
 |0=>by simp[ql]
 |i+1=>by
  rw[ql];split
  · rw[p7,GZ,cu];exact jm B key v i
  · exact jm B key v i
def j7(B:BookT)(key:Int)(k:Nat):Vector CellT 5:=Vector.ofFn λj:Fin 5=>if j.val<k then ik B key j.val else .zero
theorem Ib{B:BookT}{key:Int}{j:Nat}(hj:j<5):(j7 B key 5)[j]=ik B key j:=by simp[j7,hj]
theorem Ia{B:BookT}{key:Int}{i:Nat}(hi:i<5):(j7 B key i).set i (ik B key i) hi=j7 B key (i+1):=by
 ext j hj
 rw[Vector.getElem_set];simp only[j7,Vector.getElem_ofFn];split
 · rename_i h;subst h;rw[if_pos (by omega)]
 · by_cases h:j<i
   · rw[if_pos h,if_pos (by omega)]
   · rw[if_neg h,if_neg (by omega)]
def Lr(k i j:Int):OpT:=⟨k,i,j,0,0, .zero,0,0,0⟩
theorem H8:OkCh ChangeT.zero:=⟨by
 have: ∀n∈ChangeT.zero.flat,(Lit.int IntKind.i64 n).wf=true:=by decide+kernel
 intro n hn;exact this n hn⟩
theorem zw(k i j:Int):OkOp (Lr k i j):=⟨H8,by show(0:Int)≤9223372036854775807;omega⟩
def vl(a:CL)(i j:Nat):CL:=if i=j then a else(Cp a (Lr 5 ((i:Nat):Int) ((j:Nat):Int))).1
def LH(a:CL)(i:Nat):CL:=(Cp a (Lr 8 ((i:Nat):Int) 0)).1
def tQ(a:CL)(i:Nat):Nat→CL
 |0=>a
 |j+1=>vl (tQ a i j) i j
def sweepTo(a:CL):Nat→CL
 |0=>a
 |i+1=>tQ (sweepTo a i) i 5
def vk(a:CL):CL:=sweepTo a 5
def sZ(a:CL):Nat→CL
 |0=>a
 |i+1=>LH (sZ a i) i
def Gb(W:List (List MsgT))(k:Nat):Nat:=((List.range k).map λq=>if q%6=0 then 0 else(W.getD q []).length).sum
theorem yp(W:List (List MsgT))(k:Nat):Gb W (k+1)=Gb W k+(if k%6=0 then 0 else(W.getD k []).length):=by simp[Gb,cR]
def yV(a:CL):Nat:=Gb a.W 25
def mc:Nat→CL→CL
 |0,a=>a
 |k+1,a=>if yV a=0 then a else mc k (vk a)
def vJ(a:CL):CL:=mc 400 (sZ a 5)
theorem FE(a:CL):mc (400-0) (sZ a 5)=vJ a:=by unfold vJ;rw[OI]
def jo(a:CL):Nat→CL
 |0=>a
 |k+1=>vJ (jo a k)
theorem G5{a:CL}{i j:Nat}(h:i≠j):tQ a i (j+1)=(Cp (tQ a i j) (Lr 5 ((i:Nat):Int) ((j:Nat):Int))).1:=by
 show vl _ i j=_;unfold vl;rw[if_neg h]
theorem G6{a:CL}{i j:Nat}(h:i=j):tQ a i (j+1)=tQ a i j:=by
 show vl _ i j=_;unfold vl;rw[if_pos h]
theorem rQ{k:Nat}(h:k<400)(d:CL):mc (400-k) d=if yV d=0 then d else mc (400- (k+1)) (vk d):=by
 rw[show 400-k=(400- (k+1))+1 by omega];rfl
theorem y9{k:Nat}(h: ¬k<400)(d:CL):mc (400-k) d=d:=by
 rw[show 400-k=0 by omega];rfl
section
variable {n:Nat} {a:CL}
theorem CLOk.step(h:CLOk n a)(i j:Nat):CLOk n (vl a i j):=by
 unfold vl;split
 · exact h
 · exact DD h (zw ..) (by show ¬((0:Int)≤5∧(5:Int)≤4);omega)
theorem CLOk.tik(h:CLOk n a)(i:Nat):CLOk n (LH a i):=DD h (zw ..) (by show ¬((0:Int)≤8∧(8:Int)≤4);omega)
theorem CLOk.rows(h:CLOk n a)(i:Nat): ∀j,CLOk n (tQ a i j)
 |0=>h
 |j+1=>(CLOk.rows h i j).step i j
theorem CLOk.sweepTo(h:CLOk n a): ∀i,CLOk n (sweepTo a i)
 |0=>h
 |i+1=>(CLOk.sweepTo h i).rows i 5
theorem CLOk.ticks(h:CLOk n a): ∀i,CLOk n (sZ a i)
 |0=>h
 |i+1=>(CLOk.ticks h i).tik i
theorem CLOk.sweeps: ∀(k:Nat) {a:CL},CLOk n a→CLOk n (mc k a)
 |0,_,h=>h
 |k+1,a,h=>by
  unfold mc;split
  · exact h
  · exact CLOk.sweeps k (h.sweepTo 5)
theorem CLOk.settle(h:CLOk n a): ∀k,CLOk n (jo a k)
 |0=>h
 |k+1=>by
  rw[jo,vJ];exact CLOk.sweeps 400 ((CLOk.settle h k).ticks 5)
theorem CLOk.len(h:CLOk n a): ∀k,Gb a.W k≤8*k
 |0=>aK _
 |k+1=>by
  rw[yp];have:=CLOk.len h k;have:=(h.way k).1;split<;>omega
end
end Api
namespace Go.Proofs.YtjblgopghhgflaaGreat
open Go Leg Codec Api Dsk Wal
theorem qR(W:List (List MsgT)): ∀k,k≤25→lB (cJ W) k=Gb W k
 |0,_=>rfl
 |k+1,h=>by
  rw[qS,yp,qR W k (by omega),m7 W (by omega),bU]
theorem Cx{n:Nat}{a:CL}(h:CLOk n a): ∀k,k<25→lB (cJ a.W) k+((cJ a.W).getD k []).length≤1000000000:=λk hk=>by
 rw[qR a.W k (by omega),m7 a.W hk,bU];have:=h.len k;have:=(h.way k).1;omega
theorem Bq(c n i:Nat)(D M P:Nat→Value)(hi:i<5)(hM:M i= .pointer none):
 DT 18 #[(.pointer (some ⟨c,0,none⟩)),(.int .i64 (((i:Nat):Int)))] T0 [ah c (eG n D M P) 104] (RI (.pointer none) [ah c (eG n D M P) 104]):=by
 refine BD 15 Tryz.func18 rfl rfl rfl λw0 F hF=>sr λ_ J1=>PS ?_
 refine nx J1 (ab λ_ J2=>sr λ_ J3=>P2 ?_);refine CE Bk (rK c n i D M P hi hM) ID ?_;refine PS ?_;refine nx J3 (CY (sr λ_ J4=>PS ?_));exact nx J4 (ai (ae (WK [0] (au rfl rfl ⟨rfl,rfl⟩))))
theorem Bp(c n i:Nat)(D M P:Nat→Value)(hi:i<5)(d r:Nat)(e:DS)(hD:D i= .pointer (some ⟨d,0,none⟩))(hM:M i= .pointer (some ⟨r,0,none⟩)):
 DT 18 #[(.pointer (some ⟨c,0,none⟩)),(.int .i64 (((i:Nat):Int)))] T0 [ah c (eG n D M P) 104,dk d e] (dm (λv H=>((e.dn=false∧v= .pointer (some ⟨r,0,none⟩))∨(e.dn=true∧v= .pointer none))∧H=[ah c (eG n D M P) 104,dk d e])):=by
 refine BD 15 Tryz.func18 rfl rfl rfl λw0 F hF=>sr λ_ J1=>PS ?_
 refine nx J1 (ab λ_ J2=>sr λ_ J3=>P2 ?_);refine CE Bk (rJ c n i D M P hi d r e hD hM) ID ?_;refine aX ?_ ?_<;>intro h7;refine PS ?_;refine nx J3 (CN (qx J2 (sr λ_ J4=>P3 ?_)));refine FA 6 iB oW ?_;refine IX (6+i) uD j0 ?_;refine LT 0 uE (.pointer (some ⟨r,0,none⟩)) ?_ (hc:=by exact(wM n D M P hi).trans (congrArg some hM));refine PS ?_;refine nx J4 (ai (WK [0,0] (au rfl rfl ?_)));exact⟨.inl ⟨(by simpa using h7),rfl⟩,rfl⟩;refine PS ?_;refine nx J3 (CY (sr λ_ J5=>PS ?_));refine nx J5 (ai (ae (WK [0,0] (au rfl rfl ?_))));exact⟨.inr ⟨(by simpa using h7),rfl⟩,rfl⟩
theorem DP(c n i:Nat)(D M P:Nat→Value)(hi:i<5)(d:Nat)(hD:D i= .pointer (some ⟨d,0,none⟩)):
 DT 67 #[(.pointer (some ⟨c,0,none⟩)),(.int .i64 (((i:Nat):Int)))] T0 [ah c (eG n D M P) 104] (RI (.pointer (some ⟨d,0,none⟩)) [ah c (eG n D M P) 104]):=by
 refine BD 15 Tryz.func67 rfl rfl rfl λw0 F hF=>sr λ_ J1=>PS ?_
 refine nx J1 (ab λ_ J2=>sr λ_ J3=>P2 ?_);refine CE pH (dO c i hi) ID ?_;refine PS ?_;refine nx J3 (CN (qx J2 (sr λ_ J4=>P3 ?_)));refine FA 1 iB rP ?_;refine IX (1+i) Ai oM ?_;refine LT 0 sM (.pointer (some ⟨d,0,none⟩)) ?_ (hc:=by exact(B5 n D M P hi).trans (congrArg some hD));refine PS ?_;exact nx J4 (ai (WK [0] (au rfl rfl ⟨rfl,rfl⟩)))
abbrev zd(c:Nat)(a:CL)(i:Nat)(g:CX):List HP:=ah c (eG g.n (mo g) (jK a g.r) g.p) 104::eu 156 208 5 g.n (cJ a.W)::kb (a.at' i) (g.d i) (g.r i) (g.p i)
def cb(c:Nat)(a:CL)(g:CX):HP:=bE (qu c a g)
theorem FU{α:Type}(A B C:List α):((A++B)++C).Perm ((A++C)++B):=by
 rw[aL,aL];exact List.Perm.append_left _ List.perm_append_comm
section
variable {f:FuncId} {args:Array Value} {c i:Nat} {a:CL} {g:CX}
theorem yC{H:List HP}{h:Hl}(s:bE (fG c a::H) h): ∃g,bE (cb c a g::H) h:=by
 obtain⟨h1,h2,d,e,⟨g,t⟩,s2⟩:=s;exact⟨g,h1,h2,d,e,t,s2⟩
theorem Fu(hi:i<5){h:Hl}(s:bE [cb c a g] h):bE (zd c a i g++[bE (((List.range 5).map λi=>kq (a.at' i) (g.d i) (g.r i) (g.p i)).eraseIdx i)]) h:=by
 have s0:bE (qu c a g++[]) h:=(bX _ _).2 s;have s2:=th (f:=λi=>kq (a.at' i) (g.d i) (g.r i) (g.p i)) hi (aC [2,0,0] rfl s0);have s3:=(bX (kb (a.at' i) (g.d i) (g.r i) (g.p i)) _).2 s2;exact aC [4,4,0,0,0,0] rfl s3
theorem Ft(hi:i<5){h:Hl}(s:bE (zd c a i g++[bE (((List.range 5).map λi=>kq (a.at' i) (g.d i) (g.r i) (g.p i)).eraseIdx i)]) h):bE [cb c a g] h:=by
 have s1:=aC [2,2,2,2,0,0] rfl s;have s2:=(bX (kb (a.at' i) (g.d i) (g.r i) (g.p i)) _).1 s1;have s3:=tg (f:=λi=>kq (a.at' i) (g.d i) (g.r i) (g.p i)) (g:=λi=>kq (a.at' i) (g.d i) (g.r i) (g.p i)) hi (λ_ _=>rfl) s2;exact(bX (qu c a g) []).1 (aC [1,1,0] rfl s3)
theorem EU{Q:Value→List HP→Prop}(hi:i<5)(core:DT f args T0 (zd c a i g) (dm λv H=>∃X,Q v X∧H=zd c a i g++X)):
 DT f args T0 [cb c a g] (dm λv H=>∃X,Q v X∧H=cb c a g::X):=by
 refine Leg.Does.withinR (B:=[bE (((List.range 5).map λi=>kq (a.at' i) (g.d i) (g.r i) (g.p i)).eraseIdx i)]) core (λ_ _ _ _=>trivial) (λh s=>Fu hi s) λv H hp=>?_
 obtain⟨X,hQ,rfl⟩:=hp;refine⟨_,λh s=>?_,X,hQ,rfl⟩;have s1:=(bX _ X).1 (eg (FU (zd c a i g) X [bE (((List.range 5).map λi=>kq (a.at' i) (g.d i) (g.r i) (g.p i)).eraseIdx i)]) s);exact(bX [cb c a g] X).2 (cB s1 (λh t=>Ft hi t) λ_ t=>t)
theorem DQ{Q:Value→Prop}(hi:i<5)(core:DT f args T0 (zd c a i g) (dm λv H=>Q v∧H=zd c a i g)):
 DT f args T0 [cb c a g] (dm λv H=>Q v∧H=[cb c a g]):=
 lp (EU (Q:=λv X=>Q v∧X=[]) hi (lp core λv H hp=>by
  obtain⟨h1,rfl⟩:=hp
  exact⟨[],⟨h1,rfl⟩,(ba _).symm⟩)) λv H hp=>by
  obtain⟨X,⟨h1,rfl⟩,rfl⟩:=hp;exact⟨h1,rfl⟩
theorem IN{x:Slot}{s:MS LD}(h:x.run=some s):x.up= !s.e.D.dn:=by unfold Slot.up;rw[h]
theorem Ee{x:Slot}(h:x.run=none):x.up=false:=by unfold Slot.up;rw[h]
theorem x7{s:MS LD}(hs:(a.at' i).run=some s):zd c a i g=[ah c (eG g.n (mo g) (jK a g.r) g.p) 104,eu 156 208 5 g.n (cJ a.W),dk (g.d i) s.e.D,mi (g.p i) (a.at' i).past,e6 s (g.d i) (g.r i)]:=by
 unfold zd kb Slot.dk qf;rw[hs]
def EK(a:CL)(g:CX)(i:Nat):Value:=if(a.at' i).up then .pointer (some ⟨g.r i,0,none⟩)else .pointer none
theorem Dn(hi:i<5):DT 18 #[.pointer (some ⟨c,0,none⟩), .int .i64 ((i:Nat):Int)] T0 [cb c a g] (dm λv H=>v=EK a g i∧H=[cb c a g]):=by
 refine DQ (Q:=λv=>v=EK a g i) hi ?_;unfold EK;cases hr:(a.at' i).run with
 |none=>
  rw[Ee hr];refine Leg.Does.withinR (A:=[ah c (eG g.n (mo g) (jK a g.r) g.p) 104]) (B:=eu 156 208 5 g.n (cJ a.W)::kb (a.at' i) (g.d i) (g.r i) (g.p i)) (Bq c g.n i (mo g) (jK a g.r) g.p hi (nV hr)) (λ_ _ _ _=>trivial) (λh s=>s) λv H hp=>?_
  obtain⟨rfl,rfl⟩:=hp;exact⟨_,λh s=>s,rfl,rfl⟩
 |some s=>
  rw[IN hr,x7 hr];refine Leg.Does.withinR (B:=[eu 156 208 5 g.n (cJ a.W),mi (g.p i) (a.at' i).past,e6 s (g.d i) (g.r i)]) (Bp c g.n i (mo g) (jK a g.r) g.p hi (g.d i) (g.r i) s.e.D rfl (wk hr)) (λ_ _ _ _=>trivial) (λh s=>aC [0,1,0,0,0] rfl s) λv H hp=>?_
  obtain⟨hv,rfl⟩:=hp;refine⟨_,λh s=>aC [0,1,0,0,0] rfl s,?_,rfl⟩;rcases hv with⟨h1,rfl⟩| ⟨h1,rfl⟩<;>rw[h1]<;>rfl
theorem wK(hi:i<5):DT 67 #[.pointer (some ⟨c,0,none⟩), .int .i64 ((i:Nat):Int)] T0 [cb c a g] (dm λv H=>v= .pointer (some ⟨g.d i,0,none⟩)∧H=[cb c a g]):=by
 refine DQ (Q:=λv=>v= .pointer (some ⟨g.d i,0,none⟩)) hi ?_;refine Leg.Does.withinR (A:=[ah c (eG g.n (mo g) (jK a g.r) g.p) 104]) (B:=eu 156 208 5 g.n (cJ a.W)::kb (a.at' i) (g.d i) (g.r i) (g.p i)) (DP c g.n i (mo g) (jK a g.r) g.p hi (g.d i) rfl) (λ_ _ _ _=>trivial) (λh s=>s) λv H hp=>?_
 obtain⟨rfl,rfl⟩:=hp;exact⟨_,λh s=>s,rfl,rfl⟩
theorem MR{s:MS LD}{Q:Value→Prop}(hi:i<5)(hs:(a.at' i).run=some s)(hf:DT f args T0 [e6 s (g.d i) (g.r i)] (dm λv H=>Q v∧H=[e6 s (g.d i) (g.r i)])):DT f args T0 [cb c a g] (dm λv H=>Q v∧H=[cb c a g]):=by
 refine DQ hi ?_;rw[x7 hs];refine Leg.Does.withinR (B:=[ah c (eG g.n (mo g) (jK a g.r) g.p) 104,eu 156 208 5 g.n (cJ a.W),dk (g.d i) s.e.D,mi (g.p i) (a.at' i).past]) hf (λ_ _ _ _=>trivial) (λh q=>aC [4,0,0,0,0] rfl q) λv H hp=>?_
 obtain⟨hQ,rfl⟩:=hp;exact⟨_,λh q=>aC [1,1,1,1,0] rfl q,hQ,rfl⟩
theorem A2{s:MS LD}{d r:Nat}{v0:RepT→Value}(hf: ∀x,DT f args T0 [ah r (RepT.cells x) 123] (dm λv H=>v=v0 x∧H=[ah r (RepT.cells x) 123])){w:Value}(hv: ∀a,v0 (s.rep a)=w):DT f args T0 [e6 s d r] (dm λv H=>v=w∧H=[e6 s d r]):=
 Leg.Does.pack (B:=[]) λx=>Leg.Does.withinR (A:=[ah r (RepT.cells (s.rep x)) 123]) (B:=[EO x.lg d ((s.e.cnt:Nat):Int) s.e.used,mi x.rs s.replies,Ed x.vo s.vote]) (hf (s.rep x)) (λ_ _ _ _=>trivial) (λ_ q=>q) λv H hp=>by
  obtain⟨rfl,rfl⟩:=hp;exact⟨[e6 s d r],λ_ q=>bj (p:=Fz s d r) (H:=[]) x q,hv x,rfl⟩
theorem qA(s:MS LD)(d r:Nat):DT 21 #[.pointer (some ⟨r,0,none⟩)] T0 [e6 s d r] (dm λv H=>v= .agg (ints s.view.flat).toArray∧H=[e6 s d r]):=A2 (λx=>Da r x) λ_=>rfl
theorem F8(s:MS LD)(d r:Nat)(who:Int):DT 42 #[.pointer (some ⟨r,0,none⟩), .int .i64 who] T0 [e6 s d r] (dm λv H=>v= .tuple #[.agg (ints (da s.mirror who).flat).toArray, .bool (fe s.mirror who)]∧H=[e6 s d r]):=A2 (λx=>vO r x who) λ_=>rfl
theorem Dm(hi:i<5):DT 18 #[.pointer (some ⟨c,0,none⟩), .int .i64 ((i:Nat):Int)] T0 [cb c a g] (dm λv H=>((a.at' i).up=false∧v= .pointer none∧H=[cb c a g])∨∃s,(a.at' i).run=some s∧(a.at' i).up=true∧v= .pointer (some ⟨g.r i,0,none⟩)∧H=[cb c a g]):=
 lp (Dn hi) λv H hp=>by
  obtain⟨rfl,rfl⟩:=hp;unfold EK;cases hu:(a.at' i).up with
  |false=>exact .inl ⟨rfl,rfl,rfl⟩
  |true=>
   cases hs:(a.at' i).run with
   |none=>rw[Ee hs]at hu;cases hu
   |some s=>exact .inr ⟨s,rfl,rfl,rfl,rfl⟩
end
theorem AF(c n:Nat)(a:CL)(h:CLOk n a)(hn:n≤100000):
 DT 69 #[(.pointer (some ⟨c,0,none⟩))] T0 [fG c a] (dm (λ_ H=>H=[fG c (vk a)])):=by
 refine BD 20 Tryz.func69 rfl rfl rfl λw0 F hF=>sr λ_ J1=>PS ?_
 refine nx J1 (aq ?_)
 refine bp (α:=(Nat)) (λi=>i≤5) (λi=>[(0,(.pointer (some ⟨c,0,none⟩))),(4,(.int .i64 (((i:Nat):Int))))]) (λi=>[fG c (sweepTo a i)]) (λi=>5-i) 0
  (aO _) SB
  (λ_ s=>s) (λi hinv=>?_)
 obtain hi:=hinv;refine sr λ_ J2=>PS ?_
 refine an ?_ ?_<;>intro h5;refine nx J2 (ab λ_ J3=>CY (qx J3 (ab λ_ J4=>aq (sr λ_ J5=>P2 ?_))));refine nx J5 (sr λ_ J6=>PS ?_);refine nx J6 (aq ?_)
 refine bp (α:=(Nat)) (λj=>j≤5) (λj=>[(0,(.pointer (some ⟨c,0,none⟩))),(2,(.int .i64 (((i:Nat):Int)))),(4,(.int .i64 (((i:Nat):Int)))),(7,(.int .i64 (((j:Nat):Int))))]) (λj=>[fG c (tQ (sweepTo a i) i j)]) (λj=>5-j) 0
  (aO _) SB
  (λ_ s=>s) (λj hinv=>?_)
 obtain hj:=hinv;refine sr λ_ J7=>PS ?_
 refine an ?_ ?_<;>intro h8;refine nx J7 (ab λ_ J8=>CY (qx J8 (ab λ_ J9=>aq (sr λ_ J10=>P2 ?_))));refine nx J10 (sr λ_ J11=>P3 ?_);refine an ?_ ?_<;>intro h12;refine nx J11 (CY (ad (P3 ?_)));refine tp (kI OpT.zero (OpT.mk 5 ((i:Nat):Int) ((j:Nat):Int) 0 0 ChangeT.zero 0 0 0) [(0,[Value.int .i64 5]),(1,[Value.int .i64 ((i:Nat):Int)]),(2,[Value.int .i64 ((j:Nat):Int)])] fC o8 (g:=OpT.sg)) ?_;refine CE Jb (sF (c:=c) (o:=(Lr 5 ((i:Nat):Int) ((j:Nat):Int))) ((h.sweepTo i).rows i j) hn (zw ..)) ID ?_;refine ap (af (ac J9 (ad (AD ?_))));refine PS ?_;refine ap ?_
 exact aI ((j+1):(Nat)) (by omega) (by show 5- (j+1)<5-j;omega)
  SB
  (λ_ s=>by rw[G5 (by omega)];exact s)
 refine nx J11 (CN (aR (af (ac J9 (ad (AD ?_))))));refine PS ?_;refine ap ?_
 exact aI ((j+1):(Nat)) (by omega) (by show 5- (j+1)<5-j;omega)
  SB
  (λ_ s=>by rw[G6 (by omega)];exact s)
 refine nx J7 (ab λ_ J12=>CN (aW (az (az (bm (af (ac J4 (ad (AD ?_)))))))));refine PS ?_;refine ap ?_
 exact aI ((i+1):(Nat)) (by omega) (by show 5- (i+1)<5-i;omega)
  SB
  (λ_ s=>by rw[show j=5 by omega]at s;exact s)
 exact nx J2 (ab λ_ J13=>CN (aW (az (az (bm (aF (H':=[fG c (vk a)]) (di _) (λ_ s=>by rw[show i=5 by omega]at s;exact s) (bA rfl rfl)))))))
theorem zb(c n:Nat)(a:CL)(h:CLOk n a)(hn:n≤100000)(rounds:Nat)(hrd:rounds≤1000):
 DT 30 #[(.pointer (some ⟨c,0,none⟩)),(.int .i64 (((rounds:Nat):Int)))] T0 [fG c a] (dm (λ_ H=>H=[fG c (jo a rounds)])):=by
 refine BD 36 Tryz.func30 rfl rfl rfl λw0 F hF=>ab λ_ J1=>sr λ_ J2=>PS ?_
 refine tp (iQ rfl M7 rfl rfl) ?_;refine nx J2 (CN (qx J1 (sr λ_ J3=>PS ?_)));refine nx J3 (aq ?_)
 refine bp (α:=(Nat)) (λm=>m≤rounds) (λm=>[(0,(.pointer (some ⟨c,0,none⟩))),(1,(.int .i64 (((rounds:Nat):Int)))),(4,(.int .i64 (((m:Nat):Int))))]) (λm=>[fG c (jo a m)]) (λm=>rounds-m) 0
  (aO _) SB
  (λ_ s=>s) (λm hinv=>?_)
 obtain hm:=hinv;refine ab λ_ J4=>sr λ_ J5=>P3 ?_
 refine an ?_ ?_<;>intro h11;refine nx J5 (CY (qx J4 (ab λ_ J6=>aq (ab λ_ J7=>sr λ_ J8=>PS ?_))));refine nx J8 (aq ?_)
 refine bp (α:=(Nat)) (λi=>i≤5) (λi=>[(0,(.pointer (some ⟨c,0,none⟩))),(1,(.int .i64 (((rounds:Nat):Int)))),(4,(.int .i64 (((m:Nat):Int)))),(14,(.int .i64 (((i:Nat):Int))))]) (λi=>[fG c (sZ (jo a m) i)]) (λi=>5-i) 0
  (aO _) SB
  (λ_ s=>s) (λi hinv=>?_)
 obtain hi:=hinv;refine sr λ_ J9=>PS ?_
 refine an ?_ ?_<;>intro h15;refine nx J9 (ab λ_ J10=>CY (qx J10 (ab λ_ J11=>aq (sr λ_ J12=>P2 ?_))));refine nx J12 (ad (P2 ?_));refine tp (kI OpT.zero (OpT.mk 8 ((i:Nat):Int) 0 0 0 ChangeT.zero 0 0 0) [(0,[Value.int .i64 8]),(1,[Value.int .i64 ((i:Nat):Int)])] fC o8 (g:=OpT.sg)) ?_;refine CE Jb (sF (c:=c) (o:=(Lr 8 ((i:Nat):Int) 0)) ((h.settle m).ticks i) hn (zw ..)) ID ?_;refine ap (af (ac J11 (ad (AD ?_))));refine PS ?_;refine ap ?_
 exact aI ((i+1):(Nat)) (by omega) (by show 5- (i+1)<5-i;omega)
  SB
  (λ_ s=>s)
 refine nx J9 (ab λ_ J13=>CN (aW (az (az (bm (ac J7 (sr λ_ J14=>PS ?_)))))));refine nx J14 (aq ?_)
 refine bp (α:=(Nat)×(CL)) (λ⟨k,d⟩=>k≤400∧CLOk n d∧mc (400-k) d=vJ (jo a m)) (λ⟨k,d⟩=>[(0,(.pointer (some ⟨c,0,none⟩))),(1,(.int .i64 (((rounds:Nat):Int)))),(4,(.int .i64 (((m:Nat):Int)))),(6,(.int .i64 (((k:Nat):Int))))]) (λ⟨k,d⟩=>[fG c d]) (λ⟨k,d⟩=>400-k) (0,sZ (jo a m) i)
  ⟨aO _,(h.settle m).ticks i,by rw[show i=5 by omega];exact FE _⟩ SB
  (λ_ s=>s) (λ⟨k,d⟩ hinv=>?_)
 obtain⟨hk,hd,hs⟩:=hinv;refine ab λ_ J15=>sr λ_ J16=>P2 ?_
 refine an ?_ ?_<;>intro h23;refine P3 ?_;refine FA 0 iB y8 ?_;refine Kt (H':=λg:CX=>[ah c (eG g.n (mo g) (jK d g.r) g.p) 104,eu 156 208 5 g.n (cJ d.W),bE ((List.range 5).map λi=>kq (d.at' i) (g.d i) (g.r i) (g.p i))]) (λ_ s=>fo s) (λg=>LT 0 Im (.pointer (some ⟨g.n,0,none⟩)) ?_ (hc:=by exact zX g.n (mo g) (jK d g.r) g.p));refine CE NW (Bn g.n (cJ d.W) (Cx hd)) (SM [1]) ?_;rw[qR d.W 25 (aK _)];change TL _ _ _ _ _ _ _ _ _ [eu 156 208 5 g.n (cJ d.W),ah c (eG g.n (mo g) (jK d g.r) g.p) 104,bE ((List.range 5).map λi=>kq (d.at' i) (g.d i) (g.r i) (g.p i))];refine cr (H':=[fG c d]) (λ_ s=>bj (p:=qu c d) (H:=[]) g (aC [1,0,0] rfl s)) (PS ?_);refine an ?_ ?_<;>intro h30;refine PS ?_;refine nx J16 (CY (qx J15 (ab λ_ J17=>aq (ad (PS ?_)))));refine CZ NU (AF c n d hd hn) ID λvR=>?_
 refine ap (af (ac J17 (ad (PS ?_))));refine AD ?_;refine PS ?_;refine ap ?_
 exact aI ((k+1,vk d):(Nat)×(CL)) ⟨by omega,hd.sweepTo 5,by rw[rQ (by omega),if_neg (by unfold yV at*;omega)]at hs;exact hs⟩ (by show 400- (k+1)<400-k;omega)
  SB
  (λ_ s=>s)
 have hfin:d=jo a (m+1):=by rw[rQ (by omega),if_pos (by unfold yV at*;omega)]at hs;exact hs
 refine PS ?_;refine nx J16 (CN (aW (az (az (bm (af (ac J6 (ad (PS ?_)))))))));refine AD ?_;refine PS ?_;refine ap ?_
 exact aI ((m+1):(Nat)) (by omega) (by show rounds- (m+1)<rounds-m;omega)
  SB
  (λ_ s=>by rw[hfin]at s;exact s)
 have hfin:d=jo a (m+1):=by rw[y9 (by omega)]at hs;exact hs
 refine PS ?_
 iterate 6 refine UF ?_
 refine PS ?_;refine nx J16 (CN (aW (az (az (bm (af (ac J6 (ad (PS ?_)))))))));refine AD ?_;refine PS ?_;refine ap ?_
 exact aI ((m+1):(Nat)) (by omega) (by show rounds- (m+1)<rounds-m;omega)
  SB
  (λ_ s=>by rw[hfin]at s;exact s)
 exact nx J5 (CN (aW (az (az (bm (aF (H':=[fG c (jo a rounds)]) (di _) (λ_ s=>by rw[show m=rounds by omega]at s;exact s) (bA rfl rfl)))))))
end Go.Proofs.YtjblgopghhgflaaGreat
end

section
namespace Api
open Go Leg Codec Dsk Wal
structure RepOk(m:Nat)(s:MS LD):Prop where
 ops:0≤s.ops∧s.ops≤((m:Nat):Int)
 r: ∀x∈s.replies,1≤x.op∧x.op≤s.ops
 one:(s.replies.map (·.op)).Nodup
 w:0<s.waits→s.waits≤s.ops∧∀x∈s.replies,x.op≠s.waits
structure RepsOk(m:Nat)(a:CL):Prop where
 ok: ∀i s,(a.at' i).run=some s→RepOk m s
theorem FC(a:CL)(l:List OpT)(o:OpT):ln a (l++[o])=(Cp (ln a l) o).1:=by simp[ln]
theorem FB(a:CL)(l:List OpT){k:Nat}(hk:k<l.length):ln a (l.take (k+1))=(Cp (ln a (l.take k)) (l[k])).1:=by
 rw[co hk,FC]
structure RW(r:ReplyT):Prop where
 op:w9 r.op
 err:w9 r.err
 value:w9 r.value
def BH:OpT:=⟨0,0,0,0,5, .zero,0,0,0⟩
theorem BG:OkOp BH:=⟨H8,by decide⟩
def Jk:CL:=(Cp .new BH).1
def fitB:CL:=jo Jk 3
theorem fitA_ok:CLOk 1 Jk:=Kp new_ok BG
def MV:Bool:=decide ((Cp .new BH).2=0)&&(match(fitB.at' 2).run with
 |some s=>decide (mB s.book 0=5)
 |none=>false)&&(fitB.at' 2).up&&(fitB.at' 4).up
theorem Gr:MV=true:=by decide+kernel
theorem Jj:(Cp .new BH).2=0∧∃s2,(fitB.at' 2).run=some s2∧(fitB.at' 2).up=true∧mB s2.book 0=5∧(fitB.at' 4).up=true:=by
 have h:=Gr;unfold MV at h;rw[av,av,av]at h;obtain⟨⟨⟨h1,h2⟩,h3⟩,h4⟩:=h;refine⟨of_decide_eq_true h1,?_⟩;cases hs:(fitB.at' 2).run with
 |none=>rw[hs]at h2;cases h2
 |some s=>rw[hs]at h2;exact⟨s,rfl,h3,of_decide_eq_true h2,h4⟩
def EW{α:Type}(f:α→List Int)(us:List Value)(x:α)(_:Hl):Prop:=us=ints (f x)∧WF (f x)
theorem Kn{α:Type}{f:α→List Int}{m:Nat}{v:Value}{l:List α}{F:Hl}(h:IsL m (EW f) v l F):IsL m (EF f) v l F∧∀o∈l,WF (f o):=by
 rcases h with⟨rfl,rfl⟩| ⟨a,c,rfl,rfl⟩| ⟨b,off,cap,cs,T,z,rfl,h1,h2,h3,h4⟩
 · exact⟨.inl ⟨rfl,rfl⟩,λo ho=>by cases ho⟩
 · exact⟨.inr (.inl ⟨a,c,rfl,rfl⟩),λo ho=>by cases ho⟩
 · refine⟨.inr (.inr ⟨b,off,cap,cs,T,z,rfl,h1,h2,h3,λj hj=>?_⟩),λo ho=>?_⟩
   · obtain⟨us,e1,e2,e3⟩:=h4 j hj
     exact⟨us,e1,e2,e3.1⟩
   · obtain⟨j,hj,rfl⟩:=ff ho
     obtain⟨us,e1,e2,e3⟩:=h4 j hj;exact e3.2
theorem I6{o:OpT}(h:WF o.flat):OkOp o:=by
 refine⟨⟨λn hn=>h n ?_⟩,?_⟩
 · simp only[OpT.flat,eC,cf,List.not_mem_nil,or_false]
   simp[hn]
 · have:=uY (h o.n (by simp[OpT.flat]))
   omega
theorem KH{x:Value}{l:List OpT}{F:Hl}(h:IsL 11 (EW OpT.flat) x l F): ∀o∈l,OkOp o:=λo ho=>I6 ((Kn h).2 o ho)
section
variable {A m:List ReplyT} {e:Int}
end
end Api
end

section
namespace Go.Proofs.YtjblgopghhgflaaGreat
open Go Leg Codec Api Dsk Wal
theorem Do(x:Value)(l:List OpT):
 DT 13 #[x] (IsL 11 (EF OpT.flat) x l) [] (RI (.bool (decide (((l.length:Nat):Int)≤1200))) []):=by
 refine BD 6 Tryz.func13 rfl rfl rfl λw0 F hF=>sr λ_ J1=>PS ?_
 refine nx J1 (sr λ_ J2=>PS ?_);refine tp (dF rfl Tryz.underlying22 rfl hF.len) ?_;refine P2 ?_;exact nx J2 (ai (WK [] (au rfl rfl ⟨rfl,rfl⟩)))
theorem ko{D:DS}(hD:Whole D.s): ∀k,k≤2048→Wrote .new k (0,kp D k)∧(kp D k).ar=false∧(kp D k).dn=false
 |0,_=>⟨Wrote.none DkOk.new.ok DkOk.new.inn,rfl,rfl⟩
 |k+1,hk=>by
  obtain⟨h,ha,hd⟩:=ko hD k (by omega);rw[kp];split
  · exact⟨h.more (by omega),ha,hd⟩
  · have h1:0≤((k:Nat):Int)∧((k:Nat):Int)<2048:=by omega
    have h2:(iy D.s ((k:Nat):Int)).length≤64:=by rw[ct hD];exact aK _
    have w:=qz h1 h2 hd (.inl ha);have o:=Wrote.one h.1 h.2.1 h1 h2;rw[w]at o ⊢;exact⟨h.then rfl o,by show(zq _ _ _).ar=false;unfold zq;exact ha,rfl⟩
theorem AG{D:DS}(hD:Whole D.s):DkOk (na D):=by
 obtain⟨h,_⟩:=ko hD 2048 (aK _);exact(DkOk.wrote DkOk.new h (aK _)).2
theorem CO{D:DS}(hD:Whole D.s)(k:Nat)(hk:k≤2048):(kp D k).ws.length≤2048:=by
 obtain⟨⟨_,_,h⟩,_,hd⟩:=ko hD k hk;rcases h with⟨h,_⟩| ⟨_,h,_⟩
 · cases h
 · have:(DS.new).ws.length=0:=rfl
   have h:(kp D k).ws.length≤(DS.new).ws.length+k:=h;omega
theorem D8(i d:Nat)(D:DS)(hok:DkOk D):
 DT 76 #[(.int .i64 (((i:Nat):Int))),(.pointer (some ⟨d,0,none⟩))] T0 [dk d D] (dm (λv H=>((cY i (na D)).1=none∧v= .pointer none∧H=[dk d D])∨∃s r dn,(cY i (na D)).1=some s∧v= .pointer (some ⟨r,0,none⟩)∧H=[dk d D,e6 s dn r])):=by
 refine BD 36 Tryz.func76 rfl rfl rfl λw0 F hF=>sr λ_ J1=>PS ?_
 refine nx J1 (sr λ_ J2=>CR KT (DO) ID λvR HR hR=>?_);obtain⟨dn,rfl,rfl⟩:=hR;refine PS ?_;refine nx J2 (ab λ_ J3=>sr λ_ J4=>PS ?_);refine nx J4 (aq ?_)
 refine bp (α:=(Nat)) (λk=>k≤2048) (λk=>[(0,(.int .i64 (((i:Nat):Int)))),(1,(.pointer (some ⟨d,0,none⟩))),(4,(.pointer none)),(5,(.pointer (some ⟨dn,0,none⟩))),(11,(.int .i64 (((k:Nat):Int))))]) (λk=>[dk d D,dk dn (kp D k)]) (λk=>2048-k) 0
  (aO _) SB
  (λ_ s=>aC [1,0] rfl s) (λk hinv=>?_)
 obtain hk:=hinv;refine sr λ_ J5=>PS ?_
 refine an ?_ ?_<;>intro h12;refine nx J5 (ab λ_ J6=>CY (qx J6 (ab λ_ J7=>aq (sr λ_ J8=>P2 ?_))));refine nx J8 (sr λ_ J9=>P2 ?_);refine CE NV (Jl d D ((k:Nat):Int) hok.ok) ID ?_;refine XA Cu λb7=>?_
 refine bJ (vs:=eb (iy D.s ((k:Nat):Int))) (i:=0) (aa rfl) rfl rfl rfl rfl rfl (by rw[a8,ct hok.ok.s];exact jy) (eU _) rfl rfl (by rw[a8,ct hok.ok.s];exact aK _) (fD (by rw[a8,ct hok.ok.s];rfl)) rfl (nx J9 (sr λ_ J10=>tp (aN (vs:=eb (iy D.s ((k:Nat):Int))) rfl o5 rfl jy rfl (RO 0) (by rw[a8];exact ct hok.ok.s _) (by rw[aV,aB (by rw[a8,ct hok.ok.s];exact aK _)])) ?_));refine BV ((eb zs).toArray) ?_;refine tp (PV.neqB (a:=(iy D.s ((k:Nat):Int))) (b:=zs) (m:=2) JJ JH rfl JK JM JL (ct hok.ok.s _) (by simp[zs]) rfl rfl rfl) ?_;refine an ?_ ?_<;>intro h19;refine nx J10 (CY (ad (P2 ?_)));refine tp (nj rfl o5 k0 rfl) ?_;refine CF KR (wJ dn (kp D k) ((k:Nat):Int) (.slice (some ⟨b7,0,none⟩) (64) (64)) ((iy D.s ((k:Nat):Int))) (ko hok.ok.s k (by omega)).1.1 (by have:=CO hok.ok.s k (by omega);omega)) (SM [2]) (λg d s=>Iy (Bz 0 64 (ct hok.ok.s _) (by decide) rfl rfl g d s)) ?_;refine ap (af (ac J7 (ad (AD ?_))));refine PS ?_;refine ap ?_
 exact aI ((k+1):(Nat)) (by omega) (by show 2048- (k+1)<2048-k;omega)
  SB
  (λ_ s=>by rw[kp,if_neg h19];exact ak [2,0] rfl s)
 refine nx J10 (CN (aR (af (ac J7 (ad (AD ?_))))));refine PS ?_;refine ap ?_
 exact aI ((k+1):(Nat)) (by omega) (by show 2048- (k+1)<2048-k;omega)
  SB
  (λ_ s=>by rw[kp,if_pos (Decidable.not_not.1 h19)];exact ak [1,1] rfl s)
 refine nx J5 (ab λ_ J11=>CN (aW (az (az (bm (ac J3 (sr λ_ J12=>?_)))))));obtain rfl:k=2048:=by omega
 refine PS ?_;refine CE KQ (zS dn (kp D 2048) (ko hok.ok.s 2048 (by omega)).1.1) (SM [1]) ?_;refine nx J12 (sr λ_ J13=>P2 ?_);refine CR KS (pw i dn (na D) (AG hok.ok.s)) ID λvR HR hR=>?_
 rcases hR with⟨hn,h0,rfl,rfl⟩| ⟨s,r,hn,rfl,rfl⟩
 refine P4 ?_;refine PS ?_;refine nx J13 (ab λ_ J14=>sr λ_ J15=>P2 ?_);refine an ?_ ?_<;>intro h34;refine nx J15 (CY (sr λ_ J16=>PS ?_));exact nx J16 (ai (ae (WK [1] (au rfl rfl (.inl ⟨hn,rfl,rfl⟩)))))
 · exact absurd h34 (by simpa using h0)
 refine P4 ?_;refine PS ?_;refine nx J13 (ab λ_ J17=>sr λ_ J18=>P2 ?_);refine nx J18 (CN (qx J17 (sr λ_ J19=>P2 ?_)));exact nx J19 (ai (WK [2,0] (au rfl rfl (.inr ⟨s,r,dn,hn,rfl,rfl⟩))))
def Nu(a:CL)(i:Nat)(d r:Nat):HP:=match Ll a i with
 |some s=>e6 s d r
 |none=>λ_=>True
abbrev uC(a:CL)(d r:Nat→Nat)(j:Nat):HP:=Nu a j (d j) (r j)
def nB(a:CL)(d r:Nat→Nat):HP:=bE ((List.range 5).map (uC a d r))
def rT(a:CL)(g:CX)(r:Nat→Nat)(i:Nat):Nat:=if(a.at' i).up then g.r i else r i
def lm(a:CL)(g:CX)(r:Nat→Nat)(i:Nat):Value:=match iW a i with
 |some _=> .pointer (some ⟨rT a g r i,0,none⟩)
 |none=> .pointer none
def kD(a:CL)(g:CX)(r:Nat→Nat)(i:Nat):List Value:=(List.range 5).map λj=>if j<i then lm a g r j else .pointer none
section
variable {a:CL} {g:CX} {r d:Nat→Nat} {i x y:Nat}
theorem jd:(kD a g r i).length=5:=by simp[kD]
theorem HL: ∀u∈kD a g r i,u.oneCell'=true:=λu hu=>by
 unfold kD at hu;obtain⟨j,_,rfl⟩:=eS.1 hu;unfold lm
 repeat' split
 all_goals rfl
theorem wm{v:Value}(hi:i<5){r':Nat→Nat}(hr: ∀j,j<i→lm a g r' j=lm a g r j)(hv:v=lm a g r' i):(kD a g r i).set i v=kD a g r' (i+1):=by
 refine List.ext_getElem? λj=>?_
 unfold kD
 by_cases hj:j=i
 · subst hj
   rw[List.getElem?_set_self (by simp;omega),List.getElem?_map,List.getElem?_range hi];simp[hv]
 · rw[List.getElem?_set_ne (λe=>hj e.symm),List.getElem?_map,List.getElem?_map]
   by_cases h5:j<5
   · rw[List.getElem?_range h5]
     simp only[Option.map_some]
     by_cases h:j<i
     · rw[if_pos h,if_pos (by omega),hr j h]
     · rw[if_neg h,if_neg (by omega)]
   · rw[List.getElem?_eq_none (by rw[oc];omega)];rfl
theorem EM{v:Value}(hi:i<5):((kD a g r i).set i v)[i]?=some v:=List.getElem?_set_self (by rw[jd];exact hi)
theorem Br{j:Nat}(hj:j<5):(kD a g r 5)[j]?=some (lm a g r j):=by
 unfold kD;rw[List.getElem?_map,List.getElem?_range hj];simp[hj]
theorem G3{s:MS LD}(hu:(a.at' i).up=true)(hs:(a.at' i).run=some s):iW a i=some s:=by unfold iW;rw[if_pos hu];exact hs
theorem vD(hu:(a.at' i).up=false):iW a i=(cY i (na (a.at' i).dk)).1:=by unfold iW;rw[if_neg (by rw[hu];decide)]
theorem D9(hu:(a.at' i).up=false):Ll a i=(cY i (na (a.at' i).dk)).1:=by unfold Ll;rw[if_neg (by rw[hu];decide)]
theorem kS{s:MS LD}(hs:iW a i=some s):lm a g r i= .pointer (some ⟨rT a g r i,0,none⟩):=by unfold lm;rw[hs]
theorem qL(hs:iW a i=none):lm a g r i= .pointer none:=by unfold lm;rw[hs]
theorem Fs{j:Nat}(hj:j<i):lm a g (kL r i y) j=lm a g r j:=by
 unfold lm rT;rw[mF r y (show j≠i by omega)]
theorem Jd{s:MS LD}(hi:i<5)(hu:(a.at' i).up=true)(hs:(a.at' i).run=some s):(kD a g r i).set i (.pointer (some ⟨g.r i,0,none⟩))=kD a g r (i+1):=
 wm hi (λ_ _=>rfl) (by rw[kS (G3 hu hs)];unfold rT;rw[if_pos hu])
theorem Ga(hi:i<5)(hu:(a.at' i).up=false)(hn:(cY i (na (a.at' i).dk)).1=none):((kD a g r i).set i (.pointer none)).set i (.pointer none)=kD a g r (i+1):=by
 rw[gY];exact wm hi (λ_ _=>rfl) (by rw[qL ((vD hu).trans hn)])
theorem F9{s:MS LD}(hi:i<5)(hu:(a.at' i).up=false)(hn:(cY i (na (a.at' i).dk)).1=some s):((kD a g r i).set i (.pointer none)).set i (.pointer (some ⟨y,0,none⟩))=kD a g (kL r i y) (i+1):=by
 rw[gY];refine wm hi (λj hj=>Fs hj) ?_;rw[kS ((vD hu).trans hn)];unfold rT;rw[if_neg (by rw[hu];decide),iS]
theorem Cf{H:List HP}{h:Hl}(hn:Ll a i=none)(s:bE (bE ((List.range i).map (uC a d r))::H) h):bE (bE ((List.range (i+1)).map (uC a d r))::H) h:=by
 refine vN (f:=uC a d r) (g:=uC a d r) (λ_ _=>rfl) ?_;have e:uC a d r i= λ_=>True:=by unfold uC Nu;rw[hn]
 rw[e];exact py s
theorem Il{s:MS LD}{H:List HP}{h:Hl}(hn:Ll a i=some s)(q:bE (e6 s x y::bE ((List.range i).map (uC a d r))::H) h):bE (bE ((List.range (i+1)).map (uC a (kL d i x) (kL r i y)))::H) h:=by
 refine vN (f:=uC a d r) (g:=uC a (kL d i x) (kL r i y)) (λj hj=>by unfold uC;rw[mF d x (show j≠i by omega),mF r y (show j≠i by omega)]) ?_;have e:uC a (kL d i x) (kL r i y) i=e6 s x y:=by unfold uC Nu;rw[hn,iS,iS]
 rw[e];exact q
theorem uT{f:FuncId}{args:Nat→Array Value}{Q:Value→Prop}{c:Nat}{s:MS LD}(hi:i<5)(hs:iW a i=some s)(hf: ∀d r,DT f (args r) T0 [e6 s d r] (dm λv H=>Q v∧H=[e6 s d r])):
 DT f (args (rT a g r i)) T0 [cb c a g,nB a d r] (dm λv H=>Q v∧H=[cb c a g,nB a d r]):=by
 cases hu:(a.at' i).up with
 |true=>
  have hr:(a.at' i).run=some s:=by unfold iW at hs;rw[if_pos hu]at hs;exact hs
  unfold rT;rw[if_pos hu];refine Leg.Does.withinR (B:=[nB a d r]) (MR hi hr (hf (g.d i) (g.r i))) (λ_ _ _ _=>trivial) (λh q=>q) λv H hp=>?_
  obtain⟨hQ,rfl⟩:=hp;exact⟨_,λ_ q=>q,hQ,rfl⟩
 |false=>
  have ha:Ll a i=some s:=by rw[D9 hu,←vD hu];exact hs
  unfold rT;rw[if_neg (by rw[hu];decide)];have e:uC a d r i=e6 s (d i) (r i):=by unfold uC Nu;rw[ha]
  refine Leg.Does.withinR (B:=[bE (((List.range 5).map (uC a d r)).eraseIdx i),cb c a g]) (hf (d i) (r i)) (λ_ _ _ _=>trivial) (λh q=>?_) λv H hp=>?_
  · have q2:=th (f:=uC a d r) hi (aC [1,0] rfl q)
    rw[e]at q2;exact q2
  · obtain⟨hQ,rfl⟩:=hp
    refine⟨[cb c a g,nB a d r],λh q=>?_,hQ,rfl⟩;refine aC [1,0] rfl (tg (H:=[cb c a g]) (f:=uC a d r) (g:=uC a d r) hi (λ_ _=>rfl) ?_);rw[e];exact q
end
theorem Ce(c i:Nat)(a:CL)(g:CX)(hi:i<5)(hok:DkOk (a.at' i).dk):DT 76 #[.int .i64 ((i:Nat):Int), .pointer (some ⟨g.d i,0,none⟩)] T0 [cb c a g] (dm (λv H=>((cY i (na (a.at' i).dk)).1=none∧v= .pointer none∧H=[cb c a g])∨∃s r dn,(cY i (na (a.at' i).dk)).1=some s∧v= .pointer (some ⟨r,0,none⟩)∧H=[cb c a g,e6 s dn r])):=by
 refine lp (EU (Q:=λv X=>((cY i (na (a.at' i).dk)).1=none∧v= .pointer none∧X=[])∨∃s r dn,(cY i (na (a.at' i).dk)).1=some s∧v= .pointer (some ⟨r,0,none⟩)∧X=[e6 s dn r]) hi ?_) λv H hp=>?_
 · refine Leg.Does.withinR (B:=[ah c (eG g.n (mo g) (jK a g.r) g.p) 104,eu 156 208 5 g.n (cJ a.W),mi (g.p i) (a.at' i).past,qf (a.at' i) (g.d i) (g.r i)]) (D8 i (g.d i) (a.at' i).dk hok) (λ_ _ _ _=>trivial) (λh q=>aC [2,0,0,0,0] rfl q) λv H hp=>?_
   rcases hp with⟨hn,rfl,rfl⟩| ⟨s,r,dn,hn,rfl,rfl⟩
   · exact⟨_,λh q=>aC [1,1,0,0,0] rfl q,[], .inl ⟨hn,rfl,rfl⟩,(ba _).symm⟩
   · exact⟨_,λh q=>aC [2,2,0,1,1,0] rfl q,[e6 s dn r], .inr ⟨s,r,dn,hn,rfl,rfl⟩,rfl⟩
 · obtain⟨X,hq,rfl⟩:=hp
   rcases hq with⟨hn,rfl,rfl⟩| ⟨s,r,dn,hn,rfl,rfl⟩
   · exact .inl ⟨hn,rfl,rfl⟩
   · exact .inr ⟨s,r,dn,hn,rfl,rfl⟩
theorem pK(c n:Nat)(a:CL)(g:CX)(h:CLOk n a):
 DT 41 #[(.pointer (some ⟨c,0,none⟩))] T0 [cb c a g] (dm (λv H=>∃r d:Nat→Nat,v= .agg (kD a g r 5).toArray∧H=[cb c a g,nB a d r])):=by
 refine BD 32 Tryz.func41 rfl rfl rfl λw0 F hF=>sr λ_ J1=>XA Oy λb2=>?_
 refine nx J1 (sr λ_ J2=>XA Oy λb3=>?_);refine nx J2 (ab λ_ J3=>sr λ_ J4=>PS ?_);refine nx J4 (aq ?_)
 refine bp (α:=(Nat)×(Nat→Nat)×(Nat→Nat)) (λ⟨i,d,r⟩=>i≤5) (λ⟨i,d,r⟩=>[(0,(.pointer (some ⟨c,0,none⟩))),(2,(.pointer (some ⟨b2,0,none⟩))),(3,(.pointer (some ⟨b3,0,none⟩))),(5,(.int .i64 (((i:Nat):Int))))]) (λ⟨i,d,r⟩=>[cb c a g,ah b3 (kD a g r i) 62,bE ((List.range i).map (uC a d r)),ah b2 [(.pointer none),(.pointer none),(.pointer none),(.pointer none),(.pointer none)] 62]) (λ⟨i,d,r⟩=>5-i) (0,λ_=>0,λ_=>0)
  (aO _) SB
  (λ_ q=>aC [1,1,0,0] rfl (py (ak [2,0,0] rfl q))) (λ⟨i,d,r⟩ hinv=>?_)
 obtain hi:=hinv;refine sr λ_ J5=>PS ?_
 refine an ?_ ?_<;>intro h6;refine nx J5 (ab λ_ J6=>CY (qx J6 (ab λ_ J7=>aq (sr λ_ J8=>P2 ?_))));refine nx J8 (sr λ_ J9=>P3 ?_);refine CR Oa (Dm (i:=i) (by omega)) ID λvR HR hR=>?_
 rcases hR with⟨hup,rfl,rfl⟩| ⟨s,hrun,hup,rfl,rfl⟩
 refine IX i uD j0 ?_;refine bD (i:=1) (aa rfl) rfl rfl rfl rfl rfl j0 rfl rfl (by simp only[cu,jd];omega) rfl rfl (nx J9 (sr λ_ J10=>PS ?_));refine IX i uD j0 ?_;refine LT 1 uE (.pointer none) ?_ (hc:=by exact EM (by omega));refine tp (Is rfl uE rfl rfl) ?_;refine P3 ?_;refine CE L5 (wK (i:=i) (by omega)) ID ?_;refine tq (fS rfl sM rfl rfl) ?_;refine PS ?_;refine nx J10 (CY (ad (P4 ?_)));refine CE L5 (wK (i:=i) (by omega)) ID ?_;refine CR NS (Ce c i a g (by omega) (h.at' i (by omega)).dk) ID λvR HR hR=>?_
 rcases hR with⟨hn,rfl,rfl⟩| ⟨s,rn,dn,hn,rfl,rfl⟩
 refine IX i uD j0 ?_;refine bD (i:=1) (aa rfl) rfl rfl rfl rfl rfl j0 rfl rfl (by simp only[cu,jd];omega) rfl rfl (ap (af (ac J7 (ad (AD ?_)))));refine PS ?_;refine ap ?_
 exact aI ((i+1,d,r):(Nat)×(Nat→Nat)×(Nat→Nat)) (by omega) (by show 5- (i+1)<5-i;omega)
  SB
  (λ_ q=>by show bE [cb c a g,ah b3 (kD a g r (i+1)) 62,bE ((List.range (i+1)).map (uC a d r)),ah b2 [(.pointer none),(.pointer none),(.pointer none),(.pointer none),(.pointer none)] 62] _;rw[←Ga (by omega) hup hn];exact aC [1,1,0,0] rfl (Cf ((D9 hup).trans hn) (ak [2,0,0,0] rfl q)))
 refine IX i uD j0 ?_;refine bD (i:=2) (aa rfl) rfl rfl rfl rfl rfl j0 rfl rfl (by simp only[cu,jd];omega) rfl rfl (ap (af (ac J7 (ad (AD ?_)))));refine PS ?_;refine ap ?_
 exact aI ((i+1,kL d i dn,kL r i rn):(Nat)×(Nat→Nat)×(Nat→Nat)) (by omega) (by show 5- (i+1)<5-i;omega)
  SB
  (λ_ q=>by show bE [cb c a g,ah b3 (kD a g (kL r i rn) (i+1)) 62,bE ((List.range (i+1)).map (uC a (kL d i dn) (kL r i rn))),ah b2 [(.pointer none),(.pointer none),(.pointer none),(.pointer none),(.pointer none)] 62] _;rw[←F9 (by omega) hup hn];exact aC [1,1,0,0] rfl (Il ((D9 hup).trans hn) (ak [1,2,0,0,0] rfl q)))
 refine IX i uD j0 ?_;refine bD (i:=1) (aa rfl) rfl rfl rfl rfl rfl j0 rfl rfl (by simp only[cu,jd];omega) rfl rfl (nx J9 (sr λ_ J11=>PS ?_));refine IX i uD j0 ?_;refine LT 1 uE (.pointer (some ⟨(g.r i),0,none⟩)) ?_ (hc:=by exact EM (by omega));refine tp (iQ rfl uE rfl rfl) ?_;refine PS ?_
 iterate 4 refine UF ?_
 refine PS ?_;refine nx J11 (CN (aR (af (ac J7 (ad (AD ?_))))));refine PS ?_;refine ap ?_
 exact aI ((i+1,d,r):(Nat)×(Nat→Nat)×(Nat→Nat)) (by omega) (by show 5- (i+1)<5-i;omega)
  SB
  (λ_ q=>by show bE [cb c a g,ah b3 (kD a g r (i+1)) 62,bE ((List.range (i+1)).map (uC a d r)),ah b2 [(.pointer none),(.pointer none),(.pointer none),(.pointer none),(.pointer none)] 62] _;rw[←Jd (by omega) hup hrun];exact aC [1,1,0,0] rfl (Cf (by unfold Ll;rw[if_pos hup]) (ak [2,0,0,0] rfl q)))
 refine nx J5 (ab λ_ J12=>CN (aW (az (az (bm (ac J3 (sr λ_ J13=>?_)))))));obtain rfl:i=5:=by omega
 refine tp (aN (vs:=kD a g r 5) rfl uD rfl oW rfl (RO 1) jd (by rw[aV,aB (cE jd)])) ?_;exact bJ (vs:=kD a g r 5) (i:=3) (aa rfl) rfl rfl rfl rfl rfl (by rw[jd];exact oW) HL rfl rfl (by rw[jd];exact aK _) (fD (Eq.trans (rfl:_=5) (by rw[jd]:(kD a g r 5).length=5).symm)) rfl (nx J13 (ai (xF (H':=[cb c a g,bE ((List.range 5).map (uC a d r))]) rfl rfl uD rfl oW (RO 3) (by rw[jd]) (λ_ s=>ak [0,1] rfl s) ⟨r,d,rfl,rfl⟩)))
section
variable {P:Program} {n:Nat} {D:List Deferred} {L:List (Nat×Value)} {S:World→Prop} {o:Oper} {t t':TypeId} {x y:Operand} {a:CL} {g:CX} {r:Nat→Nat} {j:Nat}
theorem PV.seenNil(ho:o.op= .binOp .eql t x y t')(hu:P.underlying t=some (.pointer (P.pointee t)))(hx:cG L x=some (lm a g r j))(hy:cG L y=some (.pointer none)):PV P n D L S o (.bool (!(iW a j).isSome)):=by
 cases hs:iW a j with
 |none=>rw[qL hs]at hx;exact Is ho hu hx hy
 |some s=>rw[kS hs]at hx;exact iQ ho hu hx hy
theorem PV.seenNot(ho:o.op= .binOp .neq t x y t')(hu:P.underlying t=some (.pointer (P.pointee t)))(hx:cG L x=some (lm a g r j))(hy:cG L y=some (.pointer none)):PV P n D L S o (.bool (iW a j).isSome):=by
 cases hs:iW a j with
 |none=>rw[qL hs]at hx;exact gJ ho hu hx hy
 |some s=>rw[kS hs]at hx;exact fS ho hu hx hy
end
theorem vC{n:Nat}{a:CL}(h:CLOk n a){j:Nat}(hj:j<5){s:MS LD}(hs:iW a j=some s):OkR KD s:=by
 unfold iW at hs;split at hs
 · exact((h.at' j hj).run s hs).1
 · exact(s9 hj (AG (h.at' j hj).dk.ok.s) hs).1
theorem MP{s:MS LD}(h:OkR KD s)(w:Int):WF (da s.mirror w).flat:=by
 unfold da;split
 · exact(h.mir _ _).wf
 · exact Iu OkRow.zero
theorem Nz:(Tryz.prog.info? 121).map (·.zero)=some (some (.agg (ints BookT.zero.flat).toArray)):=by kernel_rfl
theorem tH(c n:Nat)(a:CL)(g:CX)(h:CLOk n a):
 DT 38 #[(.pointer (some ⟨c,0,none⟩))] T0 [cb c a g] (dm (λv H=>∃(b:Nat) (d r:Nat→Nat),v= .pointer (some ⟨b,0,none⟩)∧H=[cb c a g,nB a d r,ah b (ints (br a).flat) 121])):=by
 refine BD 33 Tryz.func38 rfl rfl rfl λw0 F hF=>sr λ_ J1=>PS ?_
 refine nx J1 (sr λ_ J2=>XZ Nz (ints BookT.zero.flat) λb9=>?_);refine PS ?_;refine nx J2 (ab λ_ J3=>sr λ_ J4=>PS ?_);refine CR Mb (pK c n a g h) (SM [1]) λvR HR hR=>?_
 obtain⟨r,d,rfl,rfl⟩:=hR;refine PS ?_;refine nx J4 (aq ?_)
 refine bp (α:=(Nat)) (λj=>j≤5) (λj=>[(2,(.pointer none)),(3,(.pointer (some ⟨b9,0,none⟩))),(11,(.agg (kD a g r 5).toArray)),(12,(.int .i64 (((j:Nat):Int))))]) (λj=>[cb c a g,nB a d r,ah b9 (ints (iC a j).flat) 121]) (λj=>5-j) 0
  (aO _) SB
  (λ_ q=>aC [0,0,0] rfl q) (λj hinv=>?_)
 obtain hj:=hinv;refine sr λ_ J5=>PS ?_
 refine an ?_ ?_<;>intro h13;refine nx J5 (ab λ_ J6=>CY (qx J6 (ab λ_ J7=>aq (sr λ_ J8=>tp (jQ (cs:=kD a g r 5) (v:=(lm a g r j)) (r:=j) rfl uD uE rfl j0 rfl rfl (by omega) (by omega) (by omega) (Br (by omega))) ?_))));refine PS ?_;refine nx J8 (ab λ_ J9=>sr λ_ J10=>PS ?_);refine tp (PV.seenNil rfl uE rfl rfl) ?_;refine aX ?_ ?_<;>intro h16;refine nx J10 (CY (aW (az (bm (ac J7 (ad (AD ?_)))))));refine PS ?_;refine ap ?_
 exact aI ((j+1):(Nat)) (by omega) (by show 5- (j+1)<5-j;omega)
  SB
  (λ_ q=>by show bE [cb c a g,nB a d r,ah b9 (ints (iC a (j+1)).flat) 121] _;rw[y5 (by simpa using h16)];exact q)
 obtain⟨s,hs⟩:=Option.isSome_iff_exists.1 (by simpa using h16);have hsk:=vC h (by omega) hs;rw[kS hs];refine nx J10 (CN (qx J9 (sr λ_ J11=>PS ?_)));refine nx J11 (aq ?_)
 refine bp (α:=(Nat)) (λi=>i≤5) (λi=>[(2,(.pointer none)),(3,(.pointer (some ⟨b9,0,none⟩))),(5,(.pointer (some ⟨(rT a g r j),0,none⟩))),(11,(.agg (kD a g r 5).toArray)),(12,(.int .i64 (((j:Nat):Int)))),(17,(.int .i64 (((i:Nat):Int))))]) (λi=>[cb c a g,nB a d r,ah b9 (ints (su s (iC a j) i).flat) 121]) (λi=>5-i) 0
  (aO _) SB
  (λ_ s=>s) (λi hinv=>?_)
 obtain hi:=hinv;refine sr λ_ J12=>PS ?_
 refine an ?_ ?_<;>intro h18;refine nx J12 (ab λ_ J13=>CY (qx J13 (ab λ_ J14=>aq (sr λ_ J15=>P2 ?_))));refine nx J15 (sr λ_ J16=>P2 ?_);refine CE N4 (uT (i:=j) (args:=λr=>#[.pointer (some ⟨r,0,none⟩), .int .i64 ((i:Nat):Int)]) (Q:=λv=>v= .tuple #[.agg (ints (da s.mirror ((i:Nat):Int)).flat).toArray, .bool (fe s.mirror ((i:Nat):Int))]) (by omega) hs (λd r=>F8 s d r ((i:Nat):Int))) ID ?_;refine P3 ?_;refine XZ uz (ints RowT.zero.flat) λb7=>?_
 refine SW 0 aZ ag ?_;refine PS ?_;refine nx J16 (ad (P2 ?_));refine LW 0 dD aZ ag ?_;refine CE I8 (kG b9 0 121 (λx=>ints x.flat) Arnd.whole (su s (iC a j) i) ((i:Nat):Int) (da s.mirror ((i:Nat):Int)) (MP hsk _)) (SM [3]) ?_;refine ap (af (ac J14 (ad (AD ?_))));refine PS ?_;refine ap ?_
 exact aI ((i+1):(Nat)) (by omega) (by show 5- (i+1)<5-i;omega)
  SB
  (λ_ q=>ak [2,2,0] rfl q)
 refine nx J12 (ab λ_ J17=>CN (aW (az (az (bm (af (ac J7 (ad (AD ?_)))))))));refine PS ?_;refine ap ?_
 exact aI ((j+1):(Nat)) (by omega) (by show 5- (j+1)<5-j;omega)
  SB
  (λ_ q=>by show bE [cb c a g,nB a d r,ah b9 (ints (iC a (j+1)).flat) 121] _;rw[y3 hs,show 5=i by omega];exact q)
 refine nx J5 (ab λ_ J18=>CN (aW (az (az (bm (ac J3 (sr λ_ J19=>P2 ?_)))))));exact nx J19 (ai (aF (H':=[cb c a g,nB a d r,ah b9 (ints (br a).flat) 121]) (di _) (λ_ q=>by rw[show j=5 by omega]at q;exact q) (au rfl rfl ⟨b9,d,r,rfl,rfl⟩)))
theorem qV(c n:Nat)(a:CL)(g:CX)(h:CLOk n a):
 DT 44 #[(.pointer (some ⟨c,0,none⟩))] T0 [cb c a g] (dm (λv H=>∃d r:Nat→Nat,v= .agg (ints (dU a).flat).toArray∧H=[cb c a g,nB a d r])):=by
 refine BD 31 Tryz.func44 rfl rfl rfl λw0 F hF=>sr λ_ J1=>XZ rr (ints ViewT.zero.flat) λb2=>?_
 refine nx J1 (sr λ_ J2=>CE KX (q7) ID ?_);refine XZ rr (ints ViewT.zero.flat) λb3=>?_
 refine SW 0 bc am ?_;refine PS ?_;refine nx J2 (ab λ_ J3=>sr λ_ J4=>PS ?_);refine CR Mb (pK c n a g h) (SM [2]) λvR HR hR=>?_
 obtain⟨r,d,rfl,rfl⟩:=hR;refine PS ?_;refine nx J4 (aq ?_)
 refine bp (α:=(Nat)) (λj=>j≤5) (λj=>[(2,(.pointer (some ⟨b2,0,none⟩))),(3,(.pointer (some ⟨b3,0,none⟩))),(4,(.bool ((fM a j).2))),(9,(.agg (kD a g r 5).toArray)),(10,(.int .i64 (((j:Nat):Int))))]) (λj=>[cb c a g,nB a d r,ah b3 (ints ((fM a j).1).flat) 44,ah b2 (ints ViewT.zero.flat) 44]) (λj=>5-j) 0
  (aO _) SB
  (λ_ s=>s) (λj hinv=>?_)
 obtain hj:=hinv;refine sr λ_ J5=>PS ?_
 refine an ?_ ?_<;>intro h11;refine nx J5 (ab λ_ J6=>CY (qx J6 (ab λ_ J7=>aq (sr λ_ J8=>tp (jQ (cs:=kD a g r 5) (v:=(lm a g r j)) (r:=j) rfl uD uE rfl j0 rfl rfl (by omega) (by omega) (by omega) (Br (by omega))) ?_))));refine PS ?_;refine nx J8 (ab λ_ J9=>D1 2 dB ?_);refine PD 0 ?_;refine ta 1 rfl (PV.seenNot rfl uE rfl rfl) ?_;refine n7 ?_ ?_<;>intro h14;obtain⟨s,hs⟩:=Option.isSome_iff_exists.1 h14;have hsk:=vC h (by omega) hs;rw[kS hs];refine PD 2 ?_;refine PD 3 ?_;refine n7 ?_ ?_<;>intro h16;refine PD 4 ?_;refine PD 5 ?_;refine PD 6 ?_;refine FD 9 0 eD aQ ?_;refine LX 10 Y3 (.int .i64 (((fM a j).1).epoch)) ?_ (hc:=by exact bd _ rfl);refine AL 7 ?_;refine CE KW (uT (i:=j) (args:=λr=>#[.pointer (some ⟨r,0,none⟩)]) (Q:=λv=>v= .agg (ints s.view.flat).toArray) (by omega) hs (λd r=>qA s d r)) ID ?_;refine EN (tb 8 rfl (PV.field1 (cs:=ints s.view.flat) (v:=Value.int .i64 s.view.epoch) rfl eD rfl Y3 rfl rfl (bd s.view rfl)) ?_);refine PD 11 ?_;refine iN ?_ ?_<;>intro h24;refine PD 12 ?_;refine PD 13 ?_;refine DN (ac J9 (CY (ad (PS ?_))));refine CE KW (uT (i:=j) (args:=λr=>#[.pointer (some ⟨r,0,none⟩)]) (Q:=λv=>v= .agg (ints s.view.flat).toArray) (by omega) hs (λd r=>qA s d r)) ID ?_;refine SW 2 bc am ?_;refine PS ?_;refine ap (af (ac J7 (ad (AD ?_))));refine PS ?_;refine ap ?_
 exact aI ((j+1):(Nat)) (by omega) (by show 5- (j+1)<5-j;omega)
  (aM (aM (bg rfl (by rw[kd hs,if_pos (.inr h24)]) SB)))
  (λ_ q=>by show bE [cb c a g,nB a d r,ah b3 (ints (fM a (j+1)).1.flat) 44,ah b2 (ints ViewT.zero.flat) 44] _;rw[kd hs,if_pos (.inr h24)];exact ak [0,0,0,0] rfl q)
 refine PD 12 ?_;refine PD 13 ?_;refine DN (ac J9 (CN (aR (af (ac J7 (ad (AD ?_)))))));refine PS ?_;refine ap ?_
 exact aI ((j+1):(Nat)) (by omega) (by show 5- (j+1)<5-j;omega)
  (aM (aM (bg rfl (by rw[ub hs (by simpa using h16) h24]) SB)))
  (λ_ q=>by show bE [cb c a g,nB a d r,ah b3 (ints (fM a (j+1)).1.flat) 44,ah b2 (ints ViewT.zero.flat) 44] _;rw[ub hs (by simpa using h16) h24];exact ak [0,0,0,0] rfl q)
 refine PD 4 ?_;refine PD 5 ?_;refine NT 6 ?_;refine NT 7 ?_;refine NT 8 ?_;refine NT 9 ?_;refine NT 10 ?_;refine NT 11 ?_;refine PD 12 ?_;refine PD 13 ?_;refine DN (ac J9 (CY (ad (PS ?_))));refine CE KW (uT (i:=j) (args:=λr=>#[.pointer (some ⟨r,0,none⟩)]) (Q:=λv=>v= .agg (ints s.view.flat).toArray) (by omega) hs (λd r=>qA s d r)) ID ?_;refine SW 2 bc am ?_;refine PS ?_;refine ap (af (ac J7 (ad (AD ?_))));refine PS ?_;refine ap ?_
 exact aI ((j+1):(Nat)) (by omega) (by show 5- (j+1)<5-j;omega)
  (aM (aM (bg rfl (by rw[kd hs,if_pos (.inl (by simpa using h16))]) SB)))
  (λ_ q=>by show bE [cb c a g,nB a d r,ah b3 (ints (fM a (j+1)).1.flat) 44,ah b2 (ints ViewT.zero.flat) 44] _;rw[kd hs,if_pos (.inl (by simpa using h16))];exact ak [0,0,0,0] rfl q)
 refine PD 2 ?_;refine NT 3 ?_;refine NT 4 ?_;refine NT 5 ?_;refine ux (i:=6) (b:=false) rfl (by kernel_rfl) (by kernel_rfl) (by kernel_rfl) (λ_ _ _ _ h=>h) rfl rfl rfl rfl rfl (ux (i:=7) (b:=false) rfl (by kernel_rfl) (by kernel_rfl) (by kernel_rfl) (λ_ _ _ _ h=>h) rfl rfl rfl rfl rfl (ux (i:=8) (b:=false) rfl (by kernel_rfl) (by kernel_rfl) (by kernel_rfl) (λ_ _ _ _ h=>h) rfl rfl rfl rfl rfl (ux (i:=9) (b:=false) rfl (by kernel_rfl) (by kernel_rfl) (by kernel_rfl) (λ_ _ _ _ h=>h) rfl rfl rfl rfl rfl (ux (i:=10) (b:=false) rfl (by kernel_rfl) (by kernel_rfl) (by kernel_rfl) (λ_ _ _ _ h=>h) rfl rfl rfl rfl rfl (ux (i:=11) (b:=false) rfl (by kernel_rfl) (by kernel_rfl) (by kernel_rfl) (λ_ _ _ _ h=>h) rfl rfl rfl rfl rfl (NT 12 ?_))))));refine PD 13 ?_;refine DN (ac J9 (CN (aR (af (ac J7 (ad (AD ?_)))))));refine PS ?_;refine ap ?_
 exact aI ((j+1):(Nat)) (by omega) (by show 5- (j+1)<5-j;omega)
  (aM (aM (bg rfl (by rw[pL (by simpa using h14)]) SB)))
  (λ_ q=>by show bE [cb c a g,nB a d r,ah b3 (ints (fM a (j+1)).1.flat) 44,ah b2 (ints ViewT.zero.flat) 44] _;rw[pL (by simpa using h14)];exact ak [0,0,0,0] rfl q)
 refine nx J5 (ab λ_ J10=>CN (aW (az (az (bm (ac J3 (sr λ_ J11=>LW 2 eD bc am ?_)))))));refine SW 3 bc am ?_;refine nx J11 (ai (RC 3 [0,0] eD bc (am _) ?_));exact⟨d,r,by rw[show j=5 by omega];rfl,rfl⟩
def lS(v:ViewT)(k:Nat):List Int:=(List.range 5).map λj=>if j<k then oX v j else 0
theorem gQ(v:ViewT)(k:Nat):(ints (lS v k)).length=5:=by simp[lS,ints]
theorem Bg{v:ViewT}{i:Nat}(hi:i<5):(ints (lS v i)).set i (.int .i64 (oX v i))=ints (lS v (i+1)):=by
 refine List.ext_getElem? λj=>?_
 unfold lS ints
 by_cases hj:j=i
 · subst hj
   rw[List.getElem?_set_self (by simp;omega),List.getElem?_map,List.getElem?_map,List.getElem?_range hi];simp
 · rw[List.getElem?_set_ne (λe=>hj e.symm),List.getElem?_map,List.getElem?_map,List.getElem?_map,List.getElem?_map]
   by_cases h5:j<5
   · rw[List.getElem?_range h5]
     simp only[Option.map_some]
     by_cases h:j<i
     · rw[if_pos h,if_pos (by omega)]
     · rw[if_neg h,if_neg (by omega)]
   · rw[List.getElem?_eq_none (by rw[oc];omega)];rfl
theorem Bh{v:ViewT}{j:Nat}(hj:j<5):(ints (lS v 5))[j]?=some (.int .i64 (oX v j)):=by
 unfold lS ints;rw[List.getElem?_map,List.getElem?_map,List.getElem?_range hj];simp[hj]
theorem F2{v:ViewT}{i:Nat}(hi:i<5)(h: ¬(gZ v ((i:Nat):Int)).isSome=true):(ints (lS v i)).set i (.int .i64 ((i:Nat):Int))=ints (lS v (i+1)):=by
 rw[←Bg hi];unfold oX;rw[show gZ v ((i:Nat):Int)=none by simpa using h];rfl
theorem F1{v:ViewT}{i:Nat}(hi:i<5)(h:(gZ v ((i:Nat):Int)).isSome=true):((ints (lS v i)).set i (.int .i64 ((i:Nat):Int))).set i (.int .i64 ((gZ v ((i:Nat):Int)).getD 0))=ints (lS v (i+1)):=by
 rw[←Bg hi,gY];unfold oX;obtain⟨x,hx⟩:=Option.isSome_iff_exists.1 h;rw[hx];rfl
theorem sd(v:ViewT)(hh:Rng v):
 DT 45 #[(.agg (ints v.flat).toArray)] T0 [] (RI (.agg (ints (lS v 5)).toArray) []):=by
 refine BD 25 Tryz.func45 rfl rfl rfl λw0 F hF=>sr λ_ J1=>XY (ints v.flat) λb1=>?_
 refine XZ Lv (ints (#v[0,0,0,0,0]).toList) λb2=>?_
 refine nx J1 (sr λ_ J2=>XZ Lv (ints (#v[0,0,0,0,0]).toList) λb3=>?_);refine nx J2 (ab λ_ J3=>sr λ_ J4=>PS ?_);refine nx J4 (aq ?_)
 refine bp (α:=(Nat)) (λi=>i≤5) (λi=>[(1,(.pointer (some ⟨b1,0,none⟩))),(2,(.pointer (some ⟨b2,0,none⟩))),(3,(.pointer (some ⟨b3,0,none⟩))),(7,(.int .i64 (((i:Nat):Int))))]) (λi=>[ah b3 (ints (lS v i)) 42,ah b1 (ints v.flat) 44,ah b2 (ints (#v[0,0,0,0,0]).toList) 42]) (λi=>5-i) 0
  (aO _) SB
  (λ_ s=>ak [0,1,0] rfl s) (λi hinv=>?_)
 obtain hi:=hinv;refine sr λ_ J5=>PS ?_
 refine an ?_ ?_<;>intro h8;refine nx J5 (ab λ_ J6=>CY (qx J6 (ab λ_ J7=>aq (sr λ_ J8=>P2 ?_))));refine nx J8 (sr λ_ J9=>P2 ?_);refine IX i jC aQ ?_;refine bD (i:=0) (aa rfl) rfl rfl rfl rfl rfl aQ rfl rfl (by simp only[cu,gQ];omega) rfl rfl (nx J9 (sr λ_ J10=>LW 1 eD bc am ?_));refine PS ?_;refine CE Hq (nY v ((i:Nat):Int) hh) ID ?_;refine P3 ?_;refine aX ?_ ?_<;>intro h18;refine P2 ?_;refine nx J10 (sr λ_ J11=>PS ?_);refine nx J11 (CY (ad (P2 ?_)));refine IX i jC aQ ?_;refine bD (i:=0) (aa rfl) rfl rfl rfl rfl rfl aQ rfl rfl (by simp only[cu,gQ];omega) rfl rfl (ap (af (ac J7 (ad (AD ?_)))));refine PS ?_;refine ap ?_
 exact aI ((i+1):(Nat)) (by omega) (by show 5- (i+1)<5-i;omega)
  SB
  (λ_ q=>by show bE [ah b3 (ints (lS v (i+1))) 42,ah b1 (ints v.flat) 44,ah b2 (ints (#v[0,0,0,0,0]).toList) 42] _;rw[←F1 (by omega) h18];exact ak [0,0,0] rfl q)
 refine P2 ?_;refine nx J10 (sr λ_ J12=>PS ?_);refine nx J12 (CN (aR (af (ac J7 (ad (AD ?_))))));refine PS ?_;refine ap ?_
 exact aI ((i+1):(Nat)) (by omega) (by show 5- (i+1)<5-i;omega)
  SB
  (λ_ q=>by show bE [ah b3 (ints (lS v (i+1))) 42,ah b1 (ints v.flat) 44,ah b2 (ints (#v[0,0,0,0,0]).toList) 42] _;rw[←F2 (by omega) (by simpa using h18)];exact ak [0,0,0] rfl q)
 refine nx J5 (ab λ_ J13=>CN (aW (az (az (bm (ac J3 (sr λ_ J14=>?_)))))));obtain rfl:i=5:=by omega
 refine tp (aN (vs:=ints (lS v 5)) rfl jC rfl eV rfl (RO 0) (gQ _ _) (by rw[aV,aB (cE (gQ _ _))])) ?_;exact bJ (vs:=ints (lS v 5)) (i:=2) (aa rfl) rfl rfl rfl rfl rfl (by rw[gQ];exact eV) (bw _) rfl rfl (by rw[gQ];exact aK _) (fD (by rw[gQ];rfl)) rfl (nx J14 (ai (xF (H':=[]) rfl rfl jC rfl eV (RO 2) (by rw[gQ _ _]) (λ_ s=>ak [] rfl s) ⟨rfl,rfl⟩)))
theorem HT{S:List Int}{o k:Nat}(ho:o=k)(h:k<S.length):(ints S)[o]?=some (.int .i64 (S.getD k 0)):=by
 subst ho;simp[ints,List.getD_eq_getElem?_getD,h]
theorem HS{S:List Int}{o k:Nat}{x:Int}(ho:o=k):(ints S).set o (.int .i64 x)=ints (S.set k x):=by
 subst ho;simp[ints,xQ]
theorem Ic{B:BookT}{key:Int}{i o:Nat}(k:Nat)(hi:i<5)(ho:o=i*7+k)(hk:k<7){r:Option Value}(hr:(ints (ik B key i).flat)[k]?=r):(ints ((j7 B key 5).toList.flatMap CellT.flat))[o]?=r:=
 nE bv (j7 B key 5) k hi ho hk (by rw[Ib hi];exact hr)
theorem B8{B:BookT}{key:Int}{i j o:Nat}(hi:i<5)(hj:j<5)(ho:o=i*7+(2+j)):(ints ((j7 B key 5).toList.flatMap CellT.flat))[o]?=some (.int .i64 ((ik B key i).given.toList.getD j 0)):=
 Ic (2+j) hi ho (by omega) (by simp[CellT.flat,ints,List.getElem?_cons_succ,show 2+j=j+1+1 by omega,List.getD_eq_getElem?_getD,hj])
theorem M5{B:BookT}{key:Int}{i o:Nat}(hi:i<5)(ho:o=i*7):wr (ints ((j7 B key i).toList.flatMap CellT.flat)) o (ints (ik B key i).flat)=ints ((j7 B key (i+1)).toList.flatMap CellT.flat):=by
 have h:=tG bv (j7 B key i) (i:=i) (o:=o) 0 (vs:=ints (ik B key i).flat) (u':=ik B key i) hi (by omega) (by rw[bl,bo];exact aK _) (cn ((bo _).trans (bo _).symm))
 rwa [Ia hi]at h
theorem Li{B:BookT}{key:Int}{k:Nat}:(ints ((j7 B key k).toList.flatMap CellT.flat)).length=35:=by
 rw[wD bv,aA]
theorem wq{n:Nat}{a:CL}(h:CLOk n a): ∀j,j≤5→Rng (fM a j).1
 |0,_=>Rng.first
 |j+1,hj=>by
  have ih:=wq h j (by omega);rcases hs:iW a j with _|s
  · rw[pL hs];exact ih
  · have hk:=vC h (by omega) hs
    rw[kd hs];split
    · exact hk.view.rng
    · exact ih
theorem tu{n:Nat}{a:CL}(h:CLOk n a):Rng (dU a):=wq h 5 (aK _)
theorem za(c n:Nat)(a:CL)(g:CX)(h:CLOk n a)(key:Int):
 DT 37 #[(.pointer (some ⟨c,0,none⟩)),(.int .i64 (key))] T0 [cb c a g] (dm (λv H=>(¬(0≤key∧key<4)∧v= .agg (ints (List.replicate 5 0)).toArray∧H=[cb c a g])∨((0≤key∧key<4)∧∃d r:Nat→Nat,v= .agg (ints (ql (br a) key (dU a) 5)).toArray∧H=[cb c a g,nB a d r]))):=by
 refine Leg.Does.body (vs:=[(.pointer (some ⟨c,0,none⟩)),(.int .i64 (key))]) (n:=82) Tryz.func37 rfl rfl rfl (λw0 F hF=>?_);refine ab (λK1 hK1=>?_);refine ad ?_;refine lG (aa rfl) rfl rfl rfl Lv (λb4=>?_);change TL _ _ _ _ _ _ _ _ _ [ah b4 (ints (#v[0,0,0,0,0]).toList) 42,cb c a g];refine ap ?_;refine ac hK1 ?_;clear hK1;refine ab (λK2 hK2=>?_);refine ad ?_;refine lG (aa rfl) rfl rfl rfl Lv (λb5=>?_);change TL _ _ _ _ _ _ _ _ _ [ah b5 (ints (#v[0,0,0,0,0]).toList) 42,ah b4 (ints (#v[0,0,0,0,0]).toList) 42,cb c a g];refine ap ?_;refine ac hK2 ?_;clear hK2;refine ab (λK3 hK3=>?_);refine ab (λK4 hK4=>?_);refine ad ?_;refine dq (aa rfl) rfl rfl (ck rfl rfl) ?_;refine dq (aa rfl) rfl rfl (JE rfl rfl rfl) ?_;refine an (λh13=>?_) (λh13=>?_)
 · skip
   refine dq (aa rfl) rfl rfl (ck rfl rfl) ?_;refine kH (b:=true) rfl rfl rfl rfl (lb rfl) ?_;refine kH (b:=true) rfl rfl rfl rfl (lb rfl) ?_;refine dq (aa rfl) rfl rfl (lY rfl rfl rfl) ?_;refine ap ?_;refine ac hK4 ?_;clear hK4;refine iO rfl ?_;refine ab (λK5 hK5=>?_);refine ad ?_;refine dq (aa rfl) rfl rfl (aN (vs:=ints (#v[0,0,0,0,0]).toList) rfl jC rfl eV rfl (dN 0 rfl rfl) (dS (#v[0,0,0,0,0])) (whole (dS (#v[0,0,0,0,0])))) ?_;refine bJ (vs:=ints (#v[0,0,0,0,0]).toList) (i:=1) (H':=[ah b5 (ints (#v[0,0,0,0,0]).toList) 42,ah b4 (ints (#v[0,0,0,0,0]).toList) 42,cb c a g]) (aa rfl) rfl rfl rfl rfl rfl (by rw[(dS (#v[0,0,0,0,0]))];exact eV) (bw _) rfl rfl (by have h0:=(dS (#v[0,0,0,0,0]));have h1:=(dS (#v[0,0,0,0,0]));omega) (cn ((dS (#v[0,0,0,0,0])).trans (dS (#v[0,0,0,0,0])).symm)) rfl ?_;refine ap ?_;refine ac hK5 ?_;clear hK5;refine ai ?_;refine ae ?_;clear hK3;refine xF (H':=[cb c a g]) rfl rfl jC rfl eV (dN 1 rfl rfl) (dS (#v[0,0,0,0,0])) (λ_ s=>ak [2] rfl s) ?_;exact .inl ⟨by omega,rfl,rfl⟩
 · skip
   refine dq (aa rfl) rfl rfl (ck rfl rfl) ?_;refine dq (bN rfl rfl rfl) rfl rfl (ck rfl rfl) ?_;refine dq (bN rfl rfl rfl) rfl rfl (PV.geq rfl rfl rfl) ?_;refine an (λh16=>?_) (λh16=>?_)
   · skip
     refine dq (aa rfl) rfl rfl (lY rfl rfl rfl) ?_;refine ap ?_;refine ac hK4 ?_;clear hK4;refine iO rfl ?_;refine ab (λK6 hK6=>?_);refine ad ?_;refine dq (aa rfl) rfl rfl (aN (vs:=ints (#v[0,0,0,0,0]).toList) rfl jC rfl eV rfl (dN 0 rfl rfl) (dS (#v[0,0,0,0,0])) (whole (dS (#v[0,0,0,0,0])))) ?_;refine bJ (vs:=ints (#v[0,0,0,0,0]).toList) (i:=1) (H':=[ah b5 (ints (#v[0,0,0,0,0]).toList) 42,ah b4 (ints (#v[0,0,0,0,0]).toList) 42,cb c a g]) (aa rfl) rfl rfl rfl rfl rfl (by rw[(dS (#v[0,0,0,0,0]))];exact eV) (bw _) rfl rfl (by have h0:=(dS (#v[0,0,0,0,0]));have h1:=(dS (#v[0,0,0,0,0]));omega) (cn ((dS (#v[0,0,0,0,0])).trans (dS (#v[0,0,0,0,0])).symm)) rfl ?_;refine ap ?_;refine ac hK6 ?_;clear hK6;refine ai ?_;refine ae ?_;clear hK3;refine xF (H':=[cb c a g]) rfl rfl jC rfl eV (dN 1 rfl rfl) (dS (#v[0,0,0,0,0])) (λ_ s=>ak [2] rfl s) ?_;exact .inl ⟨by omega,rfl,rfl⟩
   · skip
     refine dq (aa rfl) rfl rfl (lY rfl rfl rfl) ?_;refine ap ?_;refine ac hK4 ?_;clear hK4;refine sO rfl ?_;refine aR ?_;refine ac hK3 ?_;clear hK3;refine ab (λK7 hK7=>?_);refine ad ?_;refine dq (aa rfl) rfl rfl (ck rfl rfl) ?_;refine gV (A:=[cb c a g]) (B:=[ah b5 (ints (#v[0,0,0,0,0]).toList) 42,ah b4 (ints (#v[0,0,0,0,0]).toList) 42]) (aa rfl) rfl rfl rfl Md rfl (tH c n a g h) (λ_ s=>aC [2] rfl s) (λ_ _ _=>trivial) (λvR HR hR=>?_);obtain⟨bt,d,r,rfl,rfl⟩:=hR;change TL _ _ _ _ _ _ _ _ _ [cb c a g,nB a d r,ah bt (ints (br a).flat) 121,ah b5 (ints (#v[0,0,0,0,0]).toList) 42,ah b4 (ints (#v[0,0,0,0,0]).toList) 42];refine dq (aa rfl) rfl rfl (o7 rfl rfl) ?_;refine ap ?_;refine ac hK7 ?_;clear hK7;refine ab (λK8 hK8=>?_);refine ad ?_;refine lG (aa rfl) rfl rfl rfl Lx (λb7=>?_);change TL _ _ _ _ _ _ _ _ _ [ah b7 (ints ((#v[CellT.zero,CellT.zero,CellT.zero,CellT.zero,CellT.zero]).toList.flatMap CellT.flat)) 132,cb c a g,nB a d r,ah bt (ints (br a).flat) 121,ah b5 (ints (#v[0,0,0,0,0]).toList) 42,ah b4 (ints (#v[0,0,0,0,0]).toList) 42];refine ap ?_;refine ac hK8 ?_;clear hK8;refine ab (λK9 hK9=>?_);refine ab (λK10 hK10=>?_);refine ad ?_;refine dq (aa rfl) rfl rfl (ck rfl rfl) ?_;refine ap ?_;refine ac hK10 ?_;clear hK10;refine aq ?_
     refine bp (α:=(Nat)) (λi=>i≤5) (λi=>[(0,(.pointer (some ⟨c,0,none⟩))),(1,(.int .i64 (key))),(4,(.pointer (some ⟨b4,0,none⟩))),(5,(.pointer (some ⟨b5,0,none⟩))),(6,(.pointer (some ⟨bt,0,none⟩))),(7,(.pointer (some ⟨b7,0,none⟩))),(21,(.int .i64 (((i:Nat):Int))))]) (λi=>[cb c a g,nB a d r,ah bt (ints (br a).flat) 121,ah b7 (ints ((j7 (br a) key i).toList.flatMap CellT.flat)) 132,ah b5 (ints (#v[0,0,0,0,0]).toList) 42,ah b4 (ints (#v[0,0,0,0,0]).toList) 42]) (λi=>5-i) 0
      (aO _) (aM (aM (aM (aM (aM (aM (bg rfl (by congr 1) (m3 _))))))))
      (λ_ s=>ak [1,1,1,0,0,0] rfl s) (λi hinv=>?_)
     obtain hi:=hinv;refine ab (λK11 hK11=>?_);refine ad ?_;refine dq (aa rfl) rfl rfl (JE rfl rfl rfl) ?_;refine an (λh22=>?_) (λh22=>?_)
     · skip
       refine ap ?_;refine ac hK11 ?_;clear hK11;refine ab (λK12 hK12=>?_);refine iO rfl ?_;refine aR ?_;refine ac hK12 ?_;clear hK12;refine ab (λK13 hK13=>?_);refine aq ?_;refine ab (λK14 hK14=>?_);refine ad ?_;refine dq (aa rfl) rfl rfl (ck rfl rfl) ?_;refine dq (aa rfl) rfl rfl (o7 rfl rfl) ?_;refine ap ?_;refine ac hK14 ?_;clear hK14;refine ad ?_;refine dq (aa rfl) rfl rfl (ck rfl rfl) ?_;refine dq (aa rfl) rfl rfl (ck rfl rfl) ?_;refine dq (aa rfl) rfl rfl (ck rfl rfl) ?_;refine dq (aa rfl) rfl rfl (ck rfl rfl) ?_;refine gV (A:=[ah bt (ints (br a).flat) 121]) (B:=[cb c a g,nB a d r,ah b7 (ints ((j7 (br a) key i).toList.flatMap CellT.flat)) 132,ah b5 (ints (#v[0,0,0,0,0]).toList) 42,ah b4 (ints (#v[0,0,0,0,0]).toList) 42]) (aa rfl) rfl rfl rfl KP rfl (ny bt 0 121 (λx=>ints x.flat) Arnd.whole (br a) ((i:Nat):Int) key) (λ_ s=>aC [2] rfl s) (λ_ _ _=>trivial) (λvR HR hR=>?_);obtain⟨rfl,rfl⟩:=hR;change TL _ _ _ _ _ _ _ _ _ [ah bt (ints (br a).flat) 121,cb c a g,nB a d r,ah b7 (ints ((j7 (br a) key i).toList.flatMap CellT.flat)) 132,ah b5 (ints (#v[0,0,0,0,0]).toList) 42,ah b4 (ints (#v[0,0,0,0,0]).toList) 42];refine dq (aa rfl) rfl rfl (eL (r:=i*7) rfl xD fw rfl rfl (by omega) (by omega) (by omega)) ?_
       refine bJ (vs:=ints (ik (br a) key i).flat) (i:=3) (H':=[ah bt (ints (br a).flat) 121,cb c a g,nB a d r,ah b7 (ints ((j7 (br a) key (i+1)).toList.flatMap CellT.flat)) 132,ah b5 (ints (#v[0,0,0,0,0]).toList) 42,ah b4 (ints (#v[0,0,0,0,0]).toList) 42]) (aa rfl) rfl rfl rfl rfl rfl (by rw[bo];exact fw) (bw _) rfl rfl (by rw[Li,bo];omega) (M5 (by omega) (by omega)) rfl ?_;refine ap ?_;refine af ?_;refine ac hK13 ?_;clear hK13;refine ad ?_;refine dq (aa rfl) rfl rfl (ci rfl rfl rfl (bI (by omega) (by omega))) ?_;refine dq (aa rfl) rfl rfl (ck rfl rfl) ?_;refine ap ?_
       exact aI ((i+1):(Nat)) (by omega) (by show 5- (i+1)<5-i;omega)
        (aM (aM (aM (aM (aM (aM (bg rfl (by simp) (m3 _))))))))
        (λ_ s=>ak [1,1,0,0,0,0] rfl s)
     · skip
       refine ap ?_;refine ac hK11 ?_;clear hK11;refine ab (λK15 hK15=>?_);refine sO rfl ?_;refine aW ?_;refine az ?_;clear hK15;refine az ?_;refine bm ?_;refine ac hK9 ?_;clear hK9;refine ab (λK16 hK16=>?_);refine ab (λK17 hK17=>?_);refine ad ?_;obtain rfl:i=5:=by omega
       change TL _ _ _ _ _ _ _ _ _ [cb c a g,nB a d r,ah bt (ints (br a).flat) 121,ah b7 (ints ((j7 (br a) key 5).toList.flatMap CellT.flat)) 132,ah b5 (ints (ql (br a) key (dU a) 0)) 42,ah b4 (ints (#v[0,0,0,0,0]).toList) 42];refine dq (aa rfl) rfl rfl (ck rfl rfl) ?_;refine gV (A:=[cb c a g]) (B:=[nB a d r,ah bt (ints (br a).flat) 121,ah b7 (ints ((j7 (br a) key 5).toList.flatMap CellT.flat)) 132,ah b5 (ints (ql (br a) key (dU a) 0)) 42,ah b4 (ints (#v[0,0,0,0,0]).toList) 42]) (aa rfl) rfl rfl rfl KU rfl (qV c n a g h) (λ_ s=>s) (λ_ _ _=>trivial) (λvR HR hR=>?_);obtain⟨d2,r2,rfl,rfl⟩:=hR;change TL _ _ _ _ _ _ _ _ _ [cb c a g,nB a d2 r2,nB a d r,ah bt (ints (br a).flat) 121,ah b7 (ints ((j7 (br a) key 5).toList.flatMap CellT.flat)) 132,ah b5 (ints (ql (br a) key (dU a) 0)) 42,ah b4 (ints (#v[0,0,0,0,0]).toList) 42];refine gV (A:=[]) (B:=[cb c a g,nB a d2 r2,nB a d r,ah bt (ints (br a).flat) 121,ah b7 (ints ((j7 (br a) key 5).toList.flatMap CellT.flat)) 132,ah b5 (ints (ql (br a) key (dU a) 0)) 42,ah b4 (ints (#v[0,0,0,0,0]).toList) 42]) (aa rfl) rfl rfl rfl Ma rfl (sd (dU a) (tu h)) (λ_ s=>s) (λ_ _ _=>trivial) (λvR HR hR=>?_);obtain⟨rfl,rfl⟩:=hR;change TL _ _ _ _ _ _ _ _ _ [cb c a g,nB a d2 r2,nB a d r,ah bt (ints (br a).flat) 121,ah b7 (ints ((j7 (br a) key 5).toList.flatMap CellT.flat)) 132,ah b5 (ints (ql (br a) key (dU a) 0)) 42,ah b4 (ints (#v[0,0,0,0,0]).toList) 42]
       refine dq (aa rfl) rfl rfl (ck rfl rfl) ?_;refine ap ?_;refine ac hK17 ?_;clear hK17;refine aq ?_
       refine bp (α:=(Nat)) (λi=>i≤5) (λi=>[(4,(.pointer (some ⟨b4,0,none⟩))),(5,(.pointer (some ⟨b5,0,none⟩))),(7,(.pointer (some ⟨b7,0,none⟩))),(33,(.agg (ints (lS (dU a) 5)).toArray)),(34,(.int .i64 (((i:Nat):Int))))]) (λi=>[cb c a g,nB a d2 r2,ah b7 (ints ((j7 (br a) key 5).toList.flatMap CellT.flat)) 132,ah b5 (ints (ql (br a) key (dU a) i)) 42,ah b4 (ints (#v[0,0,0,0,0]).toList) 42]) (λi=>5-i) 0
        (aO _) (aM (aM (aM (aM (bg rfl (by congr 1) (m3 _))))))
        (λ_ s=>ak [0,0,2,2,2] rfl s) (λi hinv=>?_)
       obtain hi:=hinv;refine ab (λK18 hK18=>?_);refine ad ?_;refine dq (aa rfl) rfl rfl (JE rfl rfl rfl) ?_;refine an (λh35=>?_) (λh35=>?_)
       · skip
         refine ap ?_;refine ac hK18 ?_;clear hK18;refine ab (λK19 hK19=>?_);refine iO rfl ?_;refine aR ?_;refine ac hK19 ?_;clear hK19;refine ab (λK20 hK20=>?_);refine aq ?_;refine ab (λK21 hK21=>?_);refine ad ?_;refine dq (aa rfl) rfl rfl (ck rfl rfl) ?_;refine dq (aa rfl) rfl rfl (jQ (cs:=ints (lS (dU a) 5)) (v:=(.int .i64 (oX (dU a) i))) (r:=i) rfl jC Y3 rfl aQ rfl rfl (by omega) (by omega) (by omega) (Bh (by omega))) ?_;refine dq (aa rfl) rfl rfl (o7 rfl rfl) ?_;refine dq (aa rfl) rfl rfl (o7 rfl rfl) ?_;refine ap ?_;refine ac hK21 ?_;clear hK21;refine ab (λK22 hK22=>?_);refine ab (λK23 hK23=>?_);refine ad ?_;refine dq (aa rfl) rfl rfl (ck rfl rfl) ?_;refine dq (aa rfl) rfl rfl (JE rfl rfl rfl) ?_;refine an (λh39=>?_) (λh39=>?_)
         · skip
           refine dq (aa rfl) rfl rfl (ck rfl rfl) ?_;refine kH (b:=true) rfl rfl rfl rfl (lb rfl) ?_;refine kH (b:=true) rfl rfl rfl rfl (lb rfl) ?_;refine dq (aa rfl) rfl rfl (lY rfl rfl rfl) ?_;refine ap ?_;refine ac hK23 ?_;clear hK23;refine iO rfl ?_;refine aW ?_;refine az ?_;clear hK22;refine bm ?_;refine ac hK20 ?_;clear hK20;refine ad ?_;refine dq (aa rfl) rfl rfl (ci rfl rfl rfl (bI (by omega) (by omega))) ?_;refine dq (aa rfl) rfl rfl (ck rfl rfl) ?_;refine ap ?_
           exact aI ((i+1):(Nat)) (by omega) (by show 5- (i+1)<5-i;omega)
            (aM (aM (aM (aM (bg rfl (by simp) (m3 _))))))
            (λ_ q=>by show bE [cb c a g,nB a d2 r2,ah b7 (ints ((j7 (br a) key 5).toList.flatMap CellT.flat)) 132,ah b5 (ints (ql (br a) key (dU a) (i+1))) 42,ah b4 (ints (#v[0,0,0,0,0]).toList) 42] _;rw[ql,if_neg (by omega)];exact ak [0,0,0,0,0] rfl q)
         · skip
           refine dq (aa rfl) rfl rfl (ck rfl rfl) ?_;refine dq (bN rfl rfl rfl) rfl rfl (ck rfl rfl) ?_;refine dq (bN rfl rfl rfl) rfl rfl (PV.geq rfl rfl rfl) ?_;refine an (λh42=>?_) (λh42=>?_)
           · skip
             refine dq (aa rfl) rfl rfl (lY rfl rfl rfl) ?_;refine ap ?_;refine ac hK23 ?_;clear hK23;refine iO rfl ?_;refine aW ?_;refine az ?_;clear hK22;refine bm ?_;refine ac hK20 ?_;clear hK20;refine ad ?_;refine dq (aa rfl) rfl rfl (ci rfl rfl rfl (bI (by omega) (by omega))) ?_;refine dq (aa rfl) rfl rfl (ck rfl rfl) ?_;refine ap ?_
             exact aI ((i+1):(Nat)) (by omega) (by show 5- (i+1)<5-i;omega)
              (aM (aM (aM (aM (bg rfl (by simp) (m3 _))))))
              (λ_ q=>by show bE [cb c a g,nB a d2 r2,ah b7 (ints ((j7 (br a) key 5).toList.flatMap CellT.flat)) 132,ah b5 (ints (ql (br a) key (dU a) (i+1))) 42,ah b4 (ints (#v[0,0,0,0,0]).toList) 42] _;rw[ql,if_neg (by omega)];exact ak [0,0,0,0,0] rfl q)
           · skip
             obtain⟨ow,how,hw5⟩: ∃ow:Nat,oX (dU a) i=((ow:Nat):Int)∧ow<5:=⟨(oX (dU a) i).toNat,by omega,by omega⟩;rw[how];refine dq (aa rfl) rfl rfl (lY rfl rfl rfl) ?_;refine ap ?_;refine ac hK23 ?_;clear hK23;refine sO rfl ?_;refine aR ?_;refine ac hK22 ?_;clear hK22;refine ab (λK24 hK24=>?_);refine n8 (λw=>Frm F w∧w.heap[b7]?=some (.cells (ints ((j7 (br a) key 5).toList.flatMap CellT.flat)).toArray 132 (0,0))∧True) dB rfl (λ_ s=>⟨ez s,s.block 2 (lb rfl) rfl,trivial⟩) ?_;refine dy (i:=0) rfl (by kernel_rfl) (by kernel_rfl) (by kernel_rfl) (λ_ _ _ _ h=>h) (aa rfl) rfl rfl (ck rfl rfl) ?_;refine dy (i:=1) rfl (by kernel_rfl) (by kernel_rfl) (by kernel_rfl) (λ_ _ _ _ h=>h) (aa rfl) rfl rfl (eL (r:=ow) rfl jC aQ rfl rfl (by omega) (by omega) (by omega)) ?_;refine dy (i:=3) rfl (by kernel_rfl) (by kernel_rfl) (by kernel_rfl) (λ_ _ _ _ h=>h) (aa rfl) rfl rfl (ck rfl rfl) ?_;refine dy (i:=4) rfl (by kernel_rfl) (by kernel_rfl) (by kernel_rfl) (λ_ _ _ _ h=>h) (aa rfl) rfl rfl (eL (r:=i*7) rfl xD fw rfl rfl (by omega) (by omega) (by omega)) ?_;refine dy (i:=5) rfl (by kernel_rfl) (by kernel_rfl) (by kernel_rfl) (λ_ _ _ _ h=>h) (aa rfl) rfl rfl (aY (r:=i*7) rfl mC rfl aQ rfl rfl) ?_
             refine dy (i:=6) rfl (by kernel_rfl) (by kernel_rfl) (by kernel_rfl) (λ_ _ _ _ h=>h) (aa rfl) rfl rfl (fc (v:=(.int .i64 ((ik (br a) key i).inn))) rfl Y3 rfl rfl (λ_ h=>h.2.1) (Ic 0 (by omega) (by omega) (by decide) (rq _ rfl))) ?_;refine dy (i:=7) rfl (by kernel_rfl) (by kernel_rfl) (by kernel_rfl) (λ_ _ _ _ h=>h) (aa rfl) rfl rfl (ck rfl rfl) ?_;refine dy (i:=8) rfl (by kernel_rfl) (by kernel_rfl) (by kernel_rfl) (λ_ _ _ _ h=>h) (aa rfl) rfl rfl (eL (r:=i*7) rfl xD fw rfl rfl (by omega) (by omega) (by omega)) ?_;refine dy (i:=9) rfl (by kernel_rfl) (by kernel_rfl) (by kernel_rfl) (λ_ _ _ _ h=>h) (aa rfl) rfl rfl (aY (r:=i*7+1) rfl mC rfl aQ rfl rfl) ?_;refine dy (i:=10) rfl (by kernel_rfl) (by kernel_rfl) (by kernel_rfl) (λ_ _ _ _ h=>h) (aa rfl) rfl rfl (fc (v:=(.int .i64 ((ik (br a) key i).out))) rfl Y3 rfl rfl (λ_ h=>h.2.1) (Ic 1 (by omega) (by omega) (by decide) (rm _ rfl))) ?_;refine dy (i:=11) rfl (by kernel_rfl) (by kernel_rfl) (by kernel_rfl) (λ_ _ _ _ h=>h) (aa rfl) rfl rfl (iP (r:=(fP ((ik (br a) key i).inn- (ik (br a) key i).out))) rfl rfl rfl rfl) ?_;refine cx [2] (by kernel_rfl) rfl ?_;refine aE rfl ?_ ?_
             · skip
               refine dq (aa rfl) rfl rfl (fc (v:=(.int .i64 ((ql (br a) key (dU a) i).getD ow 0))) rfl Y3 rfl rfl (dN 3 rfl rfl) (HT (by omega) (by simp only[GZ,KB,cu,p7,jm,ix];omega))) ?_;refine ap ?_;refine mZ (λ_ s=>⟨ez s,s.block 2 (lb rfl) rfl,trivial⟩) ?_;refine dy (i:=12) rfl (by kernel_rfl) (by kernel_rfl) (by kernel_rfl) (λ_ _ _ _ h=>h) (aa rfl) rfl rfl (ci (r:=(fP ((ql (br a) key (dU a) i).getD ow 0+fP ((ik (br a) key i).inn- (ik (br a) key i).out)))) rfl rfl rfl rfl) ?_;refine dy (i:=13) rfl (by kernel_rfl) (by kernel_rfl) (by kernel_rfl) (λ_ _ _ _ h=>h) (aa rfl) rfl rfl (eL (r:=ow) rfl jC aQ rfl rfl (by omega) (by omega) (by omega)) ?_;refine cx [14] (by kernel_rfl) rfl ?_;refine aE rfl ?_ ?_
               · skip
                 refine bD (i:=3) (H':=[cb c a g,nB a d2 r2,ah b7 (ints ((j7 (br a) key 5).toList.flatMap CellT.flat)) 132,ah b5 (ints (GZ (br a) key i ow (ql (br a) key (dU a) i))) 42,ah b4 (ints (#v[0,0,0,0,0]).toList) 42]) (aa rfl) rfl rfl rfl rfl rfl aQ rfl rfl (by simp only[ints_length,GZ,KB,cu,p7,jm,ix];omega) (HS (by omega)) rfl ?_;refine ap ?_;refine mZ (λ_ s=>⟨ez s,s.block 2 (lb rfl) rfl,trivial⟩) ?_;refine OE (by kernel_rfl) ?_;refine ac hK24 ?_;clear hK24;refine ab (λK25 hK25=>?_);refine ad ?_;refine dq (aa rfl) rfl rfl (ck rfl rfl) ?_;refine ap ?_;refine ac hK25 ?_;clear hK25;refine aq ?_
                 refine bp (α:=(Nat)) (λj=>j≤5) (λj=>[(4,(.pointer (some ⟨b4,0,none⟩))),(5,(.pointer (some ⟨b5,0,none⟩))),(7,(.pointer (some ⟨b7,0,none⟩))),(9,(.int .i64 (((i:Nat):Int)))),(10,(.int .i64 (((ow:Nat):Int)))),(33,(.agg (ints (lS (dU a) 5)).toArray)),(34,(.int .i64 (((i:Nat):Int)))),(58,(.int .i64 (((j:Nat):Int))))]) (λj=>[cb c a g,nB a d2 r2,ah b7 (ints ((j7 (br a) key 5).toList.flatMap CellT.flat)) 132,ah b5 (ints (JI (br a) key i ow (GZ (br a) key i ow (ql (br a) key (dU a) i)) j)) 42,ah b4 (ints (#v[0,0,0,0,0]).toList) 42]) (λj=>5-j) 0
                  (aO _) (aM (aM (aM (aM (aM (aM (aM (bg rfl (by congr 1) (m3 _)))))))))
                  (λ_ s=>s) (λj hinv=>?_)
                 obtain hj:=hinv;refine ab (λK26 hK26=>?_);refine ad ?_;refine dq (aa rfl) rfl rfl (JE rfl rfl rfl) ?_;refine an (λh59=>?_) (λh59=>?_)
                 · skip
                   refine ap ?_;refine ac hK26 ?_;clear hK26;refine ab (λK27 hK27=>?_);refine iO rfl ?_;refine aR ?_;refine ac hK27 ?_;clear hK27;refine ab (λK28 hK28=>?_);refine aq ?_;refine ab (λK29 hK29=>?_);refine ad ?_;refine dq (aa rfl) rfl rfl (ck rfl rfl) ?_;refine dq (aa rfl) rfl rfl (o7 rfl rfl) ?_;refine ap ?_;refine ac hK29 ?_;clear hK29;refine n8 (λw=>Frm F w∧w.heap[b7]?=some (.cells (ints ((j7 (br a) key 5).toList.flatMap CellT.flat)).toArray 132 (0,0))∧True) dB rfl (λ_ s=>⟨ez s,s.block 2 (lb rfl) rfl,trivial⟩) ?_;refine dy (i:=0) rfl (by kernel_rfl) (by kernel_rfl) (by kernel_rfl) (λ_ _ _ _ h=>h) (aa rfl) rfl rfl (ck rfl rfl) ?_;refine dy (i:=1) rfl (by kernel_rfl) (by kernel_rfl) (by kernel_rfl) (λ_ _ _ _ h=>h) (aa rfl) rfl rfl (eL (r:=ow) rfl jC aQ rfl rfl (by omega) (by omega) (by omega)) ?_;refine dy (i:=3) rfl (by kernel_rfl) (by kernel_rfl) (by kernel_rfl) (λ_ _ _ _ h=>h) (aa rfl) rfl rfl (ck rfl rfl) ?_;refine dy (i:=4) rfl (by kernel_rfl) (by kernel_rfl) (by kernel_rfl) (λ_ _ _ _ h=>h) (aa rfl) rfl rfl (ck rfl rfl) ?_;refine dy (i:=5) rfl (by kernel_rfl) (by kernel_rfl) (by kernel_rfl) (λ_ _ _ _ h=>h) (aa rfl) rfl rfl (eL (r:=j*7) rfl xD fw rfl rfl (by omega) (by omega) (by omega)) ?_;refine dy (i:=6) rfl (by kernel_rfl) (by kernel_rfl) (by kernel_rfl) (λ_ _ _ _ h=>h) (aa rfl) rfl rfl (aY (r:=j*7+2) rfl mC rfl eV rfl rfl) ?_
                   refine dy (i:=7) rfl (by kernel_rfl) (by kernel_rfl) (by kernel_rfl) (λ_ _ _ _ h=>h) (aa rfl) rfl rfl (eL (r:=j*7+2+i) rfl jC aQ rfl rfl (by omega) (by omega) (by omega)) ?_;refine dy (i:=8) rfl (by kernel_rfl) (by kernel_rfl) (by kernel_rfl) (λ_ _ _ _ h=>h) (aa rfl) rfl rfl (fc (v:=(.int .i64 ((ik (br a) key j).given.toList.getD i 0))) rfl Y3 rfl rfl (λ_ h=>h.2.1) (B8 (by omega) (by omega) (by omega))) ?_;refine dy (i:=9) rfl (by kernel_rfl) (by kernel_rfl) (by kernel_rfl) (λ_ _ _ _ h=>h) (aa rfl) rfl rfl (ck rfl rfl) ?_;refine dy (i:=10) rfl (by kernel_rfl) (by kernel_rfl) (by kernel_rfl) (λ_ _ _ _ h=>h) (aa rfl) rfl rfl (ck rfl rfl) ?_;refine dy (i:=11) rfl (by kernel_rfl) (by kernel_rfl) (by kernel_rfl) (λ_ _ _ _ h=>h) (aa rfl) rfl rfl (eL (r:=i*7) rfl xD fw rfl rfl (by omega) (by omega) (by omega)) ?_;refine dy (i:=12) rfl (by kernel_rfl) (by kernel_rfl) (by kernel_rfl) (λ_ _ _ _ h=>h) (aa rfl) rfl rfl (aY (r:=i*7+2) rfl mC rfl eV rfl rfl) ?_;refine dy (i:=13) rfl (by kernel_rfl) (by kernel_rfl) (by kernel_rfl) (λ_ _ _ _ h=>h) (aa rfl) rfl rfl (eL (r:=i*7+2+j) rfl jC aQ rfl rfl (by omega) (by omega) (by omega)) ?_
                   refine dy (i:=14) rfl (by kernel_rfl) (by kernel_rfl) (by kernel_rfl) (λ_ _ _ _ h=>h) (aa rfl) rfl rfl (fc (v:=(.int .i64 ((ik (br a) key i).given.toList.getD j 0))) rfl Y3 rfl rfl (λ_ h=>h.2.1) (B8 (by omega) (by omega) (by omega))) ?_;refine dy (i:=15) rfl (by kernel_rfl) (by kernel_rfl) (by kernel_rfl) (λ_ _ _ _ h=>h) (aa rfl) rfl rfl (iP (r:=(fP ((ik (br a) key j).given.toList.getD i 0- (ik (br a) key i).given.toList.getD j 0))) rfl rfl rfl rfl) ?_;refine cx [2] (by kernel_rfl) rfl ?_;refine aE rfl ?_ ?_
                   · skip
                     refine dq (aa rfl) rfl rfl (fc (v:=(.int .i64 ((JI (br a) key i ow (GZ (br a) key i ow (ql (br a) key (dU a) i)) j).getD ow 0))) rfl Y3 rfl rfl (dN 3 rfl rfl) (HT (by omega) (by simp only[GZ,KB,cu,p7,jm,ix];omega))) ?_;refine ap ?_;refine mZ (λ_ s=>⟨ez s,s.block 2 (lb rfl) rfl,trivial⟩) ?_;refine dy (i:=16) rfl (by kernel_rfl) (by kernel_rfl) (by kernel_rfl) (λ_ _ _ _ h=>h) (aa rfl) rfl rfl (ci (r:=(fP ((JI (br a) key i ow (GZ (br a) key i ow (ql (br a) key (dU a) i)) j).getD ow 0+fP ((ik (br a) key j).given.toList.getD i 0- (ik (br a) key i).given.toList.getD j 0)))) rfl rfl rfl rfl) ?_;refine dy (i:=17) rfl (by kernel_rfl) (by kernel_rfl) (by kernel_rfl) (λ_ _ _ _ h=>h) (aa rfl) rfl rfl (eL (r:=ow) rfl jC aQ rfl rfl (by omega) (by omega) (by omega)) ?_;refine cx [18] (by kernel_rfl) rfl ?_;refine aE rfl ?_ ?_
                     · skip
                       refine bD (i:=3) (H':=[cb c a g,nB a d2 r2,ah b7 (ints ((j7 (br a) key 5).toList.flatMap CellT.flat)) 132,ah b5 (ints (KB (br a) key i ow j (JI (br a) key i ow (GZ (br a) key i ow (ql (br a) key (dU a) i)) j))) 42,ah b4 (ints (#v[0,0,0,0,0]).toList) 42]) (aa rfl) rfl rfl rfl rfl rfl aQ rfl rfl (by simp only[ints_length,GZ,KB,cu,p7,jm,ix];omega) (HS (by omega)) rfl ?_;refine ap ?_;refine mZ (λ_ s=>⟨ez s,s.block 2 (lb rfl) rfl,trivial⟩) ?_;refine OE (by kernel_rfl) ?_;refine af ?_;refine ac hK28 ?_;clear hK28;refine ad ?_;refine dq (aa rfl) rfl rfl (ci rfl rfl rfl (bI (by omega) (by omega))) ?_;refine dq (aa rfl) rfl rfl (ck rfl rfl) ?_;refine ap ?_
                       exact aI ((j+1):(Nat)) (by omega) (by show 5- (j+1)<5-j;omega)
                        (aM (aM (aM (aM (aM (aM (aM (bg rfl (by simp) (m3 _)))))))))
                        (λ_ s=>s)
                     exact bz
                   exact bz
                 · skip
                   refine ap ?_;refine ac hK26 ?_;clear hK26;refine ab (λK30 hK30=>?_);refine sO rfl ?_;refine aW ?_;refine az ?_;clear hK30;refine az ?_;refine bm ?_;refine af ?_;refine ac hK20 ?_;clear hK20;refine ad ?_;refine dq (aa rfl) rfl rfl (ci rfl rfl rfl (bI (by omega) (by omega))) ?_;refine dq (aa rfl) rfl rfl (ck rfl rfl) ?_;refine ap ?_
                   exact aI ((i+1):(Nat)) (by omega) (by show 5- (i+1)<5-i;omega)
                    (aM (aM (aM (aM (bg rfl (by simp) (m3 _))))))
                    (λ_ q=>by show bE [cb c a g,nB a d2 r2,ah b7 (ints ((j7 (br a) key 5).toList.flatMap CellT.flat)) 132,ah b5 (ints (ql (br a) key (dU a) (i+1))) 42,ah b4 (ints (#v[0,0,0,0,0]).toList) 42] _;rw[ql,if_pos (by omega),show(oX (dU a) i).toNat=ow by omega];rw[show j=5 by omega]at q;exact ak [0,0,0,0,0] rfl q)
               exact bz
             exact bz
       · skip
         refine ap ?_;refine ac hK18 ?_;clear hK18;refine ab (λK31 hK31=>?_);refine sO rfl ?_;refine aW ?_;refine az ?_;clear hK31;refine az ?_;refine bm ?_;refine ac hK16 ?_;clear hK16;refine ab (λK32 hK32=>?_);refine ad ?_;obtain rfl:i=5:=by omega
         refine dq (aa rfl) rfl rfl (aN (vs:=ints (ql (br a) key (dU a) 5)) rfl jC rfl eV rfl (dN 3 rfl rfl) (by simp only[ints_length,jm]) (by rw[aV,aB (by simp only[ints_length,jm];exact aK _)])) ?_;refine bJ (vs:=ints (ql (br a) key (dU a) 5)) (i:=4) (H':=[cb c a g,nB a d2 r2,ah b7 (ints ((j7 (br a) key 5).toList.flatMap CellT.flat)) 132,ah b5 (ints (ql (br a) key (dU a) 5)) 42,ah b4 (ints (ql (br a) key (dU a) 5)) 42]) (aa rfl) rfl rfl rfl rfl rfl (by simp only[ints_length,jm];exact eV) (bw _) rfl rfl (by simp only[ints_length,jm];exact aK _) (fD (by simp only[ints_length,jm];rfl)) rfl ?_;refine ap ?_;refine ac hK32 ?_;clear hK32;refine ai ?_;refine xF (H':=[cb c a g,nB a d2 r2]) rfl rfl jC rfl eV (dN 4 rfl rfl) (by rw[ints_length,jm]) (λ_ s=>ak [0,0] rfl s) ?_;exact .inr ⟨by omega,d2,r2,rfl,rfl⟩
end Go.Proofs.YtjblgopghhgflaaGreat
end

section
namespace Api
open Go Leg Codec Dsk Wal
def nZ:CL:=jo Jk 2
theorem zL:CLOk 1 nZ:=fitA_ok.settle 2
def MU:Bool:=decide (mB (br nZ) 0=5)&&decide ((ql (br nZ) 0 (dU nZ) 5).getD 0 0=5)&&decide ((dU nZ).flat=firstV.flat)
theorem Gq:MU=true:=by decide+kernel
theorem HZ:mB (br nZ) 0=5∧(ql (br nZ) 0 (dU nZ) 5).getD 0 0=5∧(dU nZ).flat=firstV.flat:=by
 have h:=Gq;unfold MU at h;rw[av,av]at h;exact⟨of_decide_eq_true h.1.1,of_decide_eq_true h.1.2,of_decide_eq_true h.2⟩
end Api
end

section
namespace Go.Proofs.YtjblgopghhgflaaGreat
open Go Leg Codec Api Dsk Wal
theorem NH:Tryz.prog.eqGuardType Tryz.prog.depth 44=false:=by kernel_rfl
theorem NC:Tryz.prog.keyTypeAt 4 44=true:=by kernel_rfl
theorem Og:ng Tryz.prog 4 44=some 7:=by kernel_rfl
theorem MZ:(match Tryz.prog.underlying 44 with|some (.struct _)|some (.array _ _)=>true|_=>false)=true:=by kernel_rfl
theorem M4:Tryz.prog.cellsOf 44=7:=by kernel_rfl
theorem NF:Tryz.prog.eqGuardType Tryz.prog.depth 60=false:=by kernel_rfl
theorem NA:Tryz.prog.keyTypeAt 8 60=true:=by kernel_rfl
theorem Oe:ng Tryz.prog 8 60=some 174:=by kernel_rfl
theorem MX:(match Tryz.prog.underlying 60 with|some (.struct _)|some (.array _ _)=>true|_=>false)=true:=by kernel_rfl
theorem M2:Tryz.prog.cellsOf 60=174:=by kernel_rfl
theorem Dy:
 DT 36 #[] T0 [] (RI (.bool true) []):=by
 refine BD 40 Tryz.func36 rfl rfl rfl λw0 F hF=>?_
 obtain⟨hf1,_⟩:=Jj;obtain⟨hv5,hs5,hf5⟩:=HZ;have hwl:WF (dU nZ).flat:=hf5▸OkVw.first.wf;refine sr λ_ J1=>PS ?_
 refine nx J1 (sr λ_ J2=>CR MF (ym) ID λvR HR hR=>?_);obtain⟨c,rfl,rfl⟩:=hR;refine PS ?_;refine nx J2 (ab λ_ J3=>sr λ_ J4=>PS ?_);refine tp (iQ rfl M7 rfl rfl) ?_;refine nx J4 (CN (qx J3 (sr λ_ J5=>PS ?_)));refine tp (kI OpT.zero (OpT.mk 0 0 0 0 5 ChangeT.zero 0 0 0) [(0,[Value.int .i64 0]),(4,[Value.int .i64 5])] fC o8 (g:=OpT.sg)) ?_;refine CR Jb (sF (c:=c) (o:=BH) new_ok (by decide) BG) ID λvR HR hR=>?_
 obtain⟨hv,rfl⟩:=hR;rw[hf1]at hv;subst hv;refine nx J5 (sr λ_ J6=>PS ?_);refine CZ N8 (zb c 1 Jk fitA_ok (by decide) 2 (by decide)) ID λvR=>?_
 refine nx J6 (sr λ_ J7=>PS ?_);refine Kt (H':=λg:CX=>[cb c nZ g]) (λ_ s=>yC s) (λg=>CR Md (tH c 1 nZ g zL) ID λvR HR hR=>?_);obtain⟨bt,d,r,rfl,rfl⟩:=hR;refine PS ?_;refine nx J7 (sr λ_ J8=>PS ?_);refine tp (fS rfl Tryz.underlying72 rfl rfl) ?_;refine P2 ?_;refine CR Mc (pT bt 0 121 (λx=>ints x.flat) Arnd.whole (br nZ) 0) (SM [2]) λvR HR hR=>?_
 obtain⟨hv,rfl⟩:=hR;rw[hv5]at hv;subst hv;refine P4 ?_;refine CR N6 (za c 1 nZ g zL 0) (SM [1]) λvR HR hR=>?_
 obtain⟨_,d2,r2,rfl,rfl⟩:=hR.resolve_left (λq=>q.1 (by decide));refine tq (jQ (cs:=ints (ql (br nZ) 0 (dU nZ) 5)) (v:=(.int .i64 5)) (r:=0) rfl jC Y3 rfl aQ rfl rfl (by omega) (by omega) (by omega) ((HT rfl (by rw[jm];decide)).trans (by rw[hs5]))) ?_;refine P3 ?_;refine BV ((ints RowT.zero.flat).toArray) ?_;refine CR Bj (fW .zero II) ID λvR HR hR=>?_
 obtain⟨hv,rfl⟩:=hR;rw[show fL .zero=true by decide]at hv;subst hv;refine P3 ?_;refine CR KU (qV c 1 nZ g zL) ID λvR HR hR=>?_
 obtain⟨d3,r3,rfl,rfl⟩:=hR;refine CE KX (q7) ID ?_;refine tq (PV.eqlAgg (a:=(dU nZ).flat) (b:=firstV.flat) (m:=4) (c:=7) NH NC rfl Og (c9 (am (dU nZ))) (c9 (am firstV)) ⟨fJ MZ M4 (c9 (am (dU nZ))),fJ MZ M4 (c9 (am firstV))⟩ hwl OkVw.first.wf rfl rfl rfl) ?_;refine an ?_ ?_<;>intro h34;refine P2 ?_;refine CR KT (DO) ID λvR HR hR=>?_
 obtain⟨dn,rfl,rfl⟩:=hR;refine tq (fS rfl sM rfl rfl) ?_;refine P2 ?_;refine nx J8 (ai (WK [] (au rfl rfl ?_)));exact⟨by simp[hf5],rfl⟩
 · exact absurd hf5 h34
theorem Bx(x:Value)(l:List OpT)(hn:l.length≤100000)(hok: ∀o∈l,OkOp o):
 DT 40 #[x] (IsL 11 (EF OpT.flat) x l) [] (dm (λv H=>∃c:Nat,v= .pointer (some ⟨c,0,none⟩)∧H=[fG c (ln .new l)])):=by
 refine BD 18 Tryz.func40 rfl rfl rfl λw0 F hF=>sr λ_ J1=>PS ?_
 refine nx J1 (sr λ_ J2=>CR MF (ym) ID λvR HR hR=>?_);obtain⟨c,rfl,rfl⟩:=hR;refine PS ?_;refine nx J2 (ab λ_ J3=>sr λ_ J4=>PS ?_);refine tp (dF rfl Tryz.underlying22 rfl hF.len) ?_;refine PS ?_;refine nx J4 (aq ?_)
 refine bp (α:=(Nat)) (λk=>k≤l.length) (λk=>[(2,(.pointer none)),(3,(.pointer (some ⟨c,0,none⟩))),(7,x),(8,(.int .i64 (((l.length:Nat):Int)))),(9,(.int .i64 (((k:Nat):Int))))]) (λk=>[fG c (ln .new (l.take k))]) (λk=>l.length-k) 0
  (aO _) SB
  (λ_ s=>s) (λk hinv=>?_)
 obtain hk:=hinv;refine sr λ_ J5=>PS ?_
 refine an ?_ ?_<;>intro h10;obtain⟨b_e,off_e,cap_e,cs_e,T_e,z_e,us_e,hv_e,hc_e,hb_e,hl_e,hs_e,hE_e⟩:=IsL.at hF (j:=k) (by omega);have hkl:k<l.length:=by omega
 obtain⟨o,ho⟩: ∃o,o=l[k]:=⟨_,rfl⟩;replace hE_e:us_e=ints l[k].flat:=hE_e;rw[←ho]at hE_e;have hoo:OkOp o:=ho▸hok _ (dW ..);have hck:CLOk l.length (ln .new (l.take k)):=(C3 (l.take k) new_ok (λo ho=>hok o (lM ho))).more (by rw[bn];omega);refine nx J5 (ab λ_ J6=>CY (qx J6 (ab λ_ J7=>aq (sr λ_ J8=>tp (bT (r:=off_e+k*11) hv_e rfl Tryz.underlying22 AA rfl rfl (by omega) (by omega) (by omega)) ?_))));refine tp (OB (vs:=ints o.flat) rfl fC rfl AA rfl (Cq hb_e (λ_ h=>ez h)) (It _) (hs_e.trans hE_e)) ?_;refine XZ OD (ints OpT.zero.flat) λb5=>?_
 refine SW 0 AA It ?_;refine nx J8 (ad (PS ?_));refine LW 0 fC AA It ?_;refine CE Jb (sF (c:=c) (a:=ln .new (l.take k)) (o:=o) hck (by omega) hoo) (SM [1]) ?_;refine ap (af (ac J7 (ad (AD ?_))));refine PS ?_;refine ap ?_
 exact aI ((k+1):(Nat)) (by omega) (by show l.length- (k+1)<l.length-k;omega)
  SB
  (λ_ s=>by rw[FB .new l hkl,←ho];exact ak [0] rfl s)
 refine nx J5 (ab λ_ J9=>CN (aW (az (az (bm (ac J3 (sr λ_ J10=>P2 ?_)))))));exact nx J10 (ai (aF (H':=[fG c (ln .new l)]) (di _) (λ_ s=>by rw[show k=l.length by omega,ic]at s;exact s) (au rfl rfl ⟨c,rfl,rfl⟩)))
def wO(y:RowT):Nat:=if fL y=true then(gj (fF y)).length else 0
theorem Hj{v:ViewT}{i:Nat}(h:(gZ v ((i:Nat):Int)).isSome=true):oX v i=(gZ v ((i:Nat):Int)).getD 0:=by
 unfold oX;obtain⟨q,hq⟩:=Option.isSome_iff_exists.1 h;rw[hq];rfl
theorem Hk{v:ViewT}{i:Nat}(h: ¬(gZ v ((i:Nat):Int)).isSome=true):oX v i=((i:Nat):Int):=by
 unfold oX;rw[show gZ v ((i:Nat):Int)=none by simpa using h];rfl
theorem B9(y:RowT)(hw:WF y.flat):
 DT 47 #[(.agg (ints y.flat).toArray)] T0 [] (RI (.int .i64 ((wO y:Nat):Int)) []):=by
 refine BD 10 Tryz.func47 rfl rfl rfl λw0 F hF=>sr λ_ J1=>XY (ints y.flat) λb1=>?_
 refine PS ?_;refine nx J1 (ab λ_ J2=>sr λ_ J3=>LW 0 dD aZ ag ?_);refine CE Bj (fW y hw) ID ?_;refine aX ?_ ?_<;>intro h4;refine PS ?_;refine nx J3 (CN (qx J2 (sr λ_ J4=>LW 0 dD aZ ag ?_)));refine tp (kI RecT.zero (RecT.mk 0 0 y 0 BallotT.zero ChangeT.zero ViewT.zero) [(0,[Value.int .i64 0]),(2,ints y.flat)] iv eF (g:=RecT.sg)) ?_;refine CR I9 (nc (fF y)) ID λvR HR hR=>?_
 obtain⟨_,rfl,rfl⟩:=hR;revert vR;intro ue1;refine ib 0 rfl rfl (λhlue1 _=>tp (dF rfl gp rfl hlue1) ?_);refine PS ?_;refine nx J4 (ai (WK [] (au rfl rfl ?_)));exact⟨by rw[wO,if_pos h4],rfl⟩;refine PS ?_;refine nx J3 (CY (sr λ_ J5=>PS ?_));refine nx J5 (ai (ae (WK [] (au rfl rfl ?_))));exact⟨by rw[wO,if_neg (by rw[h4];decide)];rfl,rfl⟩
theorem tF(x:Value)(l:List OpT)(y:RowT)(hw:WF y.flat)(hok: ∀o∈l,OkOp o):
 DT 10 #[x,(.agg (ints y.flat).toArray)] (IsL 11 (EF OpT.flat) x l) [] (RI (.bool true) []):=by
 refine BD 81 Tryz.func10 rfl rfl rfl λw0 F hF=>sr λ_ J1=>XY (ints y.flat) λb3=>?_
 refine PS ?_;refine nx J1 (ab λ_ J2=>sr λ_ J3=>CE N7 (Dy) ID ?_);refine PS ?_;refine nx J3 (CN (qx J2 (ab λ_ J4=>sr λ_ J5=>PS ?_)));refine CF Ob (Do x l) ID (λ_ d _=>IsL.more EF.more hF d) ?_;refine an ?_ ?_<;>intro h17;refine PS ?_;refine nx J5 (CN (qx J4 (sr λ_ J6=>PS ?_)));have hcl:CLOk l.length (ln .new l):=(C3 l new_ok hok).more (by omega);refine CQ N5 (Bx x l (by omega) hok) ID (λ_ d _=>IsL.more EF.more hF d) λvR HR hR=>?_
 obtain⟨c,rfl,rfl⟩:=hR;change TL _ _ _ _ _ _ _ _ _ [fG c (ln .new l),ah b3 (ints y.flat) 60];refine Kt (H':=λg:CX=>[cb c (ln .new l) g,ah b3 (ints y.flat) 60]) (λ_ s=>yC s) (λg=>CR KU (qV c l.length (ln .new l) g hcl) ID λvR HR hR=>?_);obtain⟨d1,r1,rfl,rfl⟩:=hR;refine XZ rr (ints ViewT.zero.flat) λb5=>?_
 refine SW 0 bc am ?_;refine nx J6 (sr λ_ J7=>LW 0 eD bc am ?_);refine CE Ma (sd (dU (ln .new l)) (tu hcl)) ID ?_;refine XZ Lv (ints (#v[0,0,0,0,0]).toList) λb6=>?_
 refine bJ (vs:=ints (lS (dU (ln .new l)) 5)) (i:=0) (aa rfl) rfl rfl rfl rfl rfl (by rw[gQ];exact eV) (bw _) rfl rfl (by rw[gQ];exact aK _) (fD (by rw[gQ];rfl)) rfl (nx J7 (ab λ_ J8=>sr λ_ J9=>tp (aN (vs:=ints (lS (dU (ln .new l)) 5)) rfl jC rfl eV rfl (RO 0) (gQ _ _) (by rw[aV,aB (cE (gQ _ _))])) ?_));refine PS ?_;refine nx J9 (aq ?_)
 refine bp (α:=(Nat)) (λi=>i≤5) (λi=>[(3,(.pointer (some ⟨b3,0,none⟩))),(5,(.pointer (some ⟨b5,0,none⟩))),(24,(.agg (ints (lS (dU (ln .new l)) 5)).toArray)),(25,(.int .i64 (((i:Nat):Int))))]) (λi=>[ah b6 (ints (lS (dU (ln .new l)) 5)) 42,ah b5 (ints (dU (ln .new l)).flat) 44,cb c (ln .new l) g,nB (ln .new l) d1 r1,ah b3 (ints y.flat) 60]) (λi=>5-i) 0
  (aO _) SB
  (λ_ s=>s) (λi hinv=>?_)
 obtain hi:=hinv;refine sr λ_ J10=>PS ?_
 refine an ?_ ?_<;>intro h26;refine nx J10 (ab λ_ J11=>CY (qx J11 (ab λ_ J12=>aq (sr λ_ J13=>PS ?_))));refine tp (jQ (cs:=ints (lS (dU (ln .new l)) 5)) (v:=(.int .i64 (oX (dU (ln .new l)) i))) (r:=i) rfl jC Y3 rfl aQ rfl rfl (by omega) (by omega) (by omega) (Bh (by omega))) ?_;refine P2 ?_;refine nx J13 (sr λ_ J14=>LW 1 eD bc am ?_);refine PS ?_;refine CE Hq (nY (dU (ln .new l)) ((i:Nat):Int) (tu hcl)) ID ?_;refine P3 ?_;refine aX ?_ ?_<;>intro h34;refine P2 ?_;refine nx J14 (sr λ_ J15=>?_)
 iterate 5 refine PS ?_
 refine an ?_ ?_<;>intro h39
 · exact absurd (Hj h34) h39
 refine P3 ?_;refine PS ?_;refine PS ?_
 iterate 3 refine UF ?_
 refine P2 ?_;refine nx J15 (CN (aR (af (ac J12 (ad (AD ?_))))));refine PS ?_;refine ap ?_
 exact aI ((i+1):(Nat)) (by omega) (by show 5- (i+1)<5-i;omega)
  SB
  (λ_ s=>s)
 refine P2 ?_;refine nx J14 (sr λ_ J16=>P2 ?_)
 iterate 3 refine UF ?_
 refine P3 ?_;refine PS ?_;refine P4 ?_;refine an ?_ ?_<;>intro h47
 · exact absurd (Hk (by rw[h34];decide)) h47
 refine P2 ?_;refine nx J16 (CN (aR (af (ac J12 (ad (AD ?_))))));refine PS ?_;refine ap ?_
 exact aI ((i+1):(Nat)) (by omega) (by show 5- (i+1)<5-i;omega)
  SB
  (λ_ s=>s)
 refine nx J10 (ab λ_ J17=>CN (aW (az (az (bm (ac J8 (sr λ_ J18=>LW 4 dD aZ ag ?_)))))));refine CE N3 (B9 y hw) ID ?_;refine PS ?_;refine nx J18 (ab λ_ J19=>sr λ_ J20=>LW 4 dD aZ ag ?_);refine CE Bj (fW y hw) ID ?_;refine aX ?_ ?_<;>intro h54;have hdec:mn (gj (fF y))=(fF y,0):=(RcOk.row (TameR.of hw h54) h54).dec;refine PS ?_;refine nx J20 (CN (qx J19 (sr λ_ J21=>LW 4 dD aZ ag ?_)));refine tp (kI RecT.zero (RecT.mk 0 0 y 0 BallotT.zero ChangeT.zero ViewT.zero) [(0,[Value.int .i64 0]),(2,ints y.flat)] iv eF (g:=RecT.sg)) ?_;refine CR I9 (nc (fF y)) ID λvR HR hR=>?_
 obtain⟨_,rfl,rfl⟩:=hR;revert vR;intro ue1;refine ib 0 rfl rfl (λhlue1 _=>CQ L9 (oP ue1 (gj (fF y))) ID (sx 0 rfl rfl) λvR HR hR=>?_);rw[hdec]at hR;obtain⟨rfl,rfl⟩:=hR;refine P3 ?_;refine XZ Lq (ints RecT.zero.flat) λb12=>?_
 refine SW 0 iI bk ?_;refine PS ?_;refine nx J21 (sr λ_ J22=>P3 ?_);refine FA 2 iv aZ ?_;refine LV 0 dD aZ ag RecT.sp_row (y:=((fF y).row)) ?_;refine LW 6 dD aZ ag ?_;refine tq (PV.eqlAgg (a:=((fF y).row).flat) (b:=y.flat) (m:=8) (c:=174) NF NA rfl Oe (c9 (ag ((fF y).row))) (c9 (ag y)) ⟨fJ MX M2 (c9 (ag ((fF y).row))),fJ MX M2 (c9 (ag y))⟩ hw hw rfl rfl rfl) ?_;refine an ?_ ?_<;>intro h71;refine P3 ?_;refine LW 6 dD aZ ag ?_;refine tq (kI RecT.zero (RecT.mk 0 0 y 0 BallotT.zero ChangeT.zero ViewT.zero) [(0,[Value.int .i64 0]),(2,ints y.flat)] iv eF (g:=RecT.sg)) ?_;refine CR I9 (nc (fF y)) ID λvR HR hR=>?_
 obtain⟨_,rfl,rfl⟩:=hR;revert vR;intro ue2;refine ib 0 rfl rfl (λhlue2 _=>tq (dF rfl gp rfl hlue2) ?_);refine P3 ?_;refine nx J22 (ai (WK [] (au rfl rfl ?_)));exact⟨by simp[wO,h54],rfl⟩
 · exact absurd rfl h71
 refine PS ?_;refine nx J20 (CY (sr λ_ J23=>P3 ?_));refine nx J23 (ai (ae (WK [] (au rfl rfl ?_))));exact⟨by simp[wO,h54],rfl⟩;refine PS ?_;refine nx J5 (CY (sr λ_ J24=>PS ?_));refine nx J24 (ai (ae (WK [] (au rfl rfl ?_))));exact⟨by simp,rfl⟩
theorem auditOwners_row(x:Value)(l:List OpT)(y:RowT)(hw:WF y.flat):DT 10 #[x, .agg (ints y.flat).toArray] (IsL 11 (EW OpT.flat) x l) [] (RI (.bool true) []):=λw F r m=>tF x l y hw (KH r) w F (Kn r).1 m
end Go.Proofs.YtjblgopghhgflaaGreat
end

section
namespace Api
open Go Leg Codec Wal
theorem OpT.of(l:List Int)(h:l.length=11): ∃x:OpT,x.flat=l:=by
 match l,h with
 | [a,b,c,d,e,f,g,i,j,k,m],_=>exact⟨⟨a,b,c,d,e,⟨f,g,i⟩,j,k,m⟩,rfl⟩
end Api
end
