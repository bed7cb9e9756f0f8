/-
  Joined texts:what a statement's proof reaches.
-/
import Derived.Test.YtjblgopghhgflaaGreatPAK7
set_option maxHeartbeats 8000000
set_option maxRecDepth 100000
set_option linter.unusedSimpArgs false
set_option linter.unusedVariables false
section
namespace Go.Proofs.YtjblgopghhgflaaGreat
open Go Leg Codec Api Dsk Wal
theorem wt(i:Nat):(cw i .new).1≠none:=by
 obtain⟨D',e,_⟩:=LogD.new.open rfl rfl;unfold cw;rw[e];simp[kM]
theorem uQ{i:Nat}{s:MS LD}(h:(cw i .new).1=some s):oU i=⟨some s,(bH .new).D,[]⟩:=by
 show(gU i .nil).1=_;unfold gU;show Slot.mk (cw i DS.new).1 _ _=_;rw[h];rfl
def dJ(i:Nat)(d:Nat→Nat):Nat→Value:=λj=>if j<i then .pointer (some ⟨d j,0,none⟩)else .pointer none
def Im:Nat→Value:=λ_=> .slice none 0 0
theorem I4(i:Nat)(d:Nat→Nat)(x:Nat):k8 (dJ i d) i (.pointer (some ⟨x,0,none⟩))=dJ (i+1) (k8 d i x):=funext λj=>by
 unfold dJ k8
 by_cases hj:j=i
 · subst hj;simp
 · rw[if_neg hj,if_neg hj]
   show(if j<i then _ else _)=_
   by_cases h:j<i
   · rw[if_pos h,if_pos (by omega)]
   · rw[if_neg h,if_neg (by omega)]
theorem Ht{n:Nat}{D M P D' M' P':Nat→Value}(h1: ∀i,i<5→D i=D' i)(h2: ∀i,i<5→M i=M' i)(h3: ∀i,i<5→P i=P' i):eM n D M P=eM n D' M' P':=by
 unfold eM;rw[dX (λi hi=>h1 i (fe.1 hi)),dX (λi hi=>h2 i (fe.1 hi)),dX (λi hi=>h3 i (fe.1 hi))]
theorem wQ{f g:Nat→HP}{i:Nat}(hg: ∀j,j<i→g j=f j){H:List HP}{h:Hl}(s:bG (g i::bG ((List.range i).map f)::H) h):bG (bG ((List.range (i+1)).map g)::H) h:=by
 have e:(List.range (i+1)).map g=(List.range i).map f++[g i]:=by
  rw[c9,da,dX (λj hj=>hg j (fe.1 hj))];rfl
 rw[e];obtain⟨h1,h2,d,rfl,a,b⟩:=s;have s2:bG ((g i::(List.range i).map f)++H) (jn h1 h2):=⟨h1,h2,d,rfl,a,(cd _ _).2 b⟩;exact(cd _ _).1 (eu ((List.perm_append_comm (l₁:=[g i])).append_right H) s2)
abbrev w5(d r:Nat→Nat)(j:Nat):HP:=kJ (oU j) (d j) (r j) (.slice none 0 0)
theorem IK{d r:Nat→Nat}{i x y:Nat}{s:MS LD}(hs:(cw i .new).1=some s){X Y:HP}{h:Hl}(q:bG [ff s x y,dk x s.e.D,X,Y,bG ((List.range i).map (w5 d r))] h):bG [X,Y,bG ((List.range (i+1)).map (w5 (k8 d i x) (k8 r i y)))] h:=by
 have q2:=gV 37 3 q
 have e:w5 (k8 d i x) (k8 r i y) i=bG [dk x s.e.D,mH (.slice none 0 0) [],ff s x y]:=by
  unfold w5 kJ kq Slot.dk qK;rw[jh,jh,uQ hs]
 have q4:=(cd [dk x s.e.D,mH (.slice none 0 0) [],ff s x y] [bG ((List.range i).map (w5 d r)),X,Y]).1 (aC [2,0,0,2,0,0] rfl q2);have q5:=wQ (i:=i) (f:=w5 d r) (g:=w5 (k8 d i x) (k8 r i y)) (H:=[X,Y]) (λj hj=>by unfold w5;rw[mZ d x (show j≠i by omega),mZ r y (show j≠i by omega)]) (by rw[e];exact q4);exact aC [1,1,0] rfl q5
theorem II(i:Nat)(hi:i<5):CL.new.at' i=oU i:=by simp[CL.new,CL.at',List.getD_eq_getElem?_getD,hi]
theorem IJ{c n:Nat}{d r:Nat→Nat}{h:Hl}(s:bG [ak c (eM n (dJ 5 d) (dJ 5 r) Im) 104,eE 156 208 5 n (List.replicate 25 []),bG ((List.range 5).map (w5 d r))] h):bG [gf c .new] h:=by
 have e1:eM n (mL ⟨n,d,r,Im⟩) (j0 .new r) Im=eM n (dJ 5 d) (dJ 5 r) Im:=Ht (λi hi=>by unfold dJ;rw[if_pos hi]) (λi hi=>by
  unfold dJ;rw[if_pos hi];show yp (CL.new.at' i) (r i)=_;rw[II i hi];cases hs:(cw i .new).1 with
  |none=>exact absurd hs (wt i)
  |some s=>rw[uQ hs];rfl) (λ_ _=>rfl)
 have e2:(List.range 5).map (λi=>kJ (CL.new.at' i) (d i) (r i) (Im i))=(List.range 5).map (w5 d r):=dX λi hi=>by
  rw[II i (fe.1 hi)];rfl
 have e3:cR CL.new.W=List.replicate 25 []:=rfl;refine bp (p:=qX c .new) (H:=[]) ⟨n,d,r,Im⟩ ?_;unfold qX;rw[e1,e2,e3];exact s
theorem zj:
 DT 14 #[] T0 [] (dz (λv H=>∃c,v= .pointer (some ⟨c,0,none⟩)∧H=[gf c .new])):=by
 refine BD 33 Tryz.func14 rfl rfl rfl λw0 F hF=>sr λ_ J1=>PS ?_
 refine nx J1 (sr λ_ J2=>CR Pa (Co) ID λvR HR hR=>?_);obtain⟨n,rfl,rfl⟩:=hR;refine BV #[(.pointer (some ⟨n,0,none⟩)),(.pointer none),(.pointer none),(.pointer none),(.pointer none),(.pointer none),(.pointer none),(.pointer none),(.pointer none),(.pointer none),(.pointer none),(.slice none 0 0),(.slice none 0 0),(.slice none 0 0),(.slice none 0 0),(.slice none 0 0)] ?_;refine XB λb5=>?_
 refine PS ?_;refine nx J2 (aa λ_ J3=>sr λ_ J4=>PS ?_);refine nx J4 (aq ?_)
 refine bw (α:=(Nat)×(Nat→Nat)×(Nat→Nat)) (λ⟨i,d,r⟩=>i≤5) (λ⟨i,d,r⟩=>[(0,(.pointer none)),(1,(.pointer (some ⟨b5,0,none⟩))),(6,(.int .i64 (((i:Nat):Int))))]) (λ⟨i,d,r⟩=>[ak b5 (eM n (dJ i d) (dJ i r) Im) 104,eE 156 208 5 n (List.replicate 25 []),bG ((List.range i).map (w5 d r))]) (λ⟨i,d,r⟩=>5-i) (0,λ_=>0,λ_=>0)
  (aN _) SB
  (λ_ s=>aC [1,1,0] rfl (pW s)) (λ⟨i,d,r⟩ hinv=>?_)
 obtain hi:=hinv;refine sr λ_ J5=>PS ?_
 refine ao ?_ ?_<;>intro h7;have hlt:i<5:=by omega
 refine nx J5 (aa λ_ J6=>CY (qx J6 (aa λ_ J7=>aq (sr λ_ J8=>P2 ?_))));refine nx J8 (aa λ_ J9=>D0 dN ?_);refine PD 0 ?_;refine PD 1 ?_;refine PD 3 ?_;refine FD 4 1 iU sF ?_;refine AL 2 ?_;refine CR Mg (ET) ID λvR HR hR=>?_
 obtain⟨dn,rfl,rfl⟩:=hR;refine EN (IY 5 (1+i) Bk pg ?_);refine AL 6 ?_;refine bF (i:=1) (ab rfl) rfl rfl rfl rfl rfl pg rfl rfl (by rw[rN];omega) (Kz n (dJ i d) (dJ i r) Im (.pointer (some ⟨dn,0,none⟩)) hlt) rfl (EN (DN (ac J9 (D0 dN ?_))));refine PD 0 ?_;refine PD 1 ?_;refine PD 2 ?_;refine PD 3 ?_;refine PD 4 ?_;refine PD 5 ?_;refine FD 6 1 iU sF ?_;refine IY 7 (1+i) Bk pg ?_;refine PD 13 ?_;refine FD 14 6 iU pq ?_;refine AL 8 ?_;refine LT 1 tm (.pointer (some ⟨dn,0,none⟩)) ?_ (hc:=by exact(Db n (k8 (dJ i d) i (.pointer (some ⟨dn,0,none⟩))) (dJ i r) Im hlt).trans (congrArg some (jh (dJ i d) i _)));refine EN (AL 9 ?_);refine CR Mf (pU i dn .new DkOk.new) ID λvR HR hR=>?_
 rcases hR with⟨hn,_⟩| ⟨s,rn,hs,rfl,rfl⟩
 · exact absurd hn (wt i)
 refine EN (PD 10 ?_);refine PD 11 ?_;refine PD 12 ?_;refine IY 15 (6+i) vm kh ?_;refine AL 16 ?_;refine bF (i:=2) (ab rfl) rfl rfl rfl rfl rfl kh rfl rfl (by rw[rN];omega) (vI n (k8 (dJ i d) i (.pointer (some ⟨dn,0,none⟩))) (dJ i r) Im (.pointer (some ⟨rn,0,none⟩)) hlt) rfl (EN (DN (ag (ac J7 (ae (AD ?_))))));refine PS ?_;refine au ?_
 exact aK ((i+1,k8 d i dn,k8 r i rn):(Nat)×(Nat→Nat)×(Nat→Nat)) (by omega) (by show 5- (i+1)<5-i;omega)
  SB
  (λ_ q=>by
   show bG [ak b5 (eM n (dJ (i+1) (k8 d i dn)) (dJ (i+1) (k8 r i rn)) Im) 104,_,_] _;rw[←I4,←I4]
   exact IK hs (aC [0,0,0,0,0] rfl q))
 refine nx J5 (aa λ_ J10=>CN (aX (aA (aA (br (ac J3 (sr λ_ J11=>P2 ?_)))))));exact nx J11 (ai (aF (H':=[gf b5 .new]) (dK _) (λ_ s=>by have h5:i=5:=(by omega);subst h5;exact IJ s) (av rfl rfl ⟨b5,rfl,rfl⟩)))
end Go.Proofs.YtjblgopghhgflaaGreat
end

section
namespace Api
open Go Leg Codec Dsk Wal
def ib(D:DS):Nat→DS
 |0=> .new
 |k+1=>if eU D.s ((k:Nat):Int)=zs then ib D k else((ib D k).write ((k:Nat):Int) (eU D.s ((k:Nat):Int))).2
def kp(D:DS):DS:=(ib D 2048).sync.2
def My(a:CL)(i:Nat):Option (MS LD):=if(a.at' i).up then none else(cw i (kp (a.at' i).dk)).1
def io(a:CL)(i:Nat):Option (MS LD):=if(a.at' i).up then(a.at' i).run else(cw i (kp (a.at' i).dk)).1
def Mo(s:MS LD)(b:BookT)(i:Nat):BookT:=(fc b ((i:Nat):Int) (cQ s.mirror ((i:Nat):Int))).1
def qC(s:MS LD)(b:BookT):Nat→BookT
 |0=>b
 |i+1=>Mo s (qC s b i) i
def it(a:CL):Nat→BookT
 |0=> .zero
 |j+1=>match io a j with
  |some s=>qC s (it a j) 5
  |none=>it a j
def cu(a:CL):BookT:=it a 5
theorem sC{a:CL}{j:Nat}{s:MS LD}(h:io a j=some s):it a (j+1)=qC s (it a j) 5:=by rw[it,h]
theorem sD{a:CL}{j:Nat}(h:io a j=none):it a (j+1)=it a j:=by rw[it,h]
def fU(a:CL):Nat→ViewT×Bool
 |0=>(firstV,false)
 |j+1=>match io a j with
  |some s=>if(fU a j).2=false∨s.view.epoch>(fU a j).1.epoch then(s.view,true)else fU a j
  |none=>fU a j
def fM(a:CL):ViewT:=(fU a 5).1
theorem p8{a:CL}{j:Nat}(h:io a j=none):fU a (j+1)=fU a j:=by rw[fU,h]
theorem ku{a:CL}{j:Nat}{s:MS LD}(h:io a j=some s):fU a (j+1)=if(fU a j).2=false∨s.view.epoch>(fU a j).1.epoch then(s.view,true)else fU a j:=by rw[fU,h]
theorem uV{a:CL}{j:Nat}{s:MS LD}(h:io a j=some s)(hk:(fU a j).2=true)(he: ¬s.view.epoch>(fU a j).1.epoch):fU a (j+1)=fU a j:=by
 rw[ku h,if_neg (λq=>q.elim (λz=>by rw[hk]at z;cases z) he)]
def tU(v:ViewT)(i:Nat):Int:=(jQ v ((i:Nat):Int)).getD ((i:Nat):Int)
def ir(B:BookT)(key:Int)(i:Nat):CellT:=cW B ((i:Nat):Int) key
def JS(B:BookT)(key:Int)(i ow:Nat)(S:List Int):List Int:=S.set ow (fY (S.getD ow 0+fY ((ir B key i).inn- (ir B key i).out)))
def LS(B:BookT)(key:Int)(i ow j:Nat)(S:List Int):List Int:=S.set ow (fY (S.getD ow 0+fY ((ir B key j).given.toList.getD i 0- (ir B key i).given.toList.getD j 0)))
def JR(B:BookT)(key:Int)(i ow:Nat)(S:List Int):Nat→List Int
 |0=>S
 |j+1=>LS B key i ow j (JR B key i ow S j)
def tw(B:BookT)(key:Int)(v:ViewT):Nat→List Int
 |0=>List.replicate 5 0
 |i+1=>if 0≤tU v i∧tU v i<5 then JR B key i (tU v i).toNat (JS B key i (tU v i).toNat (tw B key v i)) 5 else tw B key v i
def Ak(a:CL)(key:Int):List Int:=if lw key then tw (cu a) key (fM a) 5 else List.replicate 5 0
theorem qy(B:BookT)(key:Int)(i ow:Nat)(S:List Int): ∀j,(JR B key i ow S j).length=S.length
 |0=>rfl
 |j+1=>by rw[JR,LS,cB];exact qy B key i ow S j
theorem iV(B:BookT)(key:Int)(v:ViewT): ∀i,(tw B key v i).length=5
 |0=>by simp[tw]
 |i+1=>by
  rw[tw];split
  · rw[qy,JS,cB];exact iV B key v i
  · exact iV B key v i
def pw(B:BookT)(key:Int)(k:Nat):Vector CellT 5:=Vector.ofFn λj:Fin 5=>if j.val<k then ir B key j.val else .zero
theorem I9{B:BookT}{key:Int}{j:Nat}(hj:j<5):(pw B key 5)[j]=ir B key j:=by simp[pw,hj]
theorem I8{B:BookT}{key:Int}{i:Nat}(hi:i<5):(pw B key i).set i (ir B key i) hi=pw B key (i+1):=by
 ext j hj
 rw[Vector.getElem_set];simp only[pw,Vector.getElem_ofFn];split
 · rename_i h;subst h;rw[if_pos (by omega)]
 · by_cases h:j<i
   · rw[if_pos h,if_pos (by omega)]
   · rw[if_neg h,if_neg (by omega)]
def ME(k i j:Int):OpT:=⟨k,i,j,0,0, .zero,0,0,0⟩
theorem I7:OkCh ChangeT.zero:=⟨by
 have: ∀n∈ChangeT.zero.flat,(Lit.int IntKind.i64 n).wf=true:=by decide+kernel
 intro n hn;exact this n hn⟩
theorem AG(k i j:Int):OkOp (ME k i j):=⟨I7,by show(0:Int)≤9223372036854775807;omega⟩
def wq(a:CL)(i j:Nat):CL:=if i=j then a else(Dy a (ME 5 ((i:Nat):Int) ((j:Nat):Int))).1
def MT(a:CL)(i:Nat):CL:=(Dy a (ME 8 ((i:Nat):Int) 0)).1
def uI(a:CL)(i:Nat):Nat→CL
 |0=>a
 |j+1=>wq (uI a i j) i j
def sweepTo(a:CL):Nat→CL
 |0=>a
 |i+1=>uI (sweepTo a i) i 5
def wo(a:CL):CL:=sweepTo a 5
def tI(a:CL):Nat→CL
 |0=>a
 |i+1=>MT (tI a i) i
def G3(W:List (List MsgT))(k:Nat):Nat:=((List.range k).map λq=>if q%6=0 then 0 else(W.getD q []).length).sum
theorem zn(W:List (List MsgT))(k:Nat):G3 W (k+1)=G3 W k+(if k%6=0 then 0 else(W.getD k []).length):=by simp[G3,c9]
def z0(a:CL):Nat:=G3 a.W 25
def mC:Nat→CL→CL
 |0,a=>a
 |k+1,a=>if z0 a=0 then a else mC k (wo a)
def wM(a:CL):CL:=mC 400 (tI a 5)
theorem Gw(a:CL):mC (400-0) (tI a 5)=wM a:=by unfold wM;rw[PT]
def jD(a:CL):Nat→CL
 |0=>a
 |k+1=>wM (jD a k)
theorem H7{a:CL}{i j:Nat}(h:i≠j):uI a i (j+1)=(Dy (uI a i j) (ME 5 ((i:Nat):Int) ((j:Nat):Int))).1:=by
 show wq _ i j=_;unfold wq;rw[if_neg h]
theorem H8{a:CL}{i j:Nat}(h:i=j):uI a i (j+1)=uI a i j:=by
 show wq _ i j=_;unfold wq;rw[if_pos h]
theorem sG{k:Nat}(h:k<400)(d:CL):mC (400-k) d=if z0 d=0 then d else mC (400- (k+1)) (wo d):=by
 rw[show 400-k=(400- (k+1))+1 by omega];rfl
theorem Aj{k:Nat}(h: ¬k<400)(d:CL):mC (400-k) d=d:=by
 rw[show 400-k=0 by omega];rfl
section
variable {n:Nat} {a:CL}
theorem CLOk.step(h:CLOk n a)(i j:Nat):CLOk n (wq a i j):=by
 unfold wq;split
 · exact h
 · exact EI h (AG ..) (by show ¬((0:Int)≤5∧(5:Int)≤4);omega)
theorem CLOk.tik(h:CLOk n a)(i:Nat):CLOk n (MT a i):=EI h (AG ..) (by show ¬((0:Int)≤8∧(8:Int)≤4);omega)
theorem CLOk.rows(h:CLOk n a)(i:Nat): ∀j,CLOk n (uI a i j)
 |0=>h
 |j+1=>(CLOk.rows h i j).step i j
theorem CLOk.sweepTo(h:CLOk n a): ∀i,CLOk n (sweepTo a i)
 |0=>h
 |i+1=>(CLOk.sweepTo h i).rows i 5
theorem CLOk.ticks(h:CLOk n a): ∀i,CLOk n (tI a i)
 |0=>h
 |i+1=>(CLOk.ticks h i).tik i
theorem CLOk.sweeps: ∀(k:Nat) {a:CL},CLOk n a→CLOk n (mC k a)
 |0,_,h=>h
 |k+1,a,h=>by
  unfold mC;split
  · exact h
  · exact CLOk.sweeps k (h.sweepTo 5)
theorem CLOk.settle(h:CLOk n a): ∀k,CLOk n (jD a k)
 |0=>h
 |k+1=>by
  rw[jD,wM];exact CLOk.sweeps 400 ((CLOk.settle h k).ticks 5)
theorem CLOk.len(h:CLOk n a): ∀k,G3 a.W k≤8*k
 |0=>aH _
 |k+1=>by
  rw[zn];have:=CLOk.len h k;have:=(h.way k).1;split<;>omega
end
end Api
namespace Go.Proofs.YtjblgopghhgflaaGreat
open Go Leg Codec Api Dsk Wal
theorem rA(W:List (List MsgT)): ∀k,k≤25→lW (cR W) k=G3 W k
 |0,_=>rfl
 |k+1,h=>by
  rw[rB,zn,rA W k (by omega),nB W (by omega),bX]
theorem DJ{n:Nat}{a:CL}(h:CLOk n a): ∀k,k<25→lW (cR a.W) k+((cR a.W).getD k []).length≤1000000000:=λk hk=>by
 rw[rA a.W k (by omega),nB a.W hk,bX];have:=h.len k;have:=(h.way k).1;omega
theorem Cs(c n i:Nat)(D M P:Nat→Value)(hi:i<5)(hM:M i= .pointer none):
 DT 18 #[(.pointer (some ⟨c,0,none⟩)),(.int .i64 (((i:Nat):Int)))] T0 [ak c (eM n D M P) 104] (RI (.pointer none) [ak c (eM n D M P) 104]):=by
 refine BD 15 Tryz.func18 rfl rfl rfl λw0 F hF=>sr λ_ J1=>PS ?_
 refine nx J1 (aa λ_ J2=>sr λ_ J3=>P2 ?_);refine CE Cn (sA c n i D M P hi hM) ID ?_;refine PS ?_;refine nx J3 (CY (sr λ_ J4=>PS ?_));exact nx J4 (ai (af (WK [0] (av rfl rfl ⟨rfl,rfl⟩))))
theorem Cr(c n i:Nat)(D M P:Nat→Value)(hi:i<5)(d r:Nat)(e:DS)(hD:D i= .pointer (some ⟨d,0,none⟩))(hM:M i= .pointer (some ⟨r,0,none⟩)):
 DT 18 #[(.pointer (some ⟨c,0,none⟩)),(.int .i64 (((i:Nat):Int)))] T0 [ak c (eM n D M P) 104,dk d e] (dz (λv H=>((e.dn=false∧v= .pointer (some ⟨r,0,none⟩))∨(e.dn=true∧v= .pointer none))∧H=[ak c (eM n D M P) 104,dk d e])):=by
 refine BD 15 Tryz.func18 rfl rfl rfl λw0 F hF=>sr λ_ J1=>PS ?_
 refine nx J1 (aa λ_ J2=>sr λ_ J3=>P2 ?_);refine CE Cn (sz c n i D M P hi d r e hD hM) ID ?_;refine bc ?_ ?_<;>intro h7;refine PS ?_;refine nx J3 (CN (qx J2 (sr λ_ J4=>P3 ?_)));refine FA 6 iU pq ?_;refine IX (6+i) vm kh ?_;refine LT 0 vn (.pointer (some ⟨r,0,none⟩)) ?_ (hc:=by exact(xJ n D M P hi).trans (congrArg some hM));refine PS ?_;refine nx J4 (ai (WK [0,0] (av rfl rfl ?_)));exact⟨.inl ⟨(by simpa using h7),rfl⟩,rfl⟩;refine PS ?_;refine nx J3 (CY (sr λ_ J5=>PS ?_));refine nx J5 (ai (af (WK [0,0] (av rfl rfl ?_))));exact⟨.inr ⟨(by simpa using h7),rfl⟩,rfl⟩
theorem EU(c n i:Nat)(D M P:Nat→Value)(hi:i<5)(d:Nat)(hD:D i= .pointer (some ⟨d,0,none⟩)):
 DT 67 #[(.pointer (some ⟨c,0,none⟩)),(.int .i64 (((i:Nat):Int)))] T0 [ak c (eM n D M P) 104] (RI (.pointer (some ⟨d,0,none⟩)) [ak c (eM n D M P) 104]):=by
 refine BD 15 Tryz.func67 rfl rfl rfl λw0 F hF=>sr λ_ J1=>PS ?_
 refine nx J1 (aa λ_ J2=>sr λ_ J3=>P2 ?_);refine CE p3 (dU c i hi) ID ?_;refine PS ?_;refine nx J3 (CN (qx J2 (sr λ_ J4=>P3 ?_)));refine FA 1 iU sF ?_;refine IX (1+i) Bk pg ?_;refine LT 0 tm (.pointer (some ⟨d,0,none⟩)) ?_ (hc:=by exact(Db n D M P hi).trans (congrArg some hD));refine PS ?_;exact nx J4 (ai (WK [0] (av rfl rfl ⟨rfl,rfl⟩)))
abbrev An(c:Nat)(a:CL)(i:Nat)(g:CX):List HP:=ak c (eM g.n (mL g) (j0 a g.r) g.p) 104::eE 156 208 5 g.n (cR a.W)::kq (a.at' i) (g.d i) (g.r i) (g.p i)
def df(c:Nat)(a:CL)(g:CX):HP:=bG (qX c a g)
theorem GK{α:Type}(A B C:List α):((A++B)++C).Perm ((A++C)++B):=by
 rw[aR,aR];exact List.Perm.append_left _ List.perm_append_comm
section
variable {f:FuncId} {args:Array Value} {c i:Nat} {a:CL} {g:CX}
theorem zG{H:List HP}{h:Hl}(s:bG (gf c a::H) h): ∃g,bG (df c a g::H) h:=by
 obtain⟨h1,h2,d,e,⟨g,t⟩,s2⟩:=s;exact⟨g,h1,h2,d,e,t,s2⟩
theorem Gq(hi:i<5){h:Hl}(s:bG [df c a g] h):bG (An c a i g++[bG (((List.range 5).map λi=>kJ (a.at' i) (g.d i) (g.r i) (g.p i)).eraseIdx i)]) h:=by
 have s0:bG (qX c a g++[]) h:=(cd _ _).2 s;have s2:=tR (f:=λi=>kJ (a.at' i) (g.d i) (g.r i) (g.p i)) hi (aC [2,0,0] rfl s0);have s3:=(cd (kq (a.at' i) (g.d i) (g.r i) (g.p i)) _).2 s2;exact aC [4,4,0,0,0,0] rfl s3
theorem Gp(hi:i<5){h:Hl}(s:bG (An c a i g++[bG (((List.range 5).map λi=>kJ (a.at' i) (g.d i) (g.r i) (g.p i)).eraseIdx i)]) h):bG [df c a g] h:=by
 have s1:=aC [2,2,2,2,0,0] rfl s;have s2:=(cd (kq (a.at' i) (g.d i) (g.r i) (g.p i)) _).1 s1;have s3:=tQ (f:=λi=>kJ (a.at' i) (g.d i) (g.r i) (g.p i)) (g:=λi=>kJ (a.at' i) (g.d i) (g.r i) (g.p i)) hi (λ_ _=>rfl) s2;exact(cd (qX c a g) []).1 (aC [1,1,0] rfl s3)
theorem FY{Q:Value→List HP→Prop}(hi:i<5)(core:DT f args T0 (An c a i g) (dz λv H=>∃X,Q v X∧H=An c a i g++X)):
 DT f args T0 [df c a g] (dz λv H=>∃X,Q v X∧H=df c a g::X):=by
 refine Leg.Does.withinR (B:=[bG (((List.range 5).map λi=>kJ (a.at' i) (g.d i) (g.r i) (g.p i)).eraseIdx i)]) core (λ_ _ _ _=>trivial) (λh s=>Gq hi s) λv H hp=>?_
 obtain⟨X,hQ,rfl⟩:=hp;refine⟨_,λh s=>?_,X,hQ,rfl⟩;have s1:=(cd _ X).1 (eu (GK (An c a i g) X [bG (((List.range 5).map λi=>kJ (a.at' i) (g.d i) (g.r i) (g.p i)).eraseIdx i)]) s);exact(cd [df c a g] X).2 (cG s1 (λh t=>Gp hi t) λ_ t=>t)
theorem EV{Q:Value→Prop}(hi:i<5)(core:DT f args T0 (An c a i g) (dz λv H=>Q v∧H=An c a i g)):
 DT f args T0 [df c a g] (dz λv H=>Q v∧H=[df c a g]):=
 lK (FY (Q:=λv X=>Q v∧X=[]) hi (lK core λv H hp=>by
  obtain⟨h1,rfl⟩:=hp
  exact⟨[],⟨h1,rfl⟩,(aP _).symm⟩)) λv H hp=>by
  obtain⟨X,⟨h1,rfl⟩,rfl⟩:=hp;exact⟨h1,rfl⟩
theorem JL{x:Slot}{s:MS LD}(h:x.run=some s):x.up= !s.e.D.dn:=by unfold Slot.up;rw[h]
theorem Fp{x:Slot}(h:x.run=none):x.up=false:=by unfold Slot.up;rw[h]
theorem y2{s:MS LD}(hs:(a.at' i).run=some s):An c a i g=[ak c (eM g.n (mL g) (j0 a g.r) g.p) 104,eE 156 208 5 g.n (cR a.W),dk (g.d i) s.e.D,mH (g.p i) (a.at' i).past,ff s (g.d i) (g.r i)]:=by
 unfold An kq Slot.dk qK;rw[hs]
def FQ(a:CL)(g:CX)(i:Nat):Value:=if(a.at' i).up then .pointer (some ⟨g.r i,0,none⟩)else .pointer none
theorem Eu(hi:i<5):DT 18 #[.pointer (some ⟨c,0,none⟩), .int .i64 ((i:Nat):Int)] T0 [df c a g] (dz λv H=>v=FQ a g i∧H=[df c a g]):=by
 refine EV (Q:=λv=>v=FQ a g i) hi ?_;unfold FQ;cases hr:(a.at' i).run with
 |none=>
  rw[Fp hr];refine Leg.Does.withinR (A:=[ak c (eM g.n (mL g) (j0 a g.r) g.p) 104]) (B:=eE 156 208 5 g.n (cR a.W)::kq (a.at' i) (g.d i) (g.r i) (g.p i)) (Cs c g.n i (mL g) (j0 a g.r) g.p hi (oq hr)) (λ_ _ _ _=>trivial) (λh s=>s) λv H hp=>?_
  obtain⟨rfl,rfl⟩:=hp;exact⟨_,λh s=>s,rfl,rfl⟩
 |some s=>
  rw[JL hr,y2 hr];refine Leg.Does.withinR (B:=[eE 156 208 5 g.n (cR a.W),mH (g.p i) (a.at' i).past,ff s (g.d i) (g.r i)]) (Cr c g.n i (mL g) (j0 a g.r) g.p hi (g.d i) (g.r i) s.e.D rfl (xb hr)) (λ_ _ _ _=>trivial) (λh s=>aC [0,1,0,0,0] rfl s) λv H hp=>?_
  obtain⟨hv,rfl⟩:=hp;refine⟨_,λh s=>aC [0,1,0,0,0] rfl s,?_,rfl⟩;rcases hv with⟨h1,rfl⟩| ⟨h1,rfl⟩<;>rw[h1]<;>rfl
theorem xH(hi:i<5):DT 67 #[.pointer (some ⟨c,0,none⟩), .int .i64 ((i:Nat):Int)] T0 [df c a g] (dz λv H=>v= .pointer (some ⟨g.d i,0,none⟩)∧H=[df c a g]):=by
 refine EV (Q:=λv=>v= .pointer (some ⟨g.d i,0,none⟩)) hi ?_;refine Leg.Does.withinR (A:=[ak c (eM g.n (mL g) (j0 a g.r) g.p) 104]) (B:=eE 156 208 5 g.n (cR a.W)::kq (a.at' i) (g.d i) (g.r i) (g.p i)) (EU c g.n i (mL g) (j0 a g.r) g.p hi (g.d i) rfl) (λ_ _ _ _=>trivial) (λh s=>s) λv H hp=>?_
 obtain⟨rfl,rfl⟩:=hp;exact⟨_,λh s=>s,rfl,rfl⟩
theorem NW{s:MS LD}{Q:Value→Prop}(hi:i<5)(hs:(a.at' i).run=some s)(hf:DT f args T0 [ff s (g.d i) (g.r i)] (dz λv H=>Q v∧H=[ff s (g.d i) (g.r i)])):DT f args T0 [df c a g] (dz λv H=>Q v∧H=[df c a g]):=by
 refine EV hi ?_;rw[y2 hs];refine Leg.Does.withinR (B:=[ak c (eM g.n (mL g) (j0 a g.r) g.p) 104,eE 156 208 5 g.n (cR a.W),dk (g.d i) s.e.D,mH (g.p i) (a.at' i).past]) hf (λ_ _ _ _=>trivial) (λh q=>aC [4,0,0,0,0] rfl q) λv H hp=>?_
 obtain⟨hQ,rfl⟩:=hp;exact⟨_,λh q=>aC [1,1,1,1,0] rfl q,hQ,rfl⟩
theorem B5{s:MS LD}{d r:Nat}{v0:RepT→Value}(hf: ∀x,DT f args T0 [ak r (RepT.cells x) 123] (dz λv H=>v=v0 x∧H=[ak r (RepT.cells x) 123])){w:Value}(hv: ∀a,v0 (s.rep a)=w):DT f args T0 [ff s d r] (dz λv H=>v=w∧H=[ff s d r]):=
 Leg.Does.pack (B:=[]) λx=>Leg.Does.withinR (A:=[ak r (RepT.cells (s.rep x)) 123]) (B:=[FT x.lg d ((s.e.cnt:Nat):Int) s.e.used,mH x.rs s.replies,Fo x.vo s.vote]) (hf (s.rep x)) (λ_ _ _ _=>trivial) (λ_ q=>q) λv H hp=>by
  obtain⟨rfl,rfl⟩:=hp;exact⟨[ff s d r],λ_ q=>bp (p:=Gv s d r) (H:=[]) x q,hv x,rfl⟩
theorem q7(s:MS LD)(d r:Nat):DT 21 #[.pointer (some ⟨r,0,none⟩)] T0 [ff s d r] (dz λv H=>v= .agg (ints s.view.flat).toArray∧H=[ff s d r]):=B5 (λx=>Ef r x) λ_=>rfl
theorem G0(s:MS LD)(d r:Nat)(who:Int):DT 42 #[.pointer (some ⟨r,0,none⟩), .int .i64 who] T0 [ff s d r] (dz λv H=>v= .tuple #[.agg (ints (cQ s.mirror who).flat).toArray, .bool (fp s.mirror who)]∧H=[ff s d r]):=B5 (λx=>wR r x who) λ_=>rfl
theorem Et(hi:i<5):DT 18 #[.pointer (some ⟨c,0,none⟩), .int .i64 ((i:Nat):Int)] T0 [df c a g] (dz λv H=>((a.at' i).up=false∧v= .pointer none∧H=[df c a g])∨∃s,(a.at' i).run=some s∧(a.at' i).up=true∧v= .pointer (some ⟨g.r i,0,none⟩)∧H=[df c a g]):=
 lK (Eu hi) λv H hp=>by
  obtain⟨rfl,rfl⟩:=hp;unfold FQ;cases hu:(a.at' i).up with
  |false=>exact .inl ⟨rfl,rfl,rfl⟩
  |true=>
   cases hs:(a.at' i).run with
   |none=>rw[Fp hs]at hu;cases hu
   |some s=>exact .inr ⟨s,rfl,rfl,rfl,rfl⟩
end
theorem BG(c n:Nat)(a:CL)(h:CLOk n a)(hn:n≤100000):
 DT 69 #[(.pointer (some ⟨c,0,none⟩))] T0 [gf c a] (dz (λ_ H=>H=[gf c (wo a)])):=by
 refine BD 20 Tryz.func69 rfl rfl rfl λw0 F hF=>sr λ_ J1=>PS ?_
 refine nx J1 (aq ?_)
 refine bw (α:=(Nat)) (λi=>i≤5) (λi=>[(0,(.pointer (some ⟨c,0,none⟩))),(4,(.int .i64 (((i:Nat):Int))))]) (λi=>[gf c (sweepTo a i)]) (λi=>5-i) 0
  (aN _) SB
  (λ_ s=>s) (λi hinv=>?_)
 obtain hi:=hinv;refine sr λ_ J2=>PS ?_
 refine ao ?_ ?_<;>intro h5;refine nx J2 (aa λ_ J3=>CY (qx J3 (aa λ_ J4=>aq (sr λ_ J5=>P2 ?_))));refine nx J5 (sr λ_ J6=>PS ?_);refine nx J6 (aq ?_)
 refine bw (α:=(Nat)) (λj=>j≤5) (λj=>[(0,(.pointer (some ⟨c,0,none⟩))),(2,(.int .i64 (((i:Nat):Int)))),(4,(.int .i64 (((i:Nat):Int)))),(7,(.int .i64 (((j:Nat):Int))))]) (λj=>[gf c (uI (sweepTo a i) i j)]) (λj=>5-j) 0
  (aN _) SB
  (λ_ s=>s) (λj hinv=>?_)
 obtain hj:=hinv;refine sr λ_ J7=>PS ?_
 refine ao ?_ ?_<;>intro h8;refine nx J7 (aa λ_ J8=>CY (qx J8 (aa λ_ J9=>aq (sr λ_ J10=>P2 ?_))));refine nx J10 (sr λ_ J11=>P3 ?_);refine ao ?_ ?_<;>intro h12;refine nx J11 (CY (ae (P3 ?_)));refine tp (lm OpT.zero (OpT.mk 5 ((i:Nat):Int) ((j:Nat):Int) 0 0 ChangeT.zero 0 0 0) [(0,[Value.int .i64 5]),(1,[Value.int .i64 ((i:Nat):Int)]),(2,[Value.int .i64 ((j:Nat):Int)])] fG pA (g:=OpT.sg)) ?_;refine CE Ir (qe (c:=c) (o:=(ME 5 ((i:Nat):Int) ((j:Nat):Int))) ((h.sweepTo i).rows i j) hn (AG ..)) ID ?_;refine au (ag (ac J9 (ae (AD ?_))));refine PS ?_;refine au ?_
 exact aK ((j+1):(Nat)) (by omega) (by show 5- (j+1)<5-j;omega)
  SB
  (λ_ s=>by rw[H7 (by omega)];exact s)
 refine nx J11 (CN (aU (ag (ac J9 (ae (AD ?_))))));refine PS ?_;refine au ?_
 exact aK ((j+1):(Nat)) (by omega) (by show 5- (j+1)<5-j;omega)
  SB
  (λ_ s=>by rw[H8 (by omega)];exact s)
 refine nx J7 (aa λ_ J12=>CN (aX (aA (aA (br (ag (ac J4 (ae (AD ?_)))))))));refine PS ?_;refine au ?_
 exact aK ((i+1):(Nat)) (by omega) (by show 5- (i+1)<5-i;omega)
  SB
  (λ_ s=>by rw[show j=5 by omega]at s;exact s)
 exact nx J2 (aa λ_ J13=>CN (aX (aA (aA (br (aF (H':=[gf c (wo a)]) (dK _) (λ_ s=>by rw[show i=5 by omega]at s;exact s) (bD rfl rfl)))))))
theorem Al(c n:Nat)(a:CL)(h:CLOk n a)(hn:n≤100000)(rounds:Nat)(hrd:rounds≤1000):
 DT 30 #[(.pointer (some ⟨c,0,none⟩)),(.int .i64 (((rounds:Nat):Int)))] T0 [gf c a] (dz (λ_ H=>H=[gf c (jD a rounds)])):=by
 refine BD 36 Tryz.func30 rfl rfl rfl λw0 F hF=>aa λ_ J1=>sr λ_ J2=>PS ?_
 refine tp (jf rfl Oc rfl rfl) ?_;refine nx J2 (CN (qx J1 (sr λ_ J3=>PS ?_)));refine nx J3 (aq ?_)
 refine bw (α:=(Nat)) (λm=>m≤rounds) (λm=>[(0,(.pointer (some ⟨c,0,none⟩))),(1,(.int .i64 (((rounds:Nat):Int)))),(4,(.int .i64 (((m:Nat):Int))))]) (λm=>[gf c (jD a m)]) (λm=>rounds-m) 0
  (aN _) SB
  (λ_ s=>s) (λm hinv=>?_)
 obtain hm:=hinv;refine aa λ_ J4=>sr λ_ J5=>P3 ?_
 refine ao ?_ ?_<;>intro h11;refine nx J5 (CY (qx J4 (aa λ_ J6=>aq (aa λ_ J7=>sr λ_ J8=>PS ?_))));refine nx J8 (aq ?_)
 refine bw (α:=(Nat)) (λi=>i≤5) (λi=>[(0,(.pointer (some ⟨c,0,none⟩))),(1,(.int .i64 (((rounds:Nat):Int)))),(4,(.int .i64 (((m:Nat):Int)))),(14,(.int .i64 (((i:Nat):Int))))]) (λi=>[gf c (tI (jD a m) i)]) (λi=>5-i) 0
  (aN _) SB
  (λ_ s=>s) (λi hinv=>?_)
 obtain hi:=hinv;refine sr λ_ J9=>PS ?_
 refine ao ?_ ?_<;>intro h15;refine nx J9 (aa λ_ J10=>CY (qx J10 (aa λ_ J11=>aq (sr λ_ J12=>P2 ?_))));refine nx J12 (ae (P2 ?_));refine tp (lm OpT.zero (OpT.mk 8 ((i:Nat):Int) 0 0 0 ChangeT.zero 0 0 0) [(0,[Value.int .i64 8]),(1,[Value.int .i64 ((i:Nat):Int)])] fG pA (g:=OpT.sg)) ?_;refine CE Ir (qe (c:=c) (o:=(ME 8 ((i:Nat):Int) 0)) ((h.settle m).ticks i) hn (AG ..)) ID ?_;refine au (ag (ac J11 (ae (AD ?_))));refine PS ?_;refine au ?_
 exact aK ((i+1):(Nat)) (by omega) (by show 5- (i+1)<5-i;omega)
  SB
  (λ_ s=>s)
 refine nx J9 (aa λ_ J13=>CN (aX (aA (aA (br (ac J7 (sr λ_ J14=>PS ?_)))))));refine nx J14 (aq ?_)
 refine bw (α:=(Nat)×(CL)) (λ⟨k,d⟩=>k≤400∧CLOk n d∧mC (400-k) d=wM (jD a m)) (λ⟨k,d⟩=>[(0,(.pointer (some ⟨c,0,none⟩))),(1,(.int .i64 (((rounds:Nat):Int)))),(4,(.int .i64 (((m:Nat):Int)))),(6,(.int .i64 (((k:Nat):Int))))]) (λ⟨k,d⟩=>[gf c d]) (λ⟨k,d⟩=>400-k) (0,tI (jD a m) i)
  ⟨aN _,(h.settle m).ticks i,by rw[show i=5 by omega];exact Gw _⟩ SB
  (λ_ s=>s) (λ⟨k,d⟩ hinv=>?_)
 obtain⟨hk,hd,hs⟩:=hinv;refine aa λ_ J15=>sr λ_ J16=>P2 ?_
 refine ao ?_ ?_<;>intro h23;refine P3 ?_;refine FA 0 iU Ah ?_;refine Lz (H':=λg:CX=>[ak c (eM g.n (mL g) (j0 d g.r) g.p) 104,eE 156 208 5 g.n (cR d.W),bG ((List.range 5).map λi=>kJ (d.at' i) (g.d i) (g.r i) (g.p i))]) (λ_ s=>fB s) (λg=>LT 0 Jj (.pointer (some ⟨g.n,0,none⟩)) ?_ (hc:=by exact A8 g.n (mL g) (j0 d g.r) g.p));refine CE O5 (Cp g.n (cR d.W) (DJ hd)) (SM [1]) ?_;rw[rA d.W 25 (aH _)];change TL _ _ _ _ _ _ _ _ _ [eE 156 208 5 g.n (cR d.W),ak c (eM g.n (mL g) (j0 d g.r) g.p) 104,bG ((List.range 5).map λi=>kJ (d.at' i) (g.d i) (g.r i) (g.p i))];refine cA (H':=[gf c d]) (λ_ s=>bp (p:=qX c d) (H:=[]) g (aC [1,0,0] rfl s)) (PS ?_);refine ao ?_ ?_<;>intro h30;refine PS ?_;refine nx J16 (CY (qx J15 (aa λ_ J17=>aq (ae (PS ?_)))));refine CZ O3 (BG c n d hd hn) ID λvR=>?_
 refine au (ag (ac J17 (ae (PS ?_))));refine AD ?_;refine PS ?_;refine au ?_
 exact aK ((k+1,wo d):(Nat)×(CL)) ⟨by omega,hd.sweepTo 5,by rw[sG (by omega),if_neg (by unfold z0 at*;omega)]at hs;exact hs⟩ (by show 400- (k+1)<400-k;omega)
  SB
  (λ_ s=>s)
 have hfin:d=jD a (m+1):=by rw[sG (by omega),if_pos (by unfold z0 at*;omega)]at hs;exact hs
 refine PS ?_;refine nx J16 (CN (aX (aA (aA (br (ag (ac J6 (ae (PS ?_)))))))));refine AD ?_;refine PS ?_;refine au ?_
 exact aK ((m+1):(Nat)) (by omega) (by show rounds- (m+1)<rounds-m;omega)
  SB
  (λ_ s=>by rw[hfin]at s;exact s)
 have hfin:d=jD a (m+1):=by rw[Aj (by omega)]at hs;exact hs
 refine PS ?_
 iterate 6 refine UF ?_
 refine PS ?_;refine nx J16 (CN (aX (aA (aA (br (ag (ac J6 (ae (PS ?_)))))))));refine AD ?_;refine PS ?_;refine au ?_
 exact aK ((m+1):(Nat)) (by omega) (by show rounds- (m+1)<rounds-m;omega)
  SB
  (λ_ s=>by rw[hfin]at s;exact s)
 exact nx J5 (CN (aX (aA (aA (br (aF (H':=[gf c (jD a rounds)]) (dK _) (λ_ s=>by rw[show m=rounds by omega]at s;exact s) (bD rfl rfl)))))))
end Go.Proofs.YtjblgopghhgflaaGreat
end

section
namespace Api
open Go Leg Codec Dsk Wal
structure RepOk(m:Nat)(s:MS LD):Prop where
 ops:0≤s.ops∧s.ops≤((m:Nat):Int)
 r: ∀x∈s.replies,1≤x.op∧x.op≤s.ops
 one:(s.replies.map (·.op)).Nodup
 w:0<s.waits→s.waits≤s.ops∧∀x∈s.replies,x.op≠s.waits
structure RepsOk(m:Nat)(a:CL):Prop where
 ok: ∀i s,(a.at' i).run=some s→RepOk m s
structure RW(r:ReplyT):Prop where
 op:ve r.op
 err:ve r.err
 value:ve r.value
def CG:OpT:=⟨0,0,0,0,5, .zero,0,0,0⟩
theorem CD:OkOp CG:=⟨I7,by decide⟩
def Kq:CL:=(Dy .new CG).1
def fitB:CL:=jD Kq 3
theorem fitA_ok:CLOk 1 Kq:=Lv new_ok CD
def NZ:Bool:=decide ((Dy .new CG).2=0)&&(match(fitB.at' 2).run with
 |some s=>decide (kx s.book 0=5)
 |none=>false)&&(fitB.at' 2).up&&(fitB.at' 4).up
theorem Hk:NZ=true:=by decide+kernel
theorem Kp:(Dy .new CG).2=0∧∃s2,(fitB.at' 2).run=some s2∧(fitB.at' 2).up=true∧kx s2.book 0=5∧(fitB.at' 4).up=true:=by
 have h:=Hk;unfold NZ at h;rw[aw,aw,aw]at h;obtain⟨⟨⟨h1,h2⟩,h3⟩,h4⟩:=h;refine⟨of_decide_eq_true h1,?_⟩;cases hs:(fitB.at' 2).run with
 |none=>rw[hs]at h2;cases h2
 |some s=>rw[hs]at h2;exact⟨s,rfl,h3,of_decide_eq_true h2,h4⟩
def EW{α:Type}(f:α→List Int)(us:List Value)(x:α)(_:Hl):Prop:=us=ints (f x)∧WF (f x)
theorem Ls{α:Type}{f:α→List Int}{m:Nat}{v:Value}{l:List α}{F:Hl}(h:IsL m (EW f) v l F):IsL m (EF f) v l F∧∀o∈l,WF (f o):=by
 rcases h with⟨rfl,rfl⟩| ⟨a,c,rfl,rfl⟩| ⟨b,off,cap,cs,T,z,rfl,h1,h2,h3,h4⟩
 · exact⟨.inl ⟨rfl,rfl⟩,λo ho=>by cases ho⟩
 · exact⟨.inr (.inl ⟨a,c,rfl,rfl⟩),λo ho=>by cases ho⟩
 · refine⟨.inr (.inr ⟨b,off,cap,cs,T,z,rfl,h1,h2,h3,λj hj=>?_⟩),λo ho=>?_⟩
   · obtain⟨us,e1,e2,e3⟩:=h4 j hj
     exact⟨us,e1,e2,e3.1⟩
   · obtain⟨j,hj,rfl⟩:=fq ho
     obtain⟨us,e1,e2,e3⟩:=h4 j hj;exact e3.2
theorem Kc{o:OpT}(h:WF o.flat):OkOp o:=by
 refine⟨⟨λn hn=>h n ?_⟩,?_⟩
 · simp only[OpT.flat,cg,co,List.not_mem_nil,or_false]
   simp[hn]
 · have:=vX (h o.n (by simp[OpT.flat]))
   omega
theorem L4{x:Value}{l:List OpT}{F:Hl}(h:IsL 11 (EW OpT.flat) x l F): ∀o∈l,OkOp o:=λo ho=>Kc ((Ls h).2 o ho)
section
variable {A m:List ReplyT} {e:Int}
end
end Api
end

section
namespace Go.Proofs.YtjblgopghhgflaaGreat
open Go Leg Codec Api Dsk Wal
theorem Ev(x:Value)(l:List OpT):
 DT 13 #[x] (IsL 11 (EF OpT.flat) x l) [] (RI (.bool (decide (((l.length:Nat):Int)≤1200))) []):=by
 refine BD 6 Tryz.func13 rfl rfl rfl λw0 F hF=>sr λ_ J1=>PS ?_
 refine nx J1 (sr λ_ J2=>PS ?_);refine tp (eh rfl Tryz.underlying22 rfl hF.len) ?_;refine P2 ?_;exact nx J2 (ai (WK [] (av rfl rfl ⟨rfl,rfl⟩)))
theorem kI{D:DS}(hD:Whole D.s): ∀k,k≤2048→Wrote .new k (0,ib D k)∧(ib D k).ar=false∧(ib D k).dn=false
 |0,_=>⟨Wrote.none DkOk.new.ok DkOk.new.inn,rfl,rfl⟩
 |k+1,hk=>by
  obtain⟨h,ha,hd⟩:=kI hD k (by omega);rw[ib];split
  · exact⟨h.more (by omega),ha,hd⟩
  · have h1:0≤((k:Nat):Int)∧((k:Nat):Int)<2048:=by omega
    have h2:(eU D.s ((k:Nat):Int)).length≤64:=by rw[cj hD];exact aH _
    have w:=ln h1 h2 hd (.inl ha);have o:=Wrote.one h.1 h.2.1 h1 h2;rw[w]at o ⊢;exact⟨h.then rfl o,by show(tT _ _ _).ar=false;unfold tT;exact ha,rfl⟩
theorem BH{D:DS}(hD:Whole D.s):DkOk (kp D):=by
 obtain⟨h,_⟩:=kI hD 2048 (aH _);exact(DkOk.wrote DkOk.new h (aH _)).2
theorem D3{D:DS}(hD:Whole D.s)(k:Nat)(hk:k≤2048):(ib D k).ws.length≤2048:=by
 obtain⟨⟨_,_,h⟩,_,hd⟩:=kI hD k hk;rcases h with⟨h,_⟩| ⟨_,h,_⟩
 · cases h
 · have:(DS.new).ws.length=0:=rfl
   have h:(ib D k).ws.length≤(DS.new).ws.length+k:=h;omega
theorem Fc(i d:Nat)(D:DS)(hok:DkOk D):
 DT 76 #[(.int .i64 (((i:Nat):Int))),(.pointer (some ⟨d,0,none⟩))] T0 [dk d D] (dz (λv H=>((cw i (kp D)).1=none∧v= .pointer none∧H=[dk d D])∨∃s r dn,(cw i (kp D)).1=some s∧v= .pointer (some ⟨r,0,none⟩)∧H=[dk d D,ff s dn r])):=by
 refine BD 36 Tryz.func76 rfl rfl rfl λw0 F hF=>sr λ_ J1=>PS ?_
 refine nx J1 (sr λ_ J2=>CR Mg (ET) ID λvR HR hR=>?_);obtain⟨dn,rfl,rfl⟩:=hR;refine PS ?_;refine nx J2 (aa λ_ J3=>sr λ_ J4=>PS ?_);refine nx J4 (aq ?_)
 refine bw (α:=(Nat)) (λk=>k≤2048) (λk=>[(0,(.int .i64 (((i:Nat):Int)))),(1,(.pointer (some ⟨d,0,none⟩))),(4,(.pointer none)),(5,(.pointer (some ⟨dn,0,none⟩))),(11,(.int .i64 (((k:Nat):Int))))]) (λk=>[dk d D,dk dn (ib D k)]) (λk=>2048-k) 0
  (aN _) SB
  (λ_ s=>aC [1,0] rfl s) (λk hinv=>?_)
 obtain hk:=hinv;refine sr λ_ J5=>PS ?_
 refine ao ?_ ?_<;>intro h12;refine nx J5 (aa λ_ J6=>CY (qx J6 (aa λ_ J7=>aq (sr λ_ J8=>P2 ?_))));refine nx J8 (sr λ_ J9=>P2 ?_);refine CE O4 (Kr d D ((k:Nat):Int) hok.ok) ID ?_;refine XA DH λb7=>?_
 refine bN (vs:=ej (eU D.s ((k:Nat):Int))) (i:=0) (ab rfl) rfl rfl rfl rfl rfl (by rw[ba,cj hok.ok.s];exact jM) (eY _) rfl rfl (by rw[ba,cj hok.ok.s];exact aH _) (fX (by rw[ba,cj hok.ok.s];rfl)) rfl (nx J9 (sr λ_ J10=>tp (aM (vs:=ej (eU D.s ((k:Nat):Int))) rfl py rfl jM rfl (RO 0) (by rw[ba];exact cj hok.ok.s _) (by rw[bd,az (by rw[ba,cj hok.ok.s];exact aH _)])) ?_));refine BV ((ej zs).toArray) ?_;refine tp (PV.neqB (a:=(eU D.s ((k:Nat):Int))) (b:=zs) (m:=2) KS KR rfl KT KV KU (cj hok.ok.s _) (by simp[zs]) rfl rfl rfl) ?_;refine ao ?_ ?_<;>intro h19;refine nx J10 (CY (ae (P2 ?_)));refine tp (nO rfl py lB rfl) ?_;refine CF Me (xG dn (ib D k) ((k:Nat):Int) (.slice (some ⟨b7,0,none⟩) (64) (64)) ((eU D.s ((k:Nat):Int))) (kI hok.ok.s k (by omega)).1.1 (by have:=D3 hok.ok.s k (by omega);omega)) (SM [2]) (λg d s=>Js (Cy 0 64 (cj hok.ok.s _) (by decide) rfl rfl g d s)) ?_;refine au (ag (ac J7 (ae (AD ?_))));refine PS ?_;refine au ?_
 exact aK ((k+1):(Nat)) (by omega) (by show 2048- (k+1)<2048-k;omega)
  SB
  (λ_ s=>by rw[ib,if_neg h19];exact am [2,0] rfl s)
 refine nx J10 (CN (aU (ag (ac J7 (ae (AD ?_))))));refine PS ?_;refine au ?_
 exact aK ((k+1):(Nat)) (by omega) (by show 2048- (k+1)<2048-k;omega)
  SB
  (λ_ s=>by rw[ib,if_pos (Decidable.not_not.1 h19)];exact am [1,1] rfl s)
 refine nx J5 (aa λ_ J11=>CN (aX (aA (aA (br (ac J3 (sr λ_ J12=>?_)))))));obtain rfl:k=2048:=by omega
 refine PS ?_;refine CE Md (A2 dn (ib D 2048) (kI hok.ok.s 2048 (by omega)).1.1) (SM [1]) ?_;refine nx J12 (sr λ_ J13=>P2 ?_);refine CR Mf (pU i dn (kp D) (BH hok.ok.s)) ID λvR HR hR=>?_
 rcases hR with⟨hn,h0,rfl,rfl⟩| ⟨s,r,hn,rfl,rfl⟩
 refine P4 ?_;refine PS ?_;refine nx J13 (aa λ_ J14=>sr λ_ J15=>P2 ?_);refine ao ?_ ?_<;>intro h34;refine nx J15 (CY (sr λ_ J16=>PS ?_));exact nx J16 (ai (af (WK [1] (av rfl rfl (.inl ⟨hn,rfl,rfl⟩)))))
 · exact absurd h34 (by simpa using h0)
 refine P4 ?_;refine PS ?_;refine nx J13 (aa λ_ J17=>sr λ_ J18=>P2 ?_);refine nx J18 (CN (qx J17 (sr λ_ J19=>P2 ?_)));exact nx J19 (ai (WK [2,0] (av rfl rfl (.inr ⟨s,r,dn,hn,rfl,rfl⟩))))
def OH(a:CL)(i:Nat)(d r:Nat):HP:=match My a i with
 |some s=>ff s d r
 |none=>λ_=>True
abbrev vj(a:CL)(d r:Nat→Nat)(j:Nat):HP:=OH a j (d j) (r j)
def vk(a:CL)(d r:Nat→Nat):HP:=bG ((List.range 5).map (vj a d r))
def sK(a:CL)(g:CX)(r:Nat→Nat)(i:Nat):Nat:=if(a.at' i).up then g.r i else r i
def lJ(a:CL)(g:CX)(r:Nat→Nat)(i:Nat):Value:=match io a i with
 |some _=> .pointer (some ⟨sK a g r i,0,none⟩)
 |none=> .pointer none
def kS(a:CL)(g:CX)(r:Nat→Nat)(i:Nat):List Value:=(List.range 5).map λj=>if j<i then lJ a g r j else .pointer none
section
variable {a:CL} {g:CX} {r d:Nat→Nat} {i x y:Nat}
theorem jt:(kS a g r i).length=5:=by simp[kS]
theorem IM: ∀u∈kS a g r i,u.oneCell'=true:=λu hu=>by
 unfold kS at hu;obtain⟨j,_,rfl⟩:=eG.1 hu;unfold lJ
 repeat' split
 all_goals rfl
theorem xd{v:Value}(hi:i<5){r':Nat→Nat}(hr: ∀j,j<i→lJ a g r' j=lJ a g r j)(hv:v=lJ a g r' i):(kS a g r i).set i v=kS a g r' (i+1):=by
 refine List.ext_getElem? λj=>?_
 unfold kS
 by_cases hj:j=i
 · subst hj
   rw[List.getElem?_set_self (by simp;omega),List.getElem?_map,List.getElem?_range hi];simp[hv]
 · rw[List.getElem?_set_ne (λe=>hj e.symm),List.getElem?_map,List.getElem?_map]
   by_cases h5:j<5
   · rw[List.getElem?_range h5]
     simp only[Option.map_some]
     by_cases h:j<i
     · rw[if_pos h,if_pos (by omega),hr j h]
     · rw[if_neg h,if_neg (by omega)]
   · rw[List.getElem?_eq_none (by rw[oD];omega)];rfl
theorem FS{v:Value}(hi:i<5):((kS a g r i).set i v)[i]?=some v:=List.getElem?_set_self (by rw[jt];exact hi)
theorem Ct{j:Nat}(hj:j<5):(kS a g r 5)[j]?=some (lJ a g r j):=by
 unfold kS;rw[List.getElem?_map,List.getElem?_range hj];simp[hj]
theorem H5{s:MS LD}(hu:(a.at' i).up=true)(hs:(a.at' i).run=some s):io a i=some s:=by unfold io;rw[if_pos hu];exact hs
theorem wG(hu:(a.at' i).up=false):io a i=(cw i (kp (a.at' i).dk)).1:=by unfold io;rw[if_neg (by rw[hu];decide)]
theorem Fe(hu:(a.at' i).up=false):My a i=(cw i (kp (a.at' i).dk)).1:=by unfold My;rw[if_neg (by rw[hu];decide)]
theorem lu{s:MS LD}(hs:io a i=some s):lJ a g r i= .pointer (some ⟨sK a g r i,0,none⟩):=by unfold lJ;rw[hs]
theorem rl(hs:io a i=none):lJ a g r i= .pointer none:=by unfold lJ;rw[hs]
theorem Gn{j:Nat}(hj:j<i):lJ a g (k8 r i y) j=lJ a g r j:=by
 unfold lJ sK;rw[mZ r y (show j≠i by omega)]
theorem Kj{s:MS LD}(hi:i<5)(hu:(a.at' i).up=true)(hs:(a.at' i).run=some s):(kS a g r i).set i (.pointer (some ⟨g.r i,0,none⟩))=kS a g r (i+1):=
 xd hi (λ_ _=>rfl) (by rw[lu (H5 hu hs)];unfold sK;rw[if_pos hu])
theorem G2(hi:i<5)(hu:(a.at' i).up=false)(hn:(cw i (kp (a.at' i).dk)).1=none):((kS a g r i).set i (.pointer none)).set i (.pointer none)=kS a g r (i+1):=by
 rw[il];exact xd hi (λ_ _=>rfl) (by rw[rl ((wG hu).trans hn)])
theorem G1{s:MS LD}(hi:i<5)(hu:(a.at' i).up=false)(hn:(cw i (kp (a.at' i).dk)).1=some s):((kS a g r i).set i (.pointer none)).set i (.pointer (some ⟨y,0,none⟩))=kS a g (k8 r i y) (i+1):=by
 rw[il];refine xd hi (λj hj=>Gn hj) ?_;rw[lu ((wG hu).trans hn)];unfold sK;rw[if_neg (by rw[hu];decide),jh]
theorem Do{H:List HP}{h:Hl}(hn:My a i=none)(s:bG (bG ((List.range i).map (vj a d r))::H) h):bG (bG ((List.range (i+1)).map (vj a d r))::H) h:=by
 refine wQ (f:=vj a d r) (g:=vj a d r) (λ_ _=>rfl) ?_;have e:vj a d r i= λ_=>True:=by unfold vj OH;rw[hn]
 rw[e];exact pW s
theorem Ji{s:MS LD}{H:List HP}{h:Hl}(hn:My a i=some s)(q:bG (ff s x y::bG ((List.range i).map (vj a d r))::H) h):bG (bG ((List.range (i+1)).map (vj a (k8 d i x) (k8 r i y)))::H) h:=by
 refine wQ (f:=vj a d r) (g:=vj a (k8 d i x) (k8 r i y)) (λj hj=>by unfold vj;rw[mZ d x (show j≠i by omega),mZ r y (show j≠i by omega)]) ?_;have e:vj a (k8 d i x) (k8 r i y) i=ff s x y:=by unfold vj OH;rw[hn,jh,jh]
 rw[e];exact q
theorem vL{f:FuncId}{args:Nat→Array Value}{Q:Value→Prop}{c:Nat}{s:MS LD}(hi:i<5)(hs:io a i=some s)(hf: ∀d r,DT f (args r) T0 [ff s d r] (dz λv H=>Q v∧H=[ff s d r])):
 DT f (args (sK a g r i)) T0 [df c a g,vk a d r] (dz λv H=>Q v∧H=[df c a g,vk a d r]):=by
 cases hu:(a.at' i).up with
 |true=>
  have hr:(a.at' i).run=some s:=by unfold io at hs;rw[if_pos hu]at hs;exact hs
  unfold sK;rw[if_pos hu];refine Leg.Does.withinR (B:=[vk a d r]) (NW hi hr (hf (g.d i) (g.r i))) (λ_ _ _ _=>trivial) (λh q=>q) λv H hp=>?_
  obtain⟨hQ,rfl⟩:=hp;exact⟨_,λ_ q=>q,hQ,rfl⟩
 |false=>
  have ha:My a i=some s:=by rw[Fe hu,←wG hu];exact hs
  unfold sK;rw[if_neg (by rw[hu];decide)];have e:vj a d r i=ff s (d i) (r i):=by unfold vj OH;rw[ha]
  refine Leg.Does.withinR (B:=[bG (((List.range 5).map (vj a d r)).eraseIdx i),df c a g]) (hf (d i) (r i)) (λ_ _ _ _=>trivial) (λh q=>?_) λv H hp=>?_
  · have q2:=tR (f:=vj a d r) hi (aC [1,0] rfl q)
    rw[e]at q2;exact q2
  · obtain⟨hQ,rfl⟩:=hp
    refine⟨[df c a g,vk a d r],λh q=>?_,hQ,rfl⟩;refine aC [1,0] rfl (tQ (H:=[df c a g]) (f:=vj a d r) (g:=vj a d r) hi (λ_ _=>rfl) ?_);rw[e];exact q
end
theorem Dn(c i:Nat)(a:CL)(g:CX)(hi:i<5)(hok:DkOk (a.at' i).dk):DT 76 #[.int .i64 ((i:Nat):Int), .pointer (some ⟨g.d i,0,none⟩)] T0 [df c a g] (dz (λv H=>((cw i (kp (a.at' i).dk)).1=none∧v= .pointer none∧H=[df c a g])∨∃s r dn,(cw i (kp (a.at' i).dk)).1=some s∧v= .pointer (some ⟨r,0,none⟩)∧H=[df c a g,ff s dn r])):=by
 refine lK (FY (Q:=λv X=>((cw i (kp (a.at' i).dk)).1=none∧v= .pointer none∧X=[])∨∃s r dn,(cw i (kp (a.at' i).dk)).1=some s∧v= .pointer (some ⟨r,0,none⟩)∧X=[ff s dn r]) hi ?_) λv H hp=>?_
 · refine Leg.Does.withinR (B:=[ak c (eM g.n (mL g) (j0 a g.r) g.p) 104,eE 156 208 5 g.n (cR a.W),mH (g.p i) (a.at' i).past,qK (a.at' i) (g.d i) (g.r i)]) (Fc i (g.d i) (a.at' i).dk hok) (λ_ _ _ _=>trivial) (λh q=>aC [2,0,0,0,0] rfl q) λv H hp=>?_
   rcases hp with⟨hn,rfl,rfl⟩| ⟨s,r,dn,hn,rfl,rfl⟩
   · exact⟨_,λh q=>aC [1,1,0,0,0] rfl q,[], .inl ⟨hn,rfl,rfl⟩,(aP _).symm⟩
   · exact⟨_,λh q=>aC [2,2,0,1,1,0] rfl q,[ff s dn r], .inr ⟨s,r,dn,hn,rfl,rfl⟩,rfl⟩
 · obtain⟨X,hq,rfl⟩:=hp
   rcases hq with⟨hn,rfl,rfl⟩| ⟨s,r,dn,hn,rfl,rfl⟩
   · exact .inl ⟨hn,rfl,rfl⟩
   · exact .inr ⟨s,r,dn,hn,rfl,rfl⟩
theorem p6(c n:Nat)(a:CL)(g:CX)(h:CLOk n a):
 DT 41 #[(.pointer (some ⟨c,0,none⟩))] T0 [df c a g] (dz (λv H=>∃r d:Nat→Nat,v= .agg (kS a g r 5).toArray∧H=[df c a g,vk a d r])):=by
 refine BD 32 Tryz.func41 rfl rfl rfl λw0 F hF=>sr λ_ J1=>XA PF λb2=>?_
 refine nx J1 (sr λ_ J2=>XA PF λb3=>?_);refine nx J2 (aa λ_ J3=>sr λ_ J4=>PS ?_);refine nx J4 (aq ?_)
 refine bw (α:=(Nat)×(Nat→Nat)×(Nat→Nat)) (λ⟨i,d,r⟩=>i≤5) (λ⟨i,d,r⟩=>[(0,(.pointer (some ⟨c,0,none⟩))),(2,(.pointer (some ⟨b2,0,none⟩))),(3,(.pointer (some ⟨b3,0,none⟩))),(5,(.int .i64 (((i:Nat):Int))))]) (λ⟨i,d,r⟩=>[df c a g,ak b3 (kS a g r i) 62,bG ((List.range i).map (vj a d r)),ak b2 [(.pointer none),(.pointer none),(.pointer none),(.pointer none),(.pointer none)] 62]) (λ⟨i,d,r⟩=>5-i) (0,λ_=>0,λ_=>0)
  (aN _) SB
  (λ_ q=>aC [1,1,0,0] rfl (pW (am [2,0,0] rfl q))) (λ⟨i,d,r⟩ hinv=>?_)
 obtain hi:=hinv;refine sr λ_ J5=>PS ?_
 refine ao ?_ ?_<;>intro h6;refine nx J5 (aa λ_ J6=>CY (qx J6 (aa λ_ J7=>aq (sr λ_ J8=>P2 ?_))));refine nx J8 (sr λ_ J9=>P3 ?_);refine CR Pj (Et (i:=i) (by omega)) ID λvR HR hR=>?_
 rcases hR with⟨hup,rfl,rfl⟩| ⟨s,hrun,hup,rfl,rfl⟩
 refine IX i vm kh ?_;refine bF (i:=1) (ab rfl) rfl rfl rfl rfl rfl kh rfl rfl (by simp only[cB,jt];omega) rfl rfl (nx J9 (sr λ_ J10=>PS ?_));refine IX i vm kh ?_;refine LT 1 vn (.pointer none) ?_ (hc:=by exact FS (by omega));refine tp (Jp rfl vn rfl rfl) ?_;refine P3 ?_;refine CE M9 (xH (i:=i) (by omega)) ID ?_;refine tq (gg rfl tm rfl rfl) ?_;refine PS ?_;refine nx J10 (CY (ae (P4 ?_)));refine CE M9 (xH (i:=i) (by omega)) ID ?_;refine CR O2 (Dn c i a g (by omega) (h.at' i (by omega)).dk) ID λvR HR hR=>?_
 rcases hR with⟨hn,rfl,rfl⟩| ⟨s,rn,dn,hn,rfl,rfl⟩
 refine IX i vm kh ?_;refine bF (i:=1) (ab rfl) rfl rfl rfl rfl rfl kh rfl rfl (by simp only[cB,jt];omega) rfl rfl (au (ag (ac J7 (ae (AD ?_)))));refine PS ?_;refine au ?_
 exact aK ((i+1,d,r):(Nat)×(Nat→Nat)×(Nat→Nat)) (by omega) (by show 5- (i+1)<5-i;omega)
  SB
  (λ_ q=>by show bG [df c a g,ak b3 (kS a g r (i+1)) 62,bG ((List.range (i+1)).map (vj a d r)),ak b2 [(.pointer none),(.pointer none),(.pointer none),(.pointer none),(.pointer none)] 62] _;rw[←G2 (by omega) hup hn];exact aC [1,1,0,0] rfl (Do ((Fe hup).trans hn) (am [2,0,0,0] rfl q)))
 refine IX i vm kh ?_;refine bF (i:=2) (ab rfl) rfl rfl rfl rfl rfl kh rfl rfl (by simp only[cB,jt];omega) rfl rfl (au (ag (ac J7 (ae (AD ?_)))));refine PS ?_;refine au ?_
 exact aK ((i+1,k8 d i dn,k8 r i rn):(Nat)×(Nat→Nat)×(Nat→Nat)) (by omega) (by show 5- (i+1)<5-i;omega)
  SB
  (λ_ q=>by show bG [df c a g,ak b3 (kS a g (k8 r i rn) (i+1)) 62,bG ((List.range (i+1)).map (vj a (k8 d i dn) (k8 r i rn))),ak b2 [(.pointer none),(.pointer none),(.pointer none),(.pointer none),(.pointer none)] 62] _;rw[←G1 (by omega) hup hn];exact aC [1,1,0,0] rfl (Ji ((Fe hup).trans hn) (am [1,2,0,0,0] rfl q)))
 refine IX i vm kh ?_;refine bF (i:=1) (ab rfl) rfl rfl rfl rfl rfl kh rfl rfl (by simp only[cB,jt];omega) rfl rfl (nx J9 (sr λ_ J11=>PS ?_));refine IX i vm kh ?_;refine LT 1 vn (.pointer (some ⟨(g.r i),0,none⟩)) ?_ (hc:=by exact FS (by omega));refine tp (jf rfl vn rfl rfl) ?_;refine PS ?_
 iterate 4 refine UF ?_
 refine PS ?_;refine nx J11 (CN (aU (ag (ac J7 (ae (AD ?_))))));refine PS ?_;refine au ?_
 exact aK ((i+1,d,r):(Nat)×(Nat→Nat)×(Nat→Nat)) (by omega) (by show 5- (i+1)<5-i;omega)
  SB
  (λ_ q=>by show bG [df c a g,ak b3 (kS a g r (i+1)) 62,bG ((List.range (i+1)).map (vj a d r)),ak b2 [(.pointer none),(.pointer none),(.pointer none),(.pointer none),(.pointer none)] 62] _;rw[←Kj (by omega) hup hrun];exact aC [1,1,0,0] rfl (Do (by unfold My;rw[if_pos hup]) (am [2,0,0,0] rfl q)))
 refine nx J5 (aa λ_ J12=>CN (aX (aA (aA (br (ac J3 (sr λ_ J13=>?_)))))));obtain rfl:i=5:=by omega
 refine tp (aM (vs:=kS a g r 5) rfl vm rfl pq rfl (RO 1) jt (by rw[bd,az (c7 jt)])) ?_;exact bN (vs:=kS a g r 5) (i:=3) (ab rfl) rfl rfl rfl rfl rfl (by rw[jt];exact pq) IM rfl rfl (by rw[jt];exact aH _) (fX (Eq.trans (rfl:_=5) (by rw[jt]:(kS a g r 5).length=5).symm)) rfl (nx J13 (ai (yD (H':=[df c a g,bG ((List.range 5).map (vj a d r))]) rfl rfl vm rfl pq (RO 3) (by rw[jt]) (λ_ s=>am [0,1] rfl s) ⟨r,d,rfl,rfl⟩)))
section
variable {P:Program} {n:Nat} {D:List Deferred} {L:List (Nat×Value)} {S:World→Prop} {o:Oper} {t t':TypeId} {x y:Operand} {a:CL} {g:CX} {r:Nat→Nat} {j:Nat}
theorem PV.seenNil(ho:o.op= .binOp .eql t x y t')(hu:P.underlying t=some (.pointer (P.pointee t)))(hx:cK L x=some (lJ a g r j))(hy:cK L y=some (.pointer none)):PV P n D L S o (.bool (!(io a j).isSome)):=by
 cases hs:io a j with
 |none=>rw[rl hs]at hx;exact Jp ho hu hx hy
 |some s=>rw[lu hs]at hx;exact jf ho hu hx hy
theorem PV.seenNot(ho:o.op= .binOp .neq t x y t')(hu:P.underlying t=some (.pointer (P.pointee t)))(hx:cK L x=some (lJ a g r j))(hy:cK L y=some (.pointer none)):PV P n D L S o (.bool (io a j).isSome):=by
 cases hs:io a j with
 |none=>rw[rl hs]at hx;exact hX ho hu hx hy
 |some s=>rw[lu hs]at hx;exact gg ho hu hx hy
end
theorem wF{n:Nat}{a:CL}(h:CLOk n a){j:Nat}(hj:j<5){s:MS LD}(hs:io a j=some s):OkR KD s:=by
 unfold io at hs;split at hs
 · exact((h.at' j hj).run s hs).1
 · exact(tL hj (BH (h.at' j hj).dk.ok.s) hs).1
theorem NV{s:MS LD}(h:OkR KD s)(w:Int):WF (cQ s.mirror w).flat:=by
 unfold cQ;split
 · exact(h.mir _ _).wf
 · exact Jq OkRow.zero
theorem OM:(Tryz.prog.info? 121).map (·.zero)=some (some (.agg (ints BookT.zero.flat).toArray)):=by kernel_rfl
theorem pM(c n:Nat)(a:CL)(g:CX)(h:CLOk n a):
 DT 38 #[(.pointer (some ⟨c,0,none⟩))] T0 [df c a g] (dz (λv H=>∃(b:Nat) (d r:Nat→Nat),v= .pointer (some ⟨b,0,none⟩)∧H=[df c a g,vk a d r,ak b (ints (cu a).flat) 121])):=by
 refine BD 33 Tryz.func38 rfl rfl rfl λw0 F hF=>sr λ_ J1=>PS ?_
 refine nx J1 (sr λ_ J2=>XZ OM (ints BookT.zero.flat) λb9=>?_);refine PS ?_;refine nx J2 (aa λ_ J3=>sr λ_ J4=>PS ?_);refine CR Nf (p6 c n a g h) (SM [1]) λvR HR hR=>?_
 obtain⟨r,d,rfl,rfl⟩:=hR;refine PS ?_;refine nx J4 (aq ?_)
 refine bw (α:=(Nat)) (λj=>j≤5) (λj=>[(2,(.pointer none)),(3,(.pointer (some ⟨b9,0,none⟩))),(11,(.agg (kS a g r 5).toArray)),(12,(.int .i64 (((j:Nat):Int))))]) (λj=>[df c a g,vk a d r,ak b9 (ints (it a j).flat) 121]) (λj=>5-j) 0
  (aN _) SB
  (λ_ q=>aC [0,0,0] rfl q) (λj hinv=>?_)
 obtain hj:=hinv;refine sr λ_ J5=>PS ?_
 refine ao ?_ ?_<;>intro h13;refine nx J5 (aa λ_ J6=>CY (qx J6 (aa λ_ J7=>aq (sr λ_ J8=>tp (kZ (cs:=kS a g r 5) (v:=(lJ a g r j)) (r:=j) rfl vm vn rfl kh rfl rfl (by omega) (by omega) (by omega) (Ct (by omega))) ?_))));refine PS ?_;refine nx J8 (aa λ_ J9=>sr λ_ J10=>PS ?_);refine tp (PV.seenNil rfl vn rfl rfl) ?_;refine bc ?_ ?_<;>intro h16;refine nx J10 (CY (aX (aA (br (ac J7 (ae (AD ?_)))))));refine PS ?_;refine au ?_
 exact aK ((j+1):(Nat)) (by omega) (by show 5- (j+1)<5-j;omega)
  SB
  (λ_ q=>by show bG [df c a g,vk a d r,ak b9 (ints (it a (j+1)).flat) 121] _;rw[sD (by simpa using h16)];exact q)
 obtain⟨s,hs⟩:=Option.isSome_iff_exists.1 (by simpa using h16);have hsk:=wF h (by omega) hs;rw[lu hs];refine nx J10 (CN (qx J9 (sr λ_ J11=>PS ?_)));refine nx J11 (aq ?_)
 refine bw (α:=(Nat)) (λi=>i≤5) (λi=>[(2,(.pointer none)),(3,(.pointer (some ⟨b9,0,none⟩))),(5,(.pointer (some ⟨(sK a g r j),0,none⟩))),(11,(.agg (kS a g r 5).toArray)),(12,(.int .i64 (((j:Nat):Int)))),(17,(.int .i64 (((i:Nat):Int))))]) (λi=>[df c a g,vk a d r,ak b9 (ints (qC s (it a j) i).flat) 121]) (λi=>5-i) 0
  (aN _) SB
  (λ_ s=>s) (λi hinv=>?_)
 obtain hi:=hinv;refine sr λ_ J12=>PS ?_
 refine ao ?_ ?_<;>intro h18;refine nx J12 (aa λ_ J13=>CY (qx J13 (aa λ_ J14=>aq (sr λ_ J15=>P2 ?_))));refine nx J15 (sr λ_ J16=>P2 ?_);refine CE Pf (vL (i:=j) (args:=λr=>#[.pointer (some ⟨r,0,none⟩), .int .i64 ((i:Nat):Int)]) (Q:=λv=>v= .tuple #[.agg (ints (cQ s.mirror ((i:Nat):Int)).flat).toArray, .bool (fp s.mirror ((i:Nat):Int))]) (by omega) hs (λd r=>G0 s d r ((i:Nat):Int))) ID ?_;refine P3 ?_;refine XZ vf (ints RowT.zero.flat) λb7=>?_
 refine SW 0 be aj ?_;refine PS ?_;refine nx J16 (ae (P2 ?_));refine LW 0 ee be aj ?_;refine CE Kf (kW b9 0 121 (λx=>ints x.flat) Oz (qC s (it a j) i) ((i:Nat):Int) (cQ s.mirror ((i:Nat):Int)) (NV hsk _)) (SM [3]) ?_;refine au (ag (ac J14 (ae (AD ?_))));refine PS ?_;refine au ?_
 exact aK ((i+1):(Nat)) (by omega) (by show 5- (i+1)<5-i;omega)
  SB
  (λ_ q=>am [2,2,0] rfl q)
 refine nx J12 (aa λ_ J17=>CN (aX (aA (aA (br (ag (ac J7 (ae (AD ?_)))))))));refine PS ?_;refine au ?_
 exact aK ((j+1):(Nat)) (by omega) (by show 5- (j+1)<5-j;omega)
  SB
  (λ_ q=>by show bG [df c a g,vk a d r,ak b9 (ints (it a (j+1)).flat) 121] _;rw[sC hs,show 5=i by omega];exact q)
 refine nx J5 (aa λ_ J18=>CN (aX (aA (aA (br (ac J3 (sr λ_ J19=>P2 ?_)))))));exact nx J19 (ai (aF (H':=[df c a g,vk a d r,ak b9 (ints (cu a).flat) 121]) (dK _) (λ_ q=>by rw[show j=5 by omega]at q;exact q) (av rfl rfl ⟨b9,d,r,rfl,rfl⟩)))
theorem xg(c n:Nat)(a:CL)(g:CX)(h:CLOk n a):
 DT 44 #[(.pointer (some ⟨c,0,none⟩))] T0 [df c a g] (dz (λv H=>∃d r:Nat→Nat,v= .agg (ints (fM a).flat).toArray∧H=[df c a g,vk a d r])):=by
 refine BD 31 Tryz.func44 rfl rfl rfl λw0 F hF=>sr λ_ J1=>XZ r9 (ints ViewT.zero.flat) λb2=>?_
 refine nx J1 (sr λ_ J2=>CE Ml (rK) ID ?_);refine XZ r9 (ints ViewT.zero.flat) λb3=>?_
 refine SW 0 bk an ?_;refine PS ?_;refine nx J2 (aa λ_ J3=>sr λ_ J4=>PS ?_);refine CR Nf (p6 c n a g h) (SM [2]) λvR HR hR=>?_
 obtain⟨r,d,rfl,rfl⟩:=hR;refine PS ?_;refine nx J4 (aq ?_)
 refine bw (α:=(Nat)) (λj=>j≤5) (λj=>[(2,(.pointer (some ⟨b2,0,none⟩))),(3,(.pointer (some ⟨b3,0,none⟩))),(4,(.bool ((fU a j).2))),(9,(.agg (kS a g r 5).toArray)),(10,(.int .i64 (((j:Nat):Int))))]) (λj=>[df c a g,vk a d r,ak b3 (ints ((fU a j).1).flat) 44,ak b2 (ints ViewT.zero.flat) 44]) (λj=>5-j) 0
  (aN _) SB
  (λ_ s=>s) (λj hinv=>?_)
 obtain hj:=hinv;refine sr λ_ J5=>PS ?_
 refine ao ?_ ?_<;>intro h11;refine nx J5 (aa λ_ J6=>CY (qx J6 (aa λ_ J7=>aq (sr λ_ J8=>tp (kZ (cs:=kS a g r 5) (v:=(lJ a g r j)) (r:=j) rfl vm vn rfl kh rfl rfl (by omega) (by omega) (by omega) (Ct (by omega))) ?_))));refine PS ?_;refine nx J8 (aa λ_ J9=>D1 2 dN ?_);refine PD 0 ?_;refine ta 1 rfl (PV.seenNot rfl vn rfl rfl) ?_;refine oA ?_ ?_<;>intro h14;obtain⟨s,hs⟩:=Option.isSome_iff_exists.1 h14;have hsk:=wF h (by omega) hs;rw[lu hs];refine PD 2 ?_;refine PD 3 ?_;refine oA ?_ ?_<;>intro h16;refine PD 4 ?_;refine PD 5 ?_;refine PD 6 ?_;refine FD 9 0 eS aQ ?_;refine LX 10 Y3 (.int .i64 (((fU a j).1).epoch)) ?_ (hc:=by exact bi _ rfl);refine AL 7 ?_;refine CE Mk (vL (i:=j) (args:=λr=>#[.pointer (some ⟨r,0,none⟩)]) (Q:=λv=>v= .agg (ints s.view.flat).toArray) (by omega) hs (λd r=>q7 s d r)) ID ?_;refine EN (tb 8 rfl (PV.field1 (cs:=ints s.view.flat) (v:=Value.int .i64 s.view.epoch) rfl eS rfl Y3 rfl rfl (bi s.view rfl)) ?_);refine PD 11 ?_;refine jc ?_ ?_<;>intro h24;refine PD 12 ?_;refine PD 13 ?_;refine DN (ac J9 (CY (ae (PS ?_))));refine CE Mk (vL (i:=j) (args:=λr=>#[.pointer (some ⟨r,0,none⟩)]) (Q:=λv=>v= .agg (ints s.view.flat).toArray) (by omega) hs (λd r=>q7 s d r)) ID ?_;refine SW 2 bk an ?_;refine PS ?_;refine au (ag (ac J7 (ae (AD ?_))));refine PS ?_;refine au ?_
 exact aK ((j+1):(Nat)) (by omega) (by show 5- (j+1)<5-j;omega)
  (aT (aT (bz rfl (by rw[ku hs,if_pos (.inr h24)]) SB)))
  (λ_ q=>by show bG [df c a g,vk a d r,ak b3 (ints (fU a (j+1)).1.flat) 44,ak b2 (ints ViewT.zero.flat) 44] _;rw[ku hs,if_pos (.inr h24)];exact am [0,0,0,0] rfl q)
 refine PD 12 ?_;refine PD 13 ?_;refine DN (ac J9 (CN (aU (ag (ac J7 (ae (AD ?_)))))));refine PS ?_;refine au ?_
 exact aK ((j+1):(Nat)) (by omega) (by show 5- (j+1)<5-j;omega)
  (aT (aT (bz rfl (by rw[uV hs (by simpa using h16) h24]) SB)))
  (λ_ q=>by show bG [df c a g,vk a d r,ak b3 (ints (fU a (j+1)).1.flat) 44,ak b2 (ints ViewT.zero.flat) 44] _;rw[uV hs (by simpa using h16) h24];exact am [0,0,0,0] rfl q)
 refine PD 4 ?_;refine PD 5 ?_;refine NT 6 ?_;refine NT 7 ?_;refine NT 8 ?_;refine NT 9 ?_;refine NT 10 ?_;refine NT 11 ?_;refine PD 12 ?_;refine PD 13 ?_;refine DN (ac J9 (CY (ae (PS ?_))));refine CE Mk (vL (i:=j) (args:=λr=>#[.pointer (some ⟨r,0,none⟩)]) (Q:=λv=>v= .agg (ints s.view.flat).toArray) (by omega) hs (λd r=>q7 s d r)) ID ?_;refine SW 2 bk an ?_;refine PS ?_;refine au (ag (ac J7 (ae (AD ?_))));refine PS ?_;refine au ?_
 exact aK ((j+1):(Nat)) (by omega) (by show 5- (j+1)<5-j;omega)
  (aT (aT (bz rfl (by rw[ku hs,if_pos (.inl (by simpa using h16))]) SB)))
  (λ_ q=>by show bG [df c a g,vk a d r,ak b3 (ints (fU a (j+1)).1.flat) 44,ak b2 (ints ViewT.zero.flat) 44] _;rw[ku hs,if_pos (.inl (by simpa using h16))];exact am [0,0,0,0] rfl q)
 refine PD 2 ?_;refine NT 3 ?_;refine NT 4 ?_;refine NT 5 ?_;refine vc (i:=6) (b:=false) rfl (by kernel_rfl) (by kernel_rfl) (by kernel_rfl) (λ_ _ _ _ h=>h) rfl rfl rfl rfl rfl (vc (i:=7) (b:=false) rfl (by kernel_rfl) (by kernel_rfl) (by kernel_rfl) (λ_ _ _ _ h=>h) rfl rfl rfl rfl rfl (vc (i:=8) (b:=false) rfl (by kernel_rfl) (by kernel_rfl) (by kernel_rfl) (λ_ _ _ _ h=>h) rfl rfl rfl rfl rfl (vc (i:=9) (b:=false) rfl (by kernel_rfl) (by kernel_rfl) (by kernel_rfl) (λ_ _ _ _ h=>h) rfl rfl rfl rfl rfl (vc (i:=10) (b:=false) rfl (by kernel_rfl) (by kernel_rfl) (by kernel_rfl) (λ_ _ _ _ h=>h) rfl rfl rfl rfl rfl (vc (i:=11) (b:=false) rfl (by kernel_rfl) (by kernel_rfl) (by kernel_rfl) (λ_ _ _ _ h=>h) rfl rfl rfl rfl rfl (NT 12 ?_))))));refine PD 13 ?_;refine DN (ac J9 (CN (aU (ag (ac J7 (ae (AD ?_)))))));refine PS ?_;refine au ?_
 exact aK ((j+1):(Nat)) (by omega) (by show 5- (j+1)<5-j;omega)
  (aT (aT (bz rfl (by rw[p8 (by simpa using h14)]) SB)))
  (λ_ q=>by show bG [df c a g,vk a d r,ak b3 (ints (fU a (j+1)).1.flat) 44,ak b2 (ints ViewT.zero.flat) 44] _;rw[p8 (by simpa using h14)];exact am [0,0,0,0] rfl q)
 refine nx J5 (aa λ_ J10=>CN (aX (aA (aA (br (ac J3 (sr λ_ J11=>LW 2 eS bk an ?_)))))));refine SW 3 bk an ?_;refine nx J11 (ai (RC 3 [0,0] eS bk (an _) ?_));exact⟨d,r,by rw[show j=5 by omega];rfl,rfl⟩
def oi(v:ViewT)(k:Nat):List Int:=(List.range 5).map λj=>if j<k then tU v j else 0
theorem lR(v:ViewT)(k:Nat):(ints (oi v k)).length=5:=by simp[oi,ints]
theorem Cl{v:ViewT}{i:Nat}(hi:i<5):(ints (oi v i)).set i (.int .i64 (tU v i))=ints (oi v (i+1)):=by
 refine List.ext_getElem? λj=>?_
 unfold oi ints
 by_cases hj:j=i
 · subst hj
   rw[List.getElem?_set_self (by simp;omega),List.getElem?_map,List.getElem?_map,List.getElem?_range hi];simp
 · rw[List.getElem?_set_ne (λe=>hj e.symm),List.getElem?_map,List.getElem?_map,List.getElem?_map,List.getElem?_map]
   by_cases h5:j<5
   · rw[List.getElem?_range h5]
     simp only[Option.map_some]
     by_cases h:j<i
     · rw[if_pos h,if_pos (by omega)]
     · rw[if_neg h,if_neg (by omega)]
   · rw[List.getElem?_eq_none (by rw[oD];omega)];rfl
theorem Il{v:ViewT}{j:Nat}(hj:j<5):(ints (oi v 5))[j]?=some (.int .i64 (tU v j)):=by
 unfold oi ints;rw[List.getElem?_map,List.getElem?_map,List.getElem?_range hj];simp[hj]
theorem GT{v:ViewT}{i:Nat}(hi:i<5)(h: ¬(jQ v ((i:Nat):Int)).isSome=true):(ints (oi v i)).set i (.int .i64 ((i:Nat):Int))=ints (oi v (i+1)):=by
 rw[←Cl hi];unfold tU;rw[show jQ v ((i:Nat):Int)=none by simpa using h];rfl
theorem GS{v:ViewT}{i:Nat}(hi:i<5)(h:(jQ v ((i:Nat):Int)).isSome=true):((ints (oi v i)).set i (.int .i64 ((i:Nat):Int))).set i (.int .i64 ((jQ v ((i:Nat):Int)).getD 0))=ints (oi v (i+1)):=by
 rw[←Cl hi,il];unfold tU;obtain⟨x,hx⟩:=Option.isSome_iff_exists.1 h;rw[hx];rfl
theorem AE(v:ViewT)(hh:Rng v):
 DT 45 #[(.agg (ints v.flat).toArray)] T0 [] (RI (.agg (ints (oi v 5)).toArray) []):=by
 refine BD 25 Tryz.func45 rfl rfl rfl λw0 F hF=>sr λ_ J1=>XY (ints v.flat) λb1=>?_
 refine XZ OD (ints (#v[0,0,0,0,0]).toList) λb2=>?_
 refine nx J1 (sr λ_ J2=>XZ OD (ints (#v[0,0,0,0,0]).toList) λb3=>?_);refine nx J2 (aa λ_ J3=>sr λ_ J4=>PS ?_);refine nx J4 (aq ?_)
 refine bw (α:=(Nat)) (λi=>i≤5) (λi=>[(1,(.pointer (some ⟨b1,0,none⟩))),(2,(.pointer (some ⟨b2,0,none⟩))),(3,(.pointer (some ⟨b3,0,none⟩))),(7,(.int .i64 (((i:Nat):Int))))]) (λi=>[ak b3 (ints (oi v i)) 42,ak b1 (ints v.flat) 44,ak b2 (ints (#v[0,0,0,0,0]).toList) 42]) (λi=>5-i) 0
  (aN _) SB
  (λ_ s=>am [0,1,0] rfl s) (λi hinv=>?_)
 obtain hi:=hinv;refine sr λ_ J5=>PS ?_
 refine ao ?_ ?_<;>intro h8;refine nx J5 (aa λ_ J6=>CY (qx J6 (aa λ_ J7=>aq (sr λ_ J8=>P2 ?_))));refine nx J8 (sr λ_ J9=>P2 ?_);refine IX i jU aQ ?_;refine bF (i:=0) (ab rfl) rfl rfl rfl rfl rfl aQ rfl rfl (by simp only[cB,lR];omega) rfl rfl (nx J9 (sr λ_ J10=>LW 1 eS bk an ?_));refine PS ?_;refine CE Kg (qG v ((i:Nat):Int) hh) ID ?_;refine P3 ?_;refine bc ?_ ?_<;>intro h18;refine P2 ?_;refine nx J10 (sr λ_ J11=>PS ?_);refine nx J11 (CY (ae (P2 ?_)));refine IX i jU aQ ?_;refine bF (i:=0) (ab rfl) rfl rfl rfl rfl rfl aQ rfl rfl (by simp only[cB,lR];omega) rfl rfl (au (ag (ac J7 (ae (AD ?_)))));refine PS ?_;refine au ?_
 exact aK ((i+1):(Nat)) (by omega) (by show 5- (i+1)<5-i;omega)
  SB
  (λ_ q=>by show bG [ak b3 (ints (oi v (i+1))) 42,ak b1 (ints v.flat) 44,ak b2 (ints (#v[0,0,0,0,0]).toList) 42] _;rw[←GS (by omega) h18];exact am [0,0,0] rfl q)
 refine P2 ?_;refine nx J10 (sr λ_ J12=>PS ?_);refine nx J12 (CN (aU (ag (ac J7 (ae (AD ?_))))));refine PS ?_;refine au ?_
 exact aK ((i+1):(Nat)) (by omega) (by show 5- (i+1)<5-i;omega)
  SB
  (λ_ q=>by show bG [ak b3 (ints (oi v (i+1))) 42,ak b1 (ints v.flat) 44,ak b2 (ints (#v[0,0,0,0,0]).toList) 42] _;rw[←GT (by omega) (by simpa using h18)];exact am [0,0,0] rfl q)
 refine nx J5 (aa λ_ J13=>CN (aX (aA (aA (br (ac J3 (sr λ_ J14=>?_)))))));obtain rfl:i=5:=by omega
 refine tp (aM (vs:=ints (oi v 5)) rfl jU rfl e8 rfl (RO 0) (lR _ _) (by rw[bd,az (c7 (lR _ _))])) ?_;exact bN (vs:=ints (oi v 5)) (i:=2) (ab rfl) rfl rfl rfl rfl rfl (by rw[lR];exact e8) (bC _) rfl rfl (by rw[lR];exact aH _) (fX (by rw[lR];rfl)) rfl (nx J14 (ai (yD (H':=[]) rfl rfl jU rfl e8 (RO 2) (by rw[lR _ _]) (λ_ s=>am [] rfl s) ⟨rfl,rfl⟩)))
theorem IT{S:List Int}{o k:Nat}(ho:o=k)(h:k<S.length):(ints S)[o]?=some (.int .i64 (S.getD k 0)):=by
 subst ho;simp[ints,List.getD_eq_getElem?_getD,h]
theorem IS{S:List Int}{o k:Nat}{x:Int}(ho:o=k):(ints S).set o (.int .i64 x)=ints (S.set k x):=by
 subst ho;simp[ints,yP]
theorem Ja{B:BookT}{key:Int}{i o:Nat}(k:Nat)(hi:i<5)(ho:o=i*7+k)(hk:k<7){r:Option Value}(hr:(ints (ir B key i).flat)[k]?=r):(ints ((pw B key 5).toList.flatMap CellT.flat))[o]?=r:=
 n5 bA (pw B key 5) k hi ho hk (by rw[I9 hi];exact hr)
theorem De{B:BookT}{key:Int}{i j o:Nat}(hi:i<5)(hj:j<5)(ho:o=i*7+(2+j)):(ints ((pw B key 5).toList.flatMap CellT.flat))[o]?=some (.int .i64 ((ir B key i).given.toList.getD j 0)):=
 Ja (2+j) hi ho (by omega) (by simp[CellT.flat,ints,List.getElem?_cons_succ,show 2+j=j+1+1 by omega,List.getD_eq_getElem?_getD,hj])
theorem Oa{B:BookT}{key:Int}{i o:Nat}(hi:i<5)(ho:o=i*7):wr (ints ((pw B key i).toList.flatMap CellT.flat)) o (ints (ir B key i).flat)=ints ((pw B key (i+1)).toList.flatMap CellT.flat):=by
 have h:=uy bA (pw B key i) (i:=i) (o:=o) 0 (vs:=ints (ir B key i).flat) (u':=ir B key i) hi (by omega) (by rw[bg,bu];exact aH _) (ct ((bu _).trans (bu _).symm))
 rwa [I8 hi]at h
theorem Mw{B:BookT}{key:Int}{k:Nat}:(ints ((pw B key k).toList.flatMap CellT.flat)).length=35:=by
 rw[xu bA,aB]
theorem xh{n:Nat}{a:CL}(h:CLOk n a): ∀j,j≤5→Rng (fU a j).1
 |0,_=>Rng.first
 |j+1,hj=>by
  have ih:=xh h j (by omega);rcases hs:io a j with _|s
  · rw[p8 hs];exact ih
  · have hk:=wF h (by omega) hs
    rw[ku hs];split
    · exact hk.view.rng
    · exact ih
theorem G7{n:Nat}{a:CL}(h:CLOk n a):Rng (fM a):=xh h 5 (aH _)
theorem sI(c n:Nat)(a:CL)(g:CX)(h:CLOk n a)(key:Int):
 DT 37 #[(.pointer (some ⟨c,0,none⟩)),(.int .i64 (key))] T0 [df c a g] (dz (λv H=>(¬(0≤key∧key<4)∧v= .agg (ints (List.replicate 5 0)).toArray∧H=[df c a g])∨((0≤key∧key<4)∧∃d r:Nat→Nat,v= .agg (ints (tw (cu a) key (fM a) 5)).toArray∧H=[df c a g,vk a d r]))):=by
 refine Leg.Does.body (vs:=[(.pointer (some ⟨c,0,none⟩)),(.int .i64 (key))]) (n:=82) Tryz.func37 rfl rfl rfl (λw0 F hF=>?_);refine aa (λK1 hK1=>?_);refine ae ?_;refine qn (ab rfl) rfl rfl rfl OD (λb4=>?_);change TL _ _ _ _ _ _ _ _ _ [ak b4 (ints (#v[0,0,0,0,0]).toList) 42,df c a g];refine au ?_;refine ac hK1 ?_;clear hK1;refine aa (λK2 hK2=>?_);refine ae ?_;refine qn (ab rfl) rfl rfl rfl OD (λb5=>?_);change TL _ _ _ _ _ _ _ _ _ [ak b5 (ints (#v[0,0,0,0,0]).toList) 42,ak b4 (ints (#v[0,0,0,0,0]).toList) 42,df c a g];refine au ?_;refine ac hK2 ?_;clear hK2;refine aa (λK3 hK3=>?_);refine aa (λK4 hK4=>?_);refine ae ?_;refine l5 (ab rfl) rfl rfl (jV rfl rfl) ?_;refine l5 (ab rfl) rfl rfl (PV.lss rfl rfl rfl) ?_;refine ao (λh13=>?_) (λh13=>?_)
 · skip
   refine l5 (ab rfl) rfl rfl (jV rfl rfl) ?_;refine qm (b:=true) rfl rfl rfl rfl (lb rfl) ?_;refine qm (b:=true) rfl rfl rfl rfl (lb rfl) ?_;refine l5 (ab rfl) rfl rfl (yJ rfl rfl rfl) ?_;refine au ?_;refine ac hK4 ?_;clear hK4;refine ny rfl ?_;refine aa (λK5 hK5=>?_);refine ae ?_;refine l5 (ab rfl) rfl rfl (aM (vs:=ints (#v[0,0,0,0,0]).toList) rfl jU rfl e8 rfl (fi 0 rfl rfl) (dv (#v[0,0,0,0,0])) (whole (dv (#v[0,0,0,0,0])))) ?_;refine bN (vs:=ints (#v[0,0,0,0,0]).toList) (i:=1) (H':=[ak b5 (ints (#v[0,0,0,0,0]).toList) 42,ak b4 (ints (#v[0,0,0,0,0]).toList) 42,df c a g]) (ab rfl) rfl rfl rfl rfl rfl (by rw[(dv (#v[0,0,0,0,0]))];exact e8) (bC _) rfl rfl (by have h0:=(dv (#v[0,0,0,0,0]));have h1:=(dv (#v[0,0,0,0,0]));omega) (ct ((dv (#v[0,0,0,0,0])).trans (dv (#v[0,0,0,0,0])).symm)) rfl ?_;refine au ?_;refine ac hK5 ?_;clear hK5;refine ai ?_;refine af ?_;clear hK3;refine yD (H':=[df c a g]) rfl rfl jU rfl e8 (fi 1 rfl rfl) (dv (#v[0,0,0,0,0])) (λ_ s=>am [2] rfl s) ?_;exact .inl ⟨by omega,rfl,rfl⟩
 · skip
   refine l5 (ab rfl) rfl rfl (jV rfl rfl) ?_;refine l5 (ce rfl rfl rfl) rfl rfl (jV rfl rfl) ?_;refine l5 (ce rfl rfl rfl) rfl rfl (PV.geq rfl rfl rfl) ?_;refine ao (λh16=>?_) (λh16=>?_)
   · skip
     refine l5 (ab rfl) rfl rfl (yJ rfl rfl rfl) ?_;refine au ?_;refine ac hK4 ?_;clear hK4;refine ny rfl ?_;refine aa (λK6 hK6=>?_);refine ae ?_;refine l5 (ab rfl) rfl rfl (aM (vs:=ints (#v[0,0,0,0,0]).toList) rfl jU rfl e8 rfl (fi 0 rfl rfl) (dv (#v[0,0,0,0,0])) (whole (dv (#v[0,0,0,0,0])))) ?_;refine bN (vs:=ints (#v[0,0,0,0,0]).toList) (i:=1) (H':=[ak b5 (ints (#v[0,0,0,0,0]).toList) 42,ak b4 (ints (#v[0,0,0,0,0]).toList) 42,df c a g]) (ab rfl) rfl rfl rfl rfl rfl (by rw[(dv (#v[0,0,0,0,0]))];exact e8) (bC _) rfl rfl (by have h0:=(dv (#v[0,0,0,0,0]));have h1:=(dv (#v[0,0,0,0,0]));omega) (ct ((dv (#v[0,0,0,0,0])).trans (dv (#v[0,0,0,0,0])).symm)) rfl ?_;refine au ?_;refine ac hK6 ?_;clear hK6;refine ai ?_;refine af ?_;clear hK3;refine yD (H':=[df c a g]) rfl rfl jU rfl e8 (fi 1 rfl rfl) (dv (#v[0,0,0,0,0])) (λ_ s=>am [2] rfl s) ?_;exact .inl ⟨by omega,rfl,rfl⟩
   · skip
     refine l5 (ab rfl) rfl rfl (yJ rfl rfl rfl) ?_;refine au ?_;refine ac hK4 ?_;clear hK4;refine F2 rfl ?_;refine aU ?_;refine ac hK3 ?_;clear hK3;refine aa (λK7 hK7=>?_);refine ae ?_;refine l5 (ab rfl) rfl rfl (jV rfl rfl) ?_;refine kX (A:=[df c a g]) (B:=[ak b5 (ints (#v[0,0,0,0,0]).toList) 42,ak b4 (ints (#v[0,0,0,0,0]).toList) 42]) (ab rfl) rfl rfl rfl Mi rfl (pM c n a g h) (λ_ s=>aC [2] rfl s) (λ_ _ _=>trivial) (λvR HR hR=>?_);obtain⟨bt,d,r,rfl,rfl⟩:=hR;change TL _ _ _ _ _ _ _ _ _ [df c a g,vk a d r,ak bt (ints (cu a).flat) 121,ak b5 (ints (#v[0,0,0,0,0]).toList) 42,ak b4 (ints (#v[0,0,0,0,0]).toList) 42];refine l5 (ab rfl) rfl rfl (PK rfl rfl) ?_;refine au ?_;refine ac hK7 ?_;clear hK7;refine aa (λK8 hK8=>?_);refine ae ?_;refine qn (ab rfl) rfl rfl rfl MN (λb7=>?_);change TL _ _ _ _ _ _ _ _ _ [ak b7 (ints ((#v[CellT.zero,CellT.zero,CellT.zero,CellT.zero,CellT.zero]).toList.flatMap CellT.flat)) 132,df c a g,vk a d r,ak bt (ints (cu a).flat) 121,ak b5 (ints (#v[0,0,0,0,0]).toList) 42,ak b4 (ints (#v[0,0,0,0,0]).toList) 42];refine au ?_;refine ac hK8 ?_;clear hK8;refine aa (λK9 hK9=>?_);refine aa (λK10 hK10=>?_);refine ae ?_;refine l5 (ab rfl) rfl rfl (jV rfl rfl) ?_;refine au ?_;refine ac hK10 ?_;clear hK10;refine aq ?_
     refine bw (α:=(Nat)) (λi=>i≤5) (λi=>[(0,(.pointer (some ⟨c,0,none⟩))),(1,(.int .i64 (key))),(4,(.pointer (some ⟨b4,0,none⟩))),(5,(.pointer (some ⟨b5,0,none⟩))),(6,(.pointer (some ⟨bt,0,none⟩))),(7,(.pointer (some ⟨b7,0,none⟩))),(21,(.int .i64 (((i:Nat):Int))))]) (λi=>[df c a g,vk a d r,ak bt (ints (cu a).flat) 121,ak b7 (ints ((pw (cu a) key i).toList.flatMap CellT.flat)) 132,ak b5 (ints (#v[0,0,0,0,0]).toList) 42,ak b4 (ints (#v[0,0,0,0,0]).toList) 42]) (λi=>5-i) 0
      (aN _) (aT (aT (aT (aT (aT (aT (bz rfl (by congr 1) (MI _))))))))
      (λ_ s=>am [1,1,1,0,0,0] rfl s) (λi hinv=>?_)
     obtain hi:=hinv;refine aa (λK11 hK11=>?_);refine ae ?_;refine l5 (ab rfl) rfl rfl (PV.lss rfl rfl rfl) ?_;refine ao (λh22=>?_) (λh22=>?_)
     · skip
       refine au ?_;refine ac hK11 ?_;clear hK11;refine aa (λK12 hK12=>?_);refine ny rfl ?_;refine aU ?_;refine ac hK12 ?_;clear hK12;refine aa (λK13 hK13=>?_);refine aq ?_;refine aa (λK14 hK14=>?_);refine ae ?_;refine l5 (ab rfl) rfl rfl (jV rfl rfl) ?_;refine l5 (ab rfl) rfl rfl (PK rfl rfl) ?_;refine au ?_;refine ac hK14 ?_;clear hK14;refine ae ?_;refine l5 (ab rfl) rfl rfl (jV rfl rfl) ?_;refine l5 (ab rfl) rfl rfl (jV rfl rfl) ?_;refine l5 (ab rfl) rfl rfl (jV rfl rfl) ?_;refine l5 (ab rfl) rfl rfl (jV rfl rfl) ?_;refine kX (A:=[ak bt (ints (cu a).flat) 121]) (B:=[df c a g,vk a d r,ak b7 (ints ((pw (cu a) key i).toList.flatMap CellT.flat)) 132,ak b5 (ints (#v[0,0,0,0,0]).toList) 42,ak b4 (ints (#v[0,0,0,0,0]).toList) 42]) (ab rfl) rfl rfl rfl Mc rfl (nW bt 0 121 (λx=>ints x.flat) Oz (cu a) ((i:Nat):Int) key) (λ_ s=>aC [2] rfl s) (λ_ _ _=>trivial) (λvR HR hR=>?_);obtain⟨rfl,rfl⟩:=hR;change TL _ _ _ _ _ _ _ _ _ [ak bt (ints (cu a).flat) 121,df c a g,vk a d r,ak b7 (ints ((pw (cu a) key i).toList.flatMap CellT.flat)) 132,ak b5 (ints (#v[0,0,0,0,0]).toList) 42,ak b4 (ints (#v[0,0,0,0,0]).toList) 42];refine l5 (ab rfl) rfl rfl (eT (r:=i*7) rfl yB fF rfl rfl (by omega) (by omega) (by omega)) ?_
       refine bN (vs:=ints (ir (cu a) key i).flat) (i:=3) (H':=[ak bt (ints (cu a).flat) 121,df c a g,vk a d r,ak b7 (ints ((pw (cu a) key (i+1)).toList.flatMap CellT.flat)) 132,ak b5 (ints (#v[0,0,0,0,0]).toList) 42,ak b4 (ints (#v[0,0,0,0,0]).toList) 42]) (ab rfl) rfl rfl rfl rfl rfl (by rw[bu];exact fF) (bC _) rfl rfl (by rw[Mw,bu];omega) (Oa (by omega) (by omega)) rfl ?_;refine au ?_;refine ag ?_;refine ac hK13 ?_;clear hK13;refine ae ?_;refine l5 (ab rfl) rfl rfl (cC rfl rfl rfl (bV (by omega) (by omega))) ?_;refine l5 (ab rfl) rfl rfl (jV rfl rfl) ?_;refine au ?_
       exact aK ((i+1):(Nat)) (by omega) (by show 5- (i+1)<5-i;omega)
        (aT (aT (aT (aT (aT (aT (bz rfl (by simp) (MI _))))))))
        (λ_ s=>am [1,1,0,0,0,0] rfl s)
     · skip
       refine au ?_;refine ac hK11 ?_;clear hK11;refine aa (λK15 hK15=>?_);refine F2 rfl ?_;refine aX ?_;refine aA ?_;clear hK15;refine aA ?_;refine br ?_;refine ac hK9 ?_;clear hK9;refine aa (λK16 hK16=>?_);refine aa (λK17 hK17=>?_);refine ae ?_;obtain rfl:i=5:=by omega
       change TL _ _ _ _ _ _ _ _ _ [df c a g,vk a d r,ak bt (ints (cu a).flat) 121,ak b7 (ints ((pw (cu a) key 5).toList.flatMap CellT.flat)) 132,ak b5 (ints (tw (cu a) key (fM a) 0)) 42,ak b4 (ints (#v[0,0,0,0,0]).toList) 42];refine l5 (ab rfl) rfl rfl (jV rfl rfl) ?_;refine kX (A:=[df c a g]) (B:=[vk a d r,ak bt (ints (cu a).flat) 121,ak b7 (ints ((pw (cu a) key 5).toList.flatMap CellT.flat)) 132,ak b5 (ints (tw (cu a) key (fM a) 0)) 42,ak b4 (ints (#v[0,0,0,0,0]).toList) 42]) (ab rfl) rfl rfl rfl Nd rfl (xg c n a g h) (λ_ s=>s) (λ_ _ _=>trivial) (λvR HR hR=>?_);obtain⟨d2,r2,rfl,rfl⟩:=hR;change TL _ _ _ _ _ _ _ _ _ [df c a g,vk a d2 r2,vk a d r,ak bt (ints (cu a).flat) 121,ak b7 (ints ((pw (cu a) key 5).toList.flatMap CellT.flat)) 132,ak b5 (ints (tw (cu a) key (fM a) 0)) 42,ak b4 (ints (#v[0,0,0,0,0]).toList) 42];refine kX (A:=[]) (B:=[df c a g,vk a d2 r2,vk a d r,ak bt (ints (cu a).flat) 121,ak b7 (ints ((pw (cu a) key 5).toList.flatMap CellT.flat)) 132,ak b5 (ints (tw (cu a) key (fM a) 0)) 42,ak b4 (ints (#v[0,0,0,0,0]).toList) 42]) (ab rfl) rfl rfl rfl Pe rfl (AE (fM a) (G7 h)) (λ_ s=>s) (λ_ _ _=>trivial) (λvR HR hR=>?_);obtain⟨rfl,rfl⟩:=hR;change TL _ _ _ _ _ _ _ _ _ [df c a g,vk a d2 r2,vk a d r,ak bt (ints (cu a).flat) 121,ak b7 (ints ((pw (cu a) key 5).toList.flatMap CellT.flat)) 132,ak b5 (ints (tw (cu a) key (fM a) 0)) 42,ak b4 (ints (#v[0,0,0,0,0]).toList) 42]
       refine l5 (ab rfl) rfl rfl (jV rfl rfl) ?_;refine au ?_;refine ac hK17 ?_;clear hK17;refine aq ?_
       refine bw (α:=(Nat)) (λi=>i≤5) (λi=>[(4,(.pointer (some ⟨b4,0,none⟩))),(5,(.pointer (some ⟨b5,0,none⟩))),(7,(.pointer (some ⟨b7,0,none⟩))),(33,(.agg (ints (oi (fM a) 5)).toArray)),(34,(.int .i64 (((i:Nat):Int))))]) (λi=>[df c a g,vk a d2 r2,ak b7 (ints ((pw (cu a) key 5).toList.flatMap CellT.flat)) 132,ak b5 (ints (tw (cu a) key (fM a) i)) 42,ak b4 (ints (#v[0,0,0,0,0]).toList) 42]) (λi=>5-i) 0
        (aN _) (aT (aT (aT (aT (bz rfl (by congr 1) (MI _))))))
        (λ_ s=>am [0,0,2,2,2] rfl s) (λi hinv=>?_)
       obtain hi:=hinv;refine aa (λK18 hK18=>?_);refine ae ?_;refine l5 (ab rfl) rfl rfl (PV.lss rfl rfl rfl) ?_;refine ao (λh35=>?_) (λh35=>?_)
       · skip
         refine au ?_;refine ac hK18 ?_;clear hK18;refine aa (λK19 hK19=>?_);refine ny rfl ?_;refine aU ?_;refine ac hK19 ?_;clear hK19;refine aa (λK20 hK20=>?_);refine aq ?_;refine aa (λK21 hK21=>?_);refine ae ?_;refine l5 (ab rfl) rfl rfl (jV rfl rfl) ?_;refine l5 (ab rfl) rfl rfl (kZ (cs:=ints (oi (fM a) 5)) (v:=(.int .i64 (tU (fM a) i))) (r:=i) rfl jU Y3 rfl aQ rfl rfl (by omega) (by omega) (by omega) (Il (by omega))) ?_;refine l5 (ab rfl) rfl rfl (PK rfl rfl) ?_;refine l5 (ab rfl) rfl rfl (PK rfl rfl) ?_;refine au ?_;refine ac hK21 ?_;clear hK21;refine aa (λK22 hK22=>?_);refine aa (λK23 hK23=>?_);refine ae ?_;refine l5 (ab rfl) rfl rfl (jV rfl rfl) ?_;refine l5 (ab rfl) rfl rfl (PV.lss rfl rfl rfl) ?_;refine ao (λh39=>?_) (λh39=>?_)
         · skip
           refine l5 (ab rfl) rfl rfl (jV rfl rfl) ?_;refine qm (b:=true) rfl rfl rfl rfl (lb rfl) ?_;refine qm (b:=true) rfl rfl rfl rfl (lb rfl) ?_;refine l5 (ab rfl) rfl rfl (yJ rfl rfl rfl) ?_;refine au ?_;refine ac hK23 ?_;clear hK23;refine ny rfl ?_;refine aX ?_;refine aA ?_;clear hK22;refine br ?_;refine ac hK20 ?_;clear hK20;refine ae ?_;refine l5 (ab rfl) rfl rfl (cC rfl rfl rfl (bV (by omega) (by omega))) ?_;refine l5 (ab rfl) rfl rfl (jV rfl rfl) ?_;refine au ?_
           exact aK ((i+1):(Nat)) (by omega) (by show 5- (i+1)<5-i;omega)
            (aT (aT (aT (aT (bz rfl (by simp) (MI _))))))
            (λ_ q=>by show bG [df c a g,vk a d2 r2,ak b7 (ints ((pw (cu a) key 5).toList.flatMap CellT.flat)) 132,ak b5 (ints (tw (cu a) key (fM a) (i+1))) 42,ak b4 (ints (#v[0,0,0,0,0]).toList) 42] _;rw[tw,if_neg (by omega)];exact am [0,0,0,0,0] rfl q)
         · skip
           refine l5 (ab rfl) rfl rfl (jV rfl rfl) ?_;refine l5 (ce rfl rfl rfl) rfl rfl (jV rfl rfl) ?_;refine l5 (ce rfl rfl rfl) rfl rfl (PV.geq rfl rfl rfl) ?_;refine ao (λh42=>?_) (λh42=>?_)
           · skip
             refine l5 (ab rfl) rfl rfl (yJ rfl rfl rfl) ?_;refine au ?_;refine ac hK23 ?_;clear hK23;refine ny rfl ?_;refine aX ?_;refine aA ?_;clear hK22;refine br ?_;refine ac hK20 ?_;clear hK20;refine ae ?_;refine l5 (ab rfl) rfl rfl (cC rfl rfl rfl (bV (by omega) (by omega))) ?_;refine l5 (ab rfl) rfl rfl (jV rfl rfl) ?_;refine au ?_
             exact aK ((i+1):(Nat)) (by omega) (by show 5- (i+1)<5-i;omega)
              (aT (aT (aT (aT (bz rfl (by simp) (MI _))))))
              (λ_ q=>by show bG [df c a g,vk a d2 r2,ak b7 (ints ((pw (cu a) key 5).toList.flatMap CellT.flat)) 132,ak b5 (ints (tw (cu a) key (fM a) (i+1))) 42,ak b4 (ints (#v[0,0,0,0,0]).toList) 42] _;rw[tw,if_neg (by omega)];exact am [0,0,0,0,0] rfl q)
           · skip
             obtain⟨ow,how,hw5⟩: ∃ow:Nat,tU (fM a) i=((ow:Nat):Int)∧ow<5:=⟨(tU (fM a) i).toNat,by omega,by omega⟩;rw[how];refine l5 (ab rfl) rfl rfl (yJ rfl rfl rfl) ?_;refine au ?_;refine ac hK23 ?_;clear hK23;refine F2 rfl ?_;refine aU ?_;refine ac hK22 ?_;clear hK22;refine aa (λK24 hK24=>?_);refine rR (λw=>Frm F w∧w.heap[b7]?=some (.cells (ints ((pw (cu a) key 5).toList.flatMap CellT.flat)).toArray 132 (0,0))∧True) dN rfl (λ_ s=>⟨fu s,s.block 2 (lb rfl) rfl,trivial⟩) ?_;refine Jn (i:=0) rfl (by kernel_rfl) (by kernel_rfl) (by kernel_rfl) (λ_ _ _ _ h=>h) (ab rfl) rfl rfl (jV rfl rfl) ?_;refine Jn (i:=1) rfl (by kernel_rfl) (by kernel_rfl) (by kernel_rfl) (λ_ _ _ _ h=>h) (ab rfl) rfl rfl (eT (r:=ow) rfl jU aQ rfl rfl (by omega) (by omega) (by omega)) ?_;refine Jn (i:=3) rfl (by kernel_rfl) (by kernel_rfl) (by kernel_rfl) (λ_ _ _ _ h=>h) (ab rfl) rfl rfl (jV rfl rfl) ?_;refine Jn (i:=4) rfl (by kernel_rfl) (by kernel_rfl) (by kernel_rfl) (λ_ _ _ _ h=>h) (ab rfl) rfl rfl (eT (r:=i*7) rfl yB fF rfl rfl (by omega) (by omega) (by omega)) ?_;refine Jn (i:=5) rfl (by kernel_rfl) (by kernel_rfl) (by kernel_rfl) (λ_ _ _ _ h=>h) (ab rfl) rfl rfl (aY (r:=i*7) rfl mV rfl aQ rfl rfl) ?_
             refine Jn (i:=6) rfl (by kernel_rfl) (by kernel_rfl) (by kernel_rfl) (λ_ _ _ _ h=>h) (ab rfl) rfl rfl (ii (v:=(.int .i64 ((ir (cu a) key i).inn))) rfl Y3 rfl rfl (λ_ h=>h.2.1) (Ja 0 (by omega) (by omega) (by decide) (rX _ rfl))) ?_;refine Jn (i:=7) rfl (by kernel_rfl) (by kernel_rfl) (by kernel_rfl) (λ_ _ _ _ h=>h) (ab rfl) rfl rfl (jV rfl rfl) ?_;refine Jn (i:=8) rfl (by kernel_rfl) (by kernel_rfl) (by kernel_rfl) (λ_ _ _ _ h=>h) (ab rfl) rfl rfl (eT (r:=i*7) rfl yB fF rfl rfl (by omega) (by omega) (by omega)) ?_;refine Jn (i:=9) rfl (by kernel_rfl) (by kernel_rfl) (by kernel_rfl) (λ_ _ _ _ h=>h) (ab rfl) rfl rfl (aY (r:=i*7+1) rfl mV rfl aQ rfl rfl) ?_;refine Jn (i:=10) rfl (by kernel_rfl) (by kernel_rfl) (by kernel_rfl) (λ_ _ _ _ h=>h) (ab rfl) rfl rfl (ii (v:=(.int .i64 ((ir (cu a) key i).out))) rfl Y3 rfl rfl (λ_ h=>h.2.1) (Ja 1 (by omega) (by omega) (by decide) (rW _ rfl))) ?_;refine Jn (i:=11) rfl (by kernel_rfl) (by kernel_rfl) (by kernel_rfl) (λ_ _ _ _ h=>h) (ab rfl) rfl rfl (jd (r:=(fY ((ir (cu a) key i).inn- (ir (cu a) key i).out))) rfl rfl rfl rfl) ?_;refine cT [2] (by kernel_rfl) rfl ?_;refine aG rfl ?_ ?_
             · skip
               refine l5 (ab rfl) rfl rfl (ii (v:=(.int .i64 ((tw (cu a) key (fM a) i).getD ow 0))) rfl Y3 rfl rfl (fi 3 rfl rfl) (IT (by omega) (by simp only[JS,LS,cB,qy,iV,dV];omega))) ?_;refine au ?_;refine va (λ_ s=>⟨fu s,s.block 2 (lb rfl) rfl,trivial⟩) ?_;refine Jn (i:=12) rfl (by kernel_rfl) (by kernel_rfl) (by kernel_rfl) (λ_ _ _ _ h=>h) (ab rfl) rfl rfl (cC (r:=(fY ((tw (cu a) key (fM a) i).getD ow 0+fY ((ir (cu a) key i).inn- (ir (cu a) key i).out)))) rfl rfl rfl rfl) ?_;refine Jn (i:=13) rfl (by kernel_rfl) (by kernel_rfl) (by kernel_rfl) (λ_ _ _ _ h=>h) (ab rfl) rfl rfl (eT (r:=ow) rfl jU aQ rfl rfl (by omega) (by omega) (by omega)) ?_;refine cT [14] (by kernel_rfl) rfl ?_;refine aG rfl ?_ ?_
               · skip
                 refine bF (i:=3) (H':=[df c a g,vk a d2 r2,ak b7 (ints ((pw (cu a) key 5).toList.flatMap CellT.flat)) 132,ak b5 (ints (JS (cu a) key i ow (tw (cu a) key (fM a) i))) 42,ak b4 (ints (#v[0,0,0,0,0]).toList) 42]) (ab rfl) rfl rfl rfl rfl rfl aQ rfl rfl (by simp only[ints_length,JS,LS,cB,qy,iV,dV];omega) (IS (by omega)) rfl ?_;refine au ?_;refine va (λ_ s=>⟨fu s,s.block 2 (lb rfl) rfl,trivial⟩) ?_;refine TD.done (by kernel_rfl) ?_;refine ac hK24 ?_;clear hK24;refine aa (λK25 hK25=>?_);refine ae ?_;refine l5 (ab rfl) rfl rfl (jV rfl rfl) ?_;refine au ?_;refine ac hK25 ?_;clear hK25;refine aq ?_
                 refine bw (α:=(Nat)) (λj=>j≤5) (λj=>[(4,(.pointer (some ⟨b4,0,none⟩))),(5,(.pointer (some ⟨b5,0,none⟩))),(7,(.pointer (some ⟨b7,0,none⟩))),(9,(.int .i64 (((i:Nat):Int)))),(10,(.int .i64 (((ow:Nat):Int)))),(33,(.agg (ints (oi (fM a) 5)).toArray)),(34,(.int .i64 (((i:Nat):Int)))),(58,(.int .i64 (((j:Nat):Int))))]) (λj=>[df c a g,vk a d2 r2,ak b7 (ints ((pw (cu a) key 5).toList.flatMap CellT.flat)) 132,ak b5 (ints (JR (cu a) key i ow (JS (cu a) key i ow (tw (cu a) key (fM a) i)) j)) 42,ak b4 (ints (#v[0,0,0,0,0]).toList) 42]) (λj=>5-j) 0
                  (aN _) (aT (aT (aT (aT (aT (aT (aT (bz rfl (by congr 1) (MI _)))))))))
                  (λ_ s=>s) (λj hinv=>?_)
                 obtain hj:=hinv;refine aa (λK26 hK26=>?_);refine ae ?_;refine l5 (ab rfl) rfl rfl (PV.lss rfl rfl rfl) ?_;refine ao (λh59=>?_) (λh59=>?_)
                 · skip
                   refine au ?_;refine ac hK26 ?_;clear hK26;refine aa (λK27 hK27=>?_);refine ny rfl ?_;refine aU ?_;refine ac hK27 ?_;clear hK27;refine aa (λK28 hK28=>?_);refine aq ?_;refine aa (λK29 hK29=>?_);refine ae ?_;refine l5 (ab rfl) rfl rfl (jV rfl rfl) ?_;refine l5 (ab rfl) rfl rfl (PK rfl rfl) ?_;refine au ?_;refine ac hK29 ?_;clear hK29;refine rR (λw=>Frm F w∧w.heap[b7]?=some (.cells (ints ((pw (cu a) key 5).toList.flatMap CellT.flat)).toArray 132 (0,0))∧True) dN rfl (λ_ s=>⟨fu s,s.block 2 (lb rfl) rfl,trivial⟩) ?_;refine Jn (i:=0) rfl (by kernel_rfl) (by kernel_rfl) (by kernel_rfl) (λ_ _ _ _ h=>h) (ab rfl) rfl rfl (jV rfl rfl) ?_;refine Jn (i:=1) rfl (by kernel_rfl) (by kernel_rfl) (by kernel_rfl) (λ_ _ _ _ h=>h) (ab rfl) rfl rfl (eT (r:=ow) rfl jU aQ rfl rfl (by omega) (by omega) (by omega)) ?_;refine Jn (i:=3) rfl (by kernel_rfl) (by kernel_rfl) (by kernel_rfl) (λ_ _ _ _ h=>h) (ab rfl) rfl rfl (jV rfl rfl) ?_;refine Jn (i:=4) rfl (by kernel_rfl) (by kernel_rfl) (by kernel_rfl) (λ_ _ _ _ h=>h) (ab rfl) rfl rfl (jV rfl rfl) ?_;refine Jn (i:=5) rfl (by kernel_rfl) (by kernel_rfl) (by kernel_rfl) (λ_ _ _ _ h=>h) (ab rfl) rfl rfl (eT (r:=j*7) rfl yB fF rfl rfl (by omega) (by omega) (by omega)) ?_;refine Jn (i:=6) rfl (by kernel_rfl) (by kernel_rfl) (by kernel_rfl) (λ_ _ _ _ h=>h) (ab rfl) rfl rfl (aY (r:=j*7+2) rfl mV rfl e8 rfl rfl) ?_
                   refine Jn (i:=7) rfl (by kernel_rfl) (by kernel_rfl) (by kernel_rfl) (λ_ _ _ _ h=>h) (ab rfl) rfl rfl (eT (r:=j*7+2+i) rfl jU aQ rfl rfl (by omega) (by omega) (by omega)) ?_;refine Jn (i:=8) rfl (by kernel_rfl) (by kernel_rfl) (by kernel_rfl) (λ_ _ _ _ h=>h) (ab rfl) rfl rfl (ii (v:=(.int .i64 ((ir (cu a) key j).given.toList.getD i 0))) rfl Y3 rfl rfl (λ_ h=>h.2.1) (De (by omega) (by omega) (by omega))) ?_;refine Jn (i:=9) rfl (by kernel_rfl) (by kernel_rfl) (by kernel_rfl) (λ_ _ _ _ h=>h) (ab rfl) rfl rfl (jV rfl rfl) ?_;refine Jn (i:=10) rfl (by kernel_rfl) (by kernel_rfl) (by kernel_rfl) (λ_ _ _ _ h=>h) (ab rfl) rfl rfl (jV rfl rfl) ?_;refine Jn (i:=11) rfl (by kernel_rfl) (by kernel_rfl) (by kernel_rfl) (λ_ _ _ _ h=>h) (ab rfl) rfl rfl (eT (r:=i*7) rfl yB fF rfl rfl (by omega) (by omega) (by omega)) ?_;refine Jn (i:=12) rfl (by kernel_rfl) (by kernel_rfl) (by kernel_rfl) (λ_ _ _ _ h=>h) (ab rfl) rfl rfl (aY (r:=i*7+2) rfl mV rfl e8 rfl rfl) ?_;refine Jn (i:=13) rfl (by kernel_rfl) (by kernel_rfl) (by kernel_rfl) (λ_ _ _ _ h=>h) (ab rfl) rfl rfl (eT (r:=i*7+2+j) rfl jU aQ rfl rfl (by omega) (by omega) (by omega)) ?_
                   refine Jn (i:=14) rfl (by kernel_rfl) (by kernel_rfl) (by kernel_rfl) (λ_ _ _ _ h=>h) (ab rfl) rfl rfl (ii (v:=(.int .i64 ((ir (cu a) key i).given.toList.getD j 0))) rfl Y3 rfl rfl (λ_ h=>h.2.1) (De (by omega) (by omega) (by omega))) ?_;refine Jn (i:=15) rfl (by kernel_rfl) (by kernel_rfl) (by kernel_rfl) (λ_ _ _ _ h=>h) (ab rfl) rfl rfl (jd (r:=(fY ((ir (cu a) key j).given.toList.getD i 0- (ir (cu a) key i).given.toList.getD j 0))) rfl rfl rfl rfl) ?_;refine cT [2] (by kernel_rfl) rfl ?_;refine aG rfl ?_ ?_
                   · skip
                     refine l5 (ab rfl) rfl rfl (ii (v:=(.int .i64 ((JR (cu a) key i ow (JS (cu a) key i ow (tw (cu a) key (fM a) i)) j).getD ow 0))) rfl Y3 rfl rfl (fi 3 rfl rfl) (IT (by omega) (by simp only[JS,LS,cB,qy,iV,dV];omega))) ?_;refine au ?_;refine va (λ_ s=>⟨fu s,s.block 2 (lb rfl) rfl,trivial⟩) ?_;refine Jn (i:=16) rfl (by kernel_rfl) (by kernel_rfl) (by kernel_rfl) (λ_ _ _ _ h=>h) (ab rfl) rfl rfl (cC (r:=(fY ((JR (cu a) key i ow (JS (cu a) key i ow (tw (cu a) key (fM a) i)) j).getD ow 0+fY ((ir (cu a) key j).given.toList.getD i 0- (ir (cu a) key i).given.toList.getD j 0)))) rfl rfl rfl rfl) ?_;refine Jn (i:=17) rfl (by kernel_rfl) (by kernel_rfl) (by kernel_rfl) (λ_ _ _ _ h=>h) (ab rfl) rfl rfl (eT (r:=ow) rfl jU aQ rfl rfl (by omega) (by omega) (by omega)) ?_;refine cT [18] (by kernel_rfl) rfl ?_;refine aG rfl ?_ ?_
                     · skip
                       refine bF (i:=3) (H':=[df c a g,vk a d2 r2,ak b7 (ints ((pw (cu a) key 5).toList.flatMap CellT.flat)) 132,ak b5 (ints (LS (cu a) key i ow j (JR (cu a) key i ow (JS (cu a) key i ow (tw (cu a) key (fM a) i)) j))) 42,ak b4 (ints (#v[0,0,0,0,0]).toList) 42]) (ab rfl) rfl rfl rfl rfl rfl aQ rfl rfl (by simp only[ints_length,JS,LS,cB,qy,iV,dV];omega) (IS (by omega)) rfl ?_;refine au ?_;refine va (λ_ s=>⟨fu s,s.block 2 (lb rfl) rfl,trivial⟩) ?_;refine TD.done (by kernel_rfl) ?_;refine ag ?_;refine ac hK28 ?_;clear hK28;refine ae ?_;refine l5 (ab rfl) rfl rfl (cC rfl rfl rfl (bV (by omega) (by omega))) ?_;refine l5 (ab rfl) rfl rfl (jV rfl rfl) ?_;refine au ?_
                       exact aK ((j+1):(Nat)) (by omega) (by show 5- (j+1)<5-j;omega)
                        (aT (aT (aT (aT (aT (aT (aT (bz rfl (by simp) (MI _)))))))))
                        (λ_ s=>s)
                     exact bJ
                   exact bJ
                 · skip
                   refine au ?_;refine ac hK26 ?_;clear hK26;refine aa (λK30 hK30=>?_);refine F2 rfl ?_;refine aX ?_;refine aA ?_;clear hK30;refine aA ?_;refine br ?_;refine ag ?_;refine ac hK20 ?_;clear hK20;refine ae ?_;refine l5 (ab rfl) rfl rfl (cC rfl rfl rfl (bV (by omega) (by omega))) ?_;refine l5 (ab rfl) rfl rfl (jV rfl rfl) ?_;refine au ?_
                   exact aK ((i+1):(Nat)) (by omega) (by show 5- (i+1)<5-i;omega)
                    (aT (aT (aT (aT (bz rfl (by simp) (MI _))))))
                    (λ_ q=>by show bG [df c a g,vk a d2 r2,ak b7 (ints ((pw (cu a) key 5).toList.flatMap CellT.flat)) 132,ak b5 (ints (tw (cu a) key (fM a) (i+1))) 42,ak b4 (ints (#v[0,0,0,0,0]).toList) 42] _;rw[tw,if_pos (by omega),show(tU (fM a) i).toNat=ow by omega];rw[show j=5 by omega]at q;exact am [0,0,0,0,0] rfl q)
               exact bJ
             exact bJ
       · skip
         refine au ?_;refine ac hK18 ?_;clear hK18;refine aa (λK31 hK31=>?_);refine F2 rfl ?_;refine aX ?_;refine aA ?_;clear hK31;refine aA ?_;refine br ?_;refine ac hK16 ?_;clear hK16;refine aa (λK32 hK32=>?_);refine ae ?_;obtain rfl:i=5:=by omega
         refine l5 (ab rfl) rfl rfl (aM (vs:=ints (tw (cu a) key (fM a) 5)) rfl jU rfl e8 rfl (fi 3 rfl rfl) (by simp only[ints_length,iV]) (by rw[bd,az (by simp only[ints_length,iV];exact aH _)])) ?_;refine bN (vs:=ints (tw (cu a) key (fM a) 5)) (i:=4) (H':=[df c a g,vk a d2 r2,ak b7 (ints ((pw (cu a) key 5).toList.flatMap CellT.flat)) 132,ak b5 (ints (tw (cu a) key (fM a) 5)) 42,ak b4 (ints (tw (cu a) key (fM a) 5)) 42]) (ab rfl) rfl rfl rfl rfl rfl (by simp only[ints_length,iV];exact e8) (bC _) rfl rfl (by simp only[ints_length,iV];exact aH _) (fX (by simp only[ints_length,iV];rfl)) rfl ?_;refine au ?_;refine ac hK32 ?_;clear hK32;refine ai ?_;refine yD (H':=[df c a g,vk a d2 r2]) rfl rfl jU rfl e8 (fi 4 rfl rfl) (by rw[ints_length,iV]) (λ_ s=>am [0,0] rfl s) ?_;exact .inr ⟨by omega,d2,r2,rfl,rfl⟩
end Go.Proofs.YtjblgopghhgflaaGreat
end

section
namespace Api
open Go Leg Codec Dsk Wal
def ot:CL:=jD Kq 2
theorem AV:CLOk 1 ot:=fitA_ok.settle 2
def NY:Bool:=decide (kx (cu ot) 0=5)&&decide ((tw (cu ot) 0 (fM ot) 5).getD 0 0=5)&&decide ((fM ot).flat=firstV.flat)
theorem Hj:NY=true:=by decide+kernel
theorem I1:kx (cu ot) 0=5∧(tw (cu ot) 0 (fM ot) 5).getD 0 0=5∧(fM ot).flat=firstV.flat:=by
 have h:=Hj;unfold NY at h;rw[aw,aw]at h;exact⟨of_decide_eq_true h.1.1,of_decide_eq_true h.1.2,of_decide_eq_true h.2⟩
end Api
end

section
namespace Go.Proofs.YtjblgopghhgflaaGreat
open Go Leg Codec Api Dsk Wal
theorem OT:Tryz.prog.eqGuardType Tryz.prog.depth 44=false:=by kernel_rfl
theorem OO:Tryz.prog.keyTypeAt 4 44=true:=by kernel_rfl
theorem Po:nJ Tryz.prog 4 44=some 7:=by kernel_rfl
theorem N2:(match Tryz.prog.underlying 44 with|some (.struct _)|some (.array _ _)=>true|_=>false)=true:=by kernel_rfl
theorem N8:Tryz.prog.cellsOf 44=7:=by kernel_rfl
theorem EG:
 DT 36 #[] T0 [] (RI (.bool true) []):=by
 refine BD 40 Tryz.func36 rfl rfl rfl λw0 F hF=>?_
 obtain⟨hf1,_⟩:=Kp;obtain⟨hv5,hs5,hf5⟩:=I1;have hwl:WF (fM ot).flat:=hf5▸OkVw.first.wf;refine sr λ_ J1=>PS ?_
 refine nx J1 (sr λ_ J2=>CR NJ (zj) ID λvR HR hR=>?_);obtain⟨c,rfl,rfl⟩:=hR;refine PS ?_;refine nx J2 (aa λ_ J3=>sr λ_ J4=>PS ?_);refine tp (jf rfl Oc rfl rfl) ?_;refine nx J4 (CN (qx J3 (sr λ_ J5=>PS ?_)));refine tp (lm OpT.zero (OpT.mk 0 0 0 0 5 ChangeT.zero 0 0 0) [(0,[Value.int .i64 0]),(4,[Value.int .i64 5])] fG pA (g:=OpT.sg)) ?_;refine CR Ir (qe (c:=c) (o:=CG) new_ok (by decide) CD) ID λvR HR hR=>?_
 obtain⟨hv,rfl⟩:=hR;rw[hf1]at hv;subst hv;refine nx J5 (sr λ_ J6=>PS ?_);refine CZ Ph (Al c 1 Kq fitA_ok (by decide) 2 (by decide)) ID λvR=>?_
 refine nx J6 (sr λ_ J7=>PS ?_);refine Lz (H':=λg:CX=>[df c ot g]) (λ_ s=>zG s) (λg=>CR Mi (pM c 1 ot g AV) ID λvR HR hR=>?_);obtain⟨bt,d,r,rfl,rfl⟩:=hR;refine PS ?_;refine nx J7 (sr λ_ J8=>PS ?_);refine tp (gg rfl Tryz.underlying72 rfl rfl) ?_;refine P2 ?_;refine CR Mh (ni bt 0 121 (λx=>ints x.flat) Oz (cu ot) 0) (SM [2]) λvR HR hR=>?_
 obtain⟨hv,rfl⟩:=hR;rw[hv5]at hv;subst hv;refine P4 ?_;refine CR Ng (sI c 1 ot g AV 0) (SM [1]) λvR HR hR=>?_
 obtain⟨_,d2,r2,rfl,rfl⟩:=hR.resolve_left (λq=>q.1 (by decide));refine tq (kZ (cs:=ints (tw (cu ot) 0 (fM ot) 5)) (v:=(.int .i64 5)) (r:=0) rfl jU Y3 rfl aQ rfl rfl (by omega) (by omega) (by omega) ((IT rfl (by rw[iV];decide)).trans (by rw[hs5]))) ?_;refine P3 ?_;refine BV ((ints RowT.zero.flat).toArray) ?_;refine CR GY (iL .zero JH) ID λvR HR hR=>?_
 obtain⟨hv,rfl⟩:=hR;rw[show gD .zero=true by decide]at hv;subst hv;refine P3 ?_;refine CR Nd (xg c 1 ot g AV) ID λvR HR hR=>?_
 obtain⟨d3,r3,rfl,rfl⟩:=hR;refine CE Ml (rK) ID ?_;refine tq (PV.eqlAgg (a:=(fM ot).flat) (b:=firstV.flat) (m:=4) (c:=7) OT OO rfl Po (dq (an (fM ot))) (dq (an firstV)) ⟨fS N2 N8 (dq (an (fM ot))),fS N2 N8 (dq (an firstV))⟩ hwl OkVw.first.wf rfl rfl rfl) ?_;refine ao ?_ ?_<;>intro h34;refine P2 ?_;refine CR Mg (ET) ID λvR HR hR=>?_
 obtain⟨dn,rfl,rfl⟩:=hR;refine tq (gg rfl tm rfl rfl) ?_;refine P2 ?_;refine nx J8 (ai (WK [] (av rfl rfl ?_)));exact⟨by simp[hf5],rfl⟩
 · exact absurd hf5 h34
end Go.Proofs.YtjblgopghhgflaaGreat
end

section
namespace Wal
open Go Leg Codec Api Dsk
def Worn(s x:hJ):Prop:=x.getD 63 0≠1∨∃c,c≤64∧x=List.replicate c 0++s.drop c
theorem Worn.zs{s:hJ}:Worn s zs:= .inl zT
theorem Worn.full{s:hJ}:Worn s s:= .inr ⟨0,by omega,by simp⟩
theorem Fq{x:hJ}{c:Nat}(hc:c≤64):lh x zs c=List.replicate c 0++x.drop c:=by
 unfold lh Dsk.zs;rw[Fh,Nat.min_eq_left hc]
theorem yR{x:hJ}{c:Nat}(hx:x.length=64)(h:x.getD 63 0≠1)(hc:c≤64):(List.replicate c 0++x.drop c).getD 63 0≠1:=by
 rw[List.getD_eq_getElem?_getD]
 by_cases q:c=64
 · subst q
   rw[List.getElem?_append_left (by simp)];simp
 · rw[List.getElem?_append_right (by rw[dV];omega),dV,List.getElem?_drop,show c+(63-c)=63 by omega]
   rwa [List.getD_eq_getElem?_getD]at h
theorem Worn.torn{s x:hJ}(hx:x.length=64)(h:Worn s x){c:Nat}(hc:c≤64):Worn s (lh x Dsk.zs c):=by
 rw[Fq hc];rcases h with h| ⟨d,hd,rfl⟩
 · exact .inl (yR hx h hc)
 · right
   by_cases q:c≤d
   · refine⟨d,hd,?_⟩
     rw[gR (by simpa using q),Fi,←aR,List.replicate_append_replicate,show c+(d-c)=d by omega]
   · refine⟨c,hc,?_⟩
     rw[gz,ci (by rw[dV];omega),dV,iI,bO,show d+(c-d)=c by omega]
theorem Eh{x b:hJ}{number place all:Int}(hx:x.length=64)(h:e7 x number place=some (b,all)):Dl (x.take 4)=number:=by
 unfold e7 at h;split at h
 · cases h
 · rename_i t ht
   split at h
   · cases h
   · split at h
     · cases h
     · rename_i h2
       have e:t=(x.take 63).take ((x.take 63).length-4):=by
        unfold mr at ht;split at ht
        · cases ht
        · split at ht
          · exact(cI ht).symm
          · cases ht
       have e2:t.take 4=x.take 4:=by
        rw[e,Dt,Dt,bo];congr 1;omega
       rw[e2]at h2;exact Decidable.not_not.1 λq=>h2 (.inl q)
theorem Worn.piece{number place all':Int}{pl al:Nat}{p b x:hJ}(hp:p.length≤52)(h0:0<number)(h1:number<65536)(h:Worn (mx number pl al p) x)(hx:x.length=64)(q:e7 x number place=some (b,all')):x=mx number pl al p:=by
 rcases h with h| ⟨c,hc,rfl⟩
 · rw[m9 h]at q;cases q
 · have e:=Eh hx q
   obtain⟨r,hr⟩: ∃r,mx number pl al p=0::0::r8 (number.fdiv 256)::r8 number::r:=by
    have a1:r8 (number.fdiv 16777216)=0:=by
     have:=jR (number.fdiv 16777216);rw[Int.fdiv_eq_ediv_of_nonneg _ (by decide)]at this ⊢;apply UInt8.toNat_inj.1;show _=0;omega
    have a2:r8 (number.fdiv 65536)=0:=by
     have:=jR (number.fdiv 65536);rw[Int.fdiv_eq_ediv_of_nonneg _ (by decide)]at this ⊢;apply UInt8.toNat_inj.1;show _=0;omega
    exact⟨_,by unfold mx jk pu Jf;rw[a1,a2];rfl⟩
   have z4:c=3∨4≤c→Dl ((List.replicate c 0++(mx number pl al p).drop c).take 4)=if c=3 then number%256 else 0:=λhc'=>by
    rcases hc' with rfl|hc'
    · rw[hr,if_pos rfl]
      show Dl [0,0,0,r8 number]=_;rw[xQ,jR];simp
    · rw[if_neg (by omega),bZ (by simpa using hc'),Fh,Nat.min_eq_left hc']
      show Dl [0,0,0,0]=0;rw[xQ];rfl
   match c,hc with
   |0,_=>rfl
   |1,_=>rw[hr];rfl
   |2,_=>rw[hr];rfl
   |3,_=>
    rw[z4 (.inl rfl),if_pos rfl]at e
    have a3:r8 (number.fdiv 256)=0:=by
     have:=jR (number.fdiv 256);rw[Int.fdiv_eq_ediv_of_nonneg _ (by decide)]at this ⊢;apply UInt8.toNat_inj.1;show _=0;omega
    rw[hr,a3];rfl
   |c+4,hc=>
    rw[z4 (.inr (by omega)),if_neg (by omega)]at e;omega
structure Rub(rd:Int→hJ)(ls:List (List UInt8))(bs:List UInt8):Prop where
 len: ∀j,(rd j).length=64
 shows:Shows rd 0 (gB 0 ls)
 worn: ∀i (h:i< (bh ((ls.length+1:Nat):Int) bs).length),Worn (bh ((ls.length+1:Nat):Int) bs)[i] (rd (((cy ls:Nat):Int)+i))
 rest: ∀j,((cy ls+aZ bs.length:Nat):Int)≤j→(rd j).getD 63 0≠1
theorem Rub.scan{rd:Int→hJ}{ls:List (List UInt8)}{bs:List UInt8}(h:Rub rd ls bs)(hsh: ∀b∈ls,b.length≤3000)(hb:bs.length≤3000)(hro:cy ls+aZ bs.length≤2048):
 ∃ls',(ls'=ls∨ls'=ls++[bs])∧fJ rd ie 0 0=(ls',((cy ls':Nat):Int))∧Shows rd 0 (gB 0 ls'):=by
 have hge:=wu ls;have hpl:=oR hb;have hpp:=lP bs.length;have hss:(bh ((ls.length+1:Nat):Int) bs).length=aZ bs.length:=cx _ _;obtain⟨f,hf⟩: ∃f,ie=ls.length+(f+1):=⟨ie-ls.length-1,by rw[qa];omega⟩;have sc:=wI (rd:=rd) ls 0 0 (f+1) hsh (by omega) h.shows;rw[←hf,show((0:Nat):Int)=0 from rfl,Int.zero_add,bg,show(((gB 0 ls).length:Nat):Int)=((cy ls:Nat):Int)from rfl]at sc;cases hst:fA rd (((ls.length:Nat):Int)+1) ((cy ls:Nat):Int)with
 |none=>
  rw[qz hst]at sc;exact⟨ls, .inl rfl,by simpa using sc,h.shows⟩
 |some p=>
  obtain⟨b,all⟩:=p;obtain⟨f1,f2,f3⟩:=jX (h.len _) hst
  have pick: ∀(k:Nat) (hk:(k:Int)<all),∃hk2:k< (bh ((ls.length+1:Nat):Int) bs).length,rd (((cy ls:Nat):Int)+k)=(bh ((ls.length+1:Nat):Int) bs)[k]:=λk hk=>by
   obtain⟨x,hx⟩:=f3 k hk
   by_cases hk2:k< (bh ((ls.length+1:Nat):Int) bs).length
   · refine⟨hk2,?_⟩
     have w:=h.worn k hk2;rw[sL hk2]at w ⊢;exact w.piece (qA _ _) (by omega) (by omega) (h.len _) hx
   · rw[hss]at hk2
     rw[m9 (h.rest _ (by omega))]at hx;cases hx
  obtain⟨h00,e00⟩:=pick 0 f1;obtain⟨x0,hx0⟩:=f3 0 f1;rw[e00,show(((ls.length:Nat):Int)+1)=((ls.length+1:Nat):Int)by omega,rr h00 (by omega) (by omega) hb]at hx0;injection hx0 with hx0
  simp only[Prod.mk.injEq]at hx0;have hall:all=((aZ bs.length:Nat):Int):=hx0.2.symm;have hst2:=uC (rd:=rd) (number:=((ls.length+1:Nat):Int)) (at':=((cy ls:Nat):Int)) (b:=bs) (by omega) (by omega) hb (λj hj=>(pick j (by rw[hall];rw[hss]at hj;omega)).2);rw[show((ls.length+1:Nat):Int)=((ls.length:Nat):Int)+1 by omega]at hst2;rw[Aq hst2]at sc;have hst3:fA rd (((ls.length:Nat):Int)+1+1) (((cy ls:Nat):Int)+((aZ bs.length:Nat):Int))=none:=yZ (h.rest _ (by omega));rw[qz hst3]at sc;have hsz:=tM ls bs;refine⟨ls++[bs], .inr rfl,by rw[sc,hsz];simp,?_⟩;rw[mJ];refine Shows.append h.shows λj hj=>?_
  simp only[gB,aP,bg]at hj ⊢;have:=(pick j (by rw[hall];rw[hss]at hj;omega)).2;rw[←this];congr 1;simp only[cy];omega
structure Dirt(D:DS)(ls:List (List UInt8))(bs:List UInt8):Prop where
 ok:D.Ok
 inn:Wal.DS.In D
 short: ∀b∈ls,b.length≤3000
 short':bs.length≤3000
 room:cy ls+aZ bs.length≤2048
 rub:Rub (eU D.s) ls bs
 ws: ∀p∈D.ws,((cy ls:Nat):Int)≤p.1∧p.2=zs
theorem Half.dirt{D:DS}{ls:List (List UInt8)}{bs:List UInt8}(h:Half D ls bs)(mask torn n:Int):Dirt (D.crash mask torn n) ls bs:=by
 obtain⟨c,h1,h2⟩:=h.crash mask torn n;have hr: ∀j,(D.crash mask torn n).read j=eU (D.crash mask torn n).s j:=λj=>rfl
 have hss:(bh ((ls.length+1:Nat):Int) bs).length=aZ bs.length:=cx _ _;refine⟨c.ok,c.inn,h.short,h.short',h.room,⟨λj=>cj c.ok.s j,h1,λi hi=>?_,λj hj=>?_⟩,λp hp=>by cases hp⟩
 · rw[←hr]
   rcases h2 (((cy ls:Nat):Int)+i) (by omega)with q| ⟨k,hk,e,q⟩|q
   · rw[q];exact Worn.zs
   · obtain rfl:k=i:=by omega
     rw[q];exact Worn.full
   · exact .inl q
 · rw[←hr]
   rcases h2 j (by omega)with q| ⟨k,hk,e,q⟩|q
   · rw[q];exact zT
   · rw[hss]at hk;omega
   · exact q
theorem xI{P:Int→hJ→Prop}{mask torn base:Int}{c:Nat}{s ws:fo}(hs: ∀j,P j (eU s j))(hw: ∀p∈ws,base≤p.1∧p.2=zs)(hz: ∀j,base≤j→P j zs)(ht: ∀j x,base≤j→P j x→P j (lh x zs c)): ∀k,k≤ws.length→∀j,P j (eU (gv mask torn c s ws k) j)
 |0,_,j=>hs j
 |k+1,hk,j=>by
  have ih:=xI (mask:=mask) (torn:=torn) hs hw hz ht k (by omega);obtain⟨h1,h2⟩:=hw (km ws k) (by rw[tG (by omega)];exact ec _);simp only[gv,jI,h2];split
  · rw[kK]
    split
    · rename_i e;subst e;exact ht _ _ h1 (ih _)
    · exact ih j
  · split
    · rw[kK]
      split
      · rename_i e;subst e;exact hz _ h1
      · exact ih j
    · exact ih j
theorem Dirt.crash{D:DS}{ls:List (List UInt8)}{bs:List UInt8}(h:Dirt D ls bs)(mask torn n:Int):Dirt (D.crash mask torn n) ls bs:=by
 have c:=Ou h.ok h.inn mask torn n;have hss:(bh ((ls.length+1:Nat):Int) bs).length=aZ bs.length:=cx _ _
 have key:=xI (P:=λj x=>x.length=64∧(j< ((cy ls:Nat):Int)→x=eU D.s j)∧(∀i (hi:i< (bh ((ls.length+1:Nat):Int) bs).length),j=((cy ls:Nat):Int)+i→Worn (bh ((ls.length+1:Nat):Int) bs)[i] x)∧(((cy ls+aZ bs.length:Nat):Int)≤j→x.getD 63 0≠1)) (mask:=mask) (torn:=torn) (base:=((cy ls:Nat):Int)) (c:=mN n) (s:=D.s) (ws:=D.ws)
  (λj=>⟨cj h.ok.s j,λ_=>rfl,λi hi e=>by rw[e];exact h.rub.worn i hi,λe=>h.rub.rest j e⟩) h.ws
  (λj hj=>⟨by simp[zs],λq=>by omega,λ_ _ _=>Worn.zs,λ_=>zT⟩)
  (λj x hj ⟨a,_,b2,b3⟩=>⟨n8 a (by simp[zs]),λq=>by omega,λi hi e=>(b2 i hi e).torn a (mM n),λe=>by rw[Fq (mM n)];exact yR a (b3 e) (mM n)⟩) D.ws.length (aH _)
 refine⟨c.ok,c.inn,h.short,h.short',h.room,⟨λj=>(key j).1,λj hj=>?_,λi hi=>(key _).2.2.1 i hi rfl,λj hj=>(key j).2.2.2 hj⟩,λp hp=>by cases hp⟩;show eU (gv mask torn (mN n) D.s D.ws D.ws.length) _=_;rw[(key _).2.1 (by simp only[cy];omega)];exact h.rub.shows j hj
theorem GQ{D:DS}(h:D.dn=true):(bH D).err≠0∧(bH D).D=D:=by
 have hw: ∀at' bs,(D.write at' bs).2=D:=λat' bs=>by
  unfold DS.write;split
  · rfl
  · rw[if_pos (.inl h)]
    cases D;simp only at h;subst h;rfl
 have w: ∀n at',(gn n at' D).2=D:=λn=>by
  induction n with
  |zero=>intro at';rfl
  |succ n ih=>
   intro at';rw[gn];split
   · exact ih _
   · split
     · rw[hw];exact ih _
     · exact hw _ _
 have s:D.sync=(4,D):=by rw[DS.sync,if_pos h]
 unfold bH;simp only;split
 · rename_i q;exact⟨q,w _ _⟩
 · rw[w,s]
   rw[if_pos (by show ¬(4:Int)=0;decide)];exact⟨by show ¬(4:Int)=0;decide,rfl⟩
theorem vW: ∀(n:Nat) (at':Int) (D:DS),D.Ok→Wal.DS.In D→D.dn=false→0≤at'→at'+n≤2048→∃D',D'.Ok∧Wal.DS.In D'∧D'.s=D.s∧(∀p∈D'.ws,p∈D.ws∨(at'≤p.1∧p.2=zs))∧((gn n at' D=(0,D')∧D'.dn=false∧∀j,D'.read j=if at'≤j∧j<at'+n then zs else D.read j)∨gn n at' D=(4,D'))
 |0,at',D,h,hi,hd,_,_=>⟨D,h,hi,rfl,λp hp=> .inl hp, .inl ⟨rfl,hd,λj=>by rw[if_neg (by omega)]⟩⟩
 |n+1,at',D,h,hi,hd,h0,h1=>by
  by_cases hz:D.read at'=zs
  · obtain⟨D',a,b,e,f,g⟩:=vW n (at'+1) D h hi hd (by omega) (by omega)
    refine⟨D',a,b,e,λp hp=>(f p hp).imp id λ⟨x,y⟩=>⟨by omega,y⟩,?_⟩;rw[gn,if_pos hz];rcases g with⟨g1,g2,g3⟩|g
    · refine .inl ⟨g1,g2,λj=>?_⟩
      rw[g3 j]
      by_cases q:j=at'
      · subst q;rw[if_neg (by omega),if_pos (by omega),hz]
      · by_cases q2:at'+1≤j∧j<at'+1+n
        · rw[if_pos q2,if_pos (by omega)]
        · rw[if_neg q2,if_neg (by omega)]
    · exact .inr g
  · by_cases hc:D.ar=true∧D.lf=0
    · have hw:=q6 (D:=D) (at':=at') (bs:=[]) (by omega) (by simp) hc
      refine⟨{D with dn:=true},⟨h.s,h.ws,h.lf⟩,hi,rfl,λp hp=> .inl hp, .inr ?_⟩;rw[gn,if_neg hz,hw,if_neg (by show ¬(4:Int)=0;decide)]
    · have h4:D.ar=false∨0<D.lf:=by
       have:=h.lf;cases q:D.ar
       · exact .inl rfl
       · right
         have:D.lf≠0:=λe=>hc ⟨q,e⟩
         omega
      have hw:=ln (D:=D) (at':=at') (bs:=[]) (by omega) (by simp) hd h4;obtain⟨D',a,b,e,f,g⟩:=vW n (at'+1) (tT D at' []) (vF h (by simp) h4) (vG hi (by omega)) rfl (by omega) (by omega);refine⟨D',a,b,e.trans rfl,λp hp=>?_,?_⟩
      · rcases f p hp with q| ⟨x,y⟩
        · rcases cg.1 q with q|q
          · exact .inl q
          · rw[cF]at q;subst q
            exact .inr ⟨Int.le_refl _,wW⟩
        · exact .inr ⟨by omega,y⟩
      rw[gn,if_neg hz,hw,if_pos rfl];rcases g with⟨g1,g2,g3⟩|g
      · refine .inl ⟨g1,g2,λj=>?_⟩
        rw[g3 j,tS,wW]
        by_cases q:j=at'
        · subst q;rw[if_neg (by omega),if_pos rfl,if_pos (by omega)]
        · rw[if_neg q]
          by_cases q2:at'+1≤j∧j<at'+1+n
          · rw[if_pos q2,if_pos (by omega)]
          · rw[if_neg q2,if_neg (by omega)]
      · exact .inr g
def Rests(D:DS)(ls:List (List UInt8))(Q:List UInt8→Prop):Prop:=LogD D ls∨∃bs,Q bs∧Dirt D ls bs
theorem Rests.arm{D:DS}{ls:List (List UInt8)}{Q:List UInt8→Prop}(h:Rests D ls Q){n:Int}(hn:n≤9223372036854775807):Rests (D.arm n) ls Q:=by
 rcases h with h| ⟨bs,q,h⟩
 · exact .inl ⟨PM h.ok hn,h.inn,h.ws,h.short,h.room,h.shows,h.zero⟩
 · exact .inr ⟨bs,q,PM h.ok hn,h.inn,h.short,h.short',h.room,h.rub,h.ws⟩
theorem Rests.crash{D:DS}{ls:List (List UInt8)}{Q:List UInt8→Prop}(h:Rests D ls Q)(mask torn n:Int):Rests (D.crash mask torn n) ls Q:=by
 rcases h with h| ⟨bs,q,h⟩
 · exact .inl (h.crash _ _ _).1
 · exact .inr ⟨bs,q,h.crash _ _ _⟩
def OB(Q:List UInt8→Prop)(ls ls':List (List UInt8)):Prop:=ls'=ls∨∃bs,Q bs∧ls'=ls++[bs]
theorem Rests.open{D:DS}{ls:List (List UInt8)}{Q:List UInt8→Prop}(h:Rests D ls Q)(hw:D.dn=false→D.ws=[]):
 ((bH D).err≠0∧Rests (bH D).D ls Q)∨∃ls' D',bH D=⟨0,ls',((cy ls':Nat):Int),D'⟩∧OB Q ls ls'∧LogD D' ls'∧D'.dn=false:=by
 cases hd:D.dn
 case true=>
  obtain⟨e,r⟩:=GQ hd;exact .inl ⟨e,by rw[r];exact h⟩
 case false=>
 have hw:=hw hd;have hrd: ∀j,D.read j=eU D.s j:=λj=>by rw[DS.read,hw];rfl
 -- the scan
 have sc:D.Ok∧Wal.DS.In D∧∃ls',OB Q ls ls'∧fJ D.read ie 0 0=(ls',((cy ls':Nat):Int))∧Shows D.read 0 (gB 0 ls')∧cy ls≤cy ls'∧cy ls'≤2048∧∀b∈ls',b.length≤3000:=by
  rcases h with h| ⟨bs,q,h⟩
  · exact⟨h.ok,h.inn,ls, .inl rfl,h.scan,h.shows,aH _,h.room,h.short⟩
  · obtain⟨ls',a,b,c⟩:=h.rub.scan h.short h.short' h.room
    have er:D.read=eU D.s:=funext hrd;have:=tM ls bs;have:=h.room;refine⟨h.ok,h.inn,ls',a.imp id λe=>⟨bs,q,e⟩,by rw[er];exact b,by rw[er];exact c,?_⟩;rcases a with rfl|rfl
    · exact⟨by omega,by omega,h.short⟩
    · refine⟨by omega,by omega,λx hx=>?_⟩
      rcases cg.1 hx with hx|hx
      · exact h.short x hx
      · rw[cF]at hx;subst hx;exact h.short'
 obtain⟨hok,hin,ls',ha,hs,hsh,hle,hro,hshort⟩:=sc;obtain⟨D',a,b,e,f,g⟩:=vW (2048- ((cy ls':Nat):Int)).toNat ((cy ls':Nat):Int) D hok hin hd (by omega) (by omega);rcases g with⟨g1,g2,g3⟩|g
 · right
   obtain⟨s1,s2,s3,_⟩:=lr g2
   have rd: ∀j,D'.sync.2.read j=if((cy ls':Nat):Int)≤j∧j<2048 then zs else D.read j:=λj=>by
    rw[qw g2,g3 j]
    by_cases q:((cy ls':Nat):Int)≤j∧j<2048
    · rw[if_pos q,if_pos (by omega)]
    · rw[if_neg q,if_neg (by omega)]
   refine⟨ls',D'.sync.2,AF hs g1 s1,ha,⟨On a,vD b,s2,hshort,hro,λj hj=>?_,λj hj=>?_⟩,s3⟩
   · rw[rd,if_neg (by simp only[cy];omega)];exact hsh j hj
   · rw[rd]
     by_cases q:j<2048
     · rw[if_pos ⟨hj,q⟩]
     · rw[if_neg (by omega)];exact DS.In.read hin (by omega)
 · left
   rw[wY hs g (by decide)];refine⟨(by show(4:Int)≠0;decide),?_⟩;rcases h with h| ⟨bs,q,h⟩
   · exfalso
     have: ∀n at',((cy ls:Nat):Int)≤at'→gn n at' D=(0,D):=λn=>by
      induction n with
      |zero=>intro at' _;rfl
      |succ n ih=>intro at' h2;rw[gn,if_pos (h.zero _ h2),ih _ (by omega)]
     rw[this _ _ (by omega)]at g;cases g
   · refine .inr ⟨bs,q,a,b,h.short,h.short',h.room,by rw[e];exact h.rub,λp hp=>?_⟩
     rcases f p hp with q| ⟨x,y⟩
     · rw[hw]at q;cases q
     · exact⟨by omega,y⟩
end Wal
end

section
namespace Api
open Go Leg Codec Dsk Wal
theorem Ae{a b:Nat}(ha:a<256)(hb:b<256)(h:UInt8.ofNat a=UInt8.ofNat b):a=b:=by
 have:=congrArg UInt8.toNat h;simp only[UInt8.toNat_ofNat']at this;omega
theorem CS: ∀(k n m:Nat) {r r':List UInt8},n≤k→uj n++r=uj m++r'→n=m∧r=r'
 |k,n,m,r,r',hk,h=>by
  by_cases h1:n<128
  · rw[nK h1]at h
    by_cases h2:m<128
    · rw[nK h2]at h
      injection h with e1 e2
      exact⟨Ae (by omega) (by omega) e1,e2⟩
    · rw[o6 h2]at h
      injection h with e1 e2
      have:=Ae (by omega) (by omega) e1;omega
  · rw[o6 h1]at h
    by_cases h2:m<128
    · rw[nK h2]at h
      injection h with e1 e2
      have:=Ae (by omega) (by omega) e1;omega
    · rw[o6 h2]at h
      injection h with e1 e2
      have q:=Ae (by omega) (by omega) e1
      match k,hk with
      |0,hk=>omega
      |k+1,hk=>
       obtain⟨a,b⟩:=CS k (n / 128) (m / 128) (by omega) e2;exact⟨by omega,b⟩
theorem iN{a b:Int}{r r':List UInt8}(h:iz a++r=iz b++r'):a%18446744073709551616=b%18446744073709551616∧r=r':=by
 obtain⟨x,y⟩:=CS _ _ _ (aH _) h;exact⟨by omega,y⟩
theorem xD{a b:Int}{r r':List UInt8}(ha:ve a)(hb:ve b)(h:iz a++r=iz b++r'):a=b∧r=r':=by
 obtain⟨x,y⟩:=iN h;unfold ve at ha hb;exact⟨by omega,y⟩
theorem xy: ∀{a b:List Int} {r r':List UInt8},a.length=b.length→WF a→WF b→bj a++r=bj b++r'→a=b∧r=r'
 | [],[],_,_,_,_,_,h=>⟨rfl,h⟩
 | [],_::_,_,_,hl,_,_,_=>by cases hl
 |_::_,[],_,_,hl,_,_,_=>by cases hl
 |x::a,y::b,r,r',hl,ha,hb,h=>by
  rw[kw,kw,aR,aR]at h;obtain⟨e1,e2⟩:=xD (vX (ha x (dr ..))) (vX (hb y (dr ..))) h;obtain⟨e3,e4⟩:=xy (by simpa using hl) (λn hn=>ha n (eC _ hn)) (λn hn=>hb n (eC _ hn)) e2;exact⟨by rw[e1,e3],e4⟩
structure SameR(x y:RowT):Prop where
 version:x.version=y.version
 cells:x.cells=y.cells
 heir: ∀(i:Nat) (h:i<5),x.heir[i]=y.heir[i]
 left: ∀(i:Nat) (h:i<5),(0:Int)<y.heir[i]→x.left[i]=y.left[i]
theorem zw{x y:RowT}[hx:OkRow x][hy:OkRow y]{r r':List UInt8}: ∀(m i:Nat),i+m=5→fb x m i++r=fb y m i++r'→(∀j (h:j<5),i≤j→x.heir[j]=y.heir[j]∧(0<y.heir[j]→x.left[j]=y.left[j]))∧r=r'
 |0,i,hi,h=>⟨λj hj q=>by omega,h⟩
 |m+1,i,hi,h=>by
  have h5:i<5:=by omega
  simp only[fb,dif_pos h5,aR]at h;obtain⟨e1,e2⟩:=xD (hx.heir i h5) (hy.heir i h5) h
  have key:(0<y.heir[i]→x.left[i]=y.left[i])∧fb x m (i+1)++r=fb y m (i+1)++r':=by
   rw[e1]at e2;split at e2
   · obtain⟨e3,e4⟩:=xy (by rw[cq,cq];simp) (mS λk hk=>hx.left i k h5 hk) (mS λk hk=>hy.left i k h5 hk) e2
     exact⟨λ_=>zx e3,e4⟩
   · rename_i q;exact⟨λz=>absurd z q,by simpa using e2⟩
  obtain⟨a,b⟩:=zw m (i+1) (by omega) key.2;refine⟨λj hj q=>?_,b⟩
  by_cases e:j=i
  · subst e;exact⟨e1,key.1⟩
  · exact a j hj (by omega)
theorem As{x y:RowT}[hx:OkRow x][hy:OkRow y]{r r':List UInt8}(h:dQ x++r=dQ y++r'):SameR x y∧r=r':=by
 unfold dQ at h;simp only[aR]at h;obtain⟨e1,e2⟩:=xD hx.version hy.version h;obtain⟨e3,e4⟩:=xy (by rw[cq,cq];simp) (mS hx.cells) (mS hy.cells) e2;obtain⟨a,b⟩:=zw 5 0 rfl e4;exact⟨⟨e1,zx e3,λi hi=>(a i hi (aN _)).1,λi hi=>(a i hi (aN _)).2⟩,b⟩
def Logs(e:LD)(ls:List (List UInt8))(Q:List UInt8→Prop):Prop:=(e.D.dn=false∧LogD e.D ls∧e.cnt=ls.length∧e.used=((cy ls:Nat):Int))∨(e.D.dn=true∧∃bs,Q bs∧Half e.D ls bs)
theorem Ig{e:LD}(h:e.D.dn=true)(hu:0≤e.used)(bs:List UInt8):(e.put bs).2≠0∧(e.put bs).1=e:=by
 have hw: ∀at' b,(e.D.write at' b).2=e.D∧(e.D.write at' b).1≠0:=λat' b=>by
  unfold DS.write;split
  · exact⟨rfl,by show(5:Int)≠0;decide⟩
  · rw[if_pos (.inl h)]
    refine⟨?_,by show(4:Int)≠0;decide⟩;show {e.D with dn:=true}=e.D;rw[←h]
 unfold LD.put la
 by_cases h3:3000<bs.length
 · rw[if_pos h3];exact⟨by show(2:Int)≠0;decide,rfl⟩
 rw[if_neg h3]
 by_cases h4:(aZ bs.length:Int)>2048-e.used
 · rw[if_pos h4];exact⟨by show(3:Int)≠0;decide,rfl⟩
 rw[if_neg h4]
 obtain⟨s,ss,hs⟩: ∃s ss,bh ((e.cnt+1:Nat):Int) bs=s::ss:=by
  cases q:bh ((e.cnt+1:Nat):Int) bs with
  |nil=>have:=cx ((e.cnt+1:Nat):Int) bs;rw[q]at this;have:=lP bs.length;simp at*;omega
  |cons s ss=>exact⟨s,ss,rfl⟩
 have e1:fH (bh ((e.cnt+1:Nat):Int) bs) e.used e.D=e.D.write e.used s:=by
  rw[hs,fH,if_neg (hw _ _).2]
 rw[e1];simp only;rw[if_pos (hw _ _).2];exact⟨(hw _ _).2,by show LD.mk e.cnt e.used (e.D.write e.used s).2=e;rw[(hw _ _).1]⟩
theorem Logs.put{e:LD}{ls:List (List UInt8)}{Q:List UInt8→Prop}(h:Logs e ls Q)(he:e.Ok){bs:List UInt8}(hb:bs.length≤3000)(hq:Q bs):
 ((e.put bs).2=0∧∀R,Logs (e.put bs).1 (ls++[bs]) R)∨((e.put bs).2≠0∧Logs (e.put bs).1 ls Q):=by
 rcases h with⟨hd,hl,hc,hu⟩| ⟨hd,b,q,hh⟩
 · have eq:e.put bs=(⟨(la e.D ls.length ((cy ls:Nat):Int) bs).cnt,(la e.D ls.length ((cy ls:Nat):Int) bs).used,(la e.D ls.length ((cy ls:Nat):Int) bs).D⟩,(la e.D ls.length ((cy ls:Nat):Int) bs).err):=by
    unfold LD.put;rw[hc,hu]
   rcases Ie hl hd hb with⟨_,r⟩| ⟨_,D',r,l,d,_⟩| ⟨_,D',r,l⟩
   · rw[eq,r]
     exact .inr ⟨by show(3:Int)≠0;decide, .inl ⟨hd,hl,rfl,rfl⟩⟩
   · rw[eq,r]
     exact .inl ⟨rfl,λ_=> .inl ⟨d,l,by simp,rfl⟩⟩
   · have w:=PO (bh ((ls.length+1:Nat):Int) bs) ((cy ls:Nat):Int) e.D hl.ok hl.inn (by omega) (by rw[cx];have:=l.room;omega) (mE _ _)
     have dn:D'.dn=true:=by
      have r2:=r;unfold la at r2;have:=l.room;rw[if_neg (by omega),if_neg (by omega)]at r2;simp only at r2;rcases w.2.2 with⟨w1,_⟩| ⟨_,_,w0,w1⟩
      · rw[hd]at w1;cases w1
      · split at r2
        · rename_i z
          injection r2 with _ _ _ r3
          rw[←r3];exact w1 z
        · rename_i z
          have z:_=(0:Int):=Decidable.not_not.1 z;have:=(lr (w0 z)).1;rw[if_neg (by rw[this];decide)]at r2;injection r2 with r3
          cases r3
     rw[eq,r];exact .inr ⟨by show(4:Int)≠0;decide, .inr ⟨dn,bs,hq,l⟩⟩
 · obtain⟨a,b'⟩:=Ig hd he.used.1 bs
   exact .inr ⟨a,by rw[b'];exact .inr ⟨hd,b,q,hh⟩⟩
theorem Logs.crash{e:LD}{ls:List (List UInt8)}{Q:List UInt8→Prop}(h:Logs e ls Q)(mask torn n:Int):Rests (e.D.crash mask torn n) ls Q:=by
 rcases h with⟨_,h,_⟩| ⟨_,bs,q,h⟩
 · exact .inl (h.crash _ _ _).1
 · exact .inr ⟨bs,q,h.dirt _ _ _⟩
theorem Logs.arm{e:LD}{ls:List (List UInt8)}{Q:List UInt8→Prop}(h:Logs e ls Q){n:Int}(hn:n≤9223372036854775807):Logs {e with D:=e.D.arm n} ls Q:=by
 rcases h with⟨a,h,b⟩| ⟨a,bs,q,h⟩
 · exact .inl ⟨a,⟨PM h.ok hn,h.inn,h.ws,h.short,h.room,h.shows,h.zero⟩,b⟩
 · exact .inr ⟨a,bs,q,⟨PM h.ok hn,h.inn,h.short,h.short',h.room,h.shows,h.zero,h.ws⟩⟩
theorem uA{D:DS}(hD:Whole D.s): ∀k,k≤2048→Calm (ib D k)∧∀j,(ib D k).read j=if 0≤j∧j< ((k:Nat):Int)then eU D.s j else zs
 |0,_=>⟨Calm.new,λj=>by rw[if_neg (by omega)];rfl⟩
 |k+1,hk=>by
  obtain⟨c,r⟩:=uA hD k (by omega);rw[ib];split
  · rename_i z
    refine⟨c,λj=>?_⟩;rw[r]
    by_cases q:j=((k:Nat):Int)
    · subst q;rw[if_neg (by omega),if_pos (by omega),z]
    · by_cases q2:0≤j∧j< ((k:Nat):Int)
      · rw[if_pos q2,if_pos (by omega)]
      · rw[if_neg q2,if_neg (by omega)]
  · have hl:=cj hD ((k:Nat):Int)
    have hw:=ln (D:=ib D k) (at':=((k:Nat):Int)) (bs:=eU D.s ((k:Nat):Int)) (by omega) (by omega) c.dn (.inl c.ar);rw[hw];refine⟨c.put (by omega) (by omega),λj=>?_⟩;show(tT _ _ _).read j=_;rw[tS,zh hl,r]
    by_cases q:j=((k:Nat):Int)
    · subst q;rw[if_pos rfl,if_pos (by omega)]
    · rw[if_neg q]
      by_cases q2:0≤j∧j< ((k:Nat):Int)
      · rw[if_pos q2,if_pos (by omega)]
      · rw[if_neg q2,if_neg (by omega)]
theorem DZ{D:DS}{ls:List (List UInt8)}{Q:List UInt8→Prop}(h:Rests D ls Q∨∃bs,Q bs∧Half D ls bs):Rests (kp D) ls Q∧((kp D).dn=false→(kp D).ws=[]):=by
 have hok:D.Ok∧Wal.DS.In D:=by
  rcases h with(h| ⟨_,_,h⟩)| ⟨_,_,h⟩<;>exact⟨h.ok,h.inn⟩
 obtain⟨c,r⟩:=uA hok.1.s 2048 (aH _);obtain⟨s1,s2,s3,_⟩:=lr c.dn;have c2:=c.sync
 have rd: ∀j,(kp D).read j=eU D.s j:=λj=>by
  show(ib D 2048).sync.2.read j=_;rw[qw c.dn,r];split
  · rfl
  · rename_i q
    have: ∀(s:fo),Wal.In s→eU s j=zs:=λs hs=>by
     induction s with
     |nil=>rfl
     |cons p s ih=>
      obtain⟨a,b⟩:=p;have:=hs (a,b) (dr ..);rw[eU,if_neg (by intro e;subst e;exact q this)];exact ih λx hx=>hs x (eC _ hx)
    exact(this _ hok.2.1).symm
 have sg: ∀j,eU (kp D).s j=eU D.s j:=λj=>by
  rw[←rd,DS.read,show(kp D).ws=[]from s2];rfl
 refine⟨?_,λ_=>s2⟩;rcases h with(h| ⟨bs,q,h⟩)| ⟨bs,q,h⟩
 · refine .inl ⟨c2.ok,c2.inn,s2,h.short,h.room,λj hj=>?_,λj hj=>?_⟩
   · rw[rd,←h.rds];exact h.shows j hj
   · rw[rd,←h.rds];exact h.zero j hj
 · refine .inr ⟨bs,q,c2.ok,c2.inn,h.short,h.short',h.room,⟨λj=>?_,λj hj=>?_,λi hi=>?_,λj hj=>?_⟩,λp hp=>?_⟩
   · rw[sg];exact h.rub.len j
   · rw[sg];exact h.rub.shows j hj
   · rw[sg];exact h.rub.worn i hi
   · rw[sg];exact h.rub.rest j hj
   · have hp:p∈(ib D 2048).sync.2.ws:=hp
     rw[s2]at hp;cases hp
 · refine .inl ⟨c2.ok,c2.inn,s2,h.short,by have:=h.room;omega,λj hj=>?_,λj hj=>?_⟩
   · rw[rd];exact h.shows j hj
   · rw[rd];exact h.zero j hj
class ZR(key:Nat)(x:RowT):Prop where
 cells: ∀h:key<4,x.cells[key]= .zero
 left: ∀(i:Nat) (_:i<5) (h:key<4),x.left[i][key]= .zero
variable {key:Nat}
instance ZR.zero:ZR key .zero:=⟨λh=>xL key h,λi hi h=>by rw[show RowT.zero.left[i][key]=RowT.zero.cells[key]from by rw[AS i hi]];exact xL key h⟩
theorem SameR.zr{x y:RowT}(h:SameR x y)(ht:TameR y)(g:ZR key x):ZR key y:=⟨λhk=>by rw[←h.cells];exact g.cells hk,λi hi hk=>by
 by_cases q:0<y.heir[i]
 · rw[←h.left i hi q];exact g.left i hi hk
 · rw[show y.left[i][key]=RowT.zero.left[0][key]from by rw[ht.none i hi (by have:=ht.heir i hi;omega)]]
   exact(ZR.zero (key:=key)).left 0 (by omega) hk⟩
def ZB(key:Nat)(bs:List UInt8):Prop:=(jH bs).2=0→(jH bs).1.kind=0∨(jH bs).1.kind=1→ZR key (jH bs).1.row
def ZM(key:Nat)(m:MsgT):Prop:=(gE (cS m)).2=0→(gE (cS m)).1.kind=0∨(gE (cS m)).1.kind=9→ZR key (gE (cS m)).1.row
theorem ul{bs:List UInt8}(h:(jH bs).2=0):bs=fO (jH bs).1∧(0≤(jH bs).1.kind∧(jH bs).1.kind<6)∧TameR (jH bs).1.row:=by
 unfold jH at h ⊢;split
 · rename_i m q
   obtain⟨a,_,b,_,c⟩:=Cd q;exact⟨by rw[a,aP],b,c⟩
 · rename_i q
   split at h
   · rename_i m q2;exact absurd q2 (q m)
   · exact absurd h (by decide)
theorem zF{bs:List UInt8}(h:(gE bs).2=0):bs=cS (gE bs).1∧(0≤(gE bs).1.kind∧(gE bs).1.kind<10)∧TameR (gE bs).1.row:=by
 unfold gE at h ⊢;split
 · rename_i m q
   obtain⟨a,_,b,_,c⟩:=IL q;exact⟨by rw[a,aP],b,c⟩
 · rename_i q
   split at h
   · rename_i m q2;exact absurd q2 (q m)
   · exact absurd h (by decide)
theorem wZ{x:RowT}(h:TameR x):OkRow x:=OkRow.of h.wf
theorem N4(a:Int)(r:List UInt8):bj [a]++r=iz a++r:=by rw[kw,xx,aP]
theorem Lu(a b:Int)(r:List UInt8):bj [a,b]++r=iz a++(iz b++r):=by rw[kw,kw,xx,aP,aR]
theorem zC{m:RecT}(h:0≤m.kind∧m.kind<6): ∃r,fO m=iz m.kind++r:=by
 unfold fO
 repeat' split
 all_goals first| (exfalso;omega)| (simp only[kw,aR];exact⟨_,rfl⟩)
theorem zD{m:MsgT}(h:0≤m.kind∧m.kind<10): ∃r,cS m=iz m.kind++r:=by
 unfold cS
 repeat' split
 all_goals first| (simp only[kw,aR];exact⟨_,rfl⟩)| (exfalso;rename_i a _ b _ _ _ _;have:=xm a b;omega)
theorem xz{m:RecT}(k:m.kind=0):fO m=iz 0++dQ m.row:=by unfold fO;rw[if_pos k,k];exact N4 _ _
theorem xA{m:RecT}(k:m.kind=1):fO m=iz 1++(iz m.whose++dQ m.row):=by unfold fO;rw[if_neg (by omega),if_pos k,k];exact Lu _ _ _
theorem CU{m:MsgT}{k:Int}(e:m.kind=k)(h:k=0∨k=2∨k=9):cS m=iz k++(iz m.whose++dQ m.row):=by
 unfold cS;rw[e,if_pos (by rcases h with rfl|rfl|rfl<;>rfl)];exact Lu _ _ _
theorem LL{y:RowT}[OkRow y][g:ZR key y]:ZB key (fO (iQ y)):=λh k=>by
 obtain⟨e,_,t⟩:=ul h;have:=wZ t;generalize (jH (fO (iQ y))).1=m at*;have e:iz 0++dQ y=fO m:=(xz (m:=iQ y) rfl).symm.trans e;rcases k with k|k
 · have e2:fO m=iz 0++dQ m.row:=xz k
   rw[e2]at e;have e:=(iN e).2;rw[←aP (dQ y),←aP (dQ m.row)]at e;exact(As e).1.zr t g
 · have e2:fO m=iz 1++(iz m.whose++dQ m.row):=xA k
   rw[e2]at e;exact absurd (iN e).1 (by decide)
theorem LM{w:Int}{y:RowT}[OkRow y][g:ZR key y]:ZB key (fO (iw w y)):=λh k=>by
 obtain⟨e,_,t⟩:=ul h;have:=wZ t;generalize (jH (fO (iw w y))).1=m at*;have e:iz 1++(iz w++dQ y)=fO m:=(xA (m:=iw w y) rfl).symm.trans e;rcases k with k|k
 · have e2:fO m=iz 0++dQ m.row:=xz k
   rw[e2]at e;exact absurd (iN e).1 (by decide)
 · have e2:fO m=iz 1++(iz m.whose++dQ m.row):=xA k
   rw[e2]at e;have e:=(iN (iN e).2).2;rw[←aP (dQ y),←aP (dQ m.row)]at e;exact(As e).1.zr t g
theorem vB{m:RecT}(hk:m.kind=2∨m.kind=3∨m.kind=4∨m.kind=5):ZB key (fO m):=λh k=>by
 obtain⟨e,_,_⟩:=ul h;generalize (jH (fO m)).1=q at*;obtain⟨r,e1⟩:=zC (m:=q) (by omega);obtain⟨r',e2⟩:=zC (m:=m) (by omega);rw[e1,e2]at e;have:=(iN e).1;omega
theorem Fk{m:MsgT}(hk:1≤m.kind∧m.kind≤8):ZM key m:=λh k=>by
 obtain⟨e,_,_⟩:=zF h;generalize (gE (cS m)).1=q at*;obtain⟨r,e1⟩:=zD (m:=q) (by omega);obtain⟨r',e2⟩:=zD (m:=m) (by omega);rw[e1,e2]at e;have:=(iN e).1;omega
theorem HG{k w:Int}{y:RowT}[OkRow y][g:ZR key y](hk:k=0∨k=9):ZM key {MsgT.zero with kind:=k,whose:=w,row:=y}:=λh k2=>by
 obtain⟨e,_,t⟩:=zF h;have:=wZ t;generalize (gE (cS {MsgT.zero with kind:=k,whose:=w,row:=y})).1=q at*;have e2:cS {MsgT.zero with kind:=k,whose:=w,row:=y}=iz k++(iz w++dQ y):=CU rfl (by omega);rw[CU (m:=q) rfl (by omega),e2]at e;have e:=(iN (iN e).2).2;rw[←aP (dQ y),←aP (dQ q.row)]at e;exact(As e).1.zr t g
class ZL(key:Nat)(l:List SaidT):Prop where
 all: ∀x∈l,ZM key x.msg
class ZS(key:Nat)(s:MS LD):Prop where
 own:ZR key s.own
 mir: ∀(i:Nat) (h:i<5),ZR key s.mirror.rows[i]
 last: ∀(i:Nat) (h:i<5),ZR key s.last[i]
 o:ZL key s.o
 log: ∃ls,Logs s.e ls (ZB key)∧∀b∈ls,ZB key b
variable {s:MS LD}
instance [h:ZS key s]:ZR key s.own:=h.own
instance [h:ZS key s](w:Int):ZR key (cQ s.mirror w):=by unfold cQ;split;exact h.mir _ _;exact .zero
instance [h:ZS key s](w:Int):ZR key (kT s w):=by unfold kT;split;exact h.last _ _;exact .zero
instance (v:Int):ZM key (oY v):=Fk ⟨by show(1:Int)≤1;omega,by show(1:Int)≤8;omega⟩
theorem LJ{t:Int}{m:MsgT}(h:ZM key m):ZL key [⟨t,m⟩]:=⟨λx hx=>by rw[cF]at hx;subst hx;exact h⟩
class ZMc(key:Nat)(m:MsgT):Prop where
 zm:ZM key m
theorem KO{m:MsgT}(h:decide (1≤m.kind∧m.kind≤8)=true):ZMc key m:=⟨Fk (of_decide_eq_true h)⟩
instance (v:Int):ZMc key (oY v):=KO rfl
instance (i:Int)(y:RowT):ZMc key (qB i y):=KO rfl
instance (v:ViewT):ZMc key (jB v):=KO rfl
instance (i:Int)(v:ViewT):ZMc key (nE i v):=KO rfl
instance (i:Int)(y:RowT)[OkRow y][ZR key y]:ZMc key (fR i y):=⟨HG (.inr rfl)⟩
instance (e:Int)(b:BallotT):ZMc key (fz e b):=KO rfl
instance (e:Int)(b h:BallotT)(c:ChangeT):ZMc key (kc e b h c):=KO rfl
instance (e:Int)(b:BallotT)(c:ChangeT):ZMc key (iR e b c):=KO rfl
instance (e:Int)(b:BallotT):ZMc key (jl e b):=KO rfl
instance (t:Int)(m:MsgT)[h:ZMc key m]:ZL key [⟨t,m⟩]:=LJ h.zm
instance (i:Int)(m:MsgT)(p:Nat→Bool)(k:Nat)[h:ZMc key m]:ZL key (nu i m p k):=⟨λx hx=>by
 unfold nu at hx;obtain⟨j,_,rfl⟩:=eG.1 hx
 exact h.zm⟩
instance [h:OkR KD s][g:ZS key s]:ZL key (n9 (s.rep .nil)):=⟨λx hx=>by
 unfold n9 at hx;rw[eG]at hx;obtain⟨w,_,rfl⟩:=hx;have:=h.own;have:=g.own
 exact HG (w:=s.id) (y:=s.own) (.inl rfl)⟩
theorem JD{x:RowT}[h:ZR key x]{k n counts:Int}{c:CellT}(hk:k≠((key:Nat):Int)):ZR key (kP x k n counts c).1:=by
 unfold kP;split
 · exact .zero
 · refine⟨λhq=>?_,λi hi hq=>?_⟩
   · show(iY x k c).cells[key]=_
     unfold iY;split
     · rename_i q0
       have q:0≤k∧k<4:=of_decide_eq_true q0;show(x.cells.set k.toNat c (xk q0))[key]=_;rw[Vector.getElem_set,if_neg (by omega)];exact h.cells hq
     · exact h.cells hq
   · show(iY x k c).left[i][key]=_
     unfold iY;split<;>exact h.left i hi hq
theorem vO{x:RowT}(h:ZR key x){w v:Int}{l:Vector CellT 4}(hl: ∀h:key<4,l[key]= .zero):ZR key (mD x w v l):=by
 unfold mD;split
 · exact⟨h.cells,λi hi hk=>kD (p:=λu:Vector CellT 4=>u[key]= .zero) (eR (by assumption)) (λj hj=>h.left j hj hk) (hl hk) i hi⟩
 · exact h
instance {x d:RowT}[h:ZR key x][g:ZR key d](who:Int):ZR key (dp x who d).1:=by
 have lo: ∀(i:Int) (h:key<4),(rC d i)[key]= .zero:=λi hk=>by
  unfold rC;split
  · exact g.left _ _ hk
  · exact xL key hk
 have q: ∀k,ZR key (nI x who d k):=λk=>by
  induction k with
  |zero=>exact vO h g.cells
  |succ k ih=>
   rw[nf];unfold mI;split
   · exact vO ih (lo _)
   · exact ih
 unfold dp;split
 · exact .zero
 split
 · exact .zero
 · exact⟨(q 5).cells,(q 5).left⟩
instance [h:ZS key s](l:List Int):ZR key (oZ s l):=by
 have: ∀(l:List Int) (x:RowT),ZR key x→ZR key (l.foldl (λx i=>if 0<fN x i then x else(dp x i (kT s i)).1) x):=λl=>by
  induction l with
  |nil=>exact λx hx=>hx
  |cons i l ih=>exact λx hx=>ih _ (by dsimp only;split;exact hx;exact inferInstance)
 exact this l _ h.own
theorem JC[h:ZS key s](o:OpT)(ho:o.key≠((key:Nat):Int)):ZR key (dd s o).1:=by
 have:ZR key (gi (s.rep .nil) o).1:=by
  have:=h.own;unfold gi oN oO lC
  repeat' split
  all_goals first|exact .zero|exact JD (x:=s.own) ho
 unfold dd jN
 repeat' split
 all_goals first|exact .zero|exact this
theorem ZS.same{t:MS LD}(h:ZS key s)(h1:t.own=s.own)(h2:t.mirror=s.mirror)(h3:t.last=s.last)(h4:t.o=s.o)(h5:t.e=s.e):ZS key t:=⟨by rw[h1];exact h.own,by rw[h2];exact h.mir,by rw[h3];exact h.last,by rw[h4];exact h.o,by rw[h5];exact h.log⟩
theorem tA[ok:OkR KD s][h:ZS key s]{r:RecT}(hr:ZB key (fO r)):ZS key (dC KD s r):=⟨h.own,h.mir,h.last,h.o,by
 obtain⟨ls,l,a⟩:=h.log;rcases l.put (bs:=fO r) ok.e (xB r) hr with⟨_,q⟩| ⟨_,q⟩
 · exact⟨_,q _,λb hb=>(cg.1 hb).elim (a b) λe=>by rw[cF]at e;subst e;exact hr⟩
 · exact⟨_,q,a⟩⟩
instance [OkR KD s][ZS key s](y:RowT)[OkRow y][ZR key y]:ZS key (dC KD s (iQ y)):=tA LL
instance [OkR KD s][ZS key s](w:Int)(y:RowT)[OkRow y][ZR key y]:ZS key (dC KD s (iw w y)):=tA LM
instance [OkR KD s][ZS key s](w:Int):ZS key (dC KD s (gM w)):=tA (vB (.inl rfl))
instance [OkR KD s][ZS key s](v:ViewT):ZS key (dC KD s (kF v)):=tA (vB (.inr (.inr (.inr rfl))))
instance [OkR KD s][ZS key s](e:Int)(b:BallotT):ZS key (dC KD s (gT e b)):=tA (vB (.inr (.inl rfl)))
instance [OkR KD s][ZS key s](e:Int)(b:BallotT)(c:ChangeT):ZS key (dC KD s (lA e b c)):=tA (vB (.inr (.inr (.inl rfl))))
instance [h:ZS key s](l:List SaidT)[g:ZL key l]:ZS key (gW KD s l):=⟨h.own,h.mir,h.last,by
 unfold gW;constructor;show ∀x∈(if KD.dn s.e=true then s.o else s.o++l),ZM key x.msg;split
 · exact h.o.all
 · exact λx hx=>(cg.1 hx).elim (h.o.all x) (g.all x),h.log⟩
instance [h:ZS key s](t:Int)(m:MsgT)[ZMc key m]:ZS key (B4 KD s t m):=inferInstanceAs (ZS key (gW KD s _))
instance [h:ZS key s](f:Int):ZS key (iG s f):=h.same rfl rfl rfl rfl rfl
instance [h:ZS key s]:ZS key (lG s):=h.same rfl rfl rfl rfl rfl
instance [h:ZS key s](a b c:Int):ZS key (dM s a b c):=h.same rfl rfl rfl rfl rfl
instance [h:ZS key s]:ZS key (bM s):=h.same rfl rfl rfl rfl rfl
instance [h:ZS key s](w:Int)(x:RowT):ZS key (Di s w x):=h.same rfl rfl rfl rfl rfl
instance [h:ZS key s]:ZS key (gF s):=h.same rfl rfl rfl rfl rfl
instance [h:ZS key s](w:Int)(x:RowT)[hx:ZR key x]:ZS key (iu s w x):=⟨h.own,by
 show ∀(i:Nat) (_:i<5),ZR key (kR s.mirror w x).1.rows[i];unfold kR;split
 · unfold xa
   split
   · exact kD (p:=ZR key) (eR (by assumption)) h.mir hx
   · exact h.mir
 · exact h.mir,h.last,h.o,h.log⟩
instance [h:ZS key s](w:Int):ZS key (jT s w):=⟨h.own,λi hi=>by
 show ZR key (lU s.mirror w).rows[i]
 unfold lU;split<;>exact h.mir i hi,h.last,h.o,h.log⟩
instance [h:ZS key s](x:RowT)[hx:ZR key x](op:Int):ZS key (s6 s x op):=⟨hx,h.mir,h.last,h.o,h.log⟩
instance [OkR KD s][ZS key s]:ZS key (fl KD s):=inferInstanceAs (ZS key (gW KD s _))
instance [ZS key s](y:RowT):ZS key (lq KD s y):=inferInstanceAs (ZS key (gW KD s _))
instance [ZS key s](v:ViewT):ZS key (mT KD s v):=inferInstanceAs (ZS key (gW KD s _))
instance [ZS key s](m:MsgT)[ZMc key m]:ZS key (js KD s m):=inferInstanceAs (ZS key (gW KD s _))
instance [OkR KD s][ZS key s](x:RowT)[OkRow x][ZR key x](op:Int):ZS key (e6 KD s x op).1:=by unfold e6;split<;>exact inferInstance
instance [OkR KD s][h:ZS key s]:ZS key (lZ KD s):=by
 unfold lZ;split
 · exact h
 split
 · exact inferInstance
 · exact h
instance [OkR KD s][h:ZS key s](f:Int)(m:MsgT):ZS key (dw KD s f m):=by
 unfold dw kV
 repeat' split
 all_goals exact inferInstance
theorem LI[OkR KD s][h:ZS key s](f:Int)(m:MsgT)[OkMg m](hm:ZR key m.row):ZS key (ia KD s f m):=by
 unfold ia
 repeat' split
 all_goals exact inferInstance
theorem JA[h:ZS key s](f w:Int)(y:RowT)(hy:ZR key y):ZS key (sE s f w y):=⟨h.own,h.mir,by
 show ∀(i:Nat) (h:i<5),ZR key (if pN s w=0∨(kT s w).version<y.version then yg s.last w y else s.last)[i];split
 · unfold yg
   split
   · exact kD (p:=ZR key) (eR (by assumption)) h.last hy
   · exact h.last
 · exact h.last,h.o,h.log⟩
theorem tx[OkR KD s][h:ZS key s](f:Int)(m:MsgT)[OkMg m](hm:ZR key m.row):ZS key (eQ KD s f m):=by
 have:ZS key (sE s f m.whose m.row):=JA f m.whose m.row hm;unfold eQ;split<;>exact inferInstance
theorem pX[ZS key s]{f:MS LD→MS LD}(hf:ZS key (f s))(t:Int)(m:MsgT)[ZMc key m]:ZS key (mw KD f s t m):=by unfold mw;split;exact hf;exact inferInstance
instance [OkR KD s][h:ZS key s](f w:Int):ZS key (e9 KD s f w):=by
 unfold e9
 repeat' split
 · exact h
 · have q:ZS key (eQ KD s s.id (fR w (cQ s.mirror w))):=tx s.id _ (show ZR key (cQ s.mirror w)from inferInstance)
   refine pX ?_ _ _;exact q
 · exact inferInstance
 · have q:ZS key (eQ KD (jT (dC KD s (gM w)) w) s.id (fR w (cQ (jT (dC KD s (gM w)) w).mirror w))):=tx s.id _ (show ZR key (cQ (jT (dC KD s (gM w)) w).mirror w)from inferInstance)
   refine pX ?_ _ _;exact q
instance [OkR KD s][h:ZS key s](i w:Int):ZS key (gG KD s i w):=by
 unfold gG;split
 · exact h
 · exact pX inferInstance _ _
instance [OkR KD s][ZS key s](i:Int):ZS key (ng KD s i):=by unfold ng;exact inferInstance
theorem zI: ∀(l:List Int) (s:MS LD),OkR KD s→ZS key s→ZS key (fV KD l s)
 | [],_,_,h=>h
 |i::l,s,_,h=>zI l (ng KD s i) inferInstance inferInstance
instance [OkR KD s][h:ZS key s]:ZS key (qg KD s):=zI _ _ inferInstance h
instance [h:ZS key s](v:ViewT):ZS key (mj s v):=h.same rfl rfl rfl rfl rfl
instance [OkR KD s][h:ZS key s](v:ViewT)[OkVw v]:ZS key (gX KD s v):=by
 unfold gX
 repeat' split
 all_goals exact inferInstance
instance [OkR KD s][h:ZS key s](f:Int)(m:MsgT)[OkMg m]:ZS key (ko KD s f m):=by unfold ko;exact inferInstance
instance [OkR KD s][h:ZS key s](c:ChangeT):ZS key (ke KD s c):=by
 unfold ke
 repeat' split
 all_goals exact inferInstance
instance [h:ZS key s](n:Int):ZS key (du s n):=h.same rfl rfl rfl rfl rfl
instance [h:ZS key s](v:VoteT):ZS key (ld s v):=h.same rfl rfl rfl rfl rfl
instance [h:ZS key s](a:AccT):ZS key (vl s a):=h.same rfl rfl rfl rfl rfl
instance [OkR KD s][h:ZS key s](f:Int)(m:MsgT):ZS key (kG KD f m s):=by
 unfold kG;split
 · exact h
 · rename_i vt hv
   have:=OkR.vote (s:=s) (K:=KD) vt hv;split<;>exact inferInstance
theorem sn[OkR KD s][h:ZS key s]{f:MS LD→MS LD}(hf: ∀s:MS LD,OkR KD s→ZS key s→ZS key (f s))(w:Int)(m:MsgT):ZS key (eI KD f s w m):=by
 unfold eI
 repeat' split
 · exact inferInstance
 · exact h
 · exact h
 · exact hf _ inferInstance inferInstance
instance [OkR KD s][ZS key s](w:Int)(m:MsgT):ZS key (pR KD s w m):=sn (λ_ _ _=>inferInstance) w m
instance [OkR KD s][h:ZS key s](w:Int)(m:MsgT):ZS key (lL KD w m s):=by unfold lL;exact pX inferInstance _ _
instance [OkR KD s][h:ZS key s](w:Int)(m:MsgT)[OkMg m]:ZS key (nF KD w m s):=by
 unfold nF
 repeat' split
 all_goals exact inferInstance
instance [OkR KD s][ZS key s](w:Int)(m:MsgT)[OkMg m]:ZS key (rf KD s w m):=sn (λ_ _ _=>inferInstance) w m
theorem uJ[OkR KD s][h:ZS key s]{f:MS LD→MsgT→MS LD}{m:MsgT}[ZMc key m](hf: ∀s:MS LD,OkR KD s→ZS key s→ZS key (f s m)):ZS key (iD KD f s m):=by
 unfold iD;split
 · exact hf _ inferInstance inferInstance
 · exact inferInstance
instance [OkR KD s][h:ZS key s](vt:VoteT)[OkVt vt]:ZS key (jY KD s vt):=uJ λ_ _ _=>inferInstance
instance [OkR KD s][h:ZS key s](f:Int)(m:MsgT)[OkMg m]:ZS key (oJ KD f m s):=by
 unfold oJ;split
 · exact h
 · rename_i vt hv
   have:=OkR.vote (s:=s) (K:=KD) vt hv;split<;>exact inferInstance
instance [OkR KD s][ZS key s](w:Int)(m:MsgT)[OkMg m]:ZS key (pS KD s w m):=sn (λ_ _ _=>inferInstance) w m
theorem xS[OkR KD s][h:ZS key s](w:Int)(m:MsgT)[OkMg m]{a:AccT}(ha:OkAc a):ZS key (l3 KD w m a s):=by
 have:=OkMg.promM m.epoch (m:=m) ha;unfold l3;exact pX inferInstance _ _
instance [OkR KD s][h:ZS key s](w:Int)(m:MsgT)[OkMg m]:ZS key (oz KD w m s):=by
 unfold oz
 repeat' split
 · exact h
 · exact inferInstance
 · exact xS w m inferInstance
 · exact xS w m inferInstance
instance [OkR KD s][ZS key s](w:Int)(m:MsgT)[OkMg m]:ZS key (ri KD s w m):=sn (λ_ _ _=>inferInstance) w m
instance [OkR KD s][h:ZS key s](vt:VoteT)[OkVt vt]:ZS key (lO KD s vt):=uJ λ_ _ _=>inferInstance
instance [OkR KD s][h:ZS key s](vt:VoteT)[OkVt vt]:ZS key (nG KD s vt):=by unfold nG;split<;>exact inferInstance
instance [OkR KD s][h:ZS key s](c:ChangeT):ZS key (pd KD s c):=by unfold pd;exact inferInstance
instance [OkR KD s][h:ZS key s](c:ChangeT):ZS key (cD KD s c).1:=by
 unfold cD
 repeat' split
 all_goals exact inferInstance
instance [OkR KD s][h:ZS key s](op:Int)(c:ChangeT)[OkCh c]:ZS key (dS KD s op c).1:=by
 unfold dS
 repeat' split
 all_goals exact inferInstance
theorem Hr[OkR KD s][h:ZS key s](o:OpT)[OkCh o.change](ho:o.kind≤3→o.key≠((key:Nat):Int))(hk:o.kind≤4):ZS key (bW KD s o).1:=by
 unfold bW;split
 · exact inferInstance
 · by_cases h3:o.kind≤3
   · have:=JC (s:=bM s) o (ho h3)
     unfold nA
     repeat' split
     all_goals exact inferInstance
   · have e0:gi ((bM s).rep .nil) o=(.zero,5):=by unfold gi;rw[if_neg (by omega),if_neg (by omega),if_neg (by omega)]
     have e:(dd (bM s) o).1= .zero:=by
      unfold dd jN;rw[e0];split
      · rfl
      split
      · rfl
      split
      · rfl
      split
      · rfl
      rw[if_pos (by show ¬(5:Int)=0;decide)]
     have:ZR key (dd (bM s) o).1:=by rw[e];exact .zero
     unfold nA
     repeat' split
     all_goals exact inferInstance
instance [OkR KD s][h:ZS key s]:ZS key (bQ KD s):=by unfold bQ;split<;>exact inferInstance
instance [OkR KD s][h:ZS key s]:ZS key (ca KD s):=by unfold ca;split<;>exact inferInstance
instance [OkR KD s][h:ZS key s]:ZS key (fZ KD s):=by unfold fZ;split<;>exact inferInstance
instance [OkR KD s][h:ZS key s]:ZS key (pO KD s):=by
 unfold pO;split
 · exact h
 · rename_i vt hv
   have:=OkR.vote (s:=s) (K:=KD) vt hv
   repeat' split
   all_goals exact inferInstance
instance [OkR KD s][h:ZS key s]:ZS key (im KD s):=by unfold im;split<;>exact inferInstance
theorem JP[OkR KD s][h:ZS key s](f:Int)(m:MsgT)[OkMg m](hm:m.kind=0∨m.kind=9→ZR key m.row):ZS key (gj KD s f m):=by
 unfold gj;split
 · rename_i q;exact LI f m (hm (.inl q))
 repeat' split
 all_goals first|exact tx f m (hm (.inr (by assumption)))|exact inferInstance
theorem JB[h:ZS key s](r:RecT)(hr:r.kind=0∨r.kind=1→ZR key r.row):ZS key (iX s r):=by
 unfold iX;split
 · rename_i q;exact⟨hr (.inl q),h.mir,h.last,h.o,h.log⟩
 split
 · rename_i q;have:=hr (.inr q);exact inferInstance
 split
 · exact inferInstance
 split
 · exact h.same rfl rfl rfl rfl rfl
 split
 · exact h.same rfl rfl rfl rfl rfl
 split
 · exact inferInstance
 · exact h
theorem Fj: ∀(l:List (List UInt8)) {s t:MS LD},ZS key s→(∀b∈l,ZB key b)→kM l s=some t→ZS key t
 | [],s,t,h,_,q=>by
  obtain rfl:=cI q;exact h
 |b::l,s,t,h,hb,q=>by
  rw[kM]at q;split at q
  · cases q
  · rename_i e
    exact Fj l (JB _ (hb b (dr ..) (Decidable.not_not.1 e))) (λx hx=>hb x (eC _ hx)) q
def ZD(key:Nat)(D:DS):Prop:=∃ls,Rests D ls (ZB key)∧∀b∈ls,ZB key b
theorem vN{i:Nat}{D:DS}(h:ZD key D)(hw:D.dn=false→D.ws=[]):(∀s,(cw i D).1=some s→ZS key s)∧((cw i D).1=none→ZD key (bH D).D):=by
 obtain⟨ls,r,a⟩:=h;rcases r.open hw with⟨e,r⟩| ⟨ls',D',e,ad,l,dn⟩
 · have n:(cw i D).1=none:=by unfold cw;rw[if_pos e]
   exact⟨(λs q=>by rw[n]at q;cases q),λ_=>⟨ls,r,a⟩⟩
 · have hb: ∀b∈ls',ZB key b:=λb hb=>by
    rcases ad with rfl| ⟨bs,q,rfl⟩
    · exact a b hb
    · exact(cg.1 hb).elim (a b) λe=>by rw[cF]at e;subst e;exact q
   refine⟨λs q=>?_,λ_=>?_⟩
   · obtain⟨_,q⟩:=pV q
     rw[e]at q;refine Fj _ (ZS.mk (s:=AK _ _) ?_ ?_ ?_ ?_ ?_) hb q
     · exact ZR.zero
     · exact λi hi=>by
        show ZR key MirT.zero.rows[i]
        match i,hi with|0,_|1,_|2,_|3,_|4,_=>exact ZR.zero
     · exact λi hi=>by
        show ZR key (#v[RowT.zero,RowT.zero,RowT.zero,RowT.zero,RowT.zero]:Vector RowT 5)[i]
        match i,hi with|0,_|1,_|2,_|3,_|4,_=>exact ZR.zero
     · exact⟨λx hx=>by cases hx⟩
     · exact⟨ls', .inl ⟨dn,l,rfl,rfl⟩,hb⟩
   · rw[e];exact⟨ls', .inl l,hb⟩
theorem Hy{x:Slot}{s:MS LD}(h:x.run=some s)(n:Int):tk x n= {x with run:=some (s.dsk (s.e.D.arm n))}:=by unfold tk;rw[h]
theorem Hz{x:Slot}(h:x.run=none)(n:Int):tk x n= {x with D:=x.D.arm n}:=by unfold tk;rw[h]
theorem BO{x:Slot}{s:MS LD}(h:x.run=some s)(i:Nat):(gU i x).1=x:=by unfold gU;rw[h]
theorem BP{x:Slot}(h:x.run=none)(i:Nat):(gU i x).1= {x with run:=(cw i x.D).1,D:=(bH x.D).D}:=by unfold gU;rw[h]
theorem En(i:Nat):oU i=Slot.mk (cw i DS.new).1 (bH DS.new).D []:=by
 show(gU i .nil).1=_;unfold gU;show Slot.mk (cw i DS.new).1 _ _=_;rfl
theorem Mn(A:Option (MS LD))(B:DS)(C:List ReplyT):(Slot.mk A B C).run=A∧(Slot.mk A B C).D=B:=⟨rfl,rfl⟩
theorem rz{i:Nat}(hi:i<5):(CL.new.at' i).run=(cw i DS.new).1∧(CL.new.at' i).D=(bH DS.new).D:=by
 have e:CL.new.at' i=oU i:=by simp[CL.new,CL.at',List.getD_eq_getElem?_getD,hi]
 rw[e,En];exact Mn _ _ _
structure ZC(key:Nat)(a:CL):Prop where
 run: ∀i,i<5→∀s,(a.at' i).run=some s→ZS key s
 D: ∀i,i<5→(a.at' i).run=none→ZD key (a.at' i).D
 way: ∀k,∀m∈a.W.getD k [],ZM key m
theorem gr{α:Type}{W:List (List α)}{k j:Nat}{l:List α}{P:α→Prop}(h: ∀k,∀m∈W.getD k [],P m)(hl: ∀m∈l,P m): ∀m∈(W.set k l).getD j [],P m:=λm hm=>by
 by_cases q:j=k
 · subst q
   by_cases hk:j<W.length
   · rw[List.getD_eq_getElem?_getD,List.getElem?_set_self hk]at hm;exact hl m hm
   · rw[nl (by omega)]at hm;exact h j m hm
 · rw[List.getD_eq_getElem?_getD,List.getElem?_set_ne (λe=>q e.symm),←List.getD_eq_getElem?_getD]at hm;exact h j m hm
theorem y1{P:MsgT→Prop}{f:Nat}: ∀(l:List SaidT) {W:List (List MsgT)},(∀k,∀m∈W.getD k [],P m)→(∀x∈l,P x.msg)→∀k,∀m∈(gZ W f l).getD k [],P m
 | [],_,h,_=>h
 |s::l,W,h,hl=>y1 l (W:=qL W f s) (λk=>by
  unfold qL;split
  · refine gr h λm hm=>?_
    split at hm
    · exact(cg.1 hm).elim (h _ m) λe=>by rw[cF]at e;subst e;exact hl s (dr ..)
    · exact h _ m hm
  · exact h k) λx hx=>hl x (eC _ hx)
theorem ZC.put{a:CL}(h:ZC key a)(h5:a.ms.length=5){i:Nat}(hi:i<5){x:Slot}{W:List (List MsgT)}(h1: ∀s,x.run=some s→ZS key s)(h2:x.run=none→ZD key x.D)(h3: ∀k,∀m∈W.getD k [],ZM key m):ZC key ⟨a.ms.set i x,W⟩:=by
 have hl:i<a.ms.length:=by omega
 refine⟨λj hj s q=>?_,λj hj q=>?_,h3⟩
 · by_cases e:j=i
   · subst e;rw[rP hl]at q;exact h1 s q
   · rw[tj e]at q;exact h.run j hj s q
 · by_cases e:j=i
   · subst e;rw[rP hl]at q ⊢;exact h2 q
   · rw[tj e]at q ⊢;exact h.D j hj q
theorem ZC.did{a:CL}(h:ZC key a)(h5:a.ms.length=5){i:Nat}(hi:i<5){s:MS LD}(hs:ZS key s):ZC key (a.did i s):=
 h.put h5 hi (λt q=>by obtain rfl:=cI q;exact⟨hs.own,hs.mir,hs.last,⟨λx hx=>by cases hx⟩,hs.log⟩) (λq=>by cases q) (y1 _ h.way hs.o.all)
theorem ZC.onway{a:CL}(h:ZC key a){k:Nat}{l:List MsgT}(hl: ∀m∈l,ZM key m):ZC key (a.way k l):=⟨h.run,h.D,λj=>gr h.way hl⟩
theorem JF{n f t:Nat}{a:CL}(g:CLOk n a)(h:ZC key a)(ht:t<5){m:MsgT}(hm:ZM key m):ZC key (tf a f t m).1:=by
 unfold tf;split
 · exact h
 · rename_i s hs
   split
   · exact h
   · split
     · rename_i hd
       obtain⟨h1,_,_⟩:=(g.at' t ht).run s hs;have:=h.run t ht s hs;have:=A4 (cS m);exact h.did g.ms ht (JP _ _ (hm hd))
     · exact h
theorem LK{n:Nat}{a:CL}(g:CLOk n a)(h:ZC key a)(o:OpT):ZC key (oI a o).1:=by
 unfold oI;split
 · exact h
 · rename_i hv
   have hv:dB o.at' o.to'=true:=by simpa using hv
   have hw:=h.way (bB o.at' o.to');have gw:=g.way (bB o.at' o.to');split
   · exact h
   · rename_i m l hl
     rw[hl]at hw gw;split
     · split
       · refine h.onway λx hx=>?_
         unfold Dx at hx;split at hx
         · rcases cg.1 hx with hx|hx
           · exact hw x hx
           · rw[cF]at hx;subst hx;exact hw _ (dr ..)
         · exact hw x hx
       · exact h
     · split
       · exact h
       · rename_i m2 l2 hl2
         have hlen:=jj (max o.n 0% ((m::l).length:Int)).toNat (m::l);have hmem:=λx=>(m3 (x:=x) (max o.n 0% ((m::l).length:Int)).toNat (m::l)).1
         rw[hl2]at hlen hmem;have z:ZC key (a.way (bB o.at' o.to') l2):=h.onway λx hx=>hw x (hmem x (eC _ hx))
         have g2:CLOk n (a.way (bB o.at' o.to') l2):=g.onway ⟨by simp only[ay]at hlen gw;omega,λx hx=>gw.2 x (hmem x (eC _ hx))⟩
         have ht:o.to'.toNat<5:=by
          unfold dB at hv;rw[aw,aw]at hv;exact(lV hv.1.2).1
         split
         · exact z
         · exact JF g2 z ht (hw m2 (hmem m2 (dr ..)))
theorem MK{n:Nat}{a:CL}(g:CLOk n a)(h:ZC key a){o:OpT}(ho:OkOp o)(hk:o.kind≤3→o.key≠((key:Nat):Int)):ZC key (Dy a o).1:=by
 unfold Dy;split
 · exact h
 rename_i hm;have hm:iF o.at'=true:=by simpa using hm
 have hi:=(lV hm).1;split
 · rename_i h4
   unfold E3;split
   · exact h
   · rename_i s hs
     split
     · exact h
     · obtain⟨h1,_,_⟩:=(g.at' _ hi).run s hs
       have:=h.run _ hi s hs;have:=ho.change;exact h.did g.ms hi (Hr o hk h4.2)
 split
 · exact LK g h o
 split
 · unfold DP
   split
   · exact h
   · rename_i s hs
     split
     · exact h
     · obtain⟨h1,_,_⟩:=(g.at' _ hi).run s hs
       have:=h.run _ hi s hs;exact h.did g.ms hi inferInstance
 split
 · cases ht:(a.at' o.at'.toNat).run with
   |some t=>
    rw[Hy ht];refine h.put g.ms hi (λs q=>?_) (λq=>by cases q) h.way;obtain rfl:=cI q;have z:=h.run _ hi t ht;obtain⟨ls,l,b⟩:=z.log;exact⟨z.own,z.mir,z.last,z.o,ls,l.arm ho.n,b⟩
   |none=>
    rw[Hz ht];refine h.put g.ms hi (λs q=>?_) (λq=>?_) h.way
    · have q:(a.at' o.at'.toNat).run=some s:=q
      rw[ht]at q;cases q
    · obtain⟨ls,r,b⟩:=h.D _ hi ht
      exact⟨ls,r.arm ho.n,b⟩
 split
 · refine h.put g.ms hi (λs q=>by cases q) (λ_=>?_) h.way
   show ZD key ((a.at' o.at'.toNat).dk.crash o.mask o.torn o.cut);unfold Slot.dk;split
   · rename_i s hs
     obtain⟨ls,l,b⟩:=(h.run _ hi s hs).log;exact⟨ls,l.crash _ _ _,b⟩
   · rename_i hs
     obtain⟨ls,l,b⟩:=h.D _ hi hs;exact⟨ls,l.crash _ _ _,b⟩
 split
 · have up:=(g.at' _ hi).D
   cases hs:(a.at' o.at'.toNat).run with
   |some s=>rw[BO hs];exact h.put g.ms hi (h.run _ hi) (h.D _ hi) h.way
   |none=>
    rw[BP hs];obtain⟨h1,h2⟩:=vN (i:=o.at'.toNat) (h.D _ hi hs) (up hs).up;exact h.put g.ms hi h1 h2 h.way
 · exact h
theorem HH:ZC key CL.new:=by
 have d:ZD key DS.new:=⟨[], .inl LogD.new,λb hb=>by cases hb⟩;have st: ∀i,(∀s,(cw i DS.new).1=some s→ZS key s)∧((cw i DS.new).1=none→ZD key (bH DS.new).D):=λi=>vN d λ_=>rfl
 refine⟨λi hi s q=>?_,λi hi q=>?_,λk m hm=>?_⟩
 · rw[(rz hi).1]at q
   exact(st i).1 s q
 · rw[(rz hi).1]at q
   rw[(rz hi).2];exact(st i).2 q
 · have z:CL.new.W.getD k []=[]:=by
    show(List.replicate 25 ([]:List MsgT)).getD k []=[];rw[List.getD_eq_getElem?_getD,List.getElem?_replicate];split<;>rfl
   rw[z]at hm;cases hm
theorem JE{n:Nat}{a:CL}(g:CLOk n a)(h:ZC key a){i:Nat}(hi:i<5){s:MS LD}(q:io a i=some s):ZS key s:=by
 unfold io at q;split at q
 · exact h.run i hi s q
 · have: ∃ls,(Rests (a.at' i).dk ls (ZB key)∨∃bs,ZB key bs∧Half (a.at' i).dk ls bs)∧∀b∈ls,ZB key b:=by
    unfold Slot.dk;split
    · rename_i t ht
      obtain⟨ls,l,b⟩:=(h.run i hi t ht).log;refine⟨ls,?_,b⟩;rcases l with⟨_,l,_⟩| ⟨_,l⟩
      · exact .inl (.inl l)
      · exact .inr l
    · rename_i ht
      obtain⟨ls,l,b⟩:=h.D i hi ht;exact⟨ls, .inl l,b⟩
   obtain⟨ls,l,b⟩:=this;obtain⟨r,w⟩:=DZ l;exact(vN ⟨ls,r,b⟩ w).1 s q
def Mz(key:Nat)(b:BookT):Prop:=∀(i:Nat) (h:i<5),ZR key b.rows[i]
theorem HJ{b:BookT}(h:Mz key b)(w:Int){x:RowT}(hx:ZR key x):Mz key (fc b w x).1:=by
 unfold fc;split
 · unfold wS
   split
   · exact λi hi=>kD (p:=ZR key) (eR (by assumption)) h hx i hi
   · exact h
 · exact h
theorem KP{s:MS LD}[ZS key s]{b:BookT}(h:Mz key b): ∀k,Mz key (qC s b k)
 |0=>h
 |k+1=>HJ (KP h k) _ inferInstance
theorem vS{n:Nat}{a:CL}(g:CLOk n a)(h:ZC key a): ∀j,j≤5→Mz key (it a j)
 |0,_=>λi hi=>by
  show ZR key BookT.zero.rows[i]
  match i,hi with|0,_|1,_|2,_|3,_|4,_=>exact ZR.zero
 |j+1,hj=>by
  have ih:=vS g h j (by omega);cases q:io a j with
  |none=>rw[sD q];exact ih
  |some s=>
   rw[sC q];have:=JE g h (show j<5 by omega) q;exact KP ih 5
theorem Fm{b:BookT}(h:Mz key b)(hk:key<4)(i:Int):cW b i ((key:Nat):Int)= .zero:=by
 have kb:lw ((key:Nat):Int)=true:=decide_eq_true ⟨by omega,by omega⟩;have row: ∀w:Int,ZR key (cr b w):=λw=>by unfold cr;split;exact h _ _;exact .zero
 have rc: ∀(x:RowT) (w:Int),ZR key x→(iW x w i ((key:Nat):Int)).1= .zero:=λx w z=>by
  unfold iW;split
  · split
    · show dD x _=_
      unfold dD;rw[dif_pos kb];exact z.cells hk
    · split
      · show xf x _ _=_
        unfold xf;split
        · exact z.left _ _ hk
        · rfl
      · rfl
  · rfl
 have: ∀k,(ut b i ((key:Nat):Int) k).1= .zero:=λk=>by
  induction k with
  |zero=>rfl
  |succ k ih=>
   rw[qh];unfold qi;simp only;split
   · exact rc _ _ (row _)
   · exact ih
 exact this 5
theorem HI{b:BookT}(h:Mz key b)(hk:key<4):kx b ((key:Nat):Int)=0:=by
 have: ∀k,qv b ((key:Nat):Int) k=0:=λk=>by
  induction k with
  |zero=>rfl
  |succ k ih=>rw[sx,ih,Fm h hk];rfl
 exact this 5
theorem F5{n:Nat}{a:CL}(g:CLOk n a)(h:ZC key a)(hk:key<4):Ak a ((key:Nat):Int)=[0,0,0,0,0]:=by
 have hb:=vS g h 5 (aH _);have ck: ∀i,ir (cu a) ((key:Nat):Int) i= .zero:=λi=>Fm hb hk _
 have g0: ∀i:Nat,CellT.zero.given.toList.getD i 0=0:=λi=>by
  match i with|0|1|2|3|4=>rfl|i+5=>rfl
 have all0: ∀(S:List Int) (w:Nat),(∀j,S.getD j 0=0)→∀x,x=0→∀j,(S.set w x).getD j 0=0:=λS w hS x hx j=>by
  by_cases q:j=w
  · subst q
    by_cases hl:j<S.length
    · rw[List.getD_eq_getElem?_getD,List.getElem?_set_self hl];exact hx
    · rw[nl (by omega)];exact hS j
  · rw[List.getD_eq_getElem?_getD,List.getElem?_set_ne (λe=>q e.symm),←List.getD_eq_getElem?_getD];exact hS j
 have sj: ∀(i ow:Nat) (S:List Int),(∀j,S.getD j 0=0)→∀k j,(JR (cu a) ((key:Nat):Int) i ow S k).getD j 0=0:=λi ow S hS k=>by
  induction k with
  |zero=>exact hS
  |succ k ih=>
   rw[JR,LS];refine all0 _ _ ih _ ?_;rw[ih,ck,ck,g0,g0];rfl
 have so: ∀k j,(tw (cu a) ((key:Nat):Int) (fM a) k).getD j 0=0:=λk=>by
  induction k with
  |zero=>intro j;rw[tw,List.getD_eq_getElem?_getD,List.getElem?_replicate];split<;>rfl
  |succ k ih=>
   rw[tw];split
   · refine sj _ _ _ (all0 _ _ ih _ ?_) 5
     rw[ih,ck];rfl
   · exact ih
 unfold Ak;rw[if_pos (show lw ((key:Nat):Int)=true from decide_eq_true ⟨by omega,by omega⟩)];have hl:=iV (cu a) ((key:Nat):Int) (fM a) 5;refine List.ext_getElem (by rw[hl];rfl) λj h1 h2=>?_
 have:=so 5 j;rw[List.getD_eq_getElem?_getD,List.getElem?_eq_getElem h1,KL]at this;rw[this]
 match j,h2 with|0,_|1,_|2,_|3,_|4,_=>rfl
end Api
end

section
namespace Go.Proofs.YtjblgopghhgflaaGreat
open Go Leg Codec Api Dsk Wal
def ys(q:Nat)(a:CL)(o:OpT):CL:=if o.kind≤3∧o.key=((q:Nat):Int)then a else(Dy a o).1
def p9(q:Nat)(l:List OpT):CL:=l.foldl (ys q) .new
theorem ug(q:Nat)(l:List OpT){k:Nat}(h:k<l.length):p9 q (l.take (k+1))=ys q (p9 q (l.take k)) l[k]:=by
 unfold p9;rw[cv h,ei];rfl
theorem xl(q:Nat): ∀(l:List OpT) {n:Nat} {a:CL},CLOk n a→ZC q a→(∀o∈l,OkOp o)→CLOk (n+l.length) (l.foldl (ys q) a)∧ZC q (l.foldl (ys q) a)
 | [],_,_,h,z,_=>⟨h,z⟩
 |o::l,n,a,h,z,hl=>by
  have ho:=hl o (dr ..)
  have step:CLOk (n+1) (ys q a o)∧ZC q (ys q a o):=by
   unfold ys;split
   · exact⟨h.more (by omega),z⟩
   · rename_i hn
     exact⟨Lv h ho,MK h z ho λhk e=>hn ⟨hk,e⟩⟩
  have:=xl q l step.1 step.2 λx hx=>hl x (eC _ hx)
  rw[List.foldl_cons,ay,show n+(l.length+1)=n+1+l.length by omega];exact this
theorem AT{q:Nat}(l:List OpT)(hl: ∀o∈l,OkOp o):CLOk l.length (p9 q l):=by
 have:=(xl q l new_ok HH hl).1
 rwa [bg]at this
theorem G9{q:Nat}{l:List OpT}(hl: ∀o∈l,OkOp o)(hq:q<4):tw (cu (p9 q l)) ((q:Nat):Int) (fM (p9 q l)) 5=[0,0,0,0,0]∧kx (cu (p9 q l)) ((q:Nat):Int)=0:=by
 have h:=AT (q:=q) l hl;have z:ZC q (p9 q l):=(xl q l new_ok HH hl).2;have e:=F5 h z hq;unfold Ak at e;rw[if_pos (show lw ((q:Nat):Int)=true from decide_eq_true ⟨by omega,by omega⟩)]at e;exact⟨e,HI (vS h z 5 (aH _)) hq⟩
theorem Bn:WF [0,0,0,0,0]:=λn hn=>by
 simp only[co,List.not_mem_nil,or_false,or_self]at hn;subst hn;decide
theorem OU:Tryz.prog.eqGuardType Tryz.prog.depth 42=false:=by kernel_rfl
theorem OP:Tryz.prog.keyTypeAt 3 42=true:=by kernel_rfl
theorem Pp:nJ Tryz.prog 3 42=some 5:=by kernel_rfl
theorem N3:(match Tryz.prog.underlying 42 with|some (.struct _)|some (.array _ _)=>true|_=>false)=true:=by kernel_rfl
theorem N9:Tryz.prog.cellsOf 42=5:=by kernel_rfl
theorem xR(x:Value)(l:List OpT)(key:Int)(hok: ∀o∈l,OkOp o):
 DT 8 #[x,(.int .i64 (key))] (IsL 11 (EF OpT.flat) x l) [] (RI (.bool true) []):=by
 refine BD 47 Tryz.func8 rfl rfl rfl λw0 F hF=>?_
 obtain⟨q,hq,hq4⟩: ∃q:Nat,key%4=((q:Nat):Int)∧q<4:=⟨(key%4).toNat,by omega,by omega⟩;refine sr λ_ J1=>PS ?_
 refine nx J1 (aa λ_ J2=>sr λ_ J3=>CE Pg (EG) ID ?_);refine PS ?_;refine nx J3 (CN (qx J2 (aa λ_ J4=>sr λ_ J5=>PS ?_)));refine CF Pk (Ev x l) ID (λ_ d _=>IsL.more EF.more hF d) ?_;refine ao ?_ ?_<;>intro h11;refine PS ?_;refine nx J5 (CN (qx J4 (sr λ_ J6=>PS ?_)));refine tp (tt (r:=((q:Nat):Int)) rfl rfl rfl ((mask (k:=2) (by decide) _).trans hq)) ?_;refine PS ?_;refine nx J6 (sr λ_ J7=>CR NJ (zj) ID λvR HR hR=>?_);obtain⟨c,rfl,rfl⟩:=hR;refine PS ?_;refine nx J7 (aa λ_ J8=>sr λ_ J9=>PS ?_);refine tp (eh rfl Tryz.underlying22 rfl hF.len) ?_;refine PS ?_;refine nx J9 (aq ?_)
 refine bw (α:=(Nat)) (λk=>k≤l.length) (λk=>[(1,(.int .i64 (((q:Nat):Int)))),(4,(.bool false)),(5,(.pointer (some ⟨c,0,none⟩))),(16,x),(17,(.int .i64 (((l.length:Nat):Int)))),(18,(.int .i64 (((k:Nat):Int))))]) (λk=>[gf c (p9 q (l.take k))]) (λk=>l.length-k) 0
  (aN _) SB
  (λ_ s=>s) (λk hinv=>?_)
 obtain hk:=hinv;refine sr λ_ J10=>PS ?_
 refine ao ?_ ?_<;>intro h19;obtain⟨b_e,off_e,cap_e,cs_e,T_e,z_e,us_e,hv_e,hc_e,hb_e,hl_e,hs_e,hE_e⟩:=IsL.at hF (j:=k) (by omega);have hkl:k<l.length:=by omega
 obtain⟨o,ho⟩: ∃o,o=l[k]:=⟨_,rfl⟩;replace hE_e:us_e=ints l[k].flat:=hE_e;rw[←ho]at hE_e;have hoo:OkOp o:=ho▸hok _ (ec ..);have hck:CLOk l.length (p9 q (l.take k)):=(AT (l.take k) (λo ho=>hok o (mc ho))).more (by rw[bo];omega);refine nx J10 (aa λ_ J11=>CY (qx J11 (aa λ_ J12=>aq (sr λ_ J13=>tp (bU (r:=off_e+k*11) hv_e rfl Tryz.underlying22 Ai rfl rfl (by omega) (by omega) (by omega)) ?_))));refine tp (PI (vs:=ints o.flat) rfl fG rfl Ai rfl (Dz hb_e (λ_ h=>fu h)) (DD _) (hs_e.trans hE_e)) ?_;refine XZ PN (ints OpT.zero.flat) λb7=>?_
 refine SW 0 Ai DD ?_;refine nx J13 (aa λ_ J14=>sr λ_ J15=>FA 0 fG aQ ?_);refine LU 0 Y3 (cO o rfl) ?_;refine PS ?_;refine ao ?_ ?_<;>intro h24;refine PS ?_;refine FA 3 fG aQ ?_;refine LU 0 Y3 (nz o rfl) ?_;refine P2 ?_;refine ao ?_ ?_<;>intro h29;refine PS ?_;refine nx J15 (CY (aX (aA (br (ac J12 (ae (AD ?_)))))));refine PS ?_;refine au ?_
 exact aK ((k+1):(Nat)) (by omega) (by show l.length- (k+1)<l.length-k;omega)
  SB
  (λ_ s=>by rw[ug q l hkl,←ho,ys,if_pos (by constructor<;>omega)];exact am [1] rfl s)
 refine PS ?_;refine nx J15 (CN (qx J14 (ae (PS ?_))));refine LW 0 fG Ai DD ?_;refine CE Ir (qe (c:=c) (a:=(p9 q (l.take k))) (o:=o) hck (by omega) hoo) (SM [1]) ?_;refine au (ag (ac J12 (ae (AD ?_))));refine PS ?_;refine au ?_
 exact aK ((k+1):(Nat)) (by omega) (by show l.length- (k+1)<l.length-k;omega)
  SB
  (λ_ s=>by rw[ug q l hkl,←ho,ys,if_neg (by omega)];exact am [0] rfl s)
 refine PS ?_
 iterate 4 refine UF ?_
 refine PS ?_;refine nx J15 (CN (qx J14 (ae (PS ?_))));refine LW 0 fG Ai DD ?_;refine CE Ir (qe (c:=c) (a:=(p9 q (l.take k))) (o:=o) hck (by omega) hoo) (SM [1]) ?_;refine au (ag (ac J12 (ae (AD ?_))));refine PS ?_;refine au ?_
 exact aK ((k+1):(Nat)) (by omega) (by show l.length- (k+1)<l.length-k;omega)
  SB
  (λ_ s=>by rw[ug q l hkl,←ho,ys,if_neg (by omega)];exact am [0] rfl s)
 refine nx J10 (aa λ_ J16=>CN (aX (aA (aA (br (ac J8 (sr λ_ J17=>?_)))))));obtain rfl:k=l.length:=by omega
 rw[iA];have hcl:CLOk l.length (p9 q l):=AT l hok;obtain⟨hz,hz2⟩:=G9 hok hq4;refine P2 ?_;refine Lz (H':=λg:CX=>[df c (p9 q l) g]) (λ_ s=>zG s) (λg=>CR Ng (sI c l.length (p9 q l) g hcl ((q:Nat):Int)) ID λvR HR hR=>?_);obtain⟨_,d2,r2,hv,rfl⟩:=hR.resolve_left (λz=>z.1 ⟨by omega,by omega⟩);rw[hz]at hv;obtain rfl:vR=(.agg (ints (#v[0,0,0,0,0]:Vector Int 5).toList).toArray):=hv;refine BV ((ints (#v[0,0,0,0,0]).toList).toArray) ?_;refine tp (PV.eqlAgg (a:=(#v[0,0,0,0,0]:Vector Int 5).toList) (b:=(#v[0,0,0,0,0]).toList) (m:=3) (c:=5) OU OP rfl Pp (dq (dv (#v[0,0,0,0,0]:Vector Int 5))) (dq (dv (#v[0,0,0,0,0]))) ⟨fS N3 N9 (dq (dv (#v[0,0,0,0,0]:Vector Int 5))),fS N3 N9 (dq (dv (#v[0,0,0,0,0])))⟩ Bn Bn rfl rfl rfl) ?_;refine ao ?_ ?_<;>intro h39;refine P2 ?_;refine CR Mi (pM c l.length (p9 q l) g hcl) ID λvR HR hR=>?_
 obtain⟨bt,d,r,rfl,rfl⟩:=hR;refine PS ?_;refine CR Mh (ni bt 0 121 (λx=>ints x.flat) Oz (cu (p9 q l)) ((q:Nat):Int)) (SM [2]) λvR HR hR=>?_
 obtain⟨hv,rfl⟩:=hR;rw[hz2]at hv;subst hv;refine P3 ?_;refine nx J17 (ai (WK [] (av rfl rfl ?_)));exact⟨by simp,rfl⟩
 · exact absurd rfl h39
 refine PS ?_;refine nx J5 (CY (sr λ_ J18=>PS ?_));refine nx J18 (ai (af (WK [] (av rfl rfl ?_))));exact⟨by simp,rfl⟩
theorem auditKeys_row(x:Value)(l:List OpT)(key:Int):DT 8 #[x, .int .i64 key] (IsL 11 (EW OpT.flat) x l) [] (RI (.bool true) []):=λw F r m=>xR x l key (L4 r) w F (Ls r).1 m
end Go.Proofs.YtjblgopghhgflaaGreat
end

section
namespace Api
open Go Leg Codec Wal
theorem OpT.of(l:List Int)(h:l.length=11): ∃x:OpT,x.flat=l:=by
 match l,h with
 | [a,b,c,d,e,f,g,i,j,k,m],_=>exact⟨⟨a,b,c,d,e,⟨f,g,i⟩,j,k,m⟩,rfl⟩
end Api
end
