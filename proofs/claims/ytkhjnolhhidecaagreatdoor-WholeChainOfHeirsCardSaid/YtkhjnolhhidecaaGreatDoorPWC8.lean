/-
  Joined texts:what a statement's proof reaches.
-/
import Derived.Lib.AppendStr
import Derived.Lib.UnsafeStr
import Derived.Lib.Builder
import Derived.Laws.Externs
import Derived.Test.YtkhjnolhhidecaaGreatDoorPWC7
set_option maxHeartbeats 8000000
set_option maxRecDepth 100000
set_option linter.unusedSimpArgs false
set_option linter.unusedVariables false
section
namespace Go.Proofs.YtkhjnolhhidecaaGreatDoor
open Go Leg Codec Api Dsk Wal
theorem xj(i:Nat):(eg i .new).1≠none:=by
 obtain⟨D',e,_⟩:=LogD.new.open rfl rfl;unfold eg;rw[e];simp[mw]
theorem vQ{i:Nat}{s:MS LD}(h:(eg i .new).1=some s):pE i=⟨some s,(bY .new).D,[]⟩:=by
 show(jE i .nil).1=_;unfold jE;show Slot.mk (eg i DS.new).1 _ _=_;rw[h];rfl
def dJ(i:Nat)(d:Nat→Nat):Nat→Value:=λj=>if j<i then .pointer (some ⟨d j,0,none⟩)else .pointer none
def JS:Nat→Value:=λ_=> .slice none 0 0
theorem KF(i:Nat)(d:Nat→Nat)(x:Nat):ow (dJ i d) i (.pointer (some ⟨x,0,none⟩))=dJ (i+1) (ow d i x):=funext λj=>by
 unfold dJ ow
 by_cases hj:j=i
 · subst hj;simp
 · rw[if_neg hj,if_neg hj]
   show(if j<i then _ else _)=_
   by_cases h:j<i
   · rw[if_pos h,if_pos (by omega)]
   · rw[if_neg h,if_neg (by omega)]
theorem IP{n:Nat}{D M P D' M' P':Nat→Value}(h1: ∀i,i<5→D i=D' i)(h2: ∀i,i<5→M i=M' i)(h3: ∀i,i<5→P i=P' i):fh n D M P=fh n D' M' P':=by
 unfold fh;rw[eu (λi hi=>h1 i (e6.1 hi)),eu (λi hi=>h2 i (e6.1 hi)),eu (λi hi=>h3 i (e6.1 hi))]
theorem JJ{f g:Nat→HP}{i:Nat}(hg: ∀j,j<i→g j=f j){H:List HP}{h:Hl}(s:bR (g i::bR ((List.range i).map f)::H) h):bR (bR ((List.range (i+1)).map g)::H) h:=by
 have e:(List.range (i+1)).map g=(List.range i).map f++[g i]:=by
  rw[cO,e8,eu (λj hj=>hg j (e6.1 hj))];rfl
 rw[e];obtain⟨h1,h2,d,rfl,a,b⟩:=s;have s2:bR ((g i::(List.range i).map f)++H) (jn h1 h2):=⟨h1,h2,d,rfl,a,(cj _ _).2 b⟩;exact(cj _ _).1 (eO ((List.perm_append_comm (l₁:=[g i])).append_right H) s2)
abbrev xW(d r:Nat→Nat)(j:Nat):HP:=lH (pE j) (d j) (r j) (.slice none 0 0)
theorem Kk{d r:Nat→Nat}{i x y:Nat}{s:MS LD}(hs:(eg i .new).1=some s){X Y:HP}{h:Hl}(q:bR [gm s x y,dk x s.e.D,X,Y,bR ((List.range i).map (xW d r))] h):bR [X,Y,bR ((List.range (i+1)).map (xW (ow d i x) (ow r i y)))] h:=by
 have q2:=gf 45 3 q
 have e:xW (ow d i x) (ow r i y) i=bR [dk x s.e.D,lU (.slice none 0 0) [],gm s x y]:=by
  unfold xW lH lG Slot.dk rE;rw[mm,mm,vQ hs]
 have q4:=(cj [dk x s.e.D,lU (.slice none 0 0) [],gm s x y] [bR ((List.range i).map (xW d r)),X,Y]).1 (aD [2,0,0,2,0,0] rfl q2);have q5:=JJ (i:=i) (f:=xW d r) (g:=xW (ow d i x) (ow r i y)) (H:=[X,Y]) (λj hj=>by unfold xW;rw[qu d x (show j≠i by omega),qu r y (show j≠i by omega)]) (by rw[e];exact q4);exact aD [1,1,0] rfl q5
theorem Ki(i:Nat)(hi:i<5):CL.new.at' i=pE i:=by simp[CL.new,CL.at',List.getD_eq_getElem?_getD,hi]
theorem Kj{c n:Nat}{d r:Nat→Nat}{h:Hl}(s:bR [aj c (fh n (dJ 5 d) (dJ 5 r) JS) 56,eT 106 169 5 n (List.replicate 25 []),bR ((List.range 5).map (xW d r))] h):bR [fX c .new] h:=by
 have e1:fh n (nv ⟨n,d,r,JS⟩) (kF .new r) JS=fh n (dJ 5 d) (dJ 5 r) JS:=IP (λi hi=>by unfold dJ;rw[if_pos hi]) (λi hi=>by
  unfold dJ;rw[if_pos hi];show y8 (CL.new.at' i) (r i)=_;rw[Ki i hi];cases hs:(eg i .new).1 with
  |none=>exact absurd hs (xj i)
  |some s=>rw[vQ hs];rfl) (λ_ _=>rfl)
 have e2:(List.range 5).map (λi=>lH (CL.new.at' i) (d i) (r i) (JS i))=(List.range 5).map (xW d r):=eu λi hi=>by
  rw[Ki i (e6.1 hi)];rfl
 have e3:da CL.new.W=List.replicate 25 []:=rfl;refine bw (p:=qU c .new) (H:=[]) ⟨n,d,r,JS⟩ ?_;unfold qU;rw[e1,e2,e3];exact s
theorem Al:
 DT 8 #[] T0 [] (dG (λv H=>∃c,v= .pointer (some ⟨c,0,none⟩)∧H=[fX c .new])):=by
 refine BD 33 Tryz.func8 rfl rfl rfl λw0 F hF=>sr λ_ J1=>PS ?_
 refine nx J1 (sr λ_ J2=>CR Rc (DP) ID λvR HR hR=>?_);obtain⟨n,rfl,rfl⟩:=hR;refine BV #[(.pointer (some ⟨n,0,none⟩)),(.pointer none),(.pointer none),(.pointer none),(.pointer none),(.pointer none),(.pointer none),(.pointer none),(.pointer none),(.pointer none),(.pointer none),(.slice none 0 0),(.slice none 0 0),(.slice none 0 0),(.slice none 0 0),(.slice none 0 0)] ?_;refine XB λb5=>?_
 refine PS ?_;refine nx J2 (aa λ_ J3=>sr λ_ J4=>PS ?_);refine nx J4 (am ?_)
 refine bG (α:=(Nat)×(Nat→Nat)×(Nat→Nat)) (λ⟨i,d,r⟩=>i≤5) (λ⟨i,d,r⟩=>[(0,(.pointer none)),(1,(.pointer (some ⟨b5,0,none⟩))),(6,(.int .i64 (((i:Nat):Int))))]) (λ⟨i,d,r⟩=>[aj b5 (fh n (dJ i d) (dJ i r) JS) 56,eT 106 169 5 n (List.replicate 25 []),bR ((List.range i).map (xW d r))]) (λ⟨i,d,r⟩=>5-i) (0,λ_=>0,λ_=>0)
  (aP _) SB
  (λ_ s=>aD [1,1,0] rfl (xu s)) (λ⟨i,d,r⟩ hinv=>?_)
 obtain hi:=hinv;refine sr λ_ J5=>PS ?_
 refine ap ?_ ?_<;>intro h7;have hlt:i<5:=by omega
 refine nx J5 (aa λ_ J6=>CY (qx J6 (aa λ_ J7=>am (sr λ_ J8=>P2 ?_))));refine nx J8 (aa λ_ J9=>D0 df ?_);refine PD 0 ?_;refine PD 1 ?_;refine PD 3 ?_;refine FD 4 1 qj CB ?_;refine AL 2 ?_;refine CR Rb (Oc) ID λvR HR hR=>?_
 obtain⟨dn,rfl,rfl⟩:=hR;refine EN (IY 5 (1+i) Nl xg ?_);refine AL 6 ?_;refine bK (i:=1) (ab rfl) rfl rfl rfl rfl rfl xg rfl rfl (by rw[sM];omega) (MF n (dJ i d) (dJ i r) JS (.pointer (some ⟨dn,0,none⟩)) hlt) rfl (EN (DN (ad J9 (D0 df ?_))));refine PD 0 ?_;refine PD 1 ?_;refine PD 2 ?_;refine PD 3 ?_;refine PD 4 ?_;refine PD 5 ?_;refine FD 6 1 qj CB ?_;refine IY 7 (1+i) Nl xg ?_;refine PD 13 ?_;refine FD 14 6 qj p7 ?_;refine AL 8 ?_;refine LT 1 K8 (.pointer (some ⟨dn,0,none⟩)) ?_ (hc:=by exact(Ge n (ow (dJ i d) i (.pointer (some ⟨dn,0,none⟩))) (dJ i r) JS hlt).trans (congrArg some (mm (dJ i d) i _)));refine EN (AL 9 ?_);refine CR Pg (vD i dn .new DkOk.new) ID λvR HR hR=>?_
 rcases hR with⟨hn,_⟩| ⟨s,rn,hs,rfl,rfl⟩
 · exact absurd hn (xj i)
 refine EN (PD 10 ?_);refine PD 11 ?_;refine PD 12 ?_;refine IY 15 (6+i) rI iQ ?_;refine AL 16 ?_;refine bK (i:=2) (ab rfl) rfl rfl rfl rfl rfl iQ rfl rfl (by rw[sM];omega) (wQ n (ow (dJ i d) i (.pointer (some ⟨dn,0,none⟩))) (dJ i r) JS (.pointer (some ⟨rn,0,none⟩)) hlt) rfl (EN (DN (af (ad J7 (ac (AD ?_))))));refine PS ?_;refine au ?_
 exact aL ((i+1,ow d i dn,ow r i rn):(Nat)×(Nat→Nat)×(Nat→Nat)) (by omega) (by show 5- (i+1)<5-i;omega)
  SB
  (λ_ q=>by
   show bR [aj b5 (fh n (dJ (i+1) (ow d i dn)) (dJ (i+1) (ow r i rn)) JS) 56,_,_] _;rw[←KF,←KF]
   exact Kk hs (aD [0,0,0,0,0] rfl q))
 refine nx J5 (aa λ_ J10=>CN (aW (aA (aA (bq (ad J3 (sr λ_ J11=>P2 ?_)))))));exact nx J11 (ah (aE (H':=[fX b5 .new]) (dN _) (λ_ s=>by have h5:i=5:=(by omega);subst h5;exact Kj s) (aw rfl rfl ⟨b5,rfl,rfl⟩)))
end Go.Proofs.YtkhjnolhhidecaaGreatDoor
end

section
namespace Api
open Go Leg Codec Dsk Wal
def Fg(D:DS):Nat→DS
 |0=> .new
 |k+1=>if kY D.s ((k:Nat):Int)=zs then Fg D k else((Fg D k).write ((k:Nat):Int) (kY D.s ((k:Nat):Int))).2
def OH(D:DS):DS:=(Fg D 2048).sync.2
def zP(a:CL)(i:Nat):Option (MS LD):=if(a.at' i).up then(a.at' i).run else(eg i (OH (a.at' i).dk)).1
def N5(s:MS LD)(b:BookT)(i:Nat):BookT:=(dF b ((i:Nat):Int) (mirRow s.mirror ((i:Nat):Int))).1
def lM(s:MS LD)(b:BookT):Nat→BookT
 |0=>b
 |i+1=>N5 s (lM s b i) i
def iV(a:CL):Nat→BookT
 |0=> .zero
 |j+1=>match zP a j with
  |some s=>lM s (iV a j) 5
  |none=>iV a j
def se(a:CL):BookT:=iV a 5
theorem tk{a:CL}{j:Nat}{s:MS LD}(h:zP a j=some s):iV a (j+1)=lM s (iV a j) 5:=by rw[iV,h]
def Lo(k i j:Int):OpT:=⟨k,i,j,0,0, .zero,0,0,0⟩
theorem Gh:OkCh ChangeT.zero:=⟨by
 have: ∀n∈ChangeT.zero.flat,(Lit.int IntKind.i64 n).wf=true:=by decide+kernel
 intro n hn;exact this n hn⟩
theorem BA(k i j:Int):OkOp (Lo k i j):=⟨Gh,by show(0:Int)≤9223372036854775807;omega⟩
def tx(a:CL)(i j:Nat):CL:=if i=j then a else(oM a (Lo 5 ((i:Nat):Int) ((j:Nat):Int))).1
def Jn(a:CL)(i:Nat):CL:=(oM a (Lo 8 ((i:Nat):Int) 0)).1
def tI(a:CL)(i:Nat):Nat→CL
 |0=>a
 |j+1=>tx (tI a i j) i j
def sweepTo(a:CL):Nat→CL
 |0=>a
 |i+1=>tI (sweepTo a i) i 5
def xi(a:CL):CL:=sweepTo a 5
def si(a:CL):Nat→CL
 |0=>a
 |i+1=>Jn (si a i) i
def wx(W:List (List MsgT))(k:Nat):Nat:=((List.range k).map λq=>if q%6=0 then 0 else(W.getD q []).length).sum
theorem rz(W:List (List MsgT))(k:Nat):wx W (k+1)=wx W k+(if k%6=0 then 0 else(W.getD k []).length):=by simp[wx,cO]
def AZ(a:CL):Nat:=wx a.W 25
def kR:Nat→CL→CL
 |0,a=>a
 |k+1,a=>if AZ a=0 then a else kR k (xi a)
def uT(a:CL):CL:=kR 400 (si a 5)
theorem HQ(a:CL):kR (400-0) (si a 5)=uT a:=by unfold uT;rw[RS]
def dp(a:CL):Nat→CL
 |0=>a
 |k+1=>uT (dp a k)
theorem JA{a:CL}{i j:Nat}(h:i≠j):tI a i (j+1)=(oM (tI a i j) (Lo 5 ((i:Nat):Int) ((j:Nat):Int))).1:=by
 show tx _ i j=_;unfold tx;rw[if_neg h]
theorem JB{a:CL}{i j:Nat}(h:i=j):tI a i (j+1)=tI a i j:=by
 show tx _ i j=_;unfold tx;rw[if_pos h]
theorem tt{k:Nat}(h:k<400)(d:CL):kR (400-k) d=if AZ d=0 then d else kR (400- (k+1)) (xi d):=by
 rw[show 400-k=(400- (k+1))+1 by omega];rfl
theorem Bc{k:Nat}(h: ¬k<400)(d:CL):kR (400-k) d=d:=by
 rw[show 400-k=0 by omega];rfl
section
variable {n:Nat} {a:CL}
theorem CLOk.step(h:CLOk n a)(i j:Nat):CLOk n (tx a i j):=by
 unfold tx;split
 · exact h
 · exact F1 h (BA ..) (by show ¬((0:Int)≤5∧(5:Int)≤4);omega)
theorem CLOk.tik(h:CLOk n a)(i:Nat):CLOk n (Jn a i):=F1 h (BA ..) (by show ¬((0:Int)≤8∧(8:Int)≤4);omega)
theorem CLOk.rows(h:CLOk n a)(i:Nat): ∀j,CLOk n (tI a i j)
 |0=>h
 |j+1=>(CLOk.rows h i j).step i j
theorem CLOk.sweepTo(h:CLOk n a): ∀i,CLOk n (sweepTo a i)
 |0=>h
 |i+1=>(CLOk.sweepTo h i).rows i 5
theorem CLOk.ticks(h:CLOk n a): ∀i,CLOk n (si a i)
 |0=>h
 |i+1=>(CLOk.ticks h i).tik i
theorem CLOk.sweeps: ∀(k:Nat) {a:CL},CLOk n a→CLOk n (kR k a)
 |0,_,h=>h
 |k+1,a,h=>by
  unfold kR;split
  · exact h
  · exact CLOk.sweeps k (h.sweepTo 5)
theorem CLOk.settle(h:CLOk n a): ∀k,CLOk n (dp a k)
 |0=>h
 |k+1=>by
  rw[dp,uT];exact CLOk.sweeps 400 ((CLOk.settle h k).ticks 5)
theorem CLOk.len(h:CLOk n a): ∀k,wx a.W k≤8*k
 |0=>aK _
 |k+1=>by
  rw[rz];have:=CLOk.len h k;have:=(h.way k).1;split<;>omega
end
end Api
namespace Go.Proofs.YtkhjnolhhidecaaGreatDoor
open Go Leg Codec Api Dsk Wal
theorem sF(W:List (List MsgT)): ∀k,k≤25→mF (da W) k=wx W k
 |0,_=>rfl
 |k+1,h=>by
  rw[sG,rz,sF W k (by omega),oq W (by omega),cn]
theorem EY{n:Nat}{a:CL}(h:CLOk n a): ∀k,k<25→mF (da a.W) k+((da a.W).getD k []).length≤1000000000:=λk hk=>by
 rw[sF a.W k (by omega),oq a.W hk,cn];have:=h.len k;have:=(h.way k).1;omega
theorem CG(c n:Nat)(a:CL)(h:CLOk n a)(hn:n≤100000):
 DT 31 #[(.pointer (some ⟨c,0,none⟩))] T0 [fX c a] (dG (λ_ H=>H=[fX c (xi a)])):=by
 refine BD 20 Tryz.func31 rfl rfl rfl λw0 F hF=>sr λ_ J1=>PS ?_
 refine nx J1 (am ?_)
 refine bG (α:=(Nat)) (λi=>i≤5) (λi=>[(0,(.pointer (some ⟨c,0,none⟩))),(4,(.int .i64 (((i:Nat):Int))))]) (λi=>[fX c (sweepTo a i)]) (λi=>5-i) 0
  (aP _) SB
  (λ_ s=>s) (λi hinv=>?_)
 obtain hi:=hinv;refine sr λ_ J2=>PS ?_
 refine ap ?_ ?_<;>intro h5;refine nx J2 (aa λ_ J3=>CY (qx J3 (aa λ_ J4=>am (sr λ_ J5=>P2 ?_))));refine nx J5 (sr λ_ J6=>PS ?_);refine nx J6 (am ?_)
 refine bG (α:=(Nat)) (λj=>j≤5) (λj=>[(0,(.pointer (some ⟨c,0,none⟩))),(2,(.int .i64 (((i:Nat):Int)))),(4,(.int .i64 (((i:Nat):Int)))),(7,(.int .i64 (((j:Nat):Int))))]) (λj=>[fX c (tI (sweepTo a i) i j)]) (λj=>5-j) 0
  (aP _) SB
  (λ_ s=>s) (λj hinv=>?_)
 obtain hj:=hinv;refine sr λ_ J7=>PS ?_
 refine ap ?_ ?_<;>intro h8;refine nx J7 (aa λ_ J8=>CY (qx J8 (aa λ_ J9=>am (sr λ_ J10=>P2 ?_))));refine nx J10 (sr λ_ J11=>P3 ?_);refine ap ?_ ?_<;>intro h12;refine nx J11 (CY (ac (P3 ?_)));refine tp (ku OpT.zero (OpT.mk 5 ((i:Nat):Int) ((j:Nat):Int) 0 0 ChangeT.zero 0 0 0) [(0,[Value.int .i64 5]),(1,[Value.int .i64 ((i:Nat):Int)]),(2,[Value.int .i64 ((j:Nat):Int)])] eZ gV (g:=OpT.sg)) ?_;refine CE Lq (kG (c:=c) (o:=(Lo 5 ((i:Nat):Int) ((j:Nat):Int))) ((h.sweepTo i).rows i j) hn (BA ..)) ID ?_;refine au (af (ad J9 (ac (AD ?_))));refine PS ?_;refine au ?_
 exact aL ((j+1):(Nat)) (by omega) (by show 5- (j+1)<5-j;omega)
  SB
  (λ_ s=>by rw[JA (by omega)];exact s)
 refine nx J11 (CN (aR (af (ad J9 (ac (AD ?_))))));refine PS ?_;refine au ?_
 exact aL ((j+1):(Nat)) (by omega) (by show 5- (j+1)<5-j;omega)
  SB
  (λ_ s=>by rw[JB (by omega)];exact s)
 refine nx J7 (aa λ_ J12=>CN (aW (aA (aA (bq (af (ad J4 (ac (AD ?_)))))))));refine PS ?_;refine au ?_
 exact aL ((i+1):(Nat)) (by omega) (by show 5- (i+1)<5-i;omega)
  SB
  (λ_ s=>by rw[show j=5 by omega]at s;exact s)
 exact nx J2 (aa λ_ J13=>CN (aW (aA (aA (bq (aE (H':=[fX c (xi a)]) (dN _) (λ_ s=>by rw[show i=5 by omega]at s;exact s) (bC rfl rfl)))))))
theorem nh(c n:Nat)(a:CL)(h:CLOk n a)(hn:n≤100000)(rounds:Nat)(hrd:rounds≤1000):
 DT 10 #[(.pointer (some ⟨c,0,none⟩)),(.int .i64 (((rounds:Nat):Int)))] T0 [fX c a] (dG (λ_ H=>H=[fX c (dp a rounds)])):=by
 refine BD 36 Tryz.func10 rfl rfl rfl λw0 F hF=>aa λ_ J1=>sr λ_ J2=>PS ?_
 refine tp (gA rfl On rfl rfl) ?_;refine nx J2 (CN (qx J1 (sr λ_ J3=>PS ?_)));refine nx J3 (am ?_)
 refine bG (α:=(Nat)) (λm=>m≤rounds) (λm=>[(0,(.pointer (some ⟨c,0,none⟩))),(1,(.int .i64 (((rounds:Nat):Int)))),(4,(.int .i64 (((m:Nat):Int))))]) (λm=>[fX c (dp a m)]) (λm=>rounds-m) 0
  (aP _) SB
  (λ_ s=>s) (λm hinv=>?_)
 obtain hm:=hinv;refine aa λ_ J4=>sr λ_ J5=>P3 ?_
 refine ap ?_ ?_<;>intro h11;refine nx J5 (CY (qx J4 (aa λ_ J6=>am (aa λ_ J7=>sr λ_ J8=>PS ?_))));refine nx J8 (am ?_)
 refine bG (α:=(Nat)) (λi=>i≤5) (λi=>[(0,(.pointer (some ⟨c,0,none⟩))),(1,(.int .i64 (((rounds:Nat):Int)))),(4,(.int .i64 (((m:Nat):Int)))),(14,(.int .i64 (((i:Nat):Int))))]) (λi=>[fX c (si (dp a m) i)]) (λi=>5-i) 0
  (aP _) SB
  (λ_ s=>s) (λi hinv=>?_)
 obtain hi:=hinv;refine sr λ_ J9=>PS ?_
 refine ap ?_ ?_<;>intro h15;refine nx J9 (aa λ_ J10=>CY (qx J10 (aa λ_ J11=>am (sr λ_ J12=>P2 ?_))));refine nx J12 (ac (P2 ?_));refine tp (ku OpT.zero (OpT.mk 8 ((i:Nat):Int) 0 0 0 ChangeT.zero 0 0 0) [(0,[Value.int .i64 8]),(1,[Value.int .i64 ((i:Nat):Int)])] eZ gV (g:=OpT.sg)) ?_;refine CE Lq (kG (c:=c) (o:=(Lo 8 ((i:Nat):Int) 0)) ((h.settle m).ticks i) hn (BA ..)) ID ?_;refine au (af (ad J11 (ac (AD ?_))));refine PS ?_;refine au ?_
 exact aL ((i+1):(Nat)) (by omega) (by show 5- (i+1)<5-i;omega)
  SB
  (λ_ s=>s)
 refine nx J9 (aa λ_ J13=>CN (aW (aA (aA (bq (ad J7 (sr λ_ J14=>PS ?_)))))));refine nx J14 (am ?_)
 refine bG (α:=(Nat)×(CL)) (λ⟨k,d⟩=>k≤400∧CLOk n d∧kR (400-k) d=uT (dp a m)) (λ⟨k,d⟩=>[(0,(.pointer (some ⟨c,0,none⟩))),(1,(.int .i64 (((rounds:Nat):Int)))),(4,(.int .i64 (((m:Nat):Int)))),(6,(.int .i64 (((k:Nat):Int))))]) (λ⟨k,d⟩=>[fX c d]) (λ⟨k,d⟩=>400-k) (0,si (dp a m) i)
  ⟨aP _,(h.settle m).ticks i,by rw[show i=5 by omega];exact HQ _⟩ SB
  (λ_ s=>s) (λ⟨k,d⟩ hinv=>?_)
 obtain⟨hk,hd,hs⟩:=hinv;refine aa λ_ J15=>sr λ_ J16=>P2 ?_
 refine ap ?_ ?_<;>intro h23;refine P3 ?_;refine FA 0 qj A8 ?_;refine Np (H':=λg:CX=>[aj c (fh g.n (nv g) (kF d g.r) g.p) 56,eT 106 169 5 g.n (da d.W),bR ((List.range 5).map λi=>lH (d.at' i) (g.d i) (g.r i) (g.p i))]) (λ_ s=>fH s) (λg=>LT 0 K9 (.pointer (some ⟨g.n,0,none⟩)) ?_ (hc:=by exact B2 g.n (nv g) (kF d g.r) g.p));refine CE Q6 (DQ g.n (da d.W) (EY hd)) (SM [1]) ?_;rw[sF d.W 25 (aK _)];change TL _ _ _ _ _ _ _ _ _ [eT 106 169 5 g.n (da d.W),aj c (fh g.n (nv g) (kF d g.r) g.p) 56,bR ((List.range 5).map λi=>lH (d.at' i) (g.d i) (g.r i) (g.p i))];refine ci (H':=[fX c d]) (λ_ s=>bw (p:=qU c d) (H:=[]) g (aD [1,0,0] rfl s)) (PS ?_);refine ap ?_ ?_<;>intro h30;refine PS ?_;refine nx J16 (CY (qx J15 (aa λ_ J17=>am (ac (PS ?_)))));refine CZ Q5 (CG c n d hd hn) ID λvR=>?_
 refine au (af (ad J17 (ac (PS ?_))));refine AD ?_;refine PS ?_;refine au ?_
 exact aL ((k+1,xi d):(Nat)×(CL)) ⟨by omega,hd.sweepTo 5,by rw[tt (by omega),if_neg (by unfold AZ at*;omega)]at hs;exact hs⟩ (by show 400- (k+1)<400-k;omega)
  SB
  (λ_ s=>s)
 have hfin:d=dp a (m+1):=by rw[tt (by omega),if_pos (by unfold AZ at*;omega)]at hs;exact hs
 refine PS ?_;refine nx J16 (CN (aW (aA (aA (bq (af (ad J6 (ac (PS ?_)))))))));refine AD ?_;refine PS ?_;refine au ?_
 exact aL ((m+1):(Nat)) (by omega) (by show rounds- (m+1)<rounds-m;omega)
  SB
  (λ_ s=>by rw[hfin]at s;exact s)
 have hfin:d=dp a (m+1):=by rw[Bc (by omega)]at hs;exact hs
 refine PS ?_
 iterate 6 refine UF ?_
 refine PS ?_;refine nx J16 (CN (aW (aA (aA (bq (af (ad J6 (ac (PS ?_)))))))));refine AD ?_;refine PS ?_;refine au ?_
 exact aL ((m+1):(Nat)) (by omega) (by show rounds- (m+1)<rounds-m;omega)
  SB
  (λ_ s=>by rw[hfin]at s;exact s)
 exact nx J5 (CN (aW (aA (aA (bq (aE (H':=[fX c (dp a rounds)]) (dN _) (λ_ s=>by rw[show m=rounds by omega]at s;exact s) (bC rfl rfl)))))))
end Go.Proofs.YtkhjnolhhidecaaGreatDoor
end

section
namespace Leg
open Go
theorem Bf(bs:List UInt8):Lib.strCells ⟨bs.toArray⟩=dX bs:=by simp[Lib.strCells,dX]
theorem tw(bs:List UInt8):(⟨bs.toArray⟩:ByteArray).size=bs.length:=by simp[ByteArray.size]
section
variable {P:Program} {w0:World} {F:Hl} {n:Nat} {ops:Array Oper} {Q:QQ} {D:List Deferred} {L:List (Nat×Value)} {H:List HP} {o:Oper} {l:List Oper} {d:Nat} {S:World→Prop}
theorem Dn{w:World}{k nn:Nat}{v:Value}{xs:List Value}{bs:List UInt8}{t u ty e:Nat}(s:Sat H F w)(ht:P.underlying t=some (.slice e))(hu:P.underlying u=some .string)
 (hi:(P.info? e).map (λi=>(i.zero,i.size,i.bytes))=some (some (.int .u8 0),1,1)) (hk:k<H.length) (hH:H.getD k (λ_=>True)=own v nn xs e 1) (hb:nn+bs.length≤maxLen) (hby:nn+bs.length≤140737488355328):
 ∃v' w',(Builtin.append_ #[t,u] ty #[v,kX bs]).run P w= .ok v' w'∧Same w w'∧Sat (H.set k (own v' (nn+bs.length) (xs++dX bs) e 1)) F w':=by
 obtain⟨i,hie,hz0,hs1,hb1⟩:=info_parts hi;have hlx:=s.own_len hk hH;have hsz:=tw bs;have hsc:=Bf bs;have hll:(xs++dX bs).length=(nn+bs.length)*1:=by rw[ag,hlx,bo,fP];omega
 have hsmall:nn+bs.length≤9223372036854775807:=by simp only[maxLen]at hb;omega
 have hz1:(Value.int IntKind.u8 0).cells.size=1:=rfl
 have fresh: ∀old,old<nn+bs.length→(∀h,yM w.heap.size (.cells (xs.toArray++(dX bs).toArray++Builtin.zeroCells (Value.int .u8 0).cells (grownCap w (nn+bs.length) old e- (nn+bs.length))) e) h→
  own (.slice (some ⟨w.heap.size,0,none⟩) (nn+bs.length) (grownCap w (nn+bs.length) old e)) (nn+bs.length) (xs++dX bs) e 1 h):=λold _ h hh=>by
  have hge:=grownCap_ge w (nn+bs.length) old e;refine⟨hll, .inr ⟨_,_,_,rfl,hh,hge,grownCap_le_maxLen w (nn+bs.length) old e hb,?_,?_⟩⟩
  · simp only[Array.size_append,List.size_toArray,size_zeroCells,hz1,hlx,bo]
    omega
  · simp only[Array.toList_append,aG]
    rw[←aG,←hll];exact mO
 have same: ∀ob,Same w (w.drew.alloc ob):=λob=>⟨rfl,rfl,rfl,by simp⟩
 have u0:bs.length=0→dX bs=[]:=λhm=>List.eq_nil_of_length_eq_zero (by rw[bo];exact hm)
 rcases s.own_form hk hH with⟨rfl,rfl,rfl⟩| ⟨g,cap,rfl⟩
 · by_cases hm:bs.length=0
   · have hn:=u0 hm
     refine⟨.slice none 0 0,w,?_,qc w,s.turn k hk (λh hh=>by rw[hH]at hh;rw[hm,hn];simpa using hh)⟩;have hf:=Lib.run_firstCells_string (P:=P) w 1 ⟨bs.toArray⟩;rw[hsz,hm]at hf;simp[Builtin.append_,run_underlying ht,run_underlying hu,Go.sizeOf,typeInfo,hie,hs1,Builtin.lenOf,hsz,hm,hf]
   · have hr:=run_append_nil_string (P:=P) w t u ty e i (.int .u8 0) ht hu hie hz0 ⟨bs.toArray⟩ (by rw[hsz];omega) (by rw[hsz];omega) (by rw[hsz,hb1];omega)
     have e1:((⟨bs.toArray⟩:ByteArray).data.map λb=>Value.int .u8 b.toNat)=(dX bs).toArray:=by
      rw[←hsc];apply Array.ext';simp[Lib.strCells]
     rw[e1,hsz]at hr;refine⟨_,_,hr,same _,?_⟩;have:=fresh 0 (by omega);simp only[bm,ba,Array.empty_append]at this ⊢;exact P7 k hk (s.drew.alloc _) this
 · obtain⟨cur,hH1,hnc,hcm,hcs,htake⟩:=s.own_open hk hH
   have hlen:k< (H.set k (yM g (.cells cur e (0,0)))).length:=by simpa using hk
   have hg:=hH1.block k hlen (fW hk _);have hcs':cur.size=cap:=by simpa using hcs
   by_cases hroom:nn+bs.length≤cap
   · have hr:=Lib.run_append_room_string (P:=P) w t u ty e i ht hu hie hs1 g nn cap cur hg ⟨bs.toArray⟩ (by rw[hsz];exact hroom) (by rw[hsz];omega)
     rw[hsz,hsc]at hr;have h2:=hH1.write k hlen (fW hk _) (setRow_heap w g cur (cur.toList.take nn++dX bs++cur.toList.drop (nn+bs.length)).toArray e _ hg) (λj hj=>setRow_other w g j _ hj);rw[ie]at h2
     have h3:=h2.turn (q:=own (.slice (some ⟨g,0,none⟩) (nn+bs.length) cap) (nn+bs.length) (xs++dX bs) e 1) k (by simpa using hk) (λh hh=>by
      rw[fW hk]at hh;refine⟨hll, .inr ⟨g,cap,_,rfl,hh,hroom,hcm,?_,?_⟩⟩
      · simp only[List.size_toArray,ag,bB,bV,Array.length_toList,bo]
        omega
      · have ht':cur.toList.take nn=xs:=by simpa using htake
        rw[ht',←hll]
        exact mO)
     rw[ie]at h3;exact⟨_,_,hr,⟨rfl,rfl,rfl,by simp⟩,h3⟩
   · have holds: ∀j u,xs[j]?=some u→w.cell? ((⟨g,0,none⟩:Addr).add j)=some u:=λj u hj=>by
      rw[qY];subst htake;rw[List.getElem?_take]at hj;split at hj
      · simpa [World.cell?,hg]using hj
      · cases hj
     have hr:=Lib.run_append_grow_string (P:=P) w t u ty e i (.int .u8 0) ht hu hie hz0 ⟨g,0,none⟩ nn cap xs (by rw[hs1];simpa using hlx) holds ⟨bs.toArray⟩ (by rw[hsz];omega) (by rw[hsz];omega) (by rw[hsz,hb1];exact growslice_fits (by omega) (by omega));rw[hsz,hsc]at hr;exact⟨_,_,hr,same _,P7 k hk (s.drew.alloc _) (fresh cap (by omega))⟩
theorem TL.appendT{s x:Operand}{k:Nat}{v:Value}{bs ys:List UInt8}{t u e:Nat}(hw:Want n D ops o L)
 (ho:o.op= .call {callee:= .builtin .append,args:=#[s,x],argTypes:=#[t,u]}) (hd:o.dst=some d) (hn:Nat.blt d n=true) (ht:P.underlying t=some (.slice e)) (hu:P.underlying u=some .string)
 (hi:(P.info? e).map (λi=>(i.zero,i.size,i.bytes))=some (some (.int .u8 0),1,1)) (hs:cR L s=some v) (hx:cR L x=some (kX ys))
 (hk:Nat.blt k H.length=true) (hH:H.getD k (λ_=>True)=cH v bs e) (hb:bs.length+ys.length≤maxLen) (hby:bs.length+ys.length≤140737488355328)
 (h: ∀v',v'.oneCell'=true→TL P w0 F n ops Q l D ((d,v')::L) (H.set k (cH v' (bs++ys) e))):TL P w0 F n ops Q (o::l) D L H:=
 lr hw λa w f sm q=>by
  obtain⟨v',w',hr,s',q'⟩:=Dn (ty:=o.type) (bs:=ys) q ht hu hi (lb hk) hH hb hby
  have e2:own v' (bs.length+ys.length) (dX bs++dX ys) e 1=cH v' (bs++ys) e:=by
   unfold cH;rw[ag,gE]
  have one:v'.oneCell'=true:=by
   rcases q'.own_form (i:=k) (by simpa using lb hk) (fW (lb hk) _)with⟨rfl,_⟩| ⟨g,c,rfl⟩<;>rfl
  rw[e2]at q';unfold Oper.wp execOp;simp only[ho,resolve,invoke,builtin,Sem.run_bind,Sem.run_pure,Result.andThen_ok,qf,fe,m8,f.eval hs,f.eval hx,hr];rw[Oper.upon_value,hd];exact h v' one _ w' (f.put (lb hn) v') (sm.trans s') q'
end
section
variable {P:Program} {w0:World} {F:Hl} {n:Nat} {ops:Array Oper} {Q:QQ} {D:List Deferred} {L:List (Nat×Value)} {H:List HP} {o:Oper} {l:List Oper} {d:Nat} {S:World→Prop}
theorem IE{w:World}{g:Nat}{cur:Array Value}{e:TypeId}(hg:w.heap[g]?=some (.cells cur e (0,0))){m:Nat}(hm:0<m):(w.freeze ⟨g,0,none⟩ m).heap[g]?=some (.cells cur e (0,m))∧(∀j,j≠g→(w.freeze ⟨g,0,none⟩ m).heap[j]?=w.heap[j]?)∧Same w (w.freeze ⟨g,0,none⟩ m):=by
 unfold World.freeze;rw[if_neg (by omega)];refine⟨?_,λj hj=>?_,⟨rfl,rfl,rfl,by simp⟩⟩
 · simp only[Array.getElem?_modify,hg]
   simp
 · simp only[Array.getElem?_modify]
   rw[if_neg (λe=>hj e.symm)]
theorem TL.unsafeStr{x y:Operand}{k g cap:Nat}{bs:List UInt8}{pt it e:TypeId}(hw:Want n D ops o L)(ho:o.op= .call {callee:= .builtin .unsafeString,args:=#[x,y],argTypes:=#[pt,it]})(hd:o.dst=some d)(hn:Nat.blt d n=true)
 (hp:P.underlying pt=some (.pointer e)) (hc:P.cellsOf e=1) (hx:cR L x=some (.pointer (some ⟨g,0,none⟩))) (hy:cR L y=some (.int .i64 ((bs.length:Nat):Int)))
 (hk:Nat.blt k H.length=true) (hH:H.getD k (λ_=>True)=cH (.slice (some ⟨g,0,none⟩) bs.length cap) bs e) (h0:0<bs.length) (h63:bs.length≤9223372036854775807)
 (h:TL P w0 F n ops Q l D ((d,kX bs)::L) (H.set k (λ_=>True))):TL P w0 F n ops Q (o::l) D L H:=
 lr hw λa w f sm q=>by
  obtain⟨cur,hH1,hnc,hcm,hcs,htake⟩:=q.own_open (lb hk) hH;have hlen:k< (H.set k (yM g (.cells cur e (0,0)))).length:=by simpa using lb hk
  have hg:=hH1.block k hlen (fW (lb hk) _);have hcs':cur.size=cap:=by simpa using hcs
  have hcell: ∀j x,bs[j]?=some x→w.cell? ((⟨g,0,none⟩:Addr).add j)=some (.int .u8 x.toNat):=λj x hj=>by
   rw[qY];have hj':(dX bs)[j]?=some (.int .u8 ((x.toNat:Nat):Int)):=by simp[dX,hj]
   rw[←htake,List.getElem?_take]at hj';split at hj'
   · simpa [World.cell?,hg]using hj'
   · cases hj'
  have hr:=Lib.run_unsafeString_row (P:=P) w pt it o.type e hp hc g cur.size (by simp[World.shape?,hg]) bs (λe=>by rw[e]at h0;exact absurd h0 (by decide)) (by omega) h63 hcell;obtain⟨h1,h2,h3⟩:=IE hg h0;have q':=hH1.write k hlen (fW (lb hk) _) h1 h2;rw[ie]at q';have q2:=q'.turn (q:=λ_=>True) k (by simpa using lb hk) (λ_ _=>trivial);rw[ie]at q2;unfold Oper.wp execOp;simp only[ho,resolve,invoke,builtin,Sem.run_bind,Sem.run_pure,Result.andThen_ok,qf,fe,m8,f.eval hx,f.eval hy,hr];rw[Oper.upon_value,hd];exact h _ _ (f.put (lb hn) (kX bs)) (sm.trans h3) q2
theorem PV.sliceData{t:TypeId}{x:Operand}{g m cap:Nat}(ho:o.op= .call {callee:= .builtin .unsafeSliceData,args:=#[x],argTypes:=#[t]})(hx:cR L x=some (.slice (some ⟨g,0,none⟩) m cap))(hc:0<cap):PV P n D L S o (.pointer (some ⟨g,0,none⟩)):=λa w f _=>by
 have:=Lib.run_unsafeSliceData_row (P:=P) (w:=w) #[t] o.type ⟨g,0,none⟩ m cap (by omega);simp[execOp,ho,resolve,invoke,builtin,f.eval hx,this]
end
section
variable {P:Program} {w0:World} {F:Hl} {n:Nat} {ops:Array Oper} {Q:QQ} {D:List Deferred} {L:List (Nat×Value)} {H:List HP} {o:Oper} {l:List Oper} {d:Nat} {S:World→Prop}
theorem Gx(bs:List UInt8)(a b:Nat):(⟨bs.toArray⟩:ByteArray).extract a b=⟨((bs.take b).drop a).toArray⟩:=by
 apply ByteArray.ext;simp[ByteArray.data_extract,kO]
theorem PV.strSlice{t:TypeId}{x y z:Operand}{bs:List UInt8}{lo hi:Nat}{k k':IntKind}{i j:Int}(ho:o.op= .slice t x (some y) (some z) none)(ht:P.underlying t=some .string)(hx:cR L x=some (kX bs))(hy:cR L y=some (.int k i))(hz:cR L z=some (.int k' j))
 (hi':i=(lo:Int)) (hj:j=(hi:Int)) (h1:lo≤hi) (h2:hi≤bs.length):PV P n D L S o (kX ((bs.take hi).drop lo)):=
 λb w g _=>by
  subst hi';subst hj;simp only[execOp,ho,g.eval hx,Option.map_some,Option.map_none,g.eval hy,g.eval hz];have hs:=tw bs;simp[Instr.sliceAt,Instr.slice,run_underlying ht,Instr.sliceBounds,Instr.sliceBound,asIntOf,hs,h1,h2,Gx]
theorem PV.strTo{t:TypeId}{x z:Operand}{bs:List UInt8}{hi:Nat}{k':IntKind}{j:Int}(ho:o.op= .slice t x none (some z) none)(ht:P.underlying t=some .string)(hx:cR L x=some (kX bs))(hz:cR L z=some (.int k' j))(hj:j=(hi:Int))(h2:hi≤bs.length):PV P n D L S o (kX (bs.take hi)):=
 λb w g _=>by
  subst hj;simp only[execOp,ho,g.eval hx,Option.map_some,Option.map_none,g.eval hz];have hs:=tw bs;simp[Instr.sliceAt,Instr.slice,run_underlying ht,Instr.sliceBounds,Instr.sliceBound,asIntOf,hs,h2,Gx]
theorem PV.strLen{t:TypeId}{x:Operand}{bs:List UInt8}(ho:o.op= .call {callee:= .builtin .len,args:=#[x],argTypes:=#[t]})(ht:P.underlying t=some .string)(hx:cR L x=some (kX bs)):PV P n D L S o (.int .i64 ((bs.length:Nat):Int)):=λb w g _=>by
 have hs:=tw bs;simp[execOp,ho,resolve,g.eval hx,invoke,builtin,Builtin.len_,run_underlying ht,goInt,hs]
theorem PV.toUnsafe{t t' u e:TypeId}{x:Operand}{b j m:Nat}{cs:List Value}{z:Nat×Nat}(ho:o.op= .convert t t' x)(ht:P.underlying t=some (.pointer u))(ht':P.underlying t'=some .unsafePointer)(hs:(P.info? u).map (·.size)=some (m+1))(hx:cR L x=some (.pointer (some ⟨b,j,none⟩)))
 (hR:Rd S b (.cells cs.toArray e z)) (hj:j<cs.length):PV P n D L S o (.pointer (some ⟨b,j,none⟩)):=λa w g q=>by
 obtain⟨i,hu,hi0⟩:=Option.map_eq_some_iff.1 hs;have hi:i.size≠0:=by rw[hi0];exact Nat.succ_ne_zero m
 have hb:=hR w q;have:=Lib.run_to_unsafe (P:=P) w ⟨b,j,none⟩ ht ht' hu hi (e:=e) (cells:=cs.length) (by simp[World.shape?,hb]) hj;simp[execOp,ho,g.eval hx,this]
theorem PV.ofUnsafe{t t' u e:TypeId}{x:Operand}{b j k:Nat}{cs:List Value}{z:Nat×Nat}(ho:o.op= .convert t t' x)(ht:P.underlying t=some .unsafePointer)(ht':P.underlying t'=some (.pointer u))(hs:(P.info? u).map (·.size)=some k)(hx:cR L x=some (.pointer (some ⟨b,j,none⟩)))
 (hR:Rd S b (.cells cs.toArray e z)) (hl:liesAt P P.depth e (cs.length / P.cellsOf e) j u 1=true):PV P n D L S o (.pointer (some ⟨b,j,none⟩)):=λa w g q=>by
 obtain⟨i,hu,_⟩:=Option.map_eq_some_iff.1 hs;have hb:=hR w q;have:=Lib.run_from_unsafe (P:=P) w ⟨b,j,none⟩ ht ht' hu (e:=e) (cells:=cs.length) (by simp[World.shape?,hb]) hl;simp[execOp,ho,g.eval hx,this]
theorem PV.ptrNeqSame{t t' te k:TypeId}{x y:Operand}{a:Addr}(ho:o.op= .binOp .neq t x y t')(ht:P.underlying t=some (.pointer te))(hs:(P.info? te).map (·.size)=some k)(hx:cR L x=some (.pointer (some a)))(hy:cR L y=some (.pointer (some a))):PV P n D L S o (.bool false):=
 gN ho hx hy (λw=>by
  obtain⟨i,hi,_⟩:=Option.map_eq_some_iff.1 hs;have:=Lib.run_neq_ptr_same (P:=P) w a ht hi
  simpa [eqGuard]using this)
theorem PV.noEscape {f : FuncId} {fn : Func} {x : Operand} {ts : Array TypeId} {v : Value} (ho : o.op = .call { callee := .value (.func f), args := #[x], argTypes := ts }) (hf : P.funcs[f]? = some fn) (hname : (fn.name == "runtime.NumGoroutine") = false) (hb : fn.body.isNone = true) (hn : Extern.findNext fn = none)
 (he:Extern.find fn=some Extern.AbiNoEscape.same) (hx:cR L x=some v):PV P n D L S o v:=λa w g _=>by
 have h:=run_callFunc_extern hf hname hb hn he #[v] w;rw[Lib.run_noEscape]at h;have hr:(callFunc f #[v]).run P w= .ok (.value v) w:=h;have e:(#[x].map a.eval)=#[v]:=by simp[g.eval hx]
 simp only[execOp,ho,resolve];rw[e];simp[Act.eval,Deferred.ofValue,invoke,hr]
end
end Leg
end

section
namespace Go.Proofs.YtkhjnolhhidecaaGreatDoor
open Go Leg Codec Api Dsk Wal
theorem M3:NM 160:=nk Tryz.func160
theorem Kg:NM 130:=nk Tryz.func130
theorem QN:NM 83:=nk Tryz.func83
theorem M9:NM 124:=nk Tryz.func124
theorem Po:NM 159:=nk Tryz.func159
theorem Pk:NM 176:=nk Tryz.func176
theorem Pi:NM 181:=nk Tryz.func181
theorem wC(t c:Nat)(v:Value):
 DT 160 #[(.pointer (some ⟨t,1,none⟩))] T0 [aj t [(.pointer (some ⟨c,0,none⟩)),(.pointer none),v] 163] (dG (λ_ H=>H=[aj t [(.pointer (some ⟨c,0,none⟩)),(.pointer (some ⟨t,1,none⟩)),v] 163])):=by
 refine BD 20 Tryz.func160 rfl rfl rfl λw0 F hF=>sr λ_ J1=>P2 ?_
 refine FA 1 zj CC ?_;refine LA 0 EG ?_;refine tp (RR rfl EG rfl rfl) ?_;refine nx J1 (CY (ac (P2 ?_)));refine tp (PV.toUnsafe rfl EG Tryz.underlying252 xh rfl (RO 0) (lb rfl)) ?_;refine tp (PV.noEscape rfl Tryz.func177 rfl rfl rfl rfl rfl) ?_;refine tp (PV.ofUnsafe rfl Tryz.underlying252 EG xh rfl (RO 0) (by kernel_rfl)) ?_;refine PS ?_;refine FA 1 zj CC ?_;refine S0 0 CC ?_;exact au (WK [0] (bC rfl rfl))
theorem wA(t c:Nat)(v:Value):
 DT 160 #[(.pointer (some ⟨t,1,none⟩))] T0 [aj t [(.pointer (some ⟨c,0,none⟩)),(.pointer (some ⟨t,1,none⟩)),v] 163] (dG (λ_ H=>H=[aj t [(.pointer (some ⟨c,0,none⟩)),(.pointer (some ⟨t,1,none⟩)),v] 163])):=by
 refine BD 20 Tryz.func160 rfl rfl rfl λw0 F hF=>sr λ_ J1=>P2 ?_
 refine FA 1 zj CC ?_;refine LA 0 EG ?_;refine tp (gA rfl EG rfl rfl) ?_;refine nx J1 (CN (sr λ_ J2=>P2 ?_));refine FA 1 zj CC ?_;refine LA 0 EG ?_;refine PS ?_;refine tp (PV.ptrNeqSame rfl EG xh rfl rfl) ?_;exact nx J2 (CN (aR (WK [0] (bC rfl rfl))))
theorem Cm(t c:Nat)(v:Value)(bs ys:List UInt8)(hv:v.oneCell'=true)(hb:bs.length+ys.length≤1000000):
 DT 130 #[(.pointer (some ⟨t,1,none⟩)),(kX (ys))] T0 [aj t [(.pointer (some ⟨c,0,none⟩)),(.pointer none),v] 163,cH v (bs) 5] (dG (λ_ H=>∃v',v'.oneCell'=true∧H=[aj t [(.pointer (some ⟨c,0,none⟩)),(.pointer (some ⟨t,1,none⟩)),v'] 163,cH v' (bs++ys) 5])):=by
 refine BD 19 Tryz.func130 rfl rfl rfl λw0 F hF=>sr λ_ J1=>P2 ?_
 refine nx J1 (sr λ_ J2=>PS ?_);refine CZ M3 (wC t c v) ID λvR=>?_
 refine nx J2 (sr λ_ J3=>P3 ?_);refine FA 2 zj lF ?_;refine LA 0 fO ?_;refine PS ?_;refine TL.appendT (k:=1) (bs:=bs) (ys:=ys) (ab rfl) rfl rfl rfl fO Y9 uD rfl rfl rfl rfl (by simp only[maxLen];omega) (by omega) (λv14 ov14=>PS ?_);refine FA 2 zj lF ?_;refine bK (i:=0) (ab rfl) rfl rfl rfl rfl ov14 lF rfl rfl (lb rfl) rfl rfl (nx J3 (sr λ_ J4=>PS ?_));refine tp (PV.strLen rfl Y9 rfl) ?_;refine P2 ?_;exact nx J4 (ah (WK [0,0] (iC rfl rfl rfl ⟨_,ov14,rfl⟩)))
theorem Cl(t c:Nat)(v:Value)(bs ys:List UInt8)(hv:v.oneCell'=true)(hb:bs.length+ys.length≤1000000):
 DT 130 #[(.pointer (some ⟨t,1,none⟩)),(kX (ys))] T0 [aj t [(.pointer (some ⟨c,0,none⟩)),(.pointer (some ⟨t,1,none⟩)),v] 163,cH v (bs) 5] (dG (λ_ H=>∃v',v'.oneCell'=true∧H=[aj t [(.pointer (some ⟨c,0,none⟩)),(.pointer (some ⟨t,1,none⟩)),v'] 163,cH v' (bs++ys) 5])):=by
 refine BD 19 Tryz.func130 rfl rfl rfl λw0 F hF=>sr λ_ J1=>P2 ?_
 refine nx J1 (sr λ_ J2=>PS ?_);refine CZ M3 (wA t c v) ID λvR=>?_
 refine nx J2 (sr λ_ J3=>P3 ?_);refine FA 2 zj lF ?_;refine LA 0 fO ?_;refine PS ?_;refine TL.appendT (k:=1) (bs:=bs) (ys:=ys) (ab rfl) rfl rfl rfl fO Y9 uD rfl rfl rfl rfl (by simp only[maxLen];omega) (by omega) (λv14 ov14=>PS ?_);refine FA 2 zj lF ?_;refine bK (i:=0) (ab rfl) rfl rfl rfl rfl ov14 lF rfl rfl (lb rfl) rfl rfl (nx J3 (sr λ_ J4=>PS ?_));refine tp (PV.strLen rfl Y9 rfl) ?_;refine P2 ?_;exact nx J4 (ah (WK [0,0] (iC rfl rfl rfl ⟨_,ov14,rfl⟩)))
theorem Be(t c g cap:Nat)(bs:List UInt8)(hpos:0<bs.length)(hb:bs.length≤1000000)(hcap:0<cap):
 DT 83 #[(.pointer (some ⟨t,1,none⟩))] T0 [aj t [(.pointer (some ⟨c,0,none⟩)),(.pointer (some ⟨t,1,none⟩)),(.slice (some ⟨g,0,none⟩) (bs.length) (cap))] 163,cH (.slice (some ⟨g,0,none⟩) (bs.length) (cap)) (bs) 5] (RI (kX bs) [aj t [(.pointer (some ⟨c,0,none⟩)),(.pointer (some ⟨t,1,none⟩)),(.slice (some ⟨g,0,none⟩) (bs.length) (cap))] 163]):=by
 refine BD 14 Tryz.func83 rfl rfl rfl λw0 F hF=>sr λ_ J1=>PS ?_
 refine nx J1 (aa λ_ J2=>D1 0 df ?_);refine PD 0 ?_;refine PD 1 ?_;refine FD 2 2 zj lF ?_;refine LX 3 fO (.slice (some ⟨g,0,none⟩) (bs.length) (cap)) ?_ (hc:=by exact rfl);refine ta 4 rfl (PV.sliceData rfl rfl hcap) ?_;refine PD 5 ?_;refine PD 6 ?_;refine FD 7 2 zj lF ?_;refine LX 8 fO (.slice (some ⟨g,0,none⟩) (bs.length) (cap)) ?_ (hc:=by exact rfl);refine ta 9 rfl (q8 rfl fO rfl) ?_;refine AL 10 ?_;refine TL.unsafeStr (k:=1) (bs:=bs) (ab rfl) rfl rfl rfl Tryz.underlying213 (by kernel_rfl) rfl rfl rfl rfl hpos (by omega) (EN (PD 11 ?_));exact DN (ad J2 (ah (WK [0] (aw rfl rfl ⟨rfl,rfl⟩))))
theorem CI(t c:Nat)(v:Value)(bs:List UInt8)(hpos:0<bs.length)(hb:bs.length≤1000000):DT 83 #[.pointer (some ⟨t,1,none⟩)] T0 [aj t [(.pointer (some ⟨c,0,none⟩)),(.pointer (some ⟨t,1,none⟩)),v] 163,cH v bs 5] (RI (kX bs) [aj t [(.pointer (some ⟨c,0,none⟩)),(.pointer (some ⟨t,1,none⟩)),v] 163]):=
 Leg.Does.ex (A':=λx: {x:Nat×Nat // 0<x.2∧v= .slice (some ⟨x.1,0,none⟩) bs.length x.2}=>[aj t [(.pointer (some ⟨c,0,none⟩)),(.pointer (some ⟨t,1,none⟩)),v] 163,cH v bs 5]) (λh s=>by
  obtain⟨h1,h2,_,_,a,_⟩:=eJ 1 (lb rfl) s;obtain⟨_,⟨_,h0,_⟩| ⟨g,cap,cur,hv,_,hle,_⟩⟩:=a
  · omega
  · exact⟨⟨(g,cap),by show 0<cap;omega,hv⟩,s⟩) λ⟨x,hx,hv⟩=>by
  subst hv;exact Be t c x.1 x.2 bs hpos hb hx
def nu(n:Nat):List UInt8:=[UInt8.ofNat (48+n)]
theorem Oe{n:Nat}(hn:((n:Nat):Int)<10):(([48,49,50,51,52,53,54,55,56,57,97,98,99,100,101,102,103,104,105,106,107,108,109,110,111,112,113,114,115,116,117,118,119,120,121,122]:List UInt8).take (n+1)).drop n=nu n:=by
 match n,hn with
 |0,_|1,_|2,_|3,_|4,_|5,_|6,_|7,_|8,_|9,_=>rfl
 |k+10,h=>omega
theorem Iw(n:Nat)(hn:((n:Nat):Int)<10):
 DT 181 #[(.int .i64 (((n:Nat):Int)))] T0 [] (RI (kX (nu n)) []):=by
 refine BD 15 Tryz.func181 rfl rfl rfl λw0 F hF=>sr λ_ J1=>PS ?_
 refine nx J1 (aa λ_ J2=>sr λ_ J3=>P2 ?_);refine ap ?_ ?_<;>intro h4;refine nx J3 (CY (sr λ_ J4=>P2 ?_));refine AD ?_;refine tp (nd (PV.strSlice (bs:=[48,49,50,51,52,53,54,55,56,57,97,98,99,100,101,102,103,104,105,106,107,108,109,110,111,112,113,114,115,116,117,118,119,120,121,122]) (lo:=n) (hi:=n+1) rfl Y9 rfl rfl rfl rfl (by omega) (by omega) (by simp;omega)) (congrArg (λl:List UInt8=>kX l) (Oe hn))) ?_;refine PS ?_;exact nx J4 (ah (ae (WK [] (aw rfl rfl ⟨rfl,rfl⟩))))
 · exact absurd hn h4
theorem yj(n:Nat)(hn:((n:Nat):Int)<10):
 DT 176 #[(.int .i64 (((n:Nat):Int))),(.int .i64 10)] T0 [] (RI (kX (nu n)) []):=by
 refine BD 54 Tryz.func176 rfl rfl rfl λw0 F hF=>sr λ_ J1=>PS ?_
 refine nx J1 (aa λ_ J2=>sr λ_ J3=>P2 ?_);refine nx J3 (CY (aa λ_ J4=>sr λ_ J5=>P2 ?_));refine ap ?_ ?_<;>intro h13;refine P3 ?_;refine ap ?_ ?_<;>intro h16;refine PS ?_;refine nx J5 (CY (sr λ_ J6=>PS ?_));refine CE Pi (Iw n hn) ID ?_;refine PS ?_;exact nx J6 (ah (ae (ae (WK [] (aw rfl rfl ⟨rfl,rfl⟩)))))
 · exact absurd (show((n:Nat):Int)<100 by omega) h16
 · exact absurd (Int.natCast_nonneg n) h13
theorem FS(n:Nat)(hn:((n:Nat):Int)<10):
 DT 159 #[(.int .i64 (((n:Nat):Int)))] T0 [] (RI (kX (nu n)) []):=by
 refine BD 5 Tryz.func159 rfl rfl rfl λw0 F hF=>sr λ_ J1=>PS ?_
 refine nx J1 (sr λ_ J2=>PS ?_);refine CE Pk (yj n hn) ID ?_;refine PS ?_;exact nx J2 (ah (WK [] (aw rfl rfl ⟨rfl,rfl⟩)))
theorem At(n:Nat)(hn:((n:Nat):Int)<10):
 DT 124 #[(.int .i64 (((n:Nat):Int)))] T0 [] (RI (kX (nu n)) []):=by
 refine BD 5 Tryz.func124 rfl rfl rfl λw0 F hF=>sr λ_ J1=>PS ?_
 refine nx J1 (sr λ_ J2=>PS ?_);refine CE Po (FS n hn) ID ?_;refine PS ?_;exact nx J2 (ah (WK [] (aw rfl rfl ⟨rfl,rfl⟩)))
theorem sa(t c:Nat)(A v:Value)(bs ys:List UInt8)(hA:A= .pointer none∨A= .pointer (some ⟨t,1,none⟩))(hv:v.oneCell'=true)(hb:bs.length+ys.length≤1000000):DT 130 #[.pointer (some ⟨t,1,none⟩),kX ys] T0 [aj t [.pointer (some ⟨c,0,none⟩),A,v] 163,cH v bs 5] (dG (λ_ H=>∃v',v'.oneCell'=true∧H=[aj t [.pointer (some ⟨c,0,none⟩), .pointer (some ⟨t,1,none⟩),v'] 163,cH v' (bs++ys) 5])):=by
 rcases hA with rfl|rfl
 · exact Cm t c v bs ys hv hb
 · exact Cl t c v bs ys hv hb
def vm(n:Int):List UInt8:=nu n.toNat
theorem FR(n:Int)(h0:0≤n)(h1:n<10):DT 124 #[.int .i64 n] T0 [] (RI (kX (vm n)) []):=by
 obtain⟨m,rfl⟩:=Int.eq_ofNat_of_zero_le h0;exact At m h1
def nU(l:List Int):List UInt8:=l.flatMap λn=>32::vm n
def vV(ws:List UInt8)(l:List Int):List UInt8:=ws++nU l++[10]
theorem ru: ∀l,(nU l).length=2*l.length
 | []=>rfl
 |n::l=>by
  have:=ru l;show(32::vm n++nU l).length=_;simp only[ag,av,vm,nu,az];omega
theorem Fz(l:List Int){k:Nat}(h:k<l.length):nU (l.take (k+1))=nU (l.take k)++([32]++vm (l.getD k 0)):=by
 unfold nU;rw[bZ h,nA];simp[List.getD_eq_getElem?_getD,h]
theorem List.getD_mem'{l:List Int}{k:Nat}(h:k<l.length):l.getD k 0∈l:=by
 rw[List.getD_eq_getElem?_getD,List.getElem?_eq_getElem h];exact ez h
theorem vc(t c:Nat)(A v x:Value)(bs ws:List UInt8)(l:List Int)(hA:A= .pointer none∨A= .pointer (some ⟨t,1,none⟩))(hv:v.oneCell'=true)(hd: ∀n∈l,0≤n∧n<10)(hb:bs.length+ws.length+2*l.length+1≤1000000):
 DT 82 #[(.pointer (some ⟨t,0,none⟩)),(kX (ws)),x] (IsI .i64 x l) [aj t [(.pointer (some ⟨c,0,none⟩)),A,v] 163,cH v (bs) 5] (dG (λ_ H=>∃v',v'.oneCell'=true∧H=[aj t [(.pointer (some ⟨c,0,none⟩)),(.pointer (some ⟨t,1,none⟩)),v'] 163,cH v' (bs++vV ws l) 5])):=by
 refine BD 31 Tryz.func82 rfl rfl rfl λw0 F hF=>sr λ_ J1=>P2 ?_
 refine FA 1 Gq xh ?_;refine PS ?_;refine CR Kg (sa t c A v (bs) (ws) hA hv (by first|omega| (simp only[ag,av,az,ru,bB,vm,nu];omega))) ID λvR HR hR=>?_
 obtain⟨w1,hw1,rfl⟩:=hR;refine nx J1 (aa λ_ J2=>sr λ_ J3=>PS ?_);refine tp (dO rfl eh rfl hF.len) ?_;refine PS ?_;refine nx J3 (am ?_)
 refine bG (α:=(Nat)×(Value)) (λ⟨k,v2⟩=>k≤l.length∧v2.oneCell'=true) (λ⟨k,v2⟩=>[(0,(.pointer (some ⟨t,0,none⟩))),(13,x),(14,(.int .i64 (((l.length:Nat):Int)))),(15,(.int .i64 (((k:Nat):Int))))]) (λ⟨k,v2⟩=>[aj t [(.pointer (some ⟨c,0,none⟩)),(.pointer (some ⟨t,1,none⟩)),v2] 163,cH v2 (bs++ws++nU (l.take k)) 5]) (λ⟨k,v2⟩=>l.length-k) (0,w1)
  ⟨aP _,hw1⟩ SB
  (λ_ s=>by show bR [aj t [(.pointer (some ⟨c,0,none⟩)),(.pointer (some ⟨t,1,none⟩)),w1] 163,cH w1 (bs++ws++nU (l.take 0)) 5] _;rw[show bs++ws++nU (l.take 0)=bs++ws from aY _];exact s) (λ⟨k,v2⟩ hinv=>?_)
 obtain⟨hk,hv2⟩:=hinv;refine sr λ_ J4=>PS ?_
 refine ap ?_ ?_<;>intro h16;obtain⟨b_a,off_a,cap_a,cs_a,T_a,z_a,hv_a,hb_a,hcs_a,hcp_a⟩:=IsI.at hF (j:=k) (by omega);have hkl:k<l.length:=by omega
 refine nx J4 (aa λ_ J5=>CY (qx J5 (aa λ_ J6=>am (sr λ_ J7=>tp (bn (r:=off_a+k) hv_a rfl eh aO rfl rfl (by omega) (by omega) (by omega)) ?_))));refine tp (cm (v:=(.int .i64 ((l.getD k 0)))) rfl Y3 rfl rfl (jW hb_a (λ_ h=>fD h)) hcs_a) ?_;refine PS ?_;refine nx J7 (D0 df ?_);refine PD 0 ?_;refine PD 1 ?_;refine FD 2 1 Gq xh ?_;refine PD 3 ?_;refine AL 4 ?_;refine CE M9 (FR (l.getD k 0) (hd (l.getD k 0) (List.getD_mem' hkl)).1 (hd (l.getD k 0) (List.getD_mem' hkl)).2) ID ?_;refine EN (ta 5 rfl (RF (a:=[32]) (b:=vm (l.getD k 0)) rfl rfl rfl (by simp[vm,nu])) ?_);refine AL 6 ?_;refine CR Kg (sa t c (.pointer (some ⟨t,1,none⟩)) v2 (bs++ws++nU (l.take k)) ([32]++vm (l.getD k 0)) (Or.inr rfl) hv2 (by first|omega| (simp only[ag,av,az,ru,bB,vm,nu];omega))) ID λvR HR hR=>?_
 obtain⟨w2,hw2,rfl⟩:=hR;refine EN (DN (af (ad J6 (ac (AD ?_)))));refine PS ?_;refine au ?_
 exact aL ((k+1,w2):(Nat)×(Value)) ⟨by omega,hw2⟩ (by show l.length- (k+1)<l.length-k;omega)
  SB
  (λ_ s=>by show bR [aj t [(.pointer (some ⟨c,0,none⟩)),(.pointer (some ⟨t,1,none⟩)),w2] 163,cH w2 (bs++ws++nU (l.take (k+1))) 5] _;rw[Fz l (show k<l.length by omega),←aG];exact s)
 refine nx J4 (aa λ_ J8=>CN (aW (aA (aA (bq (ad J2 (ac (P2 ?_))))))));refine FA 1 Gq xh ?_;refine CR Kg (sa t c (.pointer (some ⟨t,1,none⟩)) v2 (bs++ws++nU (l.take k)) ([10]) (Or.inr rfl) hv2 (by first|omega| (simp only[ag,av,az,ru,bB,vm,nu];omega))) ID λvR HR hR=>?_
 obtain⟨w2,hw2,rfl⟩:=hR;exact au (aE (H':=[aj t [(.pointer (some ⟨c,0,none⟩)),(.pointer (some ⟨t,1,none⟩)),w2] 163,cH w2 (bs++vV ws l) 5]) (dN _) (λ_ s=>by rw[show bs++vV ws l=bs++ws++nU (l.take k)++[10]by rw[aC (by omega)];simp[vV]];exact s) (bC rfl ⟨_,hw2,rfl⟩))
theorem DV(c n i:Nat)(D M P:Nat→Value)(hi:i<5)(hM:M i= .pointer none):
 DT 13 #[(.pointer (some ⟨c,0,none⟩)),(.int .i64 (((i:Nat):Int)))] T0 [aj c (fh n D M P) 56] (RI (.pointer none) [aj c (fh n D M P) 56]):=by
 refine BD 15 Tryz.func13 rfl rfl rfl λw0 F hF=>sr λ_ J1=>PS ?_
 refine nx J1 (aa λ_ J2=>sr λ_ J3=>P2 ?_);refine CE DM (ti c n i D M P hi hM) ID ?_;refine PS ?_;refine nx J3 (CY (sr λ_ J4=>PS ?_));exact nx J4 (ah (ae (WK [0] (aw rfl rfl ⟨rfl,rfl⟩))))
theorem DU(c n i:Nat)(D M P:Nat→Value)(hi:i<5)(d r:Nat)(e:DS)(hD:D i= .pointer (some ⟨d,0,none⟩))(hM:M i= .pointer (some ⟨r,0,none⟩)):
 DT 13 #[(.pointer (some ⟨c,0,none⟩)),(.int .i64 (((i:Nat):Int)))] T0 [aj c (fh n D M P) 56,dk d e] (dG (λv H=>((e.dn=false∧v= .pointer (some ⟨r,0,none⟩))∨(e.dn=true∧v= .pointer none))∧H=[aj c (fh n D M P) 56,dk d e])):=by
 refine BD 15 Tryz.func13 rfl rfl rfl λw0 F hF=>sr λ_ J1=>PS ?_
 refine nx J1 (aa λ_ J2=>sr λ_ J3=>P2 ?_);refine CE DM (th c n i D M P hi d r e hD hM) ID ?_;refine bg ?_ ?_<;>intro h7;refine PS ?_;refine nx J3 (CN (qx J2 (sr λ_ J4=>P3 ?_)));refine FA 6 qj p7 ?_;refine IX (6+i) rI iQ ?_;refine LT 0 pn (.pointer (some ⟨r,0,none⟩)) ?_ (hc:=by exact(yv n D M P hi).trans (congrArg some hM));refine PS ?_;refine nx J4 (ah (WK [0,0] (aw rfl rfl ?_)));exact⟨.inl ⟨(by simpa using h7),rfl⟩,rfl⟩;refine PS ?_;refine nx J3 (CY (sr λ_ J5=>PS ?_));refine nx J5 (ah (ae (WK [0,0] (aw rfl rfl ?_))));exact⟨.inr ⟨(by simpa using h7),rfl⟩,rfl⟩
abbrev Bh(c:Nat)(a:CL)(i:Nat)(g:CX):List HP:=aj c (fh g.n (nv g) (kF a g.r) g.p) 56::eT 106 169 5 g.n (da a.W)::lG (a.at' i) (g.d i) (g.r i) (g.p i)
def ek(c:Nat)(a:CL)(g:CX):HP:=bR (qU c a g)
theorem H9{α:Type}(A B C:List α):((A++B)++C).Perm ((A++C)++B):=by
 rw[aG,aG];exact List.Perm.append_left _ List.perm_append_comm
section
variable {f:FuncId} {args:Array Value} {c i:Nat} {a:CL} {g:CX}
theorem KI{h:Hl}(s:bR [fX c a] h): ∃g,bR [ek c a g] h:=by
 obtain⟨g,s⟩:=fH s;exact⟨g,(cj (qU c a g) []).1 s⟩
theorem AB{H:List HP}{h:Hl}(s:bR (fX c a::H) h): ∃g,bR (ek c a g::H) h:=by
 obtain⟨h1,h2,d,e,⟨g,t⟩,s2⟩:=s;exact⟨g,h1,h2,d,e,t,s2⟩
theorem AE{H:List HP}{h:Hl}(s:bR (ek c a g::H) h):bR (fX c a::H) h:=cQ s (λ_ t=>⟨g,t⟩) λ_ t=>t
theorem HH(hi:i<5){h:Hl}(s:bR [ek c a g] h):bR (Bh c a i g++[bR (((List.range 5).map λi=>lH (a.at' i) (g.d i) (g.r i) (g.p i)).eraseIdx i)]) h:=by
 have s0:bR (qU c a g++[]) h:=(cj _ _).2 s;have s2:=Aa (f:=λi=>lH (a.at' i) (g.d i) (g.r i) (g.p i)) hi (aD [2,0,0] rfl s0);have s3:=(cj (lG (a.at' i) (g.d i) (g.r i) (g.p i)) _).2 s2;exact aD [4,4,0,0,0,0] rfl s3
theorem HG(hi:i<5){h:Hl}(s:bR (Bh c a i g++[bR (((List.range 5).map λi=>lH (a.at' i) (g.d i) (g.r i) (g.p i)).eraseIdx i)]) h):bR [ek c a g] h:=by
 have s1:=aD [2,2,2,2,0,0] rfl s;have s2:=(cj (lG (a.at' i) (g.d i) (g.r i) (g.p i)) _).1 s1;have s3:=z0 (f:=λi=>lH (a.at' i) (g.d i) (g.r i) (g.p i)) (g:=λi=>lH (a.at' i) (g.d i) (g.r i) (g.p i)) hi (λ_ _=>rfl) s2;exact(cj (qU c a g) []).1 (aD [1,1,0] rfl s3)
theorem G5{Q:Value→List HP→Prop}(hi:i<5)(core:DT f args T0 (Bh c a i g) (dG λv H=>∃X,Q v X∧H=Bh c a i g++X)):
 DT f args T0 [ek c a g] (dG λv H=>∃X,Q v X∧H=ek c a g::X):=by
 refine Leg.Does.withinR (B:=[bR (((List.range 5).map λi=>lH (a.at' i) (g.d i) (g.r i) (g.p i)).eraseIdx i)]) core (λ_ _ _ _=>trivial) (λh s=>HH hi s) λv H hp=>?_
 obtain⟨X,hQ,rfl⟩:=hp;refine⟨_,λh s=>?_,X,hQ,rfl⟩;have s1:=(cj _ X).1 (eO (H9 (Bh c a i g) X [bR (((List.range 5).map λi=>lH (a.at' i) (g.d i) (g.r i) (g.p i)).eraseIdx i)]) s);exact(cj [ek c a g] X).2 (cQ s1 (λh t=>HG hi t) λ_ t=>t)
theorem KG{Q:Value→Prop}(hi:i<5)(core:DT f args T0 (Bh c a i g) (dG λv H=>Q v∧H=Bh c a i g)):
 DT f args T0 [ek c a g] (dG λv H=>Q v∧H=[ek c a g]):=
 mW (G5 (Q:=λv X=>Q v∧X=[]) hi (mW core λv H hp=>by
  obtain⟨h1,rfl⟩:=hp
  exact⟨[],⟨h1,rfl⟩,(aY _).symm⟩)) λv H hp=>by
  obtain⟨X,⟨h1,rfl⟩,rfl⟩:=hp;exact⟨h1,rfl⟩
theorem Lz{x:Slot}{s:MS LD}(h:x.run=some s):x.up= !s.e.D.dn:=by unfold Slot.up;rw[h]
theorem A4{x:Slot}(h:x.run=none):x.up=false:=by unfold Slot.up;rw[h]
theorem uQ{s:MS LD}(hs:(a.at' i).run=some s):Bh c a i g=[aj c (fh g.n (nv g) (kF a g.r) g.p) 56,eT 106 169 5 g.n (da a.W),dk (g.d i) s.e.D,lU (g.p i) (a.at' i).past,gm s (g.d i) (g.r i)]:=by
 unfold Bh lG Slot.dk rE;rw[hs]
def An(a:CL)(g:CX)(i:Nat):Value:=if(a.at' i).up then .pointer (some ⟨g.r i,0,none⟩)else .pointer none
theorem x9(hi:i<5):DT 13 #[.pointer (some ⟨c,0,none⟩), .int .i64 ((i:Nat):Int)] T0 [ek c a g] (dG λv H=>v=An a g i∧H=[ek c a g]):=by
 refine KG (Q:=λv=>v=An a g i) hi ?_;unfold An;cases hr:(a.at' i).run with
 |none=>
  rw[A4 hr];refine Leg.Does.withinR (A:=[aj c (fh g.n (nv g) (kF a g.r) g.p) 56]) (B:=eT 106 169 5 g.n (da a.W)::lG (a.at' i) (g.d i) (g.r i) (g.p i)) (DV c g.n i (nv g) (kF a g.r) g.p hi (nZ hr)) (λ_ _ _ _=>trivial) (λh s=>s) λv H hp=>?_
  obtain⟨rfl,rfl⟩:=hp;exact⟨_,λh s=>s,rfl,rfl⟩
 |some s=>
  rw[Lz hr,uQ hr];refine Leg.Does.withinR (B:=[eT 106 169 5 g.n (da a.W),lU (g.p i) (a.at' i).past,gm s (g.d i) (g.r i)]) (DU c g.n i (nv g) (kF a g.r) g.p hi (g.d i) (g.r i) s.e.D rfl (tW hr)) (λ_ _ _ _=>trivial) (λh s=>aD [0,1,0,0,0] rfl s) λv H hp=>?_
  obtain⟨hv,rfl⟩:=hp;refine⟨_,λh s=>aD [0,1,0,0,0] rfl s,?_,rfl⟩;rcases hv with⟨h1,rfl⟩| ⟨h1,rfl⟩<;>rw[h1]<;>rfl
theorem xG{n:Nat}(h:CLOk n a)(hn:n≤100000)(hi:i<5):DT 16 #[.pointer (some ⟨c,0,none⟩), .int .i64 ((i:Nat):Int)] T0 [ek c a g] (dG λv H=>∃u,u.oneCell'=true∧v=u∧H=[ek c a g,lU u (a.at' i).reps]):=by
 refine mW (G5 (Q:=λv X=>v.oneCell'=true∧X=[lU v (a.at' i).reps]) hi ?_) λv H hp=>by
  obtain⟨X,⟨h1,rfl⟩,rfl⟩:=hp;exact⟨v,h1,rfl,rfl⟩
 have hl:=(h.at' i hi).reps;unfold Slot.reps at hl ⊢;cases hr:(a.at' i).run with
 |none=>
  rw[hr]at hl;simp only[aY]at hl ⊢;refine Leg.Does.withinR (A:=[aj c (fh g.n (nv g) (kF a g.r) g.p) 56,lU (g.p i) (a.at' i).past]) (B:=[eT 106 169 5 g.n (da a.W),dk (g.d i) (a.at' i).dk,rE (a.at' i) (g.d i) (g.r i)]) (xI c g.n i (nv g) (kF a g.r) g.p hi (nZ hr) (a.at' i).past (by omega)) (λ_ _ _ _=>trivial) (λh s=>aD [0,2,0,0,0] rfl s) λv H hp=>?_
  obtain⟨u,hu,rfl,rfl⟩:=hp;exact⟨_,λh s=>aD [0,2,2,0,1,0] rfl s,[lU v (a.at' i).past],⟨hu,rfl⟩,rfl⟩
 |some s=>
  rw[hr]at hl;simp only[ag]at hl;rw[uQ hr];refine Leg.Does.withinR (B:=[eT 106 169 5 g.n (da a.W),dk (g.d i) s.e.D]) (xH c g.n i (nv g) (kF a g.r) g.p hi (g.d i) (g.r i) s (tW hr) (a.at' i).past (by omega) (by omega)) (λ_ _ _ _=>trivial) (λh s=>aD [0,2,2,0,0] rfl s) λv H hp=>?_
  obtain⟨u,hu,rfl,rfl⟩:=hp;exact⟨_,λh s=>aD [0,3,3,0,0,0] rfl s,[lU v ((a.at' i).past++s.replies)],⟨hu,rfl⟩,rfl⟩
theorem tX{s:MS LD}{Q:Value→Prop}(hi:i<5)(hs:(a.at' i).run=some s)(hf:DT f args T0 [gm s (g.d i) (g.r i)] (dG λv H=>Q v∧H=[gm s (g.d i) (g.r i)])):DT f args T0 [ek c a g] (dG λv H=>Q v∧H=[ek c a g]):=by
 refine KG hi ?_;rw[uQ hs];refine Leg.Does.withinR (B:=[aj c (fh g.n (nv g) (kF a g.r) g.p) 56,eT 106 169 5 g.n (da a.W),dk (g.d i) s.e.D,lU (g.p i) (a.at' i).past]) hf (λ_ _ _ _=>trivial) (λh q=>aD [4,0,0,0,0] rfl q) λv H hp=>?_
 obtain⟨hQ,rfl⟩:=hp;exact⟨_,λh q=>aD [1,1,1,1,0] rfl q,hQ,rfl⟩
theorem tG{s:MS LD}{d r:Nat}{v0:RepT→Value}(hf: ∀x,DT f args T0 [aj r (RepT.cells x) 95] (dG λv H=>v=v0 x∧H=[aj r (RepT.cells x) 95])){w:Value}(hv: ∀a,v0 (s.rep a)=w):DT f args T0 [gm s d r] (dG λv H=>v=w∧H=[gm s d r]):=
 Leg.Does.pack (B:=[]) λx=>Leg.Does.withinR (A:=[aj r (RepT.cells (s.rep x)) 95]) (B:=[GZ x.lg d ((s.e.cnt:Nat):Int) s.e.used,lU x.rs s.replies,Gr x.vo s.vote]) (hf (s.rep x)) (λ_ _ _ _=>trivial) (λ_ q=>q) λv H hp=>by
  obtain⟨rfl,rfl⟩:=hp;exact⟨[gm s d r],λ_ q=>bw (p:=HN s d r) (H:=[]) x q,hv x,rfl⟩
theorem l3(s:MS LD)(d r:Nat):DT 125 #[.pointer (some ⟨r,0,none⟩)] T0 [gm s d r] (dG λv H=>v= .agg (ints s.view.flat).toArray∧H=[gm s d r]):=tG (λx=>Fu r x) λ_=>rfl
theorem Ic(s:MS LD)(d r:Nat):DT 126 #[.pointer (some ⟨r,0,none⟩)] T0 [gm s d r] (dG λv H=>v= .agg (ints s.own.flat).toArray∧H=[gm s d r]):=tG (λx=>HZ r x) λ_=>rfl
theorem Bo(s:MS LD)(d r:Nat)(who key:Int):DT 15 #[.pointer (some ⟨r,0,none⟩), .int .i64 who, .int .i64 key] T0 [gm s d r] (dG λv H=>v= .int .i64 (dE s.book who key)∧H=[gm s d r]):=tG (λx=>Bt r x who key) λ_=>rfl
theorem Io(s:MS LD)(d r:Nat)(who:Int):DT 33 #[.pointer (some ⟨r,0,none⟩), .int .i64 who] T0 [gm s d r] (dG λv H=>v= .tuple #[.agg (ints (mirRow s.mirror who).flat).toArray, .bool (fg s.mirror who)]∧H=[gm s d r]):=tG (λx=>xM r x who) λ_=>rfl
end
def mr(a:CL)(i:Nat):MS LD:=((a.at' i).run).getD (ww 0 ⟨0,0, .new⟩)
def pk(a:CL):Prop:=∀j,j<5→(a.at' j).up=true
section
variable {a:CL} {c i j:Nat} {g:CX}
theorem oJ(h:pk a)(hi:i<5):(a.at' i).run=some (mr a i):=by
 have u:=h i hi;unfold mr;cases hs:(a.at' i).run with
 |none=>rw[A4 hs]at u;cases u
 |some s=>rfl
theorem Mq(h:pk a)(hi:i<5):zP a i=some (mr a i):=by unfold zP;rw[if_pos (h i hi)];exact oJ h hi
theorem vS(s:MS LD)(b:BookT)(k:Nat):lM s b (k+1)=(dF (lM s b k) ((k:Nat):Int) (mirRow s.mirror ((k:Nat):Int))).1:=rfl
theorem vA(h:pk a)(hj:j<5):iV a (j+1)=lM (mr a j) (iV a j) 5:=tk (Mq h hj)
theorem l7(h:pk a)(hi:i<5):DT 13 #[.pointer (some ⟨c,0,none⟩), .int .i64 ((i:Nat):Int)] T0 [ek c a g] (dG λv H=>v= .pointer (some ⟨g.r i,0,none⟩)∧H=[ek c a g]):=by
 have:=x9 (c:=c) (a:=a) (g:=g) hi
 rwa [show An a g i= .pointer (some ⟨g.r i,0,none⟩)by unfold An;rw[if_pos (h i hi)]]at this
end
abbrev yX(g:CX):List Value:=[.pointer (some ⟨g.r 0,0,none⟩), .pointer (some ⟨g.r 1,0,none⟩), .pointer (some ⟨g.r 2,0,none⟩), .pointer (some ⟨g.r 3,0,none⟩), .pointer (some ⟨g.r 4,0,none⟩)]
theorem Ma(g:CX){j:Nat}(h:j<5):(yX g)[j]?=some (.pointer (some ⟨g.r j,0,none⟩)):=by
 match j,h with
 |0,_|1,_|2,_|3,_|4,_=>rfl
theorem rQ(c:Nat)(a:CL)(g:CX)(hup:pk a):
 DT 32 #[(.pointer (some ⟨c,0,none⟩))] T0 [ek c a g] (RI (.agg (yX g).toArray) [ek c a g]):=by
 refine BD 32 Tryz.func32 rfl rfl rfl λw0 F hF=>sr λ_ J1=>XA RD λb2=>?_
 refine nx J1 (sr λ_ J2=>XA RD λb3=>?_);refine nx J2 (aa λ_ J3=>sr λ_ J4=>PS ?_);refine nx J4 (am (hO 5 (sr λ_ J5=>PS ?_)));refine nx J5 (aa λ_ J6=>CY (qx J6 (aa λ_ J7=>am (sr λ_ J8=>P2 ?_))));refine nx J8 (sr λ_ J9=>P3 ?_);refine CE FG (l7 (c:=c) (g:=g) (i:=0) hup (by decide)) (SM [2]) ?_;refine IX 0 rI iQ ?_;refine S0 1 iQ ?_;refine nx J9 (sr λ_ J10=>PS ?_);refine IX 0 rI iQ ?_;refine LA 1 pn ?_;refine tp (gA rfl pn rfl rfl) ?_;refine PS ?_
 iterate 4 refine UF ?_
 refine PS ?_;refine nx J10 (CN (aR (af (ad J7 (ac (tp (bA (r:=1) rfl rfl rfl (by decide)) ?_))))));refine PS ?_;refine au (bI (sr λ_ J11=>PS ?_));refine nx J11 (aa λ_ J12=>CY (qx J12 (aa λ_ J13=>am (sr λ_ J14=>P2 ?_))));refine nx J14 (sr λ_ J15=>P3 ?_);refine CE FG (l7 (c:=c) (g:=g) (i:=1) hup (by decide)) ID ?_;refine IX 1 rI iQ ?_;refine S0 1 iQ ?_;refine nx J15 (sr λ_ J16=>PS ?_);refine IX 1 rI iQ ?_;refine LA 1 pn ?_;refine tp (gA rfl pn rfl rfl) ?_;refine PS ?_
 iterate 4 refine UF ?_
 refine PS ?_;refine nx J16 (CN (aR (af (ad J13 (ac (tp (bA (r:=2) rfl rfl rfl (by decide)) ?_))))));refine PS ?_;refine au (bI (sr λ_ J17=>PS ?_));refine nx J17 (aa λ_ J18=>CY (qx J18 (aa λ_ J19=>am (sr λ_ J20=>P2 ?_))));refine nx J20 (sr λ_ J21=>P3 ?_);refine CE FG (l7 (c:=c) (g:=g) (i:=2) hup (by decide)) ID ?_;refine IX 2 rI iQ ?_;refine S0 1 iQ ?_;refine nx J21 (sr λ_ J22=>PS ?_);refine IX 2 rI iQ ?_;refine LA 1 pn ?_;refine tp (gA rfl pn rfl rfl) ?_;refine PS ?_
 iterate 4 refine UF ?_
 refine PS ?_;refine nx J22 (CN (aR (af (ad J19 (ac (tp (bA (r:=3) rfl rfl rfl (by decide)) ?_))))));refine PS ?_;refine au (bI (sr λ_ J23=>PS ?_));refine nx J23 (aa λ_ J24=>CY (qx J24 (aa λ_ J25=>am (sr λ_ J26=>P2 ?_))));refine nx J26 (sr λ_ J27=>P3 ?_);refine CE FG (l7 (c:=c) (g:=g) (i:=3) hup (by decide)) ID ?_;refine IX 3 rI iQ ?_;refine S0 1 iQ ?_;refine nx J27 (sr λ_ J28=>PS ?_);refine IX 3 rI iQ ?_;refine LA 1 pn ?_;refine tp (gA rfl pn rfl rfl) ?_;refine PS ?_
 iterate 4 refine UF ?_
 refine PS ?_;refine nx J28 (CN (aR (af (ad J25 (ac (tp (bA (r:=4) rfl rfl rfl (by decide)) ?_))))));refine PS ?_;refine au (bI (sr λ_ J29=>PS ?_));refine nx J29 (aa λ_ J30=>CY (qx J30 (aa λ_ J31=>am (sr λ_ J32=>P2 ?_))));refine nx J32 (sr λ_ J33=>P3 ?_);refine CE FG (l7 (c:=c) (g:=g) (i:=4) hup (by decide)) ID ?_;refine IX 4 rI iQ ?_;refine S0 1 iQ ?_;refine nx J33 (sr λ_ J34=>PS ?_);refine IX 4 rI iQ ?_;refine LA 1 pn ?_;refine tp (gA rfl pn rfl rfl) ?_;refine PS ?_
 iterate 4 refine UF ?_
 refine PS ?_;refine nx J34 (CN (aR (af (ad J31 (ac (tp (bA (r:=5) rfl rfl rfl (by decide)) ?_))))));refine PS ?_;refine au (bI (sr λ_ J35=>PS ?_));refine nx J35 (aa λ_ J36=>CN (aW (aA (aA (bq (ad J3 (sr λ_ J37=>tp (aN (vs:=[(.pointer (some ⟨(g.r 0),0,none⟩)),(.pointer (some ⟨(g.r 1),0,none⟩)),(.pointer (some ⟨(g.r 2),0,none⟩)),(.pointer (some ⟨(g.r 3),0,none⟩)),(.pointer (some ⟨(g.r 4),0,none⟩))]) rfl rI rfl p7 rfl (RO 1) rfl rfl) ?_)))))));refine bW (vs:=[(.pointer (some ⟨(g.r 0),0,none⟩)),(.pointer (some ⟨(g.r 1),0,none⟩)),(.pointer (some ⟨(g.r 2),0,none⟩)),(.pointer (some ⟨(g.r 3),0,none⟩)),(.pointer (some ⟨(g.r 4),0,none⟩))]) (i:=2) (ab rfl) rfl rfl rfl rfl rfl p7 (by simp[Value.oneCell']) rfl rfl (Ls rfl) rfl rfl (nx J37 (ah (RC 2 [0] rI p7 rfl ?_)));exact⟨rfl,rfl⟩
theorem RL:(Tryz.prog.info? 77).map (·.zero)=some (some (.agg (ints BookT.zero.flat).toArray)):=by kernel_rfl
theorem sd(c:Nat)(a:CL)(g:CX)(hup:pk a)(hwf: ∀j i,j<5→i<5→WF (mirRow (mr a j).mirror ((i:Nat):Int)).flat):
 DT 11 #[(.pointer (some ⟨c,0,none⟩))] T0 [ek c a g] (dG (λr' H=>∃b,r'= .pointer (some ⟨b,0,none⟩)∧H=[ek c a g,aj b (ints (se a).flat) 77])):=by
 refine BD 33 Tryz.func11 rfl rfl rfl λw0 F hF=>sr λ_ J1=>PS ?_
 refine nx J1 (sr λ_ J2=>XZ RL (ints BookT.zero.flat) λb9=>?_);refine PS ?_;refine nx J2 (aa λ_ J3=>sr λ_ J4=>PS ?_);refine CE O9 (rQ c a g hup) (SM [1]) ?_;refine PS ?_;refine nx J4 (am ?_)
 refine bG (α:=(Nat)) (λj=>j≤5) (λj=>[(2,(.pointer none)),(3,(.pointer (some ⟨b9,0,none⟩))),(11,(.agg (yX g).toArray)),(12,(.int .i64 (((j:Nat):Int))))]) (λj=>[ek c a g,aj b9 (ints (iV a j).flat) 77]) (λj=>5-j) 0
  (aP _) SB
  (λ_ s=>s) (λj hinv=>?_)
 obtain hj:=hinv;refine sr λ_ J5=>PS ?_
 refine ap ?_ ?_<;>intro h13;refine nx J5 (aa λ_ J6=>CY (qx J6 (aa λ_ J7=>am (sr λ_ J8=>tp (jf (cs:=yX g) (v:=(.pointer (some ⟨g.r j,0,none⟩))) (r:=j) rfl rI pn rfl iQ rfl rfl (by omega) (by omega) (by omega) (Ma g (by omega))) ?_))));refine PS ?_;refine nx J8 (aa λ_ J9=>sr λ_ J10=>PS ?_);refine tp (gA rfl pn rfl rfl) ?_;refine nx J10 (CN (qx J9 (sr λ_ J11=>PS ?_)));refine nx J11 (am ?_)
 refine bG (α:=(Nat)) (λi=>i≤5) (λi=>[(2,(.pointer none)),(3,(.pointer (some ⟨b9,0,none⟩))),(5,(.pointer (some ⟨(g.r j),0,none⟩))),(11,(.agg (yX g).toArray)),(12,(.int .i64 (((j:Nat):Int)))),(17,(.int .i64 (((i:Nat):Int))))]) (λi=>[ek c a g,aj b9 (ints (lM (mr a j) (iV a j) i).flat) 77]) (λi=>5-i) 0
  (aP _) SB
  (λ_ s=>s) (λi hinv=>?_)
 obtain hi:=hinv;refine sr λ_ J12=>PS ?_
 refine ap ?_ ?_<;>intro h18;refine nx J12 (aa λ_ J13=>CY (qx J13 (aa λ_ J14=>am (sr λ_ J15=>P2 ?_))));refine nx J15 (sr λ_ J16=>P2 ?_);refine CE Q4 (tX (i:=j) (by omega) (oJ hup (by omega)) (Io (mr a j) (g.d j) (g.r j) ((i:Nat):Int))) ID ?_;refine P3 ?_;refine XZ vw (ints RowT.zero.flat) λb7=>?_
 refine SW 0 bf ai ?_;refine PS ?_;refine nx J16 (ac (P2 ?_));refine LW 0 el bf ai ?_;refine CE Mk (lQ b9 0 77 (λx=>ints x.flat) qg (lM (mr a j) (iV a j) i) ((i:Nat):Int) (mirRow (mr a j).mirror ((i:Nat):Int)) (hwf j i (by omega) (by omega))) (SM [2]) ?_;refine au (af (ad J14 (ac (AD ?_))));refine PS ?_;refine au ?_
 exact aL ((i+1):(Nat)) (by omega) (by show 5- (i+1)<5-i;omega)
  SB
  (λ_ s=>by
   show bR [ek c a g,aj b9 (ints (lM (mr a j) (iV a j) (i+1)).flat) 77] _;rw[vS]
   exact ak [2,0] rfl s)
 refine nx J12 (aa λ_ J17=>CN (aW (aA (aA (bq (af (ad J7 (ac (AD ?_)))))))));refine PS ?_;refine au ?_
 exact aL ((j+1):(Nat)) (by omega) (by show 5- (j+1)<5-j;omega)
  SB
  (λ_ s=>by
   show bR [ek c a g,aj b9 (ints (iV a (j+1)).flat) 77] _;rw[vA hup (by omega),show 5=i by omega]
   exact ak [0,0] rfl s)
 refine nx J5 (aa λ_ J18=>CN (aW (aA (aA (bq (ad J3 (sr λ_ J19=>P2 ?_)))))));exact nx J19 (ah (aE (H':=[ek c a g,aj b9 (ints (se a).flat) 77]) (dN _) (λ_ s=>by rw[show j=5 by omega]at s;exact s) (aw rfl rfl ⟨b9,rfl,rfl⟩)))
theorem Iu(c:Nat)(a:CL)(g:CX)(hup:pk a)(hvw: ∀j,j<5→(mr a j).view=firstV):
 DT 129 #[(.pointer (some ⟨c,0,none⟩))] T0 [ek c a g] (RI (.agg (ints firstV.flat).toArray) [ek c a g]):=by
 refine BD 31 Tryz.func129 rfl rfl rfl λw0 F hF=>sr λ_ J1=>XZ sV (ints ViewT.zero.flat) λb2=>?_
 refine nx J1 (sr λ_ J2=>CE O8 (yn) ID ?_);refine XZ sV (ints ViewT.zero.flat) λb3=>?_
 refine SW 0 bj an ?_;refine PS ?_;refine nx J2 (aa λ_ J3=>sr λ_ J4=>PS ?_);refine CE O9 (rQ c a g hup) (SM [2]) ?_;refine PS ?_;refine nx J4 (am (hO 5 (sr λ_ J5=>PS ?_)));refine nx J5 (aa λ_ J6=>CY (qx J6 (aa λ_ J7=>am (sr λ_ J8=>tp (jf (cs:=yX g) (v:=(.pointer (some ⟨g.r 0,0,none⟩))) (r:=0) rfl rI pn rfl iQ rfl rfl (by decide) (by decide) rfl rfl) ?_))));refine PS ?_;refine nx J8 (aa λ_ J9=>D1 1 df ?_);refine PD 0 ?_;refine ta 1 rfl (gk rfl pn rfl rfl) ?_;refine PD 2 ?_;refine PD 3 ?_;refine PD 4 ?_;refine PD 5 ?_;refine NT 6 ?_;refine NT 7 ?_;refine NT 8 ?_;refine NT 9 ?_;refine NT 10 ?_;refine NT 11 ?_;refine PD 12 ?_;refine PD 13 ?_;refine DN (ad J9 (CY (ac (PS ?_))));refine CR Ak (tX (i:=0) (by decide) (oJ hup (by decide)) (l3 (mr a 0) (g.d 0) (g.r 0))) ID λvR HR hR=>?_
 obtain⟨hv,rfl⟩:=hR;rw[hvw 0 (by decide)]at hv;subst hv;refine SW 1 bj an ?_;refine PS ?_;refine au (af (ad J7 (ac (tp (bA (r:=1) rfl rfl rfl (by decide)) ?_))));refine PS ?_;refine au (bI (sr λ_ J10=>PS ?_));refine nx J10 (aa λ_ J11=>CY (qx J11 (aa λ_ J12=>am (sr λ_ J13=>tp (jf (cs:=yX g) (v:=(.pointer (some ⟨g.r 1,0,none⟩))) (r:=1) rfl rI pn rfl iQ rfl rfl (by decide) (by decide) rfl rfl) ?_))));refine PS ?_;refine nx J13 (aa λ_ J14=>D1 1 df ?_);refine PD 0 ?_;refine ta 1 rfl (gk rfl pn rfl rfl) ?_;refine PD 2 ?_;refine PD 3 ?_;refine PD 4 ?_;refine PD 5 ?_;refine PD 6 ?_;refine FD 9 0 eG aO ?_;refine tb 10 rfl (nd (v':=(.int .i64 1)) (fL (v:=(.int .i64 (firstV.epoch))) rfl Y3 rfl rfl (λ_ h=>h.2.1) (aV firstV rfl)) rfl) ?_;refine AL 7 ?_;refine CR Ak (tX (i:=1) (by decide) (oJ hup (by decide)) (l3 (mr a 1) (g.d 1) (g.r 1))) ID λvR HR hR=>?_
 obtain⟨hv,rfl⟩:=hR;rw[hvw 1 (by decide)]at hv;subst hv;refine EN (tb 8 rfl (nd (v':=(.int .i64 1)) (yJ (cs:=ints firstV.flat) (v:=Value.int .i64 firstV.epoch) rfl eG rfl Y3 rfl rfl (aV firstV rfl)) rfl) ?_);refine PD 11 ?_;refine PD 12 ?_;refine PD 13 ?_;refine DN (ad J14 (CN (aR (af (ad J12 (ac (tp (bA (r:=2) rfl rfl rfl (by decide)) ?_)))))));refine PS ?_;refine au (bI (sr λ_ J15=>PS ?_));refine nx J15 (aa λ_ J16=>CY (qx J16 (aa λ_ J17=>am (sr λ_ J18=>tp (jf (cs:=yX g) (v:=(.pointer (some ⟨g.r 2,0,none⟩))) (r:=2) rfl rI pn rfl iQ rfl rfl (by decide) (by decide) rfl rfl) ?_))));refine PS ?_;refine nx J18 (aa λ_ J19=>D1 1 df ?_);refine PD 0 ?_;refine ta 1 rfl (gk rfl pn rfl rfl) ?_;refine PD 2 ?_;refine PD 3 ?_;refine PD 4 ?_;refine PD 5 ?_;refine PD 6 ?_;refine FD 9 0 eG aO ?_;refine tb 10 rfl (nd (v':=(.int .i64 1)) (fL (v:=(.int .i64 (firstV.epoch))) rfl Y3 rfl rfl (λ_ h=>h.2.1) (aV firstV rfl)) rfl) ?_;refine AL 7 ?_;refine CR Ak (tX (i:=2) (by decide) (oJ hup (by decide)) (l3 (mr a 2) (g.d 2) (g.r 2))) ID λvR HR hR=>?_
 obtain⟨hv,rfl⟩:=hR;rw[hvw 2 (by decide)]at hv;subst hv;refine EN (tb 8 rfl (nd (v':=(.int .i64 1)) (yJ (cs:=ints firstV.flat) (v:=Value.int .i64 firstV.epoch) rfl eG rfl Y3 rfl rfl (aV firstV rfl)) rfl) ?_);refine PD 11 ?_;refine PD 12 ?_;refine PD 13 ?_;refine DN (ad J19 (CN (aR (af (ad J17 (ac (tp (bA (r:=3) rfl rfl rfl (by decide)) ?_)))))));refine PS ?_;refine au (bI (sr λ_ J20=>PS ?_));refine nx J20 (aa λ_ J21=>CY (qx J21 (aa λ_ J22=>am (sr λ_ J23=>tp (jf (cs:=yX g) (v:=(.pointer (some ⟨g.r 3,0,none⟩))) (r:=3) rfl rI pn rfl iQ rfl rfl (by decide) (by decide) rfl rfl) ?_))));refine PS ?_;refine nx J23 (aa λ_ J24=>D1 1 df ?_);refine PD 0 ?_;refine ta 1 rfl (gk rfl pn rfl rfl) ?_;refine PD 2 ?_;refine PD 3 ?_;refine PD 4 ?_;refine PD 5 ?_;refine PD 6 ?_;refine FD 9 0 eG aO ?_;refine tb 10 rfl (nd (v':=(.int .i64 1)) (fL (v:=(.int .i64 (firstV.epoch))) rfl Y3 rfl rfl (λ_ h=>h.2.1) (aV firstV rfl)) rfl) ?_;refine AL 7 ?_;refine CR Ak (tX (i:=3) (by decide) (oJ hup (by decide)) (l3 (mr a 3) (g.d 3) (g.r 3))) ID λvR HR hR=>?_
 obtain⟨hv,rfl⟩:=hR;rw[hvw 3 (by decide)]at hv;subst hv;refine EN (tb 8 rfl (nd (v':=(.int .i64 1)) (yJ (cs:=ints firstV.flat) (v:=Value.int .i64 firstV.epoch) rfl eG rfl Y3 rfl rfl (aV firstV rfl)) rfl) ?_);refine PD 11 ?_;refine PD 12 ?_;refine PD 13 ?_;refine DN (ad J24 (CN (aR (af (ad J22 (ac (tp (bA (r:=4) rfl rfl rfl (by decide)) ?_)))))));refine PS ?_;refine au (bI (sr λ_ J25=>PS ?_));refine nx J25 (aa λ_ J26=>CY (qx J26 (aa λ_ J27=>am (sr λ_ J28=>tp (jf (cs:=yX g) (v:=(.pointer (some ⟨g.r 4,0,none⟩))) (r:=4) rfl rI pn rfl iQ rfl rfl (by decide) (by decide) rfl rfl) ?_))));refine PS ?_;refine nx J28 (aa λ_ J29=>D1 1 df ?_);refine PD 0 ?_;refine ta 1 rfl (gk rfl pn rfl rfl) ?_;refine PD 2 ?_;refine PD 3 ?_;refine PD 4 ?_;refine PD 5 ?_;refine PD 6 ?_;refine FD 9 0 eG aO ?_;refine tb 10 rfl (nd (v':=(.int .i64 1)) (fL (v:=(.int .i64 (firstV.epoch))) rfl Y3 rfl rfl (λ_ h=>h.2.1) (aV firstV rfl)) rfl) ?_;refine AL 7 ?_;refine CR Ak (tX (i:=4) (by decide) (oJ hup (by decide)) (l3 (mr a 4) (g.d 4) (g.r 4))) ID λvR HR hR=>?_
 obtain⟨hv,rfl⟩:=hR;rw[hvw 4 (by decide)]at hv;subst hv;refine EN (tb 8 rfl (nd (v':=(.int .i64 1)) (yJ (cs:=ints firstV.flat) (v:=Value.int .i64 firstV.epoch) rfl eG rfl Y3 rfl rfl (aV firstV rfl)) rfl) ?_);refine PD 11 ?_;refine PD 12 ?_;refine PD 13 ?_;refine DN (ad J29 (CN (aR (af (ad J27 (ac (tp (bA (r:=5) rfl rfl rfl (by decide)) ?_)))))));refine PS ?_;refine au (bI (sr λ_ J30=>PS ?_));refine nx J30 (aa λ_ J31=>CN (aW (aA (aA (bq (ad J3 (sr λ_ J32=>LW 1 eG bj an ?_)))))));refine SW 2 bj an ?_;refine nx J32 (ah (RC 2 [0] eG bj (an _) ?_));exact⟨rfl,rfl⟩
theorem DE:
 DT 128 #[(.agg (ints firstV.flat).toArray)] T0 [] (RI (.agg #[.int .i64 0, .int .i64 1, .int .i64 2, .int .i64 3, .int .i64 4]) []):=by
 refine Leg.Does.body (vs:=[(.agg (ints firstV.flat).toArray)]) (n:=25) Tryz.func128 rfl rfl rfl (λw0 F hF=>?_);refine sr λ_ J1=>?_
 refine TL.box (ab rfl) rfl rfl rfl rfl (λb1=>?_);change TL _ _ _ _ _ _ _ _ _ [aj b1 (ints firstV.flat) 85];refine q7 (ab rfl) rfl rfl rfl OA (λb2=>?_);change TL _ _ _ _ _ _ _ _ _ [aj b2 (ints (#v[0,0,0,0,0]).toList) 68,aj b1 (ints firstV.flat) 85];refine nx J1 ?_;refine sr λ_ J2=>?_
 refine q7 (ab rfl) rfl rfl rfl OA (λb3=>?_);change TL _ _ _ _ _ _ _ _ _ [aj b3 (ints (#v[0,0,0,0,0]).toList) 68,aj b2 (ints (#v[0,0,0,0,0]).toList) 68,aj b1 (ints firstV.flat) 85];refine nx J2 ?_;refine aa λ_ J3=>?_
 refine sr λ_ J4=>?_
 refine mv ?_;refine nx J4 ?_;refine am ?_;refine hO 5 ?_;refine sr λ_ J5=>?_
 refine tp (PV.lss rfl rfl rfl) ?_;refine nx J5 ?_;refine aa λ_ J6=>?_
 refine oj rfl ?_;refine aR ?_;refine ad J6 ?_;refine aa λ_ J7=>?_
 refine am ?_;refine sr λ_ J8=>?_
 refine mv ?_;refine qh ?_;refine nx J8 ?_;refine sr λ_ J9=>?_
 refine mv ?_;refine mv ?_;refine tp (q9 (r:=0) rfl kJ aO rfl rfl (lz rfl) (lz rfl) rfl) ?_;refine bK (i:=0) (ab rfl) rfl rfl rfl rfl rfl aO rfl rfl (by have h0:=(cV (#v[0,0,0,0,0]));omega) (qt (#v[0,0,0,0,0]) (by decide) _) rfl ?_;refine nx J9 ?_;refine sr λ_ J10=>?_
 refine tp (aN (vs:=ints firstV.flat) rfl eG rfl bj rfl (fC 2 rfl rfl) (an firstV) (whole (an firstV))) ?_;refine mv ?_;refine lR (ab rfl) rfl rfl rfl vO rfl (ll firstV 0 ET) (λ_ s=>s) (λ_ _ _=>trivial) (λvR HR hR=>?_);obtain⟨rfl,rfl⟩:=hR;refine mv ?_;refine tp (mN (vs:=[(.int .i64 0),(.bool false)]) rfl rfl rfl) ?_;refine tp (mN (vs:=[(.int .i64 0),(.bool false)]) rfl rfl rfl) ?_;refine qh ?_;refine qh ?_;refine nx J10 ?_;refine sr λ_ J11=>?_
 refine mv ?_;refine nx J11 ?_;refine Hb rfl ?_;refine aR ?_;refine af ?_;refine ad J7 ?_;refine ac ?_;refine tp (bA (r:=1) rfl rfl rfl (by decide)) ?_;refine mv ?_;refine au ?_;refine bI ?_;refine sr λ_ J12=>?_
 refine tp (PV.lss rfl rfl rfl) ?_;refine nx J12 ?_;refine aa λ_ J13=>?_
 refine oj rfl ?_;refine aR ?_;refine ad J13 ?_;refine aa λ_ J14=>?_
 refine am ?_;refine sr λ_ J15=>?_
 refine mv ?_;refine qh ?_;refine nx J15 ?_;refine sr λ_ J16=>?_
 refine mv ?_;refine mv ?_;refine tp (q9 (r:=1) rfl kJ aO rfl rfl (lz rfl) (lz rfl) rfl) ?_;refine bK (i:=0) (ab rfl) rfl rfl rfl rfl rfl aO rfl rfl (by have h0:=(cV ((#v[0,0,0,0,0]).set 0 0 (by omega)));omega) (qt ((#v[0,0,0,0,0]).set 0 0 (by omega)) (by decide) _) rfl ?_;refine nx J16 ?_;refine sr λ_ J17=>?_
 refine tp (aN (vs:=ints firstV.flat) rfl eG rfl bj rfl (fC 2 rfl rfl) (an firstV) (whole (an firstV))) ?_;refine mv ?_;refine lR (ab rfl) rfl rfl rfl vO rfl (ll firstV 1 ET) (λ_ s=>s) (λ_ _ _=>trivial) (λvR HR hR=>?_);obtain⟨rfl,rfl⟩:=hR;refine mv ?_;refine tp (mN (vs:=[(.int .i64 0),(.bool false)]) rfl rfl rfl) ?_;refine tp (mN (vs:=[(.int .i64 0),(.bool false)]) rfl rfl rfl) ?_;refine qh ?_;refine qh ?_;refine nx J17 ?_;refine sr λ_ J18=>?_
 refine mv ?_;refine nx J18 ?_;refine Hb rfl ?_;refine aR ?_;refine af ?_;refine ad J14 ?_;refine ac ?_;refine tp (bA (r:=2) rfl rfl rfl (by decide)) ?_;refine mv ?_;refine au ?_;refine bI ?_;refine sr λ_ J19=>?_
 refine tp (PV.lss rfl rfl rfl) ?_;refine nx J19 ?_;refine aa λ_ J20=>?_
 refine oj rfl ?_;refine aR ?_;refine ad J20 ?_;refine aa λ_ J21=>?_
 refine am ?_;refine sr λ_ J22=>?_
 refine mv ?_;refine qh ?_;refine nx J22 ?_;refine sr λ_ J23=>?_
 refine mv ?_;refine mv ?_;refine tp (q9 (r:=2) rfl kJ aO rfl rfl (lz rfl) (lz rfl) rfl) ?_;refine bK (i:=0) (ab rfl) rfl rfl rfl rfl rfl aO rfl rfl (by have h0:=(cV (((#v[0,0,0,0,0]).set 0 0 (by omega)).set 1 1 (by omega)));omega) (qt (((#v[0,0,0,0,0]).set 0 0 (by omega)).set 1 1 (by omega)) (by decide) _) rfl ?_;refine nx J23 ?_;refine sr λ_ J24=>?_
 refine tp (aN (vs:=ints firstV.flat) rfl eG rfl bj rfl (fC 2 rfl rfl) (an firstV) (whole (an firstV))) ?_;refine mv ?_;refine lR (ab rfl) rfl rfl rfl vO rfl (ll firstV 2 ET) (λ_ s=>s) (λ_ _ _=>trivial) (λvR HR hR=>?_);obtain⟨rfl,rfl⟩:=hR;refine mv ?_;refine tp (mN (vs:=[(.int .i64 0),(.bool false)]) rfl rfl rfl) ?_;refine tp (mN (vs:=[(.int .i64 0),(.bool false)]) rfl rfl rfl) ?_;refine qh ?_;refine qh ?_;refine nx J24 ?_;refine sr λ_ J25=>?_
 refine mv ?_;refine nx J25 ?_;refine Hb rfl ?_;refine aR ?_;refine af ?_;refine ad J21 ?_;refine ac ?_;refine tp (bA (r:=3) rfl rfl rfl (by decide)) ?_;refine mv ?_;refine au ?_;refine bI ?_;refine sr λ_ J26=>?_
 refine tp (PV.lss rfl rfl rfl) ?_;refine nx J26 ?_;refine aa λ_ J27=>?_
 refine oj rfl ?_;refine aR ?_;refine ad J27 ?_;refine aa λ_ J28=>?_
 refine am ?_;refine sr λ_ J29=>?_
 refine mv ?_;refine qh ?_;refine nx J29 ?_;refine sr λ_ J30=>?_
 refine mv ?_;refine mv ?_;refine tp (q9 (r:=3) rfl kJ aO rfl rfl (lz rfl) (lz rfl) rfl) ?_;refine bK (i:=0) (ab rfl) rfl rfl rfl rfl rfl aO rfl rfl (by have h0:=(cV ((((#v[0,0,0,0,0]).set 0 0 (by omega)).set 1 1 (by omega)).set 2 2 (by omega)));omega) (qt ((((#v[0,0,0,0,0]).set 0 0 (by omega)).set 1 1 (by omega)).set 2 2 (by omega)) (by decide) _) rfl ?_;refine nx J30 ?_;refine sr λ_ J31=>?_
 refine tp (aN (vs:=ints firstV.flat) rfl eG rfl bj rfl (fC 2 rfl rfl) (an firstV) (whole (an firstV))) ?_;refine mv ?_;refine lR (ab rfl) rfl rfl rfl vO rfl (ll firstV 3 ET) (λ_ s=>s) (λ_ _ _=>trivial) (λvR HR hR=>?_);obtain⟨rfl,rfl⟩:=hR;refine mv ?_;refine tp (mN (vs:=[(.int .i64 0),(.bool false)]) rfl rfl rfl) ?_;refine tp (mN (vs:=[(.int .i64 0),(.bool false)]) rfl rfl rfl) ?_;refine qh ?_;refine qh ?_;refine nx J31 ?_;refine sr λ_ J32=>?_
 refine mv ?_;refine nx J32 ?_;refine Hb rfl ?_;refine aR ?_;refine af ?_;refine ad J28 ?_;refine ac ?_;refine tp (bA (r:=4) rfl rfl rfl (by decide)) ?_;refine mv ?_;refine au ?_;refine bI ?_;refine sr λ_ J33=>?_
 refine tp (PV.lss rfl rfl rfl) ?_;refine nx J33 ?_;refine aa λ_ J34=>?_
 refine oj rfl ?_;refine aR ?_;refine ad J34 ?_;refine aa λ_ J35=>?_
 refine am ?_;refine sr λ_ J36=>?_
 refine mv ?_;refine qh ?_;refine nx J36 ?_;refine sr λ_ J37=>?_
 refine mv ?_;refine mv ?_;refine tp (q9 (r:=4) rfl kJ aO rfl rfl (lz rfl) (lz rfl) rfl) ?_;refine bK (i:=0) (ab rfl) rfl rfl rfl rfl rfl aO rfl rfl (by have h0:=(cV (((((#v[0,0,0,0,0]).set 0 0 (by omega)).set 1 1 (by omega)).set 2 2 (by omega)).set 3 3 (by omega)));omega) (qt (((((#v[0,0,0,0,0]).set 0 0 (by omega)).set 1 1 (by omega)).set 2 2 (by omega)).set 3 3 (by omega)) (by decide) _) rfl ?_;refine nx J37 ?_;refine sr λ_ J38=>?_
 refine tp (aN (vs:=ints firstV.flat) rfl eG rfl bj rfl (fC 2 rfl rfl) (an firstV) (whole (an firstV))) ?_;refine mv ?_;refine lR (ab rfl) rfl rfl rfl vO rfl (ll firstV 4 ET) (λ_ s=>s) (λ_ _ _=>trivial) (λvR HR hR=>?_);obtain⟨rfl,rfl⟩:=hR;refine mv ?_;refine tp (mN (vs:=[(.int .i64 0),(.bool false)]) rfl rfl rfl) ?_;refine tp (mN (vs:=[(.int .i64 0),(.bool false)]) rfl rfl rfl) ?_;refine qh ?_;refine qh ?_;refine nx J38 ?_;refine sr λ_ J39=>?_
 refine mv ?_;refine nx J39 ?_;refine Hb rfl ?_;refine aR ?_;refine af ?_;refine ad J35 ?_;refine ac ?_;refine tp (bA (r:=5) rfl rfl rfl (by decide)) ?_;refine mv ?_;refine au ?_;refine bI ?_;refine sr λ_ J40=>?_
 refine tp (PV.lss rfl rfl rfl) ?_;refine nx J40 ?_;refine aa λ_ J41=>?_
 refine Hb rfl ?_;refine aW ?_;refine aA ?_;refine aA ?_;refine bq ?_;refine ad J3 ?_;refine sr λ_ J42=>?_
 refine tp (aN (vs:=ints ((((((#v[0,0,0,0,0]).set 0 0 (by omega)).set 1 1 (by omega)).set 2 2 (by omega)).set 3 3 (by omega)).set 4 4 (by omega)).toList) rfl kJ rfl fR rfl (fC 0 rfl rfl) (cV ((((((#v[0,0,0,0,0]).set 0 0 (by omega)).set 1 1 (by omega)).set 2 2 (by omega)).set 3 3 (by omega)).set 4 4 (by omega))) (whole (cV ((((((#v[0,0,0,0,0]).set 0 0 (by omega)).set 1 1 (by omega)).set 2 2 (by omega)).set 3 3 (by omega)).set 4 4 (by omega))))) ?_;refine bW (vs:=ints ((((((#v[0,0,0,0,0]).set 0 0 (by omega)).set 1 1 (by omega)).set 2 2 (by omega)).set 3 3 (by omega)).set 4 4 (by omega)).toList) (i:=1) (ab rfl) rfl rfl rfl rfl rfl (by rw[(cV ((((((#v[0,0,0,0,0]).set 0 0 (by omega)).set 1 1 (by omega)).set 2 2 (by omega)).set 3 3 (by omega)).set 4 4 (by omega)))];exact fR) (bv _) rfl rfl (by have h0:=(cV (#v[0,0,0,0,0]));have h1:=(cV ((((((#v[0,0,0,0,0]).set 0 0 (by omega)).set 1 1 (by omega)).set 2 2 (by omega)).set 3 3 (by omega)).set 4 4 (by omega)));omega) (cy ((cV (#v[0,0,0,0,0])).trans (cV ((((((#v[0,0,0,0,0]).set 0 0 (by omega)).set 1 1 (by omega)).set 2 2 (by omega)).set 3 3 (by omega)).set 4 4 (by omega))).symm)) rfl ?_;refine nx J42 ?_;refine ah ?_;refine RN (H':=[]) rfl rfl kJ rfl fR (fC 1 rfl rfl) (cV ((((((#v[0,0,0,0,0]).set 0 0 (by omega)).set 1 1 (by omega)).set 2 2 (by omega)).set 3 3 (by omega)).set 4 4 (by omega))) (λ_ s=>ak [] rfl s) ?_;exact⟨rfl,rfl⟩
theorem Ew{i k:Nat}(hi:i<5)(hk:k<4):cr BookT.zero ((i:Nat):Int) ((k:Nat):Int)=CellT.zero:=by
 match i,hi,k,hk with
 |0,_,0,_|0,_,1,_|0,_,2,_|0,_,3,_|1,_,0,_|1,_,1,_|1,_,2,_|1,_,3,_|2,_,0,_|2,_,1,_|2,_,2,_|2,_,3,_|3,_,0,_|3,_,1,_|3,_,2,_|3,_,3,_|4,_,0,_|4,_,1,_|4,_,2,_|4,_,3,_=>show _=_;kernel_rfl
theorem tN(n:Nat):(ints (List.replicate n 0)).length=n:=by simp[ints]
theorem sx{n k:Nat}(h:k<n):(ints (List.replicate n 0))[k]?=some (.int .i64 0):=by simp[ints,h]
theorem GH(n k:Nat):(ints (List.replicate n 0)).set k (.int .i64 0)=ints (List.replicate n 0):=by
 refine List.ext_getElem? λj=>?_
 by_cases hj:j=k
 · subst hj
   by_cases h:j<n
   · rw[List.getElem?_set_self (by rw[tN];exact h),sx h]
   · rw[List.getElem?_eq_none (by rw[fx,tN];omega),List.getElem?_eq_none (by rw[tN];omega)]
 · rw[List.getElem?_set_ne (λe=>hj e.symm)]
theorem Md{j:Nat}(h:j<5):([.int .i64 0, .int .i64 1, .int .i64 2, .int .i64 3, .int .i64 4]:List Value)[j]?=some (.int .i64 ((j:Nat):Int)):=by
 match j,h with
 |0,_|1,_|2,_|3,_|4,_=>rfl
theorem Dc(c:Nat)(a:CL)(g:CX)(hup:pk a)(hvw: ∀j,j<5→(mr a j).view=firstV)(hwf: ∀j i,j<5→i<5→WF (mirRow (mr a j).mirror ((i:Nat):Int)).flat)(htz:se a=BookT.zero)(k:Nat)(hk:k<4):
 DT 81 #[(.pointer (some ⟨c,0,none⟩)),(.int .i64 (((k:Nat):Int)))] T0 [ek c a g] (RI (.agg (ints (List.replicate 5 0)).toArray) [ek c a g]):=by
 refine BD 82 Tryz.func81 rfl rfl rfl λw0 F hF=>sr λ_ J1=>XZ OA (ints (#v[0,0,0,0,0]).toList) λb4=>?_
 refine nx J1 (sr λ_ J2=>XZ OA (ints (#v[0,0,0,0,0]).toList) λb5=>?_);refine nx J2 (aa λ_ J3=>sr λ_ J4=>P2 ?_);refine ap ?_ ?_<;>intro h13
 · exact absurd h13 (by omega)
 refine P3 ?_;refine ap ?_ ?_<;>intro h16
 · exact absurd h16 (by omega)
 refine PS ?_;refine nx J4 (CN (qx J3 (sr λ_ J5=>PS ?_)));refine CR N1 (sd c a g hup hwf) (SM [2]) λvR HR hR=>?_
 obtain⟨bk,rfl,rfl⟩:=hR;rw[htz];refine PS ?_;refine nx J5 (sr λ_ J6=>XZ OC (ints ((#v[CellT.zero,CellT.zero,CellT.zero,CellT.zero,CellT.zero]).toList.flatMap CellT.flat)) λb7=>?_);refine nx J6 (aa λ_ J7=>sr λ_ J8=>PS ?_);refine nx J8 (am (hO 5 (sr λ_ J9=>PS ?_)));refine nx J9 (aa λ_ J10=>CY (qx J10 (aa λ_ J11=>am (sr λ_ J12=>P2 ?_))));refine nx J12 (ac (P4 ?_));refine CR FF (ix bk 0 77 (λx=>ints x.flat) qg BookT.zero 0 ((k:Nat):Int)) (SM [2]) λvR HR hR=>?_
 obtain⟨hv,rfl⟩:=hR;rw[show cr BookT.zero 0 ((k:Nat):Int)=CellT.zero from Ew (i:=0) (by decide) hk]at hv;obtain rfl:vR= .agg #[.int .i64 0, .int .i64 0, .int .i64 0, .int .i64 0, .int .i64 0, .int .i64 0, .int .i64 0]:=hv;refine IX 0 uy fm ?_;refine bW (vs:=ints (CellT.mk 0 0 (#v[0,0,0,0,0])).flat) (i:=1) (ab rfl) rfl rfl rfl rfl rfl (by rw[(aU (CellT.mk 0 0 (#v[0,0,0,0,0])))];exact fm) (bv _) rfl rfl (by have h0:=(rl (#v[CellT.zero,CellT.zero,CellT.zero,CellT.zero,CellT.zero]));have h1:=(aU (CellT.mk 0 0 (#v[0,0,0,0,0])));omega) (pT bu (#v[CellT.zero,CellT.zero,CellT.zero,CellT.zero,CellT.zero]) (i:=0) 0 (by decide) rfl (by have h1:=(aU (CellT.mk 0 0 (#v[0,0,0,0,0])));omega) (cy ((aU ((#v[CellT.zero,CellT.zero,CellT.zero,CellT.zero,CellT.zero])[0])).trans (aU (CellT.mk 0 0 (#v[0,0,0,0,0]))).symm))) rfl (au (af (ad J11 (ac (tp (bA (r:=1) rfl rfl rfl (by decide)) ?_)))));refine PS ?_;refine au (bI (sr λ_ J13=>PS ?_));refine nx J13 (aa λ_ J14=>CY (qx J14 (aa λ_ J15=>am (sr λ_ J16=>P2 ?_))));refine nx J16 (ac (P4 ?_));refine CR FF (ix bk 0 77 (λx=>ints x.flat) qg BookT.zero 1 ((k:Nat):Int)) ID λvR HR hR=>?_
 obtain⟨hv,rfl⟩:=hR;rw[show cr BookT.zero 1 ((k:Nat):Int)=CellT.zero from Ew (i:=1) (by decide) hk]at hv;obtain rfl:vR= .agg #[.int .i64 0, .int .i64 0, .int .i64 0, .int .i64 0, .int .i64 0, .int .i64 0, .int .i64 0]:=hv;refine IX 7 uy fm ?_;refine bW (vs:=ints (CellT.mk 0 0 (#v[0,0,0,0,0])).flat) (i:=1) (ab rfl) rfl rfl rfl rfl rfl (by rw[(aU (CellT.mk 0 0 (#v[0,0,0,0,0])))];exact fm) (bv _) rfl rfl (by have h0:=(rl ((#v[CellT.zero,CellT.zero,CellT.zero,CellT.zero,CellT.zero]).set 0 (CellT.mk 0 0 (#v[0,0,0,0,0])) (by omega)));have h1:=(aU (CellT.mk 0 0 (#v[0,0,0,0,0])));omega) (pT bu ((#v[CellT.zero,CellT.zero,CellT.zero,CellT.zero,CellT.zero]).set 0 (CellT.mk 0 0 (#v[0,0,0,0,0])) (by omega)) (i:=1) 0 (by decide) rfl (by have h1:=(aU (CellT.mk 0 0 (#v[0,0,0,0,0])));omega) (cy ((aU (((#v[CellT.zero,CellT.zero,CellT.zero,CellT.zero,CellT.zero]).set 0 (CellT.mk 0 0 (#v[0,0,0,0,0])) (by omega))[1])).trans (aU (CellT.mk 0 0 (#v[0,0,0,0,0]))).symm))) rfl (au (af (ad J15 (ac (tp (bA (r:=2) rfl rfl rfl (by decide)) ?_)))));refine PS ?_;refine au (bI (sr λ_ J17=>PS ?_));refine nx J17 (aa λ_ J18=>CY (qx J18 (aa λ_ J19=>am (sr λ_ J20=>P2 ?_))));refine nx J20 (ac (P4 ?_));refine CR FF (ix bk 0 77 (λx=>ints x.flat) qg BookT.zero 2 ((k:Nat):Int)) ID λvR HR hR=>?_
 obtain⟨hv,rfl⟩:=hR;rw[show cr BookT.zero 2 ((k:Nat):Int)=CellT.zero from Ew (i:=2) (by decide) hk]at hv;obtain rfl:vR= .agg #[.int .i64 0, .int .i64 0, .int .i64 0, .int .i64 0, .int .i64 0, .int .i64 0, .int .i64 0]:=hv;refine IX 14 uy fm ?_;refine bW (vs:=ints (CellT.mk 0 0 (#v[0,0,0,0,0])).flat) (i:=1) (ab rfl) rfl rfl rfl rfl rfl (by rw[(aU (CellT.mk 0 0 (#v[0,0,0,0,0])))];exact fm) (bv _) rfl rfl (by have h0:=(rl (((#v[CellT.zero,CellT.zero,CellT.zero,CellT.zero,CellT.zero]).set 0 (CellT.mk 0 0 (#v[0,0,0,0,0])) (by omega)).set 1 (CellT.mk 0 0 (#v[0,0,0,0,0])) (by omega)));have h1:=(aU (CellT.mk 0 0 (#v[0,0,0,0,0])));omega) (pT bu (((#v[CellT.zero,CellT.zero,CellT.zero,CellT.zero,CellT.zero]).set 0 (CellT.mk 0 0 (#v[0,0,0,0,0])) (by omega)).set 1 (CellT.mk 0 0 (#v[0,0,0,0,0])) (by omega)) (i:=2) 0 (by decide) rfl (by have h1:=(aU (CellT.mk 0 0 (#v[0,0,0,0,0])));omega) (cy ((aU ((((#v[CellT.zero,CellT.zero,CellT.zero,CellT.zero,CellT.zero]).set 0 (CellT.mk 0 0 (#v[0,0,0,0,0])) (by omega)).set 1 (CellT.mk 0 0 (#v[0,0,0,0,0])) (by omega))[2])).trans (aU (CellT.mk 0 0 (#v[0,0,0,0,0]))).symm))) rfl (au (af (ad J19 (ac (tp (bA (r:=3) rfl rfl rfl (by decide)) ?_)))));refine PS ?_;refine au (bI (sr λ_ J21=>PS ?_));refine nx J21 (aa λ_ J22=>CY (qx J22 (aa λ_ J23=>am (sr λ_ J24=>P2 ?_))));refine nx J24 (ac (P4 ?_))
 refine CR FF (ix bk 0 77 (λx=>ints x.flat) qg BookT.zero 3 ((k:Nat):Int)) ID λvR HR hR=>?_
 obtain⟨hv,rfl⟩:=hR;rw[show cr BookT.zero 3 ((k:Nat):Int)=CellT.zero from Ew (i:=3) (by decide) hk]at hv;obtain rfl:vR= .agg #[.int .i64 0, .int .i64 0, .int .i64 0, .int .i64 0, .int .i64 0, .int .i64 0, .int .i64 0]:=hv;refine IX 21 uy fm ?_;refine bW (vs:=ints (CellT.mk 0 0 (#v[0,0,0,0,0])).flat) (i:=1) (ab rfl) rfl rfl rfl rfl rfl (by rw[(aU (CellT.mk 0 0 (#v[0,0,0,0,0])))];exact fm) (bv _) rfl rfl (by have h0:=(rl ((((#v[CellT.zero,CellT.zero,CellT.zero,CellT.zero,CellT.zero]).set 0 (CellT.mk 0 0 (#v[0,0,0,0,0])) (by omega)).set 1 (CellT.mk 0 0 (#v[0,0,0,0,0])) (by omega)).set 2 (CellT.mk 0 0 (#v[0,0,0,0,0])) (by omega)));have h1:=(aU (CellT.mk 0 0 (#v[0,0,0,0,0])));omega) (pT bu ((((#v[CellT.zero,CellT.zero,CellT.zero,CellT.zero,CellT.zero]).set 0 (CellT.mk 0 0 (#v[0,0,0,0,0])) (by omega)).set 1 (CellT.mk 0 0 (#v[0,0,0,0,0])) (by omega)).set 2 (CellT.mk 0 0 (#v[0,0,0,0,0])) (by omega)) (i:=3) 0 (by decide) rfl (by have h1:=(aU (CellT.mk 0 0 (#v[0,0,0,0,0])));omega) (cy ((aU (((((#v[CellT.zero,CellT.zero,CellT.zero,CellT.zero,CellT.zero]).set 0 (CellT.mk 0 0 (#v[0,0,0,0,0])) (by omega)).set 1 (CellT.mk 0 0 (#v[0,0,0,0,0])) (by omega)).set 2 (CellT.mk 0 0 (#v[0,0,0,0,0])) (by omega))[3])).trans (aU (CellT.mk 0 0 (#v[0,0,0,0,0]))).symm))) rfl (au (af (ad J23 (ac (tp (bA (r:=4) rfl rfl rfl (by decide)) ?_)))));refine PS ?_;refine au (bI (sr λ_ J25=>PS ?_))
 refine nx J25 (aa λ_ J26=>CY (qx J26 (aa λ_ J27=>am (sr λ_ J28=>P2 ?_))));refine nx J28 (ac (P4 ?_));refine CR FF (ix bk 0 77 (λx=>ints x.flat) qg BookT.zero 4 ((k:Nat):Int)) ID λvR HR hR=>?_
 obtain⟨hv,rfl⟩:=hR;rw[show cr BookT.zero 4 ((k:Nat):Int)=CellT.zero from Ew (i:=4) (by decide) hk]at hv;obtain rfl:vR= .agg #[.int .i64 0, .int .i64 0, .int .i64 0, .int .i64 0, .int .i64 0, .int .i64 0, .int .i64 0]:=hv;refine IX 28 uy fm ?_
 refine bW (vs:=ints (CellT.mk 0 0 (#v[0,0,0,0,0])).flat) (i:=1) (ab rfl) rfl rfl rfl rfl rfl (by rw[(aU (CellT.mk 0 0 (#v[0,0,0,0,0])))];exact fm) (bv _) rfl rfl (by have h0:=(rl (((((#v[CellT.zero,CellT.zero,CellT.zero,CellT.zero,CellT.zero]).set 0 (CellT.mk 0 0 (#v[0,0,0,0,0])) (by omega)).set 1 (CellT.mk 0 0 (#v[0,0,0,0,0])) (by omega)).set 2 (CellT.mk 0 0 (#v[0,0,0,0,0])) (by omega)).set 3 (CellT.mk 0 0 (#v[0,0,0,0,0])) (by omega)));have h1:=(aU (CellT.mk 0 0 (#v[0,0,0,0,0])));omega) (pT bu (((((#v[CellT.zero,CellT.zero,CellT.zero,CellT.zero,CellT.zero]).set 0 (CellT.mk 0 0 (#v[0,0,0,0,0])) (by omega)).set 1 (CellT.mk 0 0 (#v[0,0,0,0,0])) (by omega)).set 2 (CellT.mk 0 0 (#v[0,0,0,0,0])) (by omega)).set 3 (CellT.mk 0 0 (#v[0,0,0,0,0])) (by omega)) (i:=4) 0 (by decide) rfl (by have h1:=(aU (CellT.mk 0 0 (#v[0,0,0,0,0])));omega) (cy ((aU ((((((#v[CellT.zero,CellT.zero,CellT.zero,CellT.zero,CellT.zero]).set 0 (CellT.mk 0 0 (#v[0,0,0,0,0])) (by omega)).set 1 (CellT.mk 0 0 (#v[0,0,0,0,0])) (by omega)).set 2 (CellT.mk 0 0 (#v[0,0,0,0,0])) (by omega)).set 3 (CellT.mk 0 0 (#v[0,0,0,0,0])) (by omega))[4])).trans (aU (CellT.mk 0 0 (#v[0,0,0,0,0]))).symm))) rfl (au (af (ad J27 (ac (tp (bA (r:=5) rfl rfl rfl (by decide)) ?_)))));refine PS ?_;refine au (bI (sr λ_ J29=>PS ?_));refine nx J29 (aa λ_ J30=>CN (aW (aA (aA (bq (ad J7 (aa λ_ J31=>sr λ_ J32=>PS ?_)))))))
 refine CE PC (Iu c a g hup hvw) (SM [2]) ?_;refine CE PE (DE) ID ?_;refine PS ?_;refine nx J32 (am ?_)
 refine bG (α:=(Nat)) (λj=>j≤5) (λj=>[(4,(.pointer (some ⟨b4,0,none⟩))),(5,(.pointer (some ⟨b5,0,none⟩))),(7,(.pointer (some ⟨b7,0,none⟩))),(33,(.agg ([.int .i64 0, .int .i64 1, .int .i64 2, .int .i64 3, .int .i64 4]).toArray)),(34,(.int .i64 (((j:Nat):Int))))]) (λj=>[ek c a g,aj b5 (ints (List.replicate 5 0)) 68,aj b7 (ints (List.replicate 35 0)) 154,aj b4 (ints (#v[0,0,0,0,0]).toList) 68]) (λj=>5-j) 0
  (aP _) SB
  (λ_ s=>ak [0,2,1,1] rfl s) (λj hinv=>?_)
 obtain hj:=hinv;refine sr λ_ J33=>PS ?_
 refine ap ?_ ?_<;>intro h35;refine nx J33 (aa λ_ J34=>CY (qx J34 (aa λ_ J35=>am (sr λ_ J36=>PS ?_))));refine tp (jf (cs:=[.int .i64 0, .int .i64 1, .int .i64 2, .int .i64 3, .int .i64 4]) (v:=(.int .i64 ((j:Nat):Int))) (r:=j) rfl kJ Y3 rfl aO rfl rfl (by omega) (by omega) (by omega) (Md (by omega))) ?_;refine P2 ?_;refine nx J36 (aa λ_ J37=>sr λ_ J38=>P2 ?_);refine ap ?_ ?_<;>intro h39
 · exact absurd h39 (by omega)
 refine P3 ?_;refine ap ?_ ?_<;>intro h42
 · exact absurd h42 (by omega)
 refine PS ?_;refine nx J38 (CN (qx J37 (aa λ_ J39=>D1 2 df ?_)));refine PD 0 ?_;refine IY 1 j kJ aO ?_;refine PD 3 ?_;refine IY 4 (j*7) uy fm ?_;refine ta 5 rfl (bc (r:=j*7) rfl nF rfl aO rfl rfl) ?_;refine LX 6 Y3 (.int .i64 0) ?_ (hc:=by exact sx (by omega));refine PD 7 ?_;refine IY 8 (j*7) uy fm ?_;refine ta 9 rfl (bc (r:=j*7+1) rfl nF rfl aO rfl rfl) ?_;refine LX 10 Y3 (.int .i64 0) ?_ (hc:=by exact sx (by omega));refine ta 11 rfl (iE (r:=0) rfl rfl rfl rfl) ?_;refine AL 2 ?_;refine LT 1 Y3 (.int .i64 0) ?_ (hc:=by exact sx (by omega));refine EN (ta 12 rfl (bA (r:=0) rfl rfl rfl rfl) ?_);refine IY 13 j kJ aO ?_;refine AL 14 ?_;refine bK (i:=1) (ab rfl) rfl rfl rfl rfl rfl aO rfl rfl (by rw[tN];omega) (GH 5 _) rfl (EN (DN (ad J39 (sr λ_ J40=>PS ?_))));refine nx J40 (am ?_)
 refine bG (α:=(Nat)) (λi=>i≤5) (λi=>[(4,(.pointer (some ⟨b4,0,none⟩))),(5,(.pointer (some ⟨b5,0,none⟩))),(7,(.pointer (some ⟨b7,0,none⟩))),(9,(.int .i64 (((j:Nat):Int)))),(10,(.int .i64 (((j:Nat):Int)))),(33,(.agg ([.int .i64 0, .int .i64 1, .int .i64 2, .int .i64 3, .int .i64 4]).toArray)),(34,(.int .i64 (((j:Nat):Int)))),(58,(.int .i64 (((i:Nat):Int))))]) (λi=>[ek c a g,aj b5 (ints (List.replicate 5 0)) 68,aj b7 (ints (List.replicate 35 0)) 154,aj b4 (ints (#v[0,0,0,0,0]).toList) 68]) (λi=>5-i) 0
  (aP _) SB
  (λ_ s=>s) (λi hinv=>?_)
 obtain hi:=hinv;refine sr λ_ J41=>PS ?_
 refine ap ?_ ?_<;>intro h59;refine nx J41 (aa λ_ J42=>CY (qx J42 (aa λ_ J43=>am (sr λ_ J44=>P2 ?_))));refine nx J44 (D1 2 df ?_);refine PD 0 ?_;refine IY 1 j kJ aO ?_;refine PD 3 ?_;refine PD 4 ?_;refine IY 5 (i*7) uy fm ?_;refine ta 6 rfl (bc (r:=i*7+2) rfl nF rfl fR rfl rfl) ?_;refine IY 7 (i*7+2+j) kJ aO ?_;refine LX 8 Y3 (.int .i64 0) ?_ (hc:=by exact sx (by omega));refine PD 9 ?_;refine PD 10 ?_;refine IY 11 (j*7) uy fm ?_;refine ta 12 rfl (bc (r:=j*7+2) rfl nF rfl fR rfl rfl) ?_;refine IY 13 (j*7+2+i) kJ aO ?_;refine LX 14 Y3 (.int .i64 0) ?_ (hc:=by exact sx (by omega));refine ta 15 rfl (iE (r:=0) rfl rfl rfl rfl) ?_;refine AL 2 ?_;refine LT 1 Y3 (.int .i64 0) ?_ (hc:=by exact sx (by omega));refine EN (ta 16 rfl (bA (r:=0) rfl rfl rfl rfl) ?_);refine IY 17 j kJ aO ?_;refine AL 18 ?_;refine bK (i:=1) (ab rfl) rfl rfl rfl rfl rfl aO rfl rfl (by rw[tN];omega) (GH 5 _) rfl (EN (DN (af (ad J43 (ac (AD ?_))))));refine PS ?_;refine au ?_
 exact aL ((i+1):(Nat)) (by omega) (by show 5- (i+1)<5-i;omega)
  SB
  (λ_ s=>s)
 refine nx J41 (aa λ_ J45=>CN (aW (aA (aA (bq (af (ad J35 (ac (AD ?_)))))))));refine PS ?_;refine au ?_
 exact aL ((j+1):(Nat)) (by omega) (by show 5- (j+1)<5-j;omega)
  SB
  (λ_ s=>s)
 refine nx J33 (aa λ_ J46=>CN (aW (aA (aA (bq (ad J31 (sr λ_ J47=>ci (H':=[ek c a g,aj b5 (ints (#v[0,0,0,0,0]:Vector Int 5).toList) 68,aj b7 (ints (List.replicate 35 0)) 154,aj b4 (ints (#v[0,0,0,0,0]).toList) 68]) (λ_ s=>s) (tp (aN (vs:=ints (#v[0,0,0,0,0]:Vector Int 5).toList) rfl kJ rfl fR rfl (RO 1) (cV (#v[0,0,0,0,0]:Vector Int 5)) (whole (cV (#v[0,0,0,0,0]:Vector Int 5)))) ?_))))))));exact bW (vs:=ints (#v[0,0,0,0,0]:Vector Int 5).toList) (i:=3) (ab rfl) rfl rfl rfl rfl rfl (by rw[(cV (#v[0,0,0,0,0]:Vector Int 5))];exact fR) (bv _) rfl rfl (by have h0:=(cV (#v[0,0,0,0,0]));have h1:=(cV (#v[0,0,0,0,0]:Vector Int 5));omega) (cy ((cV (#v[0,0,0,0,0])).trans (cV (#v[0,0,0,0,0]:Vector Int 5)).symm)) rfl (nx J47 (ah (RN (H':=[ek c a g]) rfl rfl kJ rfl fR (RO 3) (cV (#v[0,0,0,0,0]:Vector Int 5)) (λ_ s=>ak [0] rfl s) ⟨rfl,rfl⟩)))
theorem zO:
 DT 127 #[(.int .i64 7)] T0 [] (dG (λr' H=>∃u,r'=u∧H=[own u 3 [.int .i64 0, .int .i64 1, .int .i64 2] 3 1])):=by
 refine BD 19 Tryz.func127 rfl rfl rfl λw0 F hF=>sr λ_ J1=>PS ?_
 refine nx J1 (sr λ_ J2=>I2 3 1 (λon=>?_));clear on;refine PS ?_;refine nx J2 (aa λ_ J3=>sr λ_ J4=>PS ?_);refine nx J4 (am (hO 5 (sr λ_ J5=>PS ?_)));refine nx J5 (aa λ_ J6=>CY (qx J6 (aa λ_ J7=>am (sr λ_ J8=>P2 ?_))));refine nx J8 (sr λ_ J9=>P2 ?_);refine tp (iF (r:=7) rfl rfl rfl (by omega) (by decide)) ?_;refine tp (jm (r:=1) rfl rfl rfl (by decide)) ?_;refine PS ?_;refine nx J9 (CY (ac (P2 ?_)));refine aM (cells:=#[(.int .i64 0)]) (ab rfl) rfl rfl rfl eh oK rfl rfl rfl (by as_aux_lemma=>kernel_rfl) (λb15=>bX (k:=1) (news:=[(.int .i64 0)]) (nn':=1) (xs':=[(.int .i64 0)]) (ab rfl) rfl rfl rfl eh oK rfl rfl rfl rfl rfl rfl (λ_ _=>gn rfl (RO 0) rfl) (by simp[Value.oneCell']) (by simp only[maxLen];omega) (by omega) rfl rfl (λv16 ov16=>PS ?_));refine au (af (ad J7 (ac (tp (bA (r:=1) rfl rfl rfl (by decide)) ?_))));refine PS ?_;refine au (bI (sr λ_ J10=>PS ?_));refine nx J10 (aa λ_ J11=>CY (qx J11 (aa λ_ J12=>am (sr λ_ J13=>P2 ?_))));refine nx J13 (sr λ_ J14=>P2 ?_);refine tp (iF (r:=3) rfl rfl rfl (by omega) (by decide)) ?_;refine tp (jm (r:=1) rfl rfl rfl (by decide)) ?_;refine PS ?_;refine nx J14 (CY (ac (P2 ?_)))
 refine ci (H':=[own v16 (1) ([(.int .i64 0)]) 3 1]) (λ_ s=>ak [1] rfl s) (aM (cells:=#[(.int .i64 1)]) (ab rfl) rfl rfl rfl eh oK rfl rfl rfl (by as_aux_lemma=>kernel_rfl) (λb15=>bX (k:=1) (news:=[(.int .i64 1)]) (nn':=2) (xs':=[(.int .i64 0),(.int .i64 1)]) (ab rfl) rfl rfl rfl eh oK rfl rfl rfl rfl rfl rfl (λ_ _=>gn rfl (RO 0) rfl) (by simp[Value.oneCell']) (by simp only[maxLen];omega) (by omega) rfl rfl (λv16 ov16=>PS ?_)));refine au (af (ad J12 (ac (tp (bA (r:=2) rfl rfl rfl (by decide)) ?_))));refine PS ?_;refine au (bI (sr λ_ J15=>PS ?_));refine nx J15 (aa λ_ J16=>CY (qx J16 (aa λ_ J17=>am (sr λ_ J18=>P2 ?_))));refine nx J18 (sr λ_ J19=>P2 ?_);refine tp (iF (r:=1) rfl rfl rfl (by omega) (by decide)) ?_;refine tp (jm (r:=1) rfl rfl rfl (by decide)) ?_;refine PS ?_;refine nx J19 (CY (ac (P2 ?_)));refine ci (H':=[own v16 (2) ([(.int .i64 0),(.int .i64 1)]) 3 1]) (λ_ s=>ak [1] rfl s) (aM (cells:=#[(.int .i64 2)]) (ab rfl) rfl rfl rfl eh oK rfl rfl rfl (by as_aux_lemma=>kernel_rfl) (λb15=>bX (k:=1) (news:=[(.int .i64 2)]) (nn':=3) (xs':=[(.int .i64 0),(.int .i64 1),(.int .i64 2)]) (ab rfl) rfl rfl rfl eh oK rfl rfl rfl rfl rfl rfl (λ_ _=>gn rfl (RO 0) rfl) (by simp[Value.oneCell']) (by simp only[maxLen];omega) (by omega) rfl rfl (λv16 ov16=>PS ?_)));refine au (af (ad J17 (ac (tp (bA (r:=3) rfl rfl rfl (by decide)) ?_))));refine PS ?_
 refine au (bI (sr λ_ J20=>PS ?_));refine nx J20 (aa λ_ J21=>CY (qx J21 (aa λ_ J22=>am (sr λ_ J23=>P2 ?_))));refine nx J23 (sr λ_ J24=>P2 ?_);refine tp (iF (r:=0) rfl rfl rfl (by omega) (by decide)) ?_;refine tp (jm (r:=0) rfl rfl rfl (by decide)) ?_;refine PS ?_;refine nx J24 (CN (aR (af (ad J22 (ac (tp (bA (r:=4) rfl rfl rfl (by decide)) ?_))))));refine PS ?_;refine au (bI (sr λ_ J25=>PS ?_));refine nx J25 (aa λ_ J26=>CY (qx J26 (aa λ_ J27=>am (sr λ_ J28=>P2 ?_))));refine nx J28 (sr λ_ J29=>P2 ?_);refine tp (iF (r:=0) rfl rfl rfl (by omega) (by decide)) ?_;refine tp (jm (r:=0) rfl rfl rfl (by decide)) ?_;refine PS ?_;refine nx J29 (CN (aR (af (ad J27 (ac (tp (bA (r:=5) rfl rfl rfl (by decide)) ?_))))));refine PS ?_;refine au (bI (sr λ_ J30=>PS ?_));refine nx J30 (aa λ_ J31=>CN (aW (aA (aA (bq (ad J3 (sr λ_ J32=>P2 ?_)))))));exact nx J32 (ah (WK [1] (aw rfl rfl ⟨_,rfl,rfl⟩)))
def cI(a:CL)(i:Nat):List UInt8:=vV ([109,97,99,104,105,110,101,32]++nu i++[32,117,112]) [1,(mr a i).own.version,0,1,2]
theorem Nj{n:Int}(h:0≤n∧n<10): ∀m∈([1,n,0,1,2]:List Int),0≤m∧m<10:=by
 intro m hm;simp only[bU,List.not_mem_nil,or_false]at hm;rcases hm with rfl|rfl|rfl|rfl|rfl
 · decide
 · exact h
 · decide
 · decide
 · decide
theorem E6(t c:Nat)(A v:Value)(bs:List UInt8)(a:CL)(g:CX)(i:Nat)(hi:i<5)(hA:A= .pointer none∨A= .pointer (some ⟨t,1,none⟩))(hv:v.oneCell'=true)(hb:bs.length≤1000)(hup:pk a)(hvw: ∀j,j<5→(mr a j).view=firstV)(hvd:0≤(mr a i).own.version∧(mr a i).own.version<10)(hrs:(a.at' i).reps=[])(n:Nat)(hok:CLOk n a)(hn:n≤100000):
 DT 80 #[(.pointer (some ⟨t,0,none⟩)),(.int .i64 (((i:Nat):Int)))] T0 [aj t [(.pointer (some ⟨c,0,none⟩)),A,v] 163,cH v (bs) 5,ek c a g] (dG (λ_ H=>∃v',v'.oneCell'=true∧H=[aj t [(.pointer (some ⟨c,0,none⟩)),(.pointer (some ⟨t,1,none⟩)),v'] 163,cH v' (bs++cI a i) 5,ek c a g])):=by
 refine Leg.Does.body (vs:=[(.pointer (some ⟨t,0,none⟩)),(.int .i64 (((i:Nat):Int)))]) (n:=63) Tryz.func80 rfl rfl rfl (λw0 F hF=>?_);refine sr λ_ J1=>?_
 refine mv ?_;refine lR (ab rfl) rfl rfl rfl M9 rfl (At i (by omega)) (λ_ s=>s) (λ_ _ _=>trivial) (λvR HR hR=>?_);obtain⟨rfl,rfl⟩:=hR;refine tp (RF (a:=[109,97,99,104,105,110,101,32]) (b:=nu i) rfl rfl rfl (by simp[nu])) ?_;refine qh ?_;refine nx J1 ?_;refine aa λ_ J2=>?_
 refine sr λ_ J3=>?_
 refine mv ?_;refine tp (gU rfl rfl) ?_;refine tp (bc (r:=0) rfl Gq rfl Jr rfl rfl) ?_;refine tp (fL (v:=(.pointer (some ⟨c,0,none⟩))) rfl On rfl rfl (fC 0 rfl rfl) rfl) ?_;refine mv ?_;refine lR (ab rfl) rfl rfl rfl FG rfl (l7 (c:=c) (g:=g) (i:=i) hup hi) (λ_ s=>aD [2] rfl s) (λ_ _ _=>trivial) (λvR HR hR=>?_);obtain⟨rfl,rfl⟩:=hR;refine qh ?_;refine nx J3 ?_;refine sr λ_ J4=>?_
 refine mv ?_;refine tp (gA rfl pn rfl rfl) ?_;refine nx J4 ?_;refine Hb rfl ?_;refine sr λ_ J5=>?_
 refine mv ?_;refine lR (ab rfl) rfl rfl rfl Ak rfl (tX (i:=i) hi (oJ hup hi) (l3 (mr a i) (g.d i) (g.r i))) (λ_ s=>s) (λ_ _ _=>trivial) (λvR HR hR=>?_);obtain⟨hv2,rfl⟩:=hR;rw[hvw i hi]at hv2;subst hv2;refine q7 (ab rfl) rfl rfl rfl sV (λb6=>?_);change TL _ _ _ _ _ _ _ _ _ [aj b6 (ints ViewT.zero.flat) 85,ek c a g,aj t [(.pointer (some ⟨c,0,none⟩)),A,v] 163,cH v (bs) 5];refine bW (vs:=ints firstV.flat) (i:=0) (ab rfl) rfl rfl rfl rfl rfl (by rw[(an firstV)];exact bj) (bv _) rfl rfl (by have h0:=(an ViewT.zero);have h1:=(an firstV);omega) (cy ((an ViewT.zero).trans (an firstV).symm)) rfl ?_;refine nx J5 ?_;refine aa λ_ J6=>?_
 refine sR (λw=>Frm F w∧w.heap[b6]?=some (.cells (ints firstV.flat).toArray 85 (0,0))∧True) df rfl (λ_ s=>⟨fD s,s.block 0 (lb rfl) rfl,trivial⟩) ?_;refine ta 0 rfl (bc (r:=0) rfl eG rfl aO rfl rfl) ?_;refine ta 1 rfl (nd (v':=(.int .i64 1)) (fL (v:=(.int .i64 (firstV.epoch))) rfl Y3 rfl rfl (λ_ h=>h.2.1) (aV firstV rfl)) rfl) ?_;refine ta 2 rfl (ky rfl rfl) ?_;refine ta 6 rfl (bc (r:=1) rfl eG rfl aO rfl rfl) ?_;refine ta 7 rfl (nd (v':=(.int .i64 7)) (fL (v:=(.int .i64 (firstV.members))) rfl Y3 rfl rfl (λ_ h=>h.2.1) (kL firstV rfl)) rfl) ?_;refine db [3] (by kernel_rfl) rfl ?_;refine aF rfl ?_ ?_;refine lR (ab rfl) rfl rfl rfl PF rfl (tX (i:=i) hi (oJ hup hi) (Ic (mr a i) (g.d i) (g.r i))) (λ_ s=>aD [1] rfl s) (λ_ _ _=>trivial) (λvR HR hR=>?_);obtain⟨rfl,rfl⟩:=hR;refine au ?_;refine wn (λ_ s=>⟨fD s,s.block 1 (lb rfl) rfl,trivial⟩) ?_;refine ta 4 rfl (yJ (cs:=ints ((mr a i).own).flat) (v:=Value.int .i64 (((mr a i).own).version)) rfl el rfl Y3 rfl rfl (cM ((mr a i).own) rfl)) ?_;refine db [5,8] (by kernel_rfl) rfl ?_;refine aF rfl ?_ ?_;refine aM (cells:=#[(.int .i64 1),(.int .i64 (((mr a i).own).version))]) (ab rfl) rfl rfl rfl eh oK rfl rfl rfl (by as_aux_lemma=>kernel_rfl) (λb32=>?_);refine au ?_;refine wn (λ_ s=>⟨fD s,s.block 2 (lb rfl) rfl,trivial⟩) ?_;refine db [8] (by kernel_rfl) rfl ?_;refine aF rfl ?_ ?_
 refine lR (ab rfl) rfl rfl rfl GP rfl (zO) (λ_ s=>s) (λ_ _ _=>trivial) (λvR HR hR=>?_);obtain⟨_,rfl,rfl⟩:=hR;revert vR;intro u7;refine au ?_;refine wn (λ_ s=>⟨fD s,s.block 3 (lb rfl) rfl,trivial⟩) ?_;refine db [9] (by kernel_rfl) rfl ?_;refine aF rfl ?_ ?_;refine ci (H':=[own u7 (3) ([.int .i64 0, .int .i64 1, .int .i64 2]) 3 1,own (.slice (some ⟨b32,0,none⟩) (2) (2)) (2) ([.int .i64 1, .int .i64 (mr a i).own.version]) 3 1,ek c a g,aj b6 (ints firstV.flat) 85,aj t [(.pointer (some ⟨c,0,none⟩)),A,v] 163,cH v (bs) 5]) (λ_ s=>tD (g:=b32) (cap:=2) (nn:=2) (e:=3) (cur:=[.int .i64 1, .int .i64 (mr a i).own.version]) (xs:=[.int .i64 1, .int .i64 (mr a i).own.version]) 1 rfl rfl (by decide) (by decide) rfl rfl s) ?_;refine bX (k:=1) (news:=[.int .i64 0, .int .i64 1, .int .i64 2]) (nn':=5) (xs':=[.int .i64 1, .int .i64 (mr a i).own.version, .int .i64 0, .int .i64 1, .int .i64 2]) (ab rfl) rfl rfl rfl eh oK rfl rfl rfl rfl rfl rfl (λ_ s=>Ld 0 rfl rfl s) (by intro u hu;simp only[bU,List.not_mem_nil,or_false]at hu;rcases hu with rfl|rfl|rfl<;>rfl) (by decide) (by decide) rfl rfl (λv36 ov36=>?_);refine au ?_;refine wn (λ_ s=>⟨fD s,s.block 3 (lb rfl) rfl,trivial⟩) ?_;refine ta 10 rfl (RJ rfl rfl) ?_;refine TD.done (by kernel_rfl) ?_;refine ad J6 ?_;refine ac ?_;refine mv ?_;refine mv ?_
 refine tp (RF (a:=[109,97,99,104,105,110,101,32]++nu i) (b:=[32,117,112]) rfl rfl rfl (by simp[nu])) ?_;refine mv ?_;refine lR (ab rfl) rfl rfl rfl NL rfl (vc t c A v v36 bs ([109,97,99,104,105,110,101,32]++nu i++[32,117,112]) [1,(mr a i).own.version,0,1,2] hA hv (Nj hvd) (by simp[nu];omega)) (λ_ s=>aD [4,4] rfl s) (tY (l:=[1,(mr a i).own.version,0,1,2]) 1 rfl rfl) (λvR HR hR=>?_);obtain⟨w1,hw1,rfl⟩:=hR;refine nx J2 ?_;refine sr λ_ J7=>?_
 refine mv ?_;refine tp (gU rfl rfl) ?_;refine tp (bc (r:=0) rfl Gq rfl Jr rfl rfl) ?_;refine tp (fL (v:=(.pointer (some ⟨c,0,none⟩))) rfl On rfl rfl (fC 0 rfl rfl) rfl) ?_;refine mv ?_;refine lR (ab rfl) rfl rfl rfl Ml rfl (xG (i:=i) hok hn hi) (λ_ s=>aD [4] rfl s) (λ_ _ _=>trivial) (λvR HR hR=>?_);obtain⟨_,_,rfl,hH⟩:=hR;revert vR;intro ur h1 hH;rw[hrs]at hH;subst hH;refine je 1 rfl rfl (λhlr _=>?_);refine tp (dO rfl I6 rfl hlr) ?_;refine mv ?_;refine nx J7 ?_;refine am ?_;refine hO 1 ?_;refine sr λ_ J8=>?_
 refine tp (PV.lss rfl rfl rfl) ?_;refine nx J8 ?_;refine aa λ_ J9=>?_
 refine Hb rfl ?_;refine aW ?_;refine aA ?_;refine aA ?_;refine bq ?_;refine aE (dN _) (λ_ s=>ak [2,2,0] rfl s) ?_;refine bC rfl ?_;exact⟨_,hw1,rfl⟩;exact bP;exact bP;refine aF rfl ?_ ?_;refine lR (ab rfl) rfl rfl rfl GP rfl (zO) (λ_ s=>s) (λ_ _ _=>trivial) (λvR HR hR=>?_);obtain⟨_,rfl,rfl⟩:=hR;revert vR;intro u7;refine au ?_;refine wn (λ_ s=>⟨fD s,s.block 2 (lb rfl) rfl,trivial⟩) ?_;refine db [5] (by kernel_rfl) rfl ?_;refine aF rfl ?_ ?_;refine aM (cells:=#[(.int .i64 1),(.int .i64 (((mr a i).own).version))]) (ab rfl) rfl rfl rfl eh oK rfl rfl rfl (by as_aux_lemma=>kernel_rfl) (λb32=>?_);refine au ?_;refine wn (λ_ s=>⟨fD s,s.block 3 (lb rfl) rfl,trivial⟩) ?_;refine db [9] (by kernel_rfl) rfl ?_;refine aF rfl ?_ ?_;refine ci (H':=[own (.slice (some ⟨b32,0,none⟩) (2) (2)) (2) ([.int .i64 1, .int .i64 (mr a i).own.version]) 3 1,own u7 (3) ([.int .i64 0, .int .i64 1, .int .i64 2]) 3 1,ek c a g,aj b6 (ints firstV.flat) 85,aj t [(.pointer (some ⟨c,0,none⟩)),A,v] 163,cH v (bs) 5]) (λ_ s=>tD (g:=b32) (cap:=2) (nn:=2) (e:=3) (cur:=[.int .i64 1, .int .i64 (mr a i).own.version]) (xs:=[.int .i64 1, .int .i64 (mr a i).own.version]) 0 rfl rfl (by decide) (by decide) rfl rfl s) ?_
 refine bX (k:=0) (news:=[.int .i64 0, .int .i64 1, .int .i64 2]) (nn':=5) (xs':=[.int .i64 1, .int .i64 (mr a i).own.version, .int .i64 0, .int .i64 1, .int .i64 2]) (ab rfl) rfl rfl rfl eh oK rfl rfl rfl rfl rfl rfl (λ_ s=>Ld 1 rfl rfl s) (by intro u hu;simp only[bU,List.not_mem_nil,or_false]at hu;rcases hu with rfl|rfl|rfl<;>rfl) (by decide) (by decide) rfl rfl (λv36 ov36=>?_);refine au ?_;refine wn (λ_ s=>⟨fD s,s.block 3 (lb rfl) rfl,trivial⟩) ?_;refine ta 10 rfl (RJ rfl rfl) ?_;refine TD.done (by kernel_rfl) ?_;refine ad J6 ?_;refine ac ?_;refine mv ?_;refine mv ?_;refine tp (RF (a:=[109,97,99,104,105,110,101,32]++nu i) (b:=[32,117,112]) rfl rfl rfl (by simp[nu])) ?_;refine mv ?_;refine lR (ab rfl) rfl rfl rfl NL rfl (vc t c A v v36 bs ([109,97,99,104,105,110,101,32]++nu i++[32,117,112]) [1,(mr a i).own.version,0,1,2] hA hv (Nj hvd) (by simp[nu];omega)) (λ_ s=>aD [4,4] rfl s) (tY (l:=[1,(mr a i).own.version,0,1,2]) 0 rfl rfl) (λvR HR hR=>?_);obtain⟨w1,hw1,rfl⟩:=hR;refine nx J2 ?_;refine sr λ_ J10=>?_
 refine mv ?_;refine tp (gU rfl rfl) ?_;refine tp (bc (r:=0) rfl Gq rfl Jr rfl rfl) ?_;refine tp (fL (v:=(.pointer (some ⟨c,0,none⟩))) rfl On rfl rfl (fC 0 rfl rfl) rfl) ?_;refine mv ?_;refine lR (ab rfl) rfl rfl rfl Ml rfl (xG (i:=i) hok hn hi) (λ_ s=>aD [4] rfl s) (λ_ _ _=>trivial) (λvR HR hR=>?_);obtain⟨_,_,rfl,hH⟩:=hR;revert vR;intro ur h1 hH;rw[hrs]at hH;subst hH;refine je 1 rfl rfl (λhlr _=>?_);refine tp (dO rfl I6 rfl hlr) ?_;refine mv ?_;refine nx J10 ?_;refine am ?_;refine hO 1 ?_;refine sr λ_ J11=>?_
 refine tp (PV.lss rfl rfl rfl) ?_;refine nx J11 ?_;refine aa λ_ J12=>?_
 refine Hb rfl ?_;refine aW ?_;refine aA ?_;refine aA ?_;refine bq ?_;refine aE (dN _) (λ_ s=>ak [2,2,0] rfl s) ?_;refine bC rfl ?_;exact⟨_,hw1,rfl⟩;exact bP;exact bP;exact bP;exact bP
def pG(a:CL)(i:Nat):List UInt8:=(List.range i).flatMap (cI a)
theorem Ip(a:CL)(i:Nat):(cI a i).length=23:=by simp[cI,vV,nU,vm,nu]
theorem vU(a:CL)(i:Nat):pG a (i+1)=pG a i++cI a i:=by unfold pG;rw[cO,nA];simp
theorem sE(a:CL): ∀i,(pG a i).length=23*i
 |0=>rfl
 |i+1=>by rw[vU,ag,sE a i,Ip];omega
def MC(k:Nat):List UInt8:=vV [99,111,117,110,116,101,114] [((k:Nat):Int),0,0,0,0,0,0]
theorem KJ(k:Nat):(MC k).length=22:=by simp[MC,vV,nU,vm,nu]
def mn(a:CL)(k:Nat):List UInt8:=pG a 5++(List.range k).flatMap MC
theorem w8(a:CL):mn a 0=pG a 5:=aY _
theorem w9(a:CL)(k:Nat):mn a (k+1)=mn a k++MC k:=by unfold mn;rw[cO,nA,aG];simp
theorem nC(a:CL): ∀k,(mn a k).length=115+22*k
 |0=>by rw[w8,sE]
 |k+1=>by rw[w9,ag,nC a k,KJ];omega
theorem Nv{k:Nat}(hk:k<4):kd BookT.zero ((k:Nat):Int)=0:=by
 match k,hk with
 |0,_|1,_|2,_|3,_=>show _=_;kernel_rfl
theorem PW{k:Nat}(hk:k<4): ∀m∈([((k:Nat):Int),0,0,0,0,0,0]:List Int),0≤m∧m<10:=by
 intro m hm;simp only[bU,List.not_mem_nil,or_false]at hm;rcases hm with rfl|rfl|rfl|rfl|rfl|rfl|rfl
 · omega
 all_goals decide
theorem yQ(c:Nat)(a:CL)(g:CX)(hup:pk a)(hvw: ∀j,j<5→(mr a j).view=firstV)(hwf: ∀j i,j<5→i<5→WF (mirRow (mr a j).mirror ((i:Nat):Int)).flat)(htz:se a=BookT.zero)(hvd: ∀i,i<5→0≤(mr a i).own.version∧(mr a i).own.version<10)(hrs: ∀i,i<5→(a.at' i).reps=[])(n:Nat)(hok:CLOk n a)(hn:n≤100000):
 DT 40 #[(.pointer (some ⟨c,0,none⟩))] T0 [ek c a g] (RI (kX (mn a 4)) [ek c a g]):=by
 refine BD 40 Tryz.func40 rfl rfl rfl λw0 F hF=>sr λ_ J1=>PS ?_
 refine nx J1 (sr λ_ J2=>PS ?_);refine BV #[(.pointer (some ⟨c,0,none⟩)),(.pointer none),(.slice none 0 0)] ?_;refine XB λb10=>?_
 refine PS ?_;refine nx J2 (aa λ_ J3=>sr λ_ J4=>PS ?_);refine nx J4 (am ?_)
 refine bG (α:=(Nat)×(Value)×(Value)) (λ⟨i,A,v⟩=>i≤5∧(A= .pointer none∨A=(.pointer (some ⟨b10,1,none⟩)))∧v.oneCell'=true∧(0<i→A=(.pointer (some ⟨b10,1,none⟩)))) (λ⟨i,A,v⟩=>[(0,(.pointer (some ⟨c,0,none⟩))),(2,(kX ([]))),(3,(.pointer (some ⟨b10,0,none⟩))),(11,(.int .i64 (((i:Nat):Int))))]) (λ⟨i,A,v⟩=>[aj b10 [(.pointer (some ⟨c,0,none⟩)),A,v] 163,cH v (pG a i) 5,ek c a g]) (λ⟨i,A,v⟩=>5-i) (0, .pointer none, .slice none 0 0)
  ⟨aP _,Or.inl rfl,rfl,λh=>absurd h (by decide)⟩ SB
  (λ_ s=>aD [1,0,0] rfl (gf 5 1 s)) (λ⟨i,A,v⟩ hinv=>?_)
 obtain⟨hi,hA,hv,hself⟩:=hinv;refine sr λ_ J5=>PS ?_
 refine ap ?_ ?_<;>intro h12;refine nx J5 (aa λ_ J6=>CY (qx J6 (aa λ_ J7=>am (sr λ_ J8=>P2 ?_))));refine nx J8 (ac (P2 ?_));refine CR QP (E6 b10 c A v (pG a i) a g i (by omega) hA hv (by rw[sE];omega) hup hvw (hvd i (by omega)) (hrs i (by omega)) n hok hn) ID λvR HR hR=>?_
 obtain⟨w1,hw1,rfl⟩:=hR;refine au (af (ad J7 (ac (AD ?_))));refine PS ?_;refine au ?_
 exact aL ((i+1,(.pointer (some ⟨b10,1,none⟩)),w1):(Nat)×(Value)×(Value)) ⟨by omega,Or.inr rfl,hw1,λ_=>rfl⟩ (by show 5- (i+1)<5-i;omega)
  SB
  (λ_ s=>by
   show bR [aj b10 [(.pointer (some ⟨c,0,none⟩)),(.pointer (some ⟨b10,1,none⟩)),w1] 163,cH w1 (pG a (i+1)) 5,ek c a g] _;rw[vU]
   exact ak [0,0,0] rfl s)
 obtain rfl:A=(.pointer (some ⟨b10,1,none⟩)):=hself (by omega);obtain rfl:i=5:=by omega
 refine nx J5 (aa λ_ J9=>CN (aW (aA (aA (bq (ad J3 (sr λ_ J10=>PS ?_)))))));refine CR N1 (sd c a g hup hwf) (SM [2]) λvR HR hR=>?_
 obtain⟨bk,rfl,rfl⟩:=hR;rw[htz];refine PS ?_;refine nx J10 (aa λ_ J11=>sr λ_ J12=>PS ?_);refine nx J12 (am ?_)
 refine bG (α:=(Nat)×(Value)) (λ⟨k,v⟩=>k≤4∧v.oneCell'=true) (λ⟨k,v⟩=>[(0,(.pointer (some ⟨c,0,none⟩))),(2,(kX ([]))),(3,(.pointer (some ⟨b10,0,none⟩))),(5,(.pointer (some ⟨bk,0,none⟩))),(20,(.int .i64 (((k:Nat):Int))))]) (λ⟨k,v⟩=>[aj b10 [(.pointer (some ⟨c,0,none⟩)),(.pointer (some ⟨b10,1,none⟩)),v] 163,cH v (mn a k) 5,ek c a g,aj bk (ints BookT.zero.flat) 77]) (λ⟨k,v⟩=>4-k) (0,v)
  ⟨aP _,hv⟩ SB
  (λ_ s=>by
  show bR [aj b10 [(.pointer (some ⟨c,0,none⟩)),(.pointer (some ⟨b10,1,none⟩)),v] 163,cH v (mn a 0) 5,ek c a g,aj bk (ints BookT.zero.flat) 77] _;rw[w8]
  exact aD [2,2,0,0] rfl s) (λ⟨k,v⟩ hinv=>?_)
 obtain⟨hk,hv⟩:=hinv;refine sr λ_ J13=>PS ?_
 refine ap ?_ ?_<;>intro h21;refine nx J13 (aa λ_ J14=>CY (qx J14 (aa λ_ J15=>am (sr λ_ J16=>P2 ?_))));refine nx J16 (sr λ_ J17=>P2 ?_);refine CR QO (Dc c a g hup hvw hwf htz k (by omega)) (SM [2]) λvR HR hR=>?_
 obtain⟨hv3,rfl⟩:=hR;obtain rfl:vR=(.agg (ints (#v[0,0,0,0,0]:Vector Int 5).toList).toArray):=hv3;refine XZ OA (ints (#v[0,0,0,0,0]).toList) λb7=>?_
 refine bW (vs:=ints (#v[0,0,0,0,0]:Vector Int 5).toList) (i:=0) (ab rfl) rfl rfl rfl rfl rfl (by rw[(cV (#v[0,0,0,0,0]:Vector Int 5))];exact fR) (bv _) rfl rfl (by have h0:=(cV (#v[0,0,0,0,0]));have h1:=(cV (#v[0,0,0,0,0]:Vector Int 5));omega) (cy ((cV (#v[0,0,0,0,0])).trans (cV (#v[0,0,0,0,0]:Vector Int 5)).symm)) rfl (nx J17 (D0 df ?_));refine PD 0 ?_;refine PD 1 ?_;refine PD 2 ?_;refine PD 3 ?_;refine ta 6 rfl (oE rfl kJ aO rfl) ?_;refine AL 4 ?_;refine CR N0 (n6 bk 0 77 (λx=>ints x.flat) qg BookT.zero ((k:Nat):Int)) (SM [4]) λvR HR hR=>?_
 obtain⟨hv4,rfl⟩:=hR;rw[Nv (by omega)]at hv4;subst hv4;refine EN (AL 5 ?_);refine aM (cells:=#[(.int .i64 (((k:Nat):Int))),(.int .i64 0)]) (ab rfl) rfl rfl rfl eh oK rfl rfl rfl (by as_aux_lemma=>kernel_rfl) (λb31=>EN (AL 7 ?_));refine ci (H':=[own (.slice (some ⟨b31,0,none⟩) (2) (2)) (2) ([.int .i64 ((k:Nat):Int), .int .i64 0]) 3 1,aj bk (ints BookT.zero.flat) 77,aj b7 (ints (#v[0,0,0,0,0]:Vector Int 5).toList) 68,ek c a g,aj b10 [(.pointer (some ⟨c,0,none⟩)),(.pointer (some ⟨b10,1,none⟩)),v] 163,cH v (mn a k) 5]) (λ_ s=>tD (g:=b31) (cap:=2) (nn:=2) (e:=3) (cur:=[.int .i64 ((k:Nat):Int), .int .i64 0]) (xs:=[.int .i64 ((k:Nat):Int), .int .i64 0]) 0 rfl rfl (by decide) (by decide) rfl rfl s) (bX (k:=0) (news:=[.int .i64 0, .int .i64 0, .int .i64 0, .int .i64 0, .int .i64 0]) (nn':=7) (xs':=[.int .i64 ((k:Nat):Int), .int .i64 0, .int .i64 0, .int .i64 0, .int .i64 0, .int .i64 0, .int .i64 0]) (ab rfl) rfl rfl rfl eh oK rfl rfl rfl rfl rfl rfl (λ_ _=>gn rfl (RO 2) rfl) (by intro u hu;simp only[bU,List.not_mem_nil,or_false]at hu;rcases hu with rfl|rfl|rfl|rfl|rfl<;>rfl) (by decide) (by decide) rfl rfl (λv33 ov33=>EN (AL 8 ?_)))
 refine CQ NL (vc b10 c (.pointer (some ⟨b10,1,none⟩)) v v33 (mn a k) [99,111,117,110,116,101,114] [((k:Nat):Int),0,0,0,0,0,0] (Or.inr rfl) hv (PW (by omega)) (by rw[nC];simp;omega)) (SM [4,4]) (tY (l:=[((k:Nat):Int),0,0,0,0,0,0]) 0 rfl rfl) λvR HR hR=>?_
 obtain⟨w2,hw2,rfl⟩:=hR;refine EN (DN (af (ad J15 (ac (AD ?_)))));refine PS ?_;refine au ?_
 exact aL ((k+1,w2):(Nat)×(Value)) ⟨by omega,hw2⟩ (by show 4- (k+1)<4-k;omega)
  SB
  (λ_ s=>by
   show bR [aj b10 [(.pointer (some ⟨c,0,none⟩)),(.pointer (some ⟨b10,1,none⟩)),w2] 163,cH w2 (mn a (k+1)) 5,ek c a g,aj bk (ints BookT.zero.flat) 77] _;rw[w9]
   exact ak [0,0,3,1] rfl s)
 obtain rfl:k=4:=by omega
 refine nx J13 (aa λ_ J18=>CN (aW (aA (aA (bq (ad J11 (sr λ_ J19=>P2 ?_)))))));refine FA 1 Gq xh ?_;refine CE QN (CI b10 c v (mn a 4) (by rw[nC];omega) (by rw[nC];decide)) ID ?_;refine PS ?_;exact nx J19 (ah (WK [1] (aw rfl rfl ⟨rfl,rfl⟩)))
end Go.Proofs.YtkhjnolhhidecaaGreatDoor
end

section
namespace Api
open Go Leg Codec Wal
def hv(a b:Int):UInt8:=r8 (a%16+b%16*16)
theorem OT: ∀(x y:Fin 16),iR .i64 ((x.val:Nat):Int) (((y.val*16:Nat):Nat):Int)=((x.val+y.val*16:Nat):Int):=by decide+kernel
theorem QG(a b:Int):iR .i64 (a%16) (b%16*16)=a%16+b%16*16:=by
 have:=OT ⟨(a%16).toNat,by omega⟩ ⟨(b%16).toNat,by omega⟩;simp only at this;rw[show(((a%16).toNat:Nat):Int)=a%16 by omega,show((((b%16).toNat*16:Nat):Nat):Int)=b%16*16 by omega]at this;rw[this];omega
theorem Oi: ∀b:Fin 256,rH .u8 ((b.val:Nat):Int) 15=((b.val%16:Nat):Int):=by decide+kernel
theorem OK: ∀b:Fin 256,((b.val:Nat):Int).fdiv (2^min (4:Int).toNat IntKind.u8.bits)=((b.val / 16:Nat):Int):=by decide+kernel
def Eg(o:OpT):List UInt8:=[hv o.kind o.at',hv o.to' o.key,r8 o.n]++(if o.kind=4 then [hv o.change.kind o.change.who,r8 o.change.heir]else [r8 o.mask,r8 (o.torn+1)])
def gF(l:List OpT):List UInt8:=l.flatMap Eg
def k8(b:UInt8):Int:=((b.toNat%16:Nat):Int)
def lw(b:UInt8):Int:=((b.toNat / 16:Nat):Int)
def n8(b:UInt8):Int:=((b.toNat:Nat):Int)
def jR(b0 b1 b2 b3 b4:UInt8):OpT:=
 if k8 b0=4 then⟨k8 b0,lw b0,k8 b1,lw b1,n8 b2,⟨k8 b3,lw b3,n8 b4⟩,0,0,0⟩
 else if k8 b0=10 then⟨k8 b0,lw b0,k8 b1,lw b1,n8 b2, .zero,n8 b3,n8 b4-1,n8 b2⟩
 else⟨k8 b0,lw b0,k8 b1,lw b1,n8 b2, .zero,0,0,0⟩
def y2:List UInt8→List OpT
 |b0::b1::b2::b3::b4::r=>jR b0 b1 b2 b3 b4::y2 r
 |_=>[]
theorem I9(x:Int):IntKind.i64.wrap x%256=x%256:=by
 simp only[IntKind.wrap,IntKind.signed,IntKind.bits];simp;split<;>omega
theorem Dw(x:Int):r8 (IntKind.i64.wrap x)=r8 x:=by unfold r8;rw[I9]
theorem uY{r:List UInt8}(h:5≤r.length):y2 r=jR (r.getD 0 0) (r.getD 1 0) (r.getD 2 0) (r.getD 3 0) (r.getD 4 0)::y2 (r.drop 5):=by
 match r,h with
 |b0::b1::b2::b3::b4::r,_=>rfl
theorem Ig{r:List UInt8}(h:r.length<5):y2 r=[]:=by
 match r,h with
 | [],_| [_],_| [_,_],_| [_,_,_],_| [_,_,_,_],_=>rfl
theorem IK(o:OpT):(Eg o).length=5:=by unfold Eg;split<;>rfl
theorem F0(l:List OpT):(gF l).length=5*l.length:=by
 induction l with
 |nil=>rfl
 |cons o l ih=>rw[gF,cS,ag,IK,av];unfold gF at ih;rw[ih];omega
theorem Ng(b:UInt8):0≤n8 b∧n8 b<256:=by unfold n8;have:=b.toNat_lt;omega
theorem OpT.flat_length(o:OpT):o.flat.length=11:=by simp[OpT.flat,ChangeT.flat]
end Api
end

section
namespace Go.Proofs.YtkhjnolhhidecaaGreatDoor
open Go Leg Codec Api Dsk Wal
theorem qN(a b:Int):
 DT 41 #[(.int .i64 (a)),(.int .i64 (b))] T0 [] (RI (.int .u8 (((hv a b).toNat:Nat):Int)) []):=by
 refine BD 12 Tryz.func41 rfl rfl rfl λw0 F hF=>sr λ_ J1=>PS ?_
 refine nx J1 (sr λ_ J2=>PS ?_);refine tp (jm (r:=(a%16)) rfl rfl rfl (mask (k:=4) (by decide) _)) ?_;refine PS ?_;refine tp (jm (r:=(b%16)) rfl rfl rfl (mask (k:=4) (by decide) _)) ?_;refine tp (wI (r:=(b%16*16)) rfl rfl rfl (by omega) (by show IntKind.i64.wrap (b%16*16)=_;exact bH (by omega) (by omega))) ?_;refine tp (He (r:=(a%16+b%16*16)) rfl rfl rfl (QG a b)) ?_;refine tp (cD (r:=(((hv a b).toNat:Nat):Int)) rfl Y3 Y5 rfl (r8_wrap _)) ?_;refine PS ?_;exact nx J2 (ah (WK [] (aw rfl rfl ⟨rfl,rfl⟩)))
theorem xT(x:Value)(l:List OpT)(hl:l.length≤1000000):
 DT 18 #[x] (IsL 11 (EF OpT.flat) x l) [] (dG (λr' H=>∃u,r'=u∧H=[cH u (gF l) 5])):=by
 refine BD 57 Tryz.func18 rfl rfl rfl λw0 F hF=>sr λ_ J1=>PS ?_
 refine nx J1 (sr λ_ J2=>PS ?_);refine nx J2 (aa λ_ J3=>sr λ_ J4=>PS ?_);refine tp (dO rfl K7 rfl hF.len) ?_;refine PS ?_;refine nx J4 (am ?_)
 refine bG (α:=(Nat)×(Value)) (λ⟨k,u⟩=>k≤l.length∧u.oneCell'=true) (λ⟨k,u⟩=>[(2,(.slice none 0 0)),(3,u),(6,x),(7,(.int .i64 (((l.length:Nat):Int)))),(8,(.int .i64 (((k:Nat):Int))))]) (λ⟨k,u⟩=>[cH u (gF (l.take k)) 5]) (λ⟨k,u⟩=>l.length-k) (0,(.slice none 0 0))
  ⟨aP _,rfl⟩ SB
  (λ_ s=>gf 5 1 s) (λ⟨k,u⟩ hinv=>?_)
 obtain⟨hk,hu⟩:=hinv;have hlen:=F0 (l.take k);rw[bB]at hlen;refine sr λ_ J5=>PS ?_
 refine ap ?_ ?_<;>intro h9;obtain⟨b_a,off_a,cap_a,cs_a,T_a,z_a,us_a,hv_a,hc_a,hb_a,hl_a,hs_a,hE_a⟩:=IsL.at hF (j:=k) (by omega);replace hE_a:us_a=ints l[k].flat:=hE_a;refine nx J5 (aa λ_ J6=>CY (qx J6 (aa λ_ J7=>am (sr λ_ J8=>tp (bn (r:=off_a+k*11) hv_a rfl K7 st rfl rfl (by omega) (by omega) (by omega)) ?_))));refine tp (MT (vs:=ints (l[k]).flat) rfl eZ rfl st rfl (jW hb_a (λ_ h=>fD h)) (ic _) (hs_a.trans hE_a)) ?_;refine XZ Qv (ints OpT.zero.flat) λb5=>?_
 refine SW 0 st ic ?_;refine nx J8 (aa λ_ J9=>D1 0 bl ?_);refine PD 0 ?_;refine FD 1 0 eZ aO ?_;refine LX 2 Y3 (.int .i64 ((l[k]).kind)) ?_ (hc:=by exact cN _ rfl);refine FD 3 1 eZ aO ?_;refine LX 4 Y3 (.int .i64 ((l[k]).at')) ?_ (hc:=by exact bT _ rfl);refine FD 6 2 eZ aO ?_;refine LX 7 Y3 (.int .i64 ((l[k]).to')) ?_ (hc:=by exact iG _ rfl);refine FD 8 3 eZ aO ?_;refine LX 9 Y3 (.int .i64 ((l[k]).key)) ?_ (hc:=by exact ol _ rfl);refine FD 11 4 eZ aO ?_;refine LX 12 Y3 (.int .i64 ((l[k]).n)) ?_ (hc:=by exact rc _ rfl);refine ta 13 rfl (cD (r:=(((r8 ((l[k]).n)).toNat:Nat):Int)) rfl Y3 Y5 rfl (r8_wrap _)) ?_;refine AL 5 ?_;refine CE NY (qN ((l[k]).kind) ((l[k]).at')) ID ?_;refine EN (AL 10 ?_);refine CE NY (qN ((l[k]).to') ((l[k]).key)) ID ?_;refine EN (AL 14 ?_);refine aM (cells:=#[(.int .u8 ((((hv ((l[k]).kind) ((l[k]).at')).toNat:Nat):Int))),(.int .u8 ((((hv ((l[k]).to') ((l[k]).key)).toNat:Nat):Int))),(.int .u8 ((((r8 ((l[k]).n)).toNat:Nat):Int)))]) (ab rfl) rfl rfl rfl fO uD rfl rfl rfl (by as_aux_lemma=>kernel_rfl) (λb26=>EN (AL 15 ?_))
 refine bX (k:=2) (news:=dX ([(hv ((l[k]).kind) ((l[k]).at')),(hv ((l[k]).to') ((l[k]).key)),(r8 ((l[k]).n))])) (nn':=(gF (l.take k)++[(hv ((l[k]).kind) ((l[k]).at')),(hv ((l[k]).to') ((l[k]).key)),(r8 ((l[k]).n))]:List UInt8).length) (xs':=dX (gF (l.take k)++[(hv ((l[k]).kind) ((l[k]).at')),(hv ((l[k]).to') ((l[k]).key)),(r8 ((l[k]).n))])) (ab rfl) rfl rfl rfl fO uD rfl rfl rfl rfl rfl rfl (λ_ _=>gn rfl (RO 0) rfl) (ff [(hv ((l[k]).kind) ((l[k]).at')),(hv ((l[k]).to') ((l[k]).key)),(r8 ((l[k]).n))]) (by simp only[maxLen,av,az,ag];omega) (by first|omega| (simp only[av,az,ag];omega)) (by simp) (gE _ _).symm (λv27 ov27=>EN (PD 16 ?_));refine DN (ad J9 (sr λ_ J10=>FA 0 eZ aO ?_));refine LT 1 Y3 (.int .i64 ((l[k]).kind)) ?_ (hc:=by exact cN _ rfl);refine PS ?_;refine ap ?_ ?_<;>intro h30;refine nx J10 (CY (D1 1 bl ?_));refine PD 0 ?_;refine FD 1 5 eZ fF ?_;refine FD 2 5 mS aO ?_;refine LX 3 Y3 (.int .i64 (((l[k]).change).kind)) ?_ (hc:=by exact Rv (l[k]) 0 rfl (by decide) (ChangeT.at_kind _ rfl));refine FD 4 5 eZ fF ?_;refine FD 5 6 mS aO ?_;refine LX 6 Y3 (.int .i64 (((l[k]).change).who)) ?_ (hc:=by exact Rv (l[k]) 1 rfl (by decide) (io _ rfl));refine FD 8 5 eZ fF ?_;refine FD 9 7 mS aO ?_;refine LX 10 Y3 (.int .i64 (((l[k]).change).heir)) ?_ (hc:=by exact Rv (l[k]) 2 rfl (by decide) (og _ rfl));refine ta 11 rfl (cD (r:=(((r8 (((l[k]).change).heir)).toNat:Nat):Int)) rfl Y3 Y5 rfl (r8_wrap _)) ?_;refine AL 7 ?_
 refine CE NY (qN (((l[k]).change).kind) (((l[k]).change).who)) ID ?_;refine EN (AL 12 ?_);refine aM (cells:=#[(.int .u8 ((((hv (((l[k]).change).kind) (((l[k]).change).who)).toNat:Nat):Int))),(.int .u8 ((((r8 (((l[k]).change).heir)).toNat:Nat):Int)))]) (ab rfl) rfl rfl rfl fO uD rfl rfl rfl (by as_aux_lemma=>kernel_rfl) (λb43=>EN (AL 13 ?_));refine bX (k:=3) (news:=dX ([(hv (((l[k]).change).kind) (((l[k]).change).who)),(r8 (((l[k]).change).heir))])) (nn':=(gF (l.take k)++[(hv ((l[k]).kind) ((l[k]).at')),(hv ((l[k]).to') ((l[k]).key)),(r8 ((l[k]).n))]++[(hv (((l[k]).change).kind) (((l[k]).change).who)),(r8 (((l[k]).change).heir))]:List UInt8).length) (xs':=dX (gF (l.take k)++[(hv ((l[k]).kind) ((l[k]).at')),(hv ((l[k]).to') ((l[k]).key)),(r8 ((l[k]).n))]++[(hv (((l[k]).change).kind) (((l[k]).change).who)),(r8 (((l[k]).change).heir))])) (ab rfl) rfl rfl rfl fO uD rfl rfl rfl rfl rfl rfl (λ_ _=>gn rfl (RO 0) rfl) (ff [(hv (((l[k]).change).kind) (((l[k]).change).who)),(r8 (((l[k]).change).heir))]) (by simp only[maxLen,av,az,ag];omega) (by first|omega| (simp only[av,az,ag];omega)) (by simp) (gE _ _).symm (λv44 ov44=>EN (PD 14 ?_));refine DN (af (ad J7 (ac (AD ?_))));refine PS ?_;refine au ?_
 exact aL ((k+1,v44):(Nat)×(Value)) ⟨by omega,ov44⟩ (by show l.length- (k+1)<l.length-k;omega)
  SB
  (λ_ s=>by
   show bR [cH v44 (gF (l.take (k+1))) 5] _;rw[show gF (l.take (k+1))=gF (l.take k)++[(hv ((l[k]).kind) ((l[k]).at')),(hv ((l[k]).to') ((l[k]).key)),(r8 ((l[k]).n))]++[(hv (((l[k]).change).kind) (((l[k]).change).who)),(r8 (((l[k]).change).heir))]by rw[bZ (by omega),gF,nA];simp[gF,Eg,h30,Dw]]
   exact ak [3] rfl s)
 refine nx J10 (CN (ac (PS ?_)));refine FA 8 eZ aO ?_;refine LT 1 Y3 (.int .i64 ((l[k]).mask)) ?_ (hc:=by exact OpT.at_mask _ rfl);refine tp (cD (r:=(((r8 ((l[k]).mask)).toNat:Nat):Int)) rfl Y3 Y5 rfl (r8_wrap _)) ?_;refine FA 9 eZ aO ?_;refine LT 1 Y3 (.int .i64 ((l[k]).torn)) ?_ (hc:=by exact OpT.at_torn _ rfl);refine tp (bA (r:=(IntKind.i64.wrap ((l[k]).torn+1))) rfl rfl rfl rfl) ?_;refine tp (cD (r:=(((r8 (IntKind.i64.wrap ((l[k]).torn+1))).toNat:Nat):Int)) rfl Y3 Y5 rfl (r8_wrap _)) ?_
 refine aM (cells:=#[(.int .u8 ((((r8 ((l[k]).mask)).toNat:Nat):Int))),(.int .u8 ((((r8 (IntKind.i64.wrap ((l[k]).torn+1))).toNat:Nat):Int)))]) (ab rfl) rfl rfl rfl fO uD rfl rfl rfl (by as_aux_lemma=>kernel_rfl) (λb53=>bX (k:=3) (news:=dX ([(r8 ((l[k]).mask)),(r8 (IntKind.i64.wrap ((l[k]).torn+1)))])) (nn':=(gF (l.take k)++[(hv ((l[k]).kind) ((l[k]).at')),(hv ((l[k]).to') ((l[k]).key)),(r8 ((l[k]).n))]++[(r8 ((l[k]).mask)),(r8 (IntKind.i64.wrap ((l[k]).torn+1)))]:List UInt8).length) (xs':=dX (gF (l.take k)++[(hv ((l[k]).kind) ((l[k]).at')),(hv ((l[k]).to') ((l[k]).key)),(r8 ((l[k]).n))]++[(r8 ((l[k]).mask)),(r8 (IntKind.i64.wrap ((l[k]).torn+1)))])) (ab rfl) rfl rfl rfl fO uD rfl rfl rfl rfl rfl rfl (λ_ _=>gn rfl (RO 0) rfl) (ff [(r8 ((l[k]).mask)),(r8 (IntKind.i64.wrap ((l[k]).torn+1)))]) (by simp only[maxLen,av,az,ag];omega) (by first|omega| (simp only[av,az,ag];omega)) (by simp) (gE _ _).symm (λv54 ov54=>PS ?_));refine au (af (ad J7 (ac (AD ?_))));refine PS ?_;refine au ?_
 exact aL ((k+1,v54):(Nat)×(Value)) ⟨by omega,ov54⟩ (by show l.length- (k+1)<l.length-k;omega)
  SB
  (λ_ s=>by
   show bR [cH v54 (gF (l.take (k+1))) 5] _;rw[show gF (l.take (k+1))=gF (l.take k)++[(hv ((l[k]).kind) ((l[k]).at')),(hv ((l[k]).to') ((l[k]).key)),(r8 ((l[k]).n))]++[(r8 ((l[k]).mask)),(r8 (IntKind.i64.wrap ((l[k]).torn+1)))]by rw[bZ (by omega),gF,nA];simp[gF,Eg,h30,Dw]]
   exact ak [3] rfl s)
 refine nx J5 (aa λ_ J11=>CN (aW (aA (aA (bq (ad J3 (sr λ_ J12=>P2 ?_)))))));refine nx J12 (ah (WK [0] (aw rfl rfl ?_)));have e:l.take k=l:=aC (by omega);exact⟨u,rfl,by show [cH u (gF (l.take k)) 5]=_;rw[e]⟩
theorem K0(b:UInt8):rH .u8 (((b.toNat:Nat):Nat):Int) 15=(((b.toNat%16:Nat):Nat):Int):=Oi ⟨b.toNat,b.toNat_lt⟩
theorem NB(b:UInt8):(((b.toNat:Nat):Nat):Int).fdiv (2^min (4:Int).toNat IntKind.u8.bits)=(((b.toNat / 16:Nat):Nat):Int):=OK ⟨b.toNat,b.toNat_lt⟩
theorem yb(b:UInt8):IntKind.i64.wrap (((b.toNat%16:Nat):Nat):Int)=k8 b:=by unfold k8;exact bH (by omega) (by omega)
theorem yh(b:UInt8):IntKind.i64.wrap (((b.toNat / 16:Nat):Nat):Int)=lw b:=by unfold lw;have:=b.toNat_lt;exact bH (by omega) (by omega)
theorem wP(b:UInt8):IntKind.i64.wrap (((b.toNat:Nat):Nat):Int)=n8 b:=by unfold n8;have:=b.toNat_lt;exact bH (by omega) (by omega)
theorem yt{v:Value}{k:Nat}(h:v.oneCell'=true):(wz v k).oneCell'=true:=by
 unfold wz;split
 · rfl
 · exact h
theorem xU(x:Value)(bs:List UInt8)(hl:bs.length≤1000000):
 DT 39 #[x] (IsB x bs) [] (dG (λr' H=>∃u,r'=u∧H=[own u ((y2 bs).length) (ints (List.flatMap OpT.flat (y2 bs))) 30 11])):=by
 refine BD 76 Tryz.func39 rfl rfl rfl λw0 F hF=>sr λ_ J1=>PS ?_
 refine nx J1 (sr λ_ J2=>PS ?_);refine nx J2 (aa λ_ J3=>am ?_)
 refine bG (α:=(List UInt8)×(Value)×(List OpT)×(Value)) (λ⟨r,xv,done,u⟩=>IsB xv r F∧r.length≤1000000∧done.length+r.length / 5≤1000000∧y2 bs=done++y2 r∧xv.oneCell'=true∧u.oneCell'=true) (λ⟨r,xv,done,u⟩=>[(0,xv),(2,(.slice none 0 0)),(3,u)]) (λ⟨r,xv,done,u⟩=>[own u (done.length) (ints (List.flatMap OpT.flat done)) 30 11]) (λ⟨r,xv,done,u⟩=>r.length) (bs,x,[],(.slice none 0 0))
  ⟨hF,hl,by simp;omega,rfl,hF.one,rfl⟩ SB
  (λ_ s=>gf 30 11 s) (λ⟨r,xv,done,u⟩ hinv=>?_)
 obtain⟨hB,hr,hd,ho,hx,hu⟩:=hinv;have hU:IsW xv r F:=Lk hB;have hUl:=hB.len;refine aa λ_ J4=>sr λ_ J5=>PS ?_
 refine tp (dO rfl fO rfl hUl) ?_;refine PS ?_;refine ap ?_ ?_<;>intro h7;obtain⟨b_b,off_b,cap_b,cs_b,T_b,z_b,hv_b,hb_b,hcs_b,hcp_b⟩:=IsW.at hU (j:=0) (by omega);have hlt_b:=IsW.lt hU;refine nx J5 (CY (qx J4 (aa λ_ J6=>am (aa λ_ J7=>D0 bl ?_))));refine PD 0 ?_;refine ta 1 rfl (bn (r:=off_b) hv_b rfl fO kx rfl rfl (by omega) (by omega) (by omega)) ?_;refine ta 2 rfl (cm (v:=(.int .u8 (((((r).getD 0 0).toNat:Nat):Int)))) rfl Y5 rfl rfl (jW hb_b (λ_ h=>h.1)) (hcs_b 0 (by omega))) ?_;refine ta 3 rfl (jm (r:=((((r.getD 0 0).toNat%16:Nat):Nat):Int)) rfl rfl rfl (K0 _)) ?_;refine ta 4 rfl (cD (r:=(k8 (r.getD 0 0))) rfl Y5 Y3 rfl (yb _)) ?_;refine PD 5 ?_;refine ta 6 rfl (bn (r:=off_b) hv_b rfl fO kx rfl rfl (by omega) (by omega) (by omega)) ?_;refine ta 7 rfl (cm (v:=(.int .u8 (((((r).getD 0 0).toNat:Nat):Int)))) rfl Y5 rfl rfl (jW hb_b (λ_ h=>h.1)) (hcs_b 0 (by omega))) ?_;refine ta 8 rfl (iF (r:=((((r.getD 0 0).toNat / 16:Nat):Nat):Int)) rfl rfl rfl (by omega) (NB _)) ?_;refine ta 9 rfl (cD (r:=(lw (r.getD 0 0))) rfl Y5 Y3 rfl (yh _)) ?_;refine PD 10 ?_;refine ta 11 rfl (bn (r:=off_b+1) hv_b rfl fO kx rfl rfl (by omega) (by omega) (by omega)) ?_;refine ta 12 rfl (cm (v:=(.int .u8 (((((r).getD 1 0).toNat:Nat):Int)))) rfl Y5 rfl rfl (jW hb_b (λ_ h=>h.1)) (hcs_b 1 (by omega))) ?_;refine ta 13 rfl (jm (r:=((((r.getD 1 0).toNat%16:Nat):Nat):Int)) rfl rfl rfl (K0 _)) ?_
 refine ta 14 rfl (cD (r:=(k8 (r.getD 1 0))) rfl Y5 Y3 rfl (yb _)) ?_;refine PD 15 ?_;refine ta 16 rfl (bn (r:=off_b+1) hv_b rfl fO kx rfl rfl (by omega) (by omega) (by omega)) ?_;refine ta 17 rfl (cm (v:=(.int .u8 (((((r).getD 1 0).toNat:Nat):Int)))) rfl Y5 rfl rfl (jW hb_b (λ_ h=>h.1)) (hcs_b 1 (by omega))) ?_;refine ta 18 rfl (iF (r:=((((r.getD 1 0).toNat / 16:Nat):Nat):Int)) rfl rfl rfl (by omega) (NB _)) ?_;refine ta 19 rfl (cD (r:=(lw (r.getD 1 0))) rfl Y5 Y3 rfl (yh _)) ?_;refine PD 20 ?_;refine ta 21 rfl (bn (r:=off_b+2) hv_b rfl fO kx rfl rfl (by omega) (by omega) (by omega)) ?_;refine ta 22 rfl (cm (v:=(.int .u8 (((((r).getD 2 0).toNat:Nat):Int)))) rfl Y5 rfl rfl (jW hb_b (λ_ h=>h.1)) (hcs_b 2 (by omega))) ?_;refine ta 23 rfl (cD (r:=(n8 (r.getD 2 0))) rfl Y5 Y3 rfl (wP _)) ?_;refine ta 24 rfl (ku OpT.zero (OpT.mk (k8 (r.getD 0 0)) (lw (r.getD 0 0)) (k8 (r.getD 1 0)) (lw (r.getD 1 0)) (n8 (r.getD 2 0)) ChangeT.zero 0 0 0) [(0,[Value.int .i64 (k8 (r.getD 0 0))]),(1,[Value.int .i64 (lw (r.getD 0 0))]),(2,[Value.int .i64 (k8 (r.getD 1 0))]),(3,[Value.int .i64 (lw (r.getD 1 0))]),(4,[Value.int .i64 (n8 (r.getD 2 0))])] eZ gV (g:=OpT.sg)) ?_;refine AL 25 ?_;refine XZ Qv (ints OpT.zero.flat) λb4=>?_
 refine EN (AL 26 ?_);refine SW 0 st ic ?_;refine EN (DN (ad J7 (aa λ_ J8=>sr λ_ J9=>FA 0 eZ aO ?_)));refine LT 0 Y3 (.int .i64 ((k8 (r.getD 0 0)))) ?_ (hc:=by exact cN _ rfl);refine nx J9 (am (sr λ_ J10=>PS ?_));refine ap ?_ ?_<;>intro h38;refine PS ?_;refine nx J10 (CY (D0 bl ?_));refine PD 0 ?_;refine ta 1 rfl (bn (r:=off_b+3) hv_b rfl fO kx rfl rfl (by omega) (by omega) (by omega)) ?_;refine ta 2 rfl (cm (v:=(.int .u8 (((((r).getD 3 0).toNat:Nat):Int)))) rfl Y5 rfl rfl (jW hb_b (λ_ h=>h.1)) (hcs_b 3 (by omega))) ?_;refine ta 3 rfl (jm (r:=((((r.getD 3 0).toNat%16:Nat):Nat):Int)) rfl rfl rfl (K0 _)) ?_;refine ta 4 rfl (cD (r:=(k8 (r.getD 3 0))) rfl Y5 Y3 rfl (yb _)) ?_;refine PD 5 ?_;refine ta 6 rfl (bn (r:=off_b+3) hv_b rfl fO kx rfl rfl (by omega) (by omega) (by omega)) ?_;refine ta 7 rfl (cm (v:=(.int .u8 (((((r).getD 3 0).toNat:Nat):Int)))) rfl Y5 rfl rfl (jW hb_b (λ_ h=>h.1)) (hcs_b 3 (by omega))) ?_;refine ta 8 rfl (iF (r:=((((r.getD 3 0).toNat / 16:Nat):Nat):Int)) rfl rfl rfl (by omega) (NB _)) ?_;refine ta 9 rfl (cD (r:=(lw (r.getD 3 0))) rfl Y5 Y3 rfl (yh _)) ?_;refine PD 10 ?_;refine ta 11 rfl (bn (r:=off_b+4) hv_b rfl fO kx rfl rfl (by omega) (by omega) (by omega)) ?_;refine ta 12 rfl (cm (v:=(.int .u8 (((((r).getD 4 0).toNat:Nat):Int)))) rfl Y5 rfl rfl (jW hb_b (λ_ h=>h.1)) (hcs_b 4 (by omega))) ?_;refine ta 13 rfl (cD (r:=(n8 (r.getD 4 0))) rfl Y5 Y3 rfl (wP _)) ?_
 refine ta 14 rfl (ku ChangeT.zero (ChangeT.mk (k8 (r.getD 3 0)) (lw (r.getD 3 0)) (n8 (r.getD 4 0))) [(0,[Value.int .i64 (k8 (r.getD 3 0))]),(1,[Value.int .i64 (lw (r.getD 3 0))]),(2,[Value.int .i64 (n8 (r.getD 4 0))])] mS uB (g:=ChangeT.sg)) ?_;refine FD 15 5 eZ fF ?_;refine AL 16 ?_;refine SP 0 fF aJ ic OpT.wp_change ?_;refine EN (DN (af (ad J8 (ac ?_))));have hop:(OpT.mk (k8 (r.getD 0 0)) (lw (r.getD 0 0)) (k8 (r.getD 1 0)) (lw (r.getD 1 0)) (n8 (r.getD 2 0)) (ChangeT.mk (k8 (r.getD 3 0)) (lw (r.getD 3 0)) (n8 (r.getD 4 0))) 0 0 0)=jR (r.getD 0 0) (r.getD 1 0) (r.getD 2 0) (r.getD 3 0) (r.getD 4 0):=by first| (rw[jR,if_pos h38];try rfl)| (rw[jR,if_neg h38,if_pos h56];try rfl)| (rw[jR,if_neg h38,if_neg h56];try rfl)
 refine PS ?_;refine LW 0 eZ st ic ?_;refine aM (cells:=(ints (OpT.mk (k8 (r.getD 0 0)) (lw (r.getD 0 0)) (k8 (r.getD 1 0)) (lw (r.getD 1 0)) (n8 (r.getD 2 0)) (ChangeT.mk (k8 (r.getD 3 0)) (lw (r.getD 3 0)) (n8 (r.getD 4 0))) 0 0 0).flat).toArray) (ab rfl) rfl rfl rfl K7 FU rfl rfl rfl (kc (ic (OpT.mk (k8 (r.getD 0 0)) (lw (r.getD 0 0)) (k8 (r.getD 1 0)) (lw (r.getD 1 0)) (n8 (r.getD 2 0)) (ChangeT.mk (k8 (r.getD 3 0)) (lw (r.getD 3 0)) (n8 (r.getD 4 0))) 0 0 0)) (by simp)) (λb73=>?_);change TL _ _ _ _ _ _ _ _ _ [aj b73 (ints (OpT.mk (k8 (r.getD 0 0)) (lw (r.getD 0 0)) (k8 (r.getD 1 0)) (lw (r.getD 1 0)) (n8 (r.getD 2 0)) (ChangeT.mk (k8 (r.getD 3 0)) (lw (r.getD 3 0)) (n8 (r.getD 4 0))) 0 0 0).flat) 30,aj b4 (ints (OpT.mk (k8 (r.getD 0 0)) (lw (r.getD 0 0)) (k8 (r.getD 1 0)) (lw (r.getD 1 0)) (n8 (r.getD 2 0)) (ChangeT.mk (k8 (r.getD 3 0)) (lw (r.getD 3 0)) (n8 (r.getD 4 0))) 0 0 0).flat) 30,own u (done.length) (ints (List.flatMap OpT.flat done)) 30 11]
 refine bX (k:=2) (news:=ints (OpT.mk (k8 (r.getD 0 0)) (lw (r.getD 0 0)) (k8 (r.getD 1 0)) (lw (r.getD 1 0)) (n8 (r.getD 2 0)) (ChangeT.mk (k8 (r.getD 3 0)) (lw (r.getD 3 0)) (n8 (r.getD 4 0))) 0 0 0).flat) (nn':=(done++[jR (r.getD 0 0) (r.getD 1 0) (r.getD 2 0) (r.getD 3 0) (r.getD 4 0)]).length) (xs':=ints (List.flatMap OpT.flat (done++[jR (r.getD 0 0) (r.getD 1 0) (r.getD 2 0) (r.getD 3 0) (r.getD 4 0)]))) (ab rfl) rfl rfl rfl K7 FU rfl rfl rfl rfl rfl rfl (λ_ _=>gn (ic _) (RO 0) (by rw[bb,gC])) (bv _) (by simp only[maxLen];omega) (by omega) (by simp) (by rw[←hop];simp[ints]) (λv74 ov74=>PS ?_);refine au (af (ad J6 (ac (PS ?_))));refine tp (nd (zp (k:=5) rfl fO kx (by rw[←hv_b];rfl) rfl (by omega) (by omega) rfl) (congrArg (λq=>wz q 5) hv_b.symm)) ?_;refine PS ?_;refine au ?_
 exact aL (((r.drop 5),(wz xv 5),(done++[jR (r.getD 0 0) (r.getD 1 0) (r.getD 2 0) (r.getD 3 0) (r.getD 4 0)]),v74):(List UInt8)×(Value)×(List OpT)×(Value)) ⟨hB.cut 5 (by omega),by rw[bV];omega,by rw[ag,bV];simp;omega,by rw[ho,uY (by omega)];simp,yt hx,ov74⟩ (by show(r.drop 5).length<r.length;rw[bV];omega)
  SB
  (λ_ s=>ak [2] rfl s)
 refine PS ?_;refine nx J10 (CN (sr λ_ J11=>PS ?_));refine ap ?_ ?_<;>intro h56;refine PS ?_;refine nx J11 (CY (D0 bl ?_));refine PD 0 ?_;refine ta 1 rfl (bn (r:=off_b+3) hv_b rfl fO kx rfl rfl (by omega) (by omega) (by omega)) ?_;refine ta 2 rfl (cm (v:=(.int .u8 (((((r).getD 3 0).toNat:Nat):Int)))) rfl Y5 rfl rfl (jW hb_b (λ_ h=>h.1)) (hcs_b 3 (by omega))) ?_;refine ta 3 rfl (cD (r:=(n8 (r.getD 3 0))) rfl Y5 Y3 rfl (wP _)) ?_;refine PD 4 ?_;refine ta 5 rfl (bn (r:=off_b+4) hv_b rfl fO kx rfl rfl (by omega) (by omega) (by omega)) ?_;refine ta 6 rfl (cm (v:=(.int .u8 (((((r).getD 4 0).toNat:Nat):Int)))) rfl Y5 rfl rfl (jW hb_b (λ_ h=>h.1)) (hcs_b 4 (by omega))) ?_;refine ta 7 rfl (cD (r:=(n8 (r.getD 4 0))) rfl Y5 Y3 rfl (wP _)) ?_;refine ta 8 rfl (iE (r:=(n8 (r.getD 4 0)-1)) rfl rfl rfl (bH (by have:=Ng (r.getD 4 0);omega) (by have:=Ng (r.getD 4 0);omega))) ?_;refine FD 9 4 eZ aO ?_;refine AL 10 ?_;refine LT 0 Y3 (.int .i64 ((n8 (r.getD 2 0)))) ?_ (hc:=by exact rc _ rfl);refine EN (FD 11 8 eZ aO ?_);refine AL 12 ?_;refine SS 0 aO (ic _) (OpT.set_mask _ rfl _) ?_;refine EN (FD 13 9 eZ aO ?_);refine AL 14 ?_;refine SS 0 aO (ic _) (OpT.set_torn _ rfl _) ?_;refine EN (FD 15 10 eZ aO ?_);refine AL 16 ?_;refine SS 0 aO (ic _) (OpT.set_cut _ rfl _) ?_;refine EN (DN (af (ad J8 (ac ?_))))
 have hop:(OpT.mk (k8 (r.getD 0 0)) (lw (r.getD 0 0)) (k8 (r.getD 1 0)) (lw (r.getD 1 0)) (n8 (r.getD 2 0)) ChangeT.zero (n8 (r.getD 3 0)) (n8 (r.getD 4 0)-1) (n8 (r.getD 2 0)))=jR (r.getD 0 0) (r.getD 1 0) (r.getD 2 0) (r.getD 3 0) (r.getD 4 0):=by first| (rw[jR,if_pos h38];try rfl)| (rw[jR,if_neg h38,if_pos h56];try rfl)| (rw[jR,if_neg h38,if_neg h56];try rfl)
 refine PS ?_;refine LW 0 eZ st ic ?_;refine aM (cells:=(ints (OpT.mk (k8 (r.getD 0 0)) (lw (r.getD 0 0)) (k8 (r.getD 1 0)) (lw (r.getD 1 0)) (n8 (r.getD 2 0)) ChangeT.zero (n8 (r.getD 3 0)) (n8 (r.getD 4 0)-1) (n8 (r.getD 2 0))).flat).toArray) (ab rfl) rfl rfl rfl K7 FU rfl rfl rfl (kc (ic (OpT.mk (k8 (r.getD 0 0)) (lw (r.getD 0 0)) (k8 (r.getD 1 0)) (lw (r.getD 1 0)) (n8 (r.getD 2 0)) ChangeT.zero (n8 (r.getD 3 0)) (n8 (r.getD 4 0)-1) (n8 (r.getD 2 0)))) (by simp)) (λb73=>?_);change TL _ _ _ _ _ _ _ _ _ [aj b73 (ints (OpT.mk (k8 (r.getD 0 0)) (lw (r.getD 0 0)) (k8 (r.getD 1 0)) (lw (r.getD 1 0)) (n8 (r.getD 2 0)) ChangeT.zero (n8 (r.getD 3 0)) (n8 (r.getD 4 0)-1) (n8 (r.getD 2 0))).flat) 30,aj b4 (ints (OpT.mk (k8 (r.getD 0 0)) (lw (r.getD 0 0)) (k8 (r.getD 1 0)) (lw (r.getD 1 0)) (n8 (r.getD 2 0)) ChangeT.zero (n8 (r.getD 3 0)) (n8 (r.getD 4 0)-1) (n8 (r.getD 2 0))).flat) 30,own u (done.length) (ints (List.flatMap OpT.flat done)) 30 11]
 refine bX (k:=2) (news:=ints (OpT.mk (k8 (r.getD 0 0)) (lw (r.getD 0 0)) (k8 (r.getD 1 0)) (lw (r.getD 1 0)) (n8 (r.getD 2 0)) ChangeT.zero (n8 (r.getD 3 0)) (n8 (r.getD 4 0)-1) (n8 (r.getD 2 0))).flat) (nn':=(done++[jR (r.getD 0 0) (r.getD 1 0) (r.getD 2 0) (r.getD 3 0) (r.getD 4 0)]).length) (xs':=ints (List.flatMap OpT.flat (done++[jR (r.getD 0 0) (r.getD 1 0) (r.getD 2 0) (r.getD 3 0) (r.getD 4 0)]))) (ab rfl) rfl rfl rfl K7 FU rfl rfl rfl rfl rfl rfl (λ_ _=>gn (ic _) (RO 0) (by rw[bb,gC])) (bv _) (by simp only[maxLen];omega) (by omega) (by simp) (by rw[←hop];simp[ints]) (λv74 ov74=>PS ?_);refine au (af (ad J6 (ac (PS ?_))));refine tp (nd (zp (k:=5) rfl fO kx (by rw[←hv_b];rfl) rfl (by omega) (by omega) rfl) (congrArg (λq=>wz q 5) hv_b.symm)) ?_;refine PS ?_;refine au ?_
 exact aL (((r.drop 5),(wz xv 5),(done++[jR (r.getD 0 0) (r.getD 1 0) (r.getD 2 0) (r.getD 3 0) (r.getD 4 0)]),v74):(List UInt8)×(Value)×(List OpT)×(Value)) ⟨hB.cut 5 (by omega),by rw[bV];omega,by rw[ag,bV];simp;omega,by rw[ho,uY (by omega)];simp,yt hx,ov74⟩ (by show(r.drop 5).length<r.length;rw[bV];omega)
  SB
  (λ_ s=>ak [2] rfl s)
 refine PS ?_;refine nx J11 (CN (aR (af (ad J8 (ac ?_)))));have hop:(OpT.mk (k8 (r.getD 0 0)) (lw (r.getD 0 0)) (k8 (r.getD 1 0)) (lw (r.getD 1 0)) (n8 (r.getD 2 0)) ChangeT.zero 0 0 0)=jR (r.getD 0 0) (r.getD 1 0) (r.getD 2 0) (r.getD 3 0) (r.getD 4 0):=by first| (rw[jR,if_pos h38];try rfl)| (rw[jR,if_neg h38,if_pos h56];try rfl)| (rw[jR,if_neg h38,if_neg h56];try rfl)
 refine PS ?_;refine LW 0 eZ st ic ?_;refine aM (cells:=(ints (OpT.mk (k8 (r.getD 0 0)) (lw (r.getD 0 0)) (k8 (r.getD 1 0)) (lw (r.getD 1 0)) (n8 (r.getD 2 0)) ChangeT.zero 0 0 0).flat).toArray) (ab rfl) rfl rfl rfl K7 FU rfl rfl rfl (kc (ic (OpT.mk (k8 (r.getD 0 0)) (lw (r.getD 0 0)) (k8 (r.getD 1 0)) (lw (r.getD 1 0)) (n8 (r.getD 2 0)) ChangeT.zero 0 0 0)) (by simp)) (λb73=>?_);change TL _ _ _ _ _ _ _ _ _ [aj b73 (ints (OpT.mk (k8 (r.getD 0 0)) (lw (r.getD 0 0)) (k8 (r.getD 1 0)) (lw (r.getD 1 0)) (n8 (r.getD 2 0)) ChangeT.zero 0 0 0).flat) 30,aj b4 (ints (OpT.mk (k8 (r.getD 0 0)) (lw (r.getD 0 0)) (k8 (r.getD 1 0)) (lw (r.getD 1 0)) (n8 (r.getD 2 0)) ChangeT.zero 0 0 0).flat) 30,own u (done.length) (ints (List.flatMap OpT.flat done)) 30 11];refine bX (k:=2) (news:=ints (OpT.mk (k8 (r.getD 0 0)) (lw (r.getD 0 0)) (k8 (r.getD 1 0)) (lw (r.getD 1 0)) (n8 (r.getD 2 0)) ChangeT.zero 0 0 0).flat) (nn':=(done++[jR (r.getD 0 0) (r.getD 1 0) (r.getD 2 0) (r.getD 3 0) (r.getD 4 0)]).length) (xs':=ints (List.flatMap OpT.flat (done++[jR (r.getD 0 0) (r.getD 1 0) (r.getD 2 0) (r.getD 3 0) (r.getD 4 0)]))) (ab rfl) rfl rfl rfl K7 FU rfl rfl rfl rfl rfl rfl (λ_ _=>gn (ic _) (RO 0) (by rw[bb,gC])) (bv _) (by simp only[maxLen];omega) (by omega) (by simp) (by rw[←hop];simp[ints]) (λv74 ov74=>PS ?_);refine au (af (ad J6 (ac (PS ?_))))
 refine tp (nd (zp (k:=5) rfl fO kx (by rw[←hv_b];rfl) rfl (by omega) (by omega) rfl) (congrArg (λq=>wz q 5) hv_b.symm)) ?_;refine PS ?_;refine au ?_
 exact aL (((r.drop 5),(wz xv 5),(done++[jR (r.getD 0 0) (r.getD 1 0) (r.getD 2 0) (r.getD 3 0) (r.getD 4 0)]),v74):(List UInt8)×(Value)×(List OpT)×(Value)) ⟨hB.cut 5 (by omega),by rw[bV];omega,by rw[ag,bV];simp;omega,by rw[ho,uY (by omega)];simp,yt hx,ov74⟩ (by show(r.drop 5).length<r.length;rw[bV];omega)
  SB
  (λ_ s=>ak [2] rfl s)
 refine nx J5 (CN (aW (aA (aA (bq (ad J3 (sr λ_ J12=>P2 ?_)))))));refine nx J12 (ah (WK [0] (aw rfl rfl ?_)));obtain rfl:y2 bs=done:=by rw[ho,Ig (by omega),aY]
 exact⟨u,rfl,rfl⟩
def DG:OpT:=⟨0,0,0,0,5, .zero,0,0,0⟩
theorem JQ:OkOp DG:=⟨Gh,by decide⟩
def RK:List UInt8:=[109,97,99,104,105,110,101,32,48,32,117,112,32,49,32,49,32,48,32,49,32,50,10,109]
def aS:CL:=(oM .new DG).1
theorem P5:CLOk 1 aS:=wh new_ok JQ
def Jk(v:ViewT):Bool:=decide (v.epoch=1)&&decide (v.members=7)&&decide (v.heirs.toList=[0,0,0,0,0])
theorem Jj{v:ViewT}(h:Jk v=true):v=firstV:=by
 obtain⟨e,m,hs⟩:=v;unfold Jk at h;rw[ao,ao]at h;obtain⟨⟨h1,h2⟩,h3⟩:=h;have e1:e=1:=of_decide_eq_true h1;have e2:m=7:=of_decide_eq_true h2;have e3:hs= #v[0,0,0,0,0]:=Vector.toList_inj.1 (of_decide_eq_true h3);rw[e1,e2,e3];rfl
def G8(a:CL)(j:Nat):Bool:=(a.at' j).up&&Jk (mr a j).view&&decide (0≤(mr a j).own.version)&&decide ((mr a j).own.version<10)&&(a.at' j).reps.isEmpty&&(List.range 5).all λi=>(mirRow (mr a j).mirror ((i:Nat):Int)).flat.all (λx=>decide (-9≤x∧x≤9))&&decide ((mirRow (mr a j).mirror ((i:Nat):Int)).version=0)
def OI:Bool:=((List.range 5).all λj=>G8 aS j)&&decide ((mn aS 4).take 24=RK)
theorem LM:OI=true:=by decide+kernel
theorem K6{p:Nat→Bool}{n:Nat}(h:(List.range n).all p=true)(i:Nat)(hi:i<n):p i=true:=List.all_eq_true.1 h i (e6.2 hi)
structure Calm(a:CL):Prop where
 up:pk a
 view: ∀j,j<5→(mr a j).view=firstV
 ver: ∀i,i<5→0≤(mr a i).own.version∧(mr a i).own.version<10
 rs: ∀i,i<5→(a.at' i).reps=[]
 wf: ∀j i,j<5→i<5→WF (mirRow (mr a j).mirror ((i:Nat):Int)).flat
 zero: ∀j i,j<5→i<5→(mirRow (mr a j).mirror ((i:Nat):Int)).version=0
theorem MI{a:CL}(h:((List.range 5).all λj=>G8 a j)=true):Calm a:=by
 have g: ∀j,j<5→G8 a j=true:=λj hj=>K6 h j hj
 have g2: ∀j,j<5→_:=λj hj=>by
  have:=g j hj;unfold G8 at this;rw[ao,ao,ao,ao,ao]at this;exact this
 have g3: ∀j i,j<5→i<5→_:=λj i hj hi=>by
  have:=K6 (g2 j hj).2 i hi;rw[ao]at this;exact this
 exact⟨λj hj=>(g2 j hj).1.1.1.1.1,λj hj=>Jj (g2 j hj).1.1.1.1.2,λi hi=>⟨of_decide_eq_true (g2 i hi).1.1.1.2,of_decide_eq_true (g2 i hi).1.1.2⟩,λi hi=>List.isEmpty_iff.1 (g2 i hi).1.2,
  λj i hj hi n hn=>by
   have:=of_decide_eq_true (List.all_eq_true.1 (g3 j i hj hi).1 n hn)
   exact nG ⟨by omega,by omega⟩,λj i hj hi=>of_decide_eq_true (g3 j i hj hi).2⟩
theorem FN{y:RowT}{i:Nat}(hi:i<5)(h:y.version=0):(dF BookT.zero ((i:Nat):Int) y).1=BookT.zero:=by
 have e:(cA BookT.zero ((i:Nat):Int)).version=0:=by
  match i,hi with
  |0,_|1,_|2,_|3,_|4,_=>rfl
 unfold dF;rw[e,h,show decide ((0:Int)>0)=false from rfl,kQ];rfl
theorem Calm.to'{a:CL}(h:Calm a){j:Nat}(hj:j<5): ∀k,k≤5→lM (mr a j) BookT.zero k=BookT.zero
 |0,_=>rfl
 |k+1,hk=>by
  rw[vS,h.to' hj k (by omega)];exact FN (by omega) (h.zero j k hj (by omega))
theorem Calm.truth'{a:CL}(h:Calm a): ∀k,k≤5→iV a k=BookT.zero
 |0,_=>rfl
 |k+1,hk=>by
  rw[vA h.up (by omega),h.truth' k (by omega)];exact h.to' (by omega) 5 (aK _)
theorem Jt:Calm aS∧(mn aS 4).take 24=RK:=by
 have h:=LM;unfold OI at h;rw[ao]at h;exact⟨MI h.1,of_decide_eq_true h.2⟩
theorem Me:y2 (gF [DG])=[DG]:=by show _=_;kernel_rfl
theorem Jw{H:List HP}{g cap nn e size:Nat}{cur xs:List Value}(i:Nat)(hi:Nat.blt i H.length=true)(hH:H.getD i (λ_=>True)=aj g cur e)(h1:nn≤cap)(h2:cap≤maxLen)(h3:cur.length=cap*size)(h4:cur.take (nn*size)=xs)(h5:xs.length=nn*size){h:Hl}(s:bR H h):
 bR (H.set i (own (.slice (some ⟨g,0,none⟩) nn cap) nn xs e size)) h:=by
 obtain⟨x,y,d,rfl,a,b⟩:=eJ i (lb hi) s;rw[hH]at a;refine kS i (lb hi) ⟨x,y,d,rfl,?_,b⟩;exact⟨h5, .inr ⟨g,cap,cur.toArray,rfl,a,h1,h2,by simp[h3],by simpa using h4⟩⟩
theorem HO(c:Nat)(u:Value):
 DT 38 #[(.pointer (some ⟨c,0,none⟩)),u] T0 [own u (([DG]:List OpT).length) (ints (List.flatMap OpT.flat ([DG]:List OpT))) 30 11,fX c CL.new] (dG (λr' H=>∃n,r'= .int .i64 n∧H=[own u (([DG]:List OpT).length) (ints (List.flatMap OpT.flat ([DG]:List OpT))) 30 11,fX c aS])):=by
 refine BD 22 Tryz.func38 rfl rfl rfl λw0 F hF=>sr λ_ J1=>PS ?_
 refine nx J1 (sr λ_ J2=>PS ?_);refine nx J2 (aa λ_ J3=>sr λ_ J4=>PS ?_);refine je 0 rfl rfl (λhlu _=>jV 0 rfl rfl (by decide) (λgu capu hvu hcu=>?_));have hone:([DG]:List OpT).length=1:=rfl;refine tp (dO rfl K7 rfl hlu) ?_;refine PS ?_;refine nx J4 (am (hO 2 (sr λ_ J5=>PS ?_)));refine nx J5 (aa λ_ J6=>CY (qx J6 (aa λ_ J7=>am (sr λ_ J8=>tp (bn (r:=0) hvu rfl K7 st rfl rfl (by omega) (by omega) rfl) ?_))));refine tp (MT (vs:=ints (OpT.mk 0 0 0 0 5 ChangeT.zero 0 0 0).flat) rfl eZ rfl st rfl (gM 0 rfl hvu rfl) rfl rfl) ?_;refine XZ Qv (ints OpT.zero.flat) λb7=>?_
 refine SW 0 st ic ?_;refine nx J8 (sr λ_ J9=>PS ?_);refine LW 0 eZ st ic ?_;refine CE Lq (kG (c:=c) (o:=DG) new_ok (by decide) JQ) (SM [2]) ?_;refine PS ?_;refine ap ?_ ?_<;>intro h17;refine nx J9 (CY (ac (PS ?_)));refine tp (bA (r:=1) rfl rfl rfl (by decide)) ?_;refine PS ?_;refine au (af (ad J7 (ac (tp (bA (r:=1) rfl rfl rfl (by decide)) ?_))));refine PS ?_;refine au (bI (sr λ_ J10=>PS ?_));refine nx J10 (aa λ_ J11=>CN (aW (aA (aA (bq (ad J3 (sr λ_ J12=>P2 ?_)))))));exact nx J12 (ah (WK [2,0] (aw rfl rfl ⟨_,rfl,rfl⟩)));refine nx J9 (CN (aR (af (ad J7 (ac (tp (bA (r:=1) rfl rfl rfl (by decide)) ?_))))));refine PS ?_;refine au (bI (sr λ_ J13=>PS ?_));refine nx J13 (aa λ_ J14=>CN (aW (aA (aA (bq (ad J3 (sr λ_ J15=>P2 ?_)))))));exact nx J15 (ah (WK [2,0] (aw rfl rfl ⟨_,rfl,rfl⟩)))
theorem xa(c:Nat):DT 40 #[.pointer (some ⟨c,0,none⟩)] T0 [fX c aS] (RI (kX (mn aS 4)) [fX c aS]):=
 have h:=Jt.1
 Leg.Does.ex (A':=λg=>[ek c aS g]) (λh s=>KI s) λg=>Leg.Does.fold (yQ c aS g h.up h.view h.wf (h.truth' 5 (aK _)) h.ver h.rs 1 P5 (by decide)) λe H hp=>by
  cases e with
  |returned v=>obtain⟨rfl,rfl⟩:=hp;exact⟨_,λ_ s=>AE s,rfl,rfl⟩
  |panicked c=>exact hp.elim
  |outgrown=>exact hp.elim
theorem A5(x:Value):
 DT 17 #[x] (IsB x (gF [DG])) [] (RI (kX (mn aS 4)) []):=by
 refine BD 11 Tryz.func17 rfl rfl rfl λw0 F hF=>sr λ_ J1=>PS ?_
 refine nx J1 (sr λ_ J2=>CR RE (Al) ID λvR HR hR=>?_);obtain⟨c,rfl,rfl⟩:=hR;refine PS ?_;refine nx J2 (sr λ_ J3=>P2 ?_);refine CQ Q1 (xU x (gF [DG]) (by decide)) ID (λ_ d _=>IsB.more hF d) λvR HR hR=>?_
 obtain⟨_,rfl,hH⟩:=hR;revert vR;intro u hH;rw[Me]at hH;subst hH;refine CR Q2 (HO c u) ID λvR HR hR=>?_
 obtain⟨n,rfl,rfl⟩:=hR;refine nx J3 (sr λ_ J4=>PS ?_);refine CE Q0 (xa c) (SM [1]) ?_;refine PS ?_;exact nx J4 (ah (WK [] (aw rfl rfl ⟨rfl,rfl⟩)))
theorem Fh:
 DT 7 #[] T0 [] (RI (.bool true) []):=by
 refine BD 14 Tryz.func7 rfl rfl rfl λw0 F hF=>?_
 obtain⟨_,hpre⟩:=Jt;refine sr λ_ J1=>PS ?_
 refine nx J1 (sr λ_ J2=>tp (ku OpT.zero (OpT.mk 0 0 0 0 5 ChangeT.zero 0 0 0) [(0,[Value.int .i64 0]),(4,[Value.int .i64 5])] eZ gV (g:=OpT.sg)) ?_);refine aM (cells:=(ints (OpT.mk 0 0 0 0 5 ChangeT.zero 0 0 0).flat).toArray) (ab rfl) rfl rfl rfl K7 FU rfl rfl rfl (kc (ic (OpT.mk 0 0 0 0 5 ChangeT.zero 0 0 0)) (by simp)) (λb3=>?_);change TL _ _ _ _ _ _ _ _ _ [aj b3 (ints (OpT.mk 0 0 0 0 5 ChangeT.zero 0 0 0).flat) 30];refine ci (H':=[own (.slice (some ⟨b3,0,none⟩) (1) (1)) (([DG]:List OpT).length) (ints (List.flatMap OpT.flat ([DG]:List OpT))) 30 11]) (λ_ s=>Jw (g:=b3) (cap:=1) (nn:=1) (e:=30) (size:=11) (cur:=ints (List.flatMap OpT.flat ([DG]:List OpT))) (xs:=ints (List.flatMap OpT.flat ([DG]:List OpT))) 0 rfl rfl (by decide) (by decide) rfl rfl rfl s) (CQ Re (xT (.slice (some ⟨b3,0,none⟩) (1) (1)) [DG] (by decide)) ID (Ms OpT.flat_length 0 rfl rfl) λvR HR hR=>?_);obtain⟨_,rfl,rfl⟩:=hR;revert vR;intro ue;refine CF Rf (A5 ue) ID (tZ 0 rfl rfl) ?_;refine PS ?_;refine nx J2 (sr λ_ J3=>PS ?_);refine tp (nd (PV.strLen rfl Y9 rfl) (by rw[nC])) ?_;refine P3 ?_;refine tq (PV.strTo (hi:=24) rfl Y9 rfl rfl rfl (by rw[nC];decide)) ?_;refine tq (PV.strEql (a:=(mn aS 4).take 24) (b:=[109,97,99,104,105,110,101,32,48,32,117,112,32,49,32,49,32,48,32,49,32,50,10,109]) rfl rfl rfl) ?_;refine P2 ?_;exact nx J3 (ah (WK [] (aw rfl rfl ⟨congrArg Value.bool (decide_eq_true hpre),rfl⟩)))
end Go.Proofs.YtkhjnolhhidecaaGreatDoor
end

section
namespace Api
open Go Leg Codec Dsk Wal
theorem Gs(v:Vector Int 5):v.toList=[v[0],v[1],v[2],v[3],v[4]]:=by
 obtain⟨⟨l⟩,h⟩:=v
 match l,h with
 | [a,b,c,d,e],_=>rfl
structure CellOk(c:CellT):Prop where
 inn:0≤c.inn∧c.inn≤1099511627776
 out:0≤c.out∧c.out≤1099511627776
 given:(0:Int)≤c.given[0]∧(0:Int)≤c.given[1]∧(0:Int)≤c.given[2]∧(0:Int)≤c.given[3]∧(0:Int)≤c.given[4]
 sum:c.given[0]+c.given[1]+c.given[2]+c.given[3]+c.given[4]≤1099511627776
theorem sC{n:Int}(h:0≤n∧n≤1099511627776):DH n=true:=decide_eq_true h
theorem CellOk.right{c:CellT}(h:CellOk c):Lp c=true:=by
 obtain⟨h1,h2,⟨g0,g1,g2,g3,g4⟩,hs⟩:=h;unfold Lp;rw[sC h1,sC h2,Gs,oa,oa,decide_eq_true_iff];generalize c.given[0]=a at*;generalize c.given[1]=b at*;generalize c.given[2]=d at*;generalize c.given[3]=e at*;generalize c.given[4]=f at*;rw[oO,if_pos (sC (by omega)),if_neg (by omega),oO,if_pos (sC (by omega)),if_neg (by omega),oO,if_pos (sC (by omega)),if_neg (by omega),oO,if_pos (sC (by omega)),if_neg (by omega),oO,if_pos (sC (by omega)),if_neg (by omega),oO]
theorem CellOk.sumG{c:CellT}(h:CellOk c):sumG c=c.given[0]+c.given[1]+c.given[2]+c.given[3]+c.given[4]:=by
 obtain⟨h1,h2,⟨g0,g1,g2,g3,g4⟩,hs⟩:=h;unfold Api.sumG;rw[Gs];simp only[List.foldl_cons,List.foldl_nil];rw[lC (n:=(0:Int)+c.given[0]) (by omega) (by omega),lC (n:=(0:Int)+c.given[0]+c.given[1]) (by omega) (by omega),lC (n:=(0:Int)+c.given[0]+c.given[1]+c.given[2]) (by omega) (by omega),lC (n:=(0:Int)+c.given[0]+c.given[1]+c.given[2]+c.given[3]) (by omega) (by omega),lC (by omega) (by omega)];omega
def LinS(n m u v:Int):Prop:=∃a b:Int,(-m≤a∧a≤m)∧(-m≤b∧b≤m)∧u=a*n+b∧v=a*1000+b
def NumS(n u v:Int):Prop:=∃a b:Int,(0≤a∧a≤3)∧(0≤b∧b≤3)∧u=a*n+b∧v=a*1000+b
class Nn(n:Int):Prop where
 r:1≤n∧n≤1024
section
variable {n u v u' v' m k:Int}
theorem NumS.zero:NumS n 0 0:=⟨0,0,⟨by decide,by decide⟩,⟨by decide,by decide⟩,by omega,by decide⟩
theorem NumS.lin(h:NumS n u v):LinS n 3 u v:=by
 obtain⟨a,b,h1,h2,h3,h4⟩:=h;exact⟨a,b,⟨by omega,by omega⟩,⟨by omega,by omega⟩,h3,h4⟩
theorem NumS.bd[hn:Nn n](h:NumS n u v):0≤u∧u≤4000∧0≤v∧v≤4000∧(1≤u↔1≤v):=by
 obtain⟨a,b,h1,h2,rfl,rfl⟩:=h;have:=hn.r;have:a=0∨a=1∨a=2∨a=3:=by omega
 rcases this with rfl|rfl|rfl|rfl<;>omega
theorem LinS.add(h:LinS n m u v)(g:LinS n k u' v'):LinS n (m+k) (u+u') (v+v'):=by
 obtain⟨a,b,h1,h2,rfl,rfl⟩:=h;obtain⟨c,d,g1,g2,rfl,rfl⟩:=g;exact⟨a+c,b+d,⟨by omega,by omega⟩,⟨by omega,by omega⟩,by rw[Int.add_mul];omega,by omega⟩
theorem LinS.sub(h:LinS n m u v)(g:LinS n k u' v'):LinS n (m+k) (u-u') (v-v'):=by
 obtain⟨a,b,h1,h2,rfl,rfl⟩:=h;obtain⟨c,d,g1,g2,rfl,rfl⟩:=g;exact⟨a-c,b-d,⟨by omega,by omega⟩,⟨by omega,by omega⟩,by rw[Int.sub_mul];omega,by omega⟩
theorem LinS.more(h:LinS n m u v)(hm:m≤k):LinS n k u v:=by
 obtain⟨a,b,h1,h2,h3⟩:=h;exact⟨a,b,⟨by omega,by omega⟩,⟨by omega,by omega⟩,h3⟩
theorem N2{a:Int}(ha: -1000≤a∧a≤1000)(hn:1≤n∧n≤1024): -1024000≤a*n∧a*n≤1024000:=by
 have h1:(a+1000)*n≤(a+1000)*1024:=Int.mul_le_mul_of_nonneg_left hn.2 (by omega);have h2:0≤(a+1000)*n:=Int.mul_nonneg (by omega) (by omega);have h3:(1000-a)*n≤(1000-a)*1024:=Int.mul_le_mul_of_nonneg_left hn.2 (by omega);have h4:0≤(1000-a)*n:=Int.mul_nonneg (by omega) (by omega);rw[Int.add_mul]at h1 h2;rw[Int.sub_mul]at h3 h4;omega
theorem LinS.w[hn:Nn n](h:LinS n m u v)(hm:m≤1000):LinS n m (fy u) (fy v):=by
 obtain⟨a,b,h1,h2,rfl,rfl⟩:=h;have:=N2 (a:=a) (n:=n) ⟨by omega,by omega⟩ hn.r;rw[lC (by omega) (by omega),lC (by omega) (by omega)];exact⟨a,b,h1,h2,rfl,rfl⟩
theorem LinS.nil(h:LinS n m u v)(hm:m≤400)(hv:v=0):u=0:=by
 obtain⟨a,b,h1,h2,rfl,e⟩:=h;obtain rfl:a=0:=by omega
 omega
def Of(lo w:Int):Bool:=decide ((w+500) / 1000=0)||(decide (1≤(w+500) / 1000)&&decide (((w+500) / 1000)*1000-w≤lo))||(decide ((w+500) / 1000≤ -1)&&decide (w≤((w+500) / 1000)*1000))
theorem LinS.cmp[hn:Nn n]{lo:Int}(h:LinS n m u v)(hm:m≤400)(hl:lo≤n)(hc:Of lo v=true):(u<0↔v<0):=by
 obtain⟨a,b,h1,h2,rfl,rfl⟩:=h;have e:(a*1000+b+500) / 1000=a:=by omega
 have hn:=hn.r;unfold Of at hc;rw[e]at hc;simp only[rM,ao,decide_eq_true_eq]at hc;rcases hc with(hc| ⟨c1,c2⟩)| ⟨c1,c2⟩
 · subst hc;omega
 · have:(a-1)*n≥0:=Int.mul_nonneg (by omega) (by omega)
   rw[Int.sub_mul]at this;omega
 · have:(-1-a)*n≥0:=Int.mul_nonneg (by omega) (by omega)
   rw[Int.sub_mul]at this;omega
def Nx(v:Int):Bool:=decide (0≤v∧v / 1000≤3∧v%1000≤3)
theorem LinS.num(h:LinS n m u v)(hm:m≤400)(hs:Nx v=true):NumS n u v:=by
 obtain⟨a,b,h1,h2,rfl,rfl⟩:=h;have hs:0≤a*1000+b∧(a*1000+b) / 1000≤3∧(a*1000+b)%1000≤3:=of_decide_eq_true hs;exact⟨a,b,⟨by omega,by omega⟩,⟨by omega,by omega⟩,rfl,rfl⟩
end
structure CellS(n:Int)(c d:CellT):Prop where
 inn:NumS n c.inn d.inn
 out:NumS n c.out d.out
 given: ∀(j:Nat) (h:j<5),NumS n c.given[j] d.given[j]
structure RowS(n:Int)(x y:RowT):Prop where
 ver:x.version=y.version
 vb:0≤y.version∧y.version≤400
 cells: ∀(k:Nat) (h:k<4),CellS n x.cells[k] y.cells[k]
 heir:x.heir=y.heir
 hb: ∀(i:Nat) (h:i<5),(0:Int)≤y.heir[i]∧y.heir[i]≤(401:Int)
 left: ∀(i k:Nat) (h:i<5) (g:k<4),CellS n x.left[i][k] y.left[i][k]
 none: ∀(i:Nat) (h:i<5),y.heir[i]=(0:Int)→x.left[i]=RowT.zero.left[0]∧y.left[i]=RowT.zero.left[0]
section
variable {n:Int} {x y x' y':RowT}
theorem CellS.zero:CellS n .zero .zero:=⟨.zero, .zero,λj hj=>by
 match j,hj with|0,_|1,_|2,_|3,_|4,_=>exact NumS.zero⟩
theorem RowS.zero:RowS n .zero .zero:=⟨rfl,⟨by decide,by decide⟩,λk hk=>by rw[yy k hk];exact .zero,rfl,λi hi=>by rw[Ks i hi];exact⟨by decide,by decide⟩,λi k hi hk=>by
 rw[show RowT.zero.left[i][k]=RowT.zero.cells[k]from by rw[qM i hi],yy k hk];exact .zero,λi hi _=>⟨by rw[qM i hi,qM 0 (by decide)],by rw[qM i hi,qM 0 (by decide)]⟩⟩
theorem CellS.ok[Nn n]{c d:CellT}(h:CellS n c d):CellOk c∧CellOk d:=by
 have h1:=h.inn.bd;have h2:=h.out.bd;have g0:=(h.given 0 (by decide)).bd;have g1:=(h.given 1 (by decide)).bd;have g2:=(h.given 2 (by decide)).bd;have g3:=(h.given 3 (by decide)).bd;have g4:=(h.given 4 (by decide)).bd;exact⟨⟨⟨by omega,by omega⟩,⟨by omega,by omega⟩,⟨by omega,by omega,by omega,by omega,by omega⟩,by omega⟩,⟨⟨by omega,by omega⟩,⟨by omega,by omega⟩,⟨by omega,by omega,by omega,by omega,by omega⟩,by omega⟩⟩
theorem GM{v:Vector CellT 4}(h: ∀(k:Nat) (_:k<4),CellOk v[k]):y3 v=true:=decide_eq_true λk hk=>(h k hk).right
theorem zW{z:RowT}(hv:0≤z.version)(hc: ∀(k:Nat) (_:k<4),CellOk z.cells[k])(hh: ∀(i:Nat) (_:i<5),(0:Int)≤z.heir[i])(hl: ∀(i k:Nat) (_:i<5) (_:k<4),CellOk z.left[i][k])(hn: ∀(i:Nat) (_:i<5),z.heir[i]=(0:Int)→z.left[i]=RowT.zero.left[0]):gh z=true:=by
 unfold gh;rw[ao,ao];refine⟨⟨decide_eq_true hv,GM hc⟩,decide_eq_true λi hi=>?_⟩;unfold BO;rw[ao,ao];exact⟨⟨decide_eq_true (hh i hi),GM λk hk=>hl i k hi hk⟩,decide_eq_true λe=>by rw[hn i hi e]⟩
theorem RowS.right[Nn n](h:RowS n x y):gh x=true∧gh y=true:=
 ⟨zW (by rw[h.ver];exact h.vb.1) (λk hk=>(h.cells k hk).ok.1) (λi hi=>by rw[h.heir];exact(h.hb i hi).1) (λi k hi hk=>(h.left i k hi hk).ok.1) λi hi e=>(h.none i hi (by rw[←h.heir];exact e)).1,
  zW h.vb.1 (λk hk=>(h.cells k hk).ok.2) (λi hi=>(h.hb i hi).1) (λi k hi hk=>(h.left i k hi hk).ok.2) λi hi e=>(h.none i hi e).2⟩
theorem CellS.cw[Nn n]{c d:CellT}(h:CellS n c d):CW c:=by
 have h1:=h.inn.bd;have h2:=h.out.bd;exact⟨⟨by omega,by omega⟩,⟨by omega,by omega⟩,λj hj=>by have:=(h.given j hj).bd;exact⟨by omega,by omega⟩⟩
theorem RowS.tame[Nn n](h:RowS n x y):TameR x:=by
 have o:OkRow x:=⟨by have:=h.vb;rw[h.ver];exact⟨by omega,by omega⟩,λk hk=>(h.cells k hk).cw,λi hi=>by rw[h.heir];have:=h.hb i hi;exact⟨by omega,by omega⟩,λi k hi hk=>(h.left i k hi hk).cw⟩;exact TameR.of o.wf h.right.1
theorem RowS.cellAt(h:RowS n x y)(key:Int):CellS n (cellAt x key) (cellAt y key):=by unfold Api.cellAt;split;exact h.cells _ _;exact .zero
theorem RowS.heirAt(h:RowS n x y)(i:Int):heirAt x i=heirAt y i:=by unfold Api.heirAt;rw[h.heir]
theorem RowS.heirAt_bd(h:RowS n x y)(i:Int):0≤Api.heirAt y i∧Api.heirAt y i≤401:=by
 unfold Api.heirAt;split
 · exact h.hb _ _
 · exact⟨by decide,by decide⟩
theorem RowS.leftAt(h:RowS n x y)(i key:Int):CellS n (leftAt x i key) (leftAt y i key):=by unfold Api.leftAt;split;exact h.left _ _ _ _;exact .zero
theorem RowS.rowCell(h:RowS n x y)(who of' key:Int):CellS n (rowCell x who of' key).1 (rowCell y who of' key).1∧(rowCell x who of' key).2=(rowCell y who of' key).2:=by
 unfold Api.rowCell;rw[h.heirAt,h.ver]
 repeat' split
 all_goals first|exact⟨h.cellAt key,rfl⟩|exact⟨h.leftAt _ _,rfl⟩|exact⟨.zero,rfl⟩
theorem RowS.setHeir(h:RowS n x y){w v:Int}(hv:1≤v∧v≤401){l l':Vector CellT 4}(hl: ∀(k:Nat) (_:k<4),CellS n l[k] l'[k]):RowS n (setHeir x w v l) (setHeir y w v l'):=by
 unfold Api.setHeir;split
 · rename_i hw
   refine⟨h.ver,h.vb,h.cells,by show x.heir.set w.toNat v (cZ hw)=y.heir.set w.toNat v (cZ hw);rw[h.heir],?_,?_,?_⟩
   · exact ou (p:=λz:Int=>(0:Int)≤z∧z≤(401:Int)) (cZ hw) h.hb ⟨by omega,by omega⟩
   · intro i k hi hk
     show CellS n (x.left.set w.toNat l (cZ hw))[i][k] (y.left.set w.toNat l' (cZ hw))[i][k];simp only[Vector.getElem_set];split
     · exact hl k hk
     · exact h.left i k hi hk
   · intro i hi
     show(y.heir.set w.toNat v (cZ hw))[i]=(0:Int)→(x.left.set w.toNat l (cZ hw))[i]=_∧(y.left.set w.toNat l' (cZ hw))[i]=_;simp only[Vector.getElem_set];split
     · intro e;omega
     · exact h.none i hi
 · exact h
theorem RowS.inhTo{d d':RowT}(h:RowS n x y)(g:RowS n d d')(w:Int): ∀k,RowS n (inhTo x w d k) (inhTo y w d' k)∧(inhTo y w d' k).version=y.version
 |0=>by
  show RowS n (Api.setHeir x w (fy (d.version+1)) d.cells) (Api.setHeir y w (fy (d'.version+1)) d'.cells)∧(Api.setHeir y w (fy (d'.version+1)) d'.cells).version=_;have:=g.vb;rw[g.ver,lC (n:=d'.version+1) (by omega) (by omega)];exact⟨h.setHeir ⟨by omega,by omega⟩ g.cells,by unfold Api.setHeir;split<;>rfl⟩
 |k+1=>by
  obtain⟨a,b⟩:=RowS.inhTo h g w k;rw[l8,l8];unfold nt;have hb:=g.heirAt_bd ((k:Nat):Int);rw[g.heirAt,a.heirAt];split
  · rename_i q
    refine⟨a.setHeir ⟨by omega,hb.2⟩ λc hc=>?_,by rw[←b];unfold Api.setHeir;split<;>rfl⟩;unfold vd;split
    · exact g.left _ _ _ _
    · rw[yy c hc];exact .zero
  · exact⟨a,b⟩
theorem RowS.inherit{d d':RowT}(h:RowS n x y)(g:RowS n d d')(w:Int)(hv:y.version≤399):RowS n (cK x w d).1 (cK y w d').1:=by
 unfold cK;rw[h.heirAt];split
 · exact .zero
 split
 · exact .zero
 · obtain⟨a,b⟩:=h.inhTo g w 5
   have:=a.vb;have e:fy ((Api.inhTo y w d' 5).version+1)=(Api.inhTo y w d' 5).version+1:=lC (by omega) (by omega);exact⟨by show fy ((Api.inhTo x w d 5).version+1)=fy ((Api.inhTo y w d' 5).version+1);rw[a.ver],by show 0≤fy ((Api.inhTo y w d' 5).version+1)∧fy ((Api.inhTo y w d' 5).version+1)≤400;omega,a.cells,a.heir,a.hb,a.left,a.none⟩
theorem RowS.put(h:RowS n x y){key:Int}{c d:CellT}(hc:CellS n c d)(hv:y.version≤399):RowS n {eL x key c with version:=fy (x.version+1)} {eL y key d with version:=fy (y.version+1)}:=by
 have hb:=h.vb;have e:fy (y.version+1)=y.version+1:=lC (by omega) (by omega);refine⟨by show fy (x.version+1)=fy (y.version+1);rw[h.ver],by show 0≤fy (y.version+1)∧fy (y.version+1)≤400;omega,?_,?_,?_,?_,?_⟩
 · intro k hk
   show CellS n (eL x key c).cells[k] (eL y key d).cells[k];unfold eL;split
   · rename_i hq
     show CellS n (x.cells.set key.toNat c (vg hq))[k] (y.cells.set key.toNat d (vg hq))[k];simp only[Vector.getElem_set];split
     · exact hc
     · exact h.cells k hk
   · exact h.cells k hk
 · show(eL x key c).heir=(eL y key d).heir
   unfold eL;split<;>exact h.heir
 · show ∀(i:Nat) (_:i<5),(0:Int)≤(eL y key d).heir[i]∧(eL y key d).heir[i]≤(401:Int)
   unfold eL;split<;>exact h.hb
 · show ∀(i k:Nat) (_:i<5) (_:k<4),CellS n (eL x key c).left[i][k] (eL y key d).left[i][k]
   unfold eL;split<;>exact h.left
 · show ∀(i:Nat) (_:i<5),(eL y key d).heir[i]=(0:Int)→(eL x key c).left[i]=_∧(eL y key d).left[i]=_
   unfold eL;split<;>exact h.none
theorem Gp[Nn n]{N M:Int}(h:NumS n N M)(key:Int):uu key N=uu key M:=by
 have:=h.bd;unfold uu;rw[show DH N=true from decide_eq_true ⟨by omega,by omega⟩,show DH M=true from decide_eq_true ⟨by omega,by omega⟩];congr 2;exact decide_eq_decide.2 this.2.2.2.2
def Ku(y:RowT)(o:OpT):Bool:=Nx (if o.kind=0 then(cellAt y o.key).inn+o.n else if o.kind=1 then(cellAt y o.key).out+o.n else iI (cellAt y o.key) o.to'+o.n)&&decide (y.version≤399)
theorem vk{c d:CellT}(h:CellS n c d)(w:Int):NumS n (iI c w) (iI d w):=by unfold iI;split;exact h.given _ _;exact .zero
theorem FK[Nn n](h:RowS n x y){key N M cu cv:Int}{c d:CellT}(hN:NumS n N M)(hq:cu≤40000∧cv≤40000)(hv:y.version≤399)(hc:CellS n c d):(jM x key N cu c).2=0∧(jM y key M cv d).2=0∧RowS n (jM x key N cu c).1 (jM y key M cv d).1∧(jM y key M cv d).1.version=y.version+1:=by
 have:=hN.bd;have:=h.vb;unfold jM;rw[if_neg (by omega),if_neg (by omega)];exact⟨rfl,rfl,h.put hc hv,by show fy (y.version+1)=_;exact lC (by omega) (by omega)⟩
theorem LL[Nn n]{c d:CellT}(h:CellS n c d):sumG c≤40000∧sumG d≤40000:=by
 have g0:=(h.given 0 (by decide)).bd;have g1:=(h.given 1 (by decide)).bd;have g2:=(h.given 2 (by decide)).bd;have g3:=(h.given 3 (by decide)).bd;have g4:=(h.given 4 (by decide)).bd;rw[h.ok.1.sumG,h.ok.2.sumG];omega
theorem Bd[Nn n]{u v N M:Int}(h:NumS n u v)(g:NumS n N M)(hs:Nx (v+M)=true):NumS n (fy (u+N)) (fy (v+M)):=by
 have h1:=h.bd;have h2:=g.bd;rw[lC (by omega) (by omega),lC (by omega) (by omega)];exact(h.lin.add g.lin).num (by decide) hs
theorem Kt[Nn n]{s t:RepT}(h:RowS n s.own t.own)(hid:s.id=t.id){o o':OpT}(hk:o.kind=o'.kind)(hkey:o.key=o'.key)(hto:o.to'=o'.to')(hN:NumS n o.n o'.n)(hg:Ku t.own o'=true):(fT s o).2=(fT t o').2∧((fT t o').2=0→RowS n (fT s o).1 (fT t o').1∧(fT t o').1.version=t.own.version+1):=by
 unfold Ku at hg;rw[ao]at hg;obtain⟨gs,g4⟩:=hg;have g4:t.own.version≤399:=of_decide_eq_true g4;have hc:=h.cellAt o'.key;have b1:=hc.inn.bd;have b2:=hc.out.bd;have b3:=LL hc;unfold fT;rw[hk,hkey,hto,hid]
 by_cases k0:o'.kind=0
 · rw[if_pos k0]at gs ⊢
   rw[if_pos k0];unfold px;rw[Gp hN];split
   · obtain⟨a,b,c,d⟩:=FK h (key:=o'.key) hN ⟨by omega,by omega⟩ g4 (c:= {cellAt s.own o'.key with inn:=fy ((cellAt s.own o'.key).inn+o.n)}) (d:= {cellAt t.own o'.key with inn:=fy ((cellAt t.own o'.key).inn+o'.n)}) (cu:=(cellAt s.own o'.key).inn) (cv:=(cellAt t.own o'.key).inn) ⟨Bd hc.inn hN gs,hc.out,hc.given⟩
     exact⟨a.trans b.symm,λ_=>⟨c,d⟩⟩
   · exact⟨rfl,λe=>absurd e (by decide)⟩
 rw[if_neg k0]at gs;rw[if_neg k0,if_neg k0]
 by_cases k1:o'.kind=1
 · rw[if_pos k1]at gs ⊢
   rw[if_pos k1];unfold py;rw[Gp hN];split
   · obtain⟨a,b,c,d⟩:=FK h (key:=o'.key) hN ⟨by omega,by omega⟩ g4 (c:= {cellAt s.own o'.key with out:=fy ((cellAt s.own o'.key).out+o.n)}) (d:= {cellAt t.own o'.key with out:=fy ((cellAt t.own o'.key).out+o'.n)}) (cu:=(cellAt s.own o'.key).out) (cv:=(cellAt t.own o'.key).out) ⟨hc.inn,Bd hc.out hN gs,hc.given⟩
     exact⟨a.trans b.symm,λ_=>⟨c,d⟩⟩
   · exact⟨rfl,λe=>absurd e (by decide)⟩
 rw[if_neg k1]at gs;rw[if_neg k1,if_neg k1];split
 · split
   · unfold mh
     rw[Gp hN];split
     · have gv:CellS n (qO (cellAt s.own o'.key) o'.to' (fy (iI (cellAt s.own o'.key) o'.to'+o.n))) (qO (cellAt t.own o'.key) o'.to' (fy (iI (cellAt t.own o'.key) o'.to'+o'.n))):=by
        have q:=Bd (vk hc o'.to') hN gs;unfold qO;split
        · rename_i hw
          refine⟨hc.inn,hc.out,λj hj=>?_⟩;show NumS n ((cellAt s.own o'.key).given.set o'.to'.toNat _ (cZ hw))[j] ((cellAt t.own o'.key).given.set o'.to'.toNat _ (cZ hw))[j];simp only[Vector.getElem_set];split
          · exact q
          · exact hc.given j hj
        · exact hc
       obtain⟨a,b,c,d⟩:=FK h (key:=o'.key) hN b3 g4 gv;exact⟨a.trans b.symm,λ_=>⟨c,d⟩⟩
     · exact⟨rfl,λe=>absurd e (by decide)⟩
   · exact⟨rfl,λe=>absurd e (by decide)⟩
 · exact⟨rfl,λe=>absurd e (by decide)⟩
end
def BookS(n:Int)(b c:BookT):Prop:=∀(i:Nat) (_:i<5),RowS n b.rows[i] c.rows[i]
section
variable {n:Int} {b c:BookT}
theorem BookS.row(h:BookS n b c)(w:Int):RowS n (cA b w) (cA c w):=by unfold cA;split;exact h _ _;exact .zero
theorem BookS.zero:BookS n .zero .zero:=λi hi=>by
 match i,hi with|0,_|1,_|2,_|3,_|4,_=>exact RowS.zero
theorem BookS.merge[Nn n](h:BookS n b c)(w:Int){x y:RowT}(hx:RowS n x y):BookS n (dF b w x).1 (dF c w y).1:=by
 unfold dF;rw[hx.right.1,hx.right.2,hx.ver,(h.row w).ver];split
 · unfold xN
   split
   · rename_i hw
     intro i hi;show RowS n (b.rows.set w.toNat x (cZ hw))[i] (c.rows.set w.toNat y (cZ hw))[i];simp only[Vector.getElem_set];split
     · exact hx
     · exact h i hi
   · exact h
 · exact h
theorem BookS.to(h:BookS n b c)(of' key:Int): ∀k,CellS n (pQ b of' key k).1 (pQ c of' key k).1∧(pQ b of' key k).2=(pQ c of' key k).2
 |0=>⟨.zero,rfl⟩
 |k+1=>by
  obtain⟨a,e⟩:=BookS.to h of' key k;obtain⟨a2,e2⟩:=(h.row ((k:Nat):Int)).rowCell ((k:Nat):Int) of' key;rw[oB,oB];unfold qW;simp only;rw[e,e2];split
  · exact⟨a2,e2⟩
  · exact⟨a,e⟩
theorem BookS.cell(h:BookS n b c)(of' key:Int):CellS n (cr b of' key) (cr c of' key):=(h.to of' key 5).1
theorem BookS.net[Nn n](h:BookS n b c)(i key:Int):LinS n 6 (fy ((cr b i key).inn- (cr b i key).out)) (fy ((cr c i key).inn- (cr c i key).out)):=((h.cell i key).inn.lin.sub (h.cell i key).out.lin).w (by decide)
theorem BookS.valueTo[Nn n](h:BookS n b c)(key:Int): ∀k:Nat,k≤5→LinS n (6* ((k:Nat):Int)) (valueTo b key k) (valueTo c key k)
 |0,_=>⟨0,0,⟨by decide,by decide⟩,⟨by decide,by decide⟩,by show(0:Int)=0*n+0;omega,rfl⟩
 |k+1,hk=>by
  rw[pp,pp];exact(((BookS.valueTo h key k (by omega)).add (h.net ((k:Nat):Int) key)).w (by omega)).more (by omega)
theorem BookS.value[Nn n](h:BookS n b c)(key:Int):LinS n 30 (kd b key) (kd c key):=h.valueTo key 5 (by decide)
theorem BookS.rightsIn[Nn n](h:BookS n b c)(key of':Int){r q m:Int}(hr:LinS n m r q)(hm:m≤800): ∀k:Nat,k≤5→LinS n (m+6* ((k:Nat):Int)) (rightsIn b key of' r k) (rightsIn c key of' q k)
 |0,_=>hr.more (by omega)
 |k+1,hk=>by
  rw[oI,oI];have g:=((vk (h.cell ((k:Nat):Int) key) of').lin.sub (vk (h.cell of' key) ((k:Nat):Int)).lin).w (by decide);exact(((BookS.rightsIn h key of' hr hm k (by omega)).add g).w (by omega)).more (by omega)
theorem JD{x y:RowT}(h:RowS n x y)(who:Int):gg x who=gg y who:=by unfold gg iU ownAt;rw[h.heir]
theorem BookS.rights[Nn n](h:BookS n b c)(who key:Int):LinS n 180 (dE b who key) (dE c who key):=by
 have z:LinS n 0 0 0:=⟨0,0,⟨by decide,by decide⟩,⟨by decide,by decide⟩,by omega,rfl⟩;unfold dE;split
 · rw[JD (h.row who)]
   have hl:(gg (cA c who) who).length≤5:=Ag _ _ 5
   have: ∀(l:List Int) (r q m:Int),LinS n m r q→m+36* ((l.length:Nat):Int)≤180→LinS n (m+36* ((l.length:Nat):Int)) (l.foldl (l4 b key) r) (l.foldl (l4 c key) q):=λl=>by
    induction l with
    |nil=>intro r q m hr _;exact hr.more (by simp)
    |cons i l ih=>
     intro r q m hr hm;simp only[av]at hm ⊢;rw[List.foldl_cons,List.foldl_cons];have s1:=(hr.add (h.net i key)).w (by omega);have s2:=h.rightsIn key i s1 (by omega) 5 (aK _);exact(ih _ _ (m+36) (s2.more (by omega)) (by omega)).more (by omega)
   exact(this _ 0 0 0 z (by omega)).more (by omega)
 · exact z.more (by decide)
end
inductive MsgS(n:Int):MsgT→MsgT→Prop
 |row (w:Int) {x y:RowT} (h:RowS n x y):MsgS n {MsgT.zero with kind:=0,whose:=w,row:=x} {MsgT.zero with kind:=0,whose:=w,row:=y}
 |kept (v:Int):MsgS n (pJ v) (pJ v)
 |news (w:Int) {x y:RowT} (h:RowS n x y):MsgS n (pD w x) (pD w y)
 |view (v:ViewT):MsgS n (jt v) (jt v)
 |seal' (w:Int) (v:ViewT):MsgS n (nj w v) (nj w v)
 |sealed' (w:Int) {x y:RowT} (h:RowS n x y):MsgS n (eW w x) (eW w y)
 |ask (e:Int) (b:BallotT):MsgS n (fK e b) (fK e b)
 |prom (e:Int) (b d:BallotT) (c:ChangeT):MsgS n (ka e b d c) (ka e b d c)
 |put (e:Int) (b:BallotT) (c:ChangeT):MsgS n (iW e b c) (iW e b c)
 |taken (e:Int) (b:BallotT):MsgS n (ji e b) (ji e b)
structure MsgF(n:Int)(m q:MsgT):Prop where
 kind:m.kind=q.kind
 whose:m.whose=q.whose
 row:RowS n m.row q.row
 version:m.version=q.version
 epoch:m.epoch=q.epoch
 ballot:m.ballot=q.ballot
 had:m.had=q.had
 change:m.change=q.change
 view:m.view=q.view
theorem MsgS.f{n:Int}{m q:MsgT}(h:MsgS n m q):MsgF n m q:=by
 cases h with
 |row w h=>exact⟨rfl,rfl,h,rfl,rfl,rfl,rfl,rfl,rfl⟩
 |news w h=>exact⟨rfl,rfl,h,rfl,rfl,rfl,rfl,rfl,rfl⟩
 |sealed' w h=>exact⟨rfl,rfl,h,rfl,rfl,rfl,rfl,rfl,rfl⟩
 |_=>exact⟨rfl,rfl, .zero,rfl,rfl,rfl,rfl,rfl,rfl⟩
def Ov(k:Int):Bool:=decide (0≤k∧k≤1000000)
def wB(w:Int):Bool:=decide (0≤w∧w<5)
def IQ(m:MsgT):Bool:=wB m.whose&&Ov m.version&&Ov m.epoch&&(Ov m.ballot.round&&wB m.ballot.who)&&(Ov m.had.round&&wB m.had.who)&&(decide (0≤m.change.kind∧m.change.kind<2)&&wB m.change.who&&wB m.change.heir)&&(Ov m.view.epoch&&decide (0≤m.view.members∧m.view.members<32)&&m.view.heirs.toList.all λh=>decide (0≤h∧h<6))&&(!(decide (m.kind=7)||decide (m.kind=8))||jF m.view)
structure ChkM(m:MsgT):Prop where
 whose:0≤m.whose∧m.whose<5
 version:Nm m.version
 epoch:Nm m.epoch
 ballot:OkB m.ballot
 had:OkB m.had
 change:OkC m.change
 view:Rw m.view
 right:m.kind=7∨m.kind=8→jF m.view=true
theorem DK{k:Int}(h:Ov k=true):Nm k:=by
 have h:0≤k∧k≤1000000:=of_decide_eq_true h;exact⟨by omega,by omega⟩
theorem Jh{w:Int}(h:wB w=true):0≤w∧w<5:=of_decide_eq_true h
theorem MG{m:MsgT}(h:IQ m=true):ChkM m:=by
 unfold IQ at h;simp only[ao,List.all_eq_true]at h;obtain⟨⟨⟨⟨⟨⟨⟨h1,h2⟩,h3⟩,h4,h5⟩,h6,h7⟩,⟨h8,h9⟩,h10⟩,⟨h11,h12⟩,h13⟩,h14⟩:=h;refine⟨Jh h1,DK h2,DK h3,⟨DK h4,Jh h5⟩,⟨DK h6,Jh h7⟩,⟨of_decide_eq_true h8,Jh h9,Jh h10⟩,⟨DK h11,of_decide_eq_true h12,λi hi=>of_decide_eq_true (h13 _ (BK m.view.heirs i hi))⟩,λq=>?_⟩;rw[rM]at h14;rcases h14 with h|h
 · rcases q with q|q<;>simp[q]at h
 · exact h
theorem ChkM.of{n:Int}{m q:MsgT}(h:ChkM q)(f:MsgF n m q):ChkM m:=⟨by rw[f.whose];exact h.whose,by rw[f.version];exact h.version,by rw[f.epoch];exact h.epoch,by rw[f.ballot];exact h.ballot,by rw[f.had];exact h.had,by rw[f.change];exact h.change,by rw[f.view];exact h.view,by rw[f.kind,f.view];exact h.right⟩
theorem MsgS.dec{n:Int}[Nn n]{m q:MsgT}(h:MsgS n m q)(c:IQ q=true):jx (cX m)=(m,0):=by
 have c:=(MG c).of h.f;have t:=h.f.row.tame;have r:=h.f.row.right.1
 have hk:0≤m.kind∧m.kind<10:=by
  have k: ∀k:Int,decide (0≤k∧k<10)=true→m.kind=k→0≤m.kind∧m.kind<10:=λk d e=>by rw[e];exact of_decide_eq_true d
  cases h with
  |row=>exact k 0 rfl rfl
  |kept=>exact k 1 rfl rfl
  |news=>exact k 2 rfl rfl
  |ask=>exact k 3 rfl rfl
  |prom=>exact k 4 rfl rfl
  |put=>exact k 5 rfl rfl
  |taken=>exact k 6 rfl rfl
  |view=>exact k 7 rfl rfl
  |seal'=>exact k 8 rfl rfl
  |sealed'=>exact k 9 rfl rfl
 have ok:OkM m:=⟨hk,c.whose,t,c.version,c.epoch,c.ballot,c.had,c.change,c.view⟩
 have om:ES m=true:=by
  unfold ES;split
  · exact r
  split
  · exact c.right (by assumption)
  · rfl
 have nm:tR m=m:=by cases h<;>rfl
 have:=KE ok om
 rwa [nm]at this
end Api
end
