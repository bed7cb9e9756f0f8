/-
  Joined texts:what a statement's proof reaches.
-/
import Derived.Shelf.Strconv.Itoa3
import Derived.Test.YtfocodjhmkokpaaGreatDoorProg
import Derived.Test.YtfocodjhmkokpaaGreatDoorPTR3
set_option maxHeartbeats 8000000
set_option maxRecDepth 100000
set_option linter.unusedSimpArgs false
set_option linter.unusedVariables false
section
namespace Go.Proofs.YtfocodjhmkokpaaGreatDoor
open Go Leg Codec Api
theorem tG:(Tryz.prog.info? 75).map (·.size)=some 870:=by kernel_rfl
theorem tF:(Tryz.prog.info? 78).map (·.size)=some 875:=by kernel_rfl
theorem DX:(Tryz.prog.info? 85).map (·.size)=some 870:=by kernel_rfl
theorem LO:NM 158:=nk Tryz.func158
theorem NX:NM 181:=nk Tryz.func181
theorem j6(w:Int):
 DT 99 #[(.int .i64 (w))] T0 [] (RI (.bool (cH w)) []):=by
 refine BD 9 Tryz.func99 rfl rfl rfl λw0 F hF=>sr λ_ J1=>PS ?_
 refine nx J1 (sr λ_ J2=>P2 ?_);refine ao ?_ ?_<;>intro h4
 iterate 5 refine PS ?_
 refine nx J2 (ai (av rfl rfl ?_));exact⟨congrArg Value.bool (by unfold cH;first| (rw[decide_eq_decide];omega)| (symm;rw[decide_eq_false_iff_not];omega)| (symm;rw[decide_eq_true_iff];omega)),rfl⟩;refine PS ?_;refine UF ?_;refine UF ?_;refine P2 ?_;refine nx J2 (ai (av rfl rfl ?_));exact⟨congrArg Value.bool (by unfold cH;first| (rw[decide_eq_decide];omega)| (symm;rw[decide_eq_false_iff_not];omega)| (symm;rw[decide_eq_true_iff];omega)),rfl⟩
theorem lj(w:Int):
 DT 58 #[(.int .i64 (w))] T0 [] (RI (.bool (cH w)) []):=by
 refine BD 9 Tryz.func58 rfl rfl rfl λw0 F hF=>sr λ_ J1=>PS ?_
 refine nx J1 (sr λ_ J2=>P2 ?_);refine ao ?_ ?_<;>intro h4
 iterate 5 refine PS ?_
 refine nx J2 (ai (av rfl rfl ?_));exact⟨congrArg Value.bool (by unfold cH;first| (rw[decide_eq_decide];omega)| (symm;rw[decide_eq_false_iff_not];omega)| (symm;rw[decide_eq_true_iff];omega)),rfl⟩;refine PS ?_;refine UF ?_;refine UF ?_;refine P2 ?_;refine nx J2 (ai (av rfl rfl ?_));exact⟨congrArg Value.bool (by unfold cH;first| (rw[decide_eq_decide];omega)| (symm;rw[decide_eq_false_iff_not];omega)| (symm;rw[decide_eq_true_iff];omega)),rfl⟩
theorem ig(w:Int):
 DT 97 #[(.int .i64 (w))] T0 [] (RI (.bool (cH w)) []):=by
 refine BD 9 Tryz.func97 rfl rfl rfl λw0 F hF=>sr λ_ J1=>PS ?_
 refine nx J1 (sr λ_ J2=>P2 ?_);refine ao ?_ ?_<;>intro h4
 iterate 5 refine PS ?_
 refine nx J2 (ai (av rfl rfl ?_));exact⟨congrArg Value.bool (by unfold cH;first| (rw[decide_eq_decide];omega)| (symm;rw[decide_eq_false_iff_not];omega)| (symm;rw[decide_eq_true_iff];omega)),rfl⟩;refine PS ?_;refine UF ?_;refine UF ?_;refine P2 ?_;refine nx J2 (ai (av rfl rfl ?_));exact⟨congrArg Value.bool (by unfold cH;first| (rw[decide_eq_decide];omega)| (symm;rw[decide_eq_false_iff_not];omega)| (symm;rw[decide_eq_true_iff];omega)),rfl⟩
theorem rX(key n:Int):
 DT 149 #[(.int .i64 (key)),(.int .i64 (n))] T0 [] (RI (.bool (xS key n)) []):=by
 refine BD 19 Tryz.func149 rfl rfl rfl λw0 F hF=>sr λ_ J1=>PS ?_
 refine nx J1 (sr λ_ J2=>P2 ?_);refine ao ?_ ?_<;>intro h6;refine P3 ?_;refine ao ?_ ?_<;>intro h9;refine P4 ?_;refine ao ?_ ?_<;>intro h13;refine P3 ?_;refine CE IV (jQ n) ID ?_;refine P2 ?_;refine nx J2 (ai (WK [] (av rfl rfl ?_)));exact⟨congrArg Value.bool (by simp[xS,m5, *]),rfl⟩;refine P2 ?_;refine UF ?_;refine UF ?_;refine P2 ?_;refine nx J2 (ai (WK [] (av rfl rfl ?_)));exact⟨congrArg Value.bool (by simp[xS,m5, *]),rfl⟩;refine P2 ?_;refine UF ?_;refine UF ?_;refine P2 ?_;refine UF ?_;refine UF ?_;refine P2 ?_;refine nx J2 (ai (WK [] (av rfl rfl ?_)));exact⟨congrArg Value.bool (by simp[xS,m5, *]),rfl⟩;refine PS ?_;refine UF ?_;refine UF ?_;refine P2 ?_;refine UF ?_;refine UF ?_;refine P2 ?_;refine UF ?_;refine UF ?_;refine P2 ?_;refine nx J2 (ai (WK [] (av rfl rfl ?_)));exact⟨congrArg Value.bool (by simp[xS,m5, *]),rfl⟩
theorem Ht(b off T:Nat)(cs:List Value)(n:Int)(h:cs[off]?=some (.int .i64 n)):
 DT 151 #[(.pointer (some ⟨b,off,none⟩))] T0 [ah b (cs) T] (RI (.tuple #[.int .i64 n, .pointer (some ⟨b,off,none⟩)]) [ah b cs T]):=by
 refine BD 11 Tryz.func151 rfl rfl rfl λw0 F hF=>sr λ_ J1=>P2 ?_
 refine nx J1 (ab λ_ J2=>D1 0 mixed ?_);refine PD 0 ?_;refine PD 1 ?_;refine ta 2 rfl (aZ (r:=off) rfl mH rfl aR rfl rfl) ?_;refine LX 3 Y3 (.int .i64 (n)) ?_ (hc:=by exact h);refine PD 4 ?_;refine PD 5 ?_;refine ta 6 rfl (aZ (r:=off) rfl mH rfl aR rfl rfl) ?_;refine PD 7 ?_;refine PD 8 ?_;exact DN (ac J2 (ai (WK [0] (gQ rfl rfl rfl ⟨rfl,rfl⟩))))
theorem HI(b off T:Nat)(cs:List Value)(n:Int)(h:cs[off+1]?=some (.int .i64 n)):
 DT 152 #[(.pointer (some ⟨b,off,none⟩))] T0 [ah b (cs) T] (RI (.tuple #[.int .i64 n, .pointer (some ⟨b,off+1,none⟩)]) [ah b cs T]):=by
 refine BD 11 Tryz.func152 rfl rfl rfl λw0 F hF=>sr λ_ J1=>P2 ?_
 refine nx J1 (ab λ_ J2=>D1 0 mixed ?_);refine PD 0 ?_;refine PD 1 ?_;refine ta 2 rfl (aZ (r:=off+1) rfl mH rfl aR rfl rfl) ?_;refine LX 3 Y3 (.int .i64 (n)) ?_ (hc:=by exact h);refine PD 4 ?_;refine PD 5 ?_;refine ta 6 rfl (aZ (r:=off+1) rfl mH rfl aR rfl rfl) ?_;refine PD 7 ?_;refine PD 8 ?_;exact DN (ac J2 (ai (WK [0] (gQ rfl rfl rfl ⟨rfl,rfl⟩))))
theorem EP(b off T tb:Nat)(cs:List Value)(g:Vector Int 5)(to':Int)(ht:0≤to'∧to'<5)(h:(cs.drop (off+2)).take 5=ints g.toList):
 DT 153 #[(.pointer (some ⟨b,off,none⟩)),(.pointer (some ⟨tb,0,none⟩))] T0 [ah b (cs) T,ah tb [(.int .i64 (to'))] 3] (RI (.tuple #[.int .i64 (g.toList.foldl (λs g=>fO (s+g)) 0), .pointer (some ⟨b,off+2+to'.toNat,none⟩)]) [ah b cs T,ah tb [.int .i64 to'] 3]):=by
 refine BD 25 Tryz.func153 rfl rfl rfl λw0 F hF=>sr λ_ J1=>P2 ?_
 refine nx J1 (sr λ_ J2=>PS ?_);refine nx J2 (ab λ_ J3=>sr λ_ J4=>P2 ?_);refine tp (aZ (r:=off+2) rfl mH rfl eV rfl rfl) ?_;refine tp (aM (vs:=ints g.toList) rfl jK rfl eV rfl (RO 0) (di g) h) ?_;refine PS ?_;refine nx J4 (au ?_)
 refine bu (α:=(Nat)×(Int)) (λ⟨k,s⟩=>k≤5∧s=(g.toList.take k).foldl (λs g=>fO (s+g)) 0) (λ⟨k,s⟩=>[(0,(.pointer (some ⟨b,off,none⟩))),(1,(.pointer (some ⟨tb,0,none⟩))),(3,(.int .i64 0)),(4,(.pointer none)),(5,(.int .i64 (s))),(11,(.agg (ints g.toList).toArray)),(12,(.int .i64 (((k:Nat):Int))))]) (λ⟨k,s⟩=>[ah b (cs) T,ah tb [(.int .i64 (to'))] 3]) (λ⟨k,s⟩=>5-k) (0,0)
  ⟨aN _,rfl⟩ SB
  (λ_ s=>s) (λ⟨k,s⟩ hinv=>?_)
 obtain⟨hk,hs⟩:=hinv;refine sr λ_ J5=>PS ?_
 refine ao ?_ ?_<;>intro h13;refine nx J5 (ab λ_ J6=>CY (qx J6 (ab λ_ J7=>au (sr λ_ J8=>tp (nB (cs:=ints g.toList) (v:=Value.int .i64 (g[k]'(by omega))) (r:=k) rfl jK Y3 rfl aR rfl rfl (by omega) (by omega) (by omega) (kl g (by omega))) ?_))));refine PS ?_;refine nx J8 (ad (P2 ?_));refine tp (cq (r:=(fO (s+(g[k]'(by omega))))) rfl rfl rfl rfl) ?_;refine PS ?_;refine aq (ag (ac J7 (ad (AD ?_))));refine PS ?_;refine aq ?_
 exact aJ ((k+1,(fO (s+(g[k]'(by omega))))):(Nat)×(Int)) ⟨by omega,by rw[bH (by simp;omega),eT,←hs];simp⟩ (by show 5- (k+1)<5-k;omega)
  SB
  (λ_ s=>s)
 refine nx J5 (ab λ_ J9=>CN (aY (aC (aC (bo (ac J3 (ab λ_ J10=>D1 1 mixed ?_)))))));refine PD 0 ?_;refine PD 1 ?_;refine LX 2 Y3 (.int .i64 (to')) ?_ (hc:=by exact rfl);refine PD 3 ?_;refine ta 4 rfl (aZ (r:=off+2) rfl mH rfl eV rfl rfl) ?_;refine IY 5 (off+2+(to').toNat) jK aR ?_;refine PD 6 ?_;refine PD 7 ?_;refine DN (ac J10 (ai (WK [0,0] (gQ rfl rfl rfl ?_))));exact⟨by rw[hs,az (by simp;omega)],rfl⟩
theorem AG(x:RowT)(key n:Int)(hk:0≤key∧key<4)(hn:1≤n∧n≤1099511627776):
 DT 150 #[(.agg (ints x.flat).toArray),(.int .i64 (key)),(.int .i64 (n)),(.func (.func 151) #[] #[])] T0 [] (RI (.tuple #[.agg (ints (kS x key n (dM x key).inn {dM x key with inn:=fO ((dM x key).inn+n)}).1.flat).toArray, .int .i64 (kS x key n (dM x key).inn {dM x key with inn:=fO ((dM x key).inn+n)}).2]) []):=by
 refine BD 36 Tryz.func150 rfl rfl rfl λw0 F hF=>?_
 have hkb:m5 key=true:=decide_eq_true hk;have hcell:dM x key=x.cells[key.toNat]'(by omega):=by rw[dM,dif_pos hkb]
 refine sr λ_ J1=>XY (ints x.flat) λb4=>?_
 refine XZ uu (ints RowT.zero.flat) λb8=>?_
 refine PS ?_;refine nx J1 (sr λ_ J2=>P2 ?_);refine FA 1 dU ly ?_;refine IX (1+key.toNat*7) Be fx ?_;refine TL.callRv (aa rfl) rfl rfl rfl rfl Od rfl (Ht b4 (1+key.toNat*7) 39 (ints x.flat) x.cells[key.toNat].inn (vw x (key.toNat*7) (by omega) (by omega) (nQ bv x.cells (i:=key.toNat) 0 (by omega) (by omega) (by decide) (sd _ rfl)))) (λ_ s=>aB [1] rfl s) (λ_ _ _=>trivial) (λvR HR hR=>?_);obtain⟨rfl,rfl⟩:=hR;refine P4 ?_;refine PS ?_;refine nx J2 (ab λ_ J3=>sr λ_ J4=>P2 ?_);refine tp (ix (r:=(1099511627776-n)) rfl rfl rfl (bF (by omega) (by omega))) ?_;refine PS ?_;refine ao ?_ ?_<;>intro h23;refine nx J4 (CY (sr λ_ J5=>BV ((ints RowT.zero.flat).toArray) ?_));refine SW 1 ba aj ?_;refine PS ?_;refine nx J5 (ai (ae (RT 1 [] dU ba (aj _) ?_)));exact⟨by rw[kS,hcell,if_pos h23],rfl⟩;refine nx J4 (CN (qx J3 (sr λ_ J6=>P2 ?_)));refine LT 0 Y3 (.int .i64 ((x.cells[key.toNat]'(by omega)).inn)) ?_ (hc:=by exact vw x (key.toNat*7) (by omega) (by omega) (nQ bv x.cells (i:=key.toNat) 0 (by omega) (by omega) (by decide) (sd (x.cells[key.toNat]'(by omega)) rfl)));refine PS ?_;refine tp (cq (r:=(fO (((x.cells[key.toNat]'(by omega)).inn)+n))) rfl rfl rfl rfl) ?_;refine PS ?_
 refine bw (i:=0) (aa rfl) rfl rfl rfl rfl rfl aR rfl rfl (LB (aj _)) (PP x (key.toNat*7) (by omega) (by omega) (Ic bv x.cells (i:=key.toNat) 0 (by omega) (by omega) (by decide) (CellT.set_inn _ rfl _))) rfl (nx J6 (sr λ_ J7=>FA 0 dU aR ?_));refine LT 0 Y3 (.int .i64 (x.version)) ?_ (hc:=by exact cx _ rfl);refine tp (cq (r:=(fO (x.version+1))) rfl rfl rfl rfl) ?_;refine FA 0 dU aR ?_;refine bw (i:=0) (aa rfl) rfl rfl rfl rfl rfl aR rfl rfl (LB (aj _)) (xX _ rfl _) rfl (nx J7 (sr λ_ J8=>LW 0 dU ba aj ?_));refine SW 1 ba aj ?_;refine PS ?_;refine nx J8 (ai (RT 1 [] dU ba (aj _) ?_));refine⟨?_,rfl⟩;rw[kS,hcell,if_neg h23,lq,dif_pos hkb]
theorem AH(x:RowT)(key n:Int)(hk:0≤key∧key<4)(hn:1≤n∧n≤1099511627776):
 DT 150 #[(.agg (ints x.flat).toArray),(.int .i64 (key)),(.int .i64 (n)),(.func (.func 152) #[] #[])] T0 [] (RI (.tuple #[.agg (ints (kS x key n (dM x key).out {dM x key with out:=fO ((dM x key).out+n)}).1.flat).toArray, .int .i64 (kS x key n (dM x key).out {dM x key with out:=fO ((dM x key).out+n)}).2]) []):=by
 refine BD 36 Tryz.func150 rfl rfl rfl λw0 F hF=>?_
 have hkb:m5 key=true:=decide_eq_true hk;have hcell:dM x key=x.cells[key.toNat]'(by omega):=by rw[dM,dif_pos hkb]
 refine sr λ_ J1=>XY (ints x.flat) λb4=>?_
 refine XZ uu (ints RowT.zero.flat) λb8=>?_
 refine PS ?_;refine nx J1 (sr λ_ J2=>P2 ?_);refine FA 1 dU ly ?_;refine IX (1+key.toNat*7) Be fx ?_;refine TL.callRv (aa rfl) rfl rfl rfl rfl Oc rfl (HI b4 (1+key.toNat*7) 39 (ints x.flat) x.cells[key.toNat].out (vw x (key.toNat*7+1) (by omega) (by omega) (nQ bv x.cells (i:=key.toNat) 1 (by omega) (by omega) (by decide) (sc _ rfl)))) (λ_ s=>aB [1] rfl s) (λ_ _ _=>trivial) (λvR HR hR=>?_);obtain⟨rfl,rfl⟩:=hR;refine P4 ?_;refine PS ?_;refine nx J2 (ab λ_ J3=>sr λ_ J4=>P2 ?_);refine tp (ix (r:=(1099511627776-n)) rfl rfl rfl (bF (by omega) (by omega))) ?_;refine PS ?_;refine ao ?_ ?_<;>intro h23;refine nx J4 (CY (sr λ_ J5=>BV ((ints RowT.zero.flat).toArray) ?_));refine SW 1 ba aj ?_;refine PS ?_;refine nx J5 (ai (ae (RT 1 [] dU ba (aj _) ?_)));exact⟨by rw[kS,hcell,if_pos h23],rfl⟩;refine nx J4 (CN (qx J3 (sr λ_ J6=>P2 ?_)));refine LT 0 Y3 (.int .i64 ((x.cells[key.toNat]'(by omega)).out)) ?_ (hc:=by exact vw x (key.toNat*7+1) (by omega) (by omega) (nQ bv x.cells (i:=key.toNat) 1 (by omega) (by omega) (by decide) (sc (x.cells[key.toNat]'(by omega)) rfl)));refine PS ?_;refine tp (cq (r:=(fO (((x.cells[key.toNat]'(by omega)).out)+n))) rfl rfl rfl rfl) ?_;refine PS ?_
 refine bw (i:=0) (aa rfl) rfl rfl rfl rfl rfl aR rfl rfl (LB (aj _)) (PP x (key.toNat*7+1) (by omega) (by omega) (Ic bv x.cells (i:=key.toNat) 1 (by omega) (by omega) (by decide) (CellT.set_out _ rfl _))) rfl (nx J6 (sr λ_ J7=>FA 0 dU aR ?_));refine LT 0 Y3 (.int .i64 (x.version)) ?_ (hc:=by exact cx _ rfl);refine tp (cq (r:=(fO (x.version+1))) rfl rfl rfl rfl) ?_;refine FA 0 dU aR ?_;refine bw (i:=0) (aa rfl) rfl rfl rfl rfl rfl aR rfl rfl (LB (aj _)) (xX _ rfl _) rfl (nx J7 (sr λ_ J8=>LW 0 dU ba aj ?_));refine SW 1 ba aj ?_;refine PS ?_;refine nx J8 (ai (RT 1 [] dU ba (aj _) ?_));refine⟨?_,rfl⟩;rw[kS,hcell,if_neg h23,lq,dif_pos hkb]
theorem yn(x:RowT)(key n:Int)(hk:0≤key∧key<4)(hn:1≤n∧n≤1099511627776)(tb:Nat)(to':Int)(ht:0≤to'∧to'<5):
 DT 150 #[(.agg (ints x.flat).toArray),(.int .i64 (key)),(.int .i64 (n)),(.func (.func 153) #[] #[(.pointer (some ⟨tb,0,none⟩))])] T0 [ah tb [(.int .i64 (to'))] 3] (RI (.tuple #[.agg (ints (kS x key n (Ir (dM x key)) (xt (dM x key) to' (fO (lr (dM x key) to'+n)))).1.flat).toArray, .int .i64 (kS x key n (Ir (dM x key)) (xt (dM x key) to' (fO (lr (dM x key) to'+n)))).2]) [ah tb [.int .i64 to'] 3]):=by
 refine Leg.Does.body (vs:=[(.agg (ints x.flat).toArray),(.int .i64 (key)),(.int .i64 (n)),(.func (.func 153) #[] #[(.pointer (some ⟨tb,0,none⟩))])]) (n:=36) Tryz.func150 rfl rfl rfl (λw0 F hF=>?_);have hkb:m5 key=true:=decide_eq_true hk;have hcell:dM x key=x.cells[key.toNat]'(by omega):=by rw[dM,dif_pos hkb]
 have htb:cH to'=true:=decide_eq_true ht;refine sr λ_ J1=>?_
 refine TL.box (aa rfl) rfl rfl rfl rfl (λb4=>?_);change TL _ _ _ _ _ _ _ _ _ [ah b4 (ints x.flat) 39,ah tb [(.int .i64 (to'))] 3];refine lQ (aa rfl) rfl rfl rfl uu (λb8=>?_);change TL _ _ _ _ _ _ _ _ _ [ah b8 (ints RowT.zero.flat) 39,ah b4 (ints x.flat) 39,ah tb [(.int .i64 (to'))] 3];refine pG ?_;refine nx J1 ?_;refine sr λ_ J2=>?_
 refine mv ?_;refine mv ?_;refine tp (aZ (r:=1) rfl dU rfl ly rfl rfl) ?_;refine tp (el (r:=1+key.toNat*7) rfl Be fx rfl rfl (by omega) (by omega) (by omega)) ?_;refine TL.callRv (aa rfl) rfl rfl rfl rfl Ob rfl (EP b4 (1+key.toNat*7) 39 tb (ints x.flat) x.cells[key.toNat].given to' ht (Dt x (key.toNat*7+2) (by omega) (by omega) (kF bv x.cells (i:=key.toNat) 2 (by omega) (by omega) (by decide) (CellT.sub_given (x.cells[key.toNat]'(by omega)) 0 rfl (by decide) (whole (di ((x.cells[key.toNat]'(by omega)).given))))))) (λ_ s=>aB [1,1] rfl s) (λ_ _ _=>trivial) (λvR HR hR=>?_);obtain⟨rfl,rfl⟩:=hR;refine mv ?_;refine tp (gT (vs:=[(.int .i64 ((Ir (x.cells[key.toNat]'(by omega))))),(.pointer (some ⟨b4,1+key.toNat*7+2+to'.toNat,none⟩))]) rfl rfl rfl) ?_;refine tp (gT (vs:=[(.int .i64 ((Ir (x.cells[key.toNat]'(by omega))))),(.pointer (some ⟨b4,1+key.toNat*7+2+to'.toNat,none⟩))]) rfl rfl rfl) ?_;refine pG ?_;refine pG ?_;refine nx J2 ?_;refine ab λ_ J3=>?_
 refine sr λ_ J4=>?_
 refine mv ?_;refine mv ?_;refine tp (ix (r:=(1099511627776-n)) rfl rfl rfl (bF (by omega) (by omega))) ?_;refine tp (PV.gtr rfl rfl rfl) ?_;refine ao (λh23=>?_) (λh23=>?_);refine nx J4 ?_;refine iS rfl ?_;refine sr λ_ J5=>?_
 refine tp (jY (cells:=(ints RowT.zero.flat).toArray) rfl rfl (by as_aux_lemma=>kernel_rfl)) ?_;refine bP (vs:=ints RowT.zero.flat) (i:=2) (aa rfl) rfl rfl rfl rfl rfl (by rw[(aj RowT.zero)];exact ba) (bj _) rfl rfl (by have h0:=(aj RowT.zero);have h1:=(aj RowT.zero);omega) (cr ((aj RowT.zero).trans (aj RowT.zero).symm)) rfl ?_;refine pG ?_;refine nx J5 ?_;refine ai ?_;refine ae ?_;refine lR (H':=[ah tb [(.int .i64 (to'))] 3]) rfl rfl rfl dU rfl ba (dR 2 rfl rfl) (aj RowT.zero) (λ_ s=>ak [1] rfl s) ?_;exact⟨by rw[kS,hcell,if_pos h23],rfl⟩;refine nx J4 ?_;refine tl rfl ?_;refine aT ?_;refine ac J3 ?_;refine sr λ_ J6=>?_
 refine mv ?_;refine tp (fZ rfl rfl) ?_;refine tp (eZ (v:=(.int .i64 ((((x.cells[key.toNat]'(by omega)).given)[to'.toNat]'(by omega))))) rfl Y3 rfl rfl (dR 0 rfl rfl) (vw x (key.toNat*7+2+to'.toNat) (by omega) (by omega) (nQ bv x.cells (i:=key.toNat) (2+to'.toNat) (by omega) (by omega) (by omega) (OV (x.cells[key.toNat]'(by omega)) (to'.toNat) (by omega) (by omega) (kl ((x.cells[key.toNat]'(by omega)).given) (by omega)))))) ?_;refine mv ?_;refine tp (cq (r:=(fO ((((x.cells[key.toNat]'(by omega)).given)[to'.toNat]'(by omega))+n))) rfl rfl rfl rfl) ?_;refine tp (fZ rfl rfl) ?_;refine bw (i:=0) (aa rfl) rfl rfl rfl rfl rfl aR rfl rfl (by have h0:=(aj x);omega) (PP x (key.toNat*7+2+to'.toNat) (by omega) (by omega) (Ic bv x.cells (i:=key.toNat) (2+to'.toNat) (by omega) (by omega) (by omega) (CellT.st_given (x.cells[key.toNat]'(by omega)) (to'.toNat) (by omega) (by omega) (yW ((x.cells[key.toNat]'(by omega)).given) (by omega) _)))) rfl ?_;refine nx J6 ?_;refine sr λ_ J7=>?_
 refine tp (aZ (r:=0) rfl dU rfl aR rfl rfl) ?_;refine tp (eZ (v:=(.int .i64 (x.version))) rfl Y3 rfl rfl (dR 0 rfl rfl) (cx (RowT.mk x.version (x.cells.set key.toNat (CellT.mk ((x.cells[key.toNat]'(by omega)).inn) ((x.cells[key.toNat]'(by omega)).out) (((x.cells[key.toNat]'(by omega)).given).set to'.toNat (fO ((((x.cells[key.toNat]'(by omega)).given)[to'.toNat]'(by omega))+n)) (by omega))) (by omega)) x.heir x.left) rfl)) ?_;refine tp (cq (r:=(fO (x.version+1))) rfl rfl rfl rfl) ?_;refine tp (aZ (r:=0) rfl dU rfl aR rfl rfl) ?_;refine bw (i:=0) (aa rfl) rfl rfl rfl rfl rfl aR rfl rfl (by have h0:=(aj (RowT.mk x.version (x.cells.set key.toNat (CellT.mk ((x.cells[key.toNat]'(by omega)).inn) ((x.cells[key.toNat]'(by omega)).out) (((x.cells[key.toNat]'(by omega)).given).set to'.toNat (fO ((((x.cells[key.toNat]'(by omega)).given)[to'.toNat]'(by omega))+n)) (by omega))) (by omega)) x.heir x.left));omega) (xX (RowT.mk x.version (x.cells.set key.toNat (CellT.mk ((x.cells[key.toNat]'(by omega)).inn) ((x.cells[key.toNat]'(by omega)).out) (((x.cells[key.toNat]'(by omega)).given).set to'.toNat (fO ((((x.cells[key.toNat]'(by omega)).given)[to'.toNat]'(by omega))+n)) (by omega))) (by omega)) x.heir x.left) rfl _) rfl ?_;refine nx J7 ?_;refine sr λ_ J8=>?_
 refine tp (aM (vs:=ints (RowT.mk (fO (x.version+1)) (x.cells.set key.toNat (CellT.mk ((x.cells[key.toNat]'(by omega)).inn) ((x.cells[key.toNat]'(by omega)).out) (((x.cells[key.toNat]'(by omega)).given).set to'.toNat (fO ((((x.cells[key.toNat]'(by omega)).given)[to'.toNat]'(by omega))+n)) (by omega))) (by omega)) x.heir x.left).flat) rfl dU rfl ba rfl (dR 0 rfl rfl) (aj (RowT.mk (fO (x.version+1)) (x.cells.set key.toNat (CellT.mk ((x.cells[key.toNat]'(by omega)).inn) ((x.cells[key.toNat]'(by omega)).out) (((x.cells[key.toNat]'(by omega)).given).set to'.toNat (fO ((((x.cells[key.toNat]'(by omega)).given)[to'.toNat]'(by omega))+n)) (by omega))) (by omega)) x.heir x.left)) (whole (aj (RowT.mk (fO (x.version+1)) (x.cells.set key.toNat (CellT.mk ((x.cells[key.toNat]'(by omega)).inn) ((x.cells[key.toNat]'(by omega)).out) (((x.cells[key.toNat]'(by omega)).given).set to'.toNat (fO ((((x.cells[key.toNat]'(by omega)).given)[to'.toNat]'(by omega))+n)) (by omega))) (by omega)) x.heir x.left)))) ?_
 refine bP (vs:=ints (RowT.mk (fO (x.version+1)) (x.cells.set key.toNat (CellT.mk ((x.cells[key.toNat]'(by omega)).inn) ((x.cells[key.toNat]'(by omega)).out) (((x.cells[key.toNat]'(by omega)).given).set to'.toNat (fO ((((x.cells[key.toNat]'(by omega)).given)[to'.toNat]'(by omega))+n)) (by omega))) (by omega)) x.heir x.left).flat) (i:=2) (aa rfl) rfl rfl rfl rfl rfl (by rw[(aj (RowT.mk (fO (x.version+1)) (x.cells.set key.toNat (CellT.mk ((x.cells[key.toNat]'(by omega)).inn) ((x.cells[key.toNat]'(by omega)).out) (((x.cells[key.toNat]'(by omega)).given).set to'.toNat (fO ((((x.cells[key.toNat]'(by omega)).given)[to'.toNat]'(by omega))+n)) (by omega))) (by omega)) x.heir x.left))];exact ba) (bj _) rfl rfl (by have h0:=(aj RowT.zero);have h1:=(aj (RowT.mk (fO (x.version+1)) (x.cells.set key.toNat (CellT.mk ((x.cells[key.toNat]'(by omega)).inn) ((x.cells[key.toNat]'(by omega)).out) (((x.cells[key.toNat]'(by omega)).given).set to'.toNat (fO ((((x.cells[key.toNat]'(by omega)).given)[to'.toNat]'(by omega))+n)) (by omega))) (by omega)) x.heir x.left));omega) (cr ((aj RowT.zero).trans (aj (RowT.mk (fO (x.version+1)) (x.cells.set key.toNat (CellT.mk ((x.cells[key.toNat]'(by omega)).inn) ((x.cells[key.toNat]'(by omega)).out) (((x.cells[key.toNat]'(by omega)).given).set to'.toNat (fO ((((x.cells[key.toNat]'(by omega)).given)[to'.toNat]'(by omega))+n)) (by omega))) (by omega)) x.heir x.left)).symm)) rfl ?_;refine pG ?_;refine nx J8 ?_;refine ai ?_
 refine lR (H':=[ah tb [(.int .i64 (to'))] 3]) rfl rfl rfl dU rfl ba (dR 2 rfl rfl) (aj (RowT.mk (fO (x.version+1)) (x.cells.set key.toNat (CellT.mk ((x.cells[key.toNat]'(by omega)).inn) ((x.cells[key.toNat]'(by omega)).out) (((x.cells[key.toNat]'(by omega)).given).set to'.toNat (fO ((((x.cells[key.toNat]'(by omega)).given)[to'.toNat]'(by omega))+n)) (by omega))) (by omega)) x.heir x.left)) (λ_ s=>ak [1] rfl s) ?_;refine⟨?_,rfl⟩;rw[kS,hcell,if_neg h23,lq,dif_pos hkb];simp[xt,lr,htb]
theorem B5(x:RowT)(key n:Int):
 DT 110 #[(.agg (ints x.flat).toArray),(.int .i64 (key)),(.int .i64 (n))] T0 [] (RI (.tuple #[.agg (ints (oM x key n).1.flat).toArray, .int .i64 (oM x key n).2]) []):=by
 refine BD 19 Tryz.func110 rfl rfl rfl λw0 F hF=>sr λ_ J1=>XY (ints x.flat) λb3=>?_
 refine XZ uu (ints RowT.zero.flat) λb6=>?_
 refine PS ?_;refine nx J1 (ab λ_ J2=>sr λ_ J3=>P2 ?_);refine CE I3 (rX key n) ID ?_;refine bc ?_ ?_<;>intro h10;have hq:=h10;unfold xS m5 H3 at hq;simp only[ax,decide_eq_true_iff]at hq;have hk:0≤key∧key<4:=hq.1.1;have hn:1≤n∧n≤1099511627776:=⟨hq.1.2,hq.2.2⟩;refine PS ?_;refine nx J3 (CN (qx J2 (sr λ_ J4=>LW 1 dU ba aj ?_)));refine P2 ?_;refine CE I1 (AG x key n hk hn) ID ?_;refine P2 ?_;refine SW 0 ba aj ?_;refine PS ?_;refine nx J4 (ai (RT 0 [] dU ba (aj _) ?_));exact⟨by simp[oM, *],rfl⟩;refine PS ?_;refine nx J3 (CY (sr λ_ J5=>BV ((ints RowT.zero.flat).toArray) ?_));refine SW 0 ba aj ?_;refine PS ?_;refine nx J5 (ai (ae (RT 0 [] dU ba (aj _) ?_)));exact⟨by simp[oM, *],rfl⟩
theorem B6(x:RowT)(key n:Int):
 DT 111 #[(.agg (ints x.flat).toArray),(.int .i64 (key)),(.int .i64 (n))] T0 [] (RI (.tuple #[.agg (ints (oN x key n).1.flat).toArray, .int .i64 (oN x key n).2]) []):=by
 refine BD 19 Tryz.func111 rfl rfl rfl λw0 F hF=>sr λ_ J1=>XY (ints x.flat) λb3=>?_
 refine XZ uu (ints RowT.zero.flat) λb6=>?_
 refine PS ?_;refine nx J1 (ab λ_ J2=>sr λ_ J3=>P2 ?_);refine CE I3 (rX key n) ID ?_;refine bc ?_ ?_<;>intro h10;have hq:=h10;unfold xS m5 H3 at hq;simp only[ax,decide_eq_true_iff]at hq;have hk:0≤key∧key<4:=hq.1.1;have hn:1≤n∧n≤1099511627776:=⟨hq.1.2,hq.2.2⟩;refine PS ?_;refine nx J3 (CN (qx J2 (sr λ_ J4=>LW 1 dU ba aj ?_)));refine P2 ?_;refine CE I1 (AH x key n hk hn) ID ?_;refine P2 ?_;refine SW 0 ba aj ?_;refine PS ?_;refine nx J4 (ai (RT 0 [] dU ba (aj _) ?_));exact⟨by simp[oN, *],rfl⟩;refine PS ?_;refine nx J3 (CY (sr λ_ J5=>BV ((ints RowT.zero.flat).toArray) ?_));refine SW 0 ba aj ?_;refine PS ?_;refine nx J5 (ai (ae (RT 0 [] dU ba (aj _) ?_)));exact⟨by simp[oN, *],rfl⟩
theorem Ao(x:RowT)(key n to':Int):
 DT 112 #[(.agg (ints x.flat).toArray),(.int .i64 (key)),(.int .i64 (n)),(.int .i64 (to'))] T0 [] (RI (.tuple #[.agg (ints (lp x key n to').1.flat).toArray, .int .i64 (lp x key n to').2]) []):=by
 refine BD 27 Tryz.func112 rfl rfl rfl λw0 F hF=>sr λ_ J1=>XY (ints x.flat) λb4=>?_
 refine XB λb7=>?_
 refine XZ uu (ints RowT.zero.flat) λb8=>?_
 refine PS ?_;refine nx J1 (ab λ_ J2=>sr λ_ J3=>LA 1 Y3 ?_);refine CE KB (j6 to') ID ?_;refine bc ?_ ?_<;>intro h11;refine PS ?_;refine P3 ?_;refine CE I3 (rX key n) ID ?_;refine bc ?_ ?_<;>intro h16;have hq:=h16;unfold xS m5 H3 at hq;simp only[ax,decide_eq_true_iff]at hq;have hk:0≤key∧key<4:=hq.1.1;have hn:1≤n∧n≤1099511627776:=⟨hq.1.2,hq.2.2⟩;have ht:0≤to'∧to'<5:=of_decide_eq_true h11;refine PS ?_;refine PS ?_;refine nx J3 (CN (qx J2 (sr λ_ J4=>LW 2 dU ba aj ?_)));refine P2 ?_;refine tp (Qb rfl rfl) ?_;refine CE I1 (yn x key n hk hn b7 to' ht) (SM [1]) ?_;refine P2 ?_;refine SW 1 ba aj ?_;refine PS ?_;refine nx J4 (ai (RT 1 [] dU ba (aj _) ?_));exact⟨by simp[lp, *],rfl⟩;refine PS ?_;refine PS ?_;refine nx J3 (CY (sr λ_ J5=>BV ((ints RowT.zero.flat).toArray) ?_));refine SW 0 ba aj ?_;refine PS ?_;refine nx J5 (ai (ae (RT 0 [] dU ba (aj _) ?_)));exact⟨by simp[lp, *],rfl⟩;refine PS ?_;refine PS ?_
 iterate 4 refine UT ?_
 refine PS ?_;refine nx J3 (CY (sr λ_ J6=>BV ((ints RowT.zero.flat).toArray) ?_));refine SW 0 ba aj ?_;refine PS ?_;refine nx J6 (ai (ae (RT 0 [] dU ba (aj _) ?_)));exact⟨by simp[lp, *],rfl⟩
theorem B4(x:RowT)(who:Int):
 DT 154 #[(.agg (ints x.flat).toArray),(.int .i64 (who))] T0 [] (dh (λr' H=>∃u,r'=u∧H=[own u (gi x who).length (ints (gi x who)) 3 1])):=by
 refine BD 27 Tryz.func154 rfl rfl rfl λw0 F hF=>sr λ_ J1=>XY (ints x.flat) λb2=>?_
 refine PS ?_;refine nx J1 (sr λ_ J2=>PS ?_);refine nx J2 (ab λ_ J3=>sr λ_ J4=>FA 29 dU eV ?_);refine tp (aM (vs:=ints x.heir.toList) rfl jK rfl eV rfl (RO 0) (di x.heir) (PO x 0 rfl (by decide) (whole (di x.heir)))) ?_;refine PS ?_;refine nx J4 (au ?_)
 refine bu (α:=(Nat)×(Value)) (λ⟨k,u⟩=>k≤5∧u.oneCell'=true) (λ⟨k,u⟩=>[(1,(.int .i64 (who))),(4,(.slice none 0 0)),(5,u),(9,(.agg (ints x.heir.toList).toArray)),(10,(.int .i64 (((k:Nat):Int))))]) (λ⟨k,u⟩=>[own u ((iv x who k).length) (ints (iv x who k)) 3 1]) (λ⟨k,u⟩=>5-k) (0,(.slice none 0 0))
  ⟨aN _,rfl⟩ SB
  (λ_ s=>fP 3 1 (ak [] rfl s)) (λ⟨k,u⟩ hinv=>?_)
 obtain⟨hk,hu⟩:=hinv;have hol:=G3 x who k;refine sr λ_ J5=>PS ?_
 refine ao ?_ ?_<;>intro h11;refine nx J5 (ab λ_ J6=>CY (qx J6 (ab λ_ J7=>au (sr λ_ J8=>PS ?_))));refine tp (nB (cs:=ints x.heir.toList) (v:=Value.int .i64 (x.heir[k]'(by omega))) (r:=k) rfl jK Y3 rfl aR rfl rfl (by omega) (by omega) (by omega) (kl x.heir (by omega))) ?_;refine P2 ?_;refine nx J8 (sr λ_ J9=>P3 ?_);refine ao ?_ ?_<;>intro h16;refine PS ?_;refine UT ?_;refine UT ?_;refine PS ?_;refine nx J9 (CY (ad (P2 ?_)));refine aQ (cells:=#[(.int .i64 (((k:Nat):Int)))]) (aa rfl) rfl rfl rfl iL oA rfl rfl rfl (by as_aux_lemma=>kernel_rfl) (λb23=>ci (k:=1) (news:=[(.int .i64 (((k:Nat):Int)))]) (nn':=(iv x who k).length+1) (xs':=ints (iv x who k)++[(.int .i64 (((k:Nat):Int)))]) (aa rfl) rfl rfl rfl iL oA rfl rfl rfl rfl rfl rfl (λ_ _=>gS rfl (RO 0) rfl) (by simp[Value.oneCell']) (by simp only[maxLen];omega) (by omega) (by simp) (by simp) (λv24 ov24=>PS ?_));refine aq (ag (ac J7 (ad (AD ?_))));refine PS ?_;refine aq ?_
 exact aJ ((k+1,v24):(Nat)×(Value)) ⟨by omega,ov24⟩ (by show 5- (k+1)<5-k;omega)
  SB
  (λ_ s=>by
   show bD [own v24 (iv x who (k+1)).length (ints (iv x who (k+1))) 3 1] _;rw[show iv x who (k+1)=iv x who k++[((k:Nat):Int)]by rw[rI,if_pos (by rw[wZ x who (by omega)];simp;omega)],af,ej]
   exact ak [1] rfl s)
 refine P3 ?_;refine ao ?_ ?_<;>intro h19;refine PS ?_;refine nx J9 (CY (ad (P2 ?_)));refine aQ (cells:=#[(.int .i64 (((k:Nat):Int)))]) (aa rfl) rfl rfl rfl iL oA rfl rfl rfl (by as_aux_lemma=>kernel_rfl) (λb23=>ci (k:=1) (news:=[(.int .i64 (((k:Nat):Int)))]) (nn':=(iv x who k).length+1) (xs':=ints (iv x who k)++[(.int .i64 (((k:Nat):Int)))]) (aa rfl) rfl rfl rfl iL oA rfl rfl rfl rfl rfl rfl (λ_ _=>gS rfl (RO 0) rfl) (by simp[Value.oneCell']) (by simp only[maxLen];omega) (by omega) (by simp) (by simp) (λv24 ov24=>PS ?_));refine aq (ag (ac J7 (ad (AD ?_))));refine PS ?_;refine aq ?_
 exact aJ ((k+1,v24):(Nat)×(Value)) ⟨by omega,ov24⟩ (by show 5- (k+1)<5-k;omega)
  SB
  (λ_ s=>by
   show bD [own v24 (iv x who (k+1)).length (ints (iv x who (k+1))) 3 1] _;rw[show iv x who (k+1)=iv x who k++[((k:Nat):Int)]by rw[rI,if_pos (by rw[wZ x who (by omega)];simp;omega)],af,ej]
   exact ak [1] rfl s)
 refine PS ?_;refine nx J9 (CN (aT (ag (ac J7 (ad (AD ?_))))));refine PS ?_;refine aq ?_
 exact aJ ((k+1,u):(Nat)×(Value)) ⟨by omega,hu⟩ (by show 5- (k+1)<5-k;omega)
  SB
  (λ_ s=>by
   show bD [own u (iv x who (k+1)).length (ints (iv x who (k+1))) 3 1] _;rw[show iv x who (k+1)=iv x who k by rw[rI,if_neg (by rw[wZ x who (by omega)];simp;omega),aP]]
   exact ak [0] rfl s)
 refine nx J5 (ab λ_ J10=>CN (aY (aC (aC (bo (ac J3 (sr λ_ J11=>P2 ?_)))))));refine nx J11 (ai (WK [0] (av rfl rfl ?_)));obtain rfl:k=5:=by omega
 exact⟨u,rfl,rfl⟩
theorem Ap(x:RowT)(who of' key:Int):
 DT 60 #[(.agg (ints x.flat).toArray),(.int .i64 (who)),(.int .i64 (of')),(.int .i64 (key))] T0 [] (RI (.tuple #[.agg (ints (j7 x who of' key).1.flat).toArray, .int .i64 (j7 x who of' key).2]) []):=by
 refine BD 53 Tryz.func60 rfl rfl rfl λw0 F hF=>sr λ_ J1=>XY (ints x.flat) λb4=>?_
 refine XZ JW (ints CellT.zero.flat) λb8=>?_
 refine PS ?_;refine nx J1 (ab λ_ J2=>sr λ_ J3=>PS ?_);refine CE KB (j6 who) ID ?_;refine bc ?_ ?_<;>intro h11;refine PS ?_;refine P2 ?_;refine CE KB (j6 of') ID ?_;refine bc ?_ ?_<;>intro h15;refine PS ?_;refine P4 ?_;refine ao ?_ ?_<;>intro h20;have hkb:m5 key=false:=decide_eq_false (by omega);refine P2 ?_;refine UT ?_;refine UT ?_;refine PS ?_;refine nx J3 (CY (sr λ_ J4=>BV ((ints CellT.zero.flat).toArray) ?_));refine SW 0 fx bm ?_;refine PS ?_;refine nx J4 (ai (ae (RT 0 [] mH fx (bm _) ?_)));exact⟨by simp[j7, *],rfl⟩;refine P4 ?_;refine ao ?_ ?_<;>intro h24;have hkb:m5 key=false:=decide_eq_false (by omega);refine PS ?_;refine nx J3 (CY (sr λ_ J5=>BV ((ints CellT.zero.flat).toArray) ?_));refine SW 0 fx bm ?_;refine PS ?_;refine nx J5 (ai (ae (RT 0 [] mH fx (bm _) ?_)));exact⟨by simp[j7, *],rfl⟩;have hw:cH who=true:=by simpa using h11
 have ho:cH of'=true:=by simpa using h15
 have hw2:0≤who∧who<5:=of_decide_eq_true hw;have ho2:0≤of'∧of'<5:=of_decide_eq_true ho;have hkb:m5 key=true:=decide_eq_true ⟨by omega,by omega⟩;have e1:fR x of'=x.heir[of'.toNat]'(by omega):=by rw[fR,dif_pos ho]
 have e2:EE x of' key=(x.left[of'.toNat]'(by omega))[key.toNat]'(by omega):=by rw[EE,dif_pos ⟨ho,hkb⟩]
 have e3:dM x key=x.cells[key.toNat]'(by omega):=by rw[dM,dif_pos hkb]
 refine PS ?_;refine nx J3 (CN (qx J2 (ab λ_ J6=>sr λ_ J7=>P3 ?_)));refine ao ?_ ?_<;>intro h29;refine nx J7 (CY (ab λ_ J8=>D1 1 mixed ?_));refine PD 0 ?_;refine FD 1 1 dU ly ?_;refine IY 2 (1+key.toNat*7) Be fx ?_;refine ta 3 rfl (aM (vs:=ints (x.cells[key.toNat]'(by omega)).flat) rfl mH rfl fx rfl (λ_ h=>h.2.1) (bm (x.cells[key.toNat]'(by omega))) (Dt x (key.toNat*7) (by omega) (by omega) (kF bv x.cells (i:=key.toNat) 0 (by omega) (by omega) (by decide) (whole (bm (x.cells[key.toNat]'(by omega))))))) ?_;refine FD 4 0 dU aR ?_;refine LR 5 Y3 (cx x rfl) ?_;refine AL 6 ?_;refine SW 0 fx bm ?_;refine EN (PD 7 ?_);refine DN (ac J8 (ai (ae (RT 0 [] mH fx (bm _) ?_))));exact⟨by simp[j7, *],rfl⟩;refine nx J7 (CN (qx J6 (ab λ_ J9=>sr λ_ J10=>PS ?_)));refine FA 29 dU eV ?_;refine IX (29+(of').toNat) jK aR ?_;refine LT 1 Y3 (.int .i64 ((x.heir[(of').toNat]'(by omega)))) ?_ (hc:=by exact rY x ((of').toNat) (by omega) (by omega) (kl x.heir (by omega)));refine PS ?_;refine ao ?_ ?_<;>intro h40;refine nx J10 (CY (ab λ_ J11=>D1 1 mixed ?_));refine PD 0 ?_;refine PD 1 ?_;refine FD 2 34 dU By ?_;refine IY 3 (34+((of').toNat)*28) Mh ly ?_;refine IY 4 (34+((of').toNat)*28+key.toNat*7) Be fx ?_
 refine ta 5 rfl (aM (vs:=ints ((x.left[(of').toNat]'(by omega))[key.toNat]'(by omega)).flat) rfl mH rfl fx rfl (λ_ h=>h.2.1) (bm ((x.left[(of').toNat]'(by omega))[key.toNat]'(by omega))) (F9 x (((of').toNat)*28+key.toNat*7) (by omega) (by omega) (kF tA x.left (i:=(of').toNat) (key.toNat*7) (by omega) (by omega) (by omega) (kF bv (x.left[(of').toNat]'(by omega)) (i:=key.toNat) 0 (by omega) (by omega) (by decide) (whole (bm ((x.left[(of').toNat]'(by omega))[key.toNat]'(by omega)))))))) ?_;refine PD 6 ?_;refine FD 7 29 dU eV ?_;refine IY 8 (29+(of').toNat) jK aR ?_;refine LX 9 Y3 (.int .i64 ((x.heir[(of').toNat]'(by omega)))) ?_ (hc:=by exact rY x ((of').toNat) (by omega) (by omega) (kl x.heir (by omega)));refine ta 10 rfl (ix (r:=(fO ((x.heir[(of').toNat]'(by omega))-1))) rfl rfl rfl rfl) ?_;refine AL 11 ?_;refine SW 0 fx bm ?_;refine EN (PD 12 ?_);refine DN (ac J11 (ai (ae (RT 0 [] mH fx (bm _) ?_))));exact⟨by simp[j7, *],rfl⟩;refine nx J10 (CN (qx J9 (sr λ_ J12=>BV ((ints CellT.zero.flat).toArray) ?_)));refine SW 0 fx bm ?_;refine PS ?_;refine nx J12 (ai (RT 0 [] mH fx (bm _) ?_));exact⟨by simp[j7, *],rfl⟩;refine PS ?_;refine P2 ?_;refine UT ?_;refine UT ?_;refine P2 ?_;refine UT ?_;refine UT ?_;refine PS ?_;refine nx J3 (CY (sr λ_ J13=>BV ((ints CellT.zero.flat).toArray) ?_));refine SW 0 fx bm ?_;refine PS ?_;refine nx J13 (ai (ae (RT 0 [] mH fx (bm _) ?_)));exact⟨by simp[j7, *],rfl⟩;refine PS ?_;refine PS ?_
 iterate 3 refine UT ?_
 refine P2 ?_;refine UT ?_;refine UT ?_;refine P2 ?_;refine UT ?_;refine UT ?_;refine PS ?_;refine nx J3 (CY (sr λ_ J14=>BV ((ints CellT.zero.flat).toArray) ?_));refine SW 0 fx bm ?_;refine PS ?_;refine nx J14 (ai (ae (RT 0 [] mH fx (bm _) ?_)));exact⟨by simp[j7, *],rfl⟩
theorem pM(who:Int):
 DT 127 #[(.int .i64 (who))] T0 [] (dh (λr' H=>∃u,r'=u∧H=[own u (gR who).length (ints (gR who)) 3 1])):=by
 refine BD 20 Tryz.func127 rfl rfl rfl λw0 F hF=>sr λ_ J1=>PS ?_
 refine nx J1 (ab λ_ J2=>sr λ_ J3=>PS ?_);refine CE Ck (jM who) ID ?_;refine bc ?_ ?_<;>intro h6;have hm:0≤who∧who<5:=of_decide_eq_true h6;refine PS ?_;refine nx J3 (CN (qx J2 (sr λ_ J4=>OK 3 1 (λon=>?_))));clear on;refine PS ?_;refine nx J4 (ab λ_ J5=>sr λ_ J6=>PS ?_);refine nx J6 (au (sh 3 (ab λ_ J7=>sr λ_ J8=>P2 ?_)));refine nx J8 (CY (qx J7 (ab λ_ J9=>au (ad (P3 ?_)))));refine tp (cq (r:=(who+1)) rfl rfl rfl (bF (by omega) (by omega))) ?_;refine tp (PV.rem (r:=((who+1)%5)) rfl rfl rfl (by omega) (FF (by omega))) ?_;refine aQ (cells:=#[(.int .i64 (((who+1)%5)))]) (aa rfl) rfl rfl rfl iL oA rfl rfl rfl (by as_aux_lemma=>kernel_rfl) (λb17=>ci (k:=1) (news:=[(.int .i64 (((who+1)%5)))]) (nn':=1) (xs':=[(.int .i64 (((who+1)%5)))]) (aa rfl) rfl rfl rfl iL oA rfl rfl rfl rfl rfl rfl (λ_ _=>gS rfl (RO 0) rfl) (by simp[Value.oneCell']) (by simp only[maxLen];omega) (by omega) (by simp) (by simp) (λv18 ov18=>PS ?_));refine aq (ag (ac J9 (ad (PS ?_))));refine tp (cq (r:=2) rfl rfl rfl (by decide)) ?_;refine PS ?_;refine aq (ek (ab λ_ J10=>sr λ_ J11=>P2 ?_));refine nx J11 (CY (qx J10 (ab λ_ J12=>au (ad (P3 ?_)))));refine tp (cq (r:=(who+2)) rfl rfl rfl (bF (by omega) (by omega))) ?_;refine tp (PV.rem (r:=((who+2)%5)) rfl rfl rfl (by omega) (FF (by omega))) ?_
 refine ck (H':=[own v18 (1) ([(.int .i64 (((who+1)%5)))]) 3 1]) (λ_ s=>ak [1] rfl s) (aQ (cells:=#[(.int .i64 (((who+2)%5)))]) (aa rfl) rfl rfl rfl iL oA rfl rfl rfl (by as_aux_lemma=>kernel_rfl) (λb17=>ci (k:=1) (news:=[(.int .i64 (((who+2)%5)))]) (nn':=1+1) (xs':=[(.int .i64 (((who+1)%5)))]++[(.int .i64 (((who+2)%5)))]) (aa rfl) rfl rfl rfl iL oA rfl rfl rfl rfl rfl rfl (λ_ _=>gS rfl (RO 0) rfl) (by simp[Value.oneCell']) (by simp only[maxLen];omega) (by omega) (by simp) (by simp) (λv18 ov18=>PS ?_)));refine aq (ag (ac J12 (ad (PS ?_))));refine tp (cq (r:=3) rfl rfl rfl (by decide)) ?_;refine PS ?_;refine aq (ek (ab λ_ J13=>sr λ_ J14=>P2 ?_));refine nx J14 (CN (aY (aC (aC (bo (ac J5 (sr λ_ J15=>P2 ?_)))))));refine nx J15 (ai (WK [1] (av rfl rfl ?_)));exact⟨_,rfl,by rw[gR,if_pos h6];rfl⟩;refine PS ?_;refine nx J3 (CY (sr λ_ J16=>PS ?_));refine nx J16 (ai (ae (aF (H':=[own (.slice none 0 0) 0 [] 3 1]) (dd _) (λ_ s=>fP 3 1 s) (av rfl rfl ?_))));exact⟨_,rfl,by rw[gR,if_neg (by simp[h6])];rfl⟩
theorem mz(b off T:Nat)(cs:BookT→List Value)(hA:Arnd cs (λx=>ints x.flat) off)(B:BookT)(who:Int):
 DT 87 #[(.pointer (some ⟨b,off,none⟩)),(.int .i64 (who))] T0 [ah b (cs B) T] (RI (.agg (ints (cz B who).flat).toArray) [ah b (cs B) T]):=by
 refine BD 15 Tryz.func87 rfl rfl rfl λw0 F hF=>sr λ_ J1=>XZ uu (ints RowT.zero.flat) λb4=>?_
 refine nx J1 (ab λ_ J2=>sr λ_ J3=>PS ?_);refine CE ML (lj who) ID ?_;refine bc ?_ ?_<;>intro h6;have hm:0≤who∧who<5:=of_decide_eq_true h6;refine PS ?_;refine nx J3 (CN (qx J2 (sr λ_ J4=>P3 ?_)));refine tp (aZ (r:=off) rfl OJ rfl tG rfl rfl) ?_;refine IX (off+who.toNat*174) HS ba ?_;refine tp (aM (vs:=ints (B.rows[who.toNat]'(by omega)).flat) rfl dU rfl ba rfl (RO 1) (aj (B.rows[who.toNat]'(by omega))) (O1 hA (j:=who.toNat*174) (by omega) (LB (x7 _)) (OX B (who.toNat*174) (by omega) (by omega) (kF dA B.rows (i:=who.toNat) 0 (by omega) (by omega) (by decide) (whole (aj (B.rows[who.toNat]'(by omega)))))))) ?_;refine SW 0 ba aj ?_;refine nx J4 (ai (RC 0 [1] dU ba (aj _) ?_));exact⟨by rw[cz,dif_pos h6],rfl⟩;refine PS ?_;refine nx J3 (CY (sr λ_ J5=>BV ((ints RowT.zero.flat).toArray) ?_));refine SW 0 ba aj ?_;refine nx J5 (ai (ae (RC 0 [1] dU ba (aj _) ?_)));exact⟨by rw[cz,dif_neg (by simp[h6])],rfl⟩
theorem kV(b off T:Nat)(cs:BookT→List Value)(hA:Arnd cs (λx=>ints x.flat) off)(B:BookT)(who:Int)(x:RowT)(hx:WF x.flat):
 DT 34 #[(.pointer (some ⟨b,off,none⟩)),(.int .i64 (who)),(.agg (ints x.flat).toArray)] T0 [ah b (cs B) T] (RI (.bool (fz B who x).2) [ah b (cs (fz B who x).1) T]):=by
 refine BD 33 Tryz.func34 rfl rfl rfl λw0 F hF=>sr λ_ J1=>XY (ints x.flat) λb5=>?_
 refine PS ?_;refine nx J1 (ab λ_ J2=>ab λ_ J3=>D2 0 1 mixed ?_);refine PD 0 ?_;refine AL 1 ?_;refine CE ML (lj who) ID ?_;refine bc ?_ ?_<;>intro h8;have hm:0≤who∧who<5:=of_decide_eq_true h8;have hrow:cz B who=B.rows[who.toNat]'(by omega):=by rw[cz,dif_pos h8]
 refine aq (E2 0 1 (PD 2 ?_));refine PD 3 ?_;refine LY 4 dU ba aj ?_;refine AL 5 ?_;refine CE IT (jO x hx) ID ?_;refine bc ?_ ?_<;>intro h12;refine aq (E2 0 1 (PD 6 ?_));refine PD 7 ?_;refine PD 8 ?_;refine FD 9 0 dU aR ?_;refine LR 10 Y3 (cx x rfl) ?_;refine PD 11 ?_;refine PD 12 ?_;refine PD 13 ?_;refine tb 14 rfl (aZ (r:=off) rfl OJ rfl tG rfl rfl) ?_;refine IY 15 (off+who.toNat*174) HS ba ?_;refine tb 16 rfl (aZ (r:=off+who.toNat*174) rfl dU rfl aR rfl rfl) ?_;refine LX 17 Y3 (.int .i64 ((B.rows[who.toNat]'(by omega)).version)) ?_ (hc:=by exact Arnd.at hA (j:=who.toNat*174) (by omega) (LB (x7 _)) (BookT.pt_rows B (who.toNat*174) (by omega) (by omega) (nQ dA B.rows (i:=who.toNat) 0 (by omega) (by omega) (by decide) (cx _ rfl))));refine PD 18 ?_;refine iR ?_ ?_<;>intro h25;refine PD 19 ?_;refine DN (ac J3 (CY (sr λ_ J4=>PS ?_)));refine nx J4 (ai (ae (WK [1] (av rfl rfl ?_))));have e:fz B who x=(B,false):=by rw[fz,if_neg (λh=>by simp only[ax,decide_eq_true_iff]at h;rw[hrow]at h;omega)]
 exact⟨by rw[e],by rw[e];rfl⟩;refine PD 19 ?_;refine DN (ac J3 (CN (qx J2 (ab λ_ J5=>D1 0 mixed ?_))));refine PD 0 ?_;refine PD 1 ?_;refine LY 2 dU ba aj ?_;refine PD 3 ?_;refine ta 4 rfl (aZ (r:=off) rfl OJ rfl tG rfl rfl) ?_;refine IY 5 (off+who.toNat*174) HS ba ?_;refine AL 6 ?_;refine bP (vs:=ints x.flat) (i:=1) (aa rfl) rfl rfl rfl rfl rfl (by rw[(aj x)];exact ba) (bj _) rfl rfl (by have h0:=(x7 B);have h2:=Arnd.le hA B;have h1:=(aj x);omega) (Arnd.wr hA (x:=B) (x':=(BookT.mk (B.rows.set who.toNat x (by omega)))) (j:=who.toNat*174) (by omega) (LC (x7 _) (aj _)) (BookT.wr_rows_ B (who.toNat*174) (by omega) (by have h1:=(aj x);omega) (ux dA B.rows (i:=who.toNat) 0 (by omega) (by omega) (by have h1:=(aj x);omega) (cr ((aj (B.rows[who.toNat]'(by omega))).trans (aj x).symm))))) rfl (aq (E1 0 (DN (ac J5 (sr λ_ J6=>PS ?_)))));refine nx J6 (ai (WK [1] (av rfl rfl ?_)));have e:fz B who x=(Au B who x,true):=by rw[fz,if_pos (by simp only[ax,decide_eq_true_iff,hrow];exact⟨⟨h8,h12⟩,by omega⟩)]
 exact⟨by rw[e],by rw[e,Au,dif_pos h8];rfl⟩;refine aq (E2 0 1 (PD 6 ?_));refine PD 7 ?_;refine PD 8 ?_;refine NT 9 ?_;refine NT 10 ?_;refine NT 11 ?_;refine NT 12 ?_;refine NT 13 ?_;refine NT 14 ?_;refine NT 15 ?_;refine NT 16 ?_;refine NT 17 ?_;refine NT 18 ?_;refine PD 19 ?_;refine DN (ac J3 (CY (sr λ_ J7=>PS ?_)));refine nx J7 (ai (ae (WK [1] (av rfl rfl ?_))));have e:fz B who x=(B,false):=by rw[fz,if_neg (λh=>by simp only[ax,decide_eq_true_iff]at h;rw[h12]at h;exact absurd h.1.2 (by decide))]
 exact⟨by rw[e],by rw[e];rfl⟩;refine aq (E2 0 1 (PD 2 ?_));refine PD 3 ?_;refine NT 4 ?_;refine NT 5 ?_;refine NT 6 ?_;refine PD 7 ?_;refine PD 8 ?_;refine NT 9 ?_;refine NT 10 ?_;refine NT 11 ?_;refine NT 12 ?_;refine NT 13 ?_;refine NT 14 ?_;refine NT 15 ?_;refine NT 16 ?_;refine NT 17 ?_;refine NT 18 ?_;refine PD 19 ?_;refine DN (ac J3 (CY (sr λ_ J8=>PS ?_)));refine nx J8 (ai (ae (WK [1] (av rfl rfl ?_))));have e:fz B who x=(B,false):=by rw[fz,if_neg (λh=>by simp only[ax,decide_eq_true_iff]at h;rw[h8]at h;exact absurd h.1.1 (by decide))]
 exact⟨by rw[e],by rw[e];rfl⟩
theorem nJ(b off T:Nat)(cs:BookT→List Value)(hA:Arnd cs (λx=>ints x.flat) off)(B:BookT)(of' key:Int):
 DT 35 #[(.pointer (some ⟨b,off,none⟩)),(.int .i64 (of')),(.int .i64 (key))] T0 [ah b (cs B) T] (RI (.agg (ints (cZ B of' key).flat).toArray) [ah b (cs B) T]):=by
 refine BD 35 Tryz.func35 rfl rfl rfl λw0 F hF=>sr λ_ J1=>XZ JW (ints CellT.zero.flat) λb6=>?_
 refine nx J1 (sr λ_ J2=>XZ JW (ints CellT.zero.flat) λb7=>?_);refine nx J2 (sr λ_ J3=>PS ?_);refine nx J3 (ab λ_ J4=>sr λ_ J5=>PS ?_);refine nx J5 (au ?_)
 refine bu (α:=(Nat)×(CellT)×(Int)) (λ⟨k,c,n⟩=>k≤5∧(c,n)=xP B of' key k) (λ⟨k,c,n⟩=>[(0,(.pointer (some ⟨b,off,none⟩))),(1,(.int .i64 (of'))),(2,(.int .i64 (key))),(6,(.pointer (some ⟨b6,0,none⟩))),(7,(.pointer (some ⟨b7,0,none⟩))),(8,(.int .i64 (n))),(12,(.int .i64 (((k:Nat):Int))))]) (λ⟨k,c,n⟩=>[ah b7 (ints c.flat) 35,ah b6 (ints CellT.zero.flat) 35,ah b (cs B) T]) (λ⟨k,c,n⟩=>5-k) (0,CellT.zero, -1)
  ⟨aN _,rfl⟩ SB
  (λ_ s=>s) (λ⟨k,c,n⟩ hinv=>?_)
 obtain⟨hk,hc⟩:=hinv;refine sr λ_ J6=>PS ?_
 refine ao ?_ ?_<;>intro h13;refine nx J6 (ab λ_ J7=>CY (qx J7 (ab λ_ J8=>au (sr λ_ J9=>P2 ?_))));refine nx J9 (sr λ_ J10=>P3 ?_);refine tp (aZ (r:=off) rfl OJ rfl tG rfl rfl) ?_;refine IX (off+k*174) HS ba ?_;refine tp (aM (vs:=ints (B.rows[k]'(by omega)).flat) rfl dU rfl ba rfl (RO 2) (aj (B.rows[k]'(by omega))) (O1 hA (j:=k*174) (by omega) (LB (x7 _)) (OX B (k*174) (by omega) (by omega) (kF dA B.rows (i:=k) 0 (by omega) (by omega) (by decide) (whole (aj (B.rows[k]'(by omega)))))))) ?_;refine P3 ?_;refine CE Pr (Ap (B.rows[k]'(by omega)) ((k:Nat):Int) of' key) ID ?_;refine P3 ?_;refine XZ JW (ints CellT.zero.flat) λb10=>?_
 refine SW 0 fx bm ?_;refine PS ?_;refine nx J10 (sr λ_ J11=>P3 ?_);refine ao ?_ ?_<;>intro h30;refine nx J11 (CY (ad (LW 0 mH fx bm ?_)));refine PS ?_;refine SW 1 fx bm ?_;refine PS ?_;refine aq (ag (ac J8 (ad (AD ?_))));refine PS ?_;refine aq ?_
 exact aJ ((k+1,(j7 (B.rows[k]'(by omega)) ((k:Nat):Int) of' key).1,(j7 (B.rows[k]'(by omega)) ((k:Nat):Int) of' key).2):(Nat)×(CellT)×(Int)) ⟨by omega,by rw[u6,←hc,tj,xQ B (by omega)];simp[h30]⟩ (by show 5- (k+1)<5-k;omega)
  SB
  (λ_ s=>ak [1,1,1] rfl s)
 refine nx J11 (CN (aT (ag (ac J8 (ad (AD ?_))))));refine PS ?_;refine aq ?_
 exact aJ ((k+1,c,n):(Nat)×(CellT)×(Int)) ⟨by omega,by rw[u6,←hc,tj,xQ B (by omega)];simp[h30]⟩ (by show 5- (k+1)<5-k;omega)
  SB
  (λ_ s=>ak [1,1,1] rfl s)
 refine nx J6 (ab λ_ J12=>CN (aY (aC (aC (bo (ac J4 (sr λ_ J13=>LW 0 mH fx bm ?_)))))));refine SW 1 fx bm ?_;refine nx J13 (ai (RC 1 [2] mH fx (bm _) ?_));obtain rfl:k=5:=by omega
 exact⟨by rw[cZ,←hc],rfl⟩
theorem qo(b off T:Nat)(cs:BookT→List Value)(hA:Arnd cs (λx=>ints x.flat) off)(B:BookT)(key:Int):
 DT 17 #[(.pointer (some ⟨b,off,none⟩)),(.int .i64 (key))] T0 [ah b (cs B) T] (RI (.int .i64 (gA B key)) [ah b (cs B) T]):=by
 refine BD 24 Tryz.func17 rfl rfl rfl λw0 F hF=>sr λ_ J1=>PS ?_
 refine nx J1 (sr λ_ J2=>PS ?_);refine nx J2 (ab λ_ J3=>sr λ_ J4=>PS ?_);refine nx J4 (au ?_)
 refine bu (α:=(Nat)×(Int)) (λ⟨k,n⟩=>k≤5∧n=qE B key k) (λ⟨k,n⟩=>[(0,(.pointer (some ⟨b,off,none⟩))),(1,(.int .i64 (key))),(4,(.int .i64 0)),(5,(.int .i64 (n))),(8,(.int .i64 (((k:Nat):Int))))]) (λ⟨k,n⟩=>[ah b (cs B) T]) (λ⟨k,n⟩=>5-k) (0,0)
  ⟨aN _,rfl⟩ SB
  (λ_ s=>s) (λ⟨k,n⟩ hinv=>?_)
 obtain⟨hk,hc⟩:=hinv;refine sr λ_ J5=>PS ?_
 refine ao ?_ ?_<;>intro h9;refine nx J5 (ab λ_ J6=>CY (qx J6 (ab λ_ J7=>au (sr λ_ J8=>P2 ?_))));refine nx J8 (sr λ_ J9=>P3 ?_);refine CE MO (nJ b off T cs hA B ((k:Nat):Int) key) ID ?_;refine XZ JW (ints CellT.zero.flat) λb7=>?_
 refine SW 0 fx bm ?_;refine nx J9 (ad (PS ?_));refine FA 0 mH aR ?_;refine LT 0 Y3 (.int .i64 ((cZ B ((k:Nat):Int) key).inn)) ?_ (hc:=by exact sd _ rfl);refine FA 1 mH aR ?_;refine LT 0 Y3 (.int .i64 ((cZ B ((k:Nat):Int) key).out)) ?_ (hc:=by exact sc _ rfl);refine tp (ix (r:=(fO (((cZ B ((k:Nat):Int) key).inn)- ((cZ B ((k:Nat):Int) key).out)))) rfl rfl rfl rfl) ?_;refine tp (cq (r:=(fO (n+(fO (((cZ B ((k:Nat):Int) key).inn)- ((cZ B ((k:Nat):Int) key).out)))))) rfl rfl rfl rfl) ?_;refine PS ?_;refine aq (ag (ac J7 (ad (AD ?_))));refine PS ?_;refine aq ?_
 exact aJ ((k+1,(fO (n+(fO (((cZ B ((k:Nat):Int) key).inn)- ((cZ B ((k:Nat):Int) key).out)))))):(Nat)×(Int)) ⟨by omega,by rw[oF,←hc]⟩ (by show 5- (k+1)<5-k;omega)
  SB
  (λ_ s=>ak [1] rfl s)
 refine nx J5 (ab λ_ J10=>CN (aY (aC (aC (bo (ac J3 (sr λ_ J11=>P2 ?_)))))));refine nx J11 (ai (WK [0] (av rfl rfl ?_)));obtain rfl:k=5:=by omega
 exact⟨by rw[hc];rfl,rfl⟩
theorem pj(b off T:Nat)(cs:BookT→List Value)(hA:Arnd cs (λx=>ints x.flat) off)(B:BookT)(who key:Int):
    DT 113 #[(.pointer (some ⟨b,off,none⟩)),(.int .i64 (who)),(.int .i64 (key))] T0 [ah b (cs B) T] (RI (.int .i64 (o7 B who key)) [ah b (cs B) T]):=by
 refine BD 71 Tryz.func113 rfl rfl rfl λw0 F hF=>sr λ_ J1=>PS ?_
 refine nx J1 (ab λ_ J2=>sr λ_ J3=>PS ?_);refine CE ML (lj who) ID ?_;refine bc ?_ ?_<;>intro h14;have hm:0≤who∧who<5:=of_decide_eq_true h14;refine PS ?_;refine nx J3 (CN (qx J2 (sr λ_ J4=>XZ P7 (ints ((#v[CellT.zero,CellT.zero,CellT.zero,CellT.zero,CellT.zero]).toList.flatMap CellT.flat)) λb7=>?_)));refine nx J4 (ab λ_ J5=>sr λ_ J6=>PS ?_);refine nx J6 (au ?_)
 refine bu (α:=(Nat)×(Vector CellT 5)) (λ⟨k,C⟩=>k≤5∧∀(j:Nat) (h:j<5),j<k→C[j]=cZ B j key) (λ⟨k,C⟩=>[(0,(.pointer (some ⟨b,off,none⟩))),(1,(.int .i64 (who))),(2,(.int .i64 (key))),(6,(.int .i64 0)),(7,(.pointer (some ⟨b7,0,none⟩))),(16,(.int .i64 (((k:Nat):Int))))]) (λ⟨k,C⟩=>[ah b7 (ints (C.toList.flatMap CellT.flat)) 94,ah b (cs B) T]) (λ⟨k,C⟩=>5-k) (0, #v[CellT.zero,CellT.zero,CellT.zero,CellT.zero,CellT.zero])
     ⟨aN _,λj _ h=>absurd h (by omega)⟩ SB
     (λ_ s=>ak [0,0] rfl s) (λ⟨k,C⟩ hinv=>?_)
 obtain⟨hk,hC⟩:=hinv;refine sr λ_ J7=>PS ?_
 refine ao ?_ ?_<;>intro h17;refine nx J7 (ab λ_ J8=>CY (qx J8 (ab λ_ J9=>au (sr λ_ J10=>P2 ?_))));refine nx J10 (ad (P4 ?_));refine CE MO (nJ b off T cs hA B ((k:Nat):Int) key) (SM [1]) ?_;refine IX (k*7) Ka fx ?_;refine bP (vs:=ints (cZ B ((k:Nat):Int) key).flat) (i:=1) (aa rfl) rfl rfl rfl rfl rfl (by rw[(bm (cZ B ((k:Nat):Int) key))];exact fx) (bj _) rfl rfl (by have h0:=(Kg C);have h1:=(bm (cZ B ((k:Nat):Int) key));omega) (ux bv C (i:=k) 0 (by omega) (by omega) (by have h1:=(bm (cZ B ((k:Nat):Int) key));omega) (cr ((bm (C[k]'(by omega))).trans (bm (cZ B ((k:Nat):Int) key)).symm))) rfl (aq (ag (ac J9 (ad (AD ?_)))));refine PS ?_;refine aq ?_
 exact aJ ((k+1,(C.set k (cZ B ((k:Nat):Int) key) (by omega))):(Nat)×(Vector CellT 5)) ⟨by omega,λj h hj=>by
        rw[Vector.getElem_set];split
        · subst_vars;rfl
        · exact hC j h (by omega)⟩ (by show 5- (k+1)<5-k;omega)
   SB
   (λ_ s=>ak [1,0] rfl s)
 refine nx J7 (ab λ_ J11=>CN (aY (aC (aC (bo (ac J5 (sr λ_ J12=>PS ?_)))))));refine nx J12 (ab λ_ J13=>sr λ_ J14=>P3 ?_);refine tp (aZ (r:=off) rfl OJ rfl tG rfl rfl) ?_;refine IX (off+who.toNat*174) HS ba ?_;refine tp (aM (vs:=ints (B.rows[who.toNat]'(by omega)).flat) rfl dU rfl ba rfl (RO 1) (aj (B.rows[who.toNat]'(by omega))) (O1 hA (j:=who.toNat*174) (by omega) (LB (x7 _)) (OX B (who.toNat*174) (by omega) (by omega) (kF dA B.rows (i:=who.toNat) 0 (by omega) (by omega) (by decide) (whole (aj (B.rows[who.toNat]'(by omega)))))))) ?_;refine PS ?_;have hbr:B.rows[who.toNat]'(by omega)=cz B who:=by rw[cz,dif_pos h14]
 rw[hbr];refine CR Oa (B4 (cz B who) who) ID λvR HR hR=>?_
 obtain⟨_,rfl,rfl⟩:=hR;revert vR;intro ul1;refine im 0 rfl rfl (λhlul1 houl1=>tp (dq rfl iL rfl hlul1) ?_);refine PS ?_;refine nx J14 (au ?_)
 refine bu (α:=(Nat)×(Int)) (λ⟨i,r⟩=>i≤(gi (cz B who) who).length∧r=((gi (cz B who) who).take i).foldl (oO B key) 0) (λ⟨i,r⟩=>[(0,(.pointer (some ⟨b,off,none⟩))),(6,(.int .i64 0)),(7,(.pointer (some ⟨b7,0,none⟩))),(9,(.int .i64 (r))),(33,ul1),(34,(.int .i64 ((((gi (cz B who) who).length:Nat):Int)))),(35,(.int .i64 (((i:Nat):Int))))]) (λ⟨i,r⟩=>[own ul1 ((gi (cz B who) who).length) (ints (gi (cz B who) who)) 3 1,ah b7 (ints (C.toList.flatMap CellT.flat)) 94,ah b (cs B) T]) (λ⟨i,r⟩=>(gi (cz B who) who).length-i) (0,0)
     ⟨aN _,rfl⟩ SB
     (λ_ s=>ak [0,0,0] rfl s) (λ⟨i,r⟩ hinv=>?_)
 obtain⟨hi,hr⟩:=hinv;have hE: ∀(j:Nat) (h:j<5),C[j]=cZ B j key:=λj h=>hC j h (by omega)
 refine sr λ_ J15=>PS ?_
 refine ao ?_ ?_<;>intro h36;refine nx J15 (ab λ_ J16=>CY (qx J16 (ab λ_ J17=>au (sr λ_ J18=>g9 0 rfl rfl (by omega) (λga capa hva hcapa=>?_)))));obtain⟨q,hq,hq5⟩: ∃q:Nat,(gi (cz B who) who)[i]=((q:Nat):Int)∧q<5:=by have:=Ec (cz B who) who _ (cR (show i< (gi (cz B who) who).length by omega));exact⟨(gi (cz B who) who)[i].toNat,by omega,by omega⟩
 have hE2:C[q]=cZ B (gi (cz B who) who)[i] key:=by rw[hE q hq5,hq]
 refine tp (be (r:=i) hva rfl iL aR rfl rfl (by omega) (by omega) (by omega)) ?_;refine tp (ca (v:=(.int .i64 (((q:Nat):Int)))) rfl Y3 rfl rfl (fD 0 rfl hva rfl) (by rw[←hq];simp[ints,show i< (gi (cz B who) who).length by omega])) ?_;refine PS ?_;refine nx J18 (ab λ_ J19=>D1 1 mixed ?_);refine PD 0 ?_;refine PD 1 ?_;refine IY 2 (q*7) Ka fx ?_;refine ta 3 rfl (aZ (r:=q*7) rfl mH rfl aR rfl rfl) ?_;refine LX 4 Y3 (.int .i64 ((C[q]'(by omega)).inn)) ?_ (hc:=by exact nQ bv C (i:=q) 0 (by omega) (by omega) (by decide) (sd _ rfl));refine PD 5 ?_;refine IY 6 (q*7) Ka fx ?_;refine ta 7 rfl (aZ (r:=q*7+1) rfl mH rfl aR rfl rfl) ?_;refine LX 8 Y3 (.int .i64 ((C[q]'(by omega)).out)) ?_ (hc:=by exact nQ bv C (i:=q) 1 (by omega) (by omega) (by decide) (sc _ rfl));refine ta 9 rfl (ix (r:=(fO (((C[q]'(by omega)).inn)- ((C[q]'(by omega)).out)))) rfl rfl rfl rfl) ?_;refine ta 10 rfl (cq (r:=(fO (r+(fO (((C[q]'(by omega)).inn)- ((C[q]'(by omega)).out)))))) rfl rfl rfl rfl) ?_;refine PD 11 ?_;refine DN (ac J19 (sr λ_ J20=>PS ?_));refine nx J20 (au ?_)
 refine bu (α:=(Nat)×(Int)) (λ⟨o,r3⟩=>o≤5∧r3=p4 B key (gi (cz B who) who)[i] (fO (r+fO (C[q].inn-C[q].out))) o) (λ⟨o,r3⟩=>[(0,(.pointer (some ⟨b,off,none⟩))),(6,(.int .i64 0)),(7,(.pointer (some ⟨b7,0,none⟩))),(9,(.int .i64 (r3))),(11,(.int .i64 (((q:Nat):Int)))),(33,ul1),(34,(.int .i64 ((((gi (cz B who) who).length:Nat):Int)))),(35,(.int .i64 (((i:Nat):Int)))),(50,(.int .i64 (((o:Nat):Int))))]) (λ⟨o,r3⟩=>[own ul1 ((gi (cz B who) who).length) (ints (gi (cz B who) who)) 3 1,ah b7 (ints (C.toList.flatMap CellT.flat)) 94,ah b (cs B) T]) (λ⟨o,r3⟩=>5-o) (0,(fO (r+(fO (((C[q]'(by omega)).inn)- ((C[q]'(by omega)).out))))))
     ⟨aN _,rfl⟩ SB
     (λ_ s=>ak [0,0,0] rfl s) (λ⟨o,r3⟩ hinv=>?_)
 obtain⟨ho,hr3⟩:=hinv;refine sr λ_ J21=>PS ?_
 refine ao ?_ ?_<;>intro h51;refine nx J21 (ab λ_ J22=>CY (qx J22 (ab λ_ J23=>au (sr λ_ J24=>P2 ?_))));refine nx J24 (D1 1 mixed ?_);refine PD 0 ?_;refine PD 1 ?_;refine PD 2 ?_;refine IY 3 (o*7) Ka fx ?_;refine ta 4 rfl (aZ (r:=o*7+2) rfl mH rfl eV rfl rfl) ?_;refine IY 5 (o*7+2+q) jK aR ?_;refine LX 6 Y3 (.int .i64 ((((C[o]'(by omega)).given)[q]'(by omega)))) ?_ (hc:=by exact nQ bv C (i:=o) (2+q) (by omega) (by omega) (by omega) (OV (C[o]'(by omega)) q (by omega) (by omega) (kl ((C[o]'(by omega)).given) (by omega))));refine PD 7 ?_;refine PD 8 ?_;refine IY 9 (q*7) Ka fx ?_;refine ta 10 rfl (aZ (r:=q*7+2) rfl mH rfl eV rfl rfl) ?_;refine IY 11 (q*7+2+o) jK aR ?_;refine LX 12 Y3 (.int .i64 ((((C[q]'(by omega)).given)[o]'(by omega)))) ?_ (hc:=by exact nQ bv C (i:=q) (2+o) (by omega) (by omega) (by omega) (OV (C[q]'(by omega)) o (by omega) (by omega) (kl ((C[q]'(by omega)).given) (by omega))));refine ta 13 rfl (ix (r:=(fO ((((C[o]'(by omega)).given)[q]'(by omega))- (((C[q]'(by omega)).given)[o]'(by omega))))) rfl rfl rfl rfl) ?_;refine ta 14 rfl (cq (r:=(fO (r3+(fO ((((C[o]'(by omega)).given)[q]'(by omega))- (((C[q]'(by omega)).given)[o]'(by omega))))))) rfl rfl rfl rfl) ?_;refine PD 15 ?_;refine DN (ag (ac J23 (ad (AD ?_))));refine PS ?_;refine aq ?_
 exact aJ ((o+1,(fO (r3+(fO ((((C[o]'(by omega)).given)[q]'(by omega))- (((C[q]'(by omega)).given)[o]'(by omega))))))):(Nat)×(Int)) ⟨by omega,by rw[yh,←hr3,xr _ (by omega),hq,xr _ hq5,←hE o (by omega),←hE q hq5]⟩ (by show 5- (o+1)<5-o;omega)
   SB
   (λ_ s=>ak [0,0,0] rfl s)
 refine nx J21 (ab λ_ J25=>CN (aY (aC (aC (bo (ag (ac J17 (ad (AD ?_)))))))));refine PS ?_;refine aq ?_
 exact aJ ((i+1,r3):(Nat)×(Int)) ⟨by omega,by
          have h5:o=5:=by omega
          rw[bH (by omega),eT,←hr];show r3=oO B key r _
          rw[hr3,h5,oO,←hE2]⟩ (by show(gi (cz B who) who).length- (i+1)< (gi (cz B who) who).length-i;omega)
   SB
   (λ_ s=>ak [0,0,0] rfl s)
 refine nx J15 (ab λ_ J26=>CN (aY (aC (aC (bo (ac J13 (sr λ_ J27=>P2 ?_)))))));refine nx J27 (ai (WK [2] (av rfl rfl ?_)));obtain rfl:i=(gi (cz B who) who).length:=by omega
 exact⟨by rw[o7,if_pos h14,hr,eI],rfl⟩;refine PS ?_;refine nx J3 (CY (sr λ_ J28=>PS ?_));refine nx J28 (ai (ae (WK [0] (av rfl rfl ?_))));exact⟨by rw[o7,if_neg (by simp[h14])],rfl⟩
theorem lK(b off T:Nat)(cs:MirT→List Value)(hA:Arnd cs MirT.cells off)(M:MirT)(who:Int):
 DT 56 #[(.pointer (some ⟨b,off,none⟩)),(.int .i64 (who))] T0 [ah b (cs M) T] (RI (.agg (ints (dp M who).flat).toArray) [ah b (cs M) T]):=by
 refine BD 15 Tryz.func56 rfl rfl rfl λw0 F hF=>sr λ_ J1=>XZ uu (ints RowT.zero.flat) λb4=>?_
 refine nx J1 (ab λ_ J2=>sr λ_ J3=>PS ?_);refine CE KC (ig who) ID ?_;refine bc ?_ ?_<;>intro h6;have hm:0≤who∧who<5:=of_decide_eq_true h6;refine PS ?_;refine nx J3 (CN (qx J2 (sr λ_ J4=>P3 ?_)));refine tp (aZ (r:=off) rfl M8 rfl tG rfl rfl) ?_;refine IX (off+who.toNat*174) HS ba ?_;refine tp (aM (vs:=ints (M.rows[who.toNat]'(by omega)).flat) rfl dU rfl ba rfl (RO 1) (aj (M.rows[who.toNat]'(by omega))) (O1 hA (j:=who.toNat*174) (by omega) (LB (qy _)) (MirT.sub_rows M (who.toNat*174) (by omega) (by omega) (kF dA M.rows (i:=who.toNat) 0 (by omega) (by omega) (by decide) (whole (aj (M.rows[who.toNat]'(by omega)))))))) ?_;refine SW 0 ba aj ?_;refine nx J4 (ai (RC 0 [1] dU ba (aj _) ?_));exact⟨by rw[dp,dif_pos h6],rfl⟩;refine PS ?_;refine nx J3 (CY (sr λ_ J5=>BV ((ints RowT.zero.flat).toArray) ?_));refine SW 0 ba aj ?_;refine nx J5 (ai (ae (RC 0 [1] dU ba (aj _) ?_)));exact⟨by rw[dp,dif_neg (by simp[h6])],rfl⟩
theorem m3(b off T:Nat)(cs:MirT→List Value)(hA:Arnd cs MirT.cells off)(M:MirT)(who:Int):
 DT 57 #[(.pointer (some ⟨b,off,none⟩)),(.int .i64 (who))] T0 [ah b (cs M) T] (RI (.bool (fc M who)) [ah b (cs M) T]):=by
 refine BD 15 Tryz.func57 rfl rfl rfl λw0 F hF=>sr λ_ J1=>PS ?_
 refine nx J1 (sr λ_ J2=>PS ?_);refine CE KC (ig who) ID ?_;refine bc ?_ ?_<;>intro h6;have hm:0≤who∧who<5:=of_decide_eq_true h6;refine P4 ?_;refine tq (aZ (r:=off+870) rfl M8 rfl Mq rfl rfl) ?_;refine IX (off+870+who.toNat) Tryz.underlying76 k0 ?_;refine LT 0 Y4 (.bool ((M.sealed[who.toNat]'(by omega)))) ?_ (hc:=by exact Arnd.at hA (j:=870+who.toNat) (by omega) (LB (qy _)) (MirT.pt_sealed M (who.toNat) (by omega) (by omega) (Ls M.sealed (by omega))));refine P2 ?_;refine nx J2 (ai (WK [0] (av rfl rfl ?_)));exact⟨by simp[fc, *],rfl⟩;refine PS ?_
 iterate 6 refine UF ?_
 refine P2 ?_;refine nx J2 (ai (WK [0] (av rfl rfl ?_)));exact⟨by simp[fc, *],rfl⟩
theorem qY(b off T:Nat)(cs:MirT→List Value)(hA:Arnd cs MirT.cells off)(M:MirT)(who:Int)(x:RowT)(hx:WF x.flat):
 DT 148 #[(.pointer (some ⟨b,off,none⟩)),(.int .i64 (who)),(.agg (ints x.flat).toArray)] T0 [ah b (cs M) T] (RI (.bool (lJ M who x)) [ah b (cs M) T]):=by
 refine BD 34 Tryz.func148 rfl rfl rfl λw0 F hF=>sr λ_ J1=>XY (ints x.flat) λb5=>?_
 refine PS ?_;refine nx J1 (ab λ_ J2=>D2 1 0 mixed ?_);refine PD 0 ?_;refine AL 1 ?_;refine CE KC (ig who) ID ?_;refine bc ?_ ?_<;>intro h8;have hm:0≤who∧who<5:=of_decide_eq_true h8;refine EN (PD 2 ?_);refine PD 3 ?_;refine PD 4 ?_;refine PD 5 ?_;refine tb 6 rfl (aZ (r:=off+870) rfl M8 rfl Mq rfl rfl) ?_;refine IY 7 (off+870+who.toNat) Tryz.underlying76 k0 ?_;refine LX 8 Y4 (.bool ((M.sealed[who.toNat]'(by omega)))) ?_ (hc:=by exact Arnd.at hA (j:=870+who.toNat) (by omega) (LB (qy _)) (MirT.pt_sealed M (who.toNat) (by omega) (by omega) (Ls M.sealed (by omega))));refine oq ?_ ?_<;>intro h15;refine PD 9 ?_;refine PD 10 ?_;refine PD 11 ?_;refine NT 12 ?_;refine NT 13 ?_;refine PD 14 ?_;refine PD 15 ?_;refine NT 16 ?_;refine NT 17 ?_;refine NT 18 ?_;refine NT 19 ?_;refine NT 20 ?_;refine NT 21 ?_;refine NT 22 ?_;refine NT 23 ?_;refine NT 24 ?_;refine NT 25 ?_;refine PD 26 ?_;refine PD 27 ?_;refine DN (ac J2 (ai (WK [1] (av rfl rfl ?_))));exact⟨by simp[lJ,fc,dp, *],rfl⟩;refine PD 9 ?_;refine PD 10 ?_;refine PD 11 ?_;refine LY 12 dU ba aj ?_;refine AL 13 ?_;refine CE IT (jO x hx) ID ?_;refine bc ?_ ?_<;>intro h20;refine EN (PD 14 ?_);refine PD 15 ?_;refine FD 16 0 dU aR ?_;refine LR 17 Y3 (cx x rfl) ?_;refine PD 18 ?_;refine PD 19 ?_;refine PD 20 ?_;refine tb 21 rfl (aZ (r:=off) rfl M8 rfl tG rfl rfl) ?_;refine IY 22 (off+who.toNat*174) HS ba ?_;refine tb 23 rfl (aZ (r:=off+who.toNat*174) rfl dU rfl aR rfl rfl) ?_
 refine LX 24 Y3 (.int .i64 ((M.rows[who.toNat]'(by omega)).version)) ?_ (hc:=by exact Arnd.at hA (j:=who.toNat*174) (by omega) (LB (qy _)) (MirT.pt_rows M (who.toNat*174) (by omega) (by omega) (nQ dA M.rows (i:=who.toNat) 0 (by omega) (by omega) (by decide) (cx _ rfl))));refine PD 25 ?_;refine PD 26 ?_;refine PD 27 ?_;refine DN (ac J2 (ai (WK [1] (av rfl rfl ?_))));exact⟨by simp[lJ,fc,dp, *],rfl⟩;refine EN (PD 14 ?_);refine PD 15 ?_;refine NT 16 ?_;refine NT 17 ?_;refine NT 18 ?_;refine NT 19 ?_;refine NT 20 ?_;refine NT 21 ?_;refine NT 22 ?_;refine NT 23 ?_;refine NT 24 ?_;refine NT 25 ?_;refine PD 26 ?_;refine PD 27 ?_;refine DN (ac J2 (ai (WK [1] (av rfl rfl ?_))));exact⟨by simp[lJ,fc,dp, *],rfl⟩;refine EN (PD 2 ?_);refine NT 3 ?_;refine NT 4 ?_;refine NT 5 ?_;refine NT 6 ?_;refine NT 7 ?_;refine NT 8 ?_;refine NT 9 ?_;refine PD 10 ?_;refine PD 11 ?_;refine NT 12 ?_;refine NT 13 ?_;refine PD 14 ?_;refine PD 15 ?_;refine NT 16 ?_;refine NT 17 ?_;refine NT 18 ?_;refine NT 19 ?_;refine NT 20 ?_;refine NT 21 ?_;refine NT 22 ?_;refine NT 23 ?_;refine NT 24 ?_;refine NT 25 ?_;refine PD 26 ?_;refine PD 27 ?_;refine DN (ac J2 (ai (WK [1] (av rfl rfl ?_))));exact⟨by simp[lJ,fc,dp, *],rfl⟩
theorem sU(b off T:Nat)(cs:MirT→List Value)(hA:Arnd cs MirT.cells off)(M:MirT)(who:Int)(x:RowT)(hx:WF x.flat):
 DT 108 #[(.pointer (some ⟨b,off,none⟩)),(.int .i64 (who)),(.agg (ints x.flat).toArray)] T0 [ah b (cs M) T] (RI (.bool (mw M who x).2) [ah b (cs (mw M who x).1) T]):=by
 refine BD 18 Tryz.func108 rfl rfl rfl λw0 F hF=>sr λ_ J1=>XY (ints x.flat) λb5=>?_
 refine PS ?_;refine nx J1 (ab λ_ J2=>sr λ_ J3=>P2 ?_);refine LW 0 dU ba aj ?_;refine CE LQ (qY b off T cs hA M who x hx) (SM [1]) ?_;refine bc ?_ ?_<;>intro h10;have hm0:cH who=true:=by have:=h10;simp only[lJ,ax]at this;exact this.1.1.1
 have hm:0≤who∧who<5:=of_decide_eq_true hm0;refine PS ?_;refine nx J3 (CN (qx J2 (ab λ_ J4=>D1 1 mixed ?_)));refine PD 0 ?_;refine PD 1 ?_;refine LY 2 dU ba aj ?_;refine PD 3 ?_;refine ta 4 rfl (aZ (r:=off) rfl M8 rfl tG rfl rfl) ?_;refine IY 5 (off+who.toNat*174) HS ba ?_;refine AL 6 ?_;refine bP (vs:=ints x.flat) (i:=0) (aa rfl) rfl rfl rfl rfl rfl (by rw[(aj x)];exact ba) (bj _) rfl rfl (by have h0:=(qy M);have h2:=Arnd.le hA M;have h1:=(aj x);omega) (Arnd.wr hA (x:=M) (x':=(MirT.mk (M.rows.set who.toNat x (by omega)) M.sealed)) (j:=who.toNat*174) (by omega) (LC (qy _) (aj _)) (MirT.wr_rows_ M (who.toNat*174) (by omega) (by have h1:=(aj x);omega) (ux dA M.rows (i:=who.toNat) 0 (by omega) (by omega) (by have h1:=(aj x);omega) (cr ((aj (M.rows[who.toNat]'(by omega))).trans (aj x).symm))))) rfl (aq (E1 1 (DN (ac J4 (sr λ_ J5=>PS ?_)))));refine nx J5 (ai (WK [0] (av rfl rfl ?_)));have e:mw M who x=(AI M who x,true):=by rw[mw,if_pos h10]
 exact⟨by rw[e],by rw[e,AI,dif_pos hm0];rfl⟩;refine PS ?_;refine nx J3 (CY (sr λ_ J6=>PS ?_));refine nx J6 (ai (ae (WK [0] (av rfl rfl ?_))));have e:mw M who x=(M,false):=by rw[mw,if_neg (by simp[h10])]
 exact⟨by rw[e],by rw[e];rfl⟩
theorem sT(b off T:Nat)(cs:MirT→List Value)(hA:Arnd cs MirT.cells off)(M:MirT)(who:Int):
 DT 109 #[(.pointer (some ⟨b,off,none⟩)),(.int .i64 (who))] T0 [ah b (cs M) T] (RI (.tuple #[.agg (ints (dp M who).flat).toArray, .bool (cH who)]) [ah b (cs (od M who)) T]):=by
 refine Leg.Does.body (vs:=[(.pointer (some ⟨b,off,none⟩)),(.int .i64 (who))]) (n:=21) Tryz.func109 rfl rfl rfl (λw0 F hF=>?_);refine sr λ_ J1=>?_
 refine lQ (aa rfl) rfl rfl rfl uu (λb4=>?_);change TL _ _ _ _ _ _ _ _ _ [ah b4 (ints RowT.zero.flat) 39,ah b (cs M) T];refine pG ?_;refine nx J1 ?_;clear J1;refine ab λ_ J2=>?_
 refine sr λ_ J3=>?_
 refine mv ?_;refine hJ (aa rfl) rfl rfl rfl KC rfl (ig who) (λ_ s=>s) (λ_ _ _=>trivial) (λvR HR hR=>?_);obtain⟨rfl,rfl⟩:=hR;refine bc (λh7=>?_) (λh7=>?_);have hm:0≤who∧who<5:=of_decide_eq_true h7;refine tp (mB (r:=false) rfl rfl rfl) ?_;refine nx J3 ?_;clear J3;refine tl rfl ?_;refine aT ?_;refine ac J2 ?_;clear J2;refine sr λ_ J4=>?_
 refine mv ?_;refine mv ?_;refine tp (fZ rfl rfl) ?_;refine tp (aZ (r:=off+870) rfl M8 rfl Mq rfl rfl) ?_;refine tp (el (r:=off+870+who.toNat) rfl Tryz.underlying76 k0 rfl rfl (by omega) (by omega) (by omega)) ?_;refine bw (i:=1) (aa rfl) rfl rfl rfl rfl rfl k0 rfl rfl (by have h0:=(qy M);have h2:=Arnd.le hA M;omega) (Arnd.set hA (x:=M) (x':=(MirT.mk M.rows (M.sealed.set who.toNat true (by omega)))) (j:=870+who.toNat) (by omega) (by have h0:=(qy M);omega) (MirT.st_sealed M (who.toNat) (by omega) (by omega) (Nq M.sealed (by omega) _))) rfl ?_;refine nx J4 ?_;clear J4;refine sr λ_ J5=>?_
 refine mv ?_;refine mv ?_;refine tp (fZ rfl rfl) ?_;refine tp (aZ (r:=off) rfl M8 rfl tG rfl rfl) ?_;refine tp (el (r:=off+who.toNat*174) rfl HS ba rfl rfl (by omega) (by omega) (by omega)) ?_;refine tp (aM (vs:=ints (M.rows[who.toNat]'(by omega)).flat) rfl dU rfl ba rfl (dR 1 rfl rfl) (aj (M.rows[who.toNat]'(by omega))) (O1 hA (j:=who.toNat*174) (by omega) (by have h0:=(qy (MirT.mk M.rows (M.sealed.set who.toNat true (by omega))));omega) (MirT.sub_rows (MirT.mk M.rows (M.sealed.set who.toNat true (by omega))) (who.toNat*174) (by omega) (by omega) (kF dA M.rows (i:=who.toNat) 0 (by omega) (by omega) (by decide) (whole (aj (M.rows[who.toNat]'(by omega)))))))) ?_;refine bP (vs:=ints (M.rows[who.toNat]'(by omega)).flat) (i:=0) (aa rfl) rfl rfl rfl rfl rfl (by rw[(aj (M.rows[who.toNat]'(by omega)))];exact ba) (bj _) rfl rfl (by have h0:=(aj RowT.zero);have h1:=(aj (M.rows[who.toNat]'(by omega)));omega) (cr ((aj RowT.zero).trans (aj (M.rows[who.toNat]'(by omega))).symm)) rfl ?_;refine pG ?_;refine nx J5 ?_;clear J5;refine ai ?_;refine lR (H':=[ah b (cs (MirT.mk M.rows (M.sealed.set who.toNat true (by omega)))) T]) rfl rfl rfl dU rfl ba (dR 0 rfl rfl) (aj (M.rows[who.toNat]'(by omega))) (λ_ s=>ak [1] rfl s) ?_;exact⟨by simp[dp, *],by simp[od, *]⟩;refine tp (mB (r:=true) rfl rfl rfl) ?_;refine nx J3 ?_;clear J3;refine iS rfl ?_;refine sr λ_ J6=>?_
 refine tp (jY (cells:=(ints RowT.zero.flat).toArray) rfl rfl (by as_aux_lemma=>kernel_rfl)) ?_;refine bP (vs:=ints RowT.zero.flat) (i:=0) (aa rfl) rfl rfl rfl rfl rfl (by rw[(aj RowT.zero)];exact ba) (bj _) rfl rfl (by have h0:=(aj RowT.zero);have h1:=(aj RowT.zero);omega) (cr ((aj RowT.zero).trans (aj RowT.zero).symm)) rfl ?_;refine pG ?_;refine nx J6 ?_;clear J6;refine ai ?_;refine ae ?_;clear J2;refine lR (H':=[ah b (cs M) T]) rfl rfl rfl dU rfl ba (dR 0 rfl rfl) (aj RowT.zero) (λ_ s=>ak [1] rfl s) ?_;exact⟨by simp[dp, *],by simp[od, *]⟩
end Go.Proofs.YtfocodjhmkokpaaGreatDoor
end

section
namespace Api
open Go Leg Codec
def fb(k:Int):Bool:=decide (k=0∨k=2∨k=9)
def fi(k:Int):Bool:=decide (k=3∨k=6)
def cL:Ps (MsgT×Bool):=pb (fg 10) λk=>
 if fb k then pb (fg 5) λw=>pb vg λx=>pr (⟨k,w,x,0,0, .zero, .zero, .zero, .zero⟩,gY x)
 else if k=1 then pb nj λn=>pr (⟨k,0, .zero,n,0, .zero, .zero, .zero, .zero⟩,true)
 else if fi k then pb nj λn=>pb j9 λb=>pr (⟨k,0, .zero,0,n,b, .zero, .zero, .zero⟩,true)
 else if k=4 then pb nj λn=>pb j9 λb=>pb j9 λd=>pb lv λc=>pr (⟨k,0, .zero,0,n,b,d,c, .zero⟩,true)
 else if k=5 then pb nj λn=>pb j9 λb=>pb lv λc=>pr (⟨k,0, .zero,0,n,b, .zero,c, .zero⟩,true)
 else if k=7 then pb mK λv=>pr (⟨k,0, .zero,0,0, .zero, .zero, .zero,v⟩,kM v)
 else if k=8 then pb (fg 5) λw=>pb mK λv=>pr (⟨k,w, .zero,0,0, .zero, .zero, .zero,v⟩,kM v)
 else pr (⟨k,0, .zero,0,0, .zero, .zero, .zero, .zero⟩,true)
def dw:Ps (RecT×Bool):=pb (fg 6) λk=>
 if k=0 then pb vg λx=>pr (⟨k,0,x,0, .zero, .zero, .zero⟩,gY x)
 else if k=1 then pb (fg 5) λw=>pb vg λx=>pr (⟨k,w,x,0, .zero, .zero, .zero⟩,gY x)
 else if k=2 then pb (fg 5) λw=>pr (⟨k,w, .zero,0, .zero, .zero, .zero⟩,true)
 else if k=3 then pb nj λn=>pb j9 λb=>pr (⟨k,0, .zero,n,b, .zero, .zero⟩,true)
 else if k=4 then pb nj λn=>pb j9 λb=>pb lv λc=>pr (⟨k,0, .zero,n,b,c, .zero⟩,true)
 else if k=5 then pb mK λv=>pr (⟨k,0, .zero,0, .zero, .zero,v⟩,kM v)
 else pr (⟨k,0, .zero,0, .zero, .zero, .zero⟩,true)
def iP(bs:List UInt8):MsgT×Int:=match cL bs with
 |some ((m,true),[])=>(m,0)
 |_=>(.zero,1)
def oj(bs:List UInt8):RecT×Int:=match dw bs with
 |some ((m,true),[])=>(m,0)
 |_=>(.zero,1)
def dQ(m:MsgT):List UInt8:=
 if fb m.kind then bi [m.kind,m.whose]++il m.row
 else if m.kind=1 then bi [m.kind,m.version]
 else if fi m.kind then bi [m.kind,m.epoch]++bi m.ballot.flat
 else if m.kind=4 then bi [m.kind,m.epoch]++bi m.ballot.flat++bi m.had.flat++bi m.change.flat
 else if m.kind=5 then bi [m.kind,m.epoch]++bi m.ballot.flat++bi m.change.flat
 else if m.kind=7 then bi [m.kind]++bi m.view.flat
 else if m.kind=8 then bi [m.kind,m.whose]++bi m.view.flat
 else []
def kh(m:RecT):List UInt8:=
 if m.kind=0 then bi [m.kind]++il m.row
 else if m.kind=1 then bi [m.kind,m.whose]++il m.row
 else if m.kind=2 then bi [m.kind,m.whose]
 else if m.kind=3 then bi [m.kind,m.epoch]++bi m.ballot.flat
 else if m.kind=4 then bi [m.kind,m.epoch]++bi m.ballot.flat++bi m.change.flat
 else if m.kind=5 then bi [m.kind]++bi m.view.flat
 else []
theorem sv{v:ViewT}{bs r:List UInt8}(h:mK bs=some (v,r)):Rng v:=λi hi=>by
 have:=(tB h).1.2.2 i hi;exact⟨this.1,by omega⟩
theorem An{x:RowT}{bs r:List UInt8}(h:vg bs=some (x,r)):WF x.flat:=(wK h).1.wf
def Nm(n:Int):Prop:=0≤n∧n<9223372036854775808
def OkB(b:BallotT):Prop:=Nm b.round∧0≤b.who∧b.who<5
def OkC(c:ChangeT):Prop:=(0≤c.kind∧c.kind<2)∧(0≤c.who∧c.who<5)∧(0≤c.heir∧c.heir<5)
def Qp(v:ViewT):Prop:=Nm v.epoch∧(0≤v.members∧v.members<32)∧∀(i:Nat) (h:i<5),0≤v.heirs[i]∧v.heirs[i]<6
theorem MW(i:Nat)(hi:i<5):RowT.zero.heir[i]=0:=by match i,hi with|0,_|1,_|2,_|3,_|4,_=>rfl
theorem JF(k:Nat)(hk:k<4):RowT.zero.cells[k]=CellT.zero:=by match k,hk with|0,_|1,_|2,_|3,_=>rfl
theorem EA(i:Nat)(hi:i<5):RowT.zero.left[i]=RowT.zero.cells:=by match i,hi with|0,_|1,_|2,_|3,_|4,_=>rfl
theorem tame_rzero:TameR RowT.zero:=⟨⟨by decide,by decide⟩,λk hk=>by rw[JF k hk];exact tC,λi hi=>by rw[MW i hi];decide,λi k hi hk=>by rw[show RowT.zero.left[i][k]=RowT.zero.cells[k]from by rw[EA i hi],JF k hk];exact tC,λi hi _=>by rw[EA i hi,EA 0 (by decide)]⟩
def Ej(m:RecT):Bool:=if m.kind=0∨m.kind=1 then gY m.row else if m.kind=5 then kM m.view else true
theorem IF{m:RecT}{g:Bool}{bs r:List UInt8}(h:dw bs=some ((m,g),r)):bs=kh m++r∧Ej m=g∧(0≤m.kind∧m.kind<6)∧(0≤m.whose∧m.whose<5)∧TameR m.row:=by
 obtain⟨k,r1,h1,h2⟩:=bK h;clear h;obtain⟨k1,rfl⟩:=dr h1;have tz:=tame_rzero;have kz:(0:Int)≤0∧(0:Int)<5:=by omega
 by_cases c0:k=0
 · simp only[if_pos c0]at h2
   subst c0;obtain⟨x,r3,h5,h6⟩:=bK h2;obtain⟨k5,rfl⟩:=wK h5;obtain⟨e,rfl⟩:=ie h6;injection e with e1 e2;subst e1;subst e2
   exact⟨by simp[kh,bi],by simp[Ej],⟨k1.1,k1.2.1⟩,kz,k5⟩
 simp only[if_neg c0]at h2
 by_cases c1:k=1
 · simp only[if_pos c1]at h2
   subst c1;obtain⟨w,r2,h3,h4⟩:=bK h2;obtain⟨k3,rfl⟩:=dr h3;obtain⟨x,r3,h5,h6⟩:=bK h4;obtain⟨k5,rfl⟩:=wK h5;obtain⟨e,rfl⟩:=ie h6;injection e with e1 e2;subst e1;subst e2
   exact⟨by simp[kh,bi],by simp[Ej],⟨k1.1,k1.2.1⟩,⟨k3.1,k3.2.1⟩,k5⟩
 simp only[if_neg c1]at h2
 by_cases c2:k=2
 · simp only[if_pos c2]at h2
   subst c2;obtain⟨w,r2,h3,h4⟩:=bK h2;obtain⟨k3,rfl⟩:=dr h3;obtain⟨e,rfl⟩:=ie h4;injection e with e1 e2;subst e1;subst e2
   exact⟨by simp[kh,bi],by simp[Ej],⟨k1.1,k1.2.1⟩,⟨k3.1,k3.2.1⟩,tz⟩
 simp only[if_neg c2]at h2
 by_cases c3:k=3
 · simp only[if_pos c3]at h2
   subst c3;obtain⟨n,r2,h3,h4⟩:=bK h2;obtain⟨_,_,rfl⟩:=lh h3;obtain⟨b,r3,h5,h6⟩:=bK h4;obtain⟨_,rfl⟩:=qq h5;obtain⟨e,rfl⟩:=ie h6;injection e with e1 e2;subst e1;subst e2
   exact⟨by simp[kh,bi],by simp[Ej],⟨k1.1,k1.2.1⟩,kz,tz⟩
 simp only[if_neg c3]at h2
 by_cases c4:k=4
 · simp only[if_pos c4]at h2
   subst c4;obtain⟨n,r2,h3,h4⟩:=bK h2;obtain⟨_,_,rfl⟩:=lh h3;obtain⟨b,r3,h5,h6⟩:=bK h4;obtain⟨_,rfl⟩:=qq h5;obtain⟨c,r5,h9,h10⟩:=bK h6;obtain⟨_,rfl⟩:=uX h9;obtain⟨e,rfl⟩:=ie h10;injection e with e1 e2;subst e1;subst e2
   exact⟨by simp[kh,bi],by simp[Ej],⟨k1.1,k1.2.1⟩,kz,tz⟩
 simp only[if_neg c4]at h2;have c5:k=5:=by omega
 simp only[if_pos c5]at h2;subst c5;obtain⟨v,r3,h5,h6⟩:=bK h2;obtain⟨_,rfl⟩:=tB h5;obtain⟨e,rfl⟩:=ie h6;injection e with e1 e2;subst e1;subst e2
 exact⟨by simp[kh,bi],by simp[Ej],⟨k1.1,k1.2.1⟩,kz,tz⟩
theorem Rng.zeros{v:ViewT}(h:v.heirs= #v[0,0,0,0,0]):Rng v:=λi hi=>by
 have:v.heirs[i]=0:=by
  rw[show v.heirs[i]=(#v[0,0,0,0,0]:Vector Int 5)[i]from by rw[h]]
  match i,hi with|0,_|1,_|2,_|3,_|4,_=>rfl
 omega
theorem Rng.zero:Rng ViewT.zero:=Rng.zeros rfl
theorem Rng.first:Rng firstV:=Rng.zeros rfl
def wL(x:RepT):MsgT:= {MsgT.zero with kind:=0,whose:=x.id,row:=x.own}
def sQ(id:Int)(x:RowT):MsgT:= {MsgT.zero with kind:=2,whose:=id,row:=x}
def Ba(k w:Int):Bool:=decide (k.fdiv (2^min w.toNat IntKind.i64.bits)%2=0)
def pR(x:RepT):List SaidT:=((gR x.id).filter λw=>Ba x.kept w).map λw=>⟨w,wL x⟩
end Api
namespace Api
open Go Leg Codec
def gx(x:RepT)(o:OpT):RowT×Int:=
 if o.kind=0 then oM x.own o.key o.n else if o.kind=1 then oN x.own o.key o.n else if o.kind=2 then(if o.to'≠x.id then lp x.own o.key o.n o.to' else(.zero,5))else(.zero,5)
def iI(x:RepT)(o:OpT):RowT×Int×Int:=
 if iO x.view x.id=false then(.zero,0,9)else if m5 o.key=false then(.zero,0,5)else if o.kind=3 then(.zero,gA x.book o.key,0)else if x.busy then(.zero,0,8)
 else if(gx x o).2≠0 then(.zero,0,(gx x o).2)else if o.kind≠0∧o7 x.book x.id o.key<o.n then(.zero,0,7)else((gx x o).1,0,0)
def kL(y:RowT):RecT:= {RecT.zero with kind:=0,row:=y}
end Api
namespace Api
open Go Leg Codec
end Api
namespace Api
open Go Leg Codec
end Api
namespace Api
open Go Leg Codec
end Api
namespace Api
open Go Leg Codec
end Api
end

section
namespace Leg
open Go
section
variable {P:Program} {w0:World} {F:Hl} {n:Nat} {ops:Array Oper} {Q:QQ} {D:List Deferred} {L:List (Nat×Value)} {H:List HP} {o:Oper} {l:List Oper} {d:Nat} {S:World→Prop}
def xZ(P:Program)(t:TypeId)(rv:Value)(nm:String)(f:FuncId):Prop:=∀w,(method (P.types.size+Made.depth) t rv nm).run P w= .ok (f,rv) w
theorem TL.callI{recv:Operand}{nm:String}{t:TypeId}{rv:Value}{f:FuncId}{xs:Array Operand}{ts:Array TypeId}{vs:List Value}{R:Hl→Prop}{A B:List HP}{p:Value→List HP→Prop}(hw:Want n D ops o L)
 (ho:o.op= .call {callee:= .invoke recv nm,args:=xs,argTypes:=ts}) (hd:o.dst=some d) (hn:Nat.blt d n=true) (hr:cA L recv=some (.iface t rv)) (hm:xZ P t rv nm f) (hf:Named P f) (hx:AP L xs.toList=some vs)
 (sp:Does P f (rv::vs).toArray R A (dh p)) (hp: ∀h,bD H h→bD (A++B) h) (hR: ∀g,Dj g F→bD B g→R (jn g F))
 (hret: ∀v H',p v H'→TL P w0 F n ops Q l D ((d,v)::L) (H'++B)):TL P w0 F n ops Q (o::l) D L H:=
 TL.callw hw (λa w g=>by
  have e:xs.map a.eval=vs.toArray:=g.evals hx;have e2:a.eval recv= .iface t rv:=g.eval hr;have e3:=hm w
  simp[execOp,ho,resolve,invoke,callMethod,e,e2,e3,mq hf])
  sp hp hR (λv H' q a g w s m=>by rw[hd];exact hret v H' q _ w (g.put (lb hn) v) s m) (λ_ _ h=>h.elim) (λ_ h=>h)
theorem TE.retCTT{H':List HP}{fn:Func}{post:Ending→List HP→Prop}{t t' t2 ty e m b:Nat}{cs:List Value}{z:Nat×Nat}{dt:TypeDesc}{v' v2:Value}(hr:fn.results=#[.cell t ty, .tmp t', .tmp t2])(he:lk L t=some (.pointer (some ⟨b,0,none⟩)))(e':lk L t'=some v')(e2:lk L t2=some v2)
 (hu:P.underlying ty=some dt) (hp:ei dt=false) (hm:(P.info? ty).map (·.size)=some m) (hR:Rd (Sat H F) b (.cells cs.toArray e z)) (hl:cs.length=m) (hk: ∀h,bD H h→bD H' h)
 (h:post (.returned (.tuple #[.agg cs.toArray,v',v2])) H'):TE w0 F n (bodyPost P fn (jG post w0 F)) .ret [] L H:=λa w f s q=>by
 have h1:a.tmps.getD t undef= .pointer (some ⟨b,0,none⟩):=f.eval (x:= .tmp t) he;have h2:a.tmps.getD t' undef=v':=f.eval (x:= .tmp t') e';have h4:a.tmps.getD t2 undef=v2:=f.eval (x:= .tmp t2) e2
 have h3:(results fn a.tmps).run P w= .ok (.tuple #[.agg cs.toArray,v',v2]) w:=by
  have h1':a.tmps[t]?.getD undef= .pointer (some ⟨b,0,none⟩):=by simpa using h1
  have h2':a.tmps[t']?.getD undef=v':=by simpa using h2
  have h4':a.tmps[t2]?.getD undef=v2:=by simpa using h4
  simp[results,hr,h1',h2',h4',asAddr,run_loadVar_row w b e ty cs.toArray z dt (hR w q) hu (by cases dt<;>simp[ei]at hp ⊢) (by simp[hm,hl])]
 exact bodyPost_ret h3 f.2.1 ⟨s,H',q.mono hk,h⟩
theorem PV.ifaceNotNil{t t' u:TypeId}{x:Operand}{v:Value}{ms:Array (String×TypeId)}(ho:o.op= .binOp .neq t x (.const .nilIface) t')(ht:P.underlying t=some (.interface ms))(hx:cA L x=some (.iface u v)):PV P n D L S o (.bool true):=
 fM ho hx rfl λw=>by
  have:=q6 (P:=P) (w:=w) 9999 (u:=u) (v:=v) ht;simp[eqGuard,binOp,Op.equal,Op.maxDepth,this]
end
theorem nw(i:Nat){v:Value}{l:List Int}{e:Nat}{B:List HP}{F:Hl}(hi:Nat.blt i B.length=true)(hH:B.getD i (λ_=>True)=own v l.length (Api.ints l) e 1): ∀g,Dj g F→bD B g→IsI .i64 v l (jn g F):=λg _ s=>by
 obtain⟨h1,h2,d',rfl,a,_⟩:=eB i (lb hi) s;rw[hH]at a;rcases a with⟨_,⟨h0,hn,_⟩| ⟨g,cap,cur,hv,hh,h3,h4,h5,h6⟩⟩
 · exact .inl ⟨h0,List.eq_nil_of_length_eq_zero hn⟩
 · refine .inr ⟨g,0,cap,cur.toList,e,(0,0),hv,h3,by simp only[maxLen]at h4;omega,gp (gp (by rw[hh];simp[sg])),λj hj=>?_⟩
   rw[fK]at h6;have e1:(cur.toList.take l.length)[j]?=some (.int .i64 (l.getD j 0)):=by rw[h6];exact Api.ints_get l j hj
   rw[List.getElem?_take,if_pos hj]at e1
   simpa using e1
variable {P:Program} {w0:World} {F:Hl} {n:Nat} {ops:Array Oper} {Q:QQ} {D:List Deferred} {L:List (Nat×Value)} {H:List HP} {d:Nat} {o:Oper} {l:List Oper}
theorem RU{fn:Func}{post:Ending→List HP→Prop}{t t' t2 ty e m b:Nat}{cs:List Value}{dt:TypeDesc}{v' v2:Value}(k:Nat)(is:List Nat)(hu:P.underlying ty=some dt)(hm:(P.info? ty).map (·.size)=some m)(hl:cs.length=m)(h:post (.returned (.tuple #[.agg cs.toArray,v',v2])) ((BY H is).take is.length))(hr:fn.results=#[.cell t ty, .tmp t', .tmp t2]:=by exact rfl)(he:lk L t=some (.pointer (some ⟨b,0,none⟩)):=by exact rfl)(e':lk L t'=some v':=by exact rfl)(e2:lk L t2=some v2:=by exact rfl)(hp:ei dt=false:=by exact rfl)(hk:Nat.blt k H.length=true:=by exact rfl)(hH:H.getD k (λ_=>True)=ah b cs e:=by exact rfl)(hs:Kz H.length is=true:=by exact rfl):TE w0 F n (bodyPost P fn (jG post w0 F)) .ret [] L H:=TE.retCTT hr he e' e2 hu hp hm (dR k hk hH) hl (λ_ s=>ak is hs s) h
end Leg
end

section
namespace Wal
open Go Leg Codec Api Dsk
theorem ub(i:Nat){us:List Value}{ls:List (List UInt8)}{e k:Nat}{B:List HP}{F:Hl}(hk:k<ls.length)(hi:Nat.blt i B.length=true)(hH:B.getD i (λ_=>True)=eA us ls e): ∀g,Dj g F→bD B g→IsB (us.getD k undef) ls[k] (jn g F):=λg d s=>by
 obtain⟨h1,h2,d',rfl,a,_⟩:=eB i (lb hi) s;rw[hH]at a;obtain⟨hl,a⟩:=a;obtain⟨u,e1,k1,k2,dk,rfl,a3⟩:=xN us ls e _ hl a k hk;rw[List.getD_eq_getElem?_getD,e1];exact BB a3 λb o e=>gp (gp (gp e))
theorem In.read{s ws:fC}(h1:In s)(h2:In ws)(at':Int)(h: ¬(0≤at'∧at'<2048)): ∀k,k≤ws.length→ja s ws at' k=zs
 |0,_=>by
  show iY s at'=zs
  induction s with
  |nil=>rfl
  |cons p s ih=>
   obtain⟨a,b⟩:=p;simp only[iY];have hh:=h1 (a,b) (by simp);rw[if_neg (λe=>h (by simp only at hh;omega))];exact ih λq hq=>h1 q (by simp[hq])
 |k+1,hk=>by
  simp only[ja];rw[if_neg,In.read h1 h2 at' h k (by omega)];intro e;rw[vY (by omega)]at e;have hh:=h2 ws[k] (cR _);exact h (by omega)
theorem DS.In.read{D:DS}(h:Wal.DS.In D){at':Int}(h2: ¬(0≤at'∧at'<2048)):D.read at'=zs:=Wal.In.read h.1 h.2 at' h2 _ (aK _)
theorem G0(number place:Int):fh zs number place=none:=rH (by decide)
theorem w9{rd:Int→jL}{number at' all:Int}: ∀(m:Nat) {b:List UInt8},kT rd number at' all m=some b→∀k,k<m→∃x,fh (rd (at'+k)) number k=some (x,all)
 |0,_,_,k,hk=>by omega
 |m+1,b,h,k,hk=>by
  simp only[kT]at h;split at h
  · cases h
  · rename_i b' hb
    split at h
    · cases h
    · rename_i x same hx
      split at h
      · rename_i hs
        by_cases e:k=m
        · subst e;exact⟨x,by rw[hx,hs]⟩
        · exact w9 m hb k (by omega)
      · cases h
theorem ln{rd:Int→jL}{number at' all:Int}{b:List UInt8}(hl:(rd at').length=64)(h:fN rd number at'=some (b,all)):0<all∧all≤255∧∀k:Nat,(k:Int)<all→∃x,fh (rd (at'+k)) number k=some (x,all):=by
 unfold fN at h;split at h
 · cases h
 · rename_i x al hp
   obtain⟨f1,f2,_⟩:=oQ hl hp;obtain⟨c,hc,e⟩:=Option.map_eq_some_iff.1 h;injection e with e1 e2
   subst e1;subst e2;exact⟨f1,f2,λk hk=>w9 _ hc k (by omega)⟩
theorem oJ{D:DS}(hI:Wal.DS.In D)(hD:D.Ok){number at' all:Int}{b:List UInt8}(h0:0≤at')(h:fN D.read number at'=some (b,all)):at'+all≤2048:=by
 obtain⟨f1,f2,f3⟩:=ln (lY hD _) h;obtain⟨x,hx⟩:=f3 (all-1).toNat (by omega)
 by_cases q:at'+all≤2048
 · exact q
 · rw[DS.In.read hI (by omega),G0]at hx;cases hx
theorem y2{rd:Int→jL}{f:Nat}{cnt used:Int}(h:fN rd (cnt+1) used=none):fT rd f cnt used=([],used):=by
 cases f with
 |zero=>rfl
 |succ f=>simp only[fT,h]
theorem FB{rd:Int→jL}{f:Nat}{cnt used all:Int}{b:List UInt8}(h:fN rd (cnt+1) used=some (b,all)):fT rd (f+1) cnt used=(b::(fT rd f (cnt+1) (used+all)).1,(fT rd f (cnt+1) (used+all)).2):=by simp only[fT,h]
def Scan(D:DS)(f:Nat)(rs:List (List UInt8))(used:Int):Prop:=
 fT D.read ji 0 0=(rs++(fT D.read f rs.length used).1,(fT D.read f rs.length used).2)∧0≤used∧used≤2048∧2049≤(f:Int)+used∧(rs.length:Int)≤used
theorem Scan.start(D:DS):Scan D ji [] 0:=by
 refine⟨?_,by omega,by omega,by rw[sZ];omega,by simp⟩;have e:((([]:List (List UInt8)).length:Nat):Int)=0:=rfl;rw[bI,e]
theorem Scan.next{D:DS}(hI:Wal.DS.In D)(hD:D.Ok){f:Nat}{rs:List (List UInt8)}{used all:Int}{b:List UInt8}(h:Scan D f rs used)(h2:fN D.read ((rs.length:Int)+1) used=some (b,all)): ∃f',f=f'+1∧Scan D f' (rs++[b]) (used+all):=by
 obtain⟨h1,h0,h3,h4,h5⟩:=h;have hr:=oJ hI hD h0 h2;have hf:=(ln (lY hD _) h2).1;obtain⟨f',rfl⟩: ∃f',f=f'+1:=⟨f-1,by omega⟩;refine⟨f',rfl,?_,by omega,by omega,by omega,by simp;omega⟩;rw[h1,FB h2];simp
theorem Scan.stop{D:DS}{f:Nat}{rs:List (List UInt8)}{used:Int}(h:Scan D f rs used)(h2:fN D.read ((rs.length:Int)+1) used=none):fT D.read ji 0 0=(rs,used):=by
 rw[h.1,y2 h2];simp
theorem Bm{D:DS}{at':Int}(h:2048≤at'):jy (2048-at').toNat at' D=(0,D):=by rw[show(2048-at').toNat=0 by omega];rfl
theorem Ge{D:DS}{at':Int}(h:at'<2048)(h2:D.read at'=zs):jy (2048-at').toNat at' D=jy (2048- (at'+1)).toNat (at'+1) D:=by
 rw[show(2048-at').toNat=(2048- (at'+1)).toNat+1 by omega,jy,if_pos h2]
theorem Kc{D:DS}{at':Int}(h:at'<2048)(h2:D.read at'≠zs)(h3:(D.write at' []).1=0):jy (2048-at').toNat at' D=jy (2048- (at'+1)).toNat (at'+1) (D.write at' []).2:=by
 rw[show(2048-at').toNat=(2048- (at'+1)).toNat+1 by omega,jy,if_neg h2,if_pos h3]
theorem Gf{D:DS}{at':Int}(h:at'<2048)(h2:D.read at'≠zs)(h3:(D.write at' []).1≠0):jy (2048-at').toNat at' D=D.write at' []:=by
 rw[show(2048-at').toNat=(2048- (at'+1)).toNat+1 by omega,jy,if_neg h2,if_neg h3]
theorem Ei{D D':DS}{rs:List (List UInt8)}{used e:Int}(h:fT D.read ji 0 0=(rs,used))(h2:jy (2048-used).toNat used D=(e,D'))(h3:e≠0):bQ D=⟨e,[],0,D'⟩:=by
 simp only[bQ,h,h2];rw[if_pos h3]
theorem Eh{D D':DS}{rs:List (List UInt8)}{used:Int}(h:fT D.read ji 0 0=(rs,used))(h2:jy (2048-used).toNat used D=(0,D'))(h3:D'.sync.1≠0):bQ D=⟨D'.sync.1,[],0,D'.sync.2⟩:=by
 simp only[bQ,h,h2,ne_eq,not_true_eq_false,if_false];rw[if_pos h3]
theorem FJ{D D':DS}{rs:List (List UInt8)}{used:Int}(h:fT D.read ji 0 0=(rs,used))(h2:jy (2048-used).toNat used D=(0,D'))(h3:D'.sync.1=0):bQ D=⟨0,rs,used,D'.sync.2⟩:=by
 simp only[bQ,h,h2,ne_eq,not_true_eq_false,if_false];rw[if_neg (by simp[h3])]
def gn:List jL→Int→DS→Int×DS
 | [],_,D=>(0,D)
 |s::ss,at',D=>if(D.write at' s).1=0 then gn ss (at'+1) (D.write at' s).2 else D.write at' s
structure PutR where
 err:Int
 cnt:Nat
 used:Int
 D:DS
def n0(D:DS)(cnt:Nat)(used:Int)(bs:List UInt8):PutR:=
 if 3000<bs.length then⟨2,cnt,used,D⟩
 else if(bB bs.length:Int)>2048-used then⟨3,cnt,used,D⟩
 else
  let w:=gn (ct ((cnt+1:Nat):Int) bs) used D
  if w.1≠0 then⟨w.1,cnt,used,w.2⟩else if w.2.sync.1≠0 then⟨w.2.sync.1,cnt,used,w.2.sync.2⟩else⟨0,cnt+1,used+bB bs.length,w.2.sync.2⟩
theorem Bh{ss:List jL}{at':Int}{D:DS}{k:Nat}(hk:k<ss.length)(h:(D.write (at'+k) ss[k]).1=0):gn (ss.drop k) (at'+k) D=gn (ss.drop (k+1)) (at'+(k+1:Nat)) (D.write (at'+k) ss[k]).2:=by
 rw[dy hk,gn,if_pos h];congr 1;omega
theorem Bi{ss:List jL}{at':Int}{D:DS}{k:Nat}(hk:k<ss.length)(h:(D.write (at'+k) ss[k]).1≠0):gn (ss.drop k) (at'+k) D=D.write (at'+k) ss[k]:=by
 rw[dy hk,gn,if_neg h]
section
variable {D D':DS} {cnt:Nat} {used:Int} {bs:List UInt8}
theorem IH(h:3000<bs.length):n0 D cnt used bs=⟨2,cnt,used,D⟩:=by rw[n0,if_pos h]
theorem II(h: ¬3000<bs.length)(h2:(bB bs.length:Int)>2048-used):n0 D cnt used bs=⟨3,cnt,used,D⟩:=by rw[n0,if_neg h,if_pos h2]
theorem GU{e:Int}(h: ¬3000<bs.length)(h2: ¬(bB bs.length:Int)>2048-used)(h3:gn (ct ((cnt+1:Nat):Int) bs) used D=(e,D'))(h4:e≠0):n0 D cnt used bs=⟨e,cnt,used,D'⟩:=by
 rw[n0,if_neg h,if_neg h2];simp only[h3];rw[if_pos h4]
theorem GT(h: ¬3000<bs.length)(h2: ¬(bB bs.length:Int)>2048-used)(h3:gn (ct ((cnt+1:Nat):Int) bs) used D=(0,D'))(h4:D'.sync.1≠0):n0 D cnt used bs=⟨D'.sync.1,cnt,used,D'.sync.2⟩:=by
 rw[n0,if_neg h,if_neg h2];simp only[h3,ne_eq,not_true_eq_false,if_false];rw[if_pos h4]
theorem put_ok(h: ¬3000<bs.length)(h2: ¬(bB bs.length:Int)>2048-used)(h3:gn (ct ((cnt+1:Nat):Int) bs) used D=(0,D'))(h4:D'.sync.1=0):n0 D cnt used bs=⟨0,cnt+1,used+bB bs.length,D'.sync.2⟩:=by
 rw[n0,if_neg h,if_neg h2];simp only[h3,ne_eq,not_true_eq_false,if_false];rw[if_neg (by simp[h4])]
end
end Wal
end

section
namespace Go.Proofs.YtfocodjhmkokpaaGreatDoor
open Go Leg Codec Api Dsk Wal
abbrev FW(lg d:Nat)(cnt used:Int):HP:=ah lg [.pointer (some ⟨d,0,none⟩), .int .i64 cnt, .int .i64 used] 186
abbrev O4(v:Value)(ls:List (List UInt8)):HP:=mi 53 5 v ls
theorem BN(d:Nat)(D:DS)(number at':Int)(hD:D.Ok)(hb:D.ws.length≤1000000000)(ha:0≤at'∧at'≤1000000):
 DT 103 #[(.pointer (some ⟨d,0,none⟩)),(.int .i64 (number)),(.int .i64 (at'))] T0 [dk d (D)] (dh (λv H=>(fN D.read number at'=none∧v= .tuple #[.slice none 0 0, .int .i64 0, .bool false]∧H=[dk d D])∨∃b all u,fN D.read number at'=some (b,all)∧v= .tuple #[u, .int .i64 all, .bool true]∧H=[gC u b 5,dk d D])):=by
 refine BD 56 Tryz.func103 rfl rfl rfl λw0 F hF=>sr λ_ J1=>P3 ?_
 refine nx J1 (sr λ_ J2=>P2 ?_);refine CR Jb (AX d (D) at' hD hb) ID λvR HR hR=>?_
 obtain⟨hv,rfl⟩:=hR;subst hv;refine PS ?_;refine CR LS (wY ((D).read at') number 0 (lY hD _)) ID λvR HR hR=>?_
 rcases hR with⟨hp,rfl,rfl⟩| ⟨b,all,u,hp,rfl,rfl⟩
 refine P4 ?_;refine P3 ?_;refine nx J2 (ab λ_ J3=>sr λ_ J4=>PS ?_);refine PS ?_;refine nx J4 (CY (sr λ_ J5=>P3 ?_));exact nx J5 (ai (ae (WK [0] (nd rfl rfl rfl rfl (.inl ⟨qX hp,rfl,rfl⟩)))));refine TL.subLen 0 rfl rfl (λhul hu=>?_);have hpf:=oQ (lY hD _) hp;refine P4 ?_;refine P3 ?_;refine nx J2 (ab λ_ J6=>sr λ_ J7=>PS ?_);refine PS ?_;refine nx J7 (CN (qx J6 (ab λ_ J8=>sr λ_ J9=>PS ?_)));refine nx J9 (au ?_)
 refine bu (α:=(Nat)×(List UInt8)×(Value)) (λ⟨k,c,w⟩=>1≤k∧k≤all.toNat∧kT D.read number at' all k=some c∧c.length≤k*52∧w.oneCell'=true) (λ⟨k,c,w⟩=>[(0,(.pointer (some ⟨d,0,none⟩))),(1,(.int .i64 (number))),(2,(.int .i64 (at'))),(9,w),(10,(.int .i64 (all))),(12,(.int .i64 (((k:Nat):Int))))]) (λ⟨k,c,w⟩=>[gC w (c) 5,dk d (D)]) (λ⟨k,c,w⟩=>all.toNat-k) (1,b,u)
  ⟨aK _,by omega,Hg hp,by omega,hu⟩ SB
  (λ_ s=>s) (λ⟨k,c,w⟩ hinv=>?_)
 obtain⟨hk1,hk2,hk3,hk4,hw⟩:=hinv;refine ab λ_ J10=>sr λ_ J11=>P3 ?_
 refine ao ?_ ?_<;>intro h29;refine nx J11 (CY (qx J10 (ab λ_ J12=>au (sr λ_ J13=>P3 ?_))));refine AD ?_;refine CR Jb (AX d (D) (at'+((k:Nat):Int)) hD hb) (SM [1]) λvR HR hR=>?_
 obtain⟨hv,rfl⟩:=hR;subst hv;refine P2 ?_;refine CR LS (wY ((D).read (at'+((k:Nat):Int))) number ((k:Nat):Int) (lY hD _)) ID λvR HR hR=>?_
 rcases hR with⟨hp2,rfl,rfl⟩| ⟨b2,all2,u2,hp2,rfl,rfl⟩
 refine P4 ?_;refine P3 ?_;refine nx J13 (ab λ_ J14=>sr λ_ J15=>PS ?_);refine PS ?_;refine PS ?_
 iterate 3 refine UT ?_
 refine PS ?_;refine nx J15 (CY (sr λ_ J16=>P3 ?_));refine nx J16 (ai (ae (aH (ae (ae (aH (ae (WK [0] (nd rfl rfl rfl rfl ?_)))))))));exact .inl ⟨qW hp (w8 (.inl hp2) _ (by omega)),rfl,rfl⟩;refine TL.subLen 0 rfl rfl (λhul2 hu2=>?_);have hpf2:=oQ (lY hD _) hp2;refine P4 ?_;refine P3 ?_;refine nx J13 (ab λ_ J17=>sr λ_ J18=>PS ?_);refine PS ?_;refine P4 ?_;refine ao ?_ ?_<;>intro h49;refine PS ?_;refine nx J18 (CY (sr λ_ J19=>P3 ?_));refine nx J19 (ai (ae (aH (ae (ae (aH (ae (WK [1] (nd rfl rfl rfl rfl ?_)))))))));exact .inl ⟨qW hp (w8 (.inr ⟨b2,all2,hp2,h49⟩) _ (by omega)),rfl,rfl⟩;refine PS ?_;refine nx J18 (CN (qx J17 (ad (P2 ?_))));refine TL.appendS (k:=2) (news:=b2) (bs':=c++b2) (aa rfl) rfl rfl rfl fB x9 rfl rfl rfl rfl (λ_ s=>Src.sub 0 rfl rfl s) (by omega) rfl (λv53 ov53=>PS ?_);refine aq (ag (ac J12 (ad (PS ?_))));refine AD ?_;refine PS ?_;refine aq ?_
 exact aJ ((k+1,c++b2,v53):(Nat)×(List UInt8)×(Value)) ⟨by omega,by omega,xa hk3 (by rw[hp2,show all2=all by omega]),by rw[af];omega,ov53⟩ (by show all.toNat- (k+1)<all.toNat-k;omega)
  SB
  (λ_ s=>ak [2,1] rfl s)
 refine nx J11 (CN (aY (aC (aC (bo (ac J8 (sr λ_ J20=>?_)))))))
 iterate 5 refine PS ?_
 refine nx J20 (ai (WK [0,0] (nd rfl rfl rfl rfl ?_)));exact .inr ⟨c,all,w,sF hp (by rw[show all.toNat=k by omega];exact hk3),rfl,rfl⟩
theorem GL(lg d:Nat)(cnt used:Int)(h:0≤used∧used≤2048):
 DT 172 #[(.pointer (some ⟨lg,0,none⟩))] T0 [ah lg [(.pointer (some ⟨d,0,none⟩)),(.int .i64 (cnt)),(.int .i64 (used))] 186] (RI (.int .i64 (2048-used)) [FW lg d cnt used]):=by
 refine BD 8 Tryz.func172 rfl rfl rfl λw0 F hF=>sr λ_ J1=>PS ?_
 refine nx J1 (sr λ_ J2=>P2 ?_);refine FA 2 qS aR ?_;refine LA 0 Y3 ?_;refine tp (ix rfl rfl rfl (bF (by omega) (by omega))) ?_;refine PS ?_;exact nx J2 (ai (WK [0] (av rfl rfl ⟨rfl,rfl⟩)))
theorem Bs(lg d cnt:Nat)(used:Int)(x:Value)(bs:List UInt8)(D:DS)(hD:D.Ok)(hb:D.ws.length≤1000000)(hu:0≤used∧used≤2048)(hc:cnt≤1000000):
 DT 155 #[(.pointer (some ⟨lg,0,none⟩)),x] (IsW x bs) [ah lg [(.pointer (some ⟨d,0,none⟩)),(.int .i64 (((cnt:Nat):Int))),(.int .i64 (used))] 186,dk d (D)] (RI (.int .i64 (n0 D cnt used bs).err) [FW lg d (((n0 D cnt used bs).cnt:Nat):Int) (n0 D cnt used bs).used,dk d (n0 D cnt used bs).D]):=by
 refine BD 72 Tryz.func155 rfl rfl rfl λw0 F hF=>sr λ_ J1=>PS ?_
 refine nx J1 (ab λ_ J2=>sr λ_ J3=>PS ?_);refine tp (dq rfl fB rfl hF.len) ?_;refine PS ?_;refine ao ?_ ?_<;>intro h12;refine nx J3 (CY (sr λ_ J4=>PS ?_));refine nx J4 (ai (ae (WK [0,0] (av rfl rfl ?_))));rw[IH (by omega)];exact⟨rfl,rfl⟩;refine nx J3 (CN (qx J2 (sr λ_ J5=>PS ?_)));refine tp (dq rfl fB rfl hF.len) ?_;refine CE LL (uJ bs.length (by omega)) ID ?_;refine PS ?_;refine nx J5 (ab λ_ J6=>sr λ_ J7=>P2 ?_);refine CE NZ (GL lg d ((cnt:Nat):Int) used hu) ID ?_;refine PS ?_;refine ao ?_ ?_<;>intro h19;refine nx J7 (CY (sr λ_ J8=>PS ?_));refine nx J8 (ai (ae (WK [0,0] (av rfl rfl ?_))));rw[II (by omega) (by omega)];exact⟨rfl,rfl⟩;refine nx J7 (CN (qx J6 (ab λ_ J9=>sr λ_ J10=>P2 ?_)));refine FA 1 qS aR ?_;refine LA 0 Y3 ?_;refine tp (Gb (v':=(.int .i64 (((cnt+1:Nat):Int)))) (cq rfl rfl rfl (bF (by omega) (by omega))) rfl) ?_;refine PS ?_;refine CQ NY (Ak x (cnt+1) bs (by omega)) ID (λg d _=>OR hF d) λvR HR hR=>?_
 have hR:=hR;subst hR;change TL _ _ _ _ _ _ _ _ _ [mi 53 5 vR (ct ((cnt+1:Nat):Int) bs),ah lg [(.pointer (some ⟨d,0,none⟩)),(.int .i64 (((cnt:Nat):Int))),(.int .i64 (used))] 186,dk d (D)];refine TL.recsLen 0 rfl rfl (λhrl hro=>?_);rw[eC]at hrl;refine tp (dq rfl vv rfl hrl) ?_;refine PS ?_;refine nx J10 (au ?_)
 refine bu (α:=(Nat)×(DS)) (λ⟨k,D'⟩=>k≤bB bs.length∧gn (ct ((cnt+1:Nat):Int) bs) used D=gn ((ct ((cnt+1:Nat):Int) bs).drop k) (used+(k:Nat)) D'∧D'.Ok∧D'.ws.length≤D.ws.length+k) (λ⟨k,D'⟩=>[(0,(.pointer (some ⟨lg,0,none⟩))),(5,(.int .i64 (((bB bs.length:Nat):Int)))),(26,vR),(27,(.int .i64 ((((bB bs.length):Nat):Int)))),(28,(.int .i64 (((k:Nat):Int))))]) (λ⟨k,D'⟩=>[ah lg [(.pointer (some ⟨d,0,none⟩)),(.int .i64 (((cnt:Nat):Int))),(.int .i64 (used))] 186,dk d (D'),mi 53 5 vR (ct ((cnt+1:Nat):Int) bs)]) (λ⟨k,D'⟩=>bB bs.length-k) (0,D)
  ⟨aN _,by simp,hD,by omega⟩ SB
  (λ_ s=>aB [1,1,0] rfl s) (λ⟨k,D'⟩ hinv=>?_)
 obtain⟨hk,hwr,hD',hws⟩:=hinv;refine sr λ_ J11=>PS ?_
 refine ao ?_ ?_<;>intro h29;refine ck (λ_ s=>aB [2] rfl s) (Mj (λus=>?_));change TL _ _ _ _ _ _ _ _ _ [own vR ((ct ((cnt+1:Nat):Int) bs).length) (us) 53 1,eA us (ct ((cnt+1:Nat):Int) bs) 5,ah lg [(.pointer (some ⟨d,0,none⟩)),(.int .i64 (((cnt:Nat):Int))),(.int .i64 (used))] 186,dk d (D')];refine yC (p:=us.length=(ct ((cnt+1:Nat):Int) bs).length*1) (λw m=>m.own_len (i:=0) (lb rfl) rfl) (λhul=>?_);rw[eC,fK]at hul;have hkl:k< (ct ((cnt+1:Nat):Int) bs).length:=by rw[eC];omega
 obtain⟨sk,hsk⟩: ∃x,(ct ((cnt+1:Nat):Int) bs)[k]=x:=⟨_,rfl⟩;refine g9 0 rfl rfl (by omega) (λg cap hv hcap=>nx J11 (ab λ_ J12=>CY (qx J12 (ab λ_ J13=>au (sr λ_ J14=>PS ?_)))));refine tp (be (r:=k) hv rfl vv kH rfl rfl (by omega) (by omega) (by omega)) ?_;refine tp (ca (v:=(us.getD k undef)) rfl fB rfl rfl (fD 0 rfl hv rfl) (by simp[List.getD_eq_getElem?_getD,show k<us.length by omega])) ?_;refine P2 ?_;refine nx J14 (ab λ_ J15=>D1 2 df ?_);refine PD 0 ?_;refine PD 1 ?_;refine FD 2 0 qS ve ?_;refine LX 3 HT (.pointer (some ⟨d,0,none⟩)) ?_ (hc:=by exact rfl);refine PD 4 ?_;refine PD 5 ?_;refine FD 6 2 qS aR ?_;refine LX 7 Y3 (.int .i64 (used)) ?_ (hc:=by exact rfl);refine PD 8 ?_;refine ta 9 rfl (cq rfl rfl rfl (bF (by omega) (by omega))) ?_;refine PD 10 ?_;refine AL 11 ?_;refine CQ MB (xH d D' (used+((k:Nat):Int)) (us.getD k undef) sk hD' (by omega)) (SM [3]) (λg d s=>Gc (hsk▸ub 1 hkl rfl rfl g d s)) λvR HR hR=>?_
 obtain⟨hv2,rfl⟩:=hR;subst hv2;refine EN (PD 12 ?_);refine DN (ac J15 (sr λ_ J16=>P2 ?_));refine ao ?_ ?_<;>intro h46;refine nx J16 (CY (sr λ_ J17=>P2 ?_));refine nx J17 (ai (aH (ae (ae (aH (ae (WK [3,0] (av rfl rfl ?_))))))));have hf:=Bi (D:=D') (at':=used) hkl (by rw[hsk];exact h46);rw[hsk]at hf;rw[GU (by omega) (by omega) (hwr.trans hf) h46];exact⟨rfl,rfl⟩;refine nx J16 (CN (aT (ag (ac J13 (ad (AD ?_))))));refine PS ?_;refine aq ?_
 exact aJ ((k+1,(D'.write (used+((k:Nat):Int)) sk).2):(Nat)×(DS)) ⟨by omega,by rw[hwr];subst hsk;exact Bh hkl (by simpa using h46),DS.write_ok hD' _ _,by have:=DS.write_ws (D:=D') (at':=used+((k:Nat):Int)) (bs:=sk);omega⟩ (by show bB bs.length- (k+1)<bB bs.length-k;omega)
  SB
  (λ_ s=>aB [1,1,0] rfl (bn (p:=λus:List Value=>[own vR (ct ((cnt+1:Nat):Int) bs).length us 53 1,eA us (ct ((cnt+1:Nat):Int) bs) 5]) us (ak [1,1,1,0] rfl s)))
 refine nx J11 (ab λ_ J18=>CN (aY (aC (aC (bo (ac J9 (ab λ_ J19=>sr λ_ J20=>P2 ?_)))))));refine FA 0 qS ve ?_;refine LA 0 HT ?_;refine CR MA (AW d (D') hD') (SM [1]) λvR HR hR=>?_
 obtain⟨hv,rfl⟩:=hR;subst hv;refine PS ?_;refine nx J20 (sr λ_ J21=>P2 ?_);refine ao ?_ ?_<;>intro h55;refine nx J21 (CY (sr λ_ J22=>P2 ?_));refine nx J22 (ai (ae (WK [1,0] (av rfl rfl ?_))));have hf:gn (ct ((cnt+1:Nat):Int) bs) used D=(0,D'):=by rw[hwr,da (by rw[eC];omega)];rfl
 rw[GT (by omega) (by omega) hf h55];exact⟨rfl,rfl⟩;refine nx J21 (CN (qx J19 (sr λ_ J23=>P2 ?_)));refine FA 1 qS aR ?_;refine LA 1 Y3 ?_;refine AD ?_;refine PS ?_;refine FA 1 qS aR ?_;refine S0 1 aR ?_;refine nx J23 (sr λ_ J24=>P2 ?_);refine FA 2 qS aR ?_;refine LA 1 Y3 ?_;refine PS ?_;refine AD ?_;refine PS ?_;refine FA 2 qS aR ?_;refine S0 1 aR ?_;refine nx J24 (sr λ_ J25=>PS ?_);refine nx J25 (ai (WK [1,0] (av rfl rfl ?_)));have hf:gn (ct ((cnt+1:Nat):Int) bs) used D=(0,D'):=by rw[hwr,da (by rw[eC];omega)];rfl
 rw[put_ok (by omega) (by omega) hf (by simpa using h55)];exact⟨rfl,rfl⟩
theorem G8(d:Nat)(D:DS)(hD:D.Ok)(hI:Wal.DS.In D)(hb:D.ws.length≤1000000):
 DT 66 #[(.pointer (some ⟨d,0,none⟩))] T0 [dk d (D)] (dh (λv H=>((bQ D).err≠0∧v= .tuple #[.pointer none, .slice none 0 0, .int .i64 (bQ D).err]∧H=[dk d (bQ D).D])∨((bQ D).err=0∧∃lg vr,v= .tuple #[.pointer (some ⟨lg,0,none⟩),vr, .int .i64 0]∧H=[FW lg d (((bQ D).recs.length:Nat):Int) (bQ D).used,O4 vr (bQ D).recs,dk d (bQ D).D]))):=by
 refine BD 80 Tryz.func66 rfl rfl rfl λw0 F hF=>sr λ_ J1=>P3 ?_
 refine nx J1 (ab λ_ J2=>sr λ_ J3=>PS ?_);refine tp (iT rfl HT rfl rfl) ?_;refine nx J3 (CN (qx J2 (sr λ_ J4=>PS ?_)));refine BV #[(.pointer (some ⟨d,0,none⟩)),(.int .i64 0),(.int .i64 0)] ?_;refine XB λb17=>?_
 refine PS ?_;refine nx J4 (sr λ_ J5=>PS ?_);refine nx J5 (ab λ_ J6=>au ?_)
 refine bu (α:=(Nat)×(List (List UInt8))×(Int)×(Value)) (λ⟨f,rs,used,vr⟩=>Scan D f rs used∧vr.oneCell'=true) (λ⟨f,rs,used,vr⟩=>[(0,(.pointer (some ⟨d,0,none⟩))),(2,(.pointer none)),(3,(.slice none 0 0)),(4,(.int .i64 0)),(5,(.pointer (some ⟨b17,0,none⟩))),(6,vr)]) (λ⟨f,rs,used,vr⟩=>[ah b17 [(.pointer (some ⟨d,0,none⟩)),(.int .i64 (((rs.length:Nat):Int))),(.int .i64 (used))] 186,dk d (D),mi 53 5 vr (rs)]) (λ⟨f,rs,used,vr⟩=>f) (ji,[],0,(.slice none 0 0))
  ⟨Scan.start D,rfl⟩ SB
  (λ_ s=>eg (List.Perm.trans (List.Perm.swap _ _ _) (List.Perm.cons _ (List.Perm.swap _ _ _))) (uC 53 5 s)) (λ⟨f,rs,used,vr⟩ hinv=>?_)
 obtain⟨hsc,hvr⟩:=hinv;obtain⟨hs1,hs2,hs3,hs4,hs5⟩:=id hsc;refine au (ab λ_ J7=>D1 0 df ?_);refine PD 0 ?_;refine PD 1 ?_;refine PD 2 ?_;refine FD 3 1 qS aR ?_;refine LX 4 Y3 (.int .i64 (((rs.length:Nat):Int))) ?_ (hc:=by exact rfl);refine ta 5 rfl (cq rfl rfl rfl (bF (by omega) (by omega))) ?_;refine PD 6 ?_;refine PD 7 ?_;refine FD 8 2 qS aR ?_;refine LX 9 Y3 (.int .i64 (used)) ?_ (hc:=by exact rfl);refine AL 10 ?_;refine CR Ox (BN d D (((rs.length:Nat):Int)+1) used hD (by omega) (by omega)) (SM [1]) λvR HR hR=>?_
 rcases hR with⟨hst,rfl,rfl⟩| ⟨b,all,u,hst,rfl,rfl⟩
 have hss:=Scan.stop hsc hst;refine EN (PD 11 ?_);refine PD 12 ?_;refine PD 13 ?_;refine PD 14 ?_;refine PD 15 ?_;refine PD 16 ?_;refine PD 17 ?_;refine DN (ac J7 (ab λ_ J8=>sr λ_ J9=>PS ?_));refine PS ?_;refine nx J9 (CY (aY (aC (TE.miss (by decide) (aC (bo (ac J6 (ab λ_ J10=>sr λ_ J11=>P2 ?_))))))));refine FA 2 qS aR ?_;refine LA 1 Y3 ?_;refine PS ?_;refine nx J11 (au ?_)
 refine bu (α:=(Int)×(DS)) (λ⟨at',D'⟩=>used≤at'∧at'≤2048∧jy (2048-used).toNat used D=jy (2048-at').toNat at' D'∧D'.Ok∧D'.ws.length≤D.ws.length+(at'-used).toNat) (λ⟨at',D'⟩=>[(0,(.pointer (some ⟨d,0,none⟩))),(5,(.pointer (some ⟨b17,0,none⟩))),(6,vr),(10,(.int .i64 (at')))]) (λ⟨at',D'⟩=>[ah b17 [(.pointer (some ⟨d,0,none⟩)),(.int .i64 (((rs.length:Nat):Int))),(.int .i64 (used))] 186,dk d (D'),mi 53 5 vr (rs)]) (λ⟨at',D'⟩=>(2048-at').toNat) (used,D)
  ⟨by omega,by omega,rfl,hD,by omega⟩ SB
  (λ_ s=>ak [1,0,0] rfl s) (λ⟨at',D'⟩ hinv=>?_)
 obtain⟨ha1,ha2,hwi,hD',hws⟩:=hinv;refine ab λ_ J12=>sr λ_ J13=>P2 ?_
 refine ao ?_ ?_<;>intro h59;refine nx J13 (CY (qx J12 (ab λ_ J14=>au (ab λ_ J15=>sr λ_ J16=>P2 ?_))));refine CR Jb (AX d (D') at' hD' (by omega)) (SM [1]) λvR HR hR=>?_
 obtain⟨hv,rfl⟩:=hR;subst hv;refine BV ((dG zs).toArray) ?_;refine tp (PV.eqlBy (a:=((D').read at')) (b:=zs) (m:=2) Lw Lv rfl Lx Lz Ly (lY hD' _) (by decide) rfl rfl rfl) ?_;refine ao ?_ ?_<;>intro h66;refine nx J16 (CY (aY (aC (bo (ac J14 (ad (PS ?_)))))));refine AD ?_;refine PS ?_;refine aq ?_
 exact aJ ((at'+1,D'):(Int)×(DS)) ⟨by omega,by omega,by rw[hwi];exact Ge (by omega) h66,hD',by omega⟩ (by show(2048- (at'+1)).toNat< (2048-at').toNat;omega)
  SB
  (λ_ s=>ak [1,0,0] rfl s)
 refine nx J16 (CN (qx J15 (sr λ_ J17=>P2 ?_)));refine CQ MB (xH d (D') at' (.slice none 0 0) ([]) hD' (by omega)) ID (λ_ _ _=> .inl (.inl ⟨rfl,rfl⟩)) λvR HR hR=>?_
 obtain⟨hv,rfl⟩:=hR;subst hv;refine PS ?_;refine nx J17 (sr λ_ J18=>P2 ?_);refine ao ?_ ?_<;>intro h71;refine nx J18 (CY (sr λ_ J19=>P4 ?_));refine nx J19 (ai (aH (ae (ae (aH (ae (WK [0] (nd rfl rfl rfl rfl ?_))))))));rw[Ei hss (hwi.trans (Gf (by omega) h66 h71)) h71];exact .inl ⟨h71,rfl,rfl⟩;refine nx J18 (CN (aT (ag (ac J14 (ad (PS ?_))))));refine AD ?_;refine PS ?_;refine aq ?_
 exact aJ ((at'+1,(D'.write at' []).2):(Int)×(DS)) ⟨by omega,by omega,by rw[hwi];exact Kc (by omega) h66 (by simpa using h71),DS.write_ok hD' _ _,by have:=DS.write_ws (D:=D') (at':=at') (bs:=[]);omega⟩ (by show(2048- (at'+1)).toNat< (2048-at').toNat;omega)
  SB
  (λ_ s=>ak [1,0,0] rfl s)
 refine nx J13 (CN (aY (aC (aC (bo (ac J10 (ab λ_ J20=>sr λ_ J21=>PS ?_)))))));refine CR MA (AW d (D') hD') (SM [1]) λvR HR hR=>?_
 obtain⟨hv,rfl⟩:=hR;subst hv;refine PS ?_;refine nx J21 (sr λ_ J22=>P2 ?_);refine ao ?_ ?_<;>intro h76;refine nx J22 (CY (sr λ_ J23=>P4 ?_));refine nx J23 (ai (ae (WK [0] (nd rfl rfl rfl rfl ?_))));rw[Eh hss (hwi.trans (Bm (by omega))) h76];exact .inl ⟨h76,rfl,rfl⟩;refine nx J22 (CN (qx J20 (sr λ_ J24=>?_)))
 iterate 5 refine PS ?_
 refine nx J24 (ai (WK [1,1,0] (nd rfl rfl rfl rfl ?_)));have h76':D'.sync.1=0:=by omega
 rw[FJ hss (hwi.trans (Bm (by omega))) h76'];exact .inr ⟨rfl,b17,vr,rfl,rfl⟩;have hro:=oJ hI hD (by omega) hst;have hfa:=(ln (lY hD _) hst).1;obtain⟨f',rfl,hsn⟩:=Scan.next hI hD hsc hst;refine TL.subLen 0 rfl rfl (λhul hu=>EN (PD 11 ?_));refine PD 12 ?_;refine PD 13 ?_;refine PD 14 ?_;refine PD 15 ?_;refine PD 16 ?_;refine PD 17 ?_;refine DN (ac J7 (ab λ_ J25=>sr λ_ J26=>PS ?_));refine PS ?_;refine nx J26 (CN (qx J25 (sr λ_ J27=>P2 ?_)));refine aQ (cells:=#[u]) (aa rfl) rfl rfl rfl vv Hv rfl rfl rfl (s7 hu (by simp)) (λb37=>?_);change TL _ _ _ _ _ _ _ _ _ [ah b37 [u] 53,gC u (b) 5,dk d (D),ah b17 [(.pointer (some ⟨d,0,none⟩)),(.int .i64 (((rs.length:Nat):Int))),(.int .i64 (used))] 186,mi 53 5 vr (rs)];refine ck (λ_ s=>aB [4] rfl s) (Mj (λus38=>ci (k:=0) (m:=1) (news:=[u]) (nn':=(rs).length+1) (xs':=us38++[u]) (aa rfl) rfl rfl rfl vv Hv rfl rfl rfl rfl rfl rfl (λ_ _=>gS rfl (RO 2) rfl) (List.forall_mem_cons.2 ⟨hu,λ_ h=>by cases h⟩) (by simp only[maxLen];omega) (by omega) rfl rfl (λv38 ov38=>?_)));change TL _ _ _ _ _ _ _ _ _ [own v38 ((rs).length+1) (us38++[u]) 53 1,eA us38 (rs) 5,ah b37 [u] 53,gC u (b) 5,dk d (D),ah b17 [(.pointer (some ⟨d,0,none⟩)),(.int .i64 (((rs.length:Nat):Int))),(.int .i64 (used))] 186]
 refine ck (H':=[own v38 ((rs).length+1) (us38++[u]) 53 1,eA us38 (rs) 5,gC u (b) 5,ah b37 [u] 53,dk d (D),ah b17 [(.pointer (some ⟨d,0,none⟩)),(.int .i64 (((rs.length:Nat):Int))),(.int .i64 (used))] 186]) (λ_ s=>aB [0,0,1] rfl s) (ck (λ_ s=>uE s) (PS ?_));refine nx J27 (sr λ_ J28=>P2 ?_);refine FA 1 qS aR ?_;refine LA 3 Y3 ?_;refine tp (Gb (v':=(.int .i64 ((((rs++[b]).length:Nat):Int)))) (cq rfl rfl rfl (bF (by omega) (by omega))) (congrArg (Value.int .i64) (by simp))) ?_;refine PS ?_;refine FA 1 qS aR ?_;refine S0 3 aR ?_;refine nx J28 (ad (P2 ?_));refine FA 2 qS aR ?_;refine LA 3 Y3 ?_;refine PS ?_;refine AD ?_;refine PS ?_;refine FA 2 qS aR ?_;refine S0 3 aR ?_;refine aq (ag ?_)
 exact aJ ((f',rs++[b],used+all,v38):(Nat)×(List (List UInt8))×(Int)×(Value)) ⟨hsn,ov38⟩ (Nat.lt_succ_self _)
  SB
  (λ_ s=>ak [3,2,0] rfl s)
end Go.Proofs.YtfocodjhmkokpaaGreatDoor
end

section
namespace Wal
open Go Leg Codec Api Dsk
theorem BQ(s ws:fC)(j:Int): ∀k,iY (Cv s ws k) j=ja s ws j k
 |0=>rfl
 |k+1=>by
  rw[Cv,ja,Ix,BQ s ws j k]
  by_cases h:j=(kX ws k).1
  · rw[if_pos h,if_pos h.symm]
  · rw[if_neg h,if_neg (λq=>h q.symm)]
theorem Ib{ws x:fC}{k:Nat}(h:k<ws.length):kX (ws++x) k=kX ws k:=by simp[kX,List.getD_eq_getElem?_getD,List.getElem?_append_left h]
theorem wO{s ws x:fC}{j:Int}: ∀k,k≤ws.length→ja s (ws++x) j k=ja s ws j k
 |0,_=>rfl
 |k+1,h=>by rw[ja,ja,Ib (by omega),wO k (by omega)]
theorem GR(s ws:fC)(p:Int×jL)(j:Int):ja s (ws++[p]) j (ws++[p]).length=if j=p.1 then p.2 else ja s ws j ws.length:=by
 rw[af,an,aw,bg,ja,wO _ (aK _)];have:kX (ws++[p]) ws.length=p:=by simp[kX,List.getD_eq_getElem?_getD]
 rw[this]
 by_cases h:j=p.1
 · rw[if_pos h,if_pos h.symm]
 · rw[if_neg h,if_neg (λq=>h q.symm)]
def Av(D:DS)(at':Int)(bs:List UInt8):DS:= {D with ws:=D.ws++[(at',eN bs)],lf:=if D.ar=true then D.lf-1 else D.lf,dn:=false}
theorem ri{D:DS}{at':Int}{bs:List UInt8}(h1:0≤at'∧at'<2048)(h2:bs.length≤64)(h3:D.dn=false)(h4:D.ar=false∨0<D.lf):D.write at' bs=(0,Av D at' bs):=by
 rw[DS.write,if_neg (by omega),if_neg]
 · rfl
 · rintro (h| ⟨h,h5⟩)
   · rw[h3]at h;cases h
   · rcases h4 with h4|h4
     · rw[h4]at h;cases h
     · omega
theorem DG{D:DS}{at':Int}{bs:List UInt8}(h1:0≤at'∧at'<2048)(h2:bs.length≤64)(h4:D.ar=true∧D.lf=0):D.write at' bs=(4,{D with dn:=true}):=by
 rw[DS.write,if_neg (by omega),if_pos (.inr h4)]
theorem GW(D:DS)(at':Int)(bs:List UInt8)(j:Int):(Av D at' bs).read j=if j=at' then eN bs else D.read j:=GR _ _ _ _
theorem FG{D:DS}(h:D.Ok){at':Int}{bs:List UInt8}(h2:bs.length≤64)(h4:D.ar=false∨0<D.lf):(Av D at' bs).Ok:=by
 refine⟨h.s,h.ws.add _ (dC h2),?_⟩;have:=h.lf;show 0≤(if D.ar=true then D.lf-1 else D.lf)∧(if D.ar=true then D.lf-1 else D.lf)≤9223372036854775807;split
 · rename_i h5
   rcases h4 with h4|h4
   · rw[h4]at h5;cases h5
   · omega
 · exact this
theorem FH{D:DS}(h:Wal.DS.In D){at':Int}{bs:List UInt8}(h1:0≤at'∧at'<2048):Wal.DS.In (Av D at' bs):=⟨h.1,λp hp=>by
 rcases cG.1 hp with hp|hp
 · exact h.2 p hp
 · simp only[dm]at hp;subst hp;exact h1⟩
theorem In.put{s:fC}(h:In s){k:Int}{v:jL}(h1:0≤k∧k<2048):In (nU s k v):=by
 induction s with
 |nil=>intro p hp;simp only[nU,dm]at hp;subst hp;exact h1
 |cons p s ih=>
  obtain⟨a,b⟩:=p;intro q hq;simp only[nU]at hq;split at hq
  · rcases bN.1 hq with rfl|hq
    · exact h (a,b) (by simp)
    · exact h q (by simp[hq])
  · rcases bN.1 hq with rfl|hq
    · exact h (a,b) (by simp)
    · exact ih (λq hq=>h q (by simp[hq])) q hq
theorem In.lay{s ws:fC}(h:In s)(hw:In ws): ∀k,k≤ws.length→In (Cv s ws k)
 |0,_=>h
 |k+1,hk=>by
  have:=hw (kX ws k) (by rw[vY (by omega)];exact cR _);exact(In.lay h hw k (by omega)).put this
theorem In.crash{mask torn:Int}{c:Nat}{s ws:fC}(h:In s)(hw:In ws): ∀k,k≤ws.length→In (m7 mask torn c s ws k)
 |0,_=>h
 |k+1,hk=>by
  have h1:=hw (kX ws k) (by rw[vY (by omega)];exact cR _);have ih:=In.crash (mask:=mask) (torn:=torn) (c:=c) h hw k (by omega);simp only[m7,mG];split
  · exact ih.put h1
  · split
    · exact ih.put h1
    · exact ih
theorem In.nil:In []:=λ_ h=>absurd h (by simp)
abbrev Qm:= @In.nil
structure Calm(D:DS):Prop where
 ok:D.Ok
 inn:Wal.DS.In D
 ar:D.ar=false
 dn:D.dn=false
theorem Calm.crash{D:DS}(h:D.Ok)(hi:Wal.DS.In D)(mask torn n:Int):Calm (D.crash mask torn n):=⟨DS.crash_ok h _ _ _,⟨hi.1.crash hi.2 _ (aK _),Qm⟩,rfl,rfl⟩
theorem Gu{D:DS}(h:D.dn=false)(j:Int):D.sync.2.read j=D.read j:=by
 unfold DS.sync;rw[if_neg (by simp[h])];exact BQ _ _ _ _
theorem tH{D:DS}(h:D.dn=false):D.sync.1=0∧D.sync.2.ws=[]∧D.sync.2.dn=false∧D.sync.2.ar=D.ar∧D.sync.2.lf=D.lf:=by
 unfold DS.sync;rw[if_neg (by simp[h])];exact⟨rfl,rfl,h,rfl,rfl⟩
theorem Fx{D:DS}(h:Wal.DS.In D):Wal.DS.In D.sync.2:=by
 unfold DS.sync;split
 · exact h
 · exact⟨h.1.lay h.2 _ (aK _),Qm⟩
theorem Calm.sync{D:DS}(h:Calm D):Calm D.sync.2:=by
 obtain⟨_,_,h3,h4,_⟩:=tH h.dn;exact⟨DS.sync_ok h.ok,Fx h.inn,h4.trans h.ar,h3⟩
theorem Calm.put{D:DS}(h:Calm D){at':Int}{bs:List UInt8}(h1:0≤at'∧at'<2048)(h2:bs.length≤64):Calm (Av D at' bs):=⟨FG h.ok h2 (.inl h.ar),FH h.inn h1,h.ar,rfl⟩
theorem IM:eN []=zs:=rfl
theorem tu: ∀(n:Nat) (at':Int) (D:DS),Calm D→0≤at'→at'+n≤2048→∃D',jy n at' D=(0,D')∧Calm D'∧∀j,D'.read j=if at'≤j∧j<at'+n then zs else D.read j
 |0,at',D,h,_,_=>⟨D,rfl,h,λj=>by rw[if_neg (by omega)]⟩
 |n+1,at',D,h,h0,h1=>by
  by_cases hz:D.read at'=zs
  · obtain⟨D',e,c,r⟩:=tu n (at'+1) D h (by omega) (by omega)
    refine⟨D',by rw[jy,if_pos hz,e],c,λj=>?_⟩;rw[r j]
    by_cases q:j=at'
    · subst q;rw[if_neg (by omega),if_pos (by omega),hz]
    · by_cases q2:at'+1≤j∧j<at'+1+n
      · rw[if_pos q2,if_pos (by omega)]
      · rw[if_neg q2,if_neg (by omega)]
  · have hw:=ri (D:=D) (at':=at') (bs:=[]) (by omega) (by simp) h.dn (.inl h.ar)
    obtain⟨D',e,c,r⟩:=tu n (at'+1) (Av D at' []) (h.put (by omega) (by simp)) (by omega) (by omega);refine⟨D',by rw[jy,if_neg hz,hw,if_pos rfl,e],c,λj=>?_⟩;rw[r j,GW,IM]
    by_cases q:j=at'
    · subst q;rw[if_neg (by omega),if_pos rfl,if_pos (by omega)]
    · rw[if_neg q]
      by_cases q2:at'+1≤j∧j<at'+1+n
      · rw[if_pos q2,if_pos (by omega)]
      · rw[if_neg q2,if_neg (by omega)]
theorem GG{D:DS}(h:Calm D):0≤(fT D.read ji 0 0).2∧(fT D.read ji 0 0).2≤2048∧((fT D.read ji 0 0).1.length:Int)≤(fT D.read ji 0 0).2:=by
 have key: ∀f rs used,Scan D f rs used→∃rs' used',fT D.read ji 0 0=(rs',used')∧0≤used'∧used'≤2048∧(rs'.length:Int)≤used':=by
  intro f
  induction f with
  |zero=>
   intro rs used hs;cases hst:fN D.read ((rs.length:Int)+1) used with
   |none=>exact⟨rs,used,hs.stop hst,hs.2.1,hs.2.2.1,hs.2.2.2.2⟩
   |some p=>obtain⟨b,all⟩:=p;obtain⟨f',e,_⟩:=Scan.next h.inn h.ok hs hst;omega
  |succ f ih=>
   intro rs used hs;cases hst:fN D.read ((rs.length:Int)+1) used with
   |none=>exact⟨rs,used,hs.stop hst,hs.2.1,hs.2.2.1,hs.2.2.2.2⟩
   |some p=>
    obtain⟨b,all⟩:=p;obtain⟨f',e,hs'⟩:=Scan.next h.inn h.ok hs hst;obtain rfl:f=f':=by omega
    exact ih _ _ hs'
 obtain⟨rs,used,e,h1,h2,h3⟩:=key _ _ _ (Scan.start D);rw[e];exact⟨h1,h2,h3⟩
theorem G9{D:DS}(h:Calm D): ∃D',bQ D=⟨0,(fT D.read ji 0 0).1,(fT D.read ji 0 0).2,D'⟩∧Calm D'∧D'.ws=[]∧∀j,D'.read j=if(fT D.read ji 0 0).2≤j∧j<2048 then zs else D.read j:=by
 obtain⟨h1,h2,_⟩:=GG h;generalize hr:fT D.read ji 0 0=r at*;obtain⟨rs,used⟩:=r;simp only at h1 h2 ⊢;obtain⟨D',e,c,rd⟩:=tu (2048-used).toNat used D h h1 (by omega);obtain⟨s1,s2,_⟩:=tH c.dn;refine⟨D'.sync.2,FJ hr e s1,c.sync,s2,λj=>?_⟩;rw[Gu c.dn,rd j]
 by_cases q:used≤j∧j<2048
 · rw[if_pos q,if_pos (by omega)]
 · rw[if_neg q,if_neg (by omega)]
def kr:Nat→List (List UInt8)→List jL
 |_,[]=>[]
 |n,b::ls=>ct ((n+1:Nat):Int) b++kr (n+1) ls
def uB(ls:List (List UInt8)):Nat:=(kr 0 ls).length
theorem AO: ∀(a:List (List UInt8)) (n:Nat) (b:List (List UInt8)),kr n (a++b)=kr n a++kr (n+a.length) b
 | [],n,b=>by simp[kr]
 |x::a,n,b=>by
  simp only[iq,kr,AO a (n+1) b,aS,an];rw[show n+1+a.length=n+(a.length+1)by omega]
theorem zp: ∀(ls:List (List UInt8)) (n m:Nat),(kr n ls).length=(kr m ls).length
 | [],_,_=>rfl
 |b::ls,n,m=>by simp only[kr,af,eC,zp ls (n+1) (m+1)]
theorem BO: ∀ls:List (List UInt8),ls.length≤uB ls
 | []=>aK _
 |b::ls=>by
  have h1:=BO ls;have h2:=p7 b.length;have h3:=zp ls 1 0;simp only[uB,kr,af,eC,an,h3]at*;omega
theorem Am{number:Int}{b:List UInt8}{k:Nat}(h:k< (ct number b).length):(ct number b)[k]=pZ number k (bB b.length) (gq b k):=by simp[ct]
theorem Al(number:Int)(b:List UInt8): ∀s∈ct number b,s.length=64:=λs hs=>by
 obtain⟨i,_,rfl⟩:=eS.1 hs;exact GF (tP b i)
theorem wX{number:Int}{b:List UInt8}{k:Nat}(h:k< (ct number b).length)(h0:0≤number)(h1:number<4294967296)(hb:b.length≤3000):fh (ct number b)[k] number k=some (gq b k,((bB b.length:Nat):Int)):=by
 rw[Am h];rw[eC]at h;exact Cd (tP b k) h0 h1 h (by have:=wW hb;omega)
theorem zi{rd:Int→jL}{number at':Int}{b:List UInt8}(h0:0≤number)(h1:number<4294967296)(hb:b.length≤3000): ∀k,k≤bB b.length→(∀j (h:j< (ct number b).length),j<k→rd (at'+j)=(ct number b)[j])→
 kT rd number at' ((bB b.length:Nat):Int) k=some ((List.range k).map (gq b)).flatten
 |0,_,_=>rfl
 |k+1,hk,h=>by
  have ih:=zi h0 h1 hb k (by omega) (λj hj hj2=>h j hj (by omega));have hl:k< (ct number b).length:=by rw[eC];omega
  rw[xa ih (by rw[h k hl (by omega)];exact wX hl h0 h1 hb)];simp[cV]
theorem BM{rd:Int→jL}{number at':Int}{b:List UInt8}(h0:0≤number)(h1:number<4294967296)(hb:b.length≤3000)(h: ∀j (h:j< (ct number b).length),rd (at'+j)=(ct number b)[j]):fN rd number at'=some (b,((bB b.length:Nat):Int)):=by
 have hl:0< (ct number b).length:=by rw[eC];exact p7 _
 have hp:fh (rd at') number 0=some (gq b 0,((bB b.length:Nat):Int)):=by
  have e:=h 0 hl;rw[show at'+((0:Nat):Int)=at' by omega]at e;rw[e];exact wX hl h0 h1 hb
 refine sF hp ?_;rw[JU,zi h0 h1 hb _ (aK _) (λj hj _=>h j hj),G2 b _ (yl _)]
def Shows(rd:Int→jL)(at':Int)(l:List jL):Prop:=∀j (h:j<l.length),rd (at'+j)=l[j]
theorem Shows.left{rd:Int→jL}{at':Int}{a b:List jL}(h:Shows rd at' (a++b)):Shows rd at' a:=λj hj=>by
 rw[h j (by rw[af];omega),List.getElem_append_left hj]
theorem Shows.right{rd:Int→jL}{at':Int}{a b:List jL}(h:Shows rd at' (a++b)):Shows rd (at'+a.length) b:=λj hj=>by
 have:=h (a.length+j) (by rw[af];omega);rw[show at'+((a.length+j:Nat):Int)=at'+a.length+j by omega]at this;rw[this,List.getElem_append_right (by omega)];congr 1;omega
theorem B1{rd:Int→jL}: ∀(ls:List (List UInt8)) (n:Nat) (at':Int) (f:Nat),(∀b∈ls,b.length≤3000)→n+ls.length<4294967296→Shows rd at' (kr n ls)→
 fT rd (ls.length+f) n at'=(ls++(fT rd f ((n+ls.length:Nat):Int) (at'+(kr n ls).length)).1,(fT rd f ((n+ls.length:Nat):Int) (at'+(kr n ls).length)).2)
 | [],n,at',f,_,_,_=>by simp[kr]
 |b::ls,n,at',f,hl,hn,h=>by
  simp only[kr]at h ⊢;simp only[an]at hn ⊢;have hs:=BM (rd:=rd) (number:=((n+1:Nat):Int)) (at':=at') (by omega) (by omega) (hl b (by simp)) h.left;have ih:=B1 (rd:=rd) ls (n+1) (at'+(ct ((n+1:Nat):Int) b).length) f (λx hx=>hl x (by simp[hx])) (by omega) h.right;rw[eC]at ih;rw[show ls.length+1+f=(ls.length+f)+1 by omega,FB (b:=b) (all:=((bB b.length:Nat):Int)) (by rw[←hs];congr 1)];rw[show((n:Nat):Int)+1=((n+1:Nat):Int)by omega,ih];rw[af,eC,show n+1+ls.length=n+(ls.length+1)by omega,show at'+((bB b.length+(kr (n+1) ls).length:Nat):Int)=at'+((bB b.length:Nat):Int)+(((kr (n+1) ls).length:Nat):Int)by omega];simp
structure LogD(D:DS)(ls:List (List UInt8)):Prop where
 ok:D.Ok
 inn:Wal.DS.In D
 ws:D.ws=[]
 short: ∀b∈ls,b.length≤3000
 room:uB ls≤2048
 shows:Shows D.read 0 (kr 0 ls)
 zero: ∀j,((uB ls:Nat):Int)≤j→D.read j=zs
theorem LogD.len{D:DS}{ls:List (List UInt8)}(h:LogD D ls):ls.length≤2048:=by have:=BO ls;have:=h.room;omega
theorem Gw{rd:Int→jL}{number at':Int}(h:(rd at').getD 63 0≠1):fN rd number at'=none:=qX (rH h)
theorem Mm:zs.getD 63 0≠1:=by decide
theorem LogD.scan{D:DS}{ls:List (List UInt8)}(h:LogD D ls):fT D.read ji 0 0=(ls,((uB ls:Nat):Int)):=by
 have hl:=h.len;obtain⟨f,hf⟩: ∃f,ji=ls.length+f:=⟨ji-ls.length,by rw[sZ];omega⟩;have:=B1 (rd:=D.read) ls 0 0 f h.short (by omega) h.shows;rw[←hf]at this;rw[show((0:Nat):Int)=0 from rfl]at this;have hz:=h.zero _ (Int.le_refl _);simp only[uB]at hz;rw[this,Int.zero_add,y2 (Gw (by rw[hz];exact Mm))];simp[uB]
theorem LogD.new:LogD DS.new []:=⟨DS.new_ok,⟨Qm,Qm⟩,rfl,λ_ h=>absurd h (by simp),by decide,λj h=>absurd h (by simp[kr]),λj _=>rfl⟩
theorem LogD.open{D:DS}{ls:List (List UInt8)}(h:LogD D ls)(ha:D.ar=false)(hd:D.dn=false): ∃D',bQ D=⟨0,ls,((uB ls:Nat):Int),D'⟩∧LogD D' ls∧D'.ar=false∧D'.dn=false:=by
 obtain⟨D',e,c,hw,hr⟩:=G9 (D:=D) ⟨h.ok,h.inn,ha,hd⟩;rw[h.scan]at e hr
 have hrd: ∀j,D'.read j=D.read j:=λj=>by
  rw[hr j];split
  · rename_i q;rw[h.zero j q.1]
  · rfl
 exact⟨D',e,⟨c.ok,c.inn,hw,h.short,h.room,λj hj=>by rw[hrd];exact h.shows j hj,λj hj=>by rw[hrd];exact h.zero j hj⟩,c.ar,c.dn⟩
def Pb:Int→List jL→fC
 |_,[]=>[]
 |at',s::ss=>(at',s)::Pb (at'+1) ss
end Wal
end

section
namespace Go.Proofs.YtfocodjhmkokpaaGreatDoor
open Go Leg Codec Api
theorem DH(wb b off cap:Nat)(v:Value)(bs:List UInt8)(l:List Int)(cs:List Value)(T:TypeId)(z:Nat×Nat)(hlen:bs.length+10*l.length≤140737488355328)(hb: ∀j,j<l.length→cs[off+j]?=some (.int .i64 (l.getD j 0))):
 DT 174 #[(.pointer (some ⟨wb,0,none⟩)),(.slice (some ⟨b,off,none⟩) (l.length) (cap))] (λF=>F b=some (.cells cs.toArray T z)) [ah wb [v] 247,ce v (bs) 5] (qv 247 5 wb (bs++bi l)):=by
 refine BD 45 Tryz.func174 rfl rfl rfl λw0 F hF=>sr λ_ J1=>PS ?_
 refine nx J1 (ab λ_ J2=>sr λ_ J3=>PS ?_);refine tp (qw rfl iL rfl) ?_;refine PS ?_;refine nx J3 (au ?_)
 refine bu (α:=(Nat)×(Value)×(List UInt8)) (λ⟨k,u,laid⟩=>k≤l.length∧laid++bi (l.drop k)=bs++bi l) (λ⟨k,u,laid⟩=>[(0,(.pointer (some ⟨wb,0,none⟩))),(4,(.pointer none)),(8,(.slice (some ⟨b,off,none⟩) (l.length) (cap))),(9,(.int .i64 (((l.length:Nat):Int)))),(10,(.int .i64 ((k:Nat))))]) (λ⟨k,u,laid⟩=>[ah wb [u] 247,ce u (laid) 5]) (λ⟨k,u,laid⟩=>l.length-k) (0,v,bs)
  ⟨by omega,rfl⟩ SB
  (λ_ s=>s) (λ⟨k,u,laid⟩ hinv=>?_)
 obtain⟨hk,hL⟩:=hinv;refine sr λ_ J4=>PS ?_
 refine ao ?_ ?_<;>intro h11;refine nx J4 (ab λ_ J5=>CY (qx J5 (ab λ_ J6=>au (sr λ_ J7=>tp (jx (r:=off+k) rfl iL aR rfl rfl (by first|omega|decide) (by first|omega|decide) (by omega)) ?_))));refine tp (eZ (v:=(.int .i64 ((l.getD k 0)))) rfl Y3 rfl rfl (Rd.ro hF) (hb k (by omega))) ?_;refine PS ?_;refine nx J7 (sr λ_ J8=>PS ?_);refine tp (cE (r:=((((l.getD k 0%18446744073709551616).toNat:Nat)):Int)) rfl Y3 Lk rfl (zM _)) ?_;refine PS ?_;refine nx J8 (ab λ_ J9=>au ?_)
 refine bu (α:=(Nat)×(Value)×(List UInt8)) (λ⟨m,u2,laid2⟩=>laid2++(xB m++bi (l.drop (k+1)))=bs++bi l) (λ⟨m,u2,laid2⟩=>[(0,(.pointer (some ⟨wb,0,none⟩))),(4,(.pointer none)),(7,(.int .u64 ((m:Nat)))),(8,(.slice (some ⟨b,off,none⟩) (l.length) (cap))),(9,(.int .i64 (((l.length:Nat):Int)))),(10,(.int .i64 ((k:Nat))))]) (λ⟨m,u2,laid2⟩=>[ah wb [u2] 247,ce u2 (laid2) 5]) (λ⟨m,u2,laid2⟩=>m) ((l.getD k 0%18446744073709551616).toNat,u,laid)
  (by rw[←hL,HE (l:=l) (k:=k) (by omega)];rfl) SB
  (λ_ s=>s) (λ⟨m,u2,laid2⟩ hinv=>?_)
 have hM:=hinv;refine ab λ_ J10=>sr λ_ J11=>P2 ?_
 refine ao ?_ ?_<;>intro h17;refine nx J11 (CY (qx J10 (au (sr λ_ J12=>P3 ?_))));refine FA 0 JQ kH ?_;refine LA 0 fB ?_;refine PS ?_;refine tp (cE (r:=(IntKind.u8.wrap ((m:Nat):Int))) rfl Lk Y5 rfl rfl) ?_;refine tp (JS (r:=(((UInt8.ofNat (m%128+128)).toNat:Nat):Int)) rfl rfl rfl (Nx m)) ?_;refine aQ (cells:=#[(.int .u8 ((((UInt8.ofNat (m%128+128)).toNat:Nat):Int)))]) (aa rfl) rfl rfl rfl fB x9 rfl rfl rfl (by as_aux_lemma=>kernel_rfl) (λb26=>ci (k:=2) (news:=dG ([(UInt8.ofNat (m%128+128))])) (nn':=(laid2++[(UInt8.ofNat (m%128+128))]:List UInt8).length) (xs':=dG (laid2++[(UInt8.ofNat (m%128+128))])) (aa rfl) rfl rfl rfl fB x9 rfl rfl rfl rfl rfl rfl (λ_ _=>gS rfl (RO 0) rfl) (eU [(UInt8.ofNat (m%128+128))]) (by have:=congrArg List.length hM;have:=aW l;have:=qj m;simp only[af,maxLen]at*;omega) (by have:=congrArg List.length hM;have:=aW l;have:=qj m;simp only[af]at*;omega) (by simp) (ic _ _).symm (λv27 ov27=>PS ?_));refine FA 0 JQ kH ?_;refine bw (i:=1) (aa rfl) rfl rfl rfl rfl ov27 kH rfl rfl (lb rfl) rfl rfl (nx J12 (ad (PS ?_)));refine tp (jX (r:=((m / 128:Nat):Int)) rfl rfl rfl (by omega) (Pf m)) ?_;refine PS ?_;refine aq (ag ?_)
 exact aJ ((m / 128,v27,laid2++[(UInt8.ofNat (m%128+128))]):(Nat)×(Value)×(List UInt8)) (by rw[←hM,vK (by omega)];simp) (by show m / 128<m;omega)
  SB
  (λ_ s=>ak [1,1] rfl s)
 refine nx J11 (CN (aY (aC (aC (bo (ac J9 (ad (P3 ?_))))))));refine FA 0 JQ kH ?_;refine LA 0 fB ?_;refine PS ?_;refine tp (cE (r:=(((UInt8.ofNat m).toNat:Nat):Int)) rfl Lk Y5 rfl (Ld (by omega))) ?_;refine aQ (cells:=#[(.int .u8 ((((UInt8.ofNat m).toNat:Nat):Int)))]) (aa rfl) rfl rfl rfl fB x9 rfl rfl rfl (by as_aux_lemma=>kernel_rfl) (λb39=>ci (k:=2) (news:=dG ([(UInt8.ofNat m)])) (nn':=(laid2++[(UInt8.ofNat m)]:List UInt8).length) (xs':=dG (laid2++[(UInt8.ofNat m)])) (aa rfl) rfl rfl rfl fB x9 rfl rfl rfl rfl rfl rfl (λ_ _=>gS rfl (RO 0) rfl) (eU [(UInt8.ofNat m)]) (by have:=congrArg List.length hM;have:=aW l;have:=qj m;simp only[af,maxLen]at*;omega) (by have:=congrArg List.length hM;have:=aW l;have:=qj m;simp only[af]at*;omega) (by simp) (ic _ _).symm (λv40 ov40=>PS ?_));refine FA 0 JQ kH ?_;refine bw (i:=1) (aa rfl) rfl rfl rfl rfl ov40 kH rfl rfl (lb rfl) rfl rfl (aq (ag (ac J6 (ad (AD ?_)))));refine PS ?_;refine aq ?_
 exact aJ ((k+1,v40,laid2++[(UInt8.ofNat m)]):(Nat)×(Value)×(List UInt8)) ⟨by omega,by rw[←hM,s8 (by omega)];simp⟩ (by show _-_<_-_;omega)
  SB
  (λ_ s=>ak [1,1] rfl s)
 refine nx J4 (ab λ_ J13=>CN (aY (aC (aC (bo (ac J2 (sr λ_ J14=>P2 ?_)))))));refine nx J14 (ai (WK [0,0] (av rfl rfl ?_)));obtain rfl:laid=bs++bi l:=by rw[←hL,e7 (by omega)];simp[bi]
 exact⟨u,rfl,rfl⟩
theorem H7(wb:Nat)(v:Value)(bs:List UInt8):
 DT 174 #[(.pointer (some ⟨wb,0,none⟩)),(.slice none 0 0)] T0 [ah wb [v] 247,ce v (bs) 5] (qv 247 5 wb (bs++bi [])):=by
 refine BD 45 Tryz.func174 rfl rfl rfl λw0 F hF=>sr λ_ J1=>PS ?_
 refine nx J1 (ab λ_ J2=>sr λ_ J3=>PS ?_);refine tp (qw rfl iL rfl) ?_;refine PS ?_;refine nx J3 (au ?_)
 refine bu (α:=Unit) (λ_u=>True) (λ_u=>[(0,(.pointer (some ⟨wb,0,none⟩))),(4,(.pointer none)),(8,(.slice none 0 0)),(9,(.int .i64 0)),(10,(.int .i64 0))]) (λ_u=>[ah wb [v] 247,ce v (bs) 5]) (λ_u=>0) ()
  trivial SB
  (λ_ s=>s) (λ_u hinv=>?_)
 obtain _:=hinv;refine sr λ_ J4=>PS ?_
 refine nx J4 (ab λ_ J5=>CN (aY (aC (aC (bo (ac J2 (sr λ_ J6=>P2 ?_)))))));refine nx J6 (ai (av rfl rfl ?_));exact⟨v,rfl,by rw[Ju,aP]⟩
theorem dO(wb:Nat)(v:Value)(bs:List UInt8)(x:Value)(l:List Int)(hlen:bs.length+10*l.length≤140737488355328):DT 174 #[(.pointer (some ⟨wb,0,none⟩)),x] (P0 x l) [ah wb [v] 247,ce v bs 5] (qv 247 5 wb (bs++bi l)):=by
 refine Leg.Does.of λF hF=>?_
 rcases id hF with⟨rfl,rfl⟩| ⟨b,off,cap,cs,T,z,rfl,h3,h4⟩
 · exact⟨_,trivial,H7 wb v bs⟩
 · exact⟨_,h3,DH wb b off cap v bs l cs T z hlen h4⟩
theorem ef(wb:Nat)(v:Value)(bs:List UInt8)(hlen:bs.length≤140737488355328):
 DT 179 #[(.pointer (some ⟨wb,0,none⟩))] T0 [ah wb [v] 247,ce v (bs) 5] (dh (λx H=>∃u,x=u∧H=[ah wb [v] 247,ce v bs 5,ce u bs 5])):=by
 refine Leg.Does.body (vs:=[(.pointer (some ⟨wb,0,none⟩))]) (n:=9) Tryz.func179 rfl rfl rfl (λw0 F hF=>?_);refine sr λ_ J1=>?_
 refine pG ?_;refine nx J1 ?_;refine sr λ_ J2=>?_
 refine Ds (aa rfl) rfl rfl rfl fB jF (λv3=>?_);change TL _ _ _ _ _ _ _ _ _ [ce v3 ([]) 5,ah wb [v] 247,ce v (bs) 5];refine mv ?_;refine tp (fZ rfl rfl) ?_;refine tp (aZ (r:=0) rfl JQ rfl kH rfl rfl) ?_;refine tp (eZ (v:=v) rfl fB rfl rfl (dR 1 rfl rfl) rfl) ?_;refine ci (k:=0) (news:=dG (bs)) (nn':=(bs:List UInt8).length) (xs':=dG (bs)) (aa rfl) rfl rfl rfl fB x9 rfl rfl rfl rfl rfl rfl (λ_ s=>JR 2 rfl rfl s) (eU _) (by simp only[maxLen,an,aw];omega) (by simp only[an,aw];omega) (by simp) (bI _) (λv8 ov8=>?_);change TL _ _ _ _ _ _ _ _ _ [ce v8 (bs) 5,ah wb [v] 247,ce v (bs) 5];refine pG ?_;refine nx J2 ?_;refine ai ?_;refine aF (dd _) (λ_ s=>ak [1,1,0] rfl s) ?_;refine av rfl rfl ?_;exact⟨v8,rfl,rfl⟩
theorem Bg(wb:Nat)(v:Value)(bs:List UInt8)(a0 a1 g0 g1 g2 g3 g4:Int)(hlen:bs.length+70≤140737488355328):
 DT 178 #[(.pointer (some ⟨wb,0,none⟩)),(.agg #[(.int .i64 (a0)),(.int .i64 (a1)),(.int .i64 (g0)),(.int .i64 (g1)),(.int .i64 (g2)),(.int .i64 (g3)),(.int .i64 (g4))])] T0 [ah wb [v] 247,ce v (bs) 5] (qv 247 5 wb (bs++bi [a0,a1,g0,g1,g2,g3,g4])):=by
 refine BD 15 Tryz.func178 rfl rfl rfl λw0 F hF=>sr λ_ J1=>XB λb3=>?_
 refine PS ?_;refine nx J1 (ab λ_ J2=>D1 0 mixed ?_);refine PD 0 ?_;refine FD 1 0 eE aR ?_;refine LX 2 Y3 (.int .i64 (a0)) ?_ (hc:=by exact rfl);refine FD 3 1 eE aR ?_;refine LX 4 Y3 (.int .i64 (a1)) ?_ (hc:=by exact rfl);refine FD 7 2 eE eV ?_;refine ta 8 rfl (lT rfl jK aR rfl) ?_;refine AL 5 ?_;refine aQ (cells:=#[(.int .i64 (a0)),(.int .i64 (a1))]) (aa rfl) rfl rfl rfl iL oA rfl rfl rfl (by as_aux_lemma=>kernel_rfl) (λb10=>EN (AL 6 ?_));refine CQ jR (dO wb v (bs) (.slice (some ⟨b10,0,none⟩) (2) (2)) [a0,a1] (by simp only[af,an,aw,aA];first|omega| (have:=aW [a0,a1];simp only[an,aw]at this;omega))) (SM [2,2]) (dF 0 rfl rfl rfl rfl) λvR HR hR=>?_
 obtain⟨u1,rfl,rfl⟩:=hR;refine EN (AL 9 ?_);refine CQ jR (dO wb u1 (bs++bi [a0,a1]) (.slice (some ⟨b3,2,none⟩) (5) (5)) [g0,g1,g2,g3,g4] (by simp only[af,an,aw,aA];first|omega| (have:=aW [a0,a1];simp only[an,aw]at this;omega))) ID (dF 1 rfl rfl rfl rfl) λvR HR hR=>?_
 obtain⟨u2,rfl,rfl⟩:=hR;refine EN (PD 10 ?_);refine DN (ac J2 (ai (WK [0,0] (av rfl rfl ?_))));exact⟨_,rfl,by rw[aS,←qi];rfl⟩
theorem ya(wb:Nat)(v:Value)(bs:List UInt8)(a0 a1 a2:Int)(hlen:bs.length+30≤140737488355328):
 DT 177 #[(.pointer (some ⟨wb,0,none⟩)),(.agg #[(.int .i64 (a0)),(.int .i64 (a1)),(.int .i64 (a2))])] T0 [ah wb [v] 247,ce v (bs) 5] (qv 247 5 wb (bs++bi [a0,a1,a2])):=by
 refine BD 14 Tryz.func177 rfl rfl rfl λw0 F hF=>sr λ_ J1=>XB λb3=>?_
 refine PS ?_;refine nx J1 (sr λ_ J2=>PS ?_);refine FA 0 na aR ?_;refine LA 0 Y3 ?_;refine FA 1 na aR ?_;refine LA 0 Y3 ?_;refine FA 2 na aR ?_;refine LA 0 Y3 ?_;refine aQ (cells:=#[(.int .i64 (a0)),(.int .i64 (a1)),(.int .i64 (a2))]) (aa rfl) rfl rfl rfl iL oA rfl rfl rfl (by as_aux_lemma=>kernel_rfl) (λb12=>CQ jR (dO wb v (bs) (.slice (some ⟨b12,0,none⟩) (3) (3)) [a0,a1,a2] (by simp only[af,an,aw,aA];first|omega| (have:=aW [a0,a1];simp only[an,aw]at this;omega))) (SM [2,2]) (dF 0 rfl rfl rfl rfl) λvR HR hR=>?_);obtain⟨u1,rfl,rfl⟩:=hR;refine PS ?_;exact nx J2 (ai (WK [0,0] (av rfl rfl ⟨_,rfl,rfl⟩)))
theorem yb(wb:Nat)(v:Value)(bs:List UInt8)(a0 a1:Int)(hlen:bs.length+20≤140737488355328):
 DT 176 #[(.pointer (some ⟨wb,0,none⟩)),(.agg #[(.int .i64 (a0)),(.int .i64 (a1))])] T0 [ah wb [v] 247,ce v (bs) 5] (qv 247 5 wb (bs++bi [a0,a1])):=by
 refine BD 12 Tryz.func176 rfl rfl rfl λw0 F hF=>sr λ_ J1=>XB λb3=>?_
 refine PS ?_;refine nx J1 (sr λ_ J2=>PS ?_);refine FA 0 ka aR ?_;refine LA 0 Y3 ?_;refine FA 1 ka aR ?_;refine LA 0 Y3 ?_;refine aQ (cells:=#[(.int .i64 (a0)),(.int .i64 (a1))]) (aa rfl) rfl rfl rfl iL oA rfl rfl rfl (by as_aux_lemma=>kernel_rfl) (λb10=>CQ jR (dO wb v (bs) (.slice (some ⟨b10,0,none⟩) (2) (2)) [a0,a1] (by simp only[af,an,aw,aA];first|omega| (have:=aW [a0,a1];simp only[an,aw]at this;omega))) (SM [2,2]) (dF 0 rfl rfl rfl rfl) λvR HR hR=>?_);obtain⟨u1,rfl,rfl⟩:=hR;refine PS ?_;exact nx J2 (ai (WK [0,0] (av rfl rfl ⟨_,rfl,rfl⟩)))
theorem Bp(wb:Nat)(v:Value)(bs:List UInt8)(a0 a1 g0 g1 g2 g3 g4:Int)(hlen:bs.length+70≤140737488355328):
 DT 191 #[(.pointer (some ⟨wb,0,none⟩)),(.agg #[(.int .i64 (a0)),(.int .i64 (a1)),(.int .i64 (g0)),(.int .i64 (g1)),(.int .i64 (g2)),(.int .i64 (g3)),(.int .i64 (g4))])] T0 [ah wb [v] 247,ce v (bs) 5] (dh (λx H=>∃v',x= .tuple #[]∧H=[ah wb [v'] 247,ce v' (bs++bi [a0,a1,g0,g1,g2,g3,g4]) 5])):=by
 refine BD 14 Tryz.func191 rfl rfl rfl λw0 F hF=>sr λ_ J1=>XB λb3=>?_
 refine nx J1 (D1 0 mixed ?_);refine PD 0 ?_;refine FD 1 0 mH aR ?_;refine LX 2 Y3 (.int .i64 (a0)) ?_ (hc:=by exact rfl);refine FD 3 1 mH aR ?_;refine LX 4 Y3 (.int .i64 (a1)) ?_ (hc:=by exact rfl);refine FD 7 2 mH eV ?_;refine ta 8 rfl (lT rfl jK aR rfl) ?_;refine AL 5 ?_;refine aQ (cells:=#[(.int .i64 (a0)),(.int .i64 (a1))]) (aa rfl) rfl rfl rfl iL oA rfl rfl rfl (by as_aux_lemma=>kernel_rfl) (λb9=>EN (AL 6 ?_));refine CQ jR (dO wb v (bs) (.slice (some ⟨b9,0,none⟩) (2) (2)) [a0,a1] (by simp only[af,an,aw,aA];first|omega| (have:=aW [a0,a1];simp only[an,aw]at this;omega))) (SM [2,2]) (dF 0 rfl rfl rfl rfl) λvR HR hR=>?_
 obtain⟨u1,rfl,rfl⟩:=hR;refine EN (AL 9 ?_);refine CQ jR (dO wb u1 (bs++bi [a0,a1]) (.slice (some ⟨b3,2,none⟩) (5) (5)) [g0,g1,g2,g3,g4] (by simp only[af,an,aw,aA];first|omega| (have:=aW [a0,a1];simp only[an,aw]at this;omega))) ID (dF 1 rfl rfl rfl rfl) λvR HR hR=>?_
 obtain⟨u2,rfl,rfl⟩:=hR;refine EN (DN (WK [0,0] (bp rfl ?_)));exact⟨_,rfl,by rw[aS,←qi];rfl⟩
theorem vV(wb:Nat)(v:Value)(bs:List UInt8)(c:CellT)(hlen:bs.length+70≤140737488355328):DT 191 #[(.pointer (some ⟨wb,0,none⟩)),c.val] T0 [ah wb [v] 247,ce v bs 5] (dh (λx H=>∃v',x= .tuple #[]∧H=[ah wb [v'] 247,ce v' (bs++bi c.flat) 5])):=by
 obtain⟨i,o,g⟩:=c;exact Np (p:=λg=>Leg.Does Tryz.prog 191 #[(.pointer (some ⟨wb,0,none⟩)),CellT.val ⟨i,o,g⟩] (λ_=>True) [ah wb [v] 247,ce v bs 5] (dh (λx H=>∃v',x= .tuple #[]∧H=[ah wb [v'] 247,ce v' (bs++bi (CellT.flat ⟨i,o,g⟩)) 5]))) (λa b c d e=>Bp wb v bs i o a b c d e hlen) g
theorem rh(wb:Nat)(v:Value)(bs:List UInt8)(x:ViewT)(hlen:bs.length+70≤140737488355328):DT 178 #[(.pointer (some ⟨wb,0,none⟩)),x.val] T0 [ah wb [v] 247,ce v bs 5] (qv 247 5 wb (bs++bi x.flat)):=by
 obtain⟨i,o,g⟩:=x;exact Np (p:=λg=>Leg.Does Tryz.prog 178 #[(.pointer (some ⟨wb,0,none⟩)),ViewT.val ⟨i,o,g⟩] (λ_=>True) [ah wb [v] 247,ce v bs 5] (qv 247 5 wb (bs++bi (ViewT.flat ⟨i,o,g⟩)))) (λa b c d e=>Bg wb v bs i o a b c d e hlen) g
theorem oB(wb:Nat)(v:Value)(bs:List UInt8)(x:ChangeT)(hlen:bs.length+30≤140737488355328):DT 177 #[(.pointer (some ⟨wb,0,none⟩)),x.val] T0 [ah wb [v] 247,ce v bs 5] (qv 247 5 wb (bs++bi x.flat)):=ya wb v bs x.kind x.who x.heir (by omega)
theorem jp(wb:Nat)(v:Value)(bs:List UInt8)(x:BallotT)(hlen:bs.length+30≤140737488355328):DT 176 #[(.pointer (some ⟨wb,0,none⟩)),x.val] T0 [ah wb [v] 247,ce v bs 5] (qv 247 5 wb (bs++bi x.flat)):=yb wb v bs x.round x.who (by omega)
theorem tt(wb:Nat)(v:Value)(bs:List UInt8)(x:RowT)(hlen:bs.length+2000≤140737488355328):
 DT 175 #[(.pointer (some ⟨wb,0,none⟩)),(.agg (ints x.flat).toArray)] T0 [ah wb [v] 247,ce v (bs) 5] (qv 247 5 wb (bs++il x)):=by
 refine BD 50 Tryz.func175 rfl rfl rfl λw0 F hF=>sr λ_ J1=>XY (ints x.flat) λb3=>?_
 refine PS ?_;refine nx J1 (sr λ_ J2=>PS ?_);refine FA 0 dU aR ?_;refine LT 0 Y3 (.int .i64 (x.version)) ?_ (hc:=by exact RowT.get_version _);refine aQ (cells:=#[(.int .i64 (x.version))]) (aa rfl) rfl rfl rfl iL oA rfl rfl rfl (by as_aux_lemma=>kernel_rfl) (λb14=>CQ jR (dO wb v (bs) (.slice (some ⟨b14,0,none⟩) (1) (1)) [x.version] (by have:=congrArg List.length (Eq.refl bs);have:=ik x;simp only[af,an,aw]at*;omega)) (SM [2,2]) (dF 0 rfl rfl rfl rfl) λvR HR hR=>?_);obtain⟨u1,rfl,rfl⟩:=hR;refine nx J2 (ab λ_ J3=>sr λ_ J4=>FA 1 dU ly ?_);refine tp (aM (vs:=ints (bR x.cells.toList)) rfl Be rfl ly rfl (RO 3) (by rw[ints_length,cT];simp) (RowT.get_cells _)) ?_;refine PS ?_;refine nx J4 (au ?_)
 refine bu (α:=(Nat)×(Value)×(List UInt8)) (λ⟨k,u,laid⟩=>k≤4∧laid++(bi (bR (x.cells.toList.drop k))++gj x 5 0)=bs++il x) (λ⟨k,u,laid⟩=>[(0,(.pointer (some ⟨wb,0,none⟩))),(3,(.pointer (some ⟨b3,0,none⟩))),(4,(.pointer none)),(17,(.agg (ints (bR x.cells.toList)).toArray)),(18,(.int .i64 ((k:Nat))))]) (λ⟨k,u,laid⟩=>[ah b3 (ints x.flat) 39,ah wb [u] 247,ce u (laid) 5]) (λ⟨k,u,laid⟩=>4-k) (0,u1,bs++bi [x.version])
  ⟨by omega,by simp[il,bi]⟩ SB
  (λ_ s=>ak [3,0,0] rfl s) (λ⟨k,u,laid⟩ hinv=>?_)
 obtain⟨hk,hL⟩:=hinv;have hE:=hL;rw[show bi (bR (x.cells.toList.drop k))=bi (bR (x.cells.toList.drop k))from rfl]at hE;refine sr λ_ J5=>PS ?_
 refine ao ?_ ?_<;>intro h19;refine nx J5 (ab λ_ J6=>CY (qx J6 (ab λ_ J7=>au (sr λ_ J8=>tp (PV.indexN (cs:=ints (bR (x.cells.toList))) (r:=k*7) rfl Be mH rfl fx rfl rfl (by omega) (by omega) (by omega) (zo (by simp;omega))) ?_))));refine XA JW λb6=>?_
 refine bP (vs:=ints ((x.cells.toList)[k]'(by simp;omega)).flat) (cs':=ints ((x.cells.toList)[k]'(by simp;omega)).flat) (i:=0) (aa rfl) rfl rfl rfl rfl rfl (by rw[bm];exact fx) (bj _) rfl rfl (by rw[bm];exact aK _) (gd (by rw[bm];rfl)) rfl (nx J8 (ad (PS ?_)));refine tp (aM (vs:=ints ((x.cells.toList)[k]'(by simp;omega)).flat) rfl mH rfl fx rfl (RO 0) (bm _) (by rw[aV,az (by rw[bm];decide)])) ?_;refine CR LF (vV wb u (laid) ((x.cells.toList)[k]'(by simp;omega)) (by have:=congrArg List.length hE;have:=ik x;have:=aW ((x.cells.toList)[k]'(by simp;omega)).flat;rw[bv]at this;simp only[af]at*;omega)) (SM [2,2]) λvR HR hR=>?_
 obtain⟨u2,rfl,rfl⟩:=hR;refine aq (ag (ac J7 (ad (AD ?_))));refine PS ?_;refine aq ?_
 exact aJ ((k+1,u2,laid++bi ((x.cells.toList)[k]'(by simp;omega)).flat):(Nat)×(Value)×(List UInt8)) ⟨by omega,by rw[←hL,oX (l:=x.cells.toList) (k:=k) (by simp;omega)];simp⟩ (by show _-_<_-_;omega)
  SB
  (λ_ s=>ak [3,0,0] rfl s)
 refine nx J5 (ab λ_ J9=>CN (aY (aC (aC (bo (ac J3 (ab λ_ J10=>sr λ_ J11=>FA 29 dU eV ?_)))))));refine tp (aM (vs:=ints x.heir.toList) rfl jK rfl eV rfl (RO 0) (by rw[ints_length];simp) (RowT.get_heirs _)) ?_;refine PS ?_;refine nx J11 (au ?_)
 refine bu (α:=(Nat)×(Value)×(List UInt8)) (λ⟨i,u,laid⟩=>i≤5∧laid++gj x (5-i) i=bs++il x) (λ⟨i,u,laid⟩=>[(0,(.pointer (some ⟨wb,0,none⟩))),(3,(.pointer (some ⟨b3,0,none⟩))),(4,(.pointer none)),(26,(.agg (ints x.heir.toList).toArray)),(27,(.int .i64 ((i:Nat))))]) (λ⟨i,u,laid⟩=>[ah b3 (ints x.flat) 39,ah wb [u] 247,ce u (laid) 5]) (λ⟨i,u,laid⟩=>5-i) (0,u,laid)
  ⟨by omega,by rw[←hL,e7 (by simp;omega)];simp[bR,bi]⟩ SB
  (λ_ s=>ak [0,0,0] rfl s) (λ⟨i,u,laid⟩ hinv=>?_)
 obtain⟨hi,hL⟩:=hinv;have hE:=hL;refine sr λ_ J12=>PS ?_
 refine ao ?_ ?_<;>intro h28;refine nx J12 (ab λ_ J13=>CY (qx J13 (ab λ_ J14=>au (sr λ_ J15=>PS ?_))));refine tp (nB (cs:=ints x.heir.toList) (v:= .int .i64 (x.heir[i]'(by omega))) (r:=i) rfl jK Y3 rfl aR rfl rfl (by omega) (by omega) (by omega) (by rw[ints_get _ _ (by simp;omega)];simp[List.getD_eq_getElem?_getD,show i<5 by omega])) ?_;refine P2 ?_;refine nx J15 (sr λ_ J16=>P2 ?_);refine aQ (cells:=#[(.int .i64 (x.heir[i]'(by omega)))]) (aa rfl) rfl rfl rfl iL oA rfl rfl rfl (by as_aux_lemma=>kernel_rfl) (λb33=>CQ jR (dO wb u (laid) (.slice (some ⟨b33,0,none⟩) (1) (1)) [x.heir[i]'(by omega)] (by have:=congrArg List.length hE;have:=ik x;simp only[af,an,aw]at*;omega)) (SM [2,2]) (dF 0 rfl rfl rfl rfl) λvR HR hR=>?_);obtain⟨u2,rfl,rfl⟩:=hR;refine nx J16 (sr λ_ J17=>P2 ?_);refine ao ?_ ?_<;>intro h36;refine nx J17 (CY (sr λ_ J18=>PS ?_));refine FA 34 dU By ?_;refine IX (34+i*28) Mh ly ?_;refine tp (aM (vs:=ints (bR (x.left[i]'(by omega)).toList)) rfl Be rfl ly rfl (RO 3) (by rw[ints_length,cT];simp) (RowT.get_left _ i (by omega))) ?_;refine PS ?_;refine nx J18 (au ?_)
 refine bu (α:=(Nat)×(Value)×(List UInt8)) (λ⟨k,u3,laid3⟩=>k≤4∧laid3++(bi (bR ((x.left[i]'(by omega)).toList.drop k))++gj x (5- (i+1)) (i+1))=bs++il x) (λ⟨k,u3,laid3⟩=>[(0,(.pointer (some ⟨wb,0,none⟩))),(3,(.pointer (some ⟨b3,0,none⟩))),(4,(.pointer none)),(26,(.agg (ints x.heir.toList).toArray)),(27,(.int .i64 ((i:Nat)))),(40,(.agg (ints (bR (x.left[i]'(by omega)).toList)).toArray)),(41,(.int .i64 ((k:Nat))))]) (λ⟨k,u3,laid3⟩=>[ah b3 (ints x.flat) 39,ah wb [u3] 247,ce u3 (laid3) 5]) (λ⟨k,u3,laid3⟩=>4-k) (0,u2,laid++bi [x.heir[i]'(by omega)])
  ⟨by omega,by rw[←hL,q7 (i:=i) (by omega),if_pos h36];simp[bi]⟩ SB
  (λ_ s=>ak [3,0,0] rfl s) (λ⟨k,u3,laid3⟩ hinv=>?_)
 obtain⟨hk,hM⟩:=hinv;have hE:=hM;refine sr λ_ J19=>PS ?_
 refine ao ?_ ?_<;>intro h42;refine nx J19 (ab λ_ J20=>CY (qx J20 (ab λ_ J21=>au (sr λ_ J22=>tp (PV.indexN (cs:=ints (bR ((x.left[i]'(by omega)).toList))) (r:=k*7) rfl Be mH rfl fx rfl rfl (by omega) (by omega) (by omega) (zo (by simp;omega))) ?_))));refine XA JW λb10=>?_
 refine bP (vs:=ints (((x.left[i]'(by omega)).toList)[k]'(by simp;omega)).flat) (cs':=ints (((x.left[i]'(by omega)).toList)[k]'(by simp;omega)).flat) (i:=0) (aa rfl) rfl rfl rfl rfl rfl (by rw[bm];exact fx) (bj _) rfl rfl (by rw[bm];exact aK _) (gd (by rw[bm];rfl)) rfl (nx J22 (ad (PS ?_)));refine tp (aM (vs:=ints (((x.left[i]'(by omega)).toList)[k]'(by simp;omega)).flat) rfl mH rfl fx rfl (RO 0) (bm _) (by rw[aV,az (by rw[bm];decide)])) ?_;refine CR LF (vV wb u3 (laid3) (((x.left[i]'(by omega)).toList)[k]'(by simp;omega)) (by have:=congrArg List.length hE;have:=ik x;have:=aW (((x.left[i]'(by omega)).toList)[k]'(by simp;omega)).flat;rw[bv]at this;simp only[af]at*;omega)) (SM [2,2]) λvR HR hR=>?_
 obtain⟨u3,rfl,rfl⟩:=hR;refine aq (ag (ac J21 (ad (AD ?_))));refine PS ?_;refine aq ?_
 exact aJ ((k+1,u3,laid3++bi (((x.left[i]'(by omega)).toList)[k]'(by simp;omega)).flat):(Nat)×(Value)×(List UInt8)) ⟨by omega,by rw[←hM,oX (l:=(x.left[i]'(by omega)).toList) (k:=k) (by simp;omega)];simp⟩ (by show _-_<_-_;omega)
  SB
  (λ_ s=>ak [3,0,0] rfl s)
 refine nx J19 (ab λ_ J23=>CN (aY (aC (aC (bo (ag (ac J14 (ad (AD ?_)))))))));refine PS ?_;refine aq ?_
 exact aJ ((i+1,u3,laid3):(Nat)×(Value)×(List UInt8)) ⟨by omega,by rw[←hM,e7 (by simp;omega)];simp[bR,bi]⟩ (by show _-_<_-_;omega)
  SB
  (λ_ s=>ak [0,0,0] rfl s)
 refine nx J17 (CN (aT (ag (ac J14 (ad (AD ?_))))));refine PS ?_;refine aq ?_
 exact aJ ((i+1,u2,laid++bi [x.heir[i]'(by omega)]):(Nat)×(Value)×(List UInt8)) ⟨by omega,by rw[←hL,q7 (i:=i) (by omega),if_neg h36];simp[bi]⟩ (by show _-_<_-_;omega)
  SB
  (λ_ s=>ak [3,0,0] rfl s)
 refine nx J12 (ab λ_ J24=>CN (aY (aC (aC (bo (ac J10 (sr λ_ J25=>P2 ?_)))))));refine nx J25 (ai (WK [1,1] (av rfl rfl ?_)));obtain rfl:laid=bs++il x:=by rw[←hL,show 5-i=0 by omega];simp[gj]
 exact⟨u,rfl,rfl⟩
theorem CK(m:MsgT):
 DT 217 #[(.agg (ints m.flat).toArray)] T0 [] (dh (λr' H=>∃u,r'=u∧H=[ce u (dQ m) 5])):=by
 refine BD 100 Tryz.func217 rfl rfl rfl λw0 F hF=>sr λ_ J1=>XY (ints m.flat) λb1=>?_
 refine PS ?_;refine nx J1 (sr λ_ J2=>XA Nn λb4=>?_);refine TL.ownNil 5 (λon=>?_);clear on;refine PS ?_;refine nx J2 (ab λ_ J3=>sr λ_ J4=>FA 0 bd aR ?_);refine LU 2 Y3 (eR m rfl) ?_;refine nx J4 (au (ab λ_ J5=>e4 (α:=Unit) (λ_u=>True) (λ_u=>[(1,(.pointer (some ⟨b1,0,none⟩))),(2,(.slice none 0 0)),(3,(.pointer (some ⟨b4,0,none⟩))),(6,(.int .i64 (m.kind))),(7,(.bool ((fb m.kind))))]) (λ_u=>[ce (.slice none 0 0) ([]) 5,ah b4 [(.slice none 0 0)] 247,ah b1 (ints m.flat) 163]) (λ_u hinv=>?_) (λtl5=>?_)));have _:=hinv;refine ac J5 (TC.cond rfl (λh7=>?_) (λh7=>?_));refine D1 2 mixed ?_;refine PD 0 ?_;refine FD 1 0 bd aR ?_;refine LR 2 Y3 (eR m rfl) ?_;refine FD 3 1 bd aR ?_;refine LR 4 Y3 (cm m rfl) ?_;refine FD 7 2 bd ba ?_;refine ta 8 rfl (aM (vs:=ints m.row.flat) rfl dU rfl ba rfl (λ_ h=>h.2.1) (aj m.row) (ma m 0 rfl (by decide) (whole (aj m.row)))) ?_;refine AL 5 ?_;refine aQ (cells:=#[(.int .i64 (m.kind)),(.int .i64 (m.whose))]) (aa rfl) rfl rfl rfl iL oA rfl rfl rfl (by as_aux_lemma=>kernel_rfl) (λb16=>EN (AL 6 ?_));refine CQ jR (dO b4 (.slice none 0 0) ([]) (.slice (some ⟨b16,0,none⟩) (2) (2)) [m.kind,m.whose] (by simp)) (SM [2,1]) (dF 0 rfl rfl rfl rfl) λvR HR hR=>?_
 obtain⟨u1,rfl,rfl⟩:=hR;refine EN (AL 9 ?_);refine CR I0 (tt b4 u1 (bi [m.kind,m.whose]) m.row (by(have:=aW [m.kind,m.whose]);simp only[BallotT.flat,ViewT.flat,ChangeT.flat,an,aw,aA,af]at*;omega)) ID λvR HR hR=>?_
 obtain⟨u2,rfl,rfl⟩:=hR;refine EN (DN (ag (ac J3 (sr λ_ J6=>PS ?_))));refine CR mY (ef b4 u2 (bi [m.kind,m.whose]++il m.row) (by(have:=aW [m.kind,m.whose]);(have:=ik m.row);simp only[BallotT.flat,ViewT.flat,ChangeT.flat,an,aw,aA,af]at*;omega)) ID λvR HR hR=>?_
 obtain⟨_,rfl,rfl⟩:=hR;revert vR;intro u3;refine PS ?_;refine nx J6 (ai (WK [2] (av rfl rfl ?_)));exact⟨_,rfl,congrArg (λb=>[ce u3 b 5]) (show(bi [m.kind,m.whose]++il m.row)=dQ m by simp[dQ,bi, *])⟩;refine sr λ_ J7=>PS ?_
 refine ao ?_ ?_<;>intro h22;refine PS ?_;refine nx J7 (CY (ad (PS ?_)));refine FA 0 bd aR ?_;refine LU 2 Y3 (eR m rfl) ?_;refine FA 176 bd aR ?_;refine LU 2 Y3 (MsgT.at_version m rfl) ?_;refine aQ (cells:=#[(.int .i64 (m.kind)),(.int .i64 (m.version))]) (aa rfl) rfl rfl rfl iL oA rfl rfl rfl (by as_aux_lemma=>kernel_rfl) (λb28=>CQ jR (dO b4 (.slice none 0 0) ([]) (.slice (some ⟨b28,0,none⟩) (2) (2)) [m.kind,m.version] (by simp)) (SM [2,1]) (dF 0 rfl rfl rfl rfl) λvR HR hR=>?_);obtain⟨u1,rfl,rfl⟩:=hR;refine aq (ag (ac J3 (sr λ_ J8=>PS ?_)));refine CR mY (ef b4 u1 (bi [m.kind,m.version]) (by(have:=aW [m.kind,m.version]);simp only[BallotT.flat,ViewT.flat,ChangeT.flat,an,aw,aA,af]at*;omega)) ID λvR HR hR=>?_
 obtain⟨_,rfl,rfl⟩:=hR;revert vR;intro u2;refine PS ?_;refine nx J8 (ai (WK [2] (av rfl rfl ?_)));exact⟨_,rfl,congrArg (λb=>[ce u2 b 5]) (show(bi [m.kind,m.version])=dQ m by simp[dQ,fb,fi,bi, *])⟩;refine PS ?_;refine nx J7 (CN (ab λ_ J9=>e4 (α:=Unit) (λ_u=>True) (λ_u=>[(1,(.pointer (some ⟨b1,0,none⟩))),(2,(.slice none 0 0)),(3,(.pointer (some ⟨b4,0,none⟩))),(6,(.int .i64 (m.kind))),(30,(.bool ((fi m.kind))))]) (λ_u=>[ce (.slice none 0 0) ([]) 5,ah b4 [(.slice none 0 0)] 247,ah b1 (ints m.flat) 163]) (λ_u hinv=>?_) (λtl9=>?_)));have _:=hinv;refine ac J9 (TC.cond rfl (λh30=>?_) (λh30=>?_));refine D1 2 mixed ?_;refine PD 0 ?_;refine FD 1 0 bd aR ?_;refine LR 2 Y3 (eR m rfl) ?_;refine FD 3 177 bd aR ?_;refine LR 4 Y3 (eH m rfl) ?_;refine FD 7 178 bd cv ?_;refine ta 8 rfl (aM (vs:=ints m.ballot.flat) rfl ka rfl cv rfl (λ_ h=>h.2.1) (ap m.ballot) (iV m 0 rfl (by decide) (whole (ap m.ballot)))) ?_;refine AL 5 ?_;refine aQ (cells:=#[(.int .i64 (m.kind)),(.int .i64 (m.epoch))]) (aa rfl) rfl rfl rfl iL oA rfl rfl rfl (by as_aux_lemma=>kernel_rfl) (λb38=>EN (AL 6 ?_));refine CQ jR (dO b4 (.slice none 0 0) ([]) (.slice (some ⟨b38,0,none⟩) (2) (2)) [m.kind,m.epoch] (by simp)) (SM [2,1]) (dF 0 rfl rfl rfl rfl) λvR HR hR=>?_
 obtain⟨u1,rfl,rfl⟩:=hR;refine EN (AL 9 ?_);refine CR zf (jp b4 u1 (bi [m.kind,m.epoch]) m.ballot (by(have:=aW [m.kind,m.epoch]);simp only[BallotT.flat,ViewT.flat,ChangeT.flat,an,aw,aA,af]at*;omega)) ID λvR HR hR=>?_
 obtain⟨u2,rfl,rfl⟩:=hR;refine EN (DN (ag (ac J3 (sr λ_ J10=>PS ?_))));refine CR mY (ef b4 u2 (bi [m.kind,m.epoch]++bi m.ballot.flat) (by(have:=aW [m.kind,m.epoch]);(have:=aW (m.ballot.flat));simp only[BallotT.flat,ViewT.flat,ChangeT.flat,an,aw,aA,af]at*;omega)) ID λvR HR hR=>?_
 obtain⟨_,rfl,rfl⟩:=hR;revert vR;intro u3;refine PS ?_;refine nx J10 (ai (WK [2] (av rfl rfl ?_)));exact⟨_,rfl,congrArg (λb=>[ce u3 b 5]) (show(bi [m.kind,m.epoch]++bi m.ballot.flat)=dQ m by simp[dQ,bi, *])⟩;refine sr λ_ J11=>PS ?_
 refine ao ?_ ?_<;>intro h44;refine PS ?_;refine nx J11 (CY (D1 2 mixed ?_));refine PD 0 ?_;refine FD 1 0 bd aR ?_;refine LR 2 Y3 (eR m rfl) ?_;refine FD 3 177 bd aR ?_;refine LR 4 Y3 (eH m rfl) ?_;refine FD 7 178 bd cv ?_;refine ta 8 rfl (aM (vs:=ints m.ballot.flat) rfl ka rfl cv rfl (λ_ h=>h.2.1) (ap m.ballot) (iV m 0 rfl (by decide) (whole (ap m.ballot)))) ?_;refine FD 10 180 bd cv ?_;refine ta 11 rfl (aM (vs:=ints m.had.flat) rfl ka rfl cv rfl (λ_ h=>h.2.1) (ap m.had) (Ql m 0 rfl (by decide) (whole (ap m.had)))) ?_;refine FD 13 182 bd fp ?_;refine ta 14 rfl (aM (vs:=ints m.change.flat) rfl na rfl fp rfl (λ_ h=>h.2.1) (aI m.change) (ni m 0 rfl (by decide) (whole (aI m.change)))) ?_;refine AL 5 ?_;refine aQ (cells:=#[(.int .i64 (m.kind)),(.int .i64 (m.epoch))]) (aa rfl) rfl rfl rfl iL oA rfl rfl rfl (by as_aux_lemma=>kernel_rfl) (λb50=>EN (AL 6 ?_));refine CQ jR (dO b4 (.slice none 0 0) ([]) (.slice (some ⟨b50,0,none⟩) (2) (2)) [m.kind,m.epoch] (by simp)) (SM [2,1]) (dF 0 rfl rfl rfl rfl) λvR HR hR=>?_
 obtain⟨u1,rfl,rfl⟩:=hR;refine EN (AL 9 ?_);refine CR zf (jp b4 u1 (bi [m.kind,m.epoch]) m.ballot (by(have:=aW [m.kind,m.epoch]);simp only[BallotT.flat,ViewT.flat,ChangeT.flat,an,aw,aA,af]at*;omega)) ID λvR HR hR=>?_
 obtain⟨u2,rfl,rfl⟩:=hR;refine EN (AL 12 ?_);refine CR zf (jp b4 u2 (bi [m.kind,m.epoch]++bi m.ballot.flat) m.had (by(have:=aW [m.kind,m.epoch]);(have:=aW (m.ballot.flat));simp only[BallotT.flat,ViewT.flat,ChangeT.flat,an,aw,aA,af]at*;omega)) ID λvR HR hR=>?_
 obtain⟨u3,rfl,rfl⟩:=hR;refine EN (AL 15 ?_);refine CR IZ (oB b4 u3 (bi [m.kind,m.epoch]++bi m.ballot.flat++bi m.had.flat) m.change (by(have:=aW [m.kind,m.epoch]);(have:=aW (m.ballot.flat));(have:=aW (m.had.flat));simp only[BallotT.flat,ViewT.flat,ChangeT.flat,an,aw,aA,af]at*;omega)) ID λvR HR hR=>?_
 obtain⟨u4,rfl,rfl⟩:=hR;refine EN (DN (ag (ac J3 (sr λ_ J12=>PS ?_))));refine CR mY (ef b4 u4 (bi [m.kind,m.epoch]++bi m.ballot.flat++bi m.had.flat++bi m.change.flat) (by(have:=aW [m.kind,m.epoch]);(have:=aW (m.ballot.flat));(have:=aW (m.had.flat));(have:=aW (m.change.flat));simp only[BallotT.flat,ViewT.flat,ChangeT.flat,an,aw,aA,af]at*;omega)) ID λvR HR hR=>?_
 obtain⟨_,rfl,rfl⟩:=hR;revert vR;intro u5;refine PS ?_;refine nx J12 (ai (WK [2] (av rfl rfl ?_)));exact⟨_,rfl,congrArg (λb=>[ce u5 b 5]) (show(bi [m.kind,m.epoch]++bi m.ballot.flat++bi m.had.flat++bi m.change.flat)=dQ m by simp[dQ,fb,fi,bi, *])⟩;refine PS ?_;refine nx J11 (CN (sr λ_ J13=>PS ?_));refine ao ?_ ?_<;>intro h62;refine PS ?_;refine nx J13 (CY (D1 2 mixed ?_));refine PD 0 ?_;refine FD 1 0 bd aR ?_;refine LR 2 Y3 (eR m rfl) ?_;refine FD 3 177 bd aR ?_;refine LR 4 Y3 (eH m rfl) ?_;refine FD 7 178 bd cv ?_;refine ta 8 rfl (aM (vs:=ints m.ballot.flat) rfl ka rfl cv rfl (λ_ h=>h.2.1) (ap m.ballot) (iV m 0 rfl (by decide) (whole (ap m.ballot)))) ?_;refine FD 10 182 bd fp ?_;refine ta 11 rfl (aM (vs:=ints m.change.flat) rfl na rfl fp rfl (λ_ h=>h.2.1) (aI m.change) (ni m 0 rfl (by decide) (whole (aI m.change)))) ?_;refine AL 5 ?_;refine aQ (cells:=#[(.int .i64 (m.kind)),(.int .i64 (m.epoch))]) (aa rfl) rfl rfl rfl iL oA rfl rfl rfl (by as_aux_lemma=>kernel_rfl) (λb68=>EN (AL 6 ?_));refine CQ jR (dO b4 (.slice none 0 0) ([]) (.slice (some ⟨b68,0,none⟩) (2) (2)) [m.kind,m.epoch] (by simp)) (SM [2,1]) (dF 0 rfl rfl rfl rfl) λvR HR hR=>?_
 obtain⟨u1,rfl,rfl⟩:=hR;refine EN (AL 9 ?_);refine CR zf (jp b4 u1 (bi [m.kind,m.epoch]) m.ballot (by(have:=aW [m.kind,m.epoch]);simp only[BallotT.flat,ViewT.flat,ChangeT.flat,an,aw,aA,af]at*;omega)) ID λvR HR hR=>?_
 obtain⟨u2,rfl,rfl⟩:=hR;refine EN (AL 12 ?_);refine CR IZ (oB b4 u2 (bi [m.kind,m.epoch]++bi m.ballot.flat) m.change (by(have:=aW [m.kind,m.epoch]);(have:=aW (m.ballot.flat));simp only[BallotT.flat,ViewT.flat,ChangeT.flat,an,aw,aA,af]at*;omega)) ID λvR HR hR=>?_
 obtain⟨u3,rfl,rfl⟩:=hR;refine EN (DN (ag (ac J3 (sr λ_ J14=>PS ?_))));refine CR mY (ef b4 u3 (bi [m.kind,m.epoch]++bi m.ballot.flat++bi m.change.flat) (by(have:=aW [m.kind,m.epoch]);(have:=aW (m.ballot.flat));(have:=aW (m.change.flat));simp only[BallotT.flat,ViewT.flat,ChangeT.flat,an,aw,aA,af]at*;omega)) ID λvR HR hR=>?_
 obtain⟨_,rfl,rfl⟩:=hR;revert vR;intro u4;refine PS ?_;refine nx J14 (ai (WK [2] (av rfl rfl ?_)));exact⟨_,rfl,congrArg (λb=>[ce u4 b 5]) (show(bi [m.kind,m.epoch]++bi m.ballot.flat++bi m.change.flat)=dQ m by simp[dQ,fb,fi,bi, *])⟩;refine PS ?_;refine nx J13 (CN (sr λ_ J15=>PS ?_));refine ao ?_ ?_<;>intro h77;refine PS ?_;refine nx J15 (CY (D1 2 mixed ?_));refine PD 0 ?_;refine FD 1 0 bd aR ?_;refine LR 2 Y3 (eR m rfl) ?_;refine FD 5 185 bd bf ?_;refine ta 6 rfl (aM (vs:=ints m.view.flat) rfl eE rfl bf rfl (λ_ h=>h.2.1) (am m.view) (vC m 0 rfl (by decide) (whole (am m.view)))) ?_;refine AL 3 ?_;refine aQ (cells:=#[(.int .i64 (m.kind))]) (aa rfl) rfl rfl rfl iL oA rfl rfl rfl (by as_aux_lemma=>kernel_rfl) (λb81=>EN (AL 4 ?_));refine CQ jR (dO b4 (.slice none 0 0) ([]) (.slice (some ⟨b81,0,none⟩) (1) (1)) [m.kind] (by simp)) (SM [2,1]) (dF 0 rfl rfl rfl rfl) λvR HR hR=>?_
 obtain⟨u1,rfl,rfl⟩:=hR;refine EN (AL 7 ?_);refine CR IW (rh b4 u1 (bi [m.kind]) m.view (by(have:=aW [m.kind]);simp only[BallotT.flat,ViewT.flat,ChangeT.flat,an,aw,aA,af]at*;omega)) ID λvR HR hR=>?_
 obtain⟨u2,rfl,rfl⟩:=hR;refine EN (DN (ag (ac J3 (sr λ_ J16=>PS ?_))));refine CR mY (ef b4 u2 (bi [m.kind]++bi m.view.flat) (by(have:=aW [m.kind]);(have:=aW (m.view.flat));simp only[BallotT.flat,ViewT.flat,ChangeT.flat,an,aw,aA,af]at*;omega)) ID λvR HR hR=>?_
 obtain⟨_,rfl,rfl⟩:=hR;revert vR;intro u3;refine PS ?_;refine nx J16 (ai (WK [2] (av rfl rfl ?_)));exact⟨_,rfl,congrArg (λb=>[ce u3 b 5]) (show(bi [m.kind]++bi m.view.flat)=dQ m by simp[dQ,fb,fi,bi, *])⟩;refine PS ?_;refine nx J15 (CN (sr λ_ J17=>PS ?_));refine ao ?_ ?_<;>intro h87;refine PS ?_;refine nx J17 (CY (D1 2 mixed ?_));refine PD 0 ?_;refine FD 1 0 bd aR ?_;refine LR 2 Y3 (eR m rfl) ?_;refine FD 3 1 bd aR ?_;refine LR 4 Y3 (cm m rfl) ?_;refine FD 7 185 bd bf ?_;refine ta 8 rfl (aM (vs:=ints m.view.flat) rfl eE rfl bf rfl (λ_ h=>h.2.1) (am m.view) (vC m 0 rfl (by decide) (whole (am m.view)))) ?_;refine AL 5 ?_;refine aQ (cells:=#[(.int .i64 (m.kind)),(.int .i64 (m.whose))]) (aa rfl) rfl rfl rfl iL oA rfl rfl rfl (by as_aux_lemma=>kernel_rfl) (λb93=>EN (AL 6 ?_));refine CQ jR (dO b4 (.slice none 0 0) ([]) (.slice (some ⟨b93,0,none⟩) (2) (2)) [m.kind,m.whose] (by simp)) (SM [2,1]) (dF 0 rfl rfl rfl rfl) λvR HR hR=>?_
 obtain⟨u1,rfl,rfl⟩:=hR;refine EN (AL 9 ?_);refine CR IW (rh b4 u1 (bi [m.kind,m.whose]) m.view (by(have:=aW [m.kind,m.whose]);simp only[BallotT.flat,ViewT.flat,ChangeT.flat,an,aw,aA,af]at*;omega)) ID λvR HR hR=>?_
 obtain⟨u2,rfl,rfl⟩:=hR;refine EN (DN (ag (ac J3 (sr λ_ J18=>PS ?_))));refine CR mY (ef b4 u2 (bi [m.kind,m.whose]++bi m.view.flat) (by(have:=aW [m.kind,m.whose]);(have:=aW (m.view.flat));simp only[BallotT.flat,ViewT.flat,ChangeT.flat,an,aw,aA,af]at*;omega)) ID λvR HR hR=>?_
 obtain⟨_,rfl,rfl⟩:=hR;revert vR;intro u3;refine PS ?_;refine nx J18 (ai (WK [2] (av rfl rfl ?_)));exact⟨_,rfl,congrArg (λb=>[ce u3 b 5]) (show(bi [m.kind,m.whose]++bi m.view.flat)=dQ m by simp[dQ,fb,fi,bi, *])⟩;refine PS ?_;refine nx J17 (CN (aT (ag (ac J3 (sr λ_ J19=>PS ?_)))));refine CR mY (ef b4 (.slice none 0 0) ([]) (by simp)) (SM [1,0]) λvR HR hR=>?_
 obtain⟨_,rfl,rfl⟩:=hR;revert vR;intro u1;refine PS ?_;refine nx J19 (ai (WK [2] (av rfl rfl ?_)));exact⟨_,rfl,congrArg (λb=>[ce u1 b 5]) (show([]:List UInt8)=dQ m by simp[dQ,bi, *])⟩;refine sr λ_ J20=>P2 ?_
 refine ao ?_ ?_<;>intro h30;refine nx J20 (CY (aT ?_))
 exact aF
  (aL (aL (aL (aL (bJ rfl (by simp[fi, *]) SB)))))
  (λ_ s=>s)
  (tl9 (():Unit) trivial)
 refine nx J20 (CN (ad (PS ?_)));refine ao ?_ ?_<;>intro h32;refine PS ?_;refine aq ?_
 exact aF
  (aL (aL (aL (aL (bJ rfl (by simp[fi, *]) SB)))))
  (λ_ s=>s)
  (tl9 (():Unit) trivial)
 refine PS ?_;refine aq ?_
 exact aF
  (aL (aL (aL (aL (bJ rfl (by simp[fi, *]) SB)))))
  (λ_ s=>s)
  (tl9 (():Unit) trivial)
 refine sr λ_ J21=>P2 ?_
 refine ao ?_ ?_<;>intro h7;refine nx J21 (CY (aT ?_))
 exact aF
  (aL (aL (aL (aL (bJ rfl (by simp[fb, *]) SB)))))
  (λ_ s=>s)
  (tl5 (():Unit) trivial)
 refine nx J21 (CN (sr λ_ J22=>P2 ?_));refine ao ?_ ?_<;>intro h7;refine nx J22 (CY (aT ?_))
 exact aF
  (aL (aL (aL (aL (bJ rfl (by simp[fb, *]) SB)))))
  (λ_ s=>s)
  (tl5 (():Unit) trivial)
 refine nx J22 (CN (ad (PS ?_)));refine ao ?_ ?_<;>intro h10;refine PS ?_;refine aq ?_
 exact aF
  (aL (aL (aL (aL (bJ rfl (by simp[fb, *]) SB)))))
  (λ_ s=>s)
  (tl5 (():Unit) trivial)
 refine PS ?_;refine aq ?_
 exact aF
  (aL (aL (aL (aL (bJ rfl (by simp[fb, *]) SB)))))
  (λ_ s=>s)
  (tl5 (():Unit) trivial)
theorem B9(m:RecT):
 DT 156 #[(.agg (ints m.flat).toArray)] T0 [] (dh (λr' H=>∃u,r'=u∧H=[ce u (kh m) 5])):=by
 refine BD 77 Tryz.func156 rfl rfl rfl λw0 F hF=>sr λ_ J1=>XY (ints m.flat) λb1=>?_
 refine PS ?_;refine nx J1 (sr λ_ J2=>XA Nn λb4=>?_);refine TL.ownNil 5 (λon=>?_);clear on;refine PS ?_;refine nx J2 (ab λ_ J3=>sr λ_ J4=>FA 0 eb aR ?_);refine LU 2 Y3 (kB m rfl) ?_;refine nx J4 (au (sr λ_ J5=>PS ?_));refine ao ?_ ?_<;>intro h8;refine PS ?_;refine nx J5 (CY (D1 2 mixed ?_));refine PD 0 ?_;refine FD 1 0 eb aR ?_;refine LR 2 Y3 (kB m rfl) ?_;refine FD 5 2 eb ba ?_;refine ta 6 rfl (aM (vs:=ints m.row.flat) rfl dU rfl ba rfl (λ_ h=>h.2.1) (aj m.row) (r9 m 0 rfl (by decide) (whole (aj m.row)))) ?_;refine AL 3 ?_;refine aQ (cells:=#[(.int .i64 (m.kind))]) (aa rfl) rfl rfl rfl iL oA rfl rfl rfl (by as_aux_lemma=>kernel_rfl) (λb12=>EN (AL 4 ?_));refine CQ jR (dO b4 (.slice none 0 0) ([]) (.slice (some ⟨b12,0,none⟩) (1) (1)) [m.kind] (by simp)) (SM [2,1]) (dF 0 rfl rfl rfl rfl) λvR HR hR=>?_
 obtain⟨u1,rfl,rfl⟩:=hR;refine EN (AL 7 ?_);refine CR I0 (tt b4 u1 (bi [m.kind]) m.row (by(have:=aW [m.kind]);simp only[BallotT.flat,ViewT.flat,ChangeT.flat,an,aw,aA,af]at*;omega)) ID λvR HR hR=>?_
 obtain⟨u2,rfl,rfl⟩:=hR;refine EN (DN (ag (ac J3 (sr λ_ J6=>PS ?_))));refine CR mY (ef b4 u2 (bi [m.kind]++il m.row) (by(have:=aW [m.kind]);(have:=ik m.row);simp only[BallotT.flat,ViewT.flat,ChangeT.flat,an,aw,aA,af]at*;omega)) ID λvR HR hR=>?_
 obtain⟨_,rfl,rfl⟩:=hR;revert vR;intro u3;refine PS ?_;refine nx J6 (ai (WK [2] (av rfl rfl ?_)));exact⟨_,rfl,congrArg (λb=>[ce u3 b 5]) (show(bi [m.kind]++il m.row)=kh m by simp[kh,fb,fi,bi, *])⟩;refine PS ?_;refine nx J5 (CN (sr λ_ J7=>PS ?_));refine ao ?_ ?_<;>intro h18;refine PS ?_;refine nx J7 (CY (D1 2 mixed ?_));refine PD 0 ?_;refine FD 1 0 eb aR ?_;refine LR 2 Y3 (kB m rfl) ?_;refine FD 3 1 eb aR ?_;refine LR 4 Y3 (Ga m rfl) ?_;refine FD 7 2 eb ba ?_;refine ta 8 rfl (aM (vs:=ints m.row.flat) rfl dU rfl ba rfl (λ_ h=>h.2.1) (aj m.row) (r9 m 0 rfl (by decide) (whole (aj m.row)))) ?_;refine AL 5 ?_;refine aQ (cells:=#[(.int .i64 (m.kind)),(.int .i64 (m.whose))]) (aa rfl) rfl rfl rfl iL oA rfl rfl rfl (by as_aux_lemma=>kernel_rfl) (λb24=>EN (AL 6 ?_));refine CQ jR (dO b4 (.slice none 0 0) ([]) (.slice (some ⟨b24,0,none⟩) (2) (2)) [m.kind,m.whose] (by simp)) (SM [2,1]) (dF 0 rfl rfl rfl rfl) λvR HR hR=>?_
 obtain⟨u1,rfl,rfl⟩:=hR;refine EN (AL 9 ?_);refine CR I0 (tt b4 u1 (bi [m.kind,m.whose]) m.row (by(have:=aW [m.kind,m.whose]);simp only[BallotT.flat,ViewT.flat,ChangeT.flat,an,aw,aA,af]at*;omega)) ID λvR HR hR=>?_
 obtain⟨u2,rfl,rfl⟩:=hR;refine EN (DN (ag (ac J3 (sr λ_ J8=>PS ?_))));refine CR mY (ef b4 u2 (bi [m.kind,m.whose]++il m.row) (by(have:=aW [m.kind,m.whose]);(have:=ik m.row);simp only[BallotT.flat,ViewT.flat,ChangeT.flat,an,aw,aA,af]at*;omega)) ID λvR HR hR=>?_
 obtain⟨_,rfl,rfl⟩:=hR;revert vR;intro u3;refine PS ?_;refine nx J8 (ai (WK [2] (av rfl rfl ?_)));exact⟨_,rfl,congrArg (λb=>[ce u3 b 5]) (show(bi [m.kind,m.whose]++il m.row)=kh m by simp[kh,fb,fi,bi, *])⟩;refine PS ?_;refine nx J7 (CN (sr λ_ J9=>PS ?_));refine ao ?_ ?_<;>intro h30;refine PS ?_;refine nx J9 (CY (ad (PS ?_)));refine FA 0 eb aR ?_;refine LU 2 Y3 (kB m rfl) ?_;refine FA 1 eb aR ?_;refine LU 2 Y3 (Ga m rfl) ?_;refine aQ (cells:=#[(.int .i64 (m.kind)),(.int .i64 (m.whose))]) (aa rfl) rfl rfl rfl iL oA rfl rfl rfl (by as_aux_lemma=>kernel_rfl) (λb36=>CQ jR (dO b4 (.slice none 0 0) ([]) (.slice (some ⟨b36,0,none⟩) (2) (2)) [m.kind,m.whose] (by simp)) (SM [2,1]) (dF 0 rfl rfl rfl rfl) λvR HR hR=>?_);obtain⟨u1,rfl,rfl⟩:=hR;refine aq (ag (ac J3 (sr λ_ J10=>PS ?_)));refine CR mY (ef b4 u1 (bi [m.kind,m.whose]) (by(have:=aW [m.kind,m.whose]);simp only[BallotT.flat,ViewT.flat,ChangeT.flat,an,aw,aA,af]at*;omega)) ID λvR HR hR=>?_
 obtain⟨_,rfl,rfl⟩:=hR;revert vR;intro u2;refine PS ?_;refine nx J10 (ai (WK [2] (av rfl rfl ?_)));exact⟨_,rfl,congrArg (λb=>[ce u2 b 5]) (show(bi [m.kind,m.whose])=kh m by simp[kh,fb,fi,bi, *])⟩;refine PS ?_;refine nx J9 (CN (sr λ_ J11=>PS ?_));refine ao ?_ ?_<;>intro h39;refine PS ?_;refine nx J11 (CY (D1 2 mixed ?_));refine PD 0 ?_;refine FD 1 0 eb aR ?_;refine LR 2 Y3 (kB m rfl) ?_;refine FD 3 176 eb aR ?_;refine LR 4 Y3 (RecT.at_epoch m rfl) ?_;refine FD 7 177 eb cv ?_;refine ta 8 rfl (aM (vs:=ints m.ballot.flat) rfl ka rfl cv rfl (λ_ h=>h.2.1) (ap m.ballot) (qT m 0 rfl (by decide) (whole (ap m.ballot)))) ?_;refine AL 5 ?_;refine aQ (cells:=#[(.int .i64 (m.kind)),(.int .i64 (m.epoch))]) (aa rfl) rfl rfl rfl iL oA rfl rfl rfl (by as_aux_lemma=>kernel_rfl) (λb45=>EN (AL 6 ?_));refine CQ jR (dO b4 (.slice none 0 0) ([]) (.slice (some ⟨b45,0,none⟩) (2) (2)) [m.kind,m.epoch] (by simp)) (SM [2,1]) (dF 0 rfl rfl rfl rfl) λvR HR hR=>?_
 obtain⟨u1,rfl,rfl⟩:=hR;refine EN (AL 9 ?_);refine CR zf (jp b4 u1 (bi [m.kind,m.epoch]) m.ballot (by(have:=aW [m.kind,m.epoch]);simp only[BallotT.flat,ViewT.flat,ChangeT.flat,an,aw,aA,af]at*;omega)) ID λvR HR hR=>?_
 obtain⟨u2,rfl,rfl⟩:=hR;refine EN (DN (ag (ac J3 (sr λ_ J12=>PS ?_))));refine CR mY (ef b4 u2 (bi [m.kind,m.epoch]++bi m.ballot.flat) (by(have:=aW [m.kind,m.epoch]);(have:=aW (m.ballot.flat));simp only[BallotT.flat,ViewT.flat,ChangeT.flat,an,aw,aA,af]at*;omega)) ID λvR HR hR=>?_
 obtain⟨_,rfl,rfl⟩:=hR;revert vR;intro u3;refine PS ?_;refine nx J12 (ai (WK [2] (av rfl rfl ?_)));exact⟨_,rfl,congrArg (λb=>[ce u3 b 5]) (show(bi [m.kind,m.epoch]++bi m.ballot.flat)=kh m by simp[kh,fb,fi,bi, *])⟩;refine PS ?_;refine nx J11 (CN (sr λ_ J13=>PS ?_));refine ao ?_ ?_<;>intro h51;refine PS ?_;refine nx J13 (CY (D1 2 mixed ?_));refine PD 0 ?_;refine FD 1 0 eb aR ?_;refine LR 2 Y3 (kB m rfl) ?_;refine FD 3 176 eb aR ?_;refine LR 4 Y3 (RecT.at_epoch m rfl) ?_;refine FD 7 177 eb cv ?_;refine ta 8 rfl (aM (vs:=ints m.ballot.flat) rfl ka rfl cv rfl (λ_ h=>h.2.1) (ap m.ballot) (qT m 0 rfl (by decide) (whole (ap m.ballot)))) ?_;refine FD 10 179 eb fp ?_;refine ta 11 rfl (aM (vs:=ints m.change.flat) rfl na rfl fp rfl (λ_ h=>h.2.1) (aI m.change) (Nb m 0 rfl (by decide) (whole (aI m.change)))) ?_;refine AL 5 ?_;refine aQ (cells:=#[(.int .i64 (m.kind)),(.int .i64 (m.epoch))]) (aa rfl) rfl rfl rfl iL oA rfl rfl rfl (by as_aux_lemma=>kernel_rfl) (λb57=>EN (AL 6 ?_));refine CQ jR (dO b4 (.slice none 0 0) ([]) (.slice (some ⟨b57,0,none⟩) (2) (2)) [m.kind,m.epoch] (by simp)) (SM [2,1]) (dF 0 rfl rfl rfl rfl) λvR HR hR=>?_
 obtain⟨u1,rfl,rfl⟩:=hR;refine EN (AL 9 ?_);refine CR zf (jp b4 u1 (bi [m.kind,m.epoch]) m.ballot (by(have:=aW [m.kind,m.epoch]);simp only[BallotT.flat,ViewT.flat,ChangeT.flat,an,aw,aA,af]at*;omega)) ID λvR HR hR=>?_
 obtain⟨u2,rfl,rfl⟩:=hR;refine EN (AL 12 ?_);refine CR IZ (oB b4 u2 (bi [m.kind,m.epoch]++bi m.ballot.flat) m.change (by(have:=aW [m.kind,m.epoch]);(have:=aW (m.ballot.flat));simp only[BallotT.flat,ViewT.flat,ChangeT.flat,an,aw,aA,af]at*;omega)) ID λvR HR hR=>?_
 obtain⟨u3,rfl,rfl⟩:=hR;refine EN (DN (ag (ac J3 (sr λ_ J14=>PS ?_))));refine CR mY (ef b4 u3 (bi [m.kind,m.epoch]++bi m.ballot.flat++bi m.change.flat) (by(have:=aW [m.kind,m.epoch]);(have:=aW (m.ballot.flat));(have:=aW (m.change.flat));simp only[BallotT.flat,ViewT.flat,ChangeT.flat,an,aw,aA,af]at*;omega)) ID λvR HR hR=>?_
 obtain⟨_,rfl,rfl⟩:=hR;revert vR;intro u4;refine PS ?_;refine nx J14 (ai (WK [2] (av rfl rfl ?_)));exact⟨_,rfl,congrArg (λb=>[ce u4 b 5]) (show(bi [m.kind,m.epoch]++bi m.ballot.flat++bi m.change.flat)=kh m by simp[kh,fb,fi,bi, *])⟩;refine PS ?_;refine nx J13 (CN (sr λ_ J15=>PS ?_));refine ao ?_ ?_<;>intro h66;refine PS ?_;refine nx J15 (CY (D1 2 mixed ?_));refine PD 0 ?_;refine FD 1 0 eb aR ?_;refine LR 2 Y3 (kB m rfl) ?_;refine FD 5 182 eb bf ?_;refine ta 6 rfl (aM (vs:=ints m.view.flat) rfl eE rfl bf rfl (λ_ h=>h.2.1) (am m.view) (PY m 0 rfl (by decide) (whole (am m.view)))) ?_;refine AL 3 ?_;refine aQ (cells:=#[(.int .i64 (m.kind))]) (aa rfl) rfl rfl rfl iL oA rfl rfl rfl (by as_aux_lemma=>kernel_rfl) (λb70=>EN (AL 4 ?_));refine CQ jR (dO b4 (.slice none 0 0) ([]) (.slice (some ⟨b70,0,none⟩) (1) (1)) [m.kind] (by simp)) (SM [2,1]) (dF 0 rfl rfl rfl rfl) λvR HR hR=>?_
 obtain⟨u1,rfl,rfl⟩:=hR;refine EN (AL 7 ?_);refine CR IW (rh b4 u1 (bi [m.kind]) m.view (by(have:=aW [m.kind]);simp only[BallotT.flat,ViewT.flat,ChangeT.flat,an,aw,aA,af]at*;omega)) ID λvR HR hR=>?_
 obtain⟨u2,rfl,rfl⟩:=hR;refine EN (DN (ag (ac J3 (sr λ_ J16=>PS ?_))));refine CR mY (ef b4 u2 (bi [m.kind]++bi m.view.flat) (by(have:=aW [m.kind]);(have:=aW (m.view.flat));simp only[BallotT.flat,ViewT.flat,ChangeT.flat,an,aw,aA,af]at*;omega)) ID λvR HR hR=>?_
 obtain⟨_,rfl,rfl⟩:=hR;revert vR;intro u3;refine PS ?_;refine nx J16 (ai (WK [2] (av rfl rfl ?_)));exact⟨_,rfl,congrArg (λb=>[ce u3 b 5]) (show(bi [m.kind]++bi m.view.flat)=kh m by simp[kh,fb,fi,bi, *])⟩;refine PS ?_;refine nx J15 (CN (aT (ag (ac J3 (sr λ_ J17=>PS ?_)))));refine CR mY (ef b4 (.slice none 0 0) ([]) (by simp)) (SM [1,0]) λvR HR hR=>?_
 obtain⟨_,rfl,rfl⟩:=hR;revert vR;intro u1;refine PS ?_;refine nx J17 (ai (WK [2] (av rfl rfl ?_)));exact⟨_,rfl,congrArg (λb=>[ce u1 b 5]) (show([]:List UInt8)=kh m by simp[kh,fb,fi,bi, *])⟩
open Dsk Wal
theorem ReplyT.flat_length(x:ReplyT):x.flat.length=3:=rfl
abbrev HX:= @ReplyT.flat_length
theorem qB(who:Int)(hm:cH who=true):DT 127 #[.int .i64 who] T0 [] (dh (λr' H=>∃u,r'=u∧H=[own u 2 [.int .i64 ((who+1)%5), .int .i64 ((who+2)%5)] 3 1])):=by
 have:=pM who;rw[show gR who=[(who+1)%5,(who+2)%5]by rw[gR,if_pos hm]]at this;exact this
theorem Ed(r:Nat)(x:RepT)(op err val:Int)(rs:List ReplyT)(hrs:rs.length≤1000000):
 DT 74 #[(.pointer (some ⟨r,0,none⟩)),(.int .i64 (op)),(.int .i64 (err)),(.int .i64 (val))] T0 [ah r (RepT.cells x) 87,own x.replies ((rs).length) (ints (List.flatMap ReplyT.flat (rs))) 47 3] (dh (λ_ H=>∃v',v'.oneCell'=true∧H=[ah r (RepT.cells {x with replies:=v'}) 87,own v' (rs++[ReplyT.mk op err val]).length (ints (List.flatMap ReplyT.flat (rs++[ReplyT.mk op err val]))) 47 3])):=by
 refine BD 21 Tryz.func74 rfl rfl rfl λw0 F hF=>ad (P3 ?_)
 refine FA 1942 c9 yg ?_;refine LT 0 Dy x.replies ?_ (hc:=by exact RepT.at_replies x rfl);refine P3 ?_;refine tp (yL (cs:=ints (ReplyT.mk op err val).flat) (segs:=[[Value.int .i64 0],[Value.int .i64 0],[Value.int .i64 0]]) (res:=[[Value.int .i64 op],[Value.int .i64 err],[Value.int .i64 val]]) (parts:=[(0,[Value.int .i64 op]),(1,[Value.int .i64 err]),(2,[Value.int .i64 val])]) rfl rfl HU (by kernel_rfl) (by kernel_rfl) rfl (e9 rfl rfl (e9 rfl rfl (e9 rfl rfl lF))) (Ln (ReplyT.mk op err val)).symm) ?_;refine aQ (cells:=(ints (ReplyT.mk op err val).flat).toArray) (aa rfl) rfl rfl rfl Dy Hw rfl rfl rfl (j8 (pA (ReplyT.mk op err val)) (by simp)) (λb17=>?_);change TL _ _ _ _ _ _ _ _ _ [ah b17 (ints (ReplyT.mk op err val).flat) 47,ah r (RepT.cells x) 87,own x.replies ((rs).length) (ints (List.flatMap ReplyT.flat (rs))) 47 3];refine ci (k:=2) (news:=ints (ReplyT.mk op err val).flat) (nn':=(rs++[ReplyT.mk op err val]).length) (xs':=ints (List.flatMap ReplyT.flat (rs++[ReplyT.mk op err val]))) (aa rfl) rfl rfl rfl Dy Hw rfl rfl rfl rfl rfl rfl (λ_ _=>gS (pA _) (RO 0) (by rw[aV,eI])) (bj _) (by simp only[maxLen];omega) (by omega) (by simp) (by simp[ints]) (λv18 ov18=>PS ?_);refine FA 1942 c9 yg ?_;exact bw (i:=1) (aa rfl) rfl rfl rfl rfl ov18 yg rfl rfl (LB (cN _)) (RepT.set_replies x rfl _) rfl (aq (WK [1,1] (bp rfl ⟨_,ov18,rfl⟩)))
theorem GS(r:Nat)(x:RepT):
 DT 13 #[(.pointer (some ⟨r,0,none⟩))] T0 [ah r (RepT.cells x) 87] (RI (.agg (ints x.own.flat).toArray) [ah r (RepT.cells x) 87]):=by
 refine BD 7 Tryz.func13 rfl rfl rfl λw0 F hF=>sr λ_ J1=>XZ uu (ints RowT.zero.flat) λb2=>?_
 refine nx J1 (sr λ_ J2=>P2 ?_);refine FA 9 c9 ba ?_;refine LV 1 dU ba aj Du (y:=x.own) ?_;refine SW 0 ba aj ?_;refine nx J2 (ai (RC 0 [1] dU ba (aj _) ?_));exact⟨rfl,rfl⟩
theorem Ef(r:Nat)(x:RepT):
 DT 12 #[(.pointer (some ⟨r,0,none⟩))] T0 [ah r (RepT.cells x) 87] (RI (.agg (ints x.view.flat).toArray) [ah r (RepT.cells x) 87]):=by
 refine BD 7 Tryz.func12 rfl rfl rfl λw0 F hF=>sr λ_ J1=>XZ se (ints ViewT.zero.flat) λb2=>?_
 refine nx J1 (sr λ_ J2=>P2 ?_);refine FA 2 c9 bf ?_;refine LV 1 eE bf am cM (y:=x.view) ?_;refine SW 0 bf am ?_;refine nx J2 (ai (RC 0 [1] eE bf (am _) ?_));exact⟨rfl,rfl⟩
theorem wT(r:Nat)(x:RepT)(who:Int):
 DT 33 #[(.pointer (some ⟨r,0,none⟩)),(.int .i64 (who))] T0 [ah r (RepT.cells x) 87] (RI (.tuple #[.agg (ints (dp x.mirror who).flat).toArray, .bool (fc x.mirror who)]) [ah r (RepT.cells x) 87]):=by
 refine BD 16 Tryz.func33 rfl rfl rfl λw0 F hF=>sr λ_ J1=>XZ uu (ints RowT.zero.flat) λb4=>?_
 refine PS ?_;refine nx J1 (ab λ_ J2=>D0 mixed ?_);refine PD 0 ?_;refine PD 1 ?_;refine FD 2 183 c9 tF ?_;refine PD 3 ?_;refine PD 5 ?_;refine PD 6 ?_;refine FD 7 183 c9 tF ?_;refine PD 8 ?_;refine AL 4 ?_;refine CE IU (lK r 183 87 (λu=>RepT.cells {x with mirror:=u}) (dW x) x.mirror who) (SM [1]) ?_;refine EN (AL 9 ?_);refine CE MM (m3 r 183 87 (λu=>RepT.cells {x with mirror:=u}) (dW x) x.mirror who) ID ?_;refine EN (AL 10 ?_);refine SW 1 ba aj ?_;refine EN (PD 11 ?_);refine DN (ac J2 (ai (RT 1 [0] dU ba (aj _) ?_)));exact⟨rfl,rfl⟩
theorem Aq(r:Nat)(x:RepT)(rs:List ReplyT)(hrs:rs.length≤1000000):
 DT 31 #[(.pointer (some ⟨r,0,none⟩))] T0 [ah r (RepT.cells x) 87,own x.replies ((rs).length) (ints (List.flatMap ReplyT.flat (rs))) 47 3] (dh (λr' H=>∃u,r'=u∧H=[ah r (RepT.cells x) 87,own x.replies rs.length (ints (List.flatMap ReplyT.flat rs)) 47 3,own u rs.length (ints (List.flatMap ReplyT.flat rs)) 47 3])):=by
 refine BD 8 Tryz.func31 rfl rfl rfl λw0 F hF=>sr λ_ J1=>OK 47 3 (λ_=>PS ?_)
 refine nx J1 (sr λ_ J2=>P2 ?_);refine FA 1942 c9 yg ?_;refine LT 1 Dy x.replies ?_ (hc:=by exact RepT.at_replies x rfl);refine ci (k:=0) (news:=ints (List.flatMap ReplyT.flat rs)) (nn':=rs.length) (xs':=ints (List.flatMap ReplyT.flat rs)) (aa rfl) rfl rfl rfl Dy Hw rfl rfl rfl rfl rfl rfl (λ_ s=>JR 2 rfl rfl s) (bj _) (by simp only[maxLen];omega) (by omega) (by simp) (by simp) (λv7 ov7=>PS ?_);exact nx J2 (ai (WK [1,1,0] (av rfl rfl ⟨_,rfl,rfl⟩)))
end Go.Proofs.YtfocodjhmkokpaaGreatDoor
end

section
namespace Api
open Go Leg Codec Dsk Wal
def kd(w:Int)(x:RowT):RecT:= {RecT.zero with kind:=1,whose:=w,row:=x}
def jr(w:Int):RecT:= {RecT.zero with kind:=2,whose:=w}
def lm(v:ViewT):RecT:= {RecT.zero with kind:=5,view:=v}
def sY(v:Int):MsgT:= {MsgT.zero with kind:=1,version:=v}
def gX(w:Int)(x:RowT):MsgT:= {MsgT.zero with kind:=9,whose:=w,row:=x}
section
variable {x:RepT} {from' w:Int} {y:RowT} {recs:List (List UInt8)}
end
section
variable {x:RepT} {from' w:Int} {v:ViewT} {recs:List (List UInt8)}
end
end Api
end

section
namespace Go.Proofs.YtfocodjhmkokpaaGreatDoor
open Go Leg Codec Api Dsk Wal
theorem GZ(r:Nat)(x:RepT)(o:OpT):
 DT 73 #[(.pointer (some ⟨r,0,none⟩)),(.agg (ints o.flat).toArray)] T0 [ah r (RepT.cells x) 87] (RI (.tuple #[.agg (ints (iI x o).1.flat).toArray, .int .i64 (iI x o).2.1, .int .i64 (iI x o).2.2]) [ah r (RepT.cells x) 87]):=by
 refine BD 121 Tryz.func73 rfl rfl rfl λw0 F hF=>sr λ_ J1=>XY (ints o.flat) λb3=>?_
 refine XZ uu (ints RowT.zero.flat) λb4=>?_
 refine P2 ?_;refine nx J1 (ab λ_ J2=>ab λ_ J3=>D1 2 mixed ?_);refine PD 0 ?_;refine PD 1 ?_;refine FD 2 2 c9 bf ?_;refine ta 3 rfl (aM (vs:=ints x.view.flat) rfl eE rfl bf rfl (λ_ h=>h.2.1) (am x.view) (fS x 0 rfl (by decide) (whole (am x.view)))) ?_;refine PD 4 ?_;refine PD 5 ?_;refine FD 6 0 c9 aR ?_;refine LR 7 Y3 (cD x rfl) ?_;refine AL 8 ?_;refine CE p9 (dD x.view x.id) ID ?_;refine bc ?_ ?_<;>intro h17;refine EN (PD 9 ?_);refine DN (ac J3 (CN (qx J2 (ab λ_ J4=>sr λ_ J5=>FA 3 fk aR ?_))));refine LU 1 Y3 (pE o rfl) ?_;refine PS ?_;refine ao ?_ ?_<;>intro h22;have hkb:m5 o.key=false:=decide_eq_false (by omega);refine PS ?_
 iterate 3 refine UT ?_
 refine PS ?_;refine nx J5 (CY (sr λ_ J6=>BV ((ints RowT.zero.flat).toArray) ?_));refine SW 0 ba aj ?_;refine P2 ?_;refine nx J6 (ai (ae (RU 0 [2] dU ba (aj _) ?_)));exact⟨by simp[iI,gx, *],rfl⟩;refine PS ?_;refine FA 3 fk aR ?_;refine LU 1 Y3 (pE o rfl) ?_;refine PS ?_;refine ao ?_ ?_<;>intro h26;have hkb:m5 o.key=false:=decide_eq_false (by omega);refine PS ?_;refine nx J5 (CY (sr λ_ J7=>BV ((ints RowT.zero.flat).toArray) ?_));refine SW 0 ba aj ?_;refine P2 ?_;refine nx J7 (ai (ae (RU 0 [2] dU ba (aj _) ?_)));exact⟨by simp[iI,gx, *],rfl⟩;have hkb:m5 o.key=true:=decide_eq_true (by omega);refine PS ?_;refine nx J5 (CN (qx J4 (ab λ_ J8=>sr λ_ J9=>FA 0 fk aR ?_)));refine LU 1 Y3 (cI o rfl) ?_;refine PS ?_;refine ao ?_ ?_<;>intro h31;refine nx J9 (CY (ab λ_ J10=>D1 1 mixed ?_));refine ta 0 rfl (jY (cells:=(ints RowT.zero.flat).toArray) rfl rfl (by as_aux_lemma=>kernel_rfl)) ?_;refine PD 1 ?_;refine PD 2 ?_;refine FD 3 1068 c9 DX ?_;refine FD 4 3 fk aR ?_;refine LR 5 Y3 (pE o rfl) ?_;refine AL 6 ?_;refine CE N0 (qo r 1068 87 (λu=>RepT.cells {x with book:=u}) (gH x) x.book o.key) (SM [2]) ?_;refine EN (AL 7 ?_);refine SW 1 ba aj ?_;refine EN (PD 8 ?_);refine PD 9 ?_;refine DN (ac J10 (ai (ae (RU 1 [0] dU ba (aj _) ?_))));exact⟨by simp[iI,gx, *],rfl⟩;refine nx J9 (CN (qx J8 (ab λ_ J11=>sr λ_ J12=>P2 ?_)));refine FA 1938 c9 k0 ?_;refine LU 2 Y4 (yH x rfl) ?_;refine bc ?_ ?_<;>intro h42
 refine nx J12 (CY (sr λ_ J13=>BV ((ints RowT.zero.flat).toArray) ?_));refine SW 0 ba aj ?_;refine P2 ?_;refine nx J13 (ai (ae (RU 0 [2] dU ba (aj _) ?_)));exact⟨by simp[iI,gx, *],rfl⟩;refine nx J12 (CN (qx J11 (sr λ_ J14=>XZ uu (ints RowT.zero.flat) λb7=>?_)));refine nx J14 (sr λ_ J15=>PS ?_);refine nx J15 (ab λ_ J16=>sr λ_ J17=>FA 0 fk aR ?_);refine LU 2 Y3 (cI o rfl) ?_;refine nx J17 (au (sr λ_ J18=>PS ?_));refine ao ?_ ?_<;>intro h47;refine PS ?_;refine nx J18 (CY (D2 3 2 mixed ?_));refine PD 0 ?_;refine PD 1 ?_;refine FD 2 9 c9 ba ?_;refine ta 3 rfl (aM (vs:=ints x.own.flat) rfl dU rfl ba rfl (λ_ h=>h.2.1) (aj x.own) (yF x 0 rfl (by decide) (whole (aj x.own)))) ?_;refine FD 4 3 fk aR ?_;refine LR 5 Y3 (pE o rfl) ?_;refine FD 6 4 fk aR ?_;refine LR 7 Y3 (tm o rfl) ?_;refine AL 8 ?_;refine CE Ot (B5 x.own o.key o.n) ID ?_;refine EN (PD 9 ?_);refine PD 10 ?_;refine PD 11 ?_;refine AL 12 ?_;refine SW 0 ba aj ?_;refine EN (PD 13 ?_);refine DN (ag (ac J16 (ab λ_ J19=>sr λ_ J20=>P2 ?_)));refine ao ?_ ?_<;>intro h98;refine nx J20 (CY (sr λ_ J21=>BV ((ints RowT.zero.flat).toArray) ?_));refine PS ?_;refine SW 1 ba aj ?_;refine P2 ?_;refine nx J21 (ai (ae (RU 1 [3] dU ba (aj _) ?_)));exact⟨by simp[iI,gx, *],rfl⟩;refine nx J20 (CN (qx J19 (ab λ_ J22=>ab λ_ J23=>D2 2 3 mixed ?_)));refine FD 0 0 fk aR ?_;refine LR 1 Y3 (cI o rfl) ?_;refine PD 2 ?_;refine iR ?_ ?_<;>intro h103
 · exact absurd h47 h103
 refine PD 3 ?_;refine NT 4 ?_;refine NT 5 ?_;refine NT 6 ?_;refine NT 7 ?_;refine NT 8 ?_;refine NT 9 ?_;refine NT 10 ?_;refine NT 11 ?_;refine NT 12 ?_;refine NT 13 ?_;refine NT 14 ?_;refine NT 15 ?_;refine NT 16 ?_;refine PD 17 ?_;refine DN (ac J23 (CN (qx J22 (sr λ_ J24=>LW 0 dU ba aj ?_))));refine SW 1 ba aj ?_;refine P2 ?_;refine nx J24 (ai (RU 1 [3] dU ba (aj _) ?_));exact⟨by simp[iI,gx, *],rfl⟩;refine PS ?_;refine nx J18 (CN (sr λ_ J25=>PS ?_));refine ao ?_ ?_<;>intro h61;refine PS ?_;refine nx J25 (CY (D2 3 2 mixed ?_));refine PD 0 ?_;refine PD 1 ?_;refine FD 2 9 c9 ba ?_;refine ta 3 rfl (aM (vs:=ints x.own.flat) rfl dU rfl ba rfl (λ_ h=>h.2.1) (aj x.own) (yF x 0 rfl (by decide) (whole (aj x.own)))) ?_;refine FD 4 3 fk aR ?_;refine LR 5 Y3 (pE o rfl) ?_;refine FD 6 4 fk aR ?_;refine LR 7 Y3 (tm o rfl) ?_;refine AL 8 ?_;refine CE Oq (B6 x.own o.key o.n) ID ?_;refine EN (PD 9 ?_);refine PD 10 ?_;refine PD 11 ?_;refine AL 12 ?_;refine SW 0 ba aj ?_;refine EN (PD 13 ?_);refine DN (ag (ac J16 (ab λ_ J26=>sr λ_ J27=>P2 ?_)));refine ao ?_ ?_<;>intro h98;refine nx J27 (CY (sr λ_ J28=>BV ((ints RowT.zero.flat).toArray) ?_));refine PS ?_;refine SW 1 ba aj ?_;refine P2 ?_;refine nx J28 (ai (ae (RU 1 [3] dU ba (aj _) ?_)));exact⟨by simp[iI,gx, *],rfl⟩;refine nx J27 (CN (qx J26 (ab λ_ J29=>ab λ_ J30=>D2 2 3 mixed ?_)));refine FD 0 0 fk aR ?_;refine LR 1 Y3 (cI o rfl) ?_;refine PD 2 ?_;refine iR ?_ ?_<;>intro h103
 refine PD 3 ?_;refine PD 4 ?_;refine PD 5 ?_;refine FD 6 1068 c9 DX ?_;refine PD 7 ?_;refine PD 8 ?_;refine FD 9 0 c9 aR ?_;refine LR 10 Y3 (cD x rfl) ?_;refine FD 11 3 fk aR ?_;refine LR 12 Y3 (pE o rfl) ?_;refine FD 14 4 fk aR ?_;refine LR 15 Y3 (tm o rfl) ?_;refine AL 13 ?_;refine CE L5 (pj r 1068 87 (λu=>RepT.cells {x with book:=u}) (gH x) x.book x.id o.key) (SM [3]) ?_;refine EN (PD 16 ?_);refine iR ?_ ?_<;>intro h117;refine PD 17 ?_;refine DN (ac J30 (CY (sr λ_ J31=>BV ((ints RowT.zero.flat).toArray) ?_)));refine SW 2 ba aj ?_;refine P2 ?_;refine nx J31 (ai (ae (RU 2 [0] dU ba (aj _) ?_)));exact⟨by simp[iI,gx, *],rfl⟩;refine PD 17 ?_;refine DN (ac J30 (CN (qx J29 (sr λ_ J32=>LW 1 dU ba aj ?_))));refine SW 2 ba aj ?_;refine P2 ?_;refine nx J32 (ai (RU 2 [0] dU ba (aj _) ?_));exact⟨by simp[iI,gx, *],rfl⟩
 · exact absurd h47 h103
 refine PS ?_;refine nx J25 (CN (sr λ_ J33=>PS ?_));refine ao ?_ ?_<;>intro h75;refine PS ?_;refine nx J33 (CY (ab λ_ J34=>D2 2 3 mixed ?_));refine FD 0 2 fk aR ?_;refine LR 1 Y3 (iy o rfl) ?_;refine PD 2 ?_;refine PD 3 ?_;refine FD 4 0 c9 aR ?_;refine LR 5 Y3 (cD x rfl) ?_;refine PD 6 ?_;refine iR ?_ ?_<;>intro h82;refine DN (ac J34 (CY (D2 3 2 mixed ?_)));refine PD 0 ?_;refine PD 1 ?_;refine FD 2 9 c9 ba ?_;refine ta 3 rfl (aM (vs:=ints x.own.flat) rfl dU rfl ba rfl (λ_ h=>h.2.1) (aj x.own) (yF x 0 rfl (by decide) (whole (aj x.own)))) ?_;refine FD 4 3 fk aR ?_;refine LR 5 Y3 (pE o rfl) ?_;refine FD 6 4 fk aR ?_;refine LR 7 Y3 (tm o rfl) ?_;refine FD 8 2 fk aR ?_;refine LR 9 Y3 (iy o rfl) ?_;refine AL 10 ?_;refine CE Oo (Ao x.own o.key o.n o.to') ID ?_;refine EN (PD 11 ?_);refine PD 12 ?_;refine PD 13 ?_;refine AL 14 ?_;refine SW 0 ba aj ?_;refine EN (PD 15 ?_);refine DN (ag (ac J16 (ab λ_ J35=>sr λ_ J36=>P2 ?_)));refine ao ?_ ?_<;>intro h98;refine nx J36 (CY (sr λ_ J37=>BV ((ints RowT.zero.flat).toArray) ?_));refine PS ?_;refine SW 1 ba aj ?_;refine P2 ?_;refine nx J37 (ai (ae (RU 1 [3] dU ba (aj _) ?_)));exact⟨by simp[iI,gx, *],rfl⟩;refine nx J36 (CN (qx J35 (ab λ_ J38=>ab λ_ J39=>D2 2 3 mixed ?_)));refine FD 0 0 fk aR ?_;refine LR 1 Y3 (cI o rfl) ?_;refine PD 2 ?_;refine iR ?_ ?_<;>intro h103;refine PD 3 ?_;refine PD 4 ?_;refine PD 5 ?_;refine FD 6 1068 c9 DX ?_;refine PD 7 ?_;refine PD 8 ?_;refine FD 9 0 c9 aR ?_
 refine LR 10 Y3 (cD x rfl) ?_;refine FD 11 3 fk aR ?_;refine LR 12 Y3 (pE o rfl) ?_;refine FD 14 4 fk aR ?_;refine LR 15 Y3 (tm o rfl) ?_;refine AL 13 ?_;refine CE L5 (pj r 1068 87 (λu=>RepT.cells {x with book:=u}) (gH x) x.book x.id o.key) (SM [3]) ?_;refine EN (PD 16 ?_);refine iR ?_ ?_<;>intro h117;refine PD 17 ?_;refine DN (ac J39 (CY (sr λ_ J40=>BV ((ints RowT.zero.flat).toArray) ?_)));refine SW 2 ba aj ?_;refine P2 ?_;refine nx J40 (ai (ae (RU 2 [0] dU ba (aj _) ?_)));exact⟨by simp[iI,gx, *],rfl⟩;refine PD 17 ?_;refine DN (ac J39 (CN (qx J38 (sr λ_ J41=>LW 1 dU ba aj ?_))));refine SW 2 ba aj ?_;refine P2 ?_;refine nx J41 (ai (RU 2 [0] dU ba (aj _) ?_));exact⟨by simp[iI,gx, *],rfl⟩
 · exact absurd h47 h103
 refine DN (ac J34 (CN (aT (ag (ac J16 (ab λ_ J42=>sr λ_ J43=>P2 ?_))))));refine nx J43 (CY (sr λ_ J44=>BV ((ints RowT.zero.flat).toArray) ?_));refine PS ?_;refine SW 1 ba aj ?_;refine P2 ?_;refine nx J44 (ai (ae (RU 1 [3] dU ba (aj _) ?_)));exact⟨by simp[iI,gx, *],rfl⟩;refine PS ?_;refine nx J33 (CN (aT (ag (ac J16 (ab λ_ J45=>sr λ_ J46=>P2 ?_)))));refine nx J46 (CY (sr λ_ J47=>BV ((ints RowT.zero.flat).toArray) ?_));refine PS ?_;refine SW 1 ba aj ?_;refine P2 ?_;refine nx J47 (ai (ae (RU 1 [3] dU ba (aj _) ?_)));exact⟨by simp[iI,gx, *],rfl⟩;refine EN (PD 9 ?_);refine DN (ac J3 (CY (sr λ_ J48=>BV ((ints RowT.zero.flat).toArray) ?_)));refine SW 0 ba aj ?_;refine P2 ?_;refine nx J48 (ai (ae (RU 0 [2] dU ba (aj _) ?_)));exact⟨by simp[iI,gx, *],rfl⟩
theorem EH(x:Value)(l:List Int)(v:Int)(hl:l.length≤1000000):
    DT 181 #[x,(.int .i64 (v))] (IsI .i64 x l) [] (dh (λr' H=>∃n:Int,r'= .int .i64 n∧(decide (n≥0)=true↔v∈l)∧H=[])):=by
 refine BD 19 Tryz.func181 rfl rfl rfl λw0 F hF=>sr λ_ J1=>PS ?_
 refine nx J1 (ab λ_ J2=>sr λ_ J3=>PS ?_);refine tp (dq rfl iL rfl hF.len) ?_;refine PS ?_;refine nx J3 (au ?_)
 refine bu (α:=(Nat)) (λk=>k≤l.length∧∀(j:Nat),j<k→l.getD j 0≠v) (λk=>[(0,x),(1,(.int .i64 (v))),(7,(.int .i64 (((l.length:Nat):Int)))),(8,(.int .i64 (((k:Nat):Int))))]) (λk=>[]) (λk=>l.length-k) 0
     ⟨aN _,λj h=>absurd h (by omega)⟩ SB
     (λ_ s=>s) (λk hinv=>?_)
 obtain⟨hk,hv⟩:=hinv;refine sr λ_ J4=>PS ?_
 refine ao ?_ ?_<;>intro h9;obtain⟨b_a,off_a,cap_a,cs_a,T_a,z_a,hv_a,hb_a,hcs_a,hcp_a⟩:=IsI.at hF (j:=k) (by omega);refine nx J4 (ab λ_ J5=>CY (qx J5 (ab λ_ J6=>au (sr λ_ J7=>P2 ?_))));refine nx J7 (sr λ_ J8=>P3 ?_);refine tp (be (r:=off_a+k) hv_a rfl iL aR rfl rfl (by omega) (by omega) (by omega)) ?_;refine tp (ca (v:=(.int .i64 ((l.getD k 0)))) rfl Y3 rfl rfl (jl hb_a (λ_ h=>ec h)) hcs_a) ?_;refine PS ?_;refine ao ?_ ?_<;>intro h16;refine nx J8 (CY (sr λ_ J9=>P2 ?_));refine nx J9 (ai (aH (ae (ae (aH (ae (WK [] (av rfl rfl ?_))))))));exact⟨((k:Nat):Int),rfl,by rw[decide_eq_true_iff];exact⟨λ_=>by rw[h16,List.getD_eq_getElem?_getD,List.getElem?_eq_getElem (by omega)];exact cR _,λ_=>by omega⟩,rfl⟩;refine nx J8 (CN (aT (ag (ac J6 (ad (AD ?_))))));refine PS ?_;refine aq ?_
 exact aJ ((k+1):(Nat)) ⟨by omega,λj hj=>by
        by_cases q:j=k
        · subst q;exact λe=>h16 e.symm
        · exact hv j (by omega)⟩ (by show l.length- (k+1)<l.length-k;omega)
   SB
   (λ_ s=>s)
 refine nx J4 (ab λ_ J10=>CN (aY (aC (aC (bo (ac J2 (sr λ_ J11=>PS ?_)))))));refine nx J11 (ai (WK [] (av rfl rfl ?_)))
 exact⟨-1,rfl,by
      rw[decide_eq_true_iff];constructor
      · intro h;omega
      · intro h
        obtain⟨j,hj,e⟩:=fe h;have:=hv j (by omega);rw[List.getD_eq_getElem?_getD,List.getElem?_eq_getElem hj]at this
        exact absurd e this,rfl⟩
theorem q9(x:Value)(l:List Int)(v:Int)(hl:l.length≤1000000):
 DT 158 #[x,(.int .i64 (v))] (IsI .i64 x l) [] (RI (.bool (decide (v∈l))) []):=by
 refine BD 9 Tryz.func158 rfl rfl rfl λw0 F hF=>sr λ_ J1=>PS ?_
 refine nx J1 (sr λ_ J2=>P2 ?_);refine CQ NX (EH x l v hl) ID (λ_ d _=>IsI.more hF d) λvR HR hR=>?_
 obtain⟨n,rfl,hn,rfl⟩:=hR;refine P2 ?_;refine nx J2 (ai (WK [] (av rfl rfl ?_)));exact⟨congrArg Value.bool (by rw[Ng,hn,decide_eq_true_iff]),rfl⟩
theorem rj(t c:Nat)(A v:Value)(bs ys:List UInt8)(hA:A= .pointer none∨A= .pointer (some ⟨t,1,none⟩))(hv:v.oneCell'=true)(hb:bs.length+ys.length≤1000000):DT 64 #[.pointer (some ⟨t,1,none⟩),mp ys] T0 [ah t [.pointer (some ⟨c,0,none⟩),A,v] 102,ce v bs 5] (dh (λ_ H=>∃v',v'.oneCell'=true∧H=[ah t [.pointer (some ⟨c,0,none⟩), .pointer (some ⟨t,1,none⟩),v'] 102,ce v' (bs++ys) 5])):=by
 rcases hA with rfl|rfl
 · exact Bk t c v bs ys hv hb
 · exact Bj t c v bs ys hv hb
def KV(n:Int):List UInt8:=PM n.toNat
def IR(l:List Int):List UInt8:=l.flatMap λn=>32::KV n
def FV(ws:List UInt8)(l:List Int):List UInt8:=ws++IR l++[10]
end Go.Proofs.YtfocodjhmkokpaaGreatDoor
end

section
namespace Go.Proofs
open Go.Shelf
def Tryz.laysItoa_ren:Go.Shelf.Ren:=⟨fun|171=>63|243=>101|246=>137|283=>166|284=>167|285=>168|286=>169|129=>186|317=>185|318=>187|319=>188|320=>189|337=>193|338=>194|n=>n,fun|3=>3|9=>9|2=>2|4=>4|171=>236|0=>0|53=>237|37=>53|5=>5|173=>240|212=>260|51=>254|20=>20|213=>261|46=>109|232=>266|233=>173|n=>n,fun|17=>0|18=>1|19=>2|n=>n⟩
theorem Tryz.laysItoa:Go.Proofs.LaysM.n171 Tryz.prog Tryz.laysItoa_ren:= {
 mixed:=by kernel_rfl
 f129:=Tryz.func186.trans (congrArg some (by kernel_rfl))
 f171:=Tryz.func63.trans (congrArg some (by kernel_rfl))
 f243:=Tryz.func101.trans (congrArg some (by kernel_rfl))
 f246:=Tryz.func137.trans (congrArg some (by kernel_rfl))
 f283:=Tryz.func166.trans (congrArg some (by kernel_rfl))
 f284:=Tryz.func167.trans (congrArg some (by kernel_rfl))
 f285:=Tryz.func168.trans (congrArg some (by kernel_rfl))
 f286:=Tryz.func169.trans (congrArg some (by kernel_rfl))
 f317:=Tryz.func185.trans (congrArg some (by kernel_rfl))
 f318:=Tryz.func187.trans (congrArg some (by kernel_rfl))
 f319:=Tryz.func188.trans (congrArg some (by kernel_rfl))
 f320:=Tryz.func189.trans (congrArg some (by kernel_rfl))
 f337:=Tryz.func193.trans (congrArg some (by kernel_rfl))
 f338:=Tryz.func194.trans (congrArg some (by kernel_rfl))
 t0:=Tryz.underlying0
 a0:=Tryz.isAgg0
 z0:=Tryz.sizeOf0
 v0:=Tryz.zeroValue0
 t2:=Tryz.underlying2
 a2:=Tryz.isAgg2
 z2:=Tryz.sizeOf2
 v2:=Tryz.zeroValue2
 t3:=Tryz.underlying3
 a3:=Tryz.isAgg3
 z3:=Tryz.sizeOf3
 v3:=Tryz.zeroValue3
 t4:=Tryz.underlying4
 a4:=Tryz.isAgg4
 z4:=Tryz.sizeOf4
 v4:=Tryz.zeroValue4
 t5:=Tryz.underlying5
 a5:=Tryz.isAgg5
 z5:=Tryz.sizeOf5
 v5:=Tryz.zeroValue5
 t9:=Tryz.underlying9
 a9:=Tryz.isAgg9
 z9:=Tryz.sizeOf9
 v9:=Tryz.zeroValue9
 t20:=Tryz.underlying20
 a20:=Tryz.isAgg20
 z20:=Tryz.sizeOf20
 v20:=Tryz.zeroValue20
 t37:=Tryz.underlying53
 a37:=Tryz.isAgg53
 z37:=Tryz.sizeOf53
 v37:=Tryz.zeroValue53
 t46:=Tryz.underlying109
 a46:=Tryz.isAgg109
 z46:=Tryz.sizeOf109
 v46:=Tryz.zeroValue109
 t51:=Tryz.underlying254
 a51:=Tryz.isAgg254
 z51:=Tryz.sizeOf254
 v51:=Tryz.zeroValue254
 t53:=Tryz.underlying237
 a53:=Tryz.isAgg237
 z53:=Tryz.sizeOf237
 v53:=Tryz.zeroValue237
 t171:=Tryz.underlying236
 a171:=Tryz.isAgg236
 z171:=Tryz.sizeOf236
 v171:=Tryz.zeroValue236
 t173:=Tryz.underlying240
 a173:=Tryz.isAgg240
 z173:=Tryz.sizeOf240
 v173:=Tryz.zeroValue240
 t212:=Tryz.underlying260
 a212:=Tryz.isAgg260
 z212:=Tryz.sizeOf260
 v212:=Tryz.zeroValue260
 t213:=Tryz.underlying261
 a213:=Tryz.isAgg261
 z213:=Tryz.sizeOf261
 t232:=Tryz.underlying266
 a232:=Tryz.isAgg266
 z232:=Tryz.sizeOf266
 v232:=Tryz.zeroValue266
 t233:=Tryz.underlying173
 a233:=Tryz.isAgg173
 z233:=Tryz.sizeOf173
 v233:=Tryz.zeroValue173
 g17:=by kernel_rfl
 g18:=by kernel_rfl
 g19:=by kernel_rfl
 i0:=by kernel_rfl
 i2:=by kernel_rfl
 i3:=by kernel_rfl
 i4:=by kernel_rfl
 i5:=by kernel_rfl
 i9:=by kernel_rfl
 i20:=by kernel_rfl
 i37:=by kernel_rfl
 i46:=by kernel_rfl
 i51:=by kernel_rfl
 i53:=by kernel_rfl
 i171:=by kernel_rfl
 i173:=by kernel_rfl
 i212:=by kernel_rfl
 i232:=by kernel_rfl
 i233:=by kernel_rfl
 m17:=by kernel_rfl
 m18:=by kernel_rfl
 m19:=by kernel_rfl}
end Go.Proofs
end
