/-
  Joined texts:what a statement's proof reaches.
-/
import Derived.OpenShut
import Derived.Deep.Slices
import Derived.ChangeArms
import Derived.Test.YtfocodjhmkokpaaGreatDoorPTL3
set_option maxHeartbeats 8000000
set_option maxRecDepth 100000
set_option linter.unusedSimpArgs false
set_option linter.unusedVariables false
section
namespace Go.Proofs.YtfocodjhmkokpaaGreatDoor
open Go Leg Codec Api
theorem tK:(Tryz.prog.info? 75).map (·.size)=some 870:=by kernel_rfl
theorem tJ:(Tryz.prog.info? 78).map (·.size)=some 875:=by kernel_rfl
theorem Ei:(Tryz.prog.info? 85).map (·.size)=some 870:=by kernel_rfl
theorem Mq:NM 158:=nk Tryz.func158
theorem Ow:NM 181:=nk Tryz.func181
theorem kb(w:Int):
 DT 99 #[(.int .i64 (w))] T0 [] (RI (.bool (cM w)) []):=by
 refine BD 9 Tryz.func99 rfl rfl rfl λw0 F hF=>sr λ_ J1=>PS ?_
 refine nx J1 (sr λ_ J2=>P2 ?_);refine ao ?_ ?_<;>intro h4
 iterate 5 refine PS ?_
 refine nx J2 (ai (av rfl rfl ?_));exact⟨congrArg Value.bool (by unfold cM;first| (rw[decide_eq_decide];omega)| (symm;rw[decide_eq_false_iff_not];omega)| (symm;rw[decide_eq_true_iff];omega)),rfl⟩;refine PS ?_;refine UF ?_;refine UF ?_;refine P2 ?_;refine nx J2 (ai (av rfl rfl ?_));exact⟨congrArg Value.bool (by unfold cM;first| (rw[decide_eq_decide];omega)| (symm;rw[decide_eq_false_iff_not];omega)| (symm;rw[decide_eq_true_iff];omega)),rfl⟩
theorem lu(w:Int):
 DT 58 #[(.int .i64 (w))] T0 [] (RI (.bool (cM w)) []):=by
 refine BD 9 Tryz.func58 rfl rfl rfl λw0 F hF=>sr λ_ J1=>PS ?_
 refine nx J1 (sr λ_ J2=>P2 ?_);refine ao ?_ ?_<;>intro h4
 iterate 5 refine PS ?_
 refine nx J2 (ai (av rfl rfl ?_));exact⟨congrArg Value.bool (by unfold cM;first| (rw[decide_eq_decide];omega)| (symm;rw[decide_eq_false_iff_not];omega)| (symm;rw[decide_eq_true_iff];omega)),rfl⟩;refine PS ?_;refine UF ?_;refine UF ?_;refine P2 ?_;refine nx J2 (ai (av rfl rfl ?_));exact⟨congrArg Value.bool (by unfold cM;first| (rw[decide_eq_decide];omega)| (symm;rw[decide_eq_false_iff_not];omega)| (symm;rw[decide_eq_true_iff];omega)),rfl⟩
theorem ik(w:Int):
 DT 97 #[(.int .i64 (w))] T0 [] (RI (.bool (cM w)) []):=by
 refine BD 9 Tryz.func97 rfl rfl rfl λw0 F hF=>sr λ_ J1=>PS ?_
 refine nx J1 (sr λ_ J2=>P2 ?_);refine ao ?_ ?_<;>intro h4
 iterate 5 refine PS ?_
 refine nx J2 (ai (av rfl rfl ?_));exact⟨congrArg Value.bool (by unfold cM;first| (rw[decide_eq_decide];omega)| (symm;rw[decide_eq_false_iff_not];omega)| (symm;rw[decide_eq_true_iff];omega)),rfl⟩;refine PS ?_;refine UF ?_;refine UF ?_;refine P2 ?_;refine nx J2 (ai (av rfl rfl ?_));exact⟨congrArg Value.bool (by unfold cM;first| (rw[decide_eq_decide];omega)| (symm;rw[decide_eq_false_iff_not];omega)| (symm;rw[decide_eq_true_iff];omega)),rfl⟩
theorem rY(key n:Int):
 DT 149 #[(.int .i64 (key)),(.int .i64 (n))] T0 [] (RI (.bool (xW key n)) []):=by
 refine BD 19 Tryz.func149 rfl rfl rfl λw0 F hF=>sr λ_ J1=>PS ?_
 refine nx J1 (sr λ_ J2=>P2 ?_);refine ao ?_ ?_<;>intro h6;refine P3 ?_;refine ao ?_ ?_<;>intro h9;refine P4 ?_;refine ao ?_ ?_<;>intro h13;refine P3 ?_;refine CE Jj (jU n) ID ?_;refine P2 ?_;refine nx J2 (ai (WK [] (av rfl rfl ?_)));exact⟨congrArg Value.bool (by simp[xW,na, *]),rfl⟩;refine P2 ?_;refine UF ?_;refine UF ?_;refine P2 ?_;refine nx J2 (ai (WK [] (av rfl rfl ?_)));exact⟨congrArg Value.bool (by simp[xW,na, *]),rfl⟩;refine P2 ?_;refine UF ?_;refine UF ?_;refine P2 ?_;refine UF ?_;refine UF ?_;refine P2 ?_;refine nx J2 (ai (WK [] (av rfl rfl ?_)));exact⟨congrArg Value.bool (by simp[xW,na, *]),rfl⟩;refine PS ?_;refine UF ?_;refine UF ?_;refine P2 ?_;refine UF ?_;refine UF ?_;refine P2 ?_;refine UF ?_;refine UF ?_;refine P2 ?_;refine nx J2 (ai (WK [] (av rfl rfl ?_)));exact⟨congrArg Value.bool (by simp[xW,na, *]),rfl⟩
theorem HO(b off T:Nat)(cs:List Value)(n:Int)(h:cs[off]?=some (.int .i64 n)):
 DT 151 #[(.pointer (some ⟨b,off,none⟩))] T0 [ah b (cs) T] (RI (.tuple #[.int .i64 n, .pointer (some ⟨b,off,none⟩)]) [ah b cs T]):=by
 refine BD 11 Tryz.func151 rfl rfl rfl λw0 F hF=>sr λ_ J1=>P2 ?_
 refine nx J1 (ab λ_ J2=>D1 0 mixed ?_);refine PD 0 ?_;refine PD 1 ?_;refine ta 2 rfl (aZ (r:=off) rfl mM rfl aR rfl rfl) ?_;refine LX 3 Y3 (.int .i64 (n)) ?_ (hc:=by exact h);refine PD 4 ?_;refine PD 5 ?_;refine ta 6 rfl (aZ (r:=off) rfl mM rfl aR rfl rfl) ?_;refine PD 7 ?_;refine PD 8 ?_;exact DN (ac J2 (ai (WK [0] (gU rfl rfl rfl ⟨rfl,rfl⟩))))
theorem H6(b off T:Nat)(cs:List Value)(n:Int)(h:cs[off+1]?=some (.int .i64 n)):
 DT 152 #[(.pointer (some ⟨b,off,none⟩))] T0 [ah b (cs) T] (RI (.tuple #[.int .i64 n, .pointer (some ⟨b,off+1,none⟩)]) [ah b cs T]):=by
 refine BD 11 Tryz.func152 rfl rfl rfl λw0 F hF=>sr λ_ J1=>P2 ?_
 refine nx J1 (ab λ_ J2=>D1 0 mixed ?_);refine PD 0 ?_;refine PD 1 ?_;refine ta 2 rfl (aZ (r:=off+1) rfl mM rfl aR rfl rfl) ?_;refine LX 3 Y3 (.int .i64 (n)) ?_ (hc:=by exact h);refine PD 4 ?_;refine PD 5 ?_;refine ta 6 rfl (aZ (r:=off+1) rfl mM rfl aR rfl rfl) ?_;refine PD 7 ?_;refine PD 8 ?_;exact DN (ac J2 (ai (WK [0] (gU rfl rfl rfl ⟨rfl,rfl⟩))))
theorem Fb(b off T tb:Nat)(cs:List Value)(g:Vector Int 5)(to':Int)(ht:0≤to'∧to'<5)(h:(cs.drop (off+2)).take 5=ints g.toList):
 DT 153 #[(.pointer (some ⟨b,off,none⟩)),(.pointer (some ⟨tb,0,none⟩))] T0 [ah b (cs) T,ah tb [(.int .i64 (to'))] 3] (RI (.tuple #[.int .i64 (g.toList.foldl (λs g=>fQ (s+g)) 0), .pointer (some ⟨b,off+2+to'.toNat,none⟩)]) [ah b cs T,ah tb [.int .i64 to'] 3]):=by
 refine BD 25 Tryz.func153 rfl rfl rfl λw0 F hF=>sr λ_ J1=>P2 ?_
 refine nx J1 (sr λ_ J2=>PS ?_);refine nx J2 (ab λ_ J3=>sr λ_ J4=>P2 ?_);refine tp (aZ (r:=off+2) rfl mM rfl eW rfl rfl) ?_;refine tp (aN (vs:=ints g.toList) rfl jO rfl eW rfl (RO 0) (dq g) h) ?_;refine PS ?_;refine nx J4 (au ?_)
 refine bn (α:=(Nat)×(Int)) (λ⟨k,s⟩=>k≤5∧s=(g.toList.take k).foldl (λs g=>fQ (s+g)) 0) (λ⟨k,s⟩=>[(0,(.pointer (some ⟨b,off,none⟩))),(1,(.pointer (some ⟨tb,0,none⟩))),(3,(.int .i64 0)),(4,(.pointer none)),(5,(.int .i64 (s))),(11,(.agg (ints g.toList).toArray)),(12,(.int .i64 (((k:Nat):Int))))]) (λ⟨k,s⟩=>[ah b (cs) T,ah tb [(.int .i64 (to'))] 3]) (λ⟨k,s⟩=>5-k) (0,0)
  ⟨aM _,rfl⟩ SB
  (λ_ s=>s) (λ⟨k,s⟩ hinv=>?_)
 obtain⟨hk,hs⟩:=hinv;refine sr λ_ J5=>PS ?_
 refine ao ?_ ?_<;>intro h13;refine nx J5 (ab λ_ J6=>CY (qx J6 (ab λ_ J7=>au (sr λ_ J8=>tp (nG (cs:=ints g.toList) (v:=Value.int .i64 (g[k]'(by omega))) (r:=k) rfl jO Y3 rfl aR rfl rfl (by omega) (by omega) (by omega) (kq g (by omega))) ?_))));refine PS ?_;refine nx J8 (ad (P2 ?_));refine tp (cr (r:=(fQ (s+(g[k]'(by omega))))) rfl rfl rfl rfl) ?_;refine PS ?_;refine ap (ag (ac J7 (ad (AD ?_))));refine PS ?_;refine ap ?_
 exact aI ((k+1,(fQ (s+(g[k]'(by omega))))):(Nat)×(Int)) ⟨by omega,by rw[br (by simp;omega),eU,←hs];simp⟩ (by show 5- (k+1)<5-k;omega)
  SB
  (λ_ s=>s)
 refine nx J5 (ab λ_ J9=>CN (aX (aA (aA (bl (ac J3 (ab λ_ J10=>D1 1 mixed ?_)))))));refine PD 0 ?_;refine PD 1 ?_;refine LX 2 Y3 (.int .i64 (to')) ?_ (hc:=by exact rfl);refine PD 3 ?_;refine ta 4 rfl (aZ (r:=off+2) rfl mM rfl eW rfl rfl) ?_;refine IY 5 (off+2+(to').toNat) jO aR ?_;refine PD 6 ?_;refine PD 7 ?_;refine DN (ac J10 (ai (WK [0,0] (gU rfl rfl rfl ?_))));exact⟨by rw[hs,az (by simp;omega)],rfl⟩
theorem AR(x:RowT)(key n:Int)(hk:0≤key∧key<4)(hn:1≤n∧n≤1099511627776):
 DT 150 #[(.agg (ints x.flat).toArray),(.int .i64 (key)),(.int .i64 (n)),(.func (.func 151) #[] #[])] T0 [] (RI (.tuple #[.agg (ints (kW x key n (dN x key).inn {dN x key with inn:=fQ ((dN x key).inn+n)}).1.flat).toArray, .int .i64 (kW x key n (dN x key).inn {dN x key with inn:=fQ ((dN x key).inn+n)}).2]) []):=by
 refine BD 36 Tryz.func150 rfl rfl rfl λw0 F hF=>?_
 have hkb:na key=true:=decide_eq_true hk;have hcell:dN x key=x.cells[key.toNat]'(by omega):=by rw[dN,dif_pos hkb]
 refine sr λ_ J1=>XY (ints x.flat) λb4=>?_
 refine XZ uB (ints RowT.zero.flat) λb8=>?_
 refine PS ?_;refine nx J1 (sr λ_ J2=>P2 ?_);refine FA 1 dV lG ?_;refine IX (1+key.toNat*7) Bo fy ?_;refine TL.callRv (aa rfl) rfl rfl rfl rfl OM rfl (HO b4 (1+key.toNat*7) 39 (ints x.flat) x.cells[key.toNat].inn (vB x (key.toNat*7) (by omega) (by omega) (nU bw x.cells (i:=key.toNat) 0 (by omega) (by omega) (by decide) (se _ rfl)))) (λ_ s=>aC [1] rfl s) (λ_ _ _=>trivial) (λvR HR hR=>?_);obtain⟨rfl,rfl⟩:=hR;refine P4 ?_;refine PS ?_;refine nx J2 (ab λ_ J3=>sr λ_ J4=>P2 ?_);refine tp (iz (r:=(1099511627776-n)) rfl rfl rfl (bH (by omega) (by omega))) ?_;refine PS ?_;refine ao ?_ ?_<;>intro h23;refine nx J4 (CY (sr λ_ J5=>BV ((ints RowT.zero.flat).toArray) ?_));refine SW 1 ba aj ?_;refine PS ?_;refine nx J5 (ai (af (RT 1 [] dV ba (aj _) ?_)));exact⟨by rw[kW,hcell,if_pos h23],rfl⟩;refine nx J4 (CN (qx J3 (sr λ_ J6=>P2 ?_)));refine LT 0 Y3 (.int .i64 ((x.cells[key.toNat]'(by omega)).inn)) ?_ (hc:=by exact vB x (key.toNat*7) (by omega) (by omega) (nU bw x.cells (i:=key.toNat) 0 (by omega) (by omega) (by decide) (se (x.cells[key.toNat]'(by omega)) rfl)));refine PS ?_;refine tp (cr (r:=(fQ (((x.cells[key.toNat]'(by omega)).inn)+n))) rfl rfl rfl rfl) ?_;refine PS ?_
 refine bz (i:=0) (aa rfl) rfl rfl rfl rfl rfl aR rfl rfl (LB (aj _)) (Qw x (key.toNat*7) (by omega) (by omega) (Iz bw x.cells (i:=key.toNat) 0 (by omega) (by omega) (by decide) (CellT.set_inn _ rfl _))) rfl (nx J6 (sr λ_ J7=>FA 0 dV aR ?_));refine LT 0 Y3 (.int .i64 (x.version)) ?_ (hc:=by exact cy _ rfl);refine tp (cr (r:=(fQ (x.version+1))) rfl rfl rfl rfl) ?_;refine FA 0 dV aR ?_;refine bz (i:=0) (aa rfl) rfl rfl rfl rfl rfl aR rfl rfl (LB (aj _)) (x8 _ rfl _) rfl (nx J7 (sr λ_ J8=>LW 0 dV ba aj ?_));refine SW 1 ba aj ?_;refine PS ?_;refine nx J8 (ai (RT 1 [] dV ba (aj _) ?_));refine⟨?_,rfl⟩;rw[kW,hcell,if_neg h23,lA,dif_pos hkb]
theorem AS(x:RowT)(key n:Int)(hk:0≤key∧key<4)(hn:1≤n∧n≤1099511627776):
 DT 150 #[(.agg (ints x.flat).toArray),(.int .i64 (key)),(.int .i64 (n)),(.func (.func 152) #[] #[])] T0 [] (RI (.tuple #[.agg (ints (kW x key n (dN x key).out {dN x key with out:=fQ ((dN x key).out+n)}).1.flat).toArray, .int .i64 (kW x key n (dN x key).out {dN x key with out:=fQ ((dN x key).out+n)}).2]) []):=by
 refine BD 36 Tryz.func150 rfl rfl rfl λw0 F hF=>?_
 have hkb:na key=true:=decide_eq_true hk;have hcell:dN x key=x.cells[key.toNat]'(by omega):=by rw[dN,dif_pos hkb]
 refine sr λ_ J1=>XY (ints x.flat) λb4=>?_
 refine XZ uB (ints RowT.zero.flat) λb8=>?_
 refine PS ?_;refine nx J1 (sr λ_ J2=>P2 ?_);refine FA 1 dV lG ?_;refine IX (1+key.toNat*7) Bo fy ?_;refine TL.callRv (aa rfl) rfl rfl rfl rfl OL rfl (H6 b4 (1+key.toNat*7) 39 (ints x.flat) x.cells[key.toNat].out (vB x (key.toNat*7+1) (by omega) (by omega) (nU bw x.cells (i:=key.toNat) 1 (by omega) (by omega) (by decide) (sd _ rfl)))) (λ_ s=>aC [1] rfl s) (λ_ _ _=>trivial) (λvR HR hR=>?_);obtain⟨rfl,rfl⟩:=hR;refine P4 ?_;refine PS ?_;refine nx J2 (ab λ_ J3=>sr λ_ J4=>P2 ?_);refine tp (iz (r:=(1099511627776-n)) rfl rfl rfl (bH (by omega) (by omega))) ?_;refine PS ?_;refine ao ?_ ?_<;>intro h23;refine nx J4 (CY (sr λ_ J5=>BV ((ints RowT.zero.flat).toArray) ?_));refine SW 1 ba aj ?_;refine PS ?_;refine nx J5 (ai (af (RT 1 [] dV ba (aj _) ?_)));exact⟨by rw[kW,hcell,if_pos h23],rfl⟩;refine nx J4 (CN (qx J3 (sr λ_ J6=>P2 ?_)));refine LT 0 Y3 (.int .i64 ((x.cells[key.toNat]'(by omega)).out)) ?_ (hc:=by exact vB x (key.toNat*7+1) (by omega) (by omega) (nU bw x.cells (i:=key.toNat) 1 (by omega) (by omega) (by decide) (sd (x.cells[key.toNat]'(by omega)) rfl)));refine PS ?_;refine tp (cr (r:=(fQ (((x.cells[key.toNat]'(by omega)).out)+n))) rfl rfl rfl rfl) ?_;refine PS ?_
 refine bz (i:=0) (aa rfl) rfl rfl rfl rfl rfl aR rfl rfl (LB (aj _)) (Qw x (key.toNat*7+1) (by omega) (by omega) (Iz bw x.cells (i:=key.toNat) 1 (by omega) (by omega) (by decide) (CellT.set_out _ rfl _))) rfl (nx J6 (sr λ_ J7=>FA 0 dV aR ?_));refine LT 0 Y3 (.int .i64 (x.version)) ?_ (hc:=by exact cy _ rfl);refine tp (cr (r:=(fQ (x.version+1))) rfl rfl rfl rfl) ?_;refine FA 0 dV aR ?_;refine bz (i:=0) (aa rfl) rfl rfl rfl rfl rfl aR rfl rfl (LB (aj _)) (x8 _ rfl _) rfl (nx J7 (sr λ_ J8=>LW 0 dV ba aj ?_));refine SW 1 ba aj ?_;refine PS ?_;refine nx J8 (ai (RT 1 [] dV ba (aj _) ?_));refine⟨?_,rfl⟩;rw[kW,hcell,if_neg h23,lA,dif_pos hkb]
theorem yr(x:RowT)(key n:Int)(hk:0≤key∧key<4)(hn:1≤n∧n≤1099511627776)(tb:Nat)(to':Int)(ht:0≤to'∧to'<5):
 DT 150 #[(.agg (ints x.flat).toArray),(.int .i64 (key)),(.int .i64 (n)),(.func (.func 153) #[] #[(.pointer (some ⟨tb,0,none⟩))])] T0 [ah tb [(.int .i64 (to'))] 3] (RI (.tuple #[.agg (ints (kW x key n (IN (dN x key)) (xy (dN x key) to' (fQ (lB (dN x key) to'+n)))).1.flat).toArray, .int .i64 (kW x key n (IN (dN x key)) (xy (dN x key) to' (fQ (lB (dN x key) to'+n)))).2]) [ah tb [.int .i64 to'] 3]):=by
 refine Leg.Does.body (vs:=[(.agg (ints x.flat).toArray),(.int .i64 (key)),(.int .i64 (n)),(.func (.func 153) #[] #[(.pointer (some ⟨tb,0,none⟩))])]) (n:=36) Tryz.func150 rfl rfl rfl (λw0 F hF=>?_);have hkb:na key=true:=decide_eq_true hk;have hcell:dN x key=x.cells[key.toNat]'(by omega):=by rw[dN,dif_pos hkb]
 have htb:cM to'=true:=decide_eq_true ht;refine sr λ_ J1=>?_
 refine TL.box (aa rfl) rfl rfl rfl rfl (λb4=>?_);change TL _ _ _ _ _ _ _ _ _ [ah b4 (ints x.flat) 39,ah tb [(.int .i64 (to'))] 3];refine lZ (aa rfl) rfl rfl rfl uB (λb8=>?_);change TL _ _ _ _ _ _ _ _ _ [ah b8 (ints RowT.zero.flat) 39,ah b4 (ints x.flat) 39,ah tb [(.int .i64 (to'))] 3];refine pJ ?_;refine nx J1 ?_;refine sr λ_ J2=>?_
 refine mv ?_;refine mv ?_;refine tp (aZ (r:=1) rfl dV rfl lG rfl rfl) ?_;refine tp (eu (r:=1+key.toNat*7) rfl Bo fy rfl rfl (by omega) (by omega) (by omega)) ?_;refine TL.callRv (aa rfl) rfl rfl rfl rfl OK rfl (Fb b4 (1+key.toNat*7) 39 tb (ints x.flat) x.cells[key.toNat].given to' ht (DO x (key.toNat*7+2) (by omega) (by omega) (kJ bw x.cells (i:=key.toNat) 2 (by omega) (by omega) (by decide) (CellT.sub_given (x.cells[key.toNat]'(by omega)) 0 rfl (by decide) (whole (dq ((x.cells[key.toNat]'(by omega)).given))))))) (λ_ s=>aC [1,1] rfl s) (λ_ _ _=>trivial) (λvR HR hR=>?_);obtain⟨rfl,rfl⟩:=hR;refine mv ?_;refine tp (gX (vs:=[(.int .i64 ((IN (x.cells[key.toNat]'(by omega))))),(.pointer (some ⟨b4,1+key.toNat*7+2+to'.toNat,none⟩))]) rfl rfl rfl) ?_;refine tp (gX (vs:=[(.int .i64 ((IN (x.cells[key.toNat]'(by omega))))),(.pointer (some ⟨b4,1+key.toNat*7+2+to'.toNat,none⟩))]) rfl rfl rfl) ?_;refine pJ ?_;refine pJ ?_;refine nx J2 ?_;refine ab λ_ J3=>?_
 refine sr λ_ J4=>?_
 refine mv ?_;refine mv ?_;refine tp (iz (r:=(1099511627776-n)) rfl rfl rfl (bH (by omega) (by omega))) ?_;refine tp (PV.gtr rfl rfl rfl) ?_;refine ao (λh23=>?_) (λh23=>?_);refine nx J4 ?_;refine iU rfl ?_;refine sr λ_ J5=>?_
 refine tp (j6 (cells:=(ints RowT.zero.flat).toArray) rfl rfl (by as_aux_lemma=>kernel_rfl)) ?_;refine bO (vs:=ints RowT.zero.flat) (i:=2) (aa rfl) rfl rfl rfl rfl rfl (by rw[(aj RowT.zero)];exact ba) (bk _) rfl rfl (by have h0:=(aj RowT.zero);have h1:=(aj RowT.zero);omega) (ct ((aj RowT.zero).trans (aj RowT.zero).symm)) rfl ?_;refine pJ ?_;refine nx J5 ?_;refine ai ?_;refine af ?_;refine l3 (H':=[ah tb [(.int .i64 (to'))] 3]) rfl rfl rfl dV rfl ba (dS 2 rfl rfl) (aj RowT.zero) (λ_ s=>ak [1] rfl s) ?_;exact⟨by rw[kW,hcell,if_pos h23],rfl⟩;refine nx J4 ?_;refine tt rfl ?_;refine aT ?_;refine ac J3 ?_;refine sr λ_ J6=>?_
 refine mv ?_;refine tp (gf rfl rfl) ?_;refine tp (e4 (v:=(.int .i64 ((((x.cells[key.toNat]'(by omega)).given)[to'.toNat]'(by omega))))) rfl Y3 rfl rfl (dS 0 rfl rfl) (vB x (key.toNat*7+2+to'.toNat) (by omega) (by omega) (nU bw x.cells (i:=key.toNat) (2+to'.toNat) (by omega) (by omega) (by omega) (Pt (x.cells[key.toNat]'(by omega)) (to'.toNat) (by omega) (by omega) (kq ((x.cells[key.toNat]'(by omega)).given) (by omega)))))) ?_;refine mv ?_;refine tp (cr (r:=(fQ ((((x.cells[key.toNat]'(by omega)).given)[to'.toNat]'(by omega))+n))) rfl rfl rfl rfl) ?_;refine tp (gf rfl rfl) ?_;refine bz (i:=0) (aa rfl) rfl rfl rfl rfl rfl aR rfl rfl (by have h0:=(aj x);omega) (Qw x (key.toNat*7+2+to'.toNat) (by omega) (by omega) (Iz bw x.cells (i:=key.toNat) (2+to'.toNat) (by omega) (by omega) (by omega) (CellT.st_given (x.cells[key.toNat]'(by omega)) (to'.toNat) (by omega) (by omega) (y1 ((x.cells[key.toNat]'(by omega)).given) (by omega) _)))) rfl ?_;refine nx J6 ?_;refine sr λ_ J7=>?_
 refine tp (aZ (r:=0) rfl dV rfl aR rfl rfl) ?_;refine tp (e4 (v:=(.int .i64 (x.version))) rfl Y3 rfl rfl (dS 0 rfl rfl) (cy (RowT.mk x.version (x.cells.set key.toNat (CellT.mk ((x.cells[key.toNat]'(by omega)).inn) ((x.cells[key.toNat]'(by omega)).out) (((x.cells[key.toNat]'(by omega)).given).set to'.toNat (fQ ((((x.cells[key.toNat]'(by omega)).given)[to'.toNat]'(by omega))+n)) (by omega))) (by omega)) x.heir x.left) rfl)) ?_;refine tp (cr (r:=(fQ (x.version+1))) rfl rfl rfl rfl) ?_;refine tp (aZ (r:=0) rfl dV rfl aR rfl rfl) ?_;refine bz (i:=0) (aa rfl) rfl rfl rfl rfl rfl aR rfl rfl (by have h0:=(aj (RowT.mk x.version (x.cells.set key.toNat (CellT.mk ((x.cells[key.toNat]'(by omega)).inn) ((x.cells[key.toNat]'(by omega)).out) (((x.cells[key.toNat]'(by omega)).given).set to'.toNat (fQ ((((x.cells[key.toNat]'(by omega)).given)[to'.toNat]'(by omega))+n)) (by omega))) (by omega)) x.heir x.left));omega) (x8 (RowT.mk x.version (x.cells.set key.toNat (CellT.mk ((x.cells[key.toNat]'(by omega)).inn) ((x.cells[key.toNat]'(by omega)).out) (((x.cells[key.toNat]'(by omega)).given).set to'.toNat (fQ ((((x.cells[key.toNat]'(by omega)).given)[to'.toNat]'(by omega))+n)) (by omega))) (by omega)) x.heir x.left) rfl _) rfl ?_;refine nx J7 ?_;refine sr λ_ J8=>?_
 refine tp (aN (vs:=ints (RowT.mk (fQ (x.version+1)) (x.cells.set key.toNat (CellT.mk ((x.cells[key.toNat]'(by omega)).inn) ((x.cells[key.toNat]'(by omega)).out) (((x.cells[key.toNat]'(by omega)).given).set to'.toNat (fQ ((((x.cells[key.toNat]'(by omega)).given)[to'.toNat]'(by omega))+n)) (by omega))) (by omega)) x.heir x.left).flat) rfl dV rfl ba rfl (dS 0 rfl rfl) (aj (RowT.mk (fQ (x.version+1)) (x.cells.set key.toNat (CellT.mk ((x.cells[key.toNat]'(by omega)).inn) ((x.cells[key.toNat]'(by omega)).out) (((x.cells[key.toNat]'(by omega)).given).set to'.toNat (fQ ((((x.cells[key.toNat]'(by omega)).given)[to'.toNat]'(by omega))+n)) (by omega))) (by omega)) x.heir x.left)) (whole (aj (RowT.mk (fQ (x.version+1)) (x.cells.set key.toNat (CellT.mk ((x.cells[key.toNat]'(by omega)).inn) ((x.cells[key.toNat]'(by omega)).out) (((x.cells[key.toNat]'(by omega)).given).set to'.toNat (fQ ((((x.cells[key.toNat]'(by omega)).given)[to'.toNat]'(by omega))+n)) (by omega))) (by omega)) x.heir x.left)))) ?_
 refine bO (vs:=ints (RowT.mk (fQ (x.version+1)) (x.cells.set key.toNat (CellT.mk ((x.cells[key.toNat]'(by omega)).inn) ((x.cells[key.toNat]'(by omega)).out) (((x.cells[key.toNat]'(by omega)).given).set to'.toNat (fQ ((((x.cells[key.toNat]'(by omega)).given)[to'.toNat]'(by omega))+n)) (by omega))) (by omega)) x.heir x.left).flat) (i:=2) (aa rfl) rfl rfl rfl rfl rfl (by rw[(aj (RowT.mk (fQ (x.version+1)) (x.cells.set key.toNat (CellT.mk ((x.cells[key.toNat]'(by omega)).inn) ((x.cells[key.toNat]'(by omega)).out) (((x.cells[key.toNat]'(by omega)).given).set to'.toNat (fQ ((((x.cells[key.toNat]'(by omega)).given)[to'.toNat]'(by omega))+n)) (by omega))) (by omega)) x.heir x.left))];exact ba) (bk _) rfl rfl (by have h0:=(aj RowT.zero);have h1:=(aj (RowT.mk (fQ (x.version+1)) (x.cells.set key.toNat (CellT.mk ((x.cells[key.toNat]'(by omega)).inn) ((x.cells[key.toNat]'(by omega)).out) (((x.cells[key.toNat]'(by omega)).given).set to'.toNat (fQ ((((x.cells[key.toNat]'(by omega)).given)[to'.toNat]'(by omega))+n)) (by omega))) (by omega)) x.heir x.left));omega) (ct ((aj RowT.zero).trans (aj (RowT.mk (fQ (x.version+1)) (x.cells.set key.toNat (CellT.mk ((x.cells[key.toNat]'(by omega)).inn) ((x.cells[key.toNat]'(by omega)).out) (((x.cells[key.toNat]'(by omega)).given).set to'.toNat (fQ ((((x.cells[key.toNat]'(by omega)).given)[to'.toNat]'(by omega))+n)) (by omega))) (by omega)) x.heir x.left)).symm)) rfl ?_;refine pJ ?_;refine nx J8 ?_;refine ai ?_
 refine l3 (H':=[ah tb [(.int .i64 (to'))] 3]) rfl rfl rfl dV rfl ba (dS 2 rfl rfl) (aj (RowT.mk (fQ (x.version+1)) (x.cells.set key.toNat (CellT.mk ((x.cells[key.toNat]'(by omega)).inn) ((x.cells[key.toNat]'(by omega)).out) (((x.cells[key.toNat]'(by omega)).given).set to'.toNat (fQ ((((x.cells[key.toNat]'(by omega)).given)[to'.toNat]'(by omega))+n)) (by omega))) (by omega)) x.heir x.left)) (λ_ s=>ak [1] rfl s) ?_;refine⟨?_,rfl⟩;rw[kW,hcell,if_neg h23,lA,dif_pos hkb];simp[xy,lB,htb]
theorem Cf(x:RowT)(key n:Int):
 DT 110 #[(.agg (ints x.flat).toArray),(.int .i64 (key)),(.int .i64 (n))] T0 [] (RI (.tuple #[.agg (ints (oP x key n).1.flat).toArray, .int .i64 (oP x key n).2]) []):=by
 refine BD 19 Tryz.func110 rfl rfl rfl λw0 F hF=>sr λ_ J1=>XY (ints x.flat) λb3=>?_
 refine XZ uB (ints RowT.zero.flat) λb6=>?_
 refine PS ?_;refine nx J1 (ab λ_ J2=>sr λ_ J3=>P2 ?_);refine CE Jo (rY key n) ID ?_;refine bc ?_ ?_<;>intro h10;have hq:=h10;unfold xW na Iq at hq;simp only[ay,decide_eq_true_iff]at hq;have hk:0≤key∧key<4:=hq.1.1;have hn:1≤n∧n≤1099511627776:=⟨hq.1.2,hq.2.2⟩;refine PS ?_;refine nx J3 (CN (qx J2 (sr λ_ J4=>LW 1 dV ba aj ?_)));refine P2 ?_;refine CE Jn (AR x key n hk hn) ID ?_;refine P2 ?_;refine SW 0 ba aj ?_;refine PS ?_;refine nx J4 (ai (RT 0 [] dV ba (aj _) ?_));exact⟨by simp[oP, *],rfl⟩;refine PS ?_;refine nx J3 (CY (sr λ_ J5=>BV ((ints RowT.zero.flat).toArray) ?_));refine SW 0 ba aj ?_;refine PS ?_;refine nx J5 (ai (af (RT 0 [] dV ba (aj _) ?_)));exact⟨by simp[oP, *],rfl⟩
theorem Cg(x:RowT)(key n:Int):
 DT 111 #[(.agg (ints x.flat).toArray),(.int .i64 (key)),(.int .i64 (n))] T0 [] (RI (.tuple #[.agg (ints (oQ x key n).1.flat).toArray, .int .i64 (oQ x key n).2]) []):=by
 refine BD 19 Tryz.func111 rfl rfl rfl λw0 F hF=>sr λ_ J1=>XY (ints x.flat) λb3=>?_
 refine XZ uB (ints RowT.zero.flat) λb6=>?_
 refine PS ?_;refine nx J1 (ab λ_ J2=>sr λ_ J3=>P2 ?_);refine CE Jo (rY key n) ID ?_;refine bc ?_ ?_<;>intro h10;have hq:=h10;unfold xW na Iq at hq;simp only[ay,decide_eq_true_iff]at hq;have hk:0≤key∧key<4:=hq.1.1;have hn:1≤n∧n≤1099511627776:=⟨hq.1.2,hq.2.2⟩;refine PS ?_;refine nx J3 (CN (qx J2 (sr λ_ J4=>LW 1 dV ba aj ?_)));refine P2 ?_;refine CE Jn (AS x key n hk hn) ID ?_;refine P2 ?_;refine SW 0 ba aj ?_;refine PS ?_;refine nx J4 (ai (RT 0 [] dV ba (aj _) ?_));exact⟨by simp[oQ, *],rfl⟩;refine PS ?_;refine nx J3 (CY (sr λ_ J5=>BV ((ints RowT.zero.flat).toArray) ?_));refine SW 0 ba aj ?_;refine PS ?_;refine nx J5 (ai (af (RT 0 [] dV ba (aj _) ?_)));exact⟨by simp[oQ, *],rfl⟩
theorem Ay(x:RowT)(key n to':Int):
 DT 112 #[(.agg (ints x.flat).toArray),(.int .i64 (key)),(.int .i64 (n)),(.int .i64 (to'))] T0 [] (RI (.tuple #[.agg (ints (ly x key n to').1.flat).toArray, .int .i64 (ly x key n to').2]) []):=by
 refine BD 27 Tryz.func112 rfl rfl rfl λw0 F hF=>sr λ_ J1=>XY (ints x.flat) λb4=>?_
 refine XB λb7=>?_
 refine XZ uB (ints RowT.zero.flat) λb8=>?_
 refine PS ?_;refine nx J1 (ab λ_ J2=>sr λ_ J3=>LA 1 Y3 ?_);refine CE Lc (kb to') ID ?_;refine bc ?_ ?_<;>intro h11;refine PS ?_;refine P3 ?_;refine CE Jo (rY key n) ID ?_;refine bc ?_ ?_<;>intro h16;have hq:=h16;unfold xW na Iq at hq;simp only[ay,decide_eq_true_iff]at hq;have hk:0≤key∧key<4:=hq.1.1;have hn:1≤n∧n≤1099511627776:=⟨hq.1.2,hq.2.2⟩;have ht:0≤to'∧to'<5:=of_decide_eq_true h11;refine PS ?_;refine PS ?_;refine nx J3 (CN (qx J2 (sr λ_ J4=>LW 2 dV ba aj ?_)));refine P2 ?_;refine tp (QM rfl rfl) ?_;refine CE Jn (yr x key n hk hn b7 to' ht) (SM [1]) ?_;refine P2 ?_;refine SW 1 ba aj ?_;refine PS ?_;refine nx J4 (ai (RT 1 [] dV ba (aj _) ?_));exact⟨by simp[ly, *],rfl⟩;refine PS ?_;refine PS ?_;refine nx J3 (CY (sr λ_ J5=>BV ((ints RowT.zero.flat).toArray) ?_));refine SW 0 ba aj ?_;refine PS ?_;refine nx J5 (ai (af (RT 0 [] dV ba (aj _) ?_)));exact⟨by simp[ly, *],rfl⟩;refine PS ?_;refine PS ?_
 iterate 4 refine UT ?_
 refine PS ?_;refine nx J3 (CY (sr λ_ J6=>BV ((ints RowT.zero.flat).toArray) ?_));refine SW 0 ba aj ?_;refine PS ?_;refine nx J6 (ai (af (RT 0 [] dV ba (aj _) ?_)));exact⟨by simp[ly, *],rfl⟩
theorem Ce(x:RowT)(who:Int):
 DT 154 #[(.agg (ints x.flat).toArray),(.int .i64 (who))] T0 [] (dm (λr' H=>∃u,r'=u∧H=[own u (gl x who).length (ints (gl x who)) 3 1])):=by
 refine BD 27 Tryz.func154 rfl rfl rfl λw0 F hF=>sr λ_ J1=>XY (ints x.flat) λb2=>?_
 refine PS ?_;refine nx J1 (sr λ_ J2=>PS ?_);refine nx J2 (ab λ_ J3=>sr λ_ J4=>FA 29 dV eW ?_);refine tp (aN (vs:=ints x.heir.toList) rfl jO rfl eW rfl (RO 0) (dq x.heir) (Qv x 0 rfl (by decide) (whole (dq x.heir)))) ?_;refine PS ?_;refine nx J4 (au ?_)
 refine bn (α:=(Nat)×(Value)) (λ⟨k,u⟩=>k≤5∧u.oneCell'=true) (λ⟨k,u⟩=>[(1,(.int .i64 (who))),(4,(.slice none 0 0)),(5,u),(9,(.agg (ints x.heir.toList).toArray)),(10,(.int .i64 (((k:Nat):Int))))]) (λ⟨k,u⟩=>[own u ((ix x who k).length) (ints (ix x who k)) 3 1]) (λ⟨k,u⟩=>5-k) (0,(.slice none 0 0))
  ⟨aM _,rfl⟩ SB
  (λ_ s=>fR 3 1 (ak [] rfl s)) (λ⟨k,u⟩ hinv=>?_)
 obtain⟨hk,hu⟩:=hinv;have hol:=Hp x who k;refine sr λ_ J5=>PS ?_
 refine ao ?_ ?_<;>intro h11;refine nx J5 (ab λ_ J6=>CY (qx J6 (ab λ_ J7=>au (sr λ_ J8=>PS ?_))));refine tp (nG (cs:=ints x.heir.toList) (v:=Value.int .i64 (x.heir[k]'(by omega))) (r:=k) rfl jO Y3 rfl aR rfl rfl (by omega) (by omega) (by omega) (kq x.heir (by omega))) ?_;refine P2 ?_;refine nx J8 (sr λ_ J9=>P3 ?_);refine ao ?_ ?_<;>intro h16;refine PS ?_;refine UT ?_;refine UT ?_;refine PS ?_;refine nx J9 (CY (ad (P2 ?_)));refine aQ (cells:=#[(.int .i64 (((k:Nat):Int)))]) (aa rfl) rfl rfl rfl iO oD rfl rfl rfl (by as_aux_lemma=>kernel_rfl) (λb23=>cj (k:=1) (news:=[(.int .i64 (((k:Nat):Int)))]) (nn':=(ix x who k).length+1) (xs':=ints (ix x who k)++[(.int .i64 (((k:Nat):Int)))]) (aa rfl) rfl rfl rfl iO oD rfl rfl rfl rfl rfl rfl (λ_ _=>gW rfl (RO 0) rfl) (by simp[Value.oneCell']) (by simp only[maxLen];omega) (by omega) (by simp) (by simp) (λv24 ov24=>PS ?_));refine ap (ag (ac J7 (ad (AD ?_))));refine PS ?_;refine ap ?_
 exact aI ((k+1,v24):(Nat)×(Value)) ⟨by omega,ov24⟩ (by show 5- (k+1)<5-k;omega)
  SB
  (λ_ s=>by
   show bD [own v24 (ix x who (k+1)).length (ints (ix x who (k+1))) 3 1] _;rw[show ix x who (k+1)=ix x who k++[((k:Nat):Int)]by rw[rK,if_pos (by rw[w6 x who (by omega)];simp;omega)],ae,el]
   exact ak [1] rfl s)
 refine P3 ?_;refine ao ?_ ?_<;>intro h19;refine PS ?_;refine nx J9 (CY (ad (P2 ?_)));refine aQ (cells:=#[(.int .i64 (((k:Nat):Int)))]) (aa rfl) rfl rfl rfl iO oD rfl rfl rfl (by as_aux_lemma=>kernel_rfl) (λb23=>cj (k:=1) (news:=[(.int .i64 (((k:Nat):Int)))]) (nn':=(ix x who k).length+1) (xs':=ints (ix x who k)++[(.int .i64 (((k:Nat):Int)))]) (aa rfl) rfl rfl rfl iO oD rfl rfl rfl rfl rfl rfl (λ_ _=>gW rfl (RO 0) rfl) (by simp[Value.oneCell']) (by simp only[maxLen];omega) (by omega) (by simp) (by simp) (λv24 ov24=>PS ?_));refine ap (ag (ac J7 (ad (AD ?_))));refine PS ?_;refine ap ?_
 exact aI ((k+1,v24):(Nat)×(Value)) ⟨by omega,ov24⟩ (by show 5- (k+1)<5-k;omega)
  SB
  (λ_ s=>by
   show bD [own v24 (ix x who (k+1)).length (ints (ix x who (k+1))) 3 1] _;rw[show ix x who (k+1)=ix x who k++[((k:Nat):Int)]by rw[rK,if_pos (by rw[w6 x who (by omega)];simp;omega)],ae,el]
   exact ak [1] rfl s)
 refine PS ?_;refine nx J9 (CN (aT (ag (ac J7 (ad (AD ?_))))));refine PS ?_;refine ap ?_
 exact aI ((k+1,u):(Nat)×(Value)) ⟨by omega,hu⟩ (by show 5- (k+1)<5-k;omega)
  SB
  (λ_ s=>by
   show bD [own u (ix x who (k+1)).length (ints (ix x who (k+1))) 3 1] _;rw[show ix x who (k+1)=ix x who k by rw[rK,if_neg (by rw[w6 x who (by omega)];simp;omega),aP]]
   exact ak [0] rfl s)
 refine nx J5 (ab λ_ J10=>CN (aX (aA (aA (bl (ac J3 (sr λ_ J11=>P2 ?_)))))));refine nx J11 (ai (WK [0] (av rfl rfl ?_)));obtain rfl:k=5:=by omega
 exact⟨u,rfl,rfl⟩
theorem Az(x:RowT)(who of' key:Int):
 DT 60 #[(.agg (ints x.flat).toArray),(.int .i64 (who)),(.int .i64 (of')),(.int .i64 (key))] T0 [] (RI (.tuple #[.agg (ints (kc x who of' key).1.flat).toArray, .int .i64 (kc x who of' key).2]) []):=by
 refine BD 53 Tryz.func60 rfl rfl rfl λw0 F hF=>sr λ_ J1=>XY (ints x.flat) λb4=>?_
 refine XZ Kx (ints CellT.zero.flat) λb8=>?_
 refine PS ?_;refine nx J1 (ab λ_ J2=>sr λ_ J3=>PS ?_);refine CE Lc (kb who) ID ?_;refine bc ?_ ?_<;>intro h11;refine PS ?_;refine P2 ?_;refine CE Lc (kb of') ID ?_;refine bc ?_ ?_<;>intro h15;refine PS ?_;refine P4 ?_;refine ao ?_ ?_<;>intro h20;have hkb:na key=false:=decide_eq_false (by omega);refine P2 ?_;refine UT ?_;refine UT ?_;refine PS ?_;refine nx J3 (CY (sr λ_ J4=>BV ((ints CellT.zero.flat).toArray) ?_));refine SW 0 fy bo ?_;refine PS ?_;refine nx J4 (ai (af (RT 0 [] mM fy (bo _) ?_)));exact⟨by simp[kc, *],rfl⟩;refine P4 ?_;refine ao ?_ ?_<;>intro h24;have hkb:na key=false:=decide_eq_false (by omega);refine PS ?_;refine nx J3 (CY (sr λ_ J5=>BV ((ints CellT.zero.flat).toArray) ?_));refine SW 0 fy bo ?_;refine PS ?_;refine nx J5 (ai (af (RT 0 [] mM fy (bo _) ?_)));exact⟨by simp[kc, *],rfl⟩;have hw:cM who=true:=by simpa using h11
 have ho:cM of'=true:=by simpa using h15
 have hw2:0≤who∧who<5:=of_decide_eq_true hw;have ho2:0≤of'∧of'<5:=of_decide_eq_true ho;have hkb:na key=true:=decide_eq_true ⟨by omega,by omega⟩;have e1:fT x of'=x.heir[of'.toNat]'(by omega):=by rw[fT,dif_pos ho]
 have e2:EZ x of' key=(x.left[of'.toNat]'(by omega))[key.toNat]'(by omega):=by rw[EZ,dif_pos ⟨ho,hkb⟩]
 have e3:dN x key=x.cells[key.toNat]'(by omega):=by rw[dN,dif_pos hkb]
 refine PS ?_;refine nx J3 (CN (qx J2 (ab λ_ J6=>sr λ_ J7=>P3 ?_)));refine ao ?_ ?_<;>intro h29;refine nx J7 (CY (ab λ_ J8=>D1 1 mixed ?_));refine PD 0 ?_;refine FD 1 1 dV lG ?_;refine IY 2 (1+key.toNat*7) Bo fy ?_;refine ta 3 rfl (aN (vs:=ints (x.cells[key.toNat]'(by omega)).flat) rfl mM rfl fy rfl (λ_ h=>h.2.1) (bo (x.cells[key.toNat]'(by omega))) (DO x (key.toNat*7) (by omega) (by omega) (kJ bw x.cells (i:=key.toNat) 0 (by omega) (by omega) (by decide) (whole (bo (x.cells[key.toNat]'(by omega))))))) ?_;refine FD 4 0 dV aR ?_;refine LR 5 Y3 (cy x rfl) ?_;refine AL 6 ?_;refine SW 0 fy bo ?_;refine EN (PD 7 ?_);refine DN (ac J8 (ai (af (RT 0 [] mM fy (bo _) ?_))));exact⟨by simp[kc, *],rfl⟩;refine nx J7 (CN (qx J6 (ab λ_ J9=>sr λ_ J10=>PS ?_)));refine FA 29 dV eW ?_;refine IX (29+(of').toNat) jO aR ?_;refine LT 1 Y3 (.int .i64 ((x.heir[(of').toNat]'(by omega)))) ?_ (hc:=by exact rZ x ((of').toNat) (by omega) (by omega) (kq x.heir (by omega)));refine PS ?_;refine ao ?_ ?_<;>intro h40;refine nx J10 (CY (ab λ_ J11=>D1 1 mixed ?_));refine PD 0 ?_;refine PD 1 ?_;refine FD 2 34 dV BJ ?_;refine IY 3 (34+((of').toNat)*28) MM lG ?_;refine IY 4 (34+((of').toNat)*28+key.toNat*7) Bo fy ?_
 refine ta 5 rfl (aN (vs:=ints ((x.left[(of').toNat]'(by omega))[key.toNat]'(by omega)).flat) rfl mM rfl fy rfl (λ_ h=>h.2.1) (bo ((x.left[(of').toNat]'(by omega))[key.toNat]'(by omega))) (Gs x (((of').toNat)*28+key.toNat*7) (by omega) (by omega) (kJ tE x.left (i:=(of').toNat) (key.toNat*7) (by omega) (by omega) (by omega) (kJ bw (x.left[(of').toNat]'(by omega)) (i:=key.toNat) 0 (by omega) (by omega) (by decide) (whole (bo ((x.left[(of').toNat]'(by omega))[key.toNat]'(by omega)))))))) ?_;refine PD 6 ?_;refine FD 7 29 dV eW ?_;refine IY 8 (29+(of').toNat) jO aR ?_;refine LX 9 Y3 (.int .i64 ((x.heir[(of').toNat]'(by omega)))) ?_ (hc:=by exact rZ x ((of').toNat) (by omega) (by omega) (kq x.heir (by omega)));refine ta 10 rfl (iz (r:=(fQ ((x.heir[(of').toNat]'(by omega))-1))) rfl rfl rfl rfl) ?_;refine AL 11 ?_;refine SW 0 fy bo ?_;refine EN (PD 12 ?_);refine DN (ac J11 (ai (af (RT 0 [] mM fy (bo _) ?_))));exact⟨by simp[kc, *],rfl⟩;refine nx J10 (CN (qx J9 (sr λ_ J12=>BV ((ints CellT.zero.flat).toArray) ?_)));refine SW 0 fy bo ?_;refine PS ?_;refine nx J12 (ai (RT 0 [] mM fy (bo _) ?_));exact⟨by simp[kc, *],rfl⟩;refine PS ?_;refine P2 ?_;refine UT ?_;refine UT ?_;refine P2 ?_;refine UT ?_;refine UT ?_;refine PS ?_;refine nx J3 (CY (sr λ_ J13=>BV ((ints CellT.zero.flat).toArray) ?_));refine SW 0 fy bo ?_;refine PS ?_;refine nx J13 (ai (af (RT 0 [] mM fy (bo _) ?_)));exact⟨by simp[kc, *],rfl⟩;refine PS ?_;refine PS ?_
 iterate 3 refine UT ?_
 refine P2 ?_;refine UT ?_;refine UT ?_;refine P2 ?_;refine UT ?_;refine UT ?_;refine PS ?_;refine nx J3 (CY (sr λ_ J14=>BV ((ints CellT.zero.flat).toArray) ?_));refine SW 0 fy bo ?_;refine PS ?_;refine nx J14 (ai (af (RT 0 [] mM fy (bo _) ?_)));exact⟨by simp[kc, *],rfl⟩
theorem pP(who:Int):
 DT 127 #[(.int .i64 (who))] T0 [] (dm (λr' H=>∃u,r'=u∧H=[own u (gV who).length (ints (gV who)) 3 1])):=by
 refine BD 20 Tryz.func127 rfl rfl rfl λw0 F hF=>sr λ_ J1=>PS ?_
 refine nx J1 (ab λ_ J2=>sr λ_ J3=>PS ?_);refine CE Ct (jQ who) ID ?_;refine bc ?_ ?_<;>intro h6;have hm:0≤who∧who<5:=of_decide_eq_true h6;refine PS ?_;refine nx J3 (CN (qx J2 (sr λ_ J4=>Pg 3 1 (λon=>?_))));clear on;refine PS ?_;refine nx J4 (ab λ_ J5=>sr λ_ J6=>PS ?_);refine nx J6 (au (si 3 (ab λ_ J7=>sr λ_ J8=>P2 ?_)));refine nx J8 (CY (qx J7 (ab λ_ J9=>au (ad (P3 ?_)))));refine tp (cr (r:=(who+1)) rfl rfl rfl (bH (by omega) (by omega))) ?_;refine tp (PV.rem (r:=((who+1)%5)) rfl rfl rfl (by omega) (FX (by omega))) ?_;refine aQ (cells:=#[(.int .i64 (((who+1)%5)))]) (aa rfl) rfl rfl rfl iO oD rfl rfl rfl (by as_aux_lemma=>kernel_rfl) (λb17=>cj (k:=1) (news:=[(.int .i64 (((who+1)%5)))]) (nn':=1) (xs':=[(.int .i64 (((who+1)%5)))]) (aa rfl) rfl rfl rfl iO oD rfl rfl rfl rfl rfl rfl (λ_ _=>gW rfl (RO 0) rfl) (by simp[Value.oneCell']) (by simp only[maxLen];omega) (by omega) (by simp) (by simp) (λv18 ov18=>PS ?_));refine ap (ag (ac J9 (ad (PS ?_))));refine tp (cr (r:=2) rfl rfl rfl (by decide)) ?_;refine PS ?_;refine ap (en (ab λ_ J10=>sr λ_ J11=>P2 ?_));refine nx J11 (CY (qx J10 (ab λ_ J12=>au (ad (P3 ?_)))));refine tp (cr (r:=(who+2)) rfl rfl rfl (bH (by omega) (by omega))) ?_;refine tp (PV.rem (r:=((who+2)%5)) rfl rfl rfl (by omega) (FX (by omega))) ?_
 refine cm (H':=[own v18 (1) ([(.int .i64 (((who+1)%5)))]) 3 1]) (λ_ s=>ak [1] rfl s) (aQ (cells:=#[(.int .i64 (((who+2)%5)))]) (aa rfl) rfl rfl rfl iO oD rfl rfl rfl (by as_aux_lemma=>kernel_rfl) (λb17=>cj (k:=1) (news:=[(.int .i64 (((who+2)%5)))]) (nn':=1+1) (xs':=[(.int .i64 (((who+1)%5)))]++[(.int .i64 (((who+2)%5)))]) (aa rfl) rfl rfl rfl iO oD rfl rfl rfl rfl rfl rfl (λ_ _=>gW rfl (RO 0) rfl) (by simp[Value.oneCell']) (by simp only[maxLen];omega) (by omega) (by simp) (by simp) (λv18 ov18=>PS ?_)));refine ap (ag (ac J12 (ad (PS ?_))));refine tp (cr (r:=3) rfl rfl rfl (by decide)) ?_;refine PS ?_;refine ap (en (ab λ_ J13=>sr λ_ J14=>P2 ?_));refine nx J14 (CN (aX (aA (aA (bl (ac J5 (sr λ_ J15=>P2 ?_)))))));refine nx J15 (ai (WK [1] (av rfl rfl ?_)));exact⟨_,rfl,by rw[gV,if_pos h6];rfl⟩;refine PS ?_;refine nx J3 (CY (sr λ_ J16=>PS ?_));refine nx J16 (ai (af (aE (H':=[own (.slice none 0 0) 0 [] 3 1]) (db _) (λ_ s=>fR 3 1 s) (av rfl rfl ?_))));exact⟨_,rfl,by rw[gV,if_neg (by simp[h6])];rfl⟩
theorem mE(b off T:Nat)(cs:BookT→List Value)(hA:Arnd cs (λx=>ints x.flat) off)(B:BookT)(who:Int):
 DT 87 #[(.pointer (some ⟨b,off,none⟩)),(.int .i64 (who))] T0 [ah b (cs B) T] (RI (.agg (ints (cC B who).flat).toArray) [ah b (cs B) T]):=by
 refine BD 15 Tryz.func87 rfl rfl rfl λw0 F hF=>sr λ_ J1=>XZ uB (ints RowT.zero.flat) λb4=>?_
 refine nx J1 (ab λ_ J2=>sr λ_ J3=>PS ?_);refine CE Nj (lu who) ID ?_;refine bc ?_ ?_<;>intro h6;have hm:0≤who∧who<5:=of_decide_eq_true h6;refine PS ?_;refine nx J3 (CN (qx J2 (sr λ_ J4=>P3 ?_)));refine tp (aZ (r:=off) rfl Pf rfl tK rfl rfl) ?_;refine IX (off+who.toNat*174) Ig ba ?_;refine tp (aN (vs:=ints (B.rows[who.toNat]'(by omega)).flat) rfl dV rfl ba rfl (RO 1) (aj (B.rows[who.toNat]'(by omega))) (Py hA (j:=who.toNat*174) (by omega) (LB (ya _)) (Pv B (who.toNat*174) (by omega) (by omega) (kJ dB B.rows (i:=who.toNat) 0 (by omega) (by omega) (by decide) (whole (aj (B.rows[who.toNat]'(by omega)))))))) ?_;refine SW 0 ba aj ?_;refine nx J4 (ai (RC 0 [1] dV ba (aj _) ?_));exact⟨by rw[cC,dif_pos h6],rfl⟩;refine PS ?_;refine nx J3 (CY (sr λ_ J5=>BV ((ints RowT.zero.flat).toArray) ?_));refine SW 0 ba aj ?_;refine nx J5 (ai (af (RC 0 [1] dV ba (aj _) ?_)));exact⟨by rw[cC,dif_neg (by simp[h6])],rfl⟩
theorem kZ(b off T:Nat)(cs:BookT→List Value)(hA:Arnd cs (λx=>ints x.flat) off)(B:BookT)(who:Int)(x:RowT)(hx:WF x.flat):
 DT 34 #[(.pointer (some ⟨b,off,none⟩)),(.int .i64 (who)),(.agg (ints x.flat).toArray)] T0 [ah b (cs B) T] (RI (.bool (fA B who x).2) [ah b (cs (fA B who x).1) T]):=by
 refine BD 33 Tryz.func34 rfl rfl rfl λw0 F hF=>sr λ_ J1=>XY (ints x.flat) λb5=>?_
 refine PS ?_;refine nx J1 (ab λ_ J2=>ab λ_ J3=>D2 0 1 mixed ?_);refine PD 0 ?_;refine AL 1 ?_;refine CE Nj (lu who) ID ?_;refine bc ?_ ?_<;>intro h8;have hm:0≤who∧who<5:=of_decide_eq_true h8;have hrow:cC B who=B.rows[who.toNat]'(by omega):=by rw[cC,dif_pos h8]
 refine ap (E2 0 1 (PD 2 ?_));refine PD 3 ?_;refine LY 4 dV ba aj ?_;refine AL 5 ?_;refine CE Jh (jS x hx) ID ?_;refine bc ?_ ?_<;>intro h12;refine ap (E2 0 1 (PD 6 ?_));refine PD 7 ?_;refine PD 8 ?_;refine FD 9 0 dV aR ?_;refine LR 10 Y3 (cy x rfl) ?_;refine PD 11 ?_;refine PD 12 ?_;refine PD 13 ?_;refine tb 14 rfl (aZ (r:=off) rfl Pf rfl tK rfl rfl) ?_;refine IY 15 (off+who.toNat*174) Ig ba ?_;refine tb 16 rfl (aZ (r:=off+who.toNat*174) rfl dV rfl aR rfl rfl) ?_;refine LX 17 Y3 (.int .i64 ((B.rows[who.toNat]'(by omega)).version)) ?_ (hc:=by exact Arnd.at hA (j:=who.toNat*174) (by omega) (LB (ya _)) (BookT.pt_rows B (who.toNat*174) (by omega) (by omega) (nU dB B.rows (i:=who.toNat) 0 (by omega) (by omega) (by decide) (cy _ rfl))));refine PD 18 ?_;refine iT ?_ ?_<;>intro h25;refine PD 19 ?_;refine DN (ac J3 (CY (sr λ_ J4=>PS ?_)));refine nx J4 (ai (af (WK [1] (av rfl rfl ?_))));have e:fA B who x=(B,false):=by rw[fA,if_neg (λh=>by simp only[ay,decide_eq_true_iff]at h;rw[hrow]at h;omega)]
 exact⟨by rw[e],by rw[e];rfl⟩;refine PD 19 ?_;refine DN (ac J3 (CN (qx J2 (ab λ_ J5=>D1 0 mixed ?_))));refine PD 0 ?_;refine PD 1 ?_;refine LY 2 dV ba aj ?_;refine PD 3 ?_;refine ta 4 rfl (aZ (r:=off) rfl Pf rfl tK rfl rfl) ?_;refine IY 5 (off+who.toNat*174) Ig ba ?_;refine AL 6 ?_;refine bO (vs:=ints x.flat) (i:=1) (aa rfl) rfl rfl rfl rfl rfl (by rw[(aj x)];exact ba) (bk _) rfl rfl (by have h0:=(ya B);have h2:=Arnd.le hA B;have h1:=(aj x);omega) (Arnd.wr hA (x:=B) (x':=(BookT.mk (B.rows.set who.toNat x (by omega)))) (j:=who.toNat*174) (by omega) (LC (ya _) (aj _)) (BookT.wr_rows_ B (who.toNat*174) (by omega) (by have h1:=(aj x);omega) (uC dB B.rows (i:=who.toNat) 0 (by omega) (by omega) (by have h1:=(aj x);omega) (ct ((aj (B.rows[who.toNat]'(by omega))).trans (aj x).symm))))) rfl (ap (E1 0 (DN (ac J5 (sr λ_ J6=>PS ?_)))));refine nx J6 (ai (WK [1] (av rfl rfl ?_)));have e:fA B who x=(AG B who x,true):=by rw[fA,if_pos (by simp only[ay,decide_eq_true_iff,hrow];exact⟨⟨h8,h12⟩,by omega⟩)]
 exact⟨by rw[e],by rw[e,AG,dif_pos h8];rfl⟩;refine ap (E2 0 1 (PD 6 ?_));refine PD 7 ?_;refine PD 8 ?_;refine NT 9 ?_;refine NT 10 ?_;refine NT 11 ?_;refine NT 12 ?_;refine NT 13 ?_;refine NT 14 ?_;refine NT 15 ?_;refine NT 16 ?_;refine NT 17 ?_;refine NT 18 ?_;refine PD 19 ?_;refine DN (ac J3 (CY (sr λ_ J7=>PS ?_)));refine nx J7 (ai (af (WK [1] (av rfl rfl ?_))));have e:fA B who x=(B,false):=by rw[fA,if_neg (λh=>by simp only[ay,decide_eq_true_iff]at h;rw[h12]at h;exact absurd h.1.2 (by decide))]
 exact⟨by rw[e],by rw[e];rfl⟩;refine ap (E2 0 1 (PD 2 ?_));refine PD 3 ?_;refine NT 4 ?_;refine NT 5 ?_;refine NT 6 ?_;refine PD 7 ?_;refine PD 8 ?_;refine NT 9 ?_;refine NT 10 ?_;refine NT 11 ?_;refine NT 12 ?_;refine NT 13 ?_;refine NT 14 ?_;refine NT 15 ?_;refine NT 16 ?_;refine NT 17 ?_;refine NT 18 ?_;refine PD 19 ?_;refine DN (ac J3 (CY (sr λ_ J8=>PS ?_)));refine nx J8 (ai (af (WK [1] (av rfl rfl ?_))));have e:fA B who x=(B,false):=by rw[fA,if_neg (λh=>by simp only[ay,decide_eq_true_iff]at h;rw[h8]at h;exact absurd h.1.1 (by decide))]
 exact⟨by rw[e],by rw[e];rfl⟩
theorem nN(b off T:Nat)(cs:BookT→List Value)(hA:Arnd cs (λx=>ints x.flat) off)(B:BookT)(of' key:Int):
 DT 35 #[(.pointer (some ⟨b,off,none⟩)),(.int .i64 (of')),(.int .i64 (key))] T0 [ah b (cs B) T] (RI (.agg (ints (c9 B of' key).flat).toArray) [ah b (cs B) T]):=by
 refine BD 35 Tryz.func35 rfl rfl rfl λw0 F hF=>sr λ_ J1=>XZ Kx (ints CellT.zero.flat) λb6=>?_
 refine nx J1 (sr λ_ J2=>XZ Kx (ints CellT.zero.flat) λb7=>?_);refine nx J2 (sr λ_ J3=>PS ?_);refine nx J3 (ab λ_ J4=>sr λ_ J5=>PS ?_);refine nx J5 (au ?_)
 refine bn (α:=(Nat)×(CellT)×(Int)) (λ⟨k,c,n⟩=>k≤5∧(c,n)=xT B of' key k) (λ⟨k,c,n⟩=>[(0,(.pointer (some ⟨b,off,none⟩))),(1,(.int .i64 (of'))),(2,(.int .i64 (key))),(6,(.pointer (some ⟨b6,0,none⟩))),(7,(.pointer (some ⟨b7,0,none⟩))),(8,(.int .i64 (n))),(12,(.int .i64 (((k:Nat):Int))))]) (λ⟨k,c,n⟩=>[ah b7 (ints c.flat) 35,ah b6 (ints CellT.zero.flat) 35,ah b (cs B) T]) (λ⟨k,c,n⟩=>5-k) (0,CellT.zero, -1)
  ⟨aM _,rfl⟩ SB
  (λ_ s=>s) (λ⟨k,c,n⟩ hinv=>?_)
 obtain⟨hk,hc⟩:=hinv;refine sr λ_ J6=>PS ?_
 refine ao ?_ ?_<;>intro h13;refine nx J6 (ab λ_ J7=>CY (qx J7 (ab λ_ J8=>au (sr λ_ J9=>P2 ?_))));refine nx J9 (sr λ_ J10=>P3 ?_);refine tp (aZ (r:=off) rfl Pf rfl tK rfl rfl) ?_;refine IX (off+k*174) Ig ba ?_;refine tp (aN (vs:=ints (B.rows[k]'(by omega)).flat) rfl dV rfl ba rfl (RO 2) (aj (B.rows[k]'(by omega))) (Py hA (j:=k*174) (by omega) (LB (ya _)) (Pv B (k*174) (by omega) (by omega) (kJ dB B.rows (i:=k) 0 (by omega) (by omega) (by decide) (whole (aj (B.rows[k]'(by omega)))))))) ?_;refine P3 ?_;refine CE P7 (Az (B.rows[k]'(by omega)) ((k:Nat):Int) of' key) ID ?_;refine P3 ?_;refine XZ Kx (ints CellT.zero.flat) λb10=>?_
 refine SW 0 fy bo ?_;refine PS ?_;refine nx J10 (sr λ_ J11=>P3 ?_);refine ao ?_ ?_<;>intro h30;refine nx J11 (CY (ad (LW 0 mM fy bo ?_)));refine PS ?_;refine SW 1 fy bo ?_;refine PS ?_;refine ap (ag (ac J8 (ad (AD ?_))));refine PS ?_;refine ap ?_
 exact aI ((k+1,(kc (B.rows[k]'(by omega)) ((k:Nat):Int) of' key).1,(kc (B.rows[k]'(by omega)) ((k:Nat):Int) of' key).2):(Nat)×(CellT)×(Int)) ⟨by omega,by rw[vd,←hc,tn,xU B (by omega)];simp[h30]⟩ (by show 5- (k+1)<5-k;omega)
  SB
  (λ_ s=>ak [1,1,1] rfl s)
 refine nx J11 (CN (aT (ag (ac J8 (ad (AD ?_))))));refine PS ?_;refine ap ?_
 exact aI ((k+1,c,n):(Nat)×(CellT)×(Int)) ⟨by omega,by rw[vd,←hc,tn,xU B (by omega)];simp[h30]⟩ (by show 5- (k+1)<5-k;omega)
  SB
  (λ_ s=>ak [1,1,1] rfl s)
 refine nx J6 (ab λ_ J12=>CN (aX (aA (aA (bl (ac J4 (sr λ_ J13=>LW 0 mM fy bo ?_)))))));refine SW 1 fy bo ?_;refine nx J13 (ai (RC 1 [2] mM fy (bo _) ?_));obtain rfl:k=5:=by omega
 exact⟨by rw[c9,←hc],rfl⟩
theorem qu(b off T:Nat)(cs:BookT→List Value)(hA:Arnd cs (λx=>ints x.flat) off)(B:BookT)(key:Int):
 DT 17 #[(.pointer (some ⟨b,off,none⟩)),(.int .i64 (key))] T0 [ah b (cs B) T] (RI (.int .i64 (gF B key)) [ah b (cs B) T]):=by
 refine BD 24 Tryz.func17 rfl rfl rfl λw0 F hF=>sr λ_ J1=>PS ?_
 refine nx J1 (sr λ_ J2=>PS ?_);refine nx J2 (ab λ_ J3=>sr λ_ J4=>PS ?_);refine nx J4 (au ?_)
 refine bn (α:=(Nat)×(Int)) (λ⟨k,n⟩=>k≤5∧n=qH B key k) (λ⟨k,n⟩=>[(0,(.pointer (some ⟨b,off,none⟩))),(1,(.int .i64 (key))),(4,(.int .i64 0)),(5,(.int .i64 (n))),(8,(.int .i64 (((k:Nat):Int))))]) (λ⟨k,n⟩=>[ah b (cs B) T]) (λ⟨k,n⟩=>5-k) (0,0)
  ⟨aM _,rfl⟩ SB
  (λ_ s=>s) (λ⟨k,n⟩ hinv=>?_)
 obtain⟨hk,hc⟩:=hinv;refine sr λ_ J5=>PS ?_
 refine ao ?_ ?_<;>intro h9;refine nx J5 (ab λ_ J6=>CY (qx J6 (ab λ_ J7=>au (sr λ_ J8=>P2 ?_))));refine nx J8 (sr λ_ J9=>P3 ?_);refine CE Nn (nN b off T cs hA B ((k:Nat):Int) key) ID ?_;refine XZ Kx (ints CellT.zero.flat) λb7=>?_
 refine SW 0 fy bo ?_;refine nx J9 (ad (PS ?_));refine FA 0 mM aR ?_;refine LT 0 Y3 (.int .i64 ((c9 B ((k:Nat):Int) key).inn)) ?_ (hc:=by exact se _ rfl);refine FA 1 mM aR ?_;refine LT 0 Y3 (.int .i64 ((c9 B ((k:Nat):Int) key).out)) ?_ (hc:=by exact sd _ rfl);refine tp (iz (r:=(fQ (((c9 B ((k:Nat):Int) key).inn)- ((c9 B ((k:Nat):Int) key).out)))) rfl rfl rfl rfl) ?_;refine tp (cr (r:=(fQ (n+(fQ (((c9 B ((k:Nat):Int) key).inn)- ((c9 B ((k:Nat):Int) key).out)))))) rfl rfl rfl rfl) ?_;refine PS ?_;refine ap (ag (ac J7 (ad (AD ?_))));refine PS ?_;refine ap ?_
 exact aI ((k+1,(fQ (n+(fQ (((c9 B ((k:Nat):Int) key).inn)- ((c9 B ((k:Nat):Int) key).out)))))):(Nat)×(Int)) ⟨by omega,by rw[oI,←hc]⟩ (by show 5- (k+1)<5-k;omega)
  SB
  (λ_ s=>ak [1] rfl s)
 refine nx J5 (ab λ_ J10=>CN (aX (aA (aA (bl (ac J3 (sr λ_ J11=>P2 ?_)))))));refine nx J11 (ai (WK [0] (av rfl rfl ?_)));obtain rfl:k=5:=by omega
 exact⟨by rw[hc];rfl,rfl⟩
theorem pp(b off T:Nat)(cs:BookT→List Value)(hA:Arnd cs (λx=>ints x.flat) off)(B:BookT)(who key:Int):
    DT 113 #[(.pointer (some ⟨b,off,none⟩)),(.int .i64 (who)),(.int .i64 (key))] T0 [ah b (cs B) T] (RI (.int .i64 (pd B who key)) [ah b (cs B) T]):=by
 refine BD 71 Tryz.func113 rfl rfl rfl λw0 F hF=>sr λ_ J1=>PS ?_
 refine nx J1 (ab λ_ J2=>sr λ_ J3=>PS ?_);refine CE Nj (lu who) ID ?_;refine bc ?_ ?_<;>intro h14;have hm:0≤who∧who<5:=of_decide_eq_true h14;refine PS ?_;refine nx J3 (CN (qx J2 (sr λ_ J4=>XZ QH (ints ((#v[CellT.zero,CellT.zero,CellT.zero,CellT.zero,CellT.zero]).toList.flatMap CellT.flat)) λb7=>?_)));refine nx J4 (ab λ_ J5=>sr λ_ J6=>PS ?_);refine nx J6 (au ?_)
 refine bn (α:=(Nat)×(Vector CellT 5)) (λ⟨k,C⟩=>k≤5∧∀(j:Nat) (h:j<5),j<k→C[j]=c9 B j key) (λ⟨k,C⟩=>[(0,(.pointer (some ⟨b,off,none⟩))),(1,(.int .i64 (who))),(2,(.int .i64 (key))),(6,(.int .i64 0)),(7,(.pointer (some ⟨b7,0,none⟩))),(16,(.int .i64 (((k:Nat):Int))))]) (λ⟨k,C⟩=>[ah b7 (ints (C.toList.flatMap CellT.flat)) 94,ah b (cs B) T]) (λ⟨k,C⟩=>5-k) (0, #v[CellT.zero,CellT.zero,CellT.zero,CellT.zero,CellT.zero])
     ⟨aM _,λj _ h=>absurd h (by omega)⟩ SB
     (λ_ s=>ak [0,0] rfl s) (λ⟨k,C⟩ hinv=>?_)
 obtain⟨hk,hC⟩:=hinv;refine sr λ_ J7=>PS ?_
 refine ao ?_ ?_<;>intro h17;refine nx J7 (ab λ_ J8=>CY (qx J8 (ab λ_ J9=>au (sr λ_ J10=>P2 ?_))));refine nx J10 (ad (P4 ?_));refine CE Nn (nN b off T cs hA B ((k:Nat):Int) key) (SM [1]) ?_;refine IX (k*7) KC fy ?_;refine bO (vs:=ints (c9 B ((k:Nat):Int) key).flat) (i:=1) (aa rfl) rfl rfl rfl rfl rfl (by rw[(bo (c9 B ((k:Nat):Int) key))];exact fy) (bk _) rfl rfl (by have h0:=(KI C);have h1:=(bo (c9 B ((k:Nat):Int) key));omega) (uC bw C (i:=k) 0 (by omega) (by omega) (by have h1:=(bo (c9 B ((k:Nat):Int) key));omega) (ct ((bo (C[k]'(by omega))).trans (bo (c9 B ((k:Nat):Int) key)).symm))) rfl (ap (ag (ac J9 (ad (AD ?_)))));refine PS ?_;refine ap ?_
 exact aI ((k+1,(C.set k (c9 B ((k:Nat):Int) key) (by omega))):(Nat)×(Vector CellT 5)) ⟨by omega,λj h hj=>by
        rw[Vector.getElem_set];split
        · subst_vars;rfl
        · exact hC j h (by omega)⟩ (by show 5- (k+1)<5-k;omega)
   SB
   (λ_ s=>ak [1,0] rfl s)
 refine nx J7 (ab λ_ J11=>CN (aX (aA (aA (bl (ac J5 (sr λ_ J12=>PS ?_)))))));refine nx J12 (ab λ_ J13=>sr λ_ J14=>P3 ?_);refine tp (aZ (r:=off) rfl Pf rfl tK rfl rfl) ?_;refine IX (off+who.toNat*174) Ig ba ?_;refine tp (aN (vs:=ints (B.rows[who.toNat]'(by omega)).flat) rfl dV rfl ba rfl (RO 1) (aj (B.rows[who.toNat]'(by omega))) (Py hA (j:=who.toNat*174) (by omega) (LB (ya _)) (Pv B (who.toNat*174) (by omega) (by omega) (kJ dB B.rows (i:=who.toNat) 0 (by omega) (by omega) (by decide) (whole (aj (B.rows[who.toNat]'(by omega)))))))) ?_;refine PS ?_;have hbr:B.rows[who.toNat]'(by omega)=cC B who:=by rw[cC,dif_pos h14]
 rw[hbr];refine CR OJ (Ce (cC B who) who) ID λvR HR hR=>?_
 obtain⟨_,rfl,rfl⟩:=hR;revert vR;intro ul1;refine gT 0 rfl rfl (λhlul1 houl1=>tp (df rfl iO rfl hlul1) ?_);refine PS ?_;refine nx J14 (au ?_)
 refine bn (α:=(Nat)×(Int)) (λ⟨i,r⟩=>i≤(gl (cC B who) who).length∧r=((gl (cC B who) who).take i).foldl (oR B key) 0) (λ⟨i,r⟩=>[(0,(.pointer (some ⟨b,off,none⟩))),(6,(.int .i64 0)),(7,(.pointer (some ⟨b7,0,none⟩))),(9,(.int .i64 (r))),(33,ul1),(34,(.int .i64 ((((gl (cC B who) who).length:Nat):Int)))),(35,(.int .i64 (((i:Nat):Int))))]) (λ⟨i,r⟩=>[own ul1 ((gl (cC B who) who).length) (ints (gl (cC B who) who)) 3 1,ah b7 (ints (C.toList.flatMap CellT.flat)) 94,ah b (cs B) T]) (λ⟨i,r⟩=>(gl (cC B who) who).length-i) (0,0)
     ⟨aM _,rfl⟩ SB
     (λ_ s=>ak [0,0,0] rfl s) (λ⟨i,r⟩ hinv=>?_)
 obtain⟨hi,hr⟩:=hinv;have hE: ∀(j:Nat) (h:j<5),C[j]=c9 B j key:=λj h=>hC j h (by omega)
 refine sr λ_ J15=>PS ?_
 refine ao ?_ ?_<;>intro h36;refine nx J15 (ab λ_ J16=>CY (qx J16 (ab λ_ J17=>au (sr λ_ J18=>hY 0 rfl rfl (by omega) (λga capa hva hcapa=>?_)))));obtain⟨q,hq,hq5⟩: ∃q:Nat,(gl (cC B who) who)[i]=((q:Nat):Int)∧q<5:=by have:=Eu (cC B who) who _ (cH (show i< (gl (cC B who) who).length by omega));exact⟨(gl (cC B who) who)[i].toNat,by omega,by omega⟩
 have hE2:C[q]=c9 B (gl (cC B who) who)[i] key:=by rw[hE q hq5,hq]
 refine tp (bd (r:=i) hva rfl iO aR rfl rfl (by omega) (by omega) (by omega)) ?_;refine tp (ca (v:=(.int .i64 (((q:Nat):Int)))) rfl Y3 rfl rfl (fD 0 rfl hva rfl) (by rw[←hq];simp[ints,show i< (gl (cC B who) who).length by omega])) ?_;refine PS ?_;refine nx J18 (ab λ_ J19=>D1 1 mixed ?_);refine PD 0 ?_;refine PD 1 ?_;refine IY 2 (q*7) KC fy ?_;refine ta 3 rfl (aZ (r:=q*7) rfl mM rfl aR rfl rfl) ?_;refine LX 4 Y3 (.int .i64 ((C[q]'(by omega)).inn)) ?_ (hc:=by exact nU bw C (i:=q) 0 (by omega) (by omega) (by decide) (se _ rfl));refine PD 5 ?_;refine IY 6 (q*7) KC fy ?_;refine ta 7 rfl (aZ (r:=q*7+1) rfl mM rfl aR rfl rfl) ?_;refine LX 8 Y3 (.int .i64 ((C[q]'(by omega)).out)) ?_ (hc:=by exact nU bw C (i:=q) 1 (by omega) (by omega) (by decide) (sd _ rfl));refine ta 9 rfl (iz (r:=(fQ (((C[q]'(by omega)).inn)- ((C[q]'(by omega)).out)))) rfl rfl rfl rfl) ?_;refine ta 10 rfl (cr (r:=(fQ (r+(fQ (((C[q]'(by omega)).inn)- ((C[q]'(by omega)).out)))))) rfl rfl rfl rfl) ?_;refine PD 11 ?_;refine DN (ac J19 (sr λ_ J20=>PS ?_));refine nx J20 (au ?_)
 refine bn (α:=(Nat)×(Int)) (λ⟨o,r3⟩=>o≤5∧r3=p6 B key (gl (cC B who) who)[i] (fQ (r+fQ (C[q].inn-C[q].out))) o) (λ⟨o,r3⟩=>[(0,(.pointer (some ⟨b,off,none⟩))),(6,(.int .i64 0)),(7,(.pointer (some ⟨b7,0,none⟩))),(9,(.int .i64 (r3))),(11,(.int .i64 (((q:Nat):Int)))),(33,ul1),(34,(.int .i64 ((((gl (cC B who) who).length:Nat):Int)))),(35,(.int .i64 (((i:Nat):Int)))),(50,(.int .i64 (((o:Nat):Int))))]) (λ⟨o,r3⟩=>[own ul1 ((gl (cC B who) who).length) (ints (gl (cC B who) who)) 3 1,ah b7 (ints (C.toList.flatMap CellT.flat)) 94,ah b (cs B) T]) (λ⟨o,r3⟩=>5-o) (0,(fQ (r+(fQ (((C[q]'(by omega)).inn)- ((C[q]'(by omega)).out))))))
     ⟨aM _,rfl⟩ SB
     (λ_ s=>ak [0,0,0] rfl s) (λ⟨o,r3⟩ hinv=>?_)
 obtain⟨ho,hr3⟩:=hinv;refine sr λ_ J21=>PS ?_
 refine ao ?_ ?_<;>intro h51;refine nx J21 (ab λ_ J22=>CY (qx J22 (ab λ_ J23=>au (sr λ_ J24=>P2 ?_))));refine nx J24 (D1 1 mixed ?_);refine PD 0 ?_;refine PD 1 ?_;refine PD 2 ?_;refine IY 3 (o*7) KC fy ?_;refine ta 4 rfl (aZ (r:=o*7+2) rfl mM rfl eW rfl rfl) ?_;refine IY 5 (o*7+2+q) jO aR ?_;refine LX 6 Y3 (.int .i64 ((((C[o]'(by omega)).given)[q]'(by omega)))) ?_ (hc:=by exact nU bw C (i:=o) (2+q) (by omega) (by omega) (by omega) (Pt (C[o]'(by omega)) q (by omega) (by omega) (kq ((C[o]'(by omega)).given) (by omega))));refine PD 7 ?_;refine PD 8 ?_;refine IY 9 (q*7) KC fy ?_;refine ta 10 rfl (aZ (r:=q*7+2) rfl mM rfl eW rfl rfl) ?_;refine IY 11 (q*7+2+o) jO aR ?_;refine LX 12 Y3 (.int .i64 ((((C[q]'(by omega)).given)[o]'(by omega)))) ?_ (hc:=by exact nU bw C (i:=q) (2+o) (by omega) (by omega) (by omega) (Pt (C[q]'(by omega)) o (by omega) (by omega) (kq ((C[q]'(by omega)).given) (by omega))));refine ta 13 rfl (iz (r:=(fQ ((((C[o]'(by omega)).given)[q]'(by omega))- (((C[q]'(by omega)).given)[o]'(by omega))))) rfl rfl rfl rfl) ?_;refine ta 14 rfl (cr (r:=(fQ (r3+(fQ ((((C[o]'(by omega)).given)[q]'(by omega))- (((C[q]'(by omega)).given)[o]'(by omega))))))) rfl rfl rfl rfl) ?_;refine PD 15 ?_;refine DN (ag (ac J23 (ad (AD ?_))));refine PS ?_;refine ap ?_
 exact aI ((o+1,(fQ (r3+(fQ ((((C[o]'(by omega)).given)[q]'(by omega))- (((C[q]'(by omega)).given)[o]'(by omega))))))):(Nat)×(Int)) ⟨by omega,by rw[yl,←hr3,xx _ (by omega),hq,xx _ hq5,←hE o (by omega),←hE q hq5]⟩ (by show 5- (o+1)<5-o;omega)
   SB
   (λ_ s=>ak [0,0,0] rfl s)
 refine nx J21 (ab λ_ J25=>CN (aX (aA (aA (bl (ag (ac J17 (ad (AD ?_)))))))));refine PS ?_;refine ap ?_
 exact aI ((i+1,r3):(Nat)×(Int)) ⟨by omega,by
          have h5:o=5:=by omega
          rw[br (by omega),eU,←hr];show r3=oR B key r _
          rw[hr3,h5,oR,←hE2]⟩ (by show(gl (cC B who) who).length- (i+1)< (gl (cC B who) who).length-i;omega)
   SB
   (λ_ s=>ak [0,0,0] rfl s)
 refine nx J15 (ab λ_ J26=>CN (aX (aA (aA (bl (ac J13 (sr λ_ J27=>P2 ?_)))))));refine nx J27 (ai (WK [2] (av rfl rfl ?_)));obtain rfl:i=(gl (cC B who) who).length:=by omega
 exact⟨by rw[pd,if_pos h14,hr,dC],rfl⟩;refine PS ?_;refine nx J3 (CY (sr λ_ J28=>PS ?_));refine nx J28 (ai (af (WK [0] (av rfl rfl ?_))));exact⟨by rw[pd,if_neg (by simp[h14])],rfl⟩
theorem lS(b off T:Nat)(cs:MirT→List Value)(hA:Arnd cs MirT.cells off)(M:MirT)(who:Int):
 DT 56 #[(.pointer (some ⟨b,off,none⟩)),(.int .i64 (who))] T0 [ah b (cs M) T] (RI (.agg (ints (dr M who).flat).toArray) [ah b (cs M) T]):=by
 refine BD 15 Tryz.func56 rfl rfl rfl λw0 F hF=>sr λ_ J1=>XZ uB (ints RowT.zero.flat) λb4=>?_
 refine nx J1 (ab λ_ J2=>sr λ_ J3=>PS ?_);refine CE Ld (ik who) ID ?_;refine bc ?_ ?_<;>intro h6;have hm:0≤who∧who<5:=of_decide_eq_true h6;refine PS ?_;refine nx J3 (CN (qx J2 (sr λ_ J4=>P3 ?_)));refine tp (aZ (r:=off) rfl NG rfl tK rfl rfl) ?_;refine IX (off+who.toNat*174) Ig ba ?_;refine tp (aN (vs:=ints (M.rows[who.toNat]'(by omega)).flat) rfl dV rfl ba rfl (RO 1) (aj (M.rows[who.toNat]'(by omega))) (Py hA (j:=who.toNat*174) (by omega) (LB (qB _)) (MirT.sub_rows M (who.toNat*174) (by omega) (by omega) (kJ dB M.rows (i:=who.toNat) 0 (by omega) (by omega) (by decide) (whole (aj (M.rows[who.toNat]'(by omega)))))))) ?_;refine SW 0 ba aj ?_;refine nx J4 (ai (RC 0 [1] dV ba (aj _) ?_));exact⟨by rw[dr,dif_pos h6],rfl⟩;refine PS ?_;refine nx J3 (CY (sr λ_ J5=>BV ((ints RowT.zero.flat).toArray) ?_));refine SW 0 ba aj ?_;refine nx J5 (ai (af (RC 0 [1] dV ba (aj _) ?_)));exact⟨by rw[dr,dif_neg (by simp[h6])],rfl⟩
theorem m7(b off T:Nat)(cs:MirT→List Value)(hA:Arnd cs MirT.cells off)(M:MirT)(who:Int):
 DT 57 #[(.pointer (some ⟨b,off,none⟩)),(.int .i64 (who))] T0 [ah b (cs M) T] (RI (.bool (fe M who)) [ah b (cs M) T]):=by
 refine BD 15 Tryz.func57 rfl rfl rfl λw0 F hF=>sr λ_ J1=>PS ?_
 refine nx J1 (sr λ_ J2=>PS ?_);refine CE Ld (ik who) ID ?_;refine bc ?_ ?_<;>intro h6;have hm:0≤who∧who<5:=of_decide_eq_true h6;refine P4 ?_;refine tq (aZ (r:=off+870) rfl NG rfl MW rfl rfl) ?_;refine IX (off+870+who.toNat) Tryz.underlying76 lc ?_;refine LT 0 Y4 (.bool ((M.sealed[who.toNat]'(by omega)))) ?_ (hc:=by exact Arnd.at hA (j:=870+who.toNat) (by omega) (LB (qB _)) (MirT.pt_sealed M (who.toNat) (by omega) (by omega) (Ma M.sealed (by omega))));refine P2 ?_;refine nx J2 (ai (WK [0] (av rfl rfl ?_)));exact⟨by simp[fe, *],rfl⟩;refine PS ?_
 iterate 6 refine UF ?_
 refine P2 ?_;refine nx J2 (ai (WK [0] (av rfl rfl ?_)));exact⟨by simp[fe, *],rfl⟩
theorem q7(b off T:Nat)(cs:MirT→List Value)(hA:Arnd cs MirT.cells off)(M:MirT)(who:Int)(x:RowT)(hx:WF x.flat):
 DT 148 #[(.pointer (some ⟨b,off,none⟩)),(.int .i64 (who)),(.agg (ints x.flat).toArray)] T0 [ah b (cs M) T] (RI (.bool (lR M who x)) [ah b (cs M) T]):=by
 refine BD 34 Tryz.func148 rfl rfl rfl λw0 F hF=>sr λ_ J1=>XY (ints x.flat) λb5=>?_
 refine PS ?_;refine nx J1 (ab λ_ J2=>D2 1 0 mixed ?_);refine PD 0 ?_;refine AL 1 ?_;refine CE Ld (ik who) ID ?_;refine bc ?_ ?_<;>intro h8;have hm:0≤who∧who<5:=of_decide_eq_true h8;refine EN (PD 2 ?_);refine PD 3 ?_;refine PD 4 ?_;refine PD 5 ?_;refine tb 6 rfl (aZ (r:=off+870) rfl NG rfl MW rfl rfl) ?_;refine IY 7 (off+870+who.toNat) Tryz.underlying76 lc ?_;refine LX 8 Y4 (.bool ((M.sealed[who.toNat]'(by omega)))) ?_ (hc:=by exact Arnd.at hA (j:=870+who.toNat) (by omega) (LB (qB _)) (MirT.pt_sealed M (who.toNat) (by omega) (by omega) (Ma M.sealed (by omega))));refine oy ?_ ?_<;>intro h15;refine PD 9 ?_;refine PD 10 ?_;refine PD 11 ?_;refine NT 12 ?_;refine NT 13 ?_;refine PD 14 ?_;refine PD 15 ?_;refine NT 16 ?_;refine NT 17 ?_;refine NT 18 ?_;refine NT 19 ?_;refine NT 20 ?_;refine NT 21 ?_;refine NT 22 ?_;refine NT 23 ?_;refine NT 24 ?_;refine NT 25 ?_;refine PD 26 ?_;refine PD 27 ?_;refine DN (ac J2 (ai (WK [1] (av rfl rfl ?_))));exact⟨by simp[lR,fe,dr, *],rfl⟩;refine PD 9 ?_;refine PD 10 ?_;refine PD 11 ?_;refine LY 12 dV ba aj ?_;refine AL 13 ?_;refine CE Jh (jS x hx) ID ?_;refine bc ?_ ?_<;>intro h20;refine EN (PD 14 ?_);refine PD 15 ?_;refine FD 16 0 dV aR ?_;refine LR 17 Y3 (cy x rfl) ?_;refine PD 18 ?_;refine PD 19 ?_;refine PD 20 ?_;refine tb 21 rfl (aZ (r:=off) rfl NG rfl tK rfl rfl) ?_;refine IY 22 (off+who.toNat*174) Ig ba ?_;refine tb 23 rfl (aZ (r:=off+who.toNat*174) rfl dV rfl aR rfl rfl) ?_
 refine LX 24 Y3 (.int .i64 ((M.rows[who.toNat]'(by omega)).version)) ?_ (hc:=by exact Arnd.at hA (j:=who.toNat*174) (by omega) (LB (qB _)) (MirT.pt_rows M (who.toNat*174) (by omega) (by omega) (nU dB M.rows (i:=who.toNat) 0 (by omega) (by omega) (by decide) (cy _ rfl))));refine PD 25 ?_;refine PD 26 ?_;refine PD 27 ?_;refine DN (ac J2 (ai (WK [1] (av rfl rfl ?_))));exact⟨by simp[lR,fe,dr, *],rfl⟩;refine EN (PD 14 ?_);refine PD 15 ?_;refine NT 16 ?_;refine NT 17 ?_;refine NT 18 ?_;refine NT 19 ?_;refine NT 20 ?_;refine NT 21 ?_;refine NT 22 ?_;refine NT 23 ?_;refine NT 24 ?_;refine NT 25 ?_;refine PD 26 ?_;refine PD 27 ?_;refine DN (ac J2 (ai (WK [1] (av rfl rfl ?_))));exact⟨by simp[lR,fe,dr, *],rfl⟩;refine EN (PD 2 ?_);refine NT 3 ?_;refine NT 4 ?_;refine NT 5 ?_;refine NT 6 ?_;refine NT 7 ?_;refine NT 8 ?_;refine NT 9 ?_;refine PD 10 ?_;refine PD 11 ?_;refine NT 12 ?_;refine NT 13 ?_;refine PD 14 ?_;refine PD 15 ?_;refine NT 16 ?_;refine NT 17 ?_;refine NT 18 ?_;refine NT 19 ?_;refine NT 20 ?_;refine NT 21 ?_;refine NT 22 ?_;refine NT 23 ?_;refine NT 24 ?_;refine NT 25 ?_;refine PD 26 ?_;refine PD 27 ?_;refine DN (ac J2 (ai (WK [1] (av rfl rfl ?_))));exact⟨by simp[lR,fe,dr, *],rfl⟩
theorem sX(b off T:Nat)(cs:MirT→List Value)(hA:Arnd cs MirT.cells off)(M:MirT)(who:Int)(x:RowT)(hx:WF x.flat):
 DT 108 #[(.pointer (some ⟨b,off,none⟩)),(.int .i64 (who)),(.agg (ints x.flat).toArray)] T0 [ah b (cs M) T] (RI (.bool (mB M who x).2) [ah b (cs (mB M who x).1) T]):=by
 refine BD 18 Tryz.func108 rfl rfl rfl λw0 F hF=>sr λ_ J1=>XY (ints x.flat) λb5=>?_
 refine PS ?_;refine nx J1 (ab λ_ J2=>sr λ_ J3=>P2 ?_);refine LW 0 dV ba aj ?_;refine CE Ms (q7 b off T cs hA M who x hx) (SM [1]) ?_;refine bc ?_ ?_<;>intro h10;have hm0:cM who=true:=by have:=h10;simp only[lR,ay]at this;exact this.1.1.1
 have hm:0≤who∧who<5:=of_decide_eq_true hm0;refine PS ?_;refine nx J3 (CN (qx J2 (ab λ_ J4=>D1 1 mixed ?_)));refine PD 0 ?_;refine PD 1 ?_;refine LY 2 dV ba aj ?_;refine PD 3 ?_;refine ta 4 rfl (aZ (r:=off) rfl NG rfl tK rfl rfl) ?_;refine IY 5 (off+who.toNat*174) Ig ba ?_;refine AL 6 ?_;refine bO (vs:=ints x.flat) (i:=0) (aa rfl) rfl rfl rfl rfl rfl (by rw[(aj x)];exact ba) (bk _) rfl rfl (by have h0:=(qB M);have h2:=Arnd.le hA M;have h1:=(aj x);omega) (Arnd.wr hA (x:=M) (x':=(MirT.mk (M.rows.set who.toNat x (by omega)) M.sealed)) (j:=who.toNat*174) (by omega) (LC (qB _) (aj _)) (MirT.wr_rows_ M (who.toNat*174) (by omega) (by have h1:=(aj x);omega) (uC dB M.rows (i:=who.toNat) 0 (by omega) (by omega) (by have h1:=(aj x);omega) (ct ((aj (M.rows[who.toNat]'(by omega))).trans (aj x).symm))))) rfl (ap (E1 1 (DN (ac J4 (sr λ_ J5=>PS ?_)))));refine nx J5 (ai (WK [0] (av rfl rfl ?_)));have e:mB M who x=(AT M who x,true):=by rw[mB,if_pos h10]
 exact⟨by rw[e],by rw[e,AT,dif_pos hm0];rfl⟩;refine PS ?_;refine nx J3 (CY (sr λ_ J6=>PS ?_));refine nx J6 (ai (af (WK [0] (av rfl rfl ?_))));have e:mB M who x=(M,false):=by rw[mB,if_neg (by simp[h10])]
 exact⟨by rw[e],by rw[e];rfl⟩
theorem sW(b off T:Nat)(cs:MirT→List Value)(hA:Arnd cs MirT.cells off)(M:MirT)(who:Int):
 DT 109 #[(.pointer (some ⟨b,off,none⟩)),(.int .i64 (who))] T0 [ah b (cs M) T] (RI (.tuple #[.agg (ints (dr M who).flat).toArray, .bool (cM who)]) [ah b (cs (oi M who)) T]):=by
 refine Leg.Does.body (vs:=[(.pointer (some ⟨b,off,none⟩)),(.int .i64 (who))]) (n:=21) Tryz.func109 rfl rfl rfl (λw0 F hF=>?_);refine sr λ_ J1=>?_
 refine lZ (aa rfl) rfl rfl rfl uB (λb4=>?_);change TL _ _ _ _ _ _ _ _ _ [ah b4 (ints RowT.zero.flat) 39,ah b (cs M) T];refine pJ ?_;refine nx J1 ?_;clear J1;refine ab λ_ J2=>?_
 refine sr λ_ J3=>?_
 refine mv ?_;refine hZ (aa rfl) rfl rfl rfl Ld rfl (ik who) (λ_ s=>s) (λ_ _ _=>trivial) (λvR HR hR=>?_);obtain⟨rfl,rfl⟩:=hR;refine bc (λh7=>?_) (λh7=>?_);have hm:0≤who∧who<5:=of_decide_eq_true h7;refine tp (mG (r:=false) rfl rfl rfl) ?_;refine nx J3 ?_;clear J3;refine tt rfl ?_;refine aT ?_;refine ac J2 ?_;clear J2;refine sr λ_ J4=>?_
 refine mv ?_;refine mv ?_;refine tp (gf rfl rfl) ?_;refine tp (aZ (r:=off+870) rfl NG rfl MW rfl rfl) ?_;refine tp (eu (r:=off+870+who.toNat) rfl Tryz.underlying76 lc rfl rfl (by omega) (by omega) (by omega)) ?_;refine bz (i:=1) (aa rfl) rfl rfl rfl rfl rfl lc rfl rfl (by have h0:=(qB M);have h2:=Arnd.le hA M;omega) (Arnd.set hA (x:=M) (x':=(MirT.mk M.rows (M.sealed.set who.toNat true (by omega)))) (j:=870+who.toNat) (by omega) (by have h0:=(qB M);omega) (MirT.st_sealed M (who.toNat) (by omega) (by omega) (NY M.sealed (by omega) _))) rfl ?_;refine nx J4 ?_;clear J4;refine sr λ_ J5=>?_
 refine mv ?_;refine mv ?_;refine tp (gf rfl rfl) ?_;refine tp (aZ (r:=off) rfl NG rfl tK rfl rfl) ?_;refine tp (eu (r:=off+who.toNat*174) rfl Ig ba rfl rfl (by omega) (by omega) (by omega)) ?_;refine tp (aN (vs:=ints (M.rows[who.toNat]'(by omega)).flat) rfl dV rfl ba rfl (dS 1 rfl rfl) (aj (M.rows[who.toNat]'(by omega))) (Py hA (j:=who.toNat*174) (by omega) (by have h0:=(qB (MirT.mk M.rows (M.sealed.set who.toNat true (by omega))));omega) (MirT.sub_rows (MirT.mk M.rows (M.sealed.set who.toNat true (by omega))) (who.toNat*174) (by omega) (by omega) (kJ dB M.rows (i:=who.toNat) 0 (by omega) (by omega) (by decide) (whole (aj (M.rows[who.toNat]'(by omega)))))))) ?_;refine bO (vs:=ints (M.rows[who.toNat]'(by omega)).flat) (i:=0) (aa rfl) rfl rfl rfl rfl rfl (by rw[(aj (M.rows[who.toNat]'(by omega)))];exact ba) (bk _) rfl rfl (by have h0:=(aj RowT.zero);have h1:=(aj (M.rows[who.toNat]'(by omega)));omega) (ct ((aj RowT.zero).trans (aj (M.rows[who.toNat]'(by omega))).symm)) rfl ?_;refine pJ ?_;refine nx J5 ?_;clear J5;refine ai ?_;refine l3 (H':=[ah b (cs (MirT.mk M.rows (M.sealed.set who.toNat true (by omega)))) T]) rfl rfl rfl dV rfl ba (dS 0 rfl rfl) (aj (M.rows[who.toNat]'(by omega))) (λ_ s=>ak [1] rfl s) ?_;exact⟨by simp[dr, *],by simp[oi, *]⟩;refine tp (mG (r:=true) rfl rfl rfl) ?_;refine nx J3 ?_;clear J3;refine iU rfl ?_;refine sr λ_ J6=>?_
 refine tp (j6 (cells:=(ints RowT.zero.flat).toArray) rfl rfl (by as_aux_lemma=>kernel_rfl)) ?_;refine bO (vs:=ints RowT.zero.flat) (i:=0) (aa rfl) rfl rfl rfl rfl rfl (by rw[(aj RowT.zero)];exact ba) (bk _) rfl rfl (by have h0:=(aj RowT.zero);have h1:=(aj RowT.zero);omega) (ct ((aj RowT.zero).trans (aj RowT.zero).symm)) rfl ?_;refine pJ ?_;refine nx J6 ?_;clear J6;refine ai ?_;refine af ?_;clear J2;refine l3 (H':=[ah b (cs M) T]) rfl rfl rfl dV rfl ba (dS 0 rfl rfl) (aj RowT.zero) (λ_ s=>ak [1] rfl s) ?_;exact⟨by simp[dr, *],by simp[oi, *]⟩
end Go.Proofs.YtfocodjhmkokpaaGreatDoor
end

section
namespace Api
open Go Leg Codec
def fc(k:Int):Bool:=decide (k=0∨k=2∨k=9)
def fk(k:Int):Bool:=decide (k=3∨k=6)
def cR:Ps (MsgT×Bool):=pb (fi 10) λk=>
 if fc k then pb (fi 5) λw=>pb vj λx=>pr (⟨k,w,x,0,0, .zero, .zero, .zero, .zero⟩,hJ x)
 else if k=1 then pb nt λn=>pr (⟨k,0, .zero,n,0, .zero, .zero, .zero, .zero⟩,true)
 else if fk k then pb nt λn=>pb ke λb=>pr (⟨k,0, .zero,0,n,b, .zero, .zero, .zero⟩,true)
 else if k=4 then pb nt λn=>pb ke λb=>pb ke λd=>pb lD λc=>pr (⟨k,0, .zero,0,n,b,d,c, .zero⟩,true)
 else if k=5 then pb nt λn=>pb ke λb=>pb lD λc=>pr (⟨k,0, .zero,0,n,b, .zero,c, .zero⟩,true)
 else if k=7 then pb mP λv=>pr (⟨k,0, .zero,0,0, .zero, .zero, .zero,v⟩,kQ v)
 else if k=8 then pb (fi 5) λw=>pb mP λv=>pr (⟨k,w, .zero,0,0, .zero, .zero, .zero,v⟩,kQ v)
 else pr (⟨k,0, .zero,0,0, .zero, .zero, .zero, .zero⟩,true)
def dx:Ps (RecT×Bool):=pb (fi 6) λk=>
 if k=0 then pb vj λx=>pr (⟨k,0,x,0, .zero, .zero, .zero⟩,hJ x)
 else if k=1 then pb (fi 5) λw=>pb vj λx=>pr (⟨k,w,x,0, .zero, .zero, .zero⟩,hJ x)
 else if k=2 then pb (fi 5) λw=>pr (⟨k,w, .zero,0, .zero, .zero, .zero⟩,true)
 else if k=3 then pb nt λn=>pb ke λb=>pr (⟨k,0, .zero,n,b, .zero, .zero⟩,true)
 else if k=4 then pb nt λn=>pb ke λb=>pb lD λc=>pr (⟨k,0, .zero,n,b,c, .zero⟩,true)
 else if k=5 then pb mP λv=>pr (⟨k,0, .zero,0, .zero, .zero,v⟩,kQ v)
 else pr (⟨k,0, .zero,0, .zero, .zero, .zero⟩,true)
def iR(bs:List UInt8):MsgT×Int:=match cR bs with
 |some ((m,true),[])=>(m,0)
 |_=>(.zero,1)
def oo(bs:List UInt8):RecT×Int:=match dx bs with
 |some ((m,true),[])=>(m,0)
 |_=>(.zero,1)
def dR(m:MsgT):List UInt8:=
 if fc m.kind then bj [m.kind,m.whose]++iq m.row
 else if m.kind=1 then bj [m.kind,m.version]
 else if fk m.kind then bj [m.kind,m.epoch]++bj m.ballot.flat
 else if m.kind=4 then bj [m.kind,m.epoch]++bj m.ballot.flat++bj m.had.flat++bj m.change.flat
 else if m.kind=5 then bj [m.kind,m.epoch]++bj m.ballot.flat++bj m.change.flat
 else if m.kind=7 then bj [m.kind]++bj m.view.flat
 else if m.kind=8 then bj [m.kind,m.whose]++bj m.view.flat
 else []
def kn(m:RecT):List UInt8:=
 if m.kind=0 then bj [m.kind]++iq m.row
 else if m.kind=1 then bj [m.kind,m.whose]++iq m.row
 else if m.kind=2 then bj [m.kind,m.whose]
 else if m.kind=3 then bj [m.kind,m.epoch]++bj m.ballot.flat
 else if m.kind=4 then bj [m.kind,m.epoch]++bj m.ballot.flat++bj m.change.flat
 else if m.kind=5 then bj [m.kind]++bj m.view.flat
 else []
theorem sx{v:ViewT}{bs r:List UInt8}(h:mP bs=some (v,r)):Rng v:=λi hi=>by
 have:=(tF h).1.2.2 i hi;exact⟨this.1,by omega⟩
theorem Ax{x:RowT}{bs r:List UInt8}(h:vj bs=some (x,r)):WF x.flat:=(wO h).1.wf
def Nm(n:Int):Prop:=0≤n∧n<9223372036854775808
def OkB(b:BallotT):Prop:=Nm b.round∧0≤b.who∧b.who<5
def OkC(c:ChangeT):Prop:=(0≤c.kind∧c.kind<2)∧(0≤c.who∧c.who<5)∧(0≤c.heir∧c.heir<5)
def Q3(v:ViewT):Prop:=Nm v.epoch∧(0≤v.members∧v.members<32)∧∀(i:Nat) (h:i<5),0≤v.heirs[i]∧v.heirs[i]<6
theorem Ns(i:Nat)(hi:i<5):RowT.zero.heir[i]=0:=by match i,hi with|0,_|1,_|2,_|3,_|4,_=>rfl
theorem Ke(k:Nat)(hk:k<4):RowT.zero.cells[k]=CellT.zero:=by match k,hk with|0,_|1,_|2,_|3,_=>rfl
theorem EV(i:Nat)(hi:i<5):RowT.zero.left[i]=RowT.zero.cells:=by match i,hi with|0,_|1,_|2,_|3,_|4,_=>rfl
theorem tame_rzero:TameR RowT.zero:=⟨⟨by decide,by decide⟩,λk hk=>by rw[Ke k hk];exact tG,λi hi=>by rw[Ns i hi];decide,λi k hi hk=>by rw[show RowT.zero.left[i][k]=RowT.zero.cells[k]from by rw[EV i hi],Ke k hk];exact tG,λi hi _=>by rw[EV i hi,EV 0 (by decide)]⟩
def EC(m:RecT):Bool:=if m.kind=0∨m.kind=1 then hJ m.row else if m.kind=5 then kQ m.view else true
theorem I3{m:RecT}{g:Bool}{bs r:List UInt8}(h:dx bs=some ((m,g),r)):bs=kn m++r∧EC m=g∧(0≤m.kind∧m.kind<6)∧(0≤m.whose∧m.whose<5)∧TameR m.row:=by
 obtain⟨k,r1,h1,h2⟩:=bL h;clear h;obtain⟨k1,rfl⟩:=du h1;have tz:=tame_rzero;have kz:(0:Int)≤0∧(0:Int)<5:=by omega
 by_cases c0:k=0
 · simp only[if_pos c0]at h2
   subst c0;obtain⟨x,r3,h5,h6⟩:=bL h2;obtain⟨k5,rfl⟩:=wO h5;obtain⟨e,rfl⟩:=ij h6;injection e with e1 e2;subst e1;subst e2
   exact⟨by simp[kn,bj],by simp[EC],⟨k1.1,k1.2.1⟩,kz,k5⟩
 simp only[if_neg c0]at h2
 by_cases c1:k=1
 · simp only[if_pos c1]at h2
   subst c1;obtain⟨w,r2,h3,h4⟩:=bL h2;obtain⟨k3,rfl⟩:=du h3;obtain⟨x,r3,h5,h6⟩:=bL h4;obtain⟨k5,rfl⟩:=wO h5;obtain⟨e,rfl⟩:=ij h6;injection e with e1 e2;subst e1;subst e2
   exact⟨by simp[kn,bj],by simp[EC],⟨k1.1,k1.2.1⟩,⟨k3.1,k3.2.1⟩,k5⟩
 simp only[if_neg c1]at h2
 by_cases c2:k=2
 · simp only[if_pos c2]at h2
   subst c2;obtain⟨w,r2,h3,h4⟩:=bL h2;obtain⟨k3,rfl⟩:=du h3;obtain⟨e,rfl⟩:=ij h4;injection e with e1 e2;subst e1;subst e2
   exact⟨by simp[kn,bj],by simp[EC],⟨k1.1,k1.2.1⟩,⟨k3.1,k3.2.1⟩,tz⟩
 simp only[if_neg c2]at h2
 by_cases c3:k=3
 · simp only[if_pos c3]at h2
   subst c3;obtain⟨n,r2,h3,h4⟩:=bL h2;obtain⟨_,_,rfl⟩:=lq h3;obtain⟨b,r3,h5,h6⟩:=bL h4;obtain⟨_,rfl⟩:=qw h5;obtain⟨e,rfl⟩:=ij h6;injection e with e1 e2;subst e1;subst e2
   exact⟨by simp[kn,bj],by simp[EC],⟨k1.1,k1.2.1⟩,kz,tz⟩
 simp only[if_neg c3]at h2
 by_cases c4:k=4
 · simp only[if_pos c4]at h2
   subst c4;obtain⟨n,r2,h3,h4⟩:=bL h2;obtain⟨_,_,rfl⟩:=lq h3;obtain⟨b,r3,h5,h6⟩:=bL h4;obtain⟨_,rfl⟩:=qw h5;obtain⟨c,r5,h9,h10⟩:=bL h6;obtain⟨_,rfl⟩:=u9 h9;obtain⟨e,rfl⟩:=ij h10;injection e with e1 e2;subst e1;subst e2
   exact⟨by simp[kn,bj],by simp[EC],⟨k1.1,k1.2.1⟩,kz,tz⟩
 simp only[if_neg c4]at h2;have c5:k=5:=by omega
 simp only[if_pos c5]at h2;subst c5;obtain⟨v,r3,h5,h6⟩:=bL h2;obtain⟨_,rfl⟩:=tF h5;obtain⟨e,rfl⟩:=ij h6;injection e with e1 e2;subst e1;subst e2
 exact⟨by simp[kn,bj],by simp[EC],⟨k1.1,k1.2.1⟩,kz,tz⟩
theorem Rng.zeros{v:ViewT}(h:v.heirs= #v[0,0,0,0,0]):Rng v:=λi hi=>by
 have:v.heirs[i]=0:=by
  rw[show v.heirs[i]=(#v[0,0,0,0,0]:Vector Int 5)[i]from by rw[h]]
  match i,hi with|0,_|1,_|2,_|3,_|4,_=>rfl
 omega
theorem Rng.zero:Rng ViewT.zero:=Rng.zeros rfl
theorem Rng.first:Rng firstV:=Rng.zeros rfl
def wP(x:RepT):MsgT:= {MsgT.zero with kind:=0,whose:=x.id,row:=x.own}
def sT(id:Int)(x:RowT):MsgT:= {MsgT.zero with kind:=2,whose:=id,row:=x}
def Bk(k w:Int):Bool:=decide (k.fdiv (2^min w.toNat IntKind.i64.bits)%2=0)
def pU(x:RepT):List SaidT:=((gV x.id).filter λw=>Bk x.kept w).map λw=>⟨w,wP x⟩
end Api
namespace Api
open Go Leg Codec
def gB(x:RepT)(o:OpT):RowT×Int:=
 if o.kind=0 then oP x.own o.key o.n else if o.kind=1 then oQ x.own o.key o.n else if o.kind=2 then(if o.to'≠x.id then ly x.own o.key o.n o.to' else(.zero,5))else(.zero,5)
def iL(x:RepT)(o:OpT):RowT×Int×Int:=
 if iQ x.view x.id=false then(.zero,0,9)else if na o.key=false then(.zero,0,5)else if o.kind=3 then(.zero,gF x.book o.key,0)else if x.busy then(.zero,0,8)
 else if(gB x o).2≠0 then(.zero,0,(gB x o).2)else if o.kind≠0∧pd x.book x.id o.key<o.n then(.zero,0,7)else((gB x o).1,0,0)
def kP(y:RowT):RecT:= {RecT.zero with kind:=0,row:=y}
end Api
namespace Api
open Go Leg Codec
end Api
namespace Api
open Go Leg Codec
end Api
namespace Api
open Go Leg Codec
end Api
namespace Api
open Go Leg Codec
end Api
end

section
namespace Leg
open Go Go.ChangeShapes Go.WideShapes Codec Api
section
variable {P:Program} {W:World} {H:Type} {enc:TypeId×Value→H} {B0:Nat} {spare:Nat→Bool} {held:Bool}
theorem Ea{t:TypeId}{fuel:Nat}{cs:List Value}{x:DataW H×List MemPlace}(ht:P.underlying t=some .bool)(h:DataW.trod enc P W B0 spare held fuel t cs=some x): ∃b,cs=[.bool b]:=by
 cases fuel with
 |zero=>simp[DataW.trod]at h
 |succ n=>
  unfold DataW.trod at h;rw[ht]at h;split at h<;>simp_all
theorem Fits.append{a b:List (Option IntKind)}{x y:List Lit}(h:Fits a x)(g:Fits b y):Fits (a++b) (x++y):=
 ⟨by rw[cz,cz,h.1,g.1],λl hl=>(ci.1 hl).elim (h.2 l) (g.2 l)⟩
theorem zy{d:Nat}(ih: ∀t ks,li P d t=some ks→∀fuel cs x,DataW.trod enc P W B0 spare held fuel t cs=some x→∃ls,Fits ks ls∧cs=ls.map ig)(cs:List Value)(n:Nat):
 ∀(fs:List Field) (o:Nat) (ks:List (Option IntKind)),qj P (li P d) fs o=some ks→cs.length=o+ks.length→
  (∀f∈fs,∃y,DataW.trod enc P W B0 spare held n f.type ((cs.drop f.offset).take (P.cellsOf f.type))=some y)→∃ls,Fits ks ls∧cs.drop o=ls.map ig
 | [],o,ks,h,hl,_=>by
  simp only[qj,Option.some.injEq]at h;subst h;exact⟨[],⟨rfl,λ_ h=>by cases h⟩,by rw[cL (by simpa using cK hl)];rfl⟩
 |f::fs,o,ks,h,hl,hf=>by
  simp only[qj]at h;split at h
  · rename_i c hc
    split at h
    · rename_i hh
      obtain⟨m,hm,rfl⟩:=Option.map_eq_some_iff.1 h;rw[ae]at hl;obtain⟨y,hy⟩:=hf f (by simp);rw[hh.1,hh.2]at hy;obtain⟨l1,f1,e1⟩:=ih f.type c hc n _ _ hy;obtain⟨l2,f2,e2⟩:=zy ih cs n fs (o+c.length) m hm (by omega) (λg hg=>hf g (by simp[hg]));refine⟨l1++l2,f1.append f2,?_⟩;rw[cz,←e1,←e2,←j9];exact(lh _ _).symm
    · cases h
  · cases h
theorem flat_in: ∀(d:Nat) (t:TypeId) (ks:List (Option IntKind)),li P d t=some ks→∀fuel cs x,DataW.trod enc P W B0 spare held fuel t cs=some x→∃ls,Fits ks ls∧cs=ls.map ig
 |0,_,_,h=>by simp[li]at h
 |d+1,t,ks,h=>λfuel cs x hx=>by
  have ih:=flat_in d;simp only[li]at h;split at h
  · rename_i q hu
    simp only[Option.some.injEq]at h;subst h;obtain⟨n,rfl,_,hw⟩:=DataW.trod_int hu hx;exact⟨[.int q n],⟨rfl,by simpa using hw⟩,rfl⟩
  · rename_i hu
    simp only[Option.some.injEq]at h;subst h;obtain⟨b,rfl⟩:=Ea hu hx;exact⟨[.bool b],⟨rfl,by simp[Lit.wf]⟩,rfl⟩
  · rename_i n e hu
    split at h
    · rename_i c hc
      split at h
      · rename_i hh
        simp only[Option.some.injEq]at h;subst h;obtain⟨xs,m,_,_,hl,hxl,hxi⟩:=DataW.trod_array hu hx;rw[hh.2]at hl
        have each: ∀k,k≤n→∃ls,Fits (List.replicate k c).flatten ls∧cs.take (k*c.length)=ls.map ig:=by
         intro k
         induction k with
         |zero=>intro _;exact⟨[],⟨rfl,λ_ h=>by cases h⟩,by simp⟩
         |succ k ihk=>
          intro hk;obtain⟨l1,f1,e1⟩:=ihk (by omega);have hy:=hxi k (by omega);rw[List.getElem?_eq_getElem (by omega),hh.1]at hy;obtain⟨l2,f2,e2⟩:=ih e c hc m _ _ hy;refine⟨l1++l2,?_,?_⟩
          · rw[List.replicate_succ',List.flatten_append]
            simpa using f1.append f2
          · rw[cz,←e1,←e2,fg,Nat.one_mul,List.take_add]
        obtain⟨ls,f,e⟩:=each n (aL _);rw[az (by omega)]at e;exact⟨ls,f,e⟩
      · cases h
    · cases h
  · rename_i fs hu
    split at h
    · rename_i m' hc
      split at h
      · rename_i hh
        simp only[Option.some.injEq]at h;subst h;obtain⟨xs,m,_,_,hl,hxl,hxi⟩:=DataW.trod_struct hu hx
        have:=zy (λt ks h=>ih t ks h) cs m fs.toList 0 _ hc (by rw[hl,hh.1,bf]) (λf hf=>by
         obtain⟨i,hi⟩:=List.getElem?_of_mem hf;have hi':fs[i]?=some f:=by simpa using hi
         have:=hxi i f hi';have hlt:=(Array.getElem?_eq_some_iff.1 hi').1;rw[List.getElem?_eq_getElem (by omega)]at this
         exact⟨_,this⟩)
        simpa using this
      · cases h
    · cases h
  · cases h
theorem fits_ints{c:Nat}{ls:List Lit}(h:Fits (List.replicate c (some .i64)) ls): ∃l,ls=oj l∧l.length=c∧WF l:=by
 obtain⟨h1,h2⟩:=h
 have e: ∀x∈ls,∃n,x= .int .i64 n:=λx hx=>by
  have:zq x∈ls.map zq:=List.mem_map_of_mem hx;rw[h1,List.map_replicate]at this;have:=List.eq_of_mem_replicate this;cases x<;>simp only[zq,Option.some.injEq,reduceCtorEq]at this;subst this;exact⟨_,rfl⟩
 refine⟨ls.map λx=>match x with| .int _ n=>n|_=>0,?_,?_,?_⟩
 · rw[oj,QZ]
   conv=>lhs;rw[←List.map_id ls]
   refine dW λx hx=>?_
   obtain⟨n,rfl⟩:=e x hx;rfl
 · have:=congrArg List.length h1
   simpa using this
 · intro n hn
   obtain⟨x,hx,rfl⟩:=eB.1 hn;obtain⟨n,rfl⟩:=e x hx;exact h2 _ hx
theorem litI_cells(l:List Int):(oj l).map ig=ints l:=by simp[oj,ints,ig]
theorem yE{a:Addr}{v:Value}(h:W.cell? a=some v): ∃b o cs T z,a=⟨b,o,none⟩∧W.heap[b]?=some (.cells (List.toArray cs) T z)∧cs[o]?=some v:=by
 obtain⟨b,o,s⟩:=a;simp only[World.cell?]at h;split at h
 · rename_i cs T z hb
   cases s with
   |some s=>simp at h
   |none=>exact⟨b,o,cs.toList,T,z,rfl,by simpa using hb,by simpa using h⟩
 · cases h
theorem JC{t e:TypeId}{fuel size:Nat}{α:Type}{E:List Value→α→Hl→Prop}{cs:List Value}{x:DataW H×List MemPlace}(ht:P.underlying t=some (.slice e))(hc:P.cellsOf e=size)(hs:0<size)
 (hE: ∀fuel cs x,DataW.trod enc P W B0 spare held fuel e cs=some x→∃a,E cs a (hp W)) (h:DataW.trod enc P W B0 spare held fuel t cs=some x): ∃u l,cs=[u]∧IsL size E u l (hp W):=by
 classical
 rcases Deep.open_slice ht h with⟨rfl,_⟩| ⟨a,len,cap,m,n,D,Pl,rfl,_,hl,hm,hmm,_,hx⟩
 · exact⟨_,[],rfl, .inl ⟨rfl,rfl⟩⟩
 · have hlm:len≤m:=by rw[hmm];split<;>omega
   by_cases h0:len=0
   · subst h0
     exact⟨_,[],rfl, .inr (.inl ⟨a,cap,rfl,rfl⟩)⟩
   · have first: ∃v,W.cell? a=some v:=by
      obtain⟨cs',h1,_⟩:=hx 0 (by omega);obtain⟨_,h2,h3⟩:=World.cells?_some h1;have:=h3 0 (by omega);rw[gD,show(a.add 0).add 0=a from rfl,List.getElem?_eq_getElem (by omega)]at this;exact⟨_,this⟩
     obtain⟨v,hv⟩:=first;obtain⟨b,o,bs,T,z,rfl,hb,_⟩:=yE hv
     have each: ∀i,i<len→∃us,us.length=size∧(bs.drop (o+i*size)).take size=us∧∃x,E us x (hp W):=λi hi=>by
      obtain⟨cs',h1,h2⟩:=hx i (by omega);obtain⟨_,h3,h4⟩:=World.cells?_some h1;rw[hc]at h3 h4;refine⟨cs',h3,?_,hE _ _ _ h2⟩;apply List.ext_getElem?;intro k;rw[List.getElem?_take];split
      · rename_i hk
        have:=h4 k hk;rw[pg,pg]at this;simp only[World.cell?,hb,Option.isSome_none,Bool.false_eq_true,if_false]at this;rw[List.getElem?_drop]
        simpa using this
      · rw[List.getElem?_eq_none (by omega)]
     obtain⟨f,hf⟩: ∃f:Nat→α,∀i,i<len→E ((bs.drop (o+i*size)).take size) (f i) (hp W):=by
      have each': ∀i,i<len→∃x,E ((bs.drop (o+i*size)).take size) x (hp W):=λi hi=>by
       obtain⟨us,_,e2,q⟩:=each i hi;rw[e2];exact q
      obtain⟨x,_⟩:=each' 0 (by omega)
      haveI:Inhabited α:=⟨x⟩
      exact Deep.choose_lt each'
     refine⟨_,(List.range len).map f,rfl, .inr (.inr ⟨b,o,cap,bs,T,z,by simp,by simpa using hl,by simpa [maxLen]using hm,hb,λj hj=>?_⟩)⟩;have hj':j<len:=by simpa using hj
     obtain⟨us,e1,e2,_⟩:=each j hj';exact⟨us,e1,e2,by rw[←e2];simpa using hf j hj'⟩
theorem listV_in{t e:TypeId}{size:Nat}{α:Type}{E:List Value→α→Hl→Prop}{v:Value}{d:DataW H}{ps:List MemPlace}(ht:P.underlying t=some (.slice e))(hc:P.cellsOf e=size)(hs:0<size)(hv:Value.okWide P W .any B0 t v)
 (hE: ∀fuel cs x,DataW.trod enc P W 0 spare held fuel e cs=some x→∃a,E cs a (hp W)) (hd:DataW.Trod enc P W 0 spare held t v d ps): ∃l,IsL size E v l (hp W):=by
 obtain⟨fuel,hf⟩:=hd;obtain⟨u,l,h1,h2⟩:=JC ht hc hs hE hf;obtain⟨a,len,cap,rfl⟩:=WideShapes.okWide_slice ht hv;simp[Value.cells]at h1;subst h1;exact⟨l,h2⟩
end
section
variable {P:Program} {w0:World} {F:Hl} {n:Nat} {ops:Array Oper} {Q:QQ} {D:List Deferred} {L:List (Nat×Value)} {H:List HP} {o:Oper} {l:List Oper} {d:Nat} {S:World→Prop}
def x9(P:Program)(t:TypeId)(rv:Value)(nm:String)(f:FuncId):Prop:=∀w,(method (P.types.size+Made.depth) t rv nm).run P w= .ok (f,rv) w
theorem TL.callI{recv:Operand}{nm:String}{t:TypeId}{rv:Value}{f:FuncId}{xs:Array Operand}{ts:Array TypeId}{vs:List Value}{R:Hl→Prop}{A B:List HP}{p:Value→List HP→Prop}(hw:Want n D ops o L)
 (ho:o.op= .call {callee:= .invoke recv nm,args:=xs,argTypes:=ts}) (hd:o.dst=some d) (hn:Nat.blt d n=true) (hr:cB L recv=some (.iface t rv)) (hm:x9 P t rv nm f) (hf:Named P f) (hx:AZ L xs.toList=some vs)
 (sp:Does P f (rv::vs).toArray R A (dm p)) (hp: ∀h,bD H h→bD (A++B) h) (hR: ∀g,Dj g F→bD B g→R (jn g F))
 (hret: ∀v H',p v H'→TL P w0 F n ops Q l D ((d,v)::L) (H'++B)):TL P w0 F n ops Q (o::l) D L H:=
 TL.callw hw (λa w g=>by
  have e:xs.map a.eval=vs.toArray:=g.evals hx;have e2:a.eval recv= .iface t rv:=g.eval hr;have e3:=hm w
  simp[execOp,ho,resolve,invoke,callMethod,e,e2,e3,my hf])
  sp hp hR (λv H' q a g w s m=>by rw[hd];exact hret v H' q _ w (g.put (lb hn) v) s m) (λ_ _ h=>h.elim) (λ_ h=>h)
theorem TE.retCTT{H':List HP}{fn:Func}{post:Ending→List HP→Prop}{t t' t2 ty e m b:Nat}{cs:List Value}{z:Nat×Nat}{dt:TypeDesc}{v' v2:Value}(hr:fn.results=#[.cell t ty, .tmp t', .tmp t2])(he:lk L t=some (.pointer (some ⟨b,0,none⟩)))(e':lk L t'=some v')(e2:lk L t2=some v2)
 (hu:P.underlying ty=some dt) (hp:ek dt=false) (hm:(P.info? ty).map (·.size)=some m) (hR:Rd (Sat H F) b (.cells cs.toArray e z)) (hl:cs.length=m) (hk: ∀h,bD H h→bD H' h)
 (h:post (.returned (.tuple #[.agg cs.toArray,v',v2])) H'):TE w0 F n (bodyPost P fn (jL post w0 F)) .ret [] L H:=λa w f s q=>by
 have h1:a.tmps.getD t undef= .pointer (some ⟨b,0,none⟩):=f.eval (x:= .tmp t) he;have h2:a.tmps.getD t' undef=v':=f.eval (x:= .tmp t') e';have h4:a.tmps.getD t2 undef=v2:=f.eval (x:= .tmp t2) e2
 have h3:(results fn a.tmps).run P w= .ok (.tuple #[.agg cs.toArray,v',v2]) w:=by
  have h1':a.tmps[t]?.getD undef= .pointer (some ⟨b,0,none⟩):=by simpa using h1
  have h2':a.tmps[t']?.getD undef=v':=by simpa using h2
  have h4':a.tmps[t2]?.getD undef=v2:=by simpa using h4
  simp[results,hr,h1',h2',h4',asAddr,run_loadVar_row w b e ty cs.toArray z dt (hR w q) hu (by cases dt<;>simp[ek]at hp ⊢) (by simp[hm,hl])]
 exact bodyPost_ret h3 f.2.1 ⟨s,H',q.mono hk,h⟩
theorem PV.ifaceNotNil{t t' u:TypeId}{x:Operand}{v:Value}{ms:Array (String×TypeId)}(ho:o.op= .binOp .neq t x (.const .nilIface) t')(ht:P.underlying t=some (.interface ms))(hx:cB L x=some (.iface u v)):PV P n D L S o (.bool true):=
 fO ho hx rfl λw=>by
  have:=q9 (P:=P) (w:=w) 9999 (u:=u) (v:=v) ht;simp[eqGuard,binOp,Op.equal,Op.maxDepth,this]
end
theorem nC(i:Nat){v:Value}{l:List Int}{e:Nat}{B:List HP}{F:Hl}(hi:Nat.blt i B.length=true)(hH:B.getD i (λ_=>True)=own v l.length (Api.ints l) e 1): ∀g,Dj g F→bD B g→IsI .i64 v l (jn g F):=λg _ s=>by
 obtain⟨h1,h2,d',rfl,a,_⟩:=eE i (lb hi) s;rw[hH]at a;rcases a with⟨_,⟨h0,hn,_⟩| ⟨g,cap,cur,hv,hh,h3,h4,h5,h6⟩⟩
 · exact .inl ⟨h0,List.eq_nil_of_length_eq_zero hn⟩
 · refine .inr ⟨g,0,cap,cur.toList,e,(0,0),hv,h3,by simp only[maxLen]at h4;omega,gx (gx (by rw[hh];simp[sg])),λj hj=>?_⟩
   rw[fM]at h6;have e1:(cur.toList.take l.length)[j]?=some (.int .i64 (l.getD j 0)):=by rw[h6];exact Api.ints_get l j hj
   rw[List.getElem?_take,if_pos hj]at e1
   simpa using e1
variable {P:Program} {w0:World} {F:Hl} {n:Nat} {ops:Array Oper} {Q:QQ} {D:List Deferred} {L:List (Nat×Value)} {H:List HP} {d:Nat} {o:Oper} {l:List Oper}
theorem RU{fn:Func}{post:Ending→List HP→Prop}{t t' t2 ty e m b:Nat}{cs:List Value}{dt:TypeDesc}{v' v2:Value}(k:Nat)(is:List Nat)(hu:P.underlying ty=some dt)(hm:(P.info? ty).map (·.size)=some m)(hl:cs.length=m)(h:post (.returned (.tuple #[.agg cs.toArray,v',v2])) ((B9 H is).take is.length))(hr:fn.results=#[.cell t ty, .tmp t', .tmp t2]:=by exact rfl)(he:lk L t=some (.pointer (some ⟨b,0,none⟩)):=by exact rfl)(e':lk L t'=some v':=by exact rfl)(e2:lk L t2=some v2:=by exact rfl)(hp:ek dt=false:=by exact rfl)(hk:Nat.blt k H.length=true:=by exact rfl)(hH:H.getD k (λ_=>True)=ah b cs e:=by exact rfl)(hs:K0 H.length is=true:=by exact rfl):TE w0 F n (bodyPost P fn (jL post w0 F)) .ret [] L H:=TE.retCTT hr he e' e2 hu hp hm (dS k hk hH) hl (λ_ s=>ak is hs s) h
end Leg
end

section
namespace Wal
open Go Leg Codec Api Dsk
theorem uk(i:Nat){us:List Value}{ls:List (List UInt8)}{e k:Nat}{B:List HP}{F:Hl}(hk:k<ls.length)(hi:Nat.blt i B.length=true)(hH:B.getD i (λ_=>True)=eD us ls e): ∀g,Dj g F→bD B g→IsB (us.getD k undef) ls[k] (jn g F):=λg d s=>by
 obtain⟨h1,h2,d',rfl,a,_⟩:=eE i (lb hi) s;rw[hH]at a;obtain⟨hl,a⟩:=a;obtain⟨u,e1,k1,k2,dk,rfl,a3⟩:=xR us ls e _ hl a k hk;rw[List.getD_eq_getElem?_getD,e1];exact BN a3 λb o e=>gx (gx (gx e))
theorem In.read{s ws:fC}(h1:In s)(h2:In ws)(at':Int)(h: ¬(0≤at'∧at'<2048)): ∀k,k≤ws.length→jd s ws at' k=zs
 |0,_=>by
  show jb s at'=zs
  induction s with
  |nil=>rfl
  |cons p s ih=>
   obtain⟨a,b⟩:=p;simp only[jb];have hh:=h1 (a,b) (by simp);rw[if_neg (λe=>h (by simp only at hh;omega))];exact ih λq hq=>h1 q (by simp[hq])
 |k+1,hk=>by
  simp only[jd];rw[if_neg,In.read h1 h2 at' h k (by omega)];intro e;rw[we (by omega)]at e;have hh:=h2 ws[k] (cH _);exact h (by omega)
theorem DS.In.read{D:DS}(h:Wal.DS.In D){at':Int}(h2: ¬(0≤at'∧at'<2048)):D.read at'=zs:=Wal.In.read h.1 h.2 at' h2 _ (aL _)
theorem Hk(number place:Int):fj zs number place=none:=rJ (by decide)
theorem xe{rd:Int→jP}{number at' all:Int}: ∀(m:Nat) {b:List UInt8},kX rd number at' all m=some b→∀k,k<m→∃x,fj (rd (at'+k)) number k=some (x,all)
 |0,_,_,k,hk=>by omega
 |m+1,b,h,k,hk=>by
  simp only[kX]at h;split at h
  · cases h
  · rename_i b' hb
    split at h
    · cases h
    · rename_i x same hx
      split at h
      · rename_i hs
        by_cases e:k=m
        · subst e;exact⟨x,by rw[hx,hs]⟩
        · exact xe m hb k (by omega)
      · cases h
theorem lx{rd:Int→jP}{number at' all:Int}{b:List UInt8}(hl:(rd at').length=64)(h:fP rd number at'=some (b,all)):0<all∧all≤255∧∀k:Nat,(k:Int)<all→∃x,fj (rd (at'+k)) number k=some (x,all):=by
 unfold fP at h;split at h
 · cases h
 · rename_i x al hp
   obtain⟨f1,f2,_⟩:=oU hl hp;obtain⟨c,hc,e⟩:=Option.map_eq_some_iff.1 h;injection e with e1 e2
   subst e1;subst e2;exact⟨f1,f2,λk hk=>xe _ hc k (by omega)⟩
theorem oM{D:DS}(hI:Wal.DS.In D)(hD:D.Ok){number at' all:Int}{b:List UInt8}(h0:0≤at')(h:fP D.read number at'=some (b,all)):at'+all≤2048:=by
 obtain⟨f1,f2,f3⟩:=lx (l9 hD _) h;obtain⟨x,hx⟩:=f3 (all-1).toNat (by omega)
 by_cases q:at'+all≤2048
 · exact q
 · rw[DS.In.read hI (by omega),Hk]at hx;cases hx
theorem y8{rd:Int→jP}{f:Nat}{cnt used:Int}(h:fP rd (cnt+1) used=none):fV rd f cnt used=([],used):=by
 cases f with
 |zero=>rfl
 |succ f=>simp only[fV,h]
theorem FT{rd:Int→jP}{f:Nat}{cnt used all:Int}{b:List UInt8}(h:fP rd (cnt+1) used=some (b,all)):fV rd (f+1) cnt used=(b::(fV rd f (cnt+1) (used+all)).1,(fV rd f (cnt+1) (used+all)).2):=by simp only[fV,h]
def Scan(D:DS)(f:Nat)(rs:List (List UInt8))(used:Int):Prop:=
 fV D.read jm 0 0=(rs++(fV D.read f rs.length used).1,(fV D.read f rs.length used).2)∧0≤used∧used≤2048∧2049≤(f:Int)+used∧(rs.length:Int)≤used
theorem Scan.start(D:DS):Scan D jm [] 0:=by
 refine⟨?_,by omega,by omega,by rw[s6];omega,by simp⟩;have e:((([]:List (List UInt8)).length:Nat):Int)=0:=rfl;rw[bK,e]
theorem Scan.next{D:DS}(hI:Wal.DS.In D)(hD:D.Ok){f:Nat}{rs:List (List UInt8)}{used all:Int}{b:List UInt8}(h:Scan D f rs used)(h2:fP D.read ((rs.length:Int)+1) used=some (b,all)): ∃f',f=f'+1∧Scan D f' (rs++[b]) (used+all):=by
 obtain⟨h1,h0,h3,h4,h5⟩:=h;have hr:=oM hI hD h0 h2;have hf:=(lx (l9 hD _) h2).1;obtain⟨f',rfl⟩: ∃f',f=f'+1:=⟨f-1,by omega⟩;refine⟨f',rfl,?_,by omega,by omega,by omega,by simp;omega⟩;rw[h1,FT h2];simp
theorem Scan.stop{D:DS}{f:Nat}{rs:List (List UInt8)}{used:Int}(h:Scan D f rs used)(h2:fP D.read ((rs.length:Int)+1) used=none):fV D.read jm 0 0=(rs,used):=by
 rw[h.1,y8 h2];simp
theorem Bw{D:DS}{at':Int}(h:2048≤at'):jD (2048-at').toNat at' D=(0,D):=by rw[show(2048-at').toNat=0 by omega];rfl
theorem Gx{D:DS}{at':Int}(h:at'<2048)(h2:D.read at'=zs):jD (2048-at').toNat at' D=jD (2048- (at'+1)).toNat (at'+1) D:=by
 rw[show(2048-at').toNat=(2048- (at'+1)).toNat+1 by omega,jD,if_pos h2]
theorem KF{D:DS}{at':Int}(h:at'<2048)(h2:D.read at'≠zs)(h3:(D.write at' []).1=0):jD (2048-at').toNat at' D=jD (2048- (at'+1)).toNat (at'+1) (D.write at' []).2:=by
 rw[show(2048-at').toNat=(2048- (at'+1)).toNat+1 by omega,jD,if_neg h2,if_pos h3]
theorem Gy{D:DS}{at':Int}(h:at'<2048)(h2:D.read at'≠zs)(h3:(D.write at' []).1≠0):jD (2048-at').toNat at' D=D.write at' []:=by
 rw[show(2048-at').toNat=(2048- (at'+1)).toNat+1 by omega,jD,if_neg h2,if_neg h3]
theorem EA{D D':DS}{rs:List (List UInt8)}{used e:Int}(h:fV D.read jm 0 0=(rs,used))(h2:jD (2048-used).toNat used D=(e,D'))(h3:e≠0):bP D=⟨e,[],0,D'⟩:=by
 simp only[bP,h,h2];rw[if_pos h3]
theorem Ez{D D':DS}{rs:List (List UInt8)}{used:Int}(h:fV D.read jm 0 0=(rs,used))(h2:jD (2048-used).toNat used D=(0,D'))(h3:D'.sync.1≠0):bP D=⟨D'.sync.1,[],0,D'.sync.2⟩:=by
 simp only[bP,h,h2,ne_eq,not_true_eq_false,if_false];rw[if_pos h3]
theorem F2{D D':DS}{rs:List (List UInt8)}{used:Int}(h:fV D.read jm 0 0=(rs,used))(h2:jD (2048-used).toNat used D=(0,D'))(h3:D'.sync.1=0):bP D=⟨0,rs,used,D'.sync.2⟩:=by
 simp only[bP,h,h2,ne_eq,not_true_eq_false,if_false];rw[if_neg (by simp[h3])]
def gv:List jP→Int→DS→Int×DS
 | [],_,D=>(0,D)
 |s::ss,at',D=>if(D.write at' s).1=0 then gv ss (at'+1) (D.write at' s).2 else D.write at' s
structure PutR where
 err:Int
 cnt:Nat
 used:Int
 D:DS
def n7(D:DS)(cnt:Nat)(used:Int)(bs:List UInt8):PutR:=
 if 3000<bs.length then⟨2,cnt,used,D⟩
 else if(bE bs.length:Int)>2048-used then⟨3,cnt,used,D⟩
 else
  let w:=gv (cu ((cnt+1:Nat):Int) bs) used D
  if w.1≠0 then⟨w.1,cnt,used,w.2⟩else if w.2.sync.1≠0 then⟨w.2.sync.1,cnt,used,w.2.sync.2⟩else⟨0,cnt+1,used+bE bs.length,w.2.sync.2⟩
theorem Br{ss:List jP}{at':Int}{D:DS}{k:Nat}(hk:k<ss.length)(h:(D.write (at'+k) ss[k]).1=0):gv (ss.drop k) (at'+k) D=gv (ss.drop (k+1)) (at'+(k+1:Nat)) (D.write (at'+k) ss[k]).2:=by
 rw[dz hk,gv,if_pos h];congr 1;omega
theorem Bs{ss:List jP}{at':Int}{D:DS}{k:Nat}(hk:k<ss.length)(h:(D.write (at'+k) ss[k]).1≠0):gv (ss.drop k) (at'+k) D=D.write (at'+k) ss[k]:=by
 rw[dz hk,gv,if_neg h]
section
variable {D D':DS} {cnt:Nat} {used:Int} {bs:List UInt8}
theorem I5(h:3000<bs.length):n7 D cnt used bs=⟨2,cnt,used,D⟩:=by rw[n7,if_pos h]
theorem I6(h: ¬3000<bs.length)(h2:(bE bs.length:Int)>2048-used):n7 D cnt used bs=⟨3,cnt,used,D⟩:=by rw[n7,if_neg h,if_pos h2]
theorem Hd{e:Int}(h: ¬3000<bs.length)(h2: ¬(bE bs.length:Int)>2048-used)(h3:gv (cu ((cnt+1:Nat):Int) bs) used D=(e,D'))(h4:e≠0):n7 D cnt used bs=⟨e,cnt,used,D'⟩:=by
 rw[n7,if_neg h,if_neg h2];simp only[h3];rw[if_pos h4]
theorem Hc(h: ¬3000<bs.length)(h2: ¬(bE bs.length:Int)>2048-used)(h3:gv (cu ((cnt+1:Nat):Int) bs) used D=(0,D'))(h4:D'.sync.1≠0):n7 D cnt used bs=⟨D'.sync.1,cnt,used,D'.sync.2⟩:=by
 rw[n7,if_neg h,if_neg h2];simp only[h3,ne_eq,not_true_eq_false,if_false];rw[if_pos h4]
theorem put_ok(h: ¬3000<bs.length)(h2: ¬(bE bs.length:Int)>2048-used)(h3:gv (cu ((cnt+1:Nat):Int) bs) used D=(0,D'))(h4:D'.sync.1=0):n7 D cnt used bs=⟨0,cnt+1,used+bE bs.length,D'.sync.2⟩:=by
 rw[n7,if_neg h,if_neg h2];simp only[h3,ne_eq,not_true_eq_false,if_false];rw[if_neg (by simp[h4])]
end
end Wal
end

section
namespace Go.Proofs.YtfocodjhmkokpaaGreatDoor
open Go Leg Codec Api Dsk Wal
abbrev Gf(lg d:Nat)(cnt used:Int):HP:=ah lg [.pointer (some ⟨d,0,none⟩), .int .i64 cnt, .int .i64 used] 186
abbrev PB(v:Value)(ls:List (List UInt8)):HP:=mq 53 5 v ls
theorem BZ(d:Nat)(D:DS)(number at':Int)(hD:D.Ok)(hb:D.ws.length≤1000000000)(ha:0≤at'∧at'≤1000000):
 DT 103 #[(.pointer (some ⟨d,0,none⟩)),(.int .i64 (number)),(.int .i64 (at'))] T0 [dk d (D)] (dm (λv H=>(fP D.read number at'=none∧v= .tuple #[.slice none 0 0, .int .i64 0, .bool false]∧H=[dk d D])∨∃b all u,fP D.read number at'=some (b,all)∧v= .tuple #[u, .int .i64 all, .bool true]∧H=[gI u b 5,dk d D])):=by
 refine BD 56 Tryz.func103 rfl rfl rfl λw0 F hF=>sr λ_ J1=>P3 ?_
 refine nx J1 (sr λ_ J2=>P2 ?_);refine CR Jw (A7 d (D) at' hD hb) ID λvR HR hR=>?_
 obtain⟨hv,rfl⟩:=hR;subst hv;refine PS ?_;refine CR Mt (w5 ((D).read at') number 0 (l9 hD _)) ID λvR HR hR=>?_
 rcases hR with⟨hp,rfl,rfl⟩| ⟨b,all,u,hp,rfl,rfl⟩
 refine P4 ?_;refine P3 ?_;refine nx J2 (ab λ_ J3=>sr λ_ J4=>PS ?_);refine PS ?_;refine nx J4 (CY (sr λ_ J5=>P3 ?_));exact nx J5 (ai (af (WK [0] (nj rfl rfl rfl rfl (.inl ⟨q6 hp,rfl,rfl⟩)))));refine TL.subLen 0 rfl rfl (λhul hu=>?_);have hpf:=oU (l9 hD _) hp;refine P4 ?_;refine P3 ?_;refine nx J2 (ab λ_ J6=>sr λ_ J7=>PS ?_);refine PS ?_;refine nx J7 (CN (qx J6 (ab λ_ J8=>sr λ_ J9=>PS ?_)));refine nx J9 (au ?_)
 refine bn (α:=(Nat)×(List UInt8)×(Value)) (λ⟨k,c,w⟩=>1≤k∧k≤all.toNat∧kX D.read number at' all k=some c∧c.length≤k*52∧w.oneCell'=true) (λ⟨k,c,w⟩=>[(0,(.pointer (some ⟨d,0,none⟩))),(1,(.int .i64 (number))),(2,(.int .i64 (at'))),(9,w),(10,(.int .i64 (all))),(12,(.int .i64 (((k:Nat):Int))))]) (λ⟨k,c,w⟩=>[gI w (c) 5,dk d (D)]) (λ⟨k,c,w⟩=>all.toNat-k) (1,b,u)
  ⟨aL _,by omega,HD hp,by omega,hu⟩ SB
  (λ_ s=>s) (λ⟨k,c,w⟩ hinv=>?_)
 obtain⟨hk1,hk2,hk3,hk4,hw⟩:=hinv;refine ab λ_ J10=>sr λ_ J11=>P3 ?_
 refine ao ?_ ?_<;>intro h29;refine nx J11 (CY (qx J10 (ab λ_ J12=>au (sr λ_ J13=>P3 ?_))));refine AD ?_;refine CR Jw (A7 d (D) (at'+((k:Nat):Int)) hD hb) (SM [1]) λvR HR hR=>?_
 obtain⟨hv,rfl⟩:=hR;subst hv;refine P2 ?_;refine CR Mt (w5 ((D).read (at'+((k:Nat):Int))) number ((k:Nat):Int) (l9 hD _)) ID λvR HR hR=>?_
 rcases hR with⟨hp2,rfl,rfl⟩| ⟨b2,all2,u2,hp2,rfl,rfl⟩
 refine P4 ?_;refine P3 ?_;refine nx J13 (ab λ_ J14=>sr λ_ J15=>PS ?_);refine PS ?_;refine PS ?_
 iterate 3 refine UT ?_
 refine PS ?_;refine nx J15 (CY (sr λ_ J16=>P3 ?_));refine nx J16 (ai (af (aH (af (af (aH (af (WK [0] (nj rfl rfl rfl rfl ?_)))))))));exact .inl ⟨qZ hp (xd (.inl hp2) _ (by omega)),rfl,rfl⟩;refine TL.subLen 0 rfl rfl (λhul2 hu2=>?_);have hpf2:=oU (l9 hD _) hp2;refine P4 ?_;refine P3 ?_;refine nx J13 (ab λ_ J17=>sr λ_ J18=>PS ?_);refine PS ?_;refine P4 ?_;refine ao ?_ ?_<;>intro h49;refine PS ?_;refine nx J18 (CY (sr λ_ J19=>P3 ?_));refine nx J19 (ai (af (aH (af (af (aH (af (WK [1] (nj rfl rfl rfl rfl ?_)))))))));exact .inl ⟨qZ hp (xd (.inr ⟨b2,all2,hp2,h49⟩) _ (by omega)),rfl,rfl⟩;refine PS ?_;refine nx J18 (CN (qx J17 (ad (P2 ?_))));refine TL.appendS (k:=2) (news:=b2) (bs':=c++b2) (aa rfl) rfl rfl rfl fE yc rfl rfl rfl rfl (λ_ s=>Src.sub 0 rfl rfl s) (by omega) rfl (λv53 ov53=>PS ?_);refine ap (ag (ac J12 (ad (PS ?_))));refine AD ?_;refine PS ?_;refine ap ?_
 exact aI ((k+1,c++b2,v53):(Nat)×(List UInt8)×(Value)) ⟨by omega,by omega,xf hk3 (by rw[hp2,show all2=all by omega]),by rw[ae];omega,ov53⟩ (by show all.toNat- (k+1)<all.toNat-k;omega)
  SB
  (λ_ s=>ak [2,1] rfl s)
 refine nx J11 (CN (aX (aA (aA (bl (ac J8 (sr λ_ J20=>?_)))))))
 iterate 5 refine PS ?_
 refine nx J20 (ai (WK [0,0] (nj rfl rfl rfl rfl ?_)));exact .inr ⟨c,all,w,sI hp (by rw[show all.toNat=k by omega];exact hk3),rfl,rfl⟩
theorem G3(lg d:Nat)(cnt used:Int)(h:0≤used∧used≤2048):
 DT 172 #[(.pointer (some ⟨lg,0,none⟩))] T0 [ah lg [(.pointer (some ⟨d,0,none⟩)),(.int .i64 (cnt)),(.int .i64 (used))] 186] (RI (.int .i64 (2048-used)) [Gf lg d cnt used]):=by
 refine BD 8 Tryz.func172 rfl rfl rfl λw0 F hF=>sr λ_ J1=>PS ?_
 refine nx J1 (sr λ_ J2=>P2 ?_);refine FA 2 qV aR ?_;refine LA 0 Y3 ?_;refine tp (iz rfl rfl rfl (bH (by omega) (by omega))) ?_;refine PS ?_;exact nx J2 (ai (WK [0] (av rfl rfl ⟨rfl,rfl⟩)))
theorem BC(lg d cnt:Nat)(used:Int)(x:Value)(bs:List UInt8)(D:DS)(hD:D.Ok)(hb:D.ws.length≤1000000)(hu:0≤used∧used≤2048)(hc:cnt≤1000000):
 DT 155 #[(.pointer (some ⟨lg,0,none⟩)),x] (IsW x bs) [ah lg [(.pointer (some ⟨d,0,none⟩)),(.int .i64 (((cnt:Nat):Int))),(.int .i64 (used))] 186,dk d (D)] (RI (.int .i64 (n7 D cnt used bs).err) [Gf lg d (((n7 D cnt used bs).cnt:Nat):Int) (n7 D cnt used bs).used,dk d (n7 D cnt used bs).D]):=by
 refine BD 72 Tryz.func155 rfl rfl rfl λw0 F hF=>sr λ_ J1=>PS ?_
 refine nx J1 (ab λ_ J2=>sr λ_ J3=>PS ?_);refine tp (df rfl fE rfl hF.len) ?_;refine PS ?_;refine ao ?_ ?_<;>intro h12;refine nx J3 (CY (sr λ_ J4=>PS ?_));refine nx J4 (ai (af (WK [0,0] (av rfl rfl ?_))));rw[I5 (by omega)];exact⟨rfl,rfl⟩;refine nx J3 (CN (qx J2 (sr λ_ J5=>PS ?_)));refine tp (df rfl fE rfl hF.len) ?_;refine CE Mn (uQ bs.length (by omega)) ID ?_;refine PS ?_;refine nx J5 (ab λ_ J6=>sr λ_ J7=>P2 ?_);refine CE Oy (G3 lg d ((cnt:Nat):Int) used hu) ID ?_;refine PS ?_;refine ao ?_ ?_<;>intro h19;refine nx J7 (CY (sr λ_ J8=>PS ?_));refine nx J8 (ai (af (WK [0,0] (av rfl rfl ?_))));rw[I6 (by omega) (by omega)];exact⟨rfl,rfl⟩;refine nx J7 (CN (qx J6 (ab λ_ J9=>sr λ_ J10=>P2 ?_)));refine FA 1 qV aR ?_;refine LA 0 Y3 ?_;refine tp (Gu (v':=(.int .i64 (((cnt+1:Nat):Int)))) (cr rfl rfl rfl (bH (by omega) (by omega))) rfl) ?_;refine PS ?_;refine CQ Ox (As x (cnt+1) bs (by omega)) ID (λg d _=>Po hF d) λvR HR hR=>?_
 have hR:=hR;subst hR;change TL _ _ _ _ _ _ _ _ _ [mq 53 5 vR (cu ((cnt+1:Nat):Int) bs),ah lg [(.pointer (some ⟨d,0,none⟩)),(.int .i64 (((cnt:Nat):Int))),(.int .i64 (used))] 186,dk d (D)];refine TL.recsLen 0 rfl rfl (λhrl hro=>?_);rw[eF]at hrl;refine tp (df rfl vA rfl hrl) ?_;refine PS ?_;refine nx J10 (au ?_)
 refine bn (α:=(Nat)×(DS)) (λ⟨k,D'⟩=>k≤bE bs.length∧gv (cu ((cnt+1:Nat):Int) bs) used D=gv ((cu ((cnt+1:Nat):Int) bs).drop k) (used+(k:Nat)) D'∧D'.Ok∧D'.ws.length≤D.ws.length+k) (λ⟨k,D'⟩=>[(0,(.pointer (some ⟨lg,0,none⟩))),(5,(.int .i64 (((bE bs.length:Nat):Int)))),(26,vR),(27,(.int .i64 ((((bE bs.length):Nat):Int)))),(28,(.int .i64 (((k:Nat):Int))))]) (λ⟨k,D'⟩=>[ah lg [(.pointer (some ⟨d,0,none⟩)),(.int .i64 (((cnt:Nat):Int))),(.int .i64 (used))] 186,dk d (D'),mq 53 5 vR (cu ((cnt+1:Nat):Int) bs)]) (λ⟨k,D'⟩=>bE bs.length-k) (0,D)
  ⟨aM _,by simp,hD,by omega⟩ SB
  (λ_ s=>aC [1,1,0] rfl s) (λ⟨k,D'⟩ hinv=>?_)
 obtain⟨hk,hwr,hD',hws⟩:=hinv;refine sr λ_ J11=>PS ?_
 refine ao ?_ ?_<;>intro h29;refine cm (λ_ s=>aC [2] rfl s) (MN (λus=>?_));change TL _ _ _ _ _ _ _ _ _ [own vR ((cu ((cnt+1:Nat):Int) bs).length) (us) 53 1,eD us (cu ((cnt+1:Nat):Int) bs) 5,ah lg [(.pointer (some ⟨d,0,none⟩)),(.int .i64 (((cnt:Nat):Int))),(.int .i64 (used))] 186,dk d (D')];refine yH (p:=us.length=(cu ((cnt+1:Nat):Int) bs).length*1) (λw m=>m.own_len (i:=0) (lb rfl) rfl) (λhul=>?_);rw[eF,fM]at hul;have hkl:k< (cu ((cnt+1:Nat):Int) bs).length:=by rw[eF];omega
 obtain⟨sk,hsk⟩: ∃x,(cu ((cnt+1:Nat):Int) bs)[k]=x:=⟨_,rfl⟩;refine hY 0 rfl rfl (by omega) (λg cap hv hcap=>nx J11 (ab λ_ J12=>CY (qx J12 (ab λ_ J13=>au (sr λ_ J14=>PS ?_)))));refine tp (bd (r:=k) hv rfl vA kL rfl rfl (by omega) (by omega) (by omega)) ?_;refine tp (ca (v:=(us.getD k undef)) rfl fE rfl rfl (fD 0 rfl hv rfl) (by simp[List.getD_eq_getElem?_getD,show k<us.length by omega])) ?_;refine P2 ?_;refine nx J14 (ab λ_ J15=>D1 2 dp ?_);refine PD 0 ?_;refine PD 1 ?_;refine FD 2 0 qV vi ?_;refine LX 3 Ih (.pointer (some ⟨d,0,none⟩)) ?_ (hc:=by exact rfl);refine PD 4 ?_;refine PD 5 ?_;refine FD 6 2 qV aR ?_;refine LX 7 Y3 (.int .i64 (used)) ?_ (hc:=by exact rfl);refine PD 8 ?_;refine ta 9 rfl (cr rfl rfl rfl (bH (by omega) (by omega))) ?_;refine PD 10 ?_;refine AL 11 ?_;refine CQ M8 (xK d D' (used+((k:Nat):Int)) (us.getD k undef) sk hD' (by omega)) (SM [3]) (λg d s=>Gv (hsk▸uk 1 hkl rfl rfl g d s)) λvR HR hR=>?_
 obtain⟨hv2,rfl⟩:=hR;subst hv2;refine EN (PD 12 ?_);refine DN (ac J15 (sr λ_ J16=>P2 ?_));refine ao ?_ ?_<;>intro h46;refine nx J16 (CY (sr λ_ J17=>P2 ?_));refine nx J17 (ai (aH (af (af (aH (af (WK [3,0] (av rfl rfl ?_))))))));have hf:=Bs (D:=D') (at':=used) hkl (by rw[hsk];exact h46);rw[hsk]at hf;rw[Hd (by omega) (by omega) (hwr.trans hf) h46];exact⟨rfl,rfl⟩;refine nx J16 (CN (aT (ag (ac J13 (ad (AD ?_))))));refine PS ?_;refine ap ?_
 exact aI ((k+1,(D'.write (used+((k:Nat):Int)) sk).2):(Nat)×(DS)) ⟨by omega,by rw[hwr];subst hsk;exact Br hkl (by simpa using h46),DS.write_ok hD' _ _,by have:=DS.write_ws (D:=D') (at':=used+((k:Nat):Int)) (bs:=sk);omega⟩ (by show bE bs.length- (k+1)<bE bs.length-k;omega)
  SB
  (λ_ s=>aC [1,1,0] rfl (bp (p:=λus:List Value=>[own vR (cu ((cnt+1:Nat):Int) bs).length us 53 1,eD us (cu ((cnt+1:Nat):Int) bs) 5]) us (ak [1,1,1,0] rfl s)))
 refine nx J11 (ab λ_ J18=>CN (aX (aA (aA (bl (ac J9 (ab λ_ J19=>sr λ_ J20=>P2 ?_)))))));refine FA 0 qV vi ?_;refine LA 0 Ih ?_;refine CR M7 (A6 d (D') hD') (SM [1]) λvR HR hR=>?_
 obtain⟨hv,rfl⟩:=hR;subst hv;refine PS ?_;refine nx J20 (sr λ_ J21=>P2 ?_);refine ao ?_ ?_<;>intro h55;refine nx J21 (CY (sr λ_ J22=>P2 ?_));refine nx J22 (ai (af (WK [1,0] (av rfl rfl ?_))));have hf:gv (cu ((cnt+1:Nat):Int) bs) used D=(0,D'):=by rw[hwr,cL (by rw[eF];omega)];rfl
 rw[Hc (by omega) (by omega) hf h55];exact⟨rfl,rfl⟩;refine nx J21 (CN (qx J19 (sr λ_ J23=>P2 ?_)));refine FA 1 qV aR ?_;refine LA 1 Y3 ?_;refine AD ?_;refine PS ?_;refine FA 1 qV aR ?_;refine S0 1 aR ?_;refine nx J23 (sr λ_ J24=>P2 ?_);refine FA 2 qV aR ?_;refine LA 1 Y3 ?_;refine PS ?_;refine AD ?_;refine PS ?_;refine FA 2 qV aR ?_;refine S0 1 aR ?_;refine nx J24 (sr λ_ J25=>PS ?_);refine nx J25 (ai (WK [1,0] (av rfl rfl ?_)));have hf:gv (cu ((cnt+1:Nat):Int) bs) used D=(0,D'):=by rw[hwr,cL (by rw[eF];omega)];rfl
 rw[put_ok (by omega) (by omega) hf (by simpa using h55)];exact⟨rfl,rfl⟩
theorem Hu(d:Nat)(D:DS)(hD:D.Ok)(hI:Wal.DS.In D)(hb:D.ws.length≤1000000):
 DT 66 #[(.pointer (some ⟨d,0,none⟩))] T0 [dk d (D)] (dm (λv H=>((bP D).err≠0∧v= .tuple #[.pointer none, .slice none 0 0, .int .i64 (bP D).err]∧H=[dk d (bP D).D])∨((bP D).err=0∧∃lg vr,v= .tuple #[.pointer (some ⟨lg,0,none⟩),vr, .int .i64 0]∧H=[Gf lg d (((bP D).recs.length:Nat):Int) (bP D).used,PB vr (bP D).recs,dk d (bP D).D]))):=by
 refine BD 80 Tryz.func66 rfl rfl rfl λw0 F hF=>sr λ_ J1=>P3 ?_
 refine nx J1 (ab λ_ J2=>sr λ_ J3=>PS ?_);refine tp (iW rfl Ih rfl rfl) ?_;refine nx J3 (CN (qx J2 (sr λ_ J4=>PS ?_)));refine BV #[(.pointer (some ⟨d,0,none⟩)),(.int .i64 0),(.int .i64 0)] ?_;refine XB λb17=>?_
 refine PS ?_;refine nx J4 (sr λ_ J5=>PS ?_);refine nx J5 (ab λ_ J6=>au ?_)
 refine bn (α:=(Nat)×(List (List UInt8))×(Int)×(Value)) (λ⟨f,rs,used,vr⟩=>Scan D f rs used∧vr.oneCell'=true) (λ⟨f,rs,used,vr⟩=>[(0,(.pointer (some ⟨d,0,none⟩))),(2,(.pointer none)),(3,(.slice none 0 0)),(4,(.int .i64 0)),(5,(.pointer (some ⟨b17,0,none⟩))),(6,vr)]) (λ⟨f,rs,used,vr⟩=>[ah b17 [(.pointer (some ⟨d,0,none⟩)),(.int .i64 (((rs.length:Nat):Int))),(.int .i64 (used))] 186,dk d (D),mq 53 5 vr (rs)]) (λ⟨f,rs,used,vr⟩=>f) (jm,[],0,(.slice none 0 0))
  ⟨Scan.start D,rfl⟩ SB
  (λ_ s=>ei (List.Perm.trans (List.Perm.swap _ _ _) (List.Perm.cons _ (List.Perm.swap _ _ _))) (uI 53 5 s)) (λ⟨f,rs,used,vr⟩ hinv=>?_)
 obtain⟨hsc,hvr⟩:=hinv;obtain⟨hs1,hs2,hs3,hs4,hs5⟩:=id hsc;refine au (ab λ_ J7=>D1 0 dp ?_);refine PD 0 ?_;refine PD 1 ?_;refine PD 2 ?_;refine FD 3 1 qV aR ?_;refine LX 4 Y3 (.int .i64 (((rs.length:Nat):Int))) ?_ (hc:=by exact rfl);refine ta 5 rfl (cr rfl rfl rfl (bH (by omega) (by omega))) ?_;refine PD 6 ?_;refine PD 7 ?_;refine FD 8 2 qV aR ?_;refine LX 9 Y3 (.int .i64 (used)) ?_ (hc:=by exact rfl);refine AL 10 ?_;refine CR O3 (BZ d D (((rs.length:Nat):Int)+1) used hD (by omega) (by omega)) (SM [1]) λvR HR hR=>?_
 rcases hR with⟨hst,rfl,rfl⟩| ⟨b,all,u,hst,rfl,rfl⟩
 have hss:=Scan.stop hsc hst;refine EN (PD 11 ?_);refine PD 12 ?_;refine PD 13 ?_;refine PD 14 ?_;refine PD 15 ?_;refine PD 16 ?_;refine PD 17 ?_;refine DN (ac J7 (ab λ_ J8=>sr λ_ J9=>PS ?_));refine PS ?_;refine nx J9 (CY (aX (aA (TE.miss (by decide) (aA (bl (ac J6 (ab λ_ J10=>sr λ_ J11=>P2 ?_))))))));refine FA 2 qV aR ?_;refine LA 1 Y3 ?_;refine PS ?_;refine nx J11 (au ?_)
 refine bn (α:=(Int)×(DS)) (λ⟨at',D'⟩=>used≤at'∧at'≤2048∧jD (2048-used).toNat used D=jD (2048-at').toNat at' D'∧D'.Ok∧D'.ws.length≤D.ws.length+(at'-used).toNat) (λ⟨at',D'⟩=>[(0,(.pointer (some ⟨d,0,none⟩))),(5,(.pointer (some ⟨b17,0,none⟩))),(6,vr),(10,(.int .i64 (at')))]) (λ⟨at',D'⟩=>[ah b17 [(.pointer (some ⟨d,0,none⟩)),(.int .i64 (((rs.length:Nat):Int))),(.int .i64 (used))] 186,dk d (D'),mq 53 5 vr (rs)]) (λ⟨at',D'⟩=>(2048-at').toNat) (used,D)
  ⟨by omega,by omega,rfl,hD,by omega⟩ SB
  (λ_ s=>ak [1,0,0] rfl s) (λ⟨at',D'⟩ hinv=>?_)
 obtain⟨ha1,ha2,hwi,hD',hws⟩:=hinv;refine ab λ_ J12=>sr λ_ J13=>P2 ?_
 refine ao ?_ ?_<;>intro h59;refine nx J13 (CY (qx J12 (ab λ_ J14=>au (ab λ_ J15=>sr λ_ J16=>P2 ?_))));refine CR Jw (A7 d (D') at' hD' (by omega)) (SM [1]) λvR HR hR=>?_
 obtain⟨hv,rfl⟩:=hR;subst hv;refine BV ((dH zs).toArray) ?_;refine tp (PV.eqlBy (a:=((D').read at')) (b:=zs) (m:=2) Me Md rfl Mf Mh Mg (l9 hD' _) (by decide) rfl rfl rfl) ?_;refine ao ?_ ?_<;>intro h66;refine nx J16 (CY (aX (aA (bl (ac J14 (ad (PS ?_)))))));refine AD ?_;refine PS ?_;refine ap ?_
 exact aI ((at'+1,D'):(Int)×(DS)) ⟨by omega,by omega,by rw[hwi];exact Gx (by omega) h66,hD',by omega⟩ (by show(2048- (at'+1)).toNat< (2048-at').toNat;omega)
  SB
  (λ_ s=>ak [1,0,0] rfl s)
 refine nx J16 (CN (qx J15 (sr λ_ J17=>P2 ?_)));refine CQ M8 (xK d (D') at' (.slice none 0 0) ([]) hD' (by omega)) ID (λ_ _ _=> .inl (.inl ⟨rfl,rfl⟩)) λvR HR hR=>?_
 obtain⟨hv,rfl⟩:=hR;subst hv;refine PS ?_;refine nx J17 (sr λ_ J18=>P2 ?_);refine ao ?_ ?_<;>intro h71;refine nx J18 (CY (sr λ_ J19=>P4 ?_));refine nx J19 (ai (aH (af (af (aH (af (WK [0] (nj rfl rfl rfl rfl ?_))))))));rw[EA hss (hwi.trans (Gy (by omega) h66 h71)) h71];exact .inl ⟨h71,rfl,rfl⟩;refine nx J18 (CN (aT (ag (ac J14 (ad (PS ?_))))));refine AD ?_;refine PS ?_;refine ap ?_
 exact aI ((at'+1,(D'.write at' []).2):(Int)×(DS)) ⟨by omega,by omega,by rw[hwi];exact KF (by omega) h66 (by simpa using h71),DS.write_ok hD' _ _,by have:=DS.write_ws (D:=D') (at':=at') (bs:=[]);omega⟩ (by show(2048- (at'+1)).toNat< (2048-at').toNat;omega)
  SB
  (λ_ s=>ak [1,0,0] rfl s)
 refine nx J13 (CN (aX (aA (aA (bl (ac J10 (ab λ_ J20=>sr λ_ J21=>PS ?_)))))));refine CR M7 (A6 d (D') hD') (SM [1]) λvR HR hR=>?_
 obtain⟨hv,rfl⟩:=hR;subst hv;refine PS ?_;refine nx J21 (sr λ_ J22=>P2 ?_);refine ao ?_ ?_<;>intro h76;refine nx J22 (CY (sr λ_ J23=>P4 ?_));refine nx J23 (ai (af (WK [0] (nj rfl rfl rfl rfl ?_))));rw[Ez hss (hwi.trans (Bw (by omega))) h76];exact .inl ⟨h76,rfl,rfl⟩;refine nx J22 (CN (qx J20 (sr λ_ J24=>?_)))
 iterate 5 refine PS ?_
 refine nx J24 (ai (WK [1,1,0] (nj rfl rfl rfl rfl ?_)));have h76':D'.sync.1=0:=by omega
 rw[F2 hss (hwi.trans (Bw (by omega))) h76'];exact .inr ⟨rfl,b17,vr,rfl,rfl⟩;have hro:=oM hI hD (by omega) hst;have hfa:=(lx (l9 hD _) hst).1;obtain⟨f',rfl,hsn⟩:=Scan.next hI hD hsc hst;refine TL.subLen 0 rfl rfl (λhul hu=>EN (PD 11 ?_));refine PD 12 ?_;refine PD 13 ?_;refine PD 14 ?_;refine PD 15 ?_;refine PD 16 ?_;refine PD 17 ?_;refine DN (ac J7 (ab λ_ J25=>sr λ_ J26=>PS ?_));refine PS ?_;refine nx J26 (CN (qx J25 (sr λ_ J27=>P2 ?_)));refine aQ (cells:=#[u]) (aa rfl) rfl rfl rfl vA HS rfl rfl rfl (tc hu (by simp)) (λb37=>?_);change TL _ _ _ _ _ _ _ _ _ [ah b37 [u] 53,gI u (b) 5,dk d (D),ah b17 [(.pointer (some ⟨d,0,none⟩)),(.int .i64 (((rs.length:Nat):Int))),(.int .i64 (used))] 186,mq 53 5 vr (rs)];refine cm (λ_ s=>aC [4] rfl s) (MN (λus38=>cj (k:=0) (m:=1) (news:=[u]) (nn':=(rs).length+1) (xs':=us38++[u]) (aa rfl) rfl rfl rfl vA HS rfl rfl rfl rfl rfl rfl (λ_ _=>gW rfl (RO 2) rfl) (List.forall_mem_cons.2 ⟨hu,λ_ h=>by cases h⟩) (by simp only[maxLen];omega) (by omega) rfl rfl (λv38 ov38=>?_)));change TL _ _ _ _ _ _ _ _ _ [own v38 ((rs).length+1) (us38++[u]) 53 1,eD us38 (rs) 5,ah b37 [u] 53,gI u (b) 5,dk d (D),ah b17 [(.pointer (some ⟨d,0,none⟩)),(.int .i64 (((rs.length:Nat):Int))),(.int .i64 (used))] 186]
 refine cm (H':=[own v38 ((rs).length+1) (us38++[u]) 53 1,eD us38 (rs) 5,gI u (b) 5,ah b37 [u] 53,dk d (D),ah b17 [(.pointer (some ⟨d,0,none⟩)),(.int .i64 (((rs.length:Nat):Int))),(.int .i64 (used))] 186]) (λ_ s=>aC [0,0,1] rfl s) (cm (λ_ s=>uK s) (PS ?_));refine nx J27 (sr λ_ J28=>P2 ?_);refine FA 1 qV aR ?_;refine LA 3 Y3 ?_;refine tp (Gu (v':=(.int .i64 ((((rs++[b]).length:Nat):Int)))) (cr rfl rfl rfl (bH (by omega) (by omega))) (congrArg (Value.int .i64) (by simp))) ?_;refine PS ?_;refine FA 1 qV aR ?_;refine S0 3 aR ?_;refine nx J28 (ad (P2 ?_));refine FA 2 qV aR ?_;refine LA 3 Y3 ?_;refine PS ?_;refine AD ?_;refine PS ?_;refine FA 2 qV aR ?_;refine S0 3 aR ?_;refine ap (ag ?_)
 exact aI ((f',rs++[b],used+all,v38):(Nat)×(List (List UInt8))×(Int)×(Value)) ⟨hsn,ov38⟩ (Nat.lt_succ_self _)
  SB
  (λ_ s=>ak [3,2,0] rfl s)
end Go.Proofs.YtfocodjhmkokpaaGreatDoor
end

section
namespace Wal
open Go Leg Codec Api Dsk
theorem B3(s ws:fC)(j:Int): ∀k,jb (CG s ws k) j=jd s ws j k
 |0=>rfl
 |k+1=>by
  rw[CG,jd,IU,B3 s ws j k]
  by_cases h:j=(k8 ws k).1
  · rw[if_pos h,if_pos h.symm]
  · rw[if_neg h,if_neg (λq=>h q.symm)]
theorem Iy{ws x:fC}{k:Nat}(h:k<ws.length):k8 (ws++x) k=k8 ws k:=by simp[k8,List.getD_eq_getElem?_getD,List.getElem?_append_left h]
theorem wS{s ws x:fC}{j:Int}: ∀k,k≤ws.length→jd s (ws++x) j k=jd s ws j k
 |0,_=>rfl
 |k+1,h=>by rw[jd,jd,Iy (by omega),wS k (by omega)]
theorem Ha(s ws:fC)(p:Int×jP)(j:Int):jd s (ws++[p]) j (ws++[p]).length=if j=p.1 then p.2 else jd s ws j ws.length:=by
 rw[ae,am,aw,bf,jd,wS _ (aL _)];have:k8 (ws++[p]) ws.length=p:=by simp[k8,List.getD_eq_getElem?_getD]
 rw[this]
 by_cases h:j=p.1
 · rw[if_pos h,if_pos h.symm]
 · rw[if_neg h,if_neg (λq=>h q.symm)]
def AH(D:DS)(at':Int)(bs:List UInt8):DS:= {D with ws:=D.ws++[(at',eP bs)],lf:=if D.ar=true then D.lf-1 else D.lf,dn:=false}
theorem rl{D:DS}{at':Int}{bs:List UInt8}(h1:0≤at'∧at'<2048)(h2:bs.length≤64)(h3:D.dn=false)(h4:D.ar=false∨0<D.lf):D.write at' bs=(0,AH D at' bs):=by
 rw[DS.write,if_neg (by omega),if_neg]
 · rfl
 · rintro (h| ⟨h,h5⟩)
   · rw[h3]at h;cases h
   · rcases h4 with h4|h4
     · rw[h4]at h;cases h
     · omega
theorem D3{D:DS}{at':Int}{bs:List UInt8}(h1:0≤at'∧at'<2048)(h2:bs.length≤64)(h4:D.ar=true∧D.lf=0):D.write at' bs=(4,{D with dn:=true}):=by
 rw[DS.write,if_neg (by omega),if_pos (.inr h4)]
theorem Hg(D:DS)(at':Int)(bs:List UInt8)(j:Int):(AH D at' bs).read j=if j=at' then eP bs else D.read j:=Ha _ _ _ _
theorem FY{D:DS}(h:D.Ok){at':Int}{bs:List UInt8}(h2:bs.length≤64)(h4:D.ar=false∨0<D.lf):(AH D at' bs).Ok:=by
 refine⟨h.s,h.ws.add _ (dD h2),?_⟩;have:=h.lf;show 0≤(if D.ar=true then D.lf-1 else D.lf)∧(if D.ar=true then D.lf-1 else D.lf)≤9223372036854775807;split
 · rename_i h5
   rcases h4 with h4|h4
   · rw[h4]at h5;cases h5
   · omega
 · exact this
theorem FZ{D:DS}(h:Wal.DS.In D){at':Int}{bs:List UInt8}(h1:0≤at'∧at'<2048):Wal.DS.In (AH D at' bs):=⟨h.1,λp hp=>by
 rcases ci.1 hp with hp|hp
 · exact h.2 p hp
 · simp only[cG]at hp;subst hp;exact h1⟩
theorem In.put{s:fC}(h:In s){k:Int}{v:jP}(h1:0≤k∧k<2048):In (nY s k v):=by
 induction s with
 |nil=>intro p hp;simp only[nY,cG]at hp;subst hp;exact h1
 |cons p s ih=>
  obtain⟨a,b⟩:=p;intro q hq;simp only[nY]at hq;split at hq
  · rcases bJ.1 hq with rfl|hq
    · exact h (a,b) (by simp)
    · exact h q (by simp[hq])
  · rcases bJ.1 hq with rfl|hq
    · exact h (a,b) (by simp)
    · exact ih (λq hq=>h q (by simp[hq])) q hq
theorem In.lay{s ws:fC}(h:In s)(hw:In ws): ∀k,k≤ws.length→In (CG s ws k)
 |0,_=>h
 |k+1,hk=>by
  have:=hw (k8 ws k) (by rw[we (by omega)];exact cH _);exact(In.lay h hw k (by omega)).put this
theorem In.crash{mask torn:Int}{c:Nat}{s ws:fC}(h:In s)(hw:In ws): ∀k,k≤ws.length→In (nc mask torn c s ws k)
 |0,_=>h
 |k+1,hk=>by
  have h1:=hw (k8 ws k) (by rw[we (by omega)];exact cH _);have ih:=In.crash (mask:=mask) (torn:=torn) (c:=c) h hw k (by omega);simp only[nc,mL];split
  · exact ih.put h1
  · split
    · exact ih.put h1
    · exact ih
theorem In.nil:In []:=λ_ h=>absurd h (by simp)
abbrev Q0:= @In.nil
structure Calm(D:DS):Prop where
 ok:D.Ok
 inn:Wal.DS.In D
 ar:D.ar=false
 dn:D.dn=false
theorem Calm.crash{D:DS}(h:D.Ok)(hi:Wal.DS.In D)(mask torn n:Int):Calm (D.crash mask torn n):=⟨DS.crash_ok h _ _ _,⟨hi.1.crash hi.2 _ (aL _),Q0⟩,rfl,rfl⟩
theorem GL{D:DS}(h:D.dn=false)(j:Int):D.sync.2.read j=D.read j:=by
 unfold DS.sync;rw[if_neg (by simp[h])];exact B3 _ _ _ _
theorem tL{D:DS}(h:D.dn=false):D.sync.1=0∧D.sync.2.ws=[]∧D.sync.2.dn=false∧D.sync.2.ar=D.ar∧D.sync.2.lf=D.lf:=by
 unfold DS.sync;rw[if_neg (by simp[h])];exact⟨rfl,rfl,h,rfl,rfl⟩
theorem FQ{D:DS}(h:Wal.DS.In D):Wal.DS.In D.sync.2:=by
 unfold DS.sync;split
 · exact h
 · exact⟨h.1.lay h.2 _ (aL _),Q0⟩
theorem Calm.sync{D:DS}(h:Calm D):Calm D.sync.2:=by
 obtain⟨_,_,h3,h4,_⟩:=tL h.dn;exact⟨DS.sync_ok h.ok,FQ h.inn,h4.trans h.ar,h3⟩
theorem Calm.put{D:DS}(h:Calm D){at':Int}{bs:List UInt8}(h1:0≤at'∧at'<2048)(h2:bs.length≤64):Calm (AH D at' bs):=⟨FY h.ok h2 (.inl h.ar),FZ h.inn h1,h.ar,rfl⟩
theorem Ja:eP []=zs:=rfl
theorem tA: ∀(n:Nat) (at':Int) (D:DS),Calm D→0≤at'→at'+n≤2048→∃D',jD n at' D=(0,D')∧Calm D'∧∀j,D'.read j=if at'≤j∧j<at'+n then zs else D.read j
 |0,at',D,h,_,_=>⟨D,rfl,h,λj=>by rw[if_neg (by omega)]⟩
 |n+1,at',D,h,h0,h1=>by
  by_cases hz:D.read at'=zs
  · obtain⟨D',e,c,r⟩:=tA n (at'+1) D h (by omega) (by omega)
    refine⟨D',by rw[jD,if_pos hz,e],c,λj=>?_⟩;rw[r j]
    by_cases q:j=at'
    · subst q;rw[if_neg (by omega),if_pos (by omega),hz]
    · by_cases q2:at'+1≤j∧j<at'+1+n
      · rw[if_pos q2,if_pos (by omega)]
      · rw[if_neg q2,if_neg (by omega)]
  · have hw:=rl (D:=D) (at':=at') (bs:=[]) (by omega) (by simp) h.dn (.inl h.ar)
    obtain⟨D',e,c,r⟩:=tA n (at'+1) (AH D at' []) (h.put (by omega) (by simp)) (by omega) (by omega);refine⟨D',by rw[jD,if_neg hz,hw,if_pos rfl,e],c,λj=>?_⟩;rw[r j,Hg,Ja]
    by_cases q:j=at'
    · subst q;rw[if_neg (by omega),if_pos rfl,if_pos (by omega)]
    · rw[if_neg q]
      by_cases q2:at'+1≤j∧j<at'+1+n
      · rw[if_pos q2,if_pos (by omega)]
      · rw[if_neg q2,if_neg (by omega)]
theorem GX{D:DS}(h:Calm D):0≤(fV D.read jm 0 0).2∧(fV D.read jm 0 0).2≤2048∧((fV D.read jm 0 0).1.length:Int)≤(fV D.read jm 0 0).2:=by
 have key: ∀f rs used,Scan D f rs used→∃rs' used',fV D.read jm 0 0=(rs',used')∧0≤used'∧used'≤2048∧(rs'.length:Int)≤used':=by
  intro f
  induction f with
  |zero=>
   intro rs used hs;cases hst:fP D.read ((rs.length:Int)+1) used with
   |none=>exact⟨rs,used,hs.stop hst,hs.2.1,hs.2.2.1,hs.2.2.2.2⟩
   |some p=>obtain⟨b,all⟩:=p;obtain⟨f',e,_⟩:=Scan.next h.inn h.ok hs hst;omega
  |succ f ih=>
   intro rs used hs;cases hst:fP D.read ((rs.length:Int)+1) used with
   |none=>exact⟨rs,used,hs.stop hst,hs.2.1,hs.2.2.1,hs.2.2.2.2⟩
   |some p=>
    obtain⟨b,all⟩:=p;obtain⟨f',e,hs'⟩:=Scan.next h.inn h.ok hs hst;obtain rfl:f=f':=by omega
    exact ih _ _ hs'
 obtain⟨rs,used,e,h1,h2,h3⟩:=key _ _ _ (Scan.start D);rw[e];exact⟨h1,h2,h3⟩
theorem Hv{D:DS}(h:Calm D): ∃D',bP D=⟨0,(fV D.read jm 0 0).1,(fV D.read jm 0 0).2,D'⟩∧Calm D'∧D'.ws=[]∧∀j,D'.read j=if(fV D.read jm 0 0).2≤j∧j<2048 then zs else D.read j:=by
 obtain⟨h1,h2,_⟩:=GX h;generalize hr:fV D.read jm 0 0=r at*;obtain⟨rs,used⟩:=r;simp only at h1 h2 ⊢;obtain⟨D',e,c,rd⟩:=tA (2048-used).toNat used D h h1 (by omega);obtain⟨s1,s2,_⟩:=tL c.dn;refine⟨D'.sync.2,F2 hr e s1,c.sync,s2,λj=>?_⟩;rw[GL c.dn,rd j]
 by_cases q:used≤j∧j<2048
 · rw[if_pos q,if_pos (by omega)]
 · rw[if_neg q,if_neg (by omega)]
def kA:Nat→List (List UInt8)→List jP
 |_,[]=>[]
 |n,b::ls=>cu ((n+1:Nat):Int) b++kA (n+1) ls
def uH(ls:List (List UInt8)):Nat:=(kA 0 ls).length
theorem AY: ∀(a:List (List UInt8)) (n:Nat) (b:List (List UInt8)),kA n (a++b)=kA n a++kA (n+a.length) b
 | [],n,b=>by simp[kA]
 |x::a,n,b=>by
  simp only[iu,kA,AY a (n+1) b,aS,am];rw[show n+1+a.length=n+(a.length+1)by omega]
theorem zw: ∀(ls:List (List UInt8)) (n m:Nat),(kA n ls).length=(kA m ls).length
 | [],_,_=>rfl
 |b::ls,n,m=>by simp only[kA,ae,eF,zw ls (n+1) (m+1)]
theorem B1: ∀ls:List (List UInt8),ls.length≤uH ls
 | []=>aL _
 |b::ls=>by
  have h1:=B1 ls;have h2:=p9 b.length;have h3:=zw ls 1 0;simp only[uH,kA,ae,eF,am,h3]at*;omega
theorem Au{number:Int}{b:List UInt8}{k:Nat}(h:k< (cu number b).length):(cu number b)[k]=p3 number k (bE b.length) (gz b k):=by simp[cu]
theorem At(number:Int)(b:List UInt8): ∀s∈cu number b,s.length=64:=λs hs=>by
 obtain⟨i,_,rfl⟩:=eB.1 hs;exact GW (tU b i)
theorem w4{number:Int}{b:List UInt8}{k:Nat}(h:k< (cu number b).length)(h0:0≤number)(h1:number<4294967296)(hb:b.length≤3000):fj (cu number b)[k] number k=some (gz b k,((bE b.length:Nat):Int)):=by
 rw[Au h];rw[eF]at h;exact Cn (tU b k) h0 h1 h (by have:=w3 hb;omega)
theorem zm{rd:Int→jP}{number at':Int}{b:List UInt8}(h0:0≤number)(h1:number<4294967296)(hb:b.length≤3000): ∀k,k≤bE b.length→(∀j (h:j< (cu number b).length),j<k→rd (at'+j)=(cu number b)[j])→
 kX rd number at' ((bE b.length:Nat):Int) k=some ((List.range k).map (gz b)).flatten
 |0,_,_=>rfl
 |k+1,hk,h=>by
  have ih:=zm h0 h1 hb k (by omega) (λj hj hj2=>h j hj (by omega));have hl:k< (cu number b).length:=by rw[eF];omega
  rw[xf ih (by rw[h k hl (by omega)];exact w4 hl h0 h1 hb)];simp[cZ]
theorem BY{rd:Int→jP}{number at':Int}{b:List UInt8}(h0:0≤number)(h1:number<4294967296)(hb:b.length≤3000)(h: ∀j (h:j< (cu number b).length),rd (at'+j)=(cu number b)[j]):fP rd number at'=some (b,((bE b.length:Nat):Int)):=by
 have hl:0< (cu number b).length:=by rw[eF];exact p9 _
 have hp:fj (rd at') number 0=some (gz b 0,((bE b.length:Nat):Int)):=by
  have e:=h 0 hl;rw[show at'+((0:Nat):Int)=at' by omega]at e;rw[e];exact w4 hl h0 h1 hb
 refine sI hp ?_;rw[Kv,zm h0 h1 hb _ (aL _) (λj hj _=>h j hj),Ho b _ (yp _)]
def Shows(rd:Int→jP)(at':Int)(l:List jP):Prop:=∀j (h:j<l.length),rd (at'+j)=l[j]
theorem Shows.left{rd:Int→jP}{at':Int}{a b:List jP}(h:Shows rd at' (a++b)):Shows rd at' a:=λj hj=>by
 rw[h j (by rw[ae];omega),List.getElem_append_left hj]
theorem Shows.right{rd:Int→jP}{at':Int}{a b:List jP}(h:Shows rd at' (a++b)):Shows rd (at'+a.length) b:=λj hj=>by
 have:=h (a.length+j) (by rw[ae];omega);rw[show at'+((a.length+j:Nat):Int)=at'+a.length+j by omega]at this;rw[this,List.getElem_append_right (by omega)];congr 1;omega
theorem Cb{rd:Int→jP}: ∀(ls:List (List UInt8)) (n:Nat) (at':Int) (f:Nat),(∀b∈ls,b.length≤3000)→n+ls.length<4294967296→Shows rd at' (kA n ls)→
 fV rd (ls.length+f) n at'=(ls++(fV rd f ((n+ls.length:Nat):Int) (at'+(kA n ls).length)).1,(fV rd f ((n+ls.length:Nat):Int) (at'+(kA n ls).length)).2)
 | [],n,at',f,_,_,_=>by simp[kA]
 |b::ls,n,at',f,hl,hn,h=>by
  simp only[kA]at h ⊢;simp only[am]at hn ⊢;have hs:=BY (rd:=rd) (number:=((n+1:Nat):Int)) (at':=at') (by omega) (by omega) (hl b (by simp)) h.left;have ih:=Cb (rd:=rd) ls (n+1) (at'+(cu ((n+1:Nat):Int) b).length) f (λx hx=>hl x (by simp[hx])) (by omega) h.right;rw[eF]at ih;rw[show ls.length+1+f=(ls.length+f)+1 by omega,FT (b:=b) (all:=((bE b.length:Nat):Int)) (by rw[←hs];congr 1)];rw[show((n:Nat):Int)+1=((n+1:Nat):Int)by omega,ih];rw[ae,eF,show n+1+ls.length=n+(ls.length+1)by omega,show at'+((bE b.length+(kA (n+1) ls).length:Nat):Int)=at'+((bE b.length:Nat):Int)+(((kA (n+1) ls).length:Nat):Int)by omega];simp
structure LogD(D:DS)(ls:List (List UInt8)):Prop where
 ok:D.Ok
 inn:Wal.DS.In D
 ws:D.ws=[]
 short: ∀b∈ls,b.length≤3000
 room:uH ls≤2048
 shows:Shows D.read 0 (kA 0 ls)
 zero: ∀j,((uH ls:Nat):Int)≤j→D.read j=zs
theorem LogD.len{D:DS}{ls:List (List UInt8)}(h:LogD D ls):ls.length≤2048:=by have:=B1 ls;have:=h.room;omega
theorem GN{rd:Int→jP}{number at':Int}(h:(rd at').getD 63 0≠1):fP rd number at'=none:=q6 (rJ h)
theorem MR:zs.getD 63 0≠1:=by decide
theorem LogD.scan{D:DS}{ls:List (List UInt8)}(h:LogD D ls):fV D.read jm 0 0=(ls,((uH ls:Nat):Int)):=by
 have hl:=h.len;obtain⟨f,hf⟩: ∃f,jm=ls.length+f:=⟨jm-ls.length,by rw[s6];omega⟩;have:=Cb (rd:=D.read) ls 0 0 f h.short (by omega) h.shows;rw[←hf]at this;rw[show((0:Nat):Int)=0 from rfl]at this;have hz:=h.zero _ (Int.le_refl _);simp only[uH]at hz;rw[this,Int.zero_add,y8 (GN (by rw[hz];exact MR))];simp[uH]
theorem LogD.new:LogD DS.new []:=⟨DS.new_ok,⟨Q0,Q0⟩,rfl,λ_ h=>absurd h (by simp),by decide,λj h=>absurd h (by simp[kA]),λj _=>rfl⟩
theorem LogD.open{D:DS}{ls:List (List UInt8)}(h:LogD D ls)(ha:D.ar=false)(hd:D.dn=false): ∃D',bP D=⟨0,ls,((uH ls:Nat):Int),D'⟩∧LogD D' ls∧D'.ar=false∧D'.dn=false:=by
 obtain⟨D',e,c,hw,hr⟩:=Hv (D:=D) ⟨h.ok,h.inn,ha,hd⟩;rw[h.scan]at e hr
 have hrd: ∀j,D'.read j=D.read j:=λj=>by
  rw[hr j];split
  · rename_i q;rw[h.zero j q.1]
  · rfl
 exact⟨D',e,⟨c.ok,c.inn,hw,h.short,h.room,λj hj=>by rw[hrd];exact h.shows j hj,λj hj=>by rw[hrd];exact h.zero j hj⟩,c.ar,c.dn⟩
def PK:Int→List jP→fC
 |_,[]=>[]
 |at',s::ss=>(at',s)::PK (at'+1) ss
end Wal
end

section
namespace Go.Proofs.YtfocodjhmkokpaaGreatDoor
open Go Leg Codec Api
theorem D4(wb b off cap:Nat)(v:Value)(bs:List UInt8)(l:List Int)(cs:List Value)(T:TypeId)(z:Nat×Nat)(hlen:bs.length+10*l.length≤140737488355328)(hb: ∀j,j<l.length→cs[off+j]?=some (.int .i64 (l.getD j 0))):
 DT 174 #[(.pointer (some ⟨wb,0,none⟩)),(.slice (some ⟨b,off,none⟩) (l.length) (cap))] (λF=>F b=some (.cells cs.toArray T z)) [ah wb [v] 247,ce v (bs) 5] (qz 247 5 wb (bs++bj l)):=by
 refine BD 45 Tryz.func174 rfl rfl rfl λw0 F hF=>sr λ_ J1=>PS ?_
 refine nx J1 (ab λ_ J2=>sr λ_ J3=>PS ?_);refine tp (qA rfl iO rfl) ?_;refine PS ?_;refine nx J3 (au ?_)
 refine bn (α:=(Nat)×(Value)×(List UInt8)) (λ⟨k,u,laid⟩=>k≤l.length∧laid++bj (l.drop k)=bs++bj l) (λ⟨k,u,laid⟩=>[(0,(.pointer (some ⟨wb,0,none⟩))),(4,(.pointer none)),(8,(.slice (some ⟨b,off,none⟩) (l.length) (cap))),(9,(.int .i64 (((l.length:Nat):Int)))),(10,(.int .i64 ((k:Nat))))]) (λ⟨k,u,laid⟩=>[ah wb [u] 247,ce u (laid) 5]) (λ⟨k,u,laid⟩=>l.length-k) (0,v,bs)
  ⟨by omega,rfl⟩ SB
  (λ_ s=>s) (λ⟨k,u,laid⟩ hinv=>?_)
 obtain⟨hk,hL⟩:=hinv;refine sr λ_ J4=>PS ?_
 refine ao ?_ ?_<;>intro h11;refine nx J4 (ab λ_ J5=>CY (qx J5 (ab λ_ J6=>au (sr λ_ J7=>tp (jC (r:=off+k) rfl iO aR rfl rfl (by first|omega|decide) (by first|omega|decide) (by omega)) ?_))));refine tp (e4 (v:=(.int .i64 ((l.getD k 0)))) rfl Y3 rfl rfl (Rd.ro hF) (hb k (by omega))) ?_;refine PS ?_;refine nx J7 (sr λ_ J8=>PS ?_);refine tp (cI (r:=((((l.getD k 0%18446744073709551616).toNat:Nat)):Int)) rfl Y3 L2 rfl (zU _)) ?_;refine PS ?_;refine nx J8 (ab λ_ J9=>au ?_)
 refine bn (α:=(Nat)×(Value)×(List UInt8)) (λ⟨m,u2,laid2⟩=>laid2++(xE m++bj (l.drop (k+1)))=bs++bj l) (λ⟨m,u2,laid2⟩=>[(0,(.pointer (some ⟨wb,0,none⟩))),(4,(.pointer none)),(7,(.int .u64 ((m:Nat)))),(8,(.slice (some ⟨b,off,none⟩) (l.length) (cap))),(9,(.int .i64 (((l.length:Nat):Int)))),(10,(.int .i64 ((k:Nat))))]) (λ⟨m,u2,laid2⟩=>[ah wb [u2] 247,ce u2 (laid2) 5]) (λ⟨m,u2,laid2⟩=>m) ((l.getD k 0%18446744073709551616).toNat,u,laid)
  (by rw[←hL,H0 (l:=l) (k:=k) (by omega)];rfl) SB
  (λ_ s=>s) (λ⟨m,u2,laid2⟩ hinv=>?_)
 have hM:=hinv;refine ab λ_ J10=>sr λ_ J11=>P2 ?_
 refine ao ?_ ?_<;>intro h17;refine nx J11 (CY (qx J10 (au (sr λ_ J12=>P3 ?_))));refine FA 0 Kp kL ?_;refine LA 0 fE ?_;refine PS ?_;refine tp (cI (r:=(IntKind.u8.wrap ((m:Nat):Int))) rfl L2 Y5 rfl rfl) ?_;refine tp (Ks (r:=(((UInt8.ofNat (m%128+128)).toNat:Nat):Int)) rfl rfl rfl (N5 m)) ?_;refine aQ (cells:=#[(.int .u8 ((((UInt8.ofNat (m%128+128)).toNat:Nat):Int)))]) (aa rfl) rfl rfl rfl fE yc rfl rfl rfl (by as_aux_lemma=>kernel_rfl) (λb26=>cj (k:=2) (news:=dH ([(UInt8.ofNat (m%128+128))])) (nn':=(laid2++[(UInt8.ofNat (m%128+128))]:List UInt8).length) (xs':=dH (laid2++[(UInt8.ofNat (m%128+128))])) (aa rfl) rfl rfl rfl fE yc rfl rfl rfl rfl rfl rfl (λ_ _=>gW rfl (RO 0) rfl) (eV [(UInt8.ofNat (m%128+128))]) (by have:=congrArg List.length hM;have:=aW l;have:=qm m;simp only[ae,maxLen]at*;omega) (by have:=congrArg List.length hM;have:=aW l;have:=qm m;simp only[ae]at*;omega) (by simp) (ii _ _).symm (λv27 ov27=>PS ?_));refine FA 0 Kp kL ?_;refine bz (i:=1) (aa rfl) rfl rfl rfl rfl ov27 kL rfl rfl (lb rfl) rfl rfl (nx J12 (ad (PS ?_)));refine tp (j5 (r:=((m / 128:Nat):Int)) rfl rfl rfl (by omega) (PO m)) ?_;refine PS ?_;refine ap (ag ?_)
 exact aI ((m / 128,v27,laid2++[(UInt8.ofNat (m%128+128))]):(Nat)×(Value)×(List UInt8)) (by rw[←hM,vM (by omega)];simp) (by show m / 128<m;omega)
  SB
  (λ_ s=>ak [1,1] rfl s)
 refine nx J11 (CN (aX (aA (aA (bl (ac J9 (ad (P3 ?_))))))));refine FA 0 Kp kL ?_;refine LA 0 fE ?_;refine PS ?_;refine tp (cI (r:=(((UInt8.ofNat m).toNat:Nat):Int)) rfl L2 Y5 rfl (LP (by omega))) ?_;refine aQ (cells:=#[(.int .u8 ((((UInt8.ofNat m).toNat:Nat):Int)))]) (aa rfl) rfl rfl rfl fE yc rfl rfl rfl (by as_aux_lemma=>kernel_rfl) (λb39=>cj (k:=2) (news:=dH ([(UInt8.ofNat m)])) (nn':=(laid2++[(UInt8.ofNat m)]:List UInt8).length) (xs':=dH (laid2++[(UInt8.ofNat m)])) (aa rfl) rfl rfl rfl fE yc rfl rfl rfl rfl rfl rfl (λ_ _=>gW rfl (RO 0) rfl) (eV [(UInt8.ofNat m)]) (by have:=congrArg List.length hM;have:=aW l;have:=qm m;simp only[ae,maxLen]at*;omega) (by have:=congrArg List.length hM;have:=aW l;have:=qm m;simp only[ae]at*;omega) (by simp) (ii _ _).symm (λv40 ov40=>PS ?_));refine FA 0 Kp kL ?_;refine bz (i:=1) (aa rfl) rfl rfl rfl rfl ov40 kL rfl rfl (lb rfl) rfl rfl (ap (ag (ac J6 (ad (AD ?_)))));refine PS ?_;refine ap ?_
 exact aI ((k+1,v40,laid2++[(UInt8.ofNat m)]):(Nat)×(Value)×(List UInt8)) ⟨by omega,by rw[←hM,td (by omega)];simp⟩ (by show _-_<_-_;omega)
  SB
  (λ_ s=>ak [1,1] rfl s)
 refine nx J4 (ab λ_ J13=>CN (aX (aA (aA (bl (ac J2 (sr λ_ J14=>P2 ?_)))))));refine nx J14 (ai (WK [0,0] (av rfl rfl ?_)));obtain rfl:laid=bs++bj l:=by rw[←hL,e8 (by omega)];simp[bj]
 exact⟨u,rfl,rfl⟩
theorem Iu(wb:Nat)(v:Value)(bs:List UInt8):
 DT 174 #[(.pointer (some ⟨wb,0,none⟩)),(.slice none 0 0)] T0 [ah wb [v] 247,ce v (bs) 5] (qz 247 5 wb (bs++bj [])):=by
 refine BD 45 Tryz.func174 rfl rfl rfl λw0 F hF=>sr λ_ J1=>PS ?_
 refine nx J1 (ab λ_ J2=>sr λ_ J3=>PS ?_);refine tp (qA rfl iO rfl) ?_;refine PS ?_;refine nx J3 (au ?_)
 refine bn (α:=Unit) (λ_u=>True) (λ_u=>[(0,(.pointer (some ⟨wb,0,none⟩))),(4,(.pointer none)),(8,(.slice none 0 0)),(9,(.int .i64 0)),(10,(.int .i64 0))]) (λ_u=>[ah wb [v] 247,ce v (bs) 5]) (λ_u=>0) ()
  trivial SB
  (λ_ s=>s) (λ_u hinv=>?_)
 obtain _:=hinv;refine sr λ_ J4=>PS ?_
 refine nx J4 (ab λ_ J5=>CN (aX (aA (aA (bl (ac J2 (sr λ_ J6=>P2 ?_)))))));refine nx J6 (ai (av rfl rfl ?_));exact⟨v,rfl,by rw[JP,aP]⟩
theorem dP(wb:Nat)(v:Value)(bs:List UInt8)(x:Value)(l:List Int)(hlen:bs.length+10*l.length≤140737488355328):DT 174 #[(.pointer (some ⟨wb,0,none⟩)),x] (QE x l) [ah wb [v] 247,ce v bs 5] (qz 247 5 wb (bs++bj l)):=by
 refine Leg.Does.of λF hF=>?_
 rcases id hF with⟨rfl,rfl⟩| ⟨b,off,cap,cs,T,z,rfl,h3,h4⟩
 · exact⟨_,trivial,Iu wb v bs⟩
 · exact⟨_,h3,D4 wb b off cap v bs l cs T z hlen h4⟩
theorem eh(wb:Nat)(v:Value)(bs:List UInt8)(hlen:bs.length≤140737488355328):
 DT 179 #[(.pointer (some ⟨wb,0,none⟩))] T0 [ah wb [v] 247,ce v (bs) 5] (dm (λx H=>∃u,x=u∧H=[ah wb [v] 247,ce v bs 5,ce u bs 5])):=by
 refine Leg.Does.body (vs:=[(.pointer (some ⟨wb,0,none⟩))]) (n:=9) Tryz.func179 rfl rfl rfl (λw0 F hF=>?_);refine sr λ_ J1=>?_
 refine pJ ?_;refine nx J1 ?_;refine sr λ_ J2=>?_
 refine DM (aa rfl) rfl rfl rfl fE jK (λv3=>?_);change TL _ _ _ _ _ _ _ _ _ [ce v3 ([]) 5,ah wb [v] 247,ce v (bs) 5];refine mv ?_;refine tp (gf rfl rfl) ?_;refine tp (aZ (r:=0) rfl Kp rfl kL rfl rfl) ?_;refine tp (e4 (v:=v) rfl fE rfl rfl (dS 1 rfl rfl) rfl) ?_;refine cj (k:=0) (news:=dH (bs)) (nn':=(bs:List UInt8).length) (xs':=dH (bs)) (aa rfl) rfl rfl rfl fE yc rfl rfl rfl rfl rfl rfl (λ_ s=>Kr 2 rfl rfl s) (eV _) (by simp only[maxLen,am,aw];omega) (by simp only[am,aw];omega) (by simp) (bK _) (λv8 ov8=>?_);change TL _ _ _ _ _ _ _ _ _ [ce v8 (bs) 5,ah wb [v] 247,ce v (bs) 5];refine pJ ?_;refine nx J2 ?_;refine ai ?_;refine aE (db _) (λ_ s=>ak [1,1,0] rfl s) ?_;refine av rfl rfl ?_;exact⟨v8,rfl,rfl⟩
theorem Bq(wb:Nat)(v:Value)(bs:List UInt8)(a0 a1 g0 g1 g2 g3 g4:Int)(hlen:bs.length+70≤140737488355328):
 DT 178 #[(.pointer (some ⟨wb,0,none⟩)),(.agg #[(.int .i64 (a0)),(.int .i64 (a1)),(.int .i64 (g0)),(.int .i64 (g1)),(.int .i64 (g2)),(.int .i64 (g3)),(.int .i64 (g4))])] T0 [ah wb [v] 247,ce v (bs) 5] (qz 247 5 wb (bs++bj [a0,a1,g0,g1,g2,g3,g4])):=by
 refine BD 15 Tryz.func178 rfl rfl rfl λw0 F hF=>sr λ_ J1=>XB λb3=>?_
 refine PS ?_;refine nx J1 (ab λ_ J2=>D1 0 mixed ?_);refine PD 0 ?_;refine FD 1 0 eH aR ?_;refine LX 2 Y3 (.int .i64 (a0)) ?_ (hc:=by exact rfl);refine FD 3 1 eH aR ?_;refine LX 4 Y3 (.int .i64 (a1)) ?_ (hc:=by exact rfl);refine FD 7 2 eH eW ?_;refine ta 8 rfl (l5 rfl jO aR rfl) ?_;refine AL 5 ?_;refine aQ (cells:=#[(.int .i64 (a0)),(.int .i64 (a1))]) (aa rfl) rfl rfl rfl iO oD rfl rfl rfl (by as_aux_lemma=>kernel_rfl) (λb10=>EN (AL 6 ?_));refine CQ jV (dP wb v (bs) (.slice (some ⟨b10,0,none⟩) (2) (2)) [a0,a1] (by simp only[ae,am,aw,aB];first|omega| (have:=aW [a0,a1];simp only[am,aw]at this;omega))) (SM [2,2]) (dG 0 rfl rfl rfl rfl) λvR HR hR=>?_
 obtain⟨u1,rfl,rfl⟩:=hR;refine EN (AL 9 ?_);refine CQ jV (dP wb u1 (bs++bj [a0,a1]) (.slice (some ⟨b3,2,none⟩) (5) (5)) [g0,g1,g2,g3,g4] (by simp only[ae,am,aw,aB];first|omega| (have:=aW [a0,a1];simp only[am,aw]at this;omega))) ID (dG 1 rfl rfl rfl rfl) λvR HR hR=>?_
 obtain⟨u2,rfl,rfl⟩:=hR;refine EN (PD 10 ?_);refine DN (ac J2 (ai (WK [0,0] (av rfl rfl ?_))));exact⟨_,rfl,by rw[aS,←ql];rfl⟩
theorem yd(wb:Nat)(v:Value)(bs:List UInt8)(a0 a1 a2:Int)(hlen:bs.length+30≤140737488355328):
 DT 177 #[(.pointer (some ⟨wb,0,none⟩)),(.agg #[(.int .i64 (a0)),(.int .i64 (a1)),(.int .i64 (a2))])] T0 [ah wb [v] 247,ce v (bs) 5] (qz 247 5 wb (bs++bj [a0,a1,a2])):=by
 refine BD 14 Tryz.func177 rfl rfl rfl λw0 F hF=>sr λ_ J1=>XB λb3=>?_
 refine PS ?_;refine nx J1 (sr λ_ J2=>PS ?_);refine FA 0 ng aR ?_;refine LA 0 Y3 ?_;refine FA 1 ng aR ?_;refine LA 0 Y3 ?_;refine FA 2 ng aR ?_;refine LA 0 Y3 ?_;refine aQ (cells:=#[(.int .i64 (a0)),(.int .i64 (a1)),(.int .i64 (a2))]) (aa rfl) rfl rfl rfl iO oD rfl rfl rfl (by as_aux_lemma=>kernel_rfl) (λb12=>CQ jV (dP wb v (bs) (.slice (some ⟨b12,0,none⟩) (3) (3)) [a0,a1,a2] (by simp only[ae,am,aw,aB];first|omega| (have:=aW [a0,a1];simp only[am,aw]at this;omega))) (SM [2,2]) (dG 0 rfl rfl rfl rfl) λvR HR hR=>?_);obtain⟨u1,rfl,rfl⟩:=hR;refine PS ?_;exact nx J2 (ai (WK [0,0] (av rfl rfl ⟨_,rfl,rfl⟩)))
theorem ye(wb:Nat)(v:Value)(bs:List UInt8)(a0 a1:Int)(hlen:bs.length+20≤140737488355328):
 DT 176 #[(.pointer (some ⟨wb,0,none⟩)),(.agg #[(.int .i64 (a0)),(.int .i64 (a1))])] T0 [ah wb [v] 247,ce v (bs) 5] (qz 247 5 wb (bs++bj [a0,a1])):=by
 refine BD 12 Tryz.func176 rfl rfl rfl λw0 F hF=>sr λ_ J1=>XB λb3=>?_
 refine PS ?_;refine nx J1 (sr λ_ J2=>PS ?_);refine FA 0 kf aR ?_;refine LA 0 Y3 ?_;refine FA 1 kf aR ?_;refine LA 0 Y3 ?_;refine aQ (cells:=#[(.int .i64 (a0)),(.int .i64 (a1))]) (aa rfl) rfl rfl rfl iO oD rfl rfl rfl (by as_aux_lemma=>kernel_rfl) (λb10=>CQ jV (dP wb v (bs) (.slice (some ⟨b10,0,none⟩) (2) (2)) [a0,a1] (by simp only[ae,am,aw,aB];first|omega| (have:=aW [a0,a1];simp only[am,aw]at this;omega))) (SM [2,2]) (dG 0 rfl rfl rfl rfl) λvR HR hR=>?_);obtain⟨u1,rfl,rfl⟩:=hR;refine PS ?_;exact nx J2 (ai (WK [0,0] (av rfl rfl ⟨_,rfl,rfl⟩)))
theorem Bz(wb:Nat)(v:Value)(bs:List UInt8)(a0 a1 g0 g1 g2 g3 g4:Int)(hlen:bs.length+70≤140737488355328):
 DT 191 #[(.pointer (some ⟨wb,0,none⟩)),(.agg #[(.int .i64 (a0)),(.int .i64 (a1)),(.int .i64 (g0)),(.int .i64 (g1)),(.int .i64 (g2)),(.int .i64 (g3)),(.int .i64 (g4))])] T0 [ah wb [v] 247,ce v (bs) 5] (dm (λx H=>∃v',x= .tuple #[]∧H=[ah wb [v'] 247,ce v' (bs++bj [a0,a1,g0,g1,g2,g3,g4]) 5])):=by
 refine BD 14 Tryz.func191 rfl rfl rfl λw0 F hF=>sr λ_ J1=>XB λb3=>?_
 refine nx J1 (D1 0 mixed ?_);refine PD 0 ?_;refine FD 1 0 mM aR ?_;refine LX 2 Y3 (.int .i64 (a0)) ?_ (hc:=by exact rfl);refine FD 3 1 mM aR ?_;refine LX 4 Y3 (.int .i64 (a1)) ?_ (hc:=by exact rfl);refine FD 7 2 mM eW ?_;refine ta 8 rfl (l5 rfl jO aR rfl) ?_;refine AL 5 ?_;refine aQ (cells:=#[(.int .i64 (a0)),(.int .i64 (a1))]) (aa rfl) rfl rfl rfl iO oD rfl rfl rfl (by as_aux_lemma=>kernel_rfl) (λb9=>EN (AL 6 ?_));refine CQ jV (dP wb v (bs) (.slice (some ⟨b9,0,none⟩) (2) (2)) [a0,a1] (by simp only[ae,am,aw,aB];first|omega| (have:=aW [a0,a1];simp only[am,aw]at this;omega))) (SM [2,2]) (dG 0 rfl rfl rfl rfl) λvR HR hR=>?_
 obtain⟨u1,rfl,rfl⟩:=hR;refine EN (AL 9 ?_);refine CQ jV (dP wb u1 (bs++bj [a0,a1]) (.slice (some ⟨b3,2,none⟩) (5) (5)) [g0,g1,g2,g3,g4] (by simp only[ae,am,aw,aB];first|omega| (have:=aW [a0,a1];simp only[am,aw]at this;omega))) ID (dG 1 rfl rfl rfl rfl) λvR HR hR=>?_
 obtain⟨u2,rfl,rfl⟩:=hR;refine EN (DN (WK [0,0] (bu rfl ?_)));exact⟨_,rfl,by rw[aS,←ql];rfl⟩
theorem vY(wb:Nat)(v:Value)(bs:List UInt8)(c:CellT)(hlen:bs.length+70≤140737488355328):DT 191 #[(.pointer (some ⟨wb,0,none⟩)),c.val] T0 [ah wb [v] 247,ce v bs 5] (dm (λx H=>∃v',x= .tuple #[]∧H=[ah wb [v'] 247,ce v' (bs++bj c.flat) 5])):=by
 obtain⟨i,o,g⟩:=c;exact NX (p:=λg=>Leg.Does Tryz.prog 191 #[(.pointer (some ⟨wb,0,none⟩)),CellT.val ⟨i,o,g⟩] (λ_=>True) [ah wb [v] 247,ce v bs 5] (dm (λx H=>∃v',x= .tuple #[]∧H=[ah wb [v'] 247,ce v' (bs++bj (CellT.flat ⟨i,o,g⟩)) 5]))) (λa b c d e=>Bz wb v bs i o a b c d e hlen) g
theorem rk(wb:Nat)(v:Value)(bs:List UInt8)(x:ViewT)(hlen:bs.length+70≤140737488355328):DT 178 #[(.pointer (some ⟨wb,0,none⟩)),x.val] T0 [ah wb [v] 247,ce v bs 5] (qz 247 5 wb (bs++bj x.flat)):=by
 obtain⟨i,o,g⟩:=x;exact NX (p:=λg=>Leg.Does Tryz.prog 178 #[(.pointer (some ⟨wb,0,none⟩)),ViewT.val ⟨i,o,g⟩] (λ_=>True) [ah wb [v] 247,ce v bs 5] (qz 247 5 wb (bs++bj (ViewT.flat ⟨i,o,g⟩)))) (λa b c d e=>Bq wb v bs i o a b c d e hlen) g
theorem oE(wb:Nat)(v:Value)(bs:List UInt8)(x:ChangeT)(hlen:bs.length+30≤140737488355328):DT 177 #[(.pointer (some ⟨wb,0,none⟩)),x.val] T0 [ah wb [v] 247,ce v bs 5] (qz 247 5 wb (bs++bj x.flat)):=yd wb v bs x.kind x.who x.heir (by omega)
theorem jt(wb:Nat)(v:Value)(bs:List UInt8)(x:BallotT)(hlen:bs.length+30≤140737488355328):DT 176 #[(.pointer (some ⟨wb,0,none⟩)),x.val] T0 [ah wb [v] 247,ce v bs 5] (qz 247 5 wb (bs++bj x.flat)):=ye wb v bs x.round x.who (by omega)
theorem tx(wb:Nat)(v:Value)(bs:List UInt8)(x:RowT)(hlen:bs.length+2000≤140737488355328):
 DT 175 #[(.pointer (some ⟨wb,0,none⟩)),(.agg (ints x.flat).toArray)] T0 [ah wb [v] 247,ce v (bs) 5] (qz 247 5 wb (bs++iq x)):=by
 refine BD 50 Tryz.func175 rfl rfl rfl λw0 F hF=>sr λ_ J1=>XY (ints x.flat) λb3=>?_
 refine PS ?_;refine nx J1 (sr λ_ J2=>PS ?_);refine FA 0 dV aR ?_;refine LT 0 Y3 (.int .i64 (x.version)) ?_ (hc:=by exact RowT.get_version _);refine aQ (cells:=#[(.int .i64 (x.version))]) (aa rfl) rfl rfl rfl iO oD rfl rfl rfl (by as_aux_lemma=>kernel_rfl) (λb14=>CQ jV (dP wb v (bs) (.slice (some ⟨b14,0,none⟩) (1) (1)) [x.version] (by have:=congrArg List.length (Eq.refl bs);have:=io x;simp only[ae,am,aw]at*;omega)) (SM [2,2]) (dG 0 rfl rfl rfl rfl) λvR HR hR=>?_);obtain⟨u1,rfl,rfl⟩:=hR;refine nx J2 (ab λ_ J3=>sr λ_ J4=>FA 1 dV lG ?_);refine tp (aN (vs:=ints (bQ x.cells.toList)) rfl Bo rfl lG rfl (RO 3) (by rw[ints_length,cX];simp) (RowT.get_cells _)) ?_;refine PS ?_;refine nx J4 (au ?_)
 refine bn (α:=(Nat)×(Value)×(List UInt8)) (λ⟨k,u,laid⟩=>k≤4∧laid++(bj (bQ (x.cells.toList.drop k))++gm x 5 0)=bs++iq x) (λ⟨k,u,laid⟩=>[(0,(.pointer (some ⟨wb,0,none⟩))),(3,(.pointer (some ⟨b3,0,none⟩))),(4,(.pointer none)),(17,(.agg (ints (bQ x.cells.toList)).toArray)),(18,(.int .i64 ((k:Nat))))]) (λ⟨k,u,laid⟩=>[ah b3 (ints x.flat) 39,ah wb [u] 247,ce u (laid) 5]) (λ⟨k,u,laid⟩=>4-k) (0,u1,bs++bj [x.version])
  ⟨by omega,by simp[iq,bj]⟩ SB
  (λ_ s=>ak [3,0,0] rfl s) (λ⟨k,u,laid⟩ hinv=>?_)
 obtain⟨hk,hL⟩:=hinv;have hE:=hL;rw[show bj (bQ (x.cells.toList.drop k))=bj (bQ (x.cells.toList.drop k))from rfl]at hE;refine sr λ_ J5=>PS ?_
 refine ao ?_ ?_<;>intro h19;refine nx J5 (ab λ_ J6=>CY (qx J6 (ab λ_ J7=>au (sr λ_ J8=>tp (PV.indexN (cs:=ints (bQ (x.cells.toList))) (r:=k*7) rfl Bo mM rfl fy rfl rfl (by omega) (by omega) (by omega) (zv (by simp;omega))) ?_))));refine XA Kx λb6=>?_
 refine bO (vs:=ints ((x.cells.toList)[k]'(by simp;omega)).flat) (cs':=ints ((x.cells.toList)[k]'(by simp;omega)).flat) (i:=0) (aa rfl) rfl rfl rfl rfl rfl (by rw[bo];exact fy) (bk _) rfl rfl (by rw[bo];exact aL _) (gh (by rw[bo];rfl)) rfl (nx J8 (ad (PS ?_)));refine tp (aN (vs:=ints ((x.cells.toList)[k]'(by simp;omega)).flat) rfl mM rfl fy rfl (RO 0) (bo _) (by rw[aV,az (by rw[bo];decide)])) ?_;refine CR Mi (vY wb u (laid) ((x.cells.toList)[k]'(by simp;omega)) (by have:=congrArg List.length hE;have:=io x;have:=aW ((x.cells.toList)[k]'(by simp;omega)).flat;rw[bw]at this;simp only[ae]at*;omega)) (SM [2,2]) λvR HR hR=>?_
 obtain⟨u2,rfl,rfl⟩:=hR;refine ap (ag (ac J7 (ad (AD ?_))));refine PS ?_;refine ap ?_
 exact aI ((k+1,u2,laid++bj ((x.cells.toList)[k]'(by simp;omega)).flat):(Nat)×(Value)×(List UInt8)) ⟨by omega,by rw[←hL,o6 (l:=x.cells.toList) (k:=k) (by simp;omega)];simp⟩ (by show _-_<_-_;omega)
  SB
  (λ_ s=>ak [3,0,0] rfl s)
 refine nx J5 (ab λ_ J9=>CN (aX (aA (aA (bl (ac J3 (ab λ_ J10=>sr λ_ J11=>FA 29 dV eW ?_)))))));refine tp (aN (vs:=ints x.heir.toList) rfl jO rfl eW rfl (RO 0) (by rw[ints_length];simp) (RowT.get_heirs _)) ?_;refine PS ?_;refine nx J11 (au ?_)
 refine bn (α:=(Nat)×(Value)×(List UInt8)) (λ⟨i,u,laid⟩=>i≤5∧laid++gm x (5-i) i=bs++iq x) (λ⟨i,u,laid⟩=>[(0,(.pointer (some ⟨wb,0,none⟩))),(3,(.pointer (some ⟨b3,0,none⟩))),(4,(.pointer none)),(26,(.agg (ints x.heir.toList).toArray)),(27,(.int .i64 ((i:Nat))))]) (λ⟨i,u,laid⟩=>[ah b3 (ints x.flat) 39,ah wb [u] 247,ce u (laid) 5]) (λ⟨i,u,laid⟩=>5-i) (0,u,laid)
  ⟨by omega,by rw[←hL,e8 (by simp;omega)];simp[bQ,bj]⟩ SB
  (λ_ s=>ak [0,0,0] rfl s) (λ⟨i,u,laid⟩ hinv=>?_)
 obtain⟨hi,hL⟩:=hinv;have hE:=hL;refine sr λ_ J12=>PS ?_
 refine ao ?_ ?_<;>intro h28;refine nx J12 (ab λ_ J13=>CY (qx J13 (ab λ_ J14=>au (sr λ_ J15=>PS ?_))));refine tp (nG (cs:=ints x.heir.toList) (v:= .int .i64 (x.heir[i]'(by omega))) (r:=i) rfl jO Y3 rfl aR rfl rfl (by omega) (by omega) (by omega) (by rw[ints_get _ _ (by simp;omega)];simp[List.getD_eq_getElem?_getD,show i<5 by omega])) ?_;refine P2 ?_;refine nx J15 (sr λ_ J16=>P2 ?_);refine aQ (cells:=#[(.int .i64 (x.heir[i]'(by omega)))]) (aa rfl) rfl rfl rfl iO oD rfl rfl rfl (by as_aux_lemma=>kernel_rfl) (λb33=>CQ jV (dP wb u (laid) (.slice (some ⟨b33,0,none⟩) (1) (1)) [x.heir[i]'(by omega)] (by have:=congrArg List.length hE;have:=io x;simp only[ae,am,aw]at*;omega)) (SM [2,2]) (dG 0 rfl rfl rfl rfl) λvR HR hR=>?_);obtain⟨u2,rfl,rfl⟩:=hR;refine nx J16 (sr λ_ J17=>P2 ?_);refine ao ?_ ?_<;>intro h36;refine nx J17 (CY (sr λ_ J18=>PS ?_));refine FA 34 dV BJ ?_;refine IX (34+i*28) MM lG ?_;refine tp (aN (vs:=ints (bQ (x.left[i]'(by omega)).toList)) rfl Bo rfl lG rfl (RO 3) (by rw[ints_length,cX];simp) (RowT.get_left _ i (by omega))) ?_;refine PS ?_;refine nx J18 (au ?_)
 refine bn (α:=(Nat)×(Value)×(List UInt8)) (λ⟨k,u3,laid3⟩=>k≤4∧laid3++(bj (bQ ((x.left[i]'(by omega)).toList.drop k))++gm x (5- (i+1)) (i+1))=bs++iq x) (λ⟨k,u3,laid3⟩=>[(0,(.pointer (some ⟨wb,0,none⟩))),(3,(.pointer (some ⟨b3,0,none⟩))),(4,(.pointer none)),(26,(.agg (ints x.heir.toList).toArray)),(27,(.int .i64 ((i:Nat)))),(40,(.agg (ints (bQ (x.left[i]'(by omega)).toList)).toArray)),(41,(.int .i64 ((k:Nat))))]) (λ⟨k,u3,laid3⟩=>[ah b3 (ints x.flat) 39,ah wb [u3] 247,ce u3 (laid3) 5]) (λ⟨k,u3,laid3⟩=>4-k) (0,u2,laid++bj [x.heir[i]'(by omega)])
  ⟨by omega,by rw[←hL,ra (i:=i) (by omega),if_pos h36];simp[bj]⟩ SB
  (λ_ s=>ak [3,0,0] rfl s) (λ⟨k,u3,laid3⟩ hinv=>?_)
 obtain⟨hk,hM⟩:=hinv;have hE:=hM;refine sr λ_ J19=>PS ?_
 refine ao ?_ ?_<;>intro h42;refine nx J19 (ab λ_ J20=>CY (qx J20 (ab λ_ J21=>au (sr λ_ J22=>tp (PV.indexN (cs:=ints (bQ ((x.left[i]'(by omega)).toList))) (r:=k*7) rfl Bo mM rfl fy rfl rfl (by omega) (by omega) (by omega) (zv (by simp;omega))) ?_))));refine XA Kx λb10=>?_
 refine bO (vs:=ints (((x.left[i]'(by omega)).toList)[k]'(by simp;omega)).flat) (cs':=ints (((x.left[i]'(by omega)).toList)[k]'(by simp;omega)).flat) (i:=0) (aa rfl) rfl rfl rfl rfl rfl (by rw[bo];exact fy) (bk _) rfl rfl (by rw[bo];exact aL _) (gh (by rw[bo];rfl)) rfl (nx J22 (ad (PS ?_)));refine tp (aN (vs:=ints (((x.left[i]'(by omega)).toList)[k]'(by simp;omega)).flat) rfl mM rfl fy rfl (RO 0) (bo _) (by rw[aV,az (by rw[bo];decide)])) ?_;refine CR Mi (vY wb u3 (laid3) (((x.left[i]'(by omega)).toList)[k]'(by simp;omega)) (by have:=congrArg List.length hE;have:=io x;have:=aW (((x.left[i]'(by omega)).toList)[k]'(by simp;omega)).flat;rw[bw]at this;simp only[ae]at*;omega)) (SM [2,2]) λvR HR hR=>?_
 obtain⟨u3,rfl,rfl⟩:=hR;refine ap (ag (ac J21 (ad (AD ?_))));refine PS ?_;refine ap ?_
 exact aI ((k+1,u3,laid3++bj (((x.left[i]'(by omega)).toList)[k]'(by simp;omega)).flat):(Nat)×(Value)×(List UInt8)) ⟨by omega,by rw[←hM,o6 (l:=(x.left[i]'(by omega)).toList) (k:=k) (by simp;omega)];simp⟩ (by show _-_<_-_;omega)
  SB
  (λ_ s=>ak [3,0,0] rfl s)
 refine nx J19 (ab λ_ J23=>CN (aX (aA (aA (bl (ag (ac J14 (ad (AD ?_)))))))));refine PS ?_;refine ap ?_
 exact aI ((i+1,u3,laid3):(Nat)×(Value)×(List UInt8)) ⟨by omega,by rw[←hM,e8 (by simp;omega)];simp[bQ,bj]⟩ (by show _-_<_-_;omega)
  SB
  (λ_ s=>ak [0,0,0] rfl s)
 refine nx J17 (CN (aT (ag (ac J14 (ad (AD ?_))))));refine PS ?_;refine ap ?_
 exact aI ((i+1,u2,laid++bj [x.heir[i]'(by omega)]):(Nat)×(Value)×(List UInt8)) ⟨by omega,by rw[←hL,ra (i:=i) (by omega),if_neg h36];simp[bj]⟩ (by show _-_<_-_;omega)
  SB
  (λ_ s=>ak [3,0,0] rfl s)
 refine nx J12 (ab λ_ J24=>CN (aX (aA (aA (bl (ac J10 (sr λ_ J25=>P2 ?_)))))));refine nx J25 (ai (WK [1,1] (av rfl rfl ?_)));obtain rfl:laid=bs++iq x:=by rw[←hL,show 5-i=0 by omega];simp[gm]
 exact⟨u,rfl,rfl⟩
theorem C3(m:MsgT):
 DT 217 #[(.agg (ints m.flat).toArray)] T0 [] (dm (λr' H=>∃u,r'=u∧H=[ce u (dR m) 5])):=by
 refine BD 100 Tryz.func217 rfl rfl rfl λw0 F hF=>sr λ_ J1=>XY (ints m.flat) λb1=>?_
 refine PS ?_;refine nx J1 (sr λ_ J2=>XA NV λb4=>?_);refine TL.ownNil 5 (λon=>?_);clear on;refine PS ?_;refine nx J2 (ab λ_ J3=>sr λ_ J4=>FA 0 be aR ?_);refine LU 2 Y3 (eT m rfl) ?_;refine nx J4 (au (ab λ_ J5=>e5 (α:=Unit) (λ_u=>True) (λ_u=>[(1,(.pointer (some ⟨b1,0,none⟩))),(2,(.slice none 0 0)),(3,(.pointer (some ⟨b4,0,none⟩))),(6,(.int .i64 (m.kind))),(7,(.bool ((fc m.kind))))]) (λ_u=>[ce (.slice none 0 0) ([]) 5,ah b4 [(.slice none 0 0)] 247,ah b1 (ints m.flat) 163]) (λ_u hinv=>?_) (λtl5=>?_)));have _:=hinv;refine ac J5 (TC.cond rfl (λh7=>?_) (λh7=>?_));refine D1 2 mixed ?_;refine PD 0 ?_;refine FD 1 0 be aR ?_;refine LR 2 Y3 (eT m rfl) ?_;refine FD 3 1 be aR ?_;refine LR 4 Y3 (cn m rfl) ?_;refine FD 7 2 be ba ?_;refine ta 8 rfl (aN (vs:=ints m.row.flat) rfl dV rfl ba rfl (λ_ h=>h.2.1) (aj m.row) (mm m 0 rfl (by decide) (whole (aj m.row)))) ?_;refine AL 5 ?_;refine aQ (cells:=#[(.int .i64 (m.kind)),(.int .i64 (m.whose))]) (aa rfl) rfl rfl rfl iO oD rfl rfl rfl (by as_aux_lemma=>kernel_rfl) (λb16=>EN (AL 6 ?_));refine CQ jV (dP b4 (.slice none 0 0) ([]) (.slice (some ⟨b16,0,none⟩) (2) (2)) [m.kind,m.whose] (by simp)) (SM [2,1]) (dG 0 rfl rfl rfl rfl) λvR HR hR=>?_
 obtain⟨u1,rfl,rfl⟩:=hR;refine EN (AL 9 ?_);refine CR Jm (tx b4 u1 (bj [m.kind,m.whose]) m.row (by(have:=aW [m.kind,m.whose]);simp only[BallotT.flat,ViewT.flat,ChangeT.flat,am,aw,aB,ae]at*;omega)) ID λvR HR hR=>?_
 obtain⟨u2,rfl,rfl⟩:=hR;refine EN (DN (ag (ac J3 (sr λ_ J6=>PS ?_))));refine CR m5 (eh b4 u2 (bj [m.kind,m.whose]++iq m.row) (by(have:=aW [m.kind,m.whose]);(have:=io m.row);simp only[BallotT.flat,ViewT.flat,ChangeT.flat,am,aw,aB,ae]at*;omega)) ID λvR HR hR=>?_
 obtain⟨_,rfl,rfl⟩:=hR;revert vR;intro u3;refine PS ?_;refine nx J6 (ai (WK [2] (av rfl rfl ?_)));exact⟨_,rfl,congrArg (λb=>[ce u3 b 5]) (show(bj [m.kind,m.whose]++iq m.row)=dR m by simp[dR,bj, *])⟩;refine sr λ_ J7=>PS ?_
 refine ao ?_ ?_<;>intro h22;refine PS ?_;refine nx J7 (CY (ad (PS ?_)));refine FA 0 be aR ?_;refine LU 2 Y3 (eT m rfl) ?_;refine FA 176 be aR ?_;refine LU 2 Y3 (MsgT.at_version m rfl) ?_;refine aQ (cells:=#[(.int .i64 (m.kind)),(.int .i64 (m.version))]) (aa rfl) rfl rfl rfl iO oD rfl rfl rfl (by as_aux_lemma=>kernel_rfl) (λb28=>CQ jV (dP b4 (.slice none 0 0) ([]) (.slice (some ⟨b28,0,none⟩) (2) (2)) [m.kind,m.version] (by simp)) (SM [2,1]) (dG 0 rfl rfl rfl rfl) λvR HR hR=>?_);obtain⟨u1,rfl,rfl⟩:=hR;refine ap (ag (ac J3 (sr λ_ J8=>PS ?_)));refine CR m5 (eh b4 u1 (bj [m.kind,m.version]) (by(have:=aW [m.kind,m.version]);simp only[BallotT.flat,ViewT.flat,ChangeT.flat,am,aw,aB,ae]at*;omega)) ID λvR HR hR=>?_
 obtain⟨_,rfl,rfl⟩:=hR;revert vR;intro u2;refine PS ?_;refine nx J8 (ai (WK [2] (av rfl rfl ?_)));exact⟨_,rfl,congrArg (λb=>[ce u2 b 5]) (show(bj [m.kind,m.version])=dR m by simp[dR,fc,fk,bj, *])⟩;refine PS ?_;refine nx J7 (CN (ab λ_ J9=>e5 (α:=Unit) (λ_u=>True) (λ_u=>[(1,(.pointer (some ⟨b1,0,none⟩))),(2,(.slice none 0 0)),(3,(.pointer (some ⟨b4,0,none⟩))),(6,(.int .i64 (m.kind))),(30,(.bool ((fk m.kind))))]) (λ_u=>[ce (.slice none 0 0) ([]) 5,ah b4 [(.slice none 0 0)] 247,ah b1 (ints m.flat) 163]) (λ_u hinv=>?_) (λtl9=>?_)));have _:=hinv;refine ac J9 (TC.cond rfl (λh30=>?_) (λh30=>?_));refine D1 2 mixed ?_;refine PD 0 ?_;refine FD 1 0 be aR ?_;refine LR 2 Y3 (eT m rfl) ?_;refine FD 3 177 be aR ?_;refine LR 4 Y3 (eL m rfl) ?_;refine FD 7 178 be cw ?_;refine ta 8 rfl (aN (vs:=ints m.ballot.flat) rfl kf rfl cw rfl (λ_ h=>h.2.1) (aq m.ballot) (iY m 0 rfl (by decide) (whole (aq m.ballot)))) ?_;refine AL 5 ?_;refine aQ (cells:=#[(.int .i64 (m.kind)),(.int .i64 (m.epoch))]) (aa rfl) rfl rfl rfl iO oD rfl rfl rfl (by as_aux_lemma=>kernel_rfl) (λb38=>EN (AL 6 ?_));refine CQ jV (dP b4 (.slice none 0 0) ([]) (.slice (some ⟨b38,0,none⟩) (2) (2)) [m.kind,m.epoch] (by simp)) (SM [2,1]) (dG 0 rfl rfl rfl rfl) λvR HR hR=>?_
 obtain⟨u1,rfl,rfl⟩:=hR;refine EN (AL 9 ?_);refine CR zj (jt b4 u1 (bj [m.kind,m.epoch]) m.ballot (by(have:=aW [m.kind,m.epoch]);simp only[BallotT.flat,ViewT.flat,ChangeT.flat,am,aw,aB,ae]at*;omega)) ID λvR HR hR=>?_
 obtain⟨u2,rfl,rfl⟩:=hR;refine EN (DN (ag (ac J3 (sr λ_ J10=>PS ?_))));refine CR m5 (eh b4 u2 (bj [m.kind,m.epoch]++bj m.ballot.flat) (by(have:=aW [m.kind,m.epoch]);(have:=aW (m.ballot.flat));simp only[BallotT.flat,ViewT.flat,ChangeT.flat,am,aw,aB,ae]at*;omega)) ID λvR HR hR=>?_
 obtain⟨_,rfl,rfl⟩:=hR;revert vR;intro u3;refine PS ?_;refine nx J10 (ai (WK [2] (av rfl rfl ?_)));exact⟨_,rfl,congrArg (λb=>[ce u3 b 5]) (show(bj [m.kind,m.epoch]++bj m.ballot.flat)=dR m by simp[dR,bj, *])⟩;refine sr λ_ J11=>PS ?_
 refine ao ?_ ?_<;>intro h44;refine PS ?_;refine nx J11 (CY (D1 2 mixed ?_));refine PD 0 ?_;refine FD 1 0 be aR ?_;refine LR 2 Y3 (eT m rfl) ?_;refine FD 3 177 be aR ?_;refine LR 4 Y3 (eL m rfl) ?_;refine FD 7 178 be cw ?_;refine ta 8 rfl (aN (vs:=ints m.ballot.flat) rfl kf rfl cw rfl (λ_ h=>h.2.1) (aq m.ballot) (iY m 0 rfl (by decide) (whole (aq m.ballot)))) ?_;refine FD 10 180 be cw ?_;refine ta 11 rfl (aN (vs:=ints m.had.flat) rfl kf rfl cw rfl (λ_ h=>h.2.1) (aq m.had) (QY m 0 rfl (by decide) (whole (aq m.had)))) ?_;refine FD 13 182 be fq ?_;refine ta 14 rfl (aN (vs:=ints m.change.flat) rfl ng rfl fq rfl (λ_ h=>h.2.1) (aJ m.change) (nr m 0 rfl (by decide) (whole (aJ m.change)))) ?_;refine AL 5 ?_;refine aQ (cells:=#[(.int .i64 (m.kind)),(.int .i64 (m.epoch))]) (aa rfl) rfl rfl rfl iO oD rfl rfl rfl (by as_aux_lemma=>kernel_rfl) (λb50=>EN (AL 6 ?_));refine CQ jV (dP b4 (.slice none 0 0) ([]) (.slice (some ⟨b50,0,none⟩) (2) (2)) [m.kind,m.epoch] (by simp)) (SM [2,1]) (dG 0 rfl rfl rfl rfl) λvR HR hR=>?_
 obtain⟨u1,rfl,rfl⟩:=hR;refine EN (AL 9 ?_);refine CR zj (jt b4 u1 (bj [m.kind,m.epoch]) m.ballot (by(have:=aW [m.kind,m.epoch]);simp only[BallotT.flat,ViewT.flat,ChangeT.flat,am,aw,aB,ae]at*;omega)) ID λvR HR hR=>?_
 obtain⟨u2,rfl,rfl⟩:=hR;refine EN (AL 12 ?_);refine CR zj (jt b4 u2 (bj [m.kind,m.epoch]++bj m.ballot.flat) m.had (by(have:=aW [m.kind,m.epoch]);(have:=aW (m.ballot.flat));simp only[BallotT.flat,ViewT.flat,ChangeT.flat,am,aw,aB,ae]at*;omega)) ID λvR HR hR=>?_
 obtain⟨u3,rfl,rfl⟩:=hR;refine EN (AL 15 ?_);refine CR Jl (oE b4 u3 (bj [m.kind,m.epoch]++bj m.ballot.flat++bj m.had.flat) m.change (by(have:=aW [m.kind,m.epoch]);(have:=aW (m.ballot.flat));(have:=aW (m.had.flat));simp only[BallotT.flat,ViewT.flat,ChangeT.flat,am,aw,aB,ae]at*;omega)) ID λvR HR hR=>?_
 obtain⟨u4,rfl,rfl⟩:=hR;refine EN (DN (ag (ac J3 (sr λ_ J12=>PS ?_))));refine CR m5 (eh b4 u4 (bj [m.kind,m.epoch]++bj m.ballot.flat++bj m.had.flat++bj m.change.flat) (by(have:=aW [m.kind,m.epoch]);(have:=aW (m.ballot.flat));(have:=aW (m.had.flat));(have:=aW (m.change.flat));simp only[BallotT.flat,ViewT.flat,ChangeT.flat,am,aw,aB,ae]at*;omega)) ID λvR HR hR=>?_
 obtain⟨_,rfl,rfl⟩:=hR;revert vR;intro u5;refine PS ?_;refine nx J12 (ai (WK [2] (av rfl rfl ?_)));exact⟨_,rfl,congrArg (λb=>[ce u5 b 5]) (show(bj [m.kind,m.epoch]++bj m.ballot.flat++bj m.had.flat++bj m.change.flat)=dR m by simp[dR,fc,fk,bj, *])⟩;refine PS ?_;refine nx J11 (CN (sr λ_ J13=>PS ?_));refine ao ?_ ?_<;>intro h62;refine PS ?_;refine nx J13 (CY (D1 2 mixed ?_));refine PD 0 ?_;refine FD 1 0 be aR ?_;refine LR 2 Y3 (eT m rfl) ?_;refine FD 3 177 be aR ?_;refine LR 4 Y3 (eL m rfl) ?_;refine FD 7 178 be cw ?_;refine ta 8 rfl (aN (vs:=ints m.ballot.flat) rfl kf rfl cw rfl (λ_ h=>h.2.1) (aq m.ballot) (iY m 0 rfl (by decide) (whole (aq m.ballot)))) ?_;refine FD 10 182 be fq ?_;refine ta 11 rfl (aN (vs:=ints m.change.flat) rfl ng rfl fq rfl (λ_ h=>h.2.1) (aJ m.change) (nr m 0 rfl (by decide) (whole (aJ m.change)))) ?_;refine AL 5 ?_;refine aQ (cells:=#[(.int .i64 (m.kind)),(.int .i64 (m.epoch))]) (aa rfl) rfl rfl rfl iO oD rfl rfl rfl (by as_aux_lemma=>kernel_rfl) (λb68=>EN (AL 6 ?_));refine CQ jV (dP b4 (.slice none 0 0) ([]) (.slice (some ⟨b68,0,none⟩) (2) (2)) [m.kind,m.epoch] (by simp)) (SM [2,1]) (dG 0 rfl rfl rfl rfl) λvR HR hR=>?_
 obtain⟨u1,rfl,rfl⟩:=hR;refine EN (AL 9 ?_);refine CR zj (jt b4 u1 (bj [m.kind,m.epoch]) m.ballot (by(have:=aW [m.kind,m.epoch]);simp only[BallotT.flat,ViewT.flat,ChangeT.flat,am,aw,aB,ae]at*;omega)) ID λvR HR hR=>?_
 obtain⟨u2,rfl,rfl⟩:=hR;refine EN (AL 12 ?_);refine CR Jl (oE b4 u2 (bj [m.kind,m.epoch]++bj m.ballot.flat) m.change (by(have:=aW [m.kind,m.epoch]);(have:=aW (m.ballot.flat));simp only[BallotT.flat,ViewT.flat,ChangeT.flat,am,aw,aB,ae]at*;omega)) ID λvR HR hR=>?_
 obtain⟨u3,rfl,rfl⟩:=hR;refine EN (DN (ag (ac J3 (sr λ_ J14=>PS ?_))));refine CR m5 (eh b4 u3 (bj [m.kind,m.epoch]++bj m.ballot.flat++bj m.change.flat) (by(have:=aW [m.kind,m.epoch]);(have:=aW (m.ballot.flat));(have:=aW (m.change.flat));simp only[BallotT.flat,ViewT.flat,ChangeT.flat,am,aw,aB,ae]at*;omega)) ID λvR HR hR=>?_
 obtain⟨_,rfl,rfl⟩:=hR;revert vR;intro u4;refine PS ?_;refine nx J14 (ai (WK [2] (av rfl rfl ?_)));exact⟨_,rfl,congrArg (λb=>[ce u4 b 5]) (show(bj [m.kind,m.epoch]++bj m.ballot.flat++bj m.change.flat)=dR m by simp[dR,fc,fk,bj, *])⟩;refine PS ?_;refine nx J13 (CN (sr λ_ J15=>PS ?_));refine ao ?_ ?_<;>intro h77;refine PS ?_;refine nx J15 (CY (D1 2 mixed ?_));refine PD 0 ?_;refine FD 1 0 be aR ?_;refine LR 2 Y3 (eT m rfl) ?_;refine FD 5 185 be bg ?_;refine ta 6 rfl (aN (vs:=ints m.view.flat) rfl eH rfl bg rfl (λ_ h=>h.2.1) (an m.view) (vF m 0 rfl (by decide) (whole (an m.view)))) ?_;refine AL 3 ?_;refine aQ (cells:=#[(.int .i64 (m.kind))]) (aa rfl) rfl rfl rfl iO oD rfl rfl rfl (by as_aux_lemma=>kernel_rfl) (λb81=>EN (AL 4 ?_));refine CQ jV (dP b4 (.slice none 0 0) ([]) (.slice (some ⟨b81,0,none⟩) (1) (1)) [m.kind] (by simp)) (SM [2,1]) (dG 0 rfl rfl rfl rfl) λvR HR hR=>?_
 obtain⟨u1,rfl,rfl⟩:=hR;refine EN (AL 7 ?_);refine CR Jk (rk b4 u1 (bj [m.kind]) m.view (by(have:=aW [m.kind]);simp only[BallotT.flat,ViewT.flat,ChangeT.flat,am,aw,aB,ae]at*;omega)) ID λvR HR hR=>?_
 obtain⟨u2,rfl,rfl⟩:=hR;refine EN (DN (ag (ac J3 (sr λ_ J16=>PS ?_))));refine CR m5 (eh b4 u2 (bj [m.kind]++bj m.view.flat) (by(have:=aW [m.kind]);(have:=aW (m.view.flat));simp only[BallotT.flat,ViewT.flat,ChangeT.flat,am,aw,aB,ae]at*;omega)) ID λvR HR hR=>?_
 obtain⟨_,rfl,rfl⟩:=hR;revert vR;intro u3;refine PS ?_;refine nx J16 (ai (WK [2] (av rfl rfl ?_)));exact⟨_,rfl,congrArg (λb=>[ce u3 b 5]) (show(bj [m.kind]++bj m.view.flat)=dR m by simp[dR,fc,fk,bj, *])⟩;refine PS ?_;refine nx J15 (CN (sr λ_ J17=>PS ?_));refine ao ?_ ?_<;>intro h87;refine PS ?_;refine nx J17 (CY (D1 2 mixed ?_));refine PD 0 ?_;refine FD 1 0 be aR ?_;refine LR 2 Y3 (eT m rfl) ?_;refine FD 3 1 be aR ?_;refine LR 4 Y3 (cn m rfl) ?_;refine FD 7 185 be bg ?_;refine ta 8 rfl (aN (vs:=ints m.view.flat) rfl eH rfl bg rfl (λ_ h=>h.2.1) (an m.view) (vF m 0 rfl (by decide) (whole (an m.view)))) ?_;refine AL 5 ?_;refine aQ (cells:=#[(.int .i64 (m.kind)),(.int .i64 (m.whose))]) (aa rfl) rfl rfl rfl iO oD rfl rfl rfl (by as_aux_lemma=>kernel_rfl) (λb93=>EN (AL 6 ?_));refine CQ jV (dP b4 (.slice none 0 0) ([]) (.slice (some ⟨b93,0,none⟩) (2) (2)) [m.kind,m.whose] (by simp)) (SM [2,1]) (dG 0 rfl rfl rfl rfl) λvR HR hR=>?_
 obtain⟨u1,rfl,rfl⟩:=hR;refine EN (AL 9 ?_);refine CR Jk (rk b4 u1 (bj [m.kind,m.whose]) m.view (by(have:=aW [m.kind,m.whose]);simp only[BallotT.flat,ViewT.flat,ChangeT.flat,am,aw,aB,ae]at*;omega)) ID λvR HR hR=>?_
 obtain⟨u2,rfl,rfl⟩:=hR;refine EN (DN (ag (ac J3 (sr λ_ J18=>PS ?_))));refine CR m5 (eh b4 u2 (bj [m.kind,m.whose]++bj m.view.flat) (by(have:=aW [m.kind,m.whose]);(have:=aW (m.view.flat));simp only[BallotT.flat,ViewT.flat,ChangeT.flat,am,aw,aB,ae]at*;omega)) ID λvR HR hR=>?_
 obtain⟨_,rfl,rfl⟩:=hR;revert vR;intro u3;refine PS ?_;refine nx J18 (ai (WK [2] (av rfl rfl ?_)));exact⟨_,rfl,congrArg (λb=>[ce u3 b 5]) (show(bj [m.kind,m.whose]++bj m.view.flat)=dR m by simp[dR,fc,fk,bj, *])⟩;refine PS ?_;refine nx J17 (CN (aT (ag (ac J3 (sr λ_ J19=>PS ?_)))));refine CR m5 (eh b4 (.slice none 0 0) ([]) (by simp)) (SM [1,0]) λvR HR hR=>?_
 obtain⟨_,rfl,rfl⟩:=hR;revert vR;intro u1;refine PS ?_;refine nx J19 (ai (WK [2] (av rfl rfl ?_)));exact⟨_,rfl,congrArg (λb=>[ce u1 b 5]) (show([]:List UInt8)=dR m by simp[dR,bj, *])⟩;refine sr λ_ J20=>P2 ?_
 refine ao ?_ ?_<;>intro h30;refine nx J20 (CY (aT ?_))
 exact aE
  (aK (aK (aK (aK (bA rfl (by simp[fk, *]) SB)))))
  (λ_ s=>s)
  (tl9 (():Unit) trivial)
 refine nx J20 (CN (ad (PS ?_)));refine ao ?_ ?_<;>intro h32;refine PS ?_;refine ap ?_
 exact aE
  (aK (aK (aK (aK (bA rfl (by simp[fk, *]) SB)))))
  (λ_ s=>s)
  (tl9 (():Unit) trivial)
 refine PS ?_;refine ap ?_
 exact aE
  (aK (aK (aK (aK (bA rfl (by simp[fk, *]) SB)))))
  (λ_ s=>s)
  (tl9 (():Unit) trivial)
 refine sr λ_ J21=>P2 ?_
 refine ao ?_ ?_<;>intro h7;refine nx J21 (CY (aT ?_))
 exact aE
  (aK (aK (aK (aK (bA rfl (by simp[fc, *]) SB)))))
  (λ_ s=>s)
  (tl5 (():Unit) trivial)
 refine nx J21 (CN (sr λ_ J22=>P2 ?_));refine ao ?_ ?_<;>intro h7;refine nx J22 (CY (aT ?_))
 exact aE
  (aK (aK (aK (aK (bA rfl (by simp[fc, *]) SB)))))
  (λ_ s=>s)
  (tl5 (():Unit) trivial)
 refine nx J22 (CN (ad (PS ?_)));refine ao ?_ ?_<;>intro h10;refine PS ?_;refine ap ?_
 exact aE
  (aK (aK (aK (aK (bA rfl (by simp[fc, *]) SB)))))
  (λ_ s=>s)
  (tl5 (():Unit) trivial)
 refine PS ?_;refine ap ?_
 exact aE
  (aK (aK (aK (aK (bA rfl (by simp[fc, *]) SB)))))
  (λ_ s=>s)
  (tl5 (():Unit) trivial)
theorem Cj(m:RecT):
 DT 156 #[(.agg (ints m.flat).toArray)] T0 [] (dm (λr' H=>∃u,r'=u∧H=[ce u (kn m) 5])):=by
 refine BD 77 Tryz.func156 rfl rfl rfl λw0 F hF=>sr λ_ J1=>XY (ints m.flat) λb1=>?_
 refine PS ?_;refine nx J1 (sr λ_ J2=>XA NV λb4=>?_);refine TL.ownNil 5 (λon=>?_);clear on;refine PS ?_;refine nx J2 (ab λ_ J3=>sr λ_ J4=>FA 0 ef aR ?_);refine LU 2 Y3 (kF m rfl) ?_;refine nx J4 (au (sr λ_ J5=>PS ?_));refine ao ?_ ?_<;>intro h8;refine PS ?_;refine nx J5 (CY (D1 2 mixed ?_));refine PD 0 ?_;refine FD 1 0 ef aR ?_;refine LR 2 Y3 (kF m rfl) ?_;refine FD 5 2 ef ba ?_;refine ta 6 rfl (aN (vs:=ints m.row.flat) rfl dV rfl ba rfl (λ_ h=>h.2.1) (aj m.row) (sa m 0 rfl (by decide) (whole (aj m.row)))) ?_;refine AL 3 ?_;refine aQ (cells:=#[(.int .i64 (m.kind))]) (aa rfl) rfl rfl rfl iO oD rfl rfl rfl (by as_aux_lemma=>kernel_rfl) (λb12=>EN (AL 4 ?_));refine CQ jV (dP b4 (.slice none 0 0) ([]) (.slice (some ⟨b12,0,none⟩) (1) (1)) [m.kind] (by simp)) (SM [2,1]) (dG 0 rfl rfl rfl rfl) λvR HR hR=>?_
 obtain⟨u1,rfl,rfl⟩:=hR;refine EN (AL 7 ?_);refine CR Jm (tx b4 u1 (bj [m.kind]) m.row (by(have:=aW [m.kind]);simp only[BallotT.flat,ViewT.flat,ChangeT.flat,am,aw,aB,ae]at*;omega)) ID λvR HR hR=>?_
 obtain⟨u2,rfl,rfl⟩:=hR;refine EN (DN (ag (ac J3 (sr λ_ J6=>PS ?_))));refine CR m5 (eh b4 u2 (bj [m.kind]++iq m.row) (by(have:=aW [m.kind]);(have:=io m.row);simp only[BallotT.flat,ViewT.flat,ChangeT.flat,am,aw,aB,ae]at*;omega)) ID λvR HR hR=>?_
 obtain⟨_,rfl,rfl⟩:=hR;revert vR;intro u3;refine PS ?_;refine nx J6 (ai (WK [2] (av rfl rfl ?_)));exact⟨_,rfl,congrArg (λb=>[ce u3 b 5]) (show(bj [m.kind]++iq m.row)=kn m by simp[kn,fc,fk,bj, *])⟩;refine PS ?_;refine nx J5 (CN (sr λ_ J7=>PS ?_));refine ao ?_ ?_<;>intro h18;refine PS ?_;refine nx J7 (CY (D1 2 mixed ?_));refine PD 0 ?_;refine FD 1 0 ef aR ?_;refine LR 2 Y3 (kF m rfl) ?_;refine FD 3 1 ef aR ?_;refine LR 4 Y3 (Gt m rfl) ?_;refine FD 7 2 ef ba ?_;refine ta 8 rfl (aN (vs:=ints m.row.flat) rfl dV rfl ba rfl (λ_ h=>h.2.1) (aj m.row) (sa m 0 rfl (by decide) (whole (aj m.row)))) ?_;refine AL 5 ?_;refine aQ (cells:=#[(.int .i64 (m.kind)),(.int .i64 (m.whose))]) (aa rfl) rfl rfl rfl iO oD rfl rfl rfl (by as_aux_lemma=>kernel_rfl) (λb24=>EN (AL 6 ?_));refine CQ jV (dP b4 (.slice none 0 0) ([]) (.slice (some ⟨b24,0,none⟩) (2) (2)) [m.kind,m.whose] (by simp)) (SM [2,1]) (dG 0 rfl rfl rfl rfl) λvR HR hR=>?_
 obtain⟨u1,rfl,rfl⟩:=hR;refine EN (AL 9 ?_);refine CR Jm (tx b4 u1 (bj [m.kind,m.whose]) m.row (by(have:=aW [m.kind,m.whose]);simp only[BallotT.flat,ViewT.flat,ChangeT.flat,am,aw,aB,ae]at*;omega)) ID λvR HR hR=>?_
 obtain⟨u2,rfl,rfl⟩:=hR;refine EN (DN (ag (ac J3 (sr λ_ J8=>PS ?_))));refine CR m5 (eh b4 u2 (bj [m.kind,m.whose]++iq m.row) (by(have:=aW [m.kind,m.whose]);(have:=io m.row);simp only[BallotT.flat,ViewT.flat,ChangeT.flat,am,aw,aB,ae]at*;omega)) ID λvR HR hR=>?_
 obtain⟨_,rfl,rfl⟩:=hR;revert vR;intro u3;refine PS ?_;refine nx J8 (ai (WK [2] (av rfl rfl ?_)));exact⟨_,rfl,congrArg (λb=>[ce u3 b 5]) (show(bj [m.kind,m.whose]++iq m.row)=kn m by simp[kn,fc,fk,bj, *])⟩;refine PS ?_;refine nx J7 (CN (sr λ_ J9=>PS ?_));refine ao ?_ ?_<;>intro h30;refine PS ?_;refine nx J9 (CY (ad (PS ?_)));refine FA 0 ef aR ?_;refine LU 2 Y3 (kF m rfl) ?_;refine FA 1 ef aR ?_;refine LU 2 Y3 (Gt m rfl) ?_;refine aQ (cells:=#[(.int .i64 (m.kind)),(.int .i64 (m.whose))]) (aa rfl) rfl rfl rfl iO oD rfl rfl rfl (by as_aux_lemma=>kernel_rfl) (λb36=>CQ jV (dP b4 (.slice none 0 0) ([]) (.slice (some ⟨b36,0,none⟩) (2) (2)) [m.kind,m.whose] (by simp)) (SM [2,1]) (dG 0 rfl rfl rfl rfl) λvR HR hR=>?_);obtain⟨u1,rfl,rfl⟩:=hR;refine ap (ag (ac J3 (sr λ_ J10=>PS ?_)));refine CR m5 (eh b4 u1 (bj [m.kind,m.whose]) (by(have:=aW [m.kind,m.whose]);simp only[BallotT.flat,ViewT.flat,ChangeT.flat,am,aw,aB,ae]at*;omega)) ID λvR HR hR=>?_
 obtain⟨_,rfl,rfl⟩:=hR;revert vR;intro u2;refine PS ?_;refine nx J10 (ai (WK [2] (av rfl rfl ?_)));exact⟨_,rfl,congrArg (λb=>[ce u2 b 5]) (show(bj [m.kind,m.whose])=kn m by simp[kn,fc,fk,bj, *])⟩;refine PS ?_;refine nx J9 (CN (sr λ_ J11=>PS ?_));refine ao ?_ ?_<;>intro h39;refine PS ?_;refine nx J11 (CY (D1 2 mixed ?_));refine PD 0 ?_;refine FD 1 0 ef aR ?_;refine LR 2 Y3 (kF m rfl) ?_;refine FD 3 176 ef aR ?_;refine LR 4 Y3 (RecT.at_epoch m rfl) ?_;refine FD 7 177 ef cw ?_;refine ta 8 rfl (aN (vs:=ints m.ballot.flat) rfl kf rfl cw rfl (λ_ h=>h.2.1) (aq m.ballot) (qW m 0 rfl (by decide) (whole (aq m.ballot)))) ?_;refine AL 5 ?_;refine aQ (cells:=#[(.int .i64 (m.kind)),(.int .i64 (m.epoch))]) (aa rfl) rfl rfl rfl iO oD rfl rfl rfl (by as_aux_lemma=>kernel_rfl) (λb45=>EN (AL 6 ?_));refine CQ jV (dP b4 (.slice none 0 0) ([]) (.slice (some ⟨b45,0,none⟩) (2) (2)) [m.kind,m.epoch] (by simp)) (SM [2,1]) (dG 0 rfl rfl rfl rfl) λvR HR hR=>?_
 obtain⟨u1,rfl,rfl⟩:=hR;refine EN (AL 9 ?_);refine CR zj (jt b4 u1 (bj [m.kind,m.epoch]) m.ballot (by(have:=aW [m.kind,m.epoch]);simp only[BallotT.flat,ViewT.flat,ChangeT.flat,am,aw,aB,ae]at*;omega)) ID λvR HR hR=>?_
 obtain⟨u2,rfl,rfl⟩:=hR;refine EN (DN (ag (ac J3 (sr λ_ J12=>PS ?_))));refine CR m5 (eh b4 u2 (bj [m.kind,m.epoch]++bj m.ballot.flat) (by(have:=aW [m.kind,m.epoch]);(have:=aW (m.ballot.flat));simp only[BallotT.flat,ViewT.flat,ChangeT.flat,am,aw,aB,ae]at*;omega)) ID λvR HR hR=>?_
 obtain⟨_,rfl,rfl⟩:=hR;revert vR;intro u3;refine PS ?_;refine nx J12 (ai (WK [2] (av rfl rfl ?_)));exact⟨_,rfl,congrArg (λb=>[ce u3 b 5]) (show(bj [m.kind,m.epoch]++bj m.ballot.flat)=kn m by simp[kn,fc,fk,bj, *])⟩;refine PS ?_;refine nx J11 (CN (sr λ_ J13=>PS ?_));refine ao ?_ ?_<;>intro h51;refine PS ?_;refine nx J13 (CY (D1 2 mixed ?_));refine PD 0 ?_;refine FD 1 0 ef aR ?_;refine LR 2 Y3 (kF m rfl) ?_;refine FD 3 176 ef aR ?_;refine LR 4 Y3 (RecT.at_epoch m rfl) ?_;refine FD 7 177 ef cw ?_;refine ta 8 rfl (aN (vs:=ints m.ballot.flat) rfl kf rfl cw rfl (λ_ h=>h.2.1) (aq m.ballot) (qW m 0 rfl (by decide) (whole (aq m.ballot)))) ?_;refine FD 10 179 ef fq ?_;refine ta 11 rfl (aN (vs:=ints m.change.flat) rfl ng rfl fq rfl (λ_ h=>h.2.1) (aJ m.change) (NJ m 0 rfl (by decide) (whole (aJ m.change)))) ?_;refine AL 5 ?_;refine aQ (cells:=#[(.int .i64 (m.kind)),(.int .i64 (m.epoch))]) (aa rfl) rfl rfl rfl iO oD rfl rfl rfl (by as_aux_lemma=>kernel_rfl) (λb57=>EN (AL 6 ?_));refine CQ jV (dP b4 (.slice none 0 0) ([]) (.slice (some ⟨b57,0,none⟩) (2) (2)) [m.kind,m.epoch] (by simp)) (SM [2,1]) (dG 0 rfl rfl rfl rfl) λvR HR hR=>?_
 obtain⟨u1,rfl,rfl⟩:=hR;refine EN (AL 9 ?_);refine CR zj (jt b4 u1 (bj [m.kind,m.epoch]) m.ballot (by(have:=aW [m.kind,m.epoch]);simp only[BallotT.flat,ViewT.flat,ChangeT.flat,am,aw,aB,ae]at*;omega)) ID λvR HR hR=>?_
 obtain⟨u2,rfl,rfl⟩:=hR;refine EN (AL 12 ?_);refine CR Jl (oE b4 u2 (bj [m.kind,m.epoch]++bj m.ballot.flat) m.change (by(have:=aW [m.kind,m.epoch]);(have:=aW (m.ballot.flat));simp only[BallotT.flat,ViewT.flat,ChangeT.flat,am,aw,aB,ae]at*;omega)) ID λvR HR hR=>?_
 obtain⟨u3,rfl,rfl⟩:=hR;refine EN (DN (ag (ac J3 (sr λ_ J14=>PS ?_))));refine CR m5 (eh b4 u3 (bj [m.kind,m.epoch]++bj m.ballot.flat++bj m.change.flat) (by(have:=aW [m.kind,m.epoch]);(have:=aW (m.ballot.flat));(have:=aW (m.change.flat));simp only[BallotT.flat,ViewT.flat,ChangeT.flat,am,aw,aB,ae]at*;omega)) ID λvR HR hR=>?_
 obtain⟨_,rfl,rfl⟩:=hR;revert vR;intro u4;refine PS ?_;refine nx J14 (ai (WK [2] (av rfl rfl ?_)));exact⟨_,rfl,congrArg (λb=>[ce u4 b 5]) (show(bj [m.kind,m.epoch]++bj m.ballot.flat++bj m.change.flat)=kn m by simp[kn,fc,fk,bj, *])⟩;refine PS ?_;refine nx J13 (CN (sr λ_ J15=>PS ?_));refine ao ?_ ?_<;>intro h66;refine PS ?_;refine nx J15 (CY (D1 2 mixed ?_));refine PD 0 ?_;refine FD 1 0 ef aR ?_;refine LR 2 Y3 (kF m rfl) ?_;refine FD 5 182 ef bg ?_;refine ta 6 rfl (aN (vs:=ints m.view.flat) rfl eH rfl bg rfl (λ_ h=>h.2.1) (an m.view) (QC m 0 rfl (by decide) (whole (an m.view)))) ?_;refine AL 3 ?_;refine aQ (cells:=#[(.int .i64 (m.kind))]) (aa rfl) rfl rfl rfl iO oD rfl rfl rfl (by as_aux_lemma=>kernel_rfl) (λb70=>EN (AL 4 ?_));refine CQ jV (dP b4 (.slice none 0 0) ([]) (.slice (some ⟨b70,0,none⟩) (1) (1)) [m.kind] (by simp)) (SM [2,1]) (dG 0 rfl rfl rfl rfl) λvR HR hR=>?_
 obtain⟨u1,rfl,rfl⟩:=hR;refine EN (AL 7 ?_);refine CR Jk (rk b4 u1 (bj [m.kind]) m.view (by(have:=aW [m.kind]);simp only[BallotT.flat,ViewT.flat,ChangeT.flat,am,aw,aB,ae]at*;omega)) ID λvR HR hR=>?_
 obtain⟨u2,rfl,rfl⟩:=hR;refine EN (DN (ag (ac J3 (sr λ_ J16=>PS ?_))));refine CR m5 (eh b4 u2 (bj [m.kind]++bj m.view.flat) (by(have:=aW [m.kind]);(have:=aW (m.view.flat));simp only[BallotT.flat,ViewT.flat,ChangeT.flat,am,aw,aB,ae]at*;omega)) ID λvR HR hR=>?_
 obtain⟨_,rfl,rfl⟩:=hR;revert vR;intro u3;refine PS ?_;refine nx J16 (ai (WK [2] (av rfl rfl ?_)));exact⟨_,rfl,congrArg (λb=>[ce u3 b 5]) (show(bj [m.kind]++bj m.view.flat)=kn m by simp[kn,fc,fk,bj, *])⟩;refine PS ?_;refine nx J15 (CN (aT (ag (ac J3 (sr λ_ J17=>PS ?_)))));refine CR m5 (eh b4 (.slice none 0 0) ([]) (by simp)) (SM [1,0]) λvR HR hR=>?_
 obtain⟨_,rfl,rfl⟩:=hR;revert vR;intro u1;refine PS ?_;refine nx J17 (ai (WK [2] (av rfl rfl ?_)));exact⟨_,rfl,congrArg (λb=>[ce u1 b 5]) (show([]:List UInt8)=kn m by simp[kn,fc,fk,bj, *])⟩
open Dsk Wal
theorem ReplyT.flat_length(x:ReplyT):x.flat.length=3:=rfl
abbrev Il:= @ReplyT.flat_length
theorem qE(who:Int)(hm:cM who=true):DT 127 #[.int .i64 who] T0 [] (dm (λr' H=>∃u,r'=u∧H=[own u 2 [.int .i64 ((who+1)%5), .int .i64 ((who+2)%5)] 3 1])):=by
 have:=pP who;rw[show gV who=[(who+1)%5,(who+2)%5]by rw[gV,if_pos hm]]at this;exact this
theorem Ev(r:Nat)(x:RepT)(op err val:Int)(rs:List ReplyT)(hrs:rs.length≤1000000):
 DT 74 #[(.pointer (some ⟨r,0,none⟩)),(.int .i64 (op)),(.int .i64 (err)),(.int .i64 (val))] T0 [ah r (RepT.cells x) 87,own x.replies ((rs).length) (ints (List.flatMap ReplyT.flat (rs))) 47 3] (dm (λ_ H=>∃v',v'.oneCell'=true∧H=[ah r (RepT.cells {x with replies:=v'}) 87,own v' (rs++[ReplyT.mk op err val]).length (ints (List.flatMap ReplyT.flat (rs++[ReplyT.mk op err val]))) 47 3])):=by
 refine BD 21 Tryz.func74 rfl rfl rfl λw0 F hF=>ad (P3 ?_)
 refine FA 1942 de yk ?_;refine LT 0 DI x.replies ?_ (hc:=by exact RepT.at_replies x rfl);refine P3 ?_;refine tp (yQ (cs:=ints (ReplyT.mk op err val).flat) (segs:=[[Value.int .i64 0],[Value.int .i64 0],[Value.int .i64 0]]) (res:=[[Value.int .i64 op],[Value.int .i64 err],[Value.int .i64 val]]) (parts:=[(0,[Value.int .i64 op]),(1,[Value.int .i64 err]),(2,[Value.int .i64 val])]) rfl rfl Ii (by kernel_rfl) (by kernel_rfl) rfl (fa rfl rfl (fa rfl rfl (fa rfl rfl lM))) (L5 (ReplyT.mk op err val)).symm) ?_;refine aQ (cells:=(ints (ReplyT.mk op err val).flat).toArray) (aa rfl) rfl rfl rfl DI HT rfl rfl rfl (kd (pD (ReplyT.mk op err val)) (by simp)) (λb17=>?_);change TL _ _ _ _ _ _ _ _ _ [ah b17 (ints (ReplyT.mk op err val).flat) 47,ah r (RepT.cells x) 87,own x.replies ((rs).length) (ints (List.flatMap ReplyT.flat (rs))) 47 3];refine cj (k:=2) (news:=ints (ReplyT.mk op err val).flat) (nn':=(rs++[ReplyT.mk op err val]).length) (xs':=ints (List.flatMap ReplyT.flat (rs++[ReplyT.mk op err val]))) (aa rfl) rfl rfl rfl DI HT rfl rfl rfl rfl rfl rfl (λ_ _=>gW (pD _) (RO 0) (by rw[aV,dC])) (bk _) (by simp only[maxLen];omega) (by omega) (by simp) (by simp[ints]) (λv18 ov18=>PS ?_);refine FA 1942 de yk ?_;exact bz (i:=1) (aa rfl) rfl rfl rfl rfl ov18 yk rfl rfl (LB (cT _)) (RepT.set_replies x rfl _) rfl (ap (WK [1,1] (bu rfl ⟨_,ov18,rfl⟩)))
theorem Hb(r:Nat)(x:RepT):
 DT 13 #[(.pointer (some ⟨r,0,none⟩))] T0 [ah r (RepT.cells x) 87] (RI (.agg (ints x.own.flat).toArray) [ah r (RepT.cells x) 87]):=by
 refine BD 7 Tryz.func13 rfl rfl rfl λw0 F hF=>sr λ_ J1=>XZ uB (ints RowT.zero.flat) λb2=>?_
 refine nx J1 (sr λ_ J2=>P2 ?_);refine FA 9 de ba ?_;refine LV 1 dV ba aj DP (y:=x.own) ?_;refine SW 0 ba aj ?_;refine nx J2 (ai (RC 0 [1] dV ba (aj _) ?_));exact⟨rfl,rfl⟩
theorem Ex(r:Nat)(x:RepT):
 DT 12 #[(.pointer (some ⟨r,0,none⟩))] T0 [ah r (RepT.cells x) 87] (RI (.agg (ints x.view.flat).toArray) [ah r (RepT.cells x) 87]):=by
 refine BD 7 Tryz.func12 rfl rfl rfl λw0 F hF=>sr λ_ J1=>XZ sh (ints ViewT.zero.flat) λb2=>?_
 refine nx J1 (sr λ_ J2=>P2 ?_);refine FA 2 de bg ?_;refine LV 1 eH bg an cS (y:=x.view) ?_;refine SW 0 bg an ?_;refine nx J2 (ai (RC 0 [1] eH bg (an _) ?_));exact⟨rfl,rfl⟩
theorem wX(r:Nat)(x:RepT)(who:Int):
 DT 33 #[(.pointer (some ⟨r,0,none⟩)),(.int .i64 (who))] T0 [ah r (RepT.cells x) 87] (RI (.tuple #[.agg (ints (dr x.mirror who).flat).toArray, .bool (fe x.mirror who)]) [ah r (RepT.cells x) 87]):=by
 refine BD 16 Tryz.func33 rfl rfl rfl λw0 F hF=>sr λ_ J1=>XZ uB (ints RowT.zero.flat) λb4=>?_
 refine PS ?_;refine nx J1 (ab λ_ J2=>D0 mixed ?_);refine PD 0 ?_;refine PD 1 ?_;refine FD 2 183 de tJ ?_;refine PD 3 ?_;refine PD 5 ?_;refine PD 6 ?_;refine FD 7 183 de tJ ?_;refine PD 8 ?_;refine AL 4 ?_;refine CE Ji (lS r 183 87 (λu=>RepT.cells {x with mirror:=u}) (dY x) x.mirror who) (SM [1]) ?_;refine EN (AL 9 ?_);refine CE Nk (m7 r 183 87 (λu=>RepT.cells {x with mirror:=u}) (dY x) x.mirror who) ID ?_;refine EN (AL 10 ?_);refine SW 1 ba aj ?_;refine EN (PD 11 ?_);refine DN (ac J2 (ai (RT 1 [0] dV ba (aj _) ?_)));exact⟨rfl,rfl⟩
theorem AA(r:Nat)(x:RepT)(rs:List ReplyT)(hrs:rs.length≤1000000):
 DT 31 #[(.pointer (some ⟨r,0,none⟩))] T0 [ah r (RepT.cells x) 87,own x.replies ((rs).length) (ints (List.flatMap ReplyT.flat (rs))) 47 3] (dm (λr' H=>∃u,r'=u∧H=[ah r (RepT.cells x) 87,own x.replies rs.length (ints (List.flatMap ReplyT.flat rs)) 47 3,own u rs.length (ints (List.flatMap ReplyT.flat rs)) 47 3])):=by
 refine BD 8 Tryz.func31 rfl rfl rfl λw0 F hF=>sr λ_ J1=>Pg 47 3 (λ_=>PS ?_)
 refine nx J1 (sr λ_ J2=>P2 ?_);refine FA 1942 de yk ?_;refine LT 1 DI x.replies ?_ (hc:=by exact RepT.at_replies x rfl);refine cj (k:=0) (news:=ints (List.flatMap ReplyT.flat rs)) (nn':=rs.length) (xs':=ints (List.flatMap ReplyT.flat rs)) (aa rfl) rfl rfl rfl DI HT rfl rfl rfl rfl rfl rfl (λ_ s=>Kr 2 rfl rfl s) (bk _) (by simp only[maxLen];omega) (by omega) (by simp) (by simp) (λv7 ov7=>PS ?_);exact nx J2 (ai (WK [1,1,0] (av rfl rfl ⟨_,rfl,rfl⟩)))
end Go.Proofs.YtfocodjhmkokpaaGreatDoor
end

section
namespace Api
open Go Leg Codec Dsk Wal
def ki(w:Int)(x:RowT):RecT:= {RecT.zero with kind:=1,whose:=w,row:=x}
def jv(w:Int):RecT:= {RecT.zero with kind:=2,whose:=w}
def lw(v:ViewT):RecT:= {RecT.zero with kind:=5,view:=v}
def s5(v:Int):MsgT:= {MsgT.zero with kind:=1,version:=v}
def g9(w:Int)(x:RowT):MsgT:= {MsgT.zero with kind:=9,whose:=w,row:=x}
section
variable {x:RepT} {from' w:Int} {y:RowT} {recs:List (List UInt8)}
end
section
variable {x:RepT} {from' w:Int} {v:ViewT} {recs:List (List UInt8)}
end
end Api
end

section
namespace Go.Proofs.YtfocodjhmkokpaaGreatDoor
open Go Leg Codec Api Dsk Wal
theorem Hj(r:Nat)(x:RepT)(o:OpT):
 DT 73 #[(.pointer (some ⟨r,0,none⟩)),(.agg (ints o.flat).toArray)] T0 [ah r (RepT.cells x) 87] (RI (.tuple #[.agg (ints (iL x o).1.flat).toArray, .int .i64 (iL x o).2.1, .int .i64 (iL x o).2.2]) [ah r (RepT.cells x) 87]):=by
 refine BD 121 Tryz.func73 rfl rfl rfl λw0 F hF=>sr λ_ J1=>XY (ints o.flat) λb3=>?_
 refine XZ uB (ints RowT.zero.flat) λb4=>?_
 refine P2 ?_;refine nx J1 (ab λ_ J2=>ab λ_ J3=>D1 2 mixed ?_);refine PD 0 ?_;refine PD 1 ?_;refine FD 2 2 de bg ?_;refine ta 3 rfl (aN (vs:=ints x.view.flat) rfl eH rfl bg rfl (λ_ h=>h.2.1) (an x.view) (fU x 0 rfl (by decide) (whole (an x.view)))) ?_;refine PD 4 ?_;refine PD 5 ?_;refine FD 6 0 de aR ?_;refine LR 7 Y3 (cF x rfl) ?_;refine AL 8 ?_;refine CE qa (dE x.view x.id) ID ?_;refine bc ?_ ?_<;>intro h17;refine EN (PD 9 ?_);refine DN (ac J3 (CN (qx J2 (ab λ_ J4=>sr λ_ J5=>FA 3 ff aR ?_))));refine LU 1 Y3 (pH o rfl) ?_;refine PS ?_;refine ao ?_ ?_<;>intro h22;have hkb:na o.key=false:=decide_eq_false (by omega);refine PS ?_
 iterate 3 refine UT ?_
 refine PS ?_;refine nx J5 (CY (sr λ_ J6=>BV ((ints RowT.zero.flat).toArray) ?_));refine SW 0 ba aj ?_;refine P2 ?_;refine nx J6 (ai (af (RU 0 [2] dV ba (aj _) ?_)));exact⟨by simp[iL,gB, *],rfl⟩;refine PS ?_;refine FA 3 ff aR ?_;refine LU 1 Y3 (pH o rfl) ?_;refine PS ?_;refine ao ?_ ?_<;>intro h26;have hkb:na o.key=false:=decide_eq_false (by omega);refine PS ?_;refine nx J5 (CY (sr λ_ J7=>BV ((ints RowT.zero.flat).toArray) ?_));refine SW 0 ba aj ?_;refine P2 ?_;refine nx J7 (ai (af (RU 0 [2] dV ba (aj _) ?_)));exact⟨by simp[iL,gB, *],rfl⟩;have hkb:na o.key=true:=decide_eq_true (by omega);refine PS ?_;refine nx J5 (CN (qx J4 (ab λ_ J8=>sr λ_ J9=>FA 0 ff aR ?_)));refine LU 1 Y3 (cN o rfl) ?_;refine PS ?_;refine ao ?_ ?_<;>intro h31;refine nx J9 (CY (ab λ_ J10=>D1 1 mixed ?_));refine ta 0 rfl (j6 (cells:=(ints RowT.zero.flat).toArray) rfl rfl (by as_aux_lemma=>kernel_rfl)) ?_;refine PD 1 ?_;refine PD 2 ?_;refine FD 3 1068 de Ei ?_;refine FD 4 3 ff aR ?_;refine LR 5 Y3 (pH o rfl) ?_;refine AL 6 ?_;refine CE Oz (qu r 1068 87 (λu=>RepT.cells {x with book:=u}) (gM x) x.book o.key) (SM [2]) ?_;refine EN (AL 7 ?_);refine SW 1 ba aj ?_;refine EN (PD 8 ?_);refine PD 9 ?_;refine DN (ac J10 (ai (af (RU 1 [0] dV ba (aj _) ?_))));exact⟨by simp[iL,gB, *],rfl⟩;refine nx J9 (CN (qx J8 (ab λ_ J11=>sr λ_ J12=>P2 ?_)));refine FA 1938 de lc ?_;refine LU 2 Y4 (yM x rfl) ?_;refine bc ?_ ?_<;>intro h42
 refine nx J12 (CY (sr λ_ J13=>BV ((ints RowT.zero.flat).toArray) ?_));refine SW 0 ba aj ?_;refine P2 ?_;refine nx J13 (ai (af (RU 0 [2] dV ba (aj _) ?_)));exact⟨by simp[iL,gB, *],rfl⟩;refine nx J12 (CN (qx J11 (sr λ_ J14=>XZ uB (ints RowT.zero.flat) λb7=>?_)));refine nx J14 (sr λ_ J15=>PS ?_);refine nx J15 (ab λ_ J16=>sr λ_ J17=>FA 0 ff aR ?_);refine LU 2 Y3 (cN o rfl) ?_;refine nx J17 (au (sr λ_ J18=>PS ?_));refine ao ?_ ?_<;>intro h47;refine PS ?_;refine nx J18 (CY (D2 3 2 mixed ?_));refine PD 0 ?_;refine PD 1 ?_;refine FD 2 9 de ba ?_;refine ta 3 rfl (aN (vs:=ints x.own.flat) rfl dV rfl ba rfl (λ_ h=>h.2.1) (aj x.own) (yK x 0 rfl (by decide) (whole (aj x.own)))) ?_;refine FD 4 3 ff aR ?_;refine LR 5 Y3 (pH o rfl) ?_;refine FD 6 4 ff aR ?_;refine LR 7 Y3 (tu o rfl) ?_;refine AL 8 ?_;refine CE OY (Cf x.own o.key o.n) ID ?_;refine EN (PD 9 ?_);refine PD 10 ?_;refine PD 11 ?_;refine AL 12 ?_;refine SW 0 ba aj ?_;refine EN (PD 13 ?_);refine DN (ag (ac J16 (ab λ_ J19=>sr λ_ J20=>P2 ?_)));refine ao ?_ ?_<;>intro h98;refine nx J20 (CY (sr λ_ J21=>BV ((ints RowT.zero.flat).toArray) ?_));refine PS ?_;refine SW 1 ba aj ?_;refine P2 ?_;refine nx J21 (ai (af (RU 1 [3] dV ba (aj _) ?_)));exact⟨by simp[iL,gB, *],rfl⟩;refine nx J20 (CN (qx J19 (ab λ_ J22=>ab λ_ J23=>D2 2 3 mixed ?_)));refine FD 0 0 ff aR ?_;refine LR 1 Y3 (cN o rfl) ?_;refine PD 2 ?_;refine iT ?_ ?_<;>intro h103
 · exact absurd h47 h103
 refine PD 3 ?_;refine NT 4 ?_;refine NT 5 ?_;refine NT 6 ?_;refine NT 7 ?_;refine NT 8 ?_;refine NT 9 ?_;refine NT 10 ?_;refine NT 11 ?_;refine NT 12 ?_;refine NT 13 ?_;refine NT 14 ?_;refine NT 15 ?_;refine NT 16 ?_;refine PD 17 ?_;refine DN (ac J23 (CN (qx J22 (sr λ_ J24=>LW 0 dV ba aj ?_))));refine SW 1 ba aj ?_;refine P2 ?_;refine nx J24 (ai (RU 1 [3] dV ba (aj _) ?_));exact⟨by simp[iL,gB, *],rfl⟩;refine PS ?_;refine nx J18 (CN (sr λ_ J25=>PS ?_));refine ao ?_ ?_<;>intro h61;refine PS ?_;refine nx J25 (CY (D2 3 2 mixed ?_));refine PD 0 ?_;refine PD 1 ?_;refine FD 2 9 de ba ?_;refine ta 3 rfl (aN (vs:=ints x.own.flat) rfl dV rfl ba rfl (λ_ h=>h.2.1) (aj x.own) (yK x 0 rfl (by decide) (whole (aj x.own)))) ?_;refine FD 4 3 ff aR ?_;refine LR 5 Y3 (pH o rfl) ?_;refine FD 6 4 ff aR ?_;refine LR 7 Y3 (tu o rfl) ?_;refine AL 8 ?_;refine CE OX (Cg x.own o.key o.n) ID ?_;refine EN (PD 9 ?_);refine PD 10 ?_;refine PD 11 ?_;refine AL 12 ?_;refine SW 0 ba aj ?_;refine EN (PD 13 ?_);refine DN (ag (ac J16 (ab λ_ J26=>sr λ_ J27=>P2 ?_)));refine ao ?_ ?_<;>intro h98;refine nx J27 (CY (sr λ_ J28=>BV ((ints RowT.zero.flat).toArray) ?_));refine PS ?_;refine SW 1 ba aj ?_;refine P2 ?_;refine nx J28 (ai (af (RU 1 [3] dV ba (aj _) ?_)));exact⟨by simp[iL,gB, *],rfl⟩;refine nx J27 (CN (qx J26 (ab λ_ J29=>ab λ_ J30=>D2 2 3 mixed ?_)));refine FD 0 0 ff aR ?_;refine LR 1 Y3 (cN o rfl) ?_;refine PD 2 ?_;refine iT ?_ ?_<;>intro h103
 refine PD 3 ?_;refine PD 4 ?_;refine PD 5 ?_;refine FD 6 1068 de Ei ?_;refine PD 7 ?_;refine PD 8 ?_;refine FD 9 0 de aR ?_;refine LR 10 Y3 (cF x rfl) ?_;refine FD 11 3 ff aR ?_;refine LR 12 Y3 (pH o rfl) ?_;refine FD 14 4 ff aR ?_;refine LR 15 Y3 (tu o rfl) ?_;refine AL 13 ?_;refine CE Mz (pp r 1068 87 (λu=>RepT.cells {x with book:=u}) (gM x) x.book x.id o.key) (SM [3]) ?_;refine EN (PD 16 ?_);refine iT ?_ ?_<;>intro h117;refine PD 17 ?_;refine DN (ac J30 (CY (sr λ_ J31=>BV ((ints RowT.zero.flat).toArray) ?_)));refine SW 2 ba aj ?_;refine P2 ?_;refine nx J31 (ai (af (RU 2 [0] dV ba (aj _) ?_)));exact⟨by simp[iL,gB, *],rfl⟩;refine PD 17 ?_;refine DN (ac J30 (CN (qx J29 (sr λ_ J32=>LW 1 dV ba aj ?_))));refine SW 2 ba aj ?_;refine P2 ?_;refine nx J32 (ai (RU 2 [0] dV ba (aj _) ?_));exact⟨by simp[iL,gB, *],rfl⟩
 · exact absurd h47 h103
 refine PS ?_;refine nx J25 (CN (sr λ_ J33=>PS ?_));refine ao ?_ ?_<;>intro h75;refine PS ?_;refine nx J33 (CY (ab λ_ J34=>D2 2 3 mixed ?_));refine FD 0 2 ff aR ?_;refine LR 1 Y3 (iA o rfl) ?_;refine PD 2 ?_;refine PD 3 ?_;refine FD 4 0 de aR ?_;refine LR 5 Y3 (cF x rfl) ?_;refine PD 6 ?_;refine iT ?_ ?_<;>intro h82;refine DN (ac J34 (CY (D2 3 2 mixed ?_)));refine PD 0 ?_;refine PD 1 ?_;refine FD 2 9 de ba ?_;refine ta 3 rfl (aN (vs:=ints x.own.flat) rfl dV rfl ba rfl (λ_ h=>h.2.1) (aj x.own) (yK x 0 rfl (by decide) (whole (aj x.own)))) ?_;refine FD 4 3 ff aR ?_;refine LR 5 Y3 (pH o rfl) ?_;refine FD 6 4 ff aR ?_;refine LR 7 Y3 (tu o rfl) ?_;refine FD 8 2 ff aR ?_;refine LR 9 Y3 (iA o rfl) ?_;refine AL 10 ?_;refine CE OW (Ay x.own o.key o.n o.to') ID ?_;refine EN (PD 11 ?_);refine PD 12 ?_;refine PD 13 ?_;refine AL 14 ?_;refine SW 0 ba aj ?_;refine EN (PD 15 ?_);refine DN (ag (ac J16 (ab λ_ J35=>sr λ_ J36=>P2 ?_)));refine ao ?_ ?_<;>intro h98;refine nx J36 (CY (sr λ_ J37=>BV ((ints RowT.zero.flat).toArray) ?_));refine PS ?_;refine SW 1 ba aj ?_;refine P2 ?_;refine nx J37 (ai (af (RU 1 [3] dV ba (aj _) ?_)));exact⟨by simp[iL,gB, *],rfl⟩;refine nx J36 (CN (qx J35 (ab λ_ J38=>ab λ_ J39=>D2 2 3 mixed ?_)));refine FD 0 0 ff aR ?_;refine LR 1 Y3 (cN o rfl) ?_;refine PD 2 ?_;refine iT ?_ ?_<;>intro h103;refine PD 3 ?_;refine PD 4 ?_;refine PD 5 ?_;refine FD 6 1068 de Ei ?_;refine PD 7 ?_;refine PD 8 ?_;refine FD 9 0 de aR ?_
 refine LR 10 Y3 (cF x rfl) ?_;refine FD 11 3 ff aR ?_;refine LR 12 Y3 (pH o rfl) ?_;refine FD 14 4 ff aR ?_;refine LR 15 Y3 (tu o rfl) ?_;refine AL 13 ?_;refine CE Mz (pp r 1068 87 (λu=>RepT.cells {x with book:=u}) (gM x) x.book x.id o.key) (SM [3]) ?_;refine EN (PD 16 ?_);refine iT ?_ ?_<;>intro h117;refine PD 17 ?_;refine DN (ac J39 (CY (sr λ_ J40=>BV ((ints RowT.zero.flat).toArray) ?_)));refine SW 2 ba aj ?_;refine P2 ?_;refine nx J40 (ai (af (RU 2 [0] dV ba (aj _) ?_)));exact⟨by simp[iL,gB, *],rfl⟩;refine PD 17 ?_;refine DN (ac J39 (CN (qx J38 (sr λ_ J41=>LW 1 dV ba aj ?_))));refine SW 2 ba aj ?_;refine P2 ?_;refine nx J41 (ai (RU 2 [0] dV ba (aj _) ?_));exact⟨by simp[iL,gB, *],rfl⟩
 · exact absurd h47 h103
 refine DN (ac J34 (CN (aT (ag (ac J16 (ab λ_ J42=>sr λ_ J43=>P2 ?_))))));refine nx J43 (CY (sr λ_ J44=>BV ((ints RowT.zero.flat).toArray) ?_));refine PS ?_;refine SW 1 ba aj ?_;refine P2 ?_;refine nx J44 (ai (af (RU 1 [3] dV ba (aj _) ?_)));exact⟨by simp[iL,gB, *],rfl⟩;refine PS ?_;refine nx J33 (CN (aT (ag (ac J16 (ab λ_ J45=>sr λ_ J46=>P2 ?_)))));refine nx J46 (CY (sr λ_ J47=>BV ((ints RowT.zero.flat).toArray) ?_));refine PS ?_;refine SW 1 ba aj ?_;refine P2 ?_;refine nx J47 (ai (af (RU 1 [3] dV ba (aj _) ?_)));exact⟨by simp[iL,gB, *],rfl⟩;refine EN (PD 9 ?_);refine DN (ac J3 (CY (sr λ_ J48=>BV ((ints RowT.zero.flat).toArray) ?_)));refine SW 0 ba aj ?_;refine P2 ?_;refine nx J48 (ai (af (RU 0 [2] dV ba (aj _) ?_)));exact⟨by simp[iL,gB, *],rfl⟩
end Go.Proofs.YtfocodjhmkokpaaGreatDoor
end
