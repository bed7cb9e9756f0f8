/-
  Joined texts:what a statement's proof reaches.
-/
import Derived.Test.YtkhjnolhhidecaaGreatDoorPWC6
set_option maxHeartbeats 8000000
set_option maxRecDepth 100000
set_option linter.unusedSimpArgs false
set_option linter.unusedVariables false
section
namespace Go.Proofs.YtkhjnolhhidecaaGreatDoor
open Go Leg Codec Api Dsk Wal
theorem qX{δ:Type}(V:Env δ)(r:Nat)(s:MS δ)(c:ChangeT)[OkR V.toDk s][OkCh c]:
 DT 69 #[(.pointer (some ⟨r,0,none⟩)),(.agg (ints c.flat).toArray)] T0 [cU V r s] (RI (.int .i64 (bN V.toDk s c).2) [cU V r (bN V.toDk s c).1]):=by
 refine BD 66 Tryz.func69 rfl rfl rfl λw0 F hF=>sr λ_ J1=>XY (ints c.flat) λb3=>?_
 refine PS ?_;refine nx J1 (aa λ_ J2=>fA (α:=(Nat)) (λb5=>True) (λb5=>[(0,(.pointer (some ⟨r,0,none⟩))),(3,(.pointer (some ⟨b3,0,none⟩))),(4,(.int .i64 0)),(5,(.pointer (some ⟨b5,0,none⟩)))]) (λb5=>[cU V r s,aj b3 (ints c.flat) 28,aj b5 (ints (cY s).flat) 90]) (λb5 hinv=>?_) (λtl2=>?_));have _:=hinv;refine ad J2 (aa λ_ J3=>fA (α:=(Nat)) (λb6=>True) (λb6=>[(0,(.pointer (some ⟨r,0,none⟩))),(3,(.pointer (some ⟨b3,0,none⟩))),(4,(.int .i64 0)),(5,(.pointer (some ⟨b5,0,none⟩))),(6,(.pointer (some ⟨b6,0,none⟩))),(7,(.bool ((cb s.acc s.view.epoch (cY s)).2)))]) (λb6=>[cU V r s,aj b3 (ints c.flat) 28,aj b5 (ints (cY s).flat) 90,aj b6 (ints ((cb s.acc s.view.epoch (cY s)).1).flat) 92]) (λb6 hinv=>?_) (λtl3=>?_));have _:=hinv;refine ad J3 (aa λ_ J4=>sr λ_ J5=>PS ?_);refine bg ?_ ?_<;>intro h33;refine PS ?_;refine nx J5 (CN (qx J4 (aa λ_ J6=>aa λ_ J7=>DC bl (dm 0 rfl rfl) (BL 2) ?_)));refine PD 0 ?_;refine PD 1 ?_;refine PD 2 ?_;refine FD 3 2 dx bj ?_;refine FD 4 2 eG aO ?_;refine ta 5 rfl (dD (v:=(.int .i64 (s.view.epoch))) rfl Y3 rfl rfl (λ_ h=>h.2.1) (λa_=>(cz (s.rep a_) 0 rfl (by decide) (aV _ rfl)))) ?_;refine LY 6 kV cJ aq ?_;refine ta 7 rfl (ku RecT.zero (RecT.mk 3 0 RowT.zero s.view.epoch (cY s) ChangeT.zero ViewT.zero) [(0,[Value.int .i64 3]),(3,[Value.int .i64 s.view.epoch]),(4,ints (cY s).flat)] eH fB (g:=RecT.sg)) ?_;refine AL 8 ?_
 refine CE FC (l5 V r s (gd s.view.epoch (cY s))) ID ?_;refine EN (PD 9 ?_);refine DN (ad J7 (sr λ_ J8=>P2 ?_));refine ap ?_ ?_<;>intro h45;refine nx J8 (CY (sr λ_ J9=>P2 ?_));refine nx J9 (ah (ae (WK [0] (aw rfl rfl ?_))));have e:bN V.toDk s c=(dR V.toDk s (gd s.view.epoch (cY s)),mA V.toDk s (gd s.view.epoch (cY s))):=by rw[bN,if_neg (by rw[h33];decide),if_pos h45]
 exact kn e;refine Np (H':=λvo:Value=>wT V r (dR V.toDk s (gd s.view.epoch (cY s))) vo::[aj b3 (ints c.flat) 28,aj b5 (ints (cY s).flat) 90,aj b6 (ints ((cb s.acc s.view.epoch (cY s)).1).flat) 92]) (λ_ q=>GV q) (λvo=>nx J8 (CN (qx J6 (aa λ_ J10=>D2 3 2 bl ?_))));refine PD 0 ?_;refine PD 1 ?_;refine LY 2 qi gp be ?_;refine FD 3 0 kV aO ?_;refine LX 4 Y3 (.int .i64 ((cY s).round)) ?_ (hc:=by exact fE _ rfl);refine PD 5 ?_;refine FD 6 1058 dx gp ?_;refine AL 7 ?_;refine iB (vs:=ints ((cb s.acc s.view.epoch (cY s)).1).flat) (i:=0) (ab rfl) rfl rfl rfl rfl rfl (by rw[(be ((cb s.acc s.view.epoch (cY s)).1))];exact gp) (bv _) rfl rfl (λ_=>LC (di _) (be _)) (λa_=>(lu ((dR V.toDk s (gd s.view.epoch (cY s))).rep ⟨(a_:Nat×Value).1,vo,a_.2⟩) 0 rfl (by have h1:=(be ((cb s.acc s.view.epoch (cY s)).1));omega) (cy ((be (((dR V.toDk s (gd s.view.epoch (cY s))).rep ⟨(a_:Nat×Value).1,vo,a_.2⟩).acc)).trans (be ((cb s.acc s.view.epoch (cY s)).1)).symm)))) (EN (PD 8 ?_));refine FD 9 1066 dx aO ?_;refine AL 10 ?_;refine SK 0 aO (λ_=>di _) ?_ (hc:=by exact λa_=>(mM _ rfl _));refine EN (DN (ad J10 (aa λ_ J11=>D2 2 1 bl ?_)));refine PD 0 ?_;refine PD 1 ?_;refine PD 2 ?_;refine FD 3 2 dx bj ?_;refine LY 5 kV cJ aq ?_;refine LY 6 mS fF aJ ?_;refine AL 4 ?_;refine LZ 0 eG bj an s.view ?_ (hc:=by exact λ_=>dh _);refine EN (AL 7 ?_);refine CR PG (A1 s.view (cY s) c) ID λvR HR hR=>?_
 obtain⟨vb,rfl,rfl⟩:=hR;refine EN (PD 8 ?_);refine FD 9 1067 dx nO ?_;refine AL 10 ?_;refine SK 1 nO (λ_=>di _) ?_ (hc:=by exact λa_=>(Rq _ rfl _));refine EN (DN (ad J11 (sr λ_ J12=>PS ?_)));refine nx J12 (ah (aE (H':=[cU V r (m3 V.toDk s c)]) (dN _) (λ_ q=>o5 (ak [1,0] rfl q)) (aw rfl rfl ?_)));have e:bN V.toDk s c=(m3 V.toDk s c,0):=by rw[bN,if_neg (by rw[h33];decide),if_neg h45]
 exact kn e;refine PS ?_;refine nx J5 (CY (sr λ_ J13=>PS ?_));refine nx J13 (ah (ae (WK [0] (aw rfl rfl ?_))));have e:bN V.toDk s c=(s,6):=if_pos h33;exact kn e;refine DC bl (dm 0 rfl rfl) (BL 2) ?_;refine PD 0 ?_;refine PD 1 ?_;refine FD 2 1058 dx gp ?_;refine ta 3 rfl (gO (vs:=ints s.acc.flat) rfl qi rfl gp rfl (λ_ h=>h.2.1) (be s.acc) (λa_=>(zn (s.rep a_) 0 rfl (by decide) (whole (be ((s.rep a_).acc)))))) ?_;refine PD 4 ?_;refine PD 5 ?_;refine FD 6 2 dx bj ?_;refine FD 7 2 eG aO ?_;refine ta 8 rfl (dD (v:=(.int .i64 (s.view.epoch))) rfl Y3 rfl rfl (λ_ h=>h.2.1) (λa_=>(cz (s.rep a_) 0 rfl (by decide) (aV _ rfl)))) ?_;refine LY 9 kV cJ aq ?_;refine db [10,14] (by kernel_rfl) rfl (aF rfl ?_ ?_);refine CE GS (oC s.acc s.view.epoch (cY s)) ID ?_;refine EN (PD 11 ?_);refine PD 12 ?_;refine PD 13 ?_;refine sQ ?_ ?_<;>intro h32;refine AL 14 ?_;refine XZ I7 (ints AccT.zero.flat) λb6=>?_
 refine EN (AL 15 ?_);refine SW 0 gp be ?_;refine EN (PD 16 ?_);refine DN ?_
 exact aE
  (aX (aX (aX (aX (aX (bM rfl (by rw[h32]) SB))))))
  (λ_ s=>ak [1,1,1,0] rfl s)
  (tl3 ((b6):(Nat)) trivial)
 refine AL 14 ?_;refine XZ I7 (ints AccT.zero.flat) λb6=>?_
 refine EN (AL 15 ?_);refine SW 0 gp be ?_;refine EN (PD 16 ?_);refine DN ?_
 exact aE
  (aX (aX (aX (aX (aX (bM rfl (by rw[h32]) SB))))))
  (λ_ s=>ak [1,1,1,0] rfl s)
  (tl3 ((b6):(Nat)) trivial)
 refine aF rfl ?_ ?_;refine XZ I7 (ints AccT.zero.flat) λb6=>?_
 refine EN (AL 10 ?_);refine CE GS (oC s.acc s.view.epoch (cY s)) ID ?_;refine EN (PD 11 ?_);refine PD 12 ?_;refine PD 13 ?_;refine sQ ?_ ?_<;>intro h32;refine AL 15 ?_;refine SW 0 gp be ?_;refine EN (PD 16 ?_);refine DN ?_
 exact aE
  (aX (aX (aX (aX (aX (bM rfl (by rw[h32]) SB))))))
  (λ_ s=>ak [1,1,1,0] rfl s)
  (tl3 ((b6):(Nat)) trivial)
 refine AL 15 ?_;refine SW 0 gp be ?_;refine EN (PD 16 ?_);refine DN ?_
 exact aE
  (aX (aX (aX (aX (aX (bM rfl (by rw[h32]) SB))))))
  (λ_ s=>ak [1,1,1,0] rfl s)
  (tl3 ((b6):(Nat)) trivial)
 exact bP;refine DB bl (dm 1 rfl rfl) ?_;refine PD 0 ?_;refine PD 1 ?_;refine FD 2 1066 dx aO ?_;refine ta 3 rfl (dD (v:=(.int .i64 (s.round))) rfl Y3 rfl rfl (λ_ h=>h.2.1) (λa_=>(wH _ rfl))) ?_;refine ta 4 rfl (bA (r:=(fy (s.round+1))) rfl rfl rfl rfl) ?_;refine PD 5 ?_;refine PD 6 ?_;refine FD 7 0 dx aO ?_;refine ta 8 rfl (dD (v:=(.int .i64 (s.id))) rfl Y3 rfl rfl (λ_ h=>h.2.1) (λa_=>(cT _ rfl))) ?_;refine ta 9 rfl (ku BallotT.zero (BallotT.mk (fy (s.round+1)) s.id) [(0,[Value.int .i64 (fy (s.round+1))]),(1,[Value.int .i64 s.id])] kV Qm (g:=BallotT.sg)) ?_;refine AL 10 ?_;refine XZ Qo (ints BallotT.zero.flat) λb5=>?_
 refine EN (AL 11 ?_);refine SW 0 cJ aq ?_;refine EN (DN ?_)
 exact aE
  SB
  (λ_ s=>ak [2,1,0] rfl s)
  (tl2 ((b5):(Nat)) trivial)
theorem B7{δ:Type}(V:Env δ)(r:Nat)(s:MS δ)(op:Int)(c:ChangeT)[OkR V.toDk s][OkCh c](hrs:s.replies.length≤1000000)(hv:s.vote=none):
 DT 50 #[(.pointer (some ⟨r,0,none⟩)),(.iface V.T V.ov),(.int .i64 (op)),(.agg (ints c.flat).toArray)] T0 [cU V r s] (RI (.int .i64 (dv V.toDk s op c).2) [cU V r (dv V.toDk s op c).1]):=by
 refine BD 44 Tryz.func50 rfl rfl rfl λw0 F hF=>sr λ_ J1=>XY (ints c.flat) λb7=>?_
 refine PS ?_;refine nx J1 (aa λ_ J2=>fA (α:=Unit) (λ_u=>True) (λ_u=>[(0,(.pointer (some ⟨r,0,none⟩))),(1,(.iface V.T V.ov)),(2,(.int .i64 (op))),(7,(.pointer (some ⟨b7,0,none⟩))),(8,(.int .i64 0)),(10,(.int .i64 ((dM s.view c).2)))]) (λ_u=>[cU V r s,aj b7 (ints c.flat) 28]) (λ_u hinv=>?_) (λtl2=>?_));have _:=hinv;refine ad J2 (aa λ_ J3=>sr λ_ J4=>ci (H':=wT V r s (.pointer none)::[aj b7 (ints c.flat) 28]) (λ_ q=>tT hv q) (P2 ?_));refine ap ?_ ?_<;>intro h21;refine P3 ?_;refine FA 1067 dx nO ?_;refine LG 0 qb (.pointer none) ?_ (hc:=by exact λa_=>(cg _ rfl));refine tq (jA rfl qb rfl rfl) ?_;refine PS ?_;refine nx J4 (CN (qx J3 (aa λ_ J5=>sr λ_ J6=>ci (H':=cU V r s::[aj b7 (ints c.flat) 28]) (λ_ q=>o7 hv (aD [0] rfl q)) (P2 ?_))));refine ap ?_ ?_<;>intro h30;refine nx J6 (CY (ac (PS ?_)));refine LW 1 mS fF aJ ?_;refine CE NQ (qX V r s c) ID ?_;refine PS ?_;refine nx J5 (sr λ_ J7=>P3 ?_);refine CZ u9 (fp V r ((bN V.toDk s c).1) op ((bN V.toDk s c).2) 0 (by first|exact hrs| (rw[jr];exact hrs))) ID λvR=>?_
 refine nx J7 (aa λ_ J8=>sr λ_ J9=>P2 ?_);refine ap ?_ ?_<;>intro h39;refine nx J9 (CY (ac (P2 ?_)));refine CZ Mh (sy V r (dw ((bN V.toDk s c).1) op ((bN V.toDk s c).2) 0) (ju s.view (cY s) c) (sN h39)) ID λvR=>?_
 refine nx J8 (sr λ_ J10=>P2 ?_);refine nx J10 (ah (WK [0] (aw rfl rfl ?_)));have e:dv V.toDk s op c=((lK V.toDk (dw ((bN V.toDk s c).1) op ((bN V.toDk s c).2) 0) (ju s.view (cY s) c)),(bN V.toDk s c).2):=by rw[dv,show fu s c=(dM s.view c).2 by rw[fu,if_neg (λh=>by rw[hv]at h;exact absurd h.2 (by decide))],if_neg (by rw[h30];decide),if_neg (by rw[h39];decide),h39]
 exact kn e;refine nx J9 (CN (qx J8 (sr λ_ J11=>P2 ?_)));refine nx J11 (ah (WK [0] (aw rfl rfl ?_)));have e:dv V.toDk s op c=((dw ((bN V.toDk s c).1) op ((bN V.toDk s c).2) 0),(bN V.toDk s c).2):=by rw[dv,show fu s c=(dM s.view c).2 by rw[fu,if_neg (λh=>by rw[hv]at h;exact absurd h.2 (by decide))],if_neg (by rw[h30];decide),if_pos h39]
 exact kn e;refine nx J6 (CN (qx J5 (sr λ_ J12=>P3 ?_)));refine CZ u9 (fp V r s op ((dM s.view c).2) 0 (by first|exact hrs| (rw[jr];exact hrs))) ID λvR=>?_
 refine nx J12 (aa λ_ J13=>sr λ_ J14=>P2 ?_);refine ap ?_ ?_<;>intro h39
 · exact absurd h39 h30
 refine nx J14 (CN (qx J13 (sr λ_ J15=>P2 ?_)));refine nx J15 (ah (WK [0] (aw rfl rfl ?_)));have e:dv V.toDk s op c=((dw s op ((dM s.view c).2) 0),(dM s.view c).2):=by rw[dv,show fu s c=(dM s.view c).2 by rw[fu,if_neg (λh=>h30 h.1)]];exact if_pos (by exact h30)
 exact kn e;refine PS ?_
 iterate 5 refine UF ?_
 refine PS ?_;refine nx J4 (CN (qx J3 (aa λ_ J16=>sr λ_ J17=>ci (H':=cU V r s::[aj b7 (ints c.flat) 28]) (λ_ q=>o7 hv (aD [0] rfl q)) (P2 ?_))));refine ap ?_ ?_<;>intro h30;refine nx J17 (CY (ac (PS ?_)));refine LW 1 mS fF aJ ?_;refine CE NQ (qX V r s c) ID ?_;refine PS ?_;refine nx J16 (sr λ_ J18=>P3 ?_);refine CZ u9 (fp V r ((bN V.toDk s c).1) op ((bN V.toDk s c).2) 0 (by first|exact hrs| (rw[jr];exact hrs))) ID λvR=>?_
 refine nx J18 (aa λ_ J19=>sr λ_ J20=>P2 ?_);refine ap ?_ ?_<;>intro h39;refine nx J20 (CY (ac (P2 ?_)));refine CZ Mh (sy V r (dw ((bN V.toDk s c).1) op ((bN V.toDk s c).2) 0) (ju s.view (cY s) c) (sN h39)) ID λvR=>?_
 refine nx J19 (sr λ_ J21=>P2 ?_);refine nx J21 (ah (WK [0] (aw rfl rfl ?_)));have e:dv V.toDk s op c=((lK V.toDk (dw ((bN V.toDk s c).1) op ((bN V.toDk s c).2) 0) (ju s.view (cY s) c)),(bN V.toDk s c).2):=by rw[dv,show fu s c=(dM s.view c).2 by rw[fu,if_neg (λh=>by rw[hv]at h;exact absurd h.2 (by decide))],if_neg (by rw[h30];decide),if_neg (by rw[h39];decide),h39]
 exact kn e;refine nx J20 (CN (qx J19 (sr λ_ J22=>P2 ?_)));refine nx J22 (ah (WK [0] (aw rfl rfl ?_)));have e:dv V.toDk s op c=((dw ((bN V.toDk s c).1) op ((bN V.toDk s c).2) 0),(bN V.toDk s c).2):=by rw[dv,show fu s c=(dM s.view c).2 by rw[fu,if_neg (λh=>by rw[hv]at h;exact absurd h.2 (by decide))],if_neg (by rw[h30];decide),if_pos h39]
 exact kn e;refine nx J17 (CN (qx J16 (sr λ_ J23=>P3 ?_)));refine CZ u9 (fp V r s op ((dM s.view c).2) 0 (by first|exact hrs| (rw[jr];exact hrs))) ID λvR=>?_
 refine nx J23 (aa λ_ J24=>sr λ_ J25=>P2 ?_);refine ap ?_ ?_<;>intro h39
 · exact absurd h39 h30
 refine nx J25 (CN (qx J24 (sr λ_ J26=>P2 ?_)));refine nx J26 (ah (WK [0] (aw rfl rfl ?_)));have e:dv V.toDk s op c=((dw s op ((dM s.view c).2) 0),(dM s.view c).2):=by rw[dv,show fu s c=(dM s.view c).2 by rw[fu,if_neg (λh=>h30 h.1)]];exact if_pos (by exact h30)
 exact kn e;refine DC bl (dm 1 rfl rfl) (BL 0) ?_;refine PD 0 ?_;refine PD 1 ?_;refine FD 2 2 dx bj ?_;refine ta 3 rfl (gO (vs:=ints s.view.flat) rfl eG rfl bj rfl (λ_ h=>h.2.1) (an s.view) (λa_=>(gH (s.rep a_) 0 rfl (by decide) (whole (an ((s.rep a_).view)))))) ?_;refine LY 4 mS fF aJ ?_;refine db [5,9] (by kernel_rfl) rfl (aF rfl ?_ ?_);refine CE nV (dL s.view c OkVw.rng) ID ?_;refine EN (PD 6 ?_);refine PD 7 ?_;refine PD 8 ?_;refine AL 9 ?_;refine XZ sV (ints ViewT.zero.flat) λb9=>?_
 refine EN (AL 10 ?_);refine SW 0 bj an ?_;refine EN (PD 11 ?_);refine DN ?_
 exact aE
  SB
  (λ_ s=>ak [2,1] rfl s)
  (tl2 (():Unit) trivial)
 refine aF rfl ?_ ?_;refine XZ sV (ints ViewT.zero.flat) λb9=>?_
 refine EN (AL 5 ?_);refine CE nV (dL s.view c OkVw.rng) ID ?_;refine EN (PD 6 ?_);refine PD 7 ?_;refine PD 8 ?_;refine AL 10 ?_;refine SW 0 bj an ?_;refine EN (PD 11 ?_);refine DN ?_
 exact aE
  SB
  (λ_ s=>ak [2,1] rfl s)
  (tl2 (():Unit) trivial)
 exact bP
theorem B6{δ:Type}(V:Env δ)(r:Nat)(s:MS δ)(vt:VoteT)(op:Int)(c:ChangeT)[OkR V.toDk s][OkCh c](hrs:s.replies.length≤1000000)(hv:s.vote=some vt):
 DT 50 #[(.pointer (some ⟨r,0,none⟩)),(.iface V.T V.ov),(.int .i64 (op)),(.agg (ints c.flat).toArray)] T0 [cU V r s] (RI (.int .i64 (dv V.toDk s op c).2) [cU V r (dv V.toDk s op c).1]):=by
 refine BD 44 Tryz.func50 rfl rfl rfl λw0 F hF=>sr λ_ J1=>XY (ints c.flat) λb7=>?_
 refine PS ?_;refine nx J1 (aa λ_ J2=>fA (α:=Unit) (λ_u=>True) (λ_u=>[(0,(.pointer (some ⟨r,0,none⟩))),(1,(.iface V.T V.ov)),(2,(.int .i64 (op))),(7,(.pointer (some ⟨b7,0,none⟩))),(8,(.int .i64 0)),(10,(.int .i64 ((dM s.view c).2)))]) (λ_u=>[cU V r s,aj b7 (ints c.flat) 28]) (λ_u hinv=>?_) (λtl2=>?_));have _:=hinv;refine ad J2 (aa λ_ J3=>sr λ_ J4=>Np (H':=λvb:Nat=>wT V r s (.pointer (some ⟨vb,0,none⟩))::aj vb (VoteT.cells vt) 196::[aj b7 (ints c.flat) 28]) (λ_ q=>nX hv q) (λvb=>P2 ?_));refine ap ?_ ?_<;>intro h21;refine P3 ?_;refine FA 1067 dx nO ?_;refine LG 0 qb (.pointer (some ⟨vb,0,none⟩)) ?_ (hc:=by exact λa_=>(cg _ rfl));refine tq (gk rfl qb rfl rfl) ?_;refine PS ?_;refine nx J4 (CY (ac (ci (H':=cU V r s::[aj b7 (ints c.flat) 28]) (λ_ q=>o6 hv (aD [0,0] rfl q)) (PS ?_))));refine nx J3 (aa λ_ J5=>sr λ_ J6=>P2 ?_);refine nx J6 (CN (qx J5 (sr λ_ J7=>P3 ?_)));refine CZ u9 (fp V r s op 8 0 (by first|exact hrs| (rw[jr];exact hrs))) ID λvR=>?_
 refine nx J7 (aa λ_ J8=>sr λ_ J9=>P2 ?_);refine nx J9 (CN (qx J8 (sr λ_ J10=>P2 ?_)));refine nx J10 (ah (WK [0] (aw rfl rfl ?_)));have e:dv V.toDk s op c=((dw s op 8 0),8):=by rw[dv,show fu s c=8 by rw[fu,if_pos ⟨h21,by rw[hv];rfl⟩]];exact if_pos (by decide)
 exact kn e;refine PS ?_
 iterate 5 refine UF ?_
 refine PS ?_;refine nx J4 (CN (qx J3 (aa λ_ J11=>sr λ_ J12=>ci (H':=cU V r s::[aj b7 (ints c.flat) 28]) (λ_ q=>o6 hv (aD [0,0] rfl q)) (P2 ?_))));refine ap ?_ ?_<;>intro h30
 · exact absurd h30 (by first|decide|exact h21)
 refine nx J12 (CN (qx J11 (sr λ_ J13=>P3 ?_)));refine CZ u9 (fp V r s op ((dM s.view c).2) 0 (by first|exact hrs| (rw[jr];exact hrs))) ID λvR=>?_
 refine nx J13 (aa λ_ J14=>sr λ_ J15=>P2 ?_);refine ap ?_ ?_<;>intro h39
 · exact absurd h39 (by first|decide|exact h30)
 refine nx J15 (CN (qx J14 (sr λ_ J16=>P2 ?_)));refine nx J16 (ah (WK [0] (aw rfl rfl ?_)));have e:dv V.toDk s op c=((dw s op ((dM s.view c).2) 0),(dM s.view c).2):=by rw[dv,show fu s c=(dM s.view c).2 by rw[fu,if_neg (λh=>h30 h.1)]];exact if_pos (by exact h30)
 exact kn e;refine DC bl (dm 1 rfl rfl) (BL 0) ?_;refine PD 0 ?_;refine PD 1 ?_;refine FD 2 2 dx bj ?_;refine ta 3 rfl (gO (vs:=ints s.view.flat) rfl eG rfl bj rfl (λ_ h=>h.2.1) (an s.view) (λa_=>(gH (s.rep a_) 0 rfl (by decide) (whole (an ((s.rep a_).view)))))) ?_;refine LY 4 mS fF aJ ?_;refine db [5,9] (by kernel_rfl) rfl (aF rfl ?_ ?_);refine CE nV (dL s.view c OkVw.rng) ID ?_;refine EN (PD 6 ?_);refine PD 7 ?_;refine PD 8 ?_;refine AL 9 ?_;refine XZ sV (ints ViewT.zero.flat) λb9=>?_
 refine EN (AL 10 ?_);refine SW 0 bj an ?_;refine EN (PD 11 ?_);refine DN ?_
 exact aE
  SB
  (λ_ s=>ak [2,1] rfl s)
  (tl2 (():Unit) trivial)
 refine aF rfl ?_ ?_;refine XZ sV (ints ViewT.zero.flat) λb9=>?_
 refine EN (AL 5 ?_);refine CE nV (dL s.view c OkVw.rng) ID ?_;refine EN (PD 6 ?_);refine PD 7 ?_;refine PD 8 ?_;refine AL 10 ?_;refine SW 0 bj an ?_;refine EN (PD 11 ?_);refine DN ?_
 exact aE
  SB
  (λ_ s=>ak [2,1] rfl s)
  (tl2 (():Unit) trivial)
 exact bP
theorem B5{δ:Type}(V:Env δ)(r:Nat)(s:MS δ)(op:Int)(c:ChangeT)[OkR V.toDk s][OkCh c](hrs:s.replies.length≤1000000):DT 50 #[.pointer (some ⟨r,0,none⟩), .iface V.T V.ov, .int .i64 op, .agg (ints c.flat).toArray] T0 [cU V r s] (RI (.int .i64 (dv V.toDk s op c).2) [cU V r (dv V.toDk s op c).1]):=by
 cases hv:s.vote with
 |none=>exact B7 V r s op c hrs hv
 |some vt=>exact B6 V r s vt op c hrs hv
theorem xO{δ:Type}(V:Env δ)(r:Nat)(s:MS δ)(o:OpT):DT 51 #[.pointer (some ⟨r,0,none⟩), .agg (ints o.flat).toArray] T0 [cU V r s] (RI (.tuple #[.agg (ints (cF s o).1.flat).toArray, .int .i64 (cF s o).2.1, .int .i64 (cF s o).2.2]) [cU V r s]):=Leg.Does.hid (λa=>H7 r (s.rep a) o)
theorem B1{δ:Type}(V:Env δ)(r:Nat)(s:MS δ)(o:OpT)[OkR V.toDk s][OkCh o.change](hrs:s.replies.length≤1000000):
 DT 24 #[(.pointer (some ⟨r,0,none⟩)),(.iface V.T V.ov),(.agg (ints o.flat).toArray)] T0 [cU V r s] (RI (.int .i64 (bL V.toDk s o).2) [cU V r (bL V.toDk s o).1]):=by
 refine BD 74 Tryz.func24 rfl rfl rfl λw0 F hF=>sr λ_ J1=>XY (ints o.flat) λb5=>?_
 refine PS ?_;refine nx J1 (sr λ_ J2=>P2 ?_);refine FA 1941 dx aO ?_;refine LG 1 Y3 (.int .i64 (s.ops)) ?_ (hc:=by exact λa_=>(RepT.at_ops _ rfl));refine tp (bA (r:=(fy (s.ops+1))) rfl rfl rfl rfl) ?_;refine PS ?_;refine FA 1941 dx aO ?_;refine SK 1 aO (λ_=>di _) ?_ (hc:=by exact λa_=>(RepT.set_ops _ rfl _));refine nx J2 (sr λ_ J3=>P2 ?_);refine FA 1941 dx aO ?_;refine LG 1 Y3 (.int .i64 ((opsS s).ops)) ?_ (hc:=by exact λa_=>(RepT.at_ops _ rfl));refine PS ?_;refine nx J3 (aa λ_ J4=>aa λ_ J5=>DC bl (dm 1 rfl rfl) (BL 0) ?_);refine PD 0 ?_;refine PD 1 ?_;refine FD 2 2 dx bj ?_;refine ta 3 rfl (gO (vs:=ints ((opsS s).view).flat) rfl eG rfl bj rfl (λ_ h=>h.2.1) (an ((opsS s).view)) (λa_=>(gH ((opsS s).rep a_) 0 rfl (by decide) (whole (an (((opsS s).rep a_).view)))))) ?_;refine PD 4 ?_;refine PD 5 ?_;refine FD 6 0 dx aO ?_;refine ta 7 rfl (dD (v:=(.int .i64 ((opsS s).id))) rfl Y3 rfl rfl (λ_ h=>h.2.1) (λa_=>(cT _ rfl))) ?_;refine AL 8 ?_;refine CE qK (dU ((opsS s).view) ((opsS s).id)) ID ?_;refine bg ?_ ?_<;>intro h30;refine EN (PD 9 ?_);refine FD 10 0 eZ aO ?_;refine LR 11 Y3 (cN o rfl) ?_;refine PD 12 ?_;refine kg ?_ ?_<;>intro h34;refine PD 13 ?_;refine DN (ad J5 (CY (sr λ_ J6=>P3 ?_)));refine FA 5 eZ fF ?_;refine LV 0 mS fF aJ OpT.sp_change (y:=o.change) ?_;refine CE QV (B5 V r (opsS s) ((opsS s).ops) o.change hrs) (SM [1]) ?_;refine PS ?_;refine nx J6 (ah (ae (WK [0] (aw rfl rfl ?_))))
 have e:bL V.toDk s o=((dv V.toDk (opsS s) ((opsS s).ops) o.change).1,(dv V.toDk (opsS s) (opsS s).ops o.change).2):=by rw[bL,show js s.view s.id=true from h30,decide_eq_true h34,if_pos (by rfl)]
 exact kn e;refine PD 13 ?_;refine DN (ad J5 (CN (qx J4 (sr λ_ J7=>PS ?_))));refine LW 0 eZ st ic ?_;refine CE O6 (xO V r (opsS s) o) (SM [1]) ?_;refine P4 ?_;refine XZ vw (ints RowT.zero.flat) λb8=>?_
 refine SW 0 bf ai ?_;refine P2 ?_;refine nx J7 (aa λ_ J8=>sr λ_ J9=>P2 ?_);refine ap ?_ ?_<;>intro h50;refine PS ?_
 iterate 3 refine UT ?_
 refine PS ?_;refine nx J9 (CY (sr λ_ J10=>P4 ?_));refine CZ u9 (fp V r (opsS s) ((opsS s).ops) ((cF (opsS s) o).2.2) ((cF (opsS s) o).2.1) (by first|exact hrs| (rw[kb];exact hrs))) (SM [1]) λvR=>?_
 refine nx J10 (sr λ_ J11=>P2 ?_);refine nx J11 (ah (ae (WK [0] (aw rfl rfl ?_))));have e:bL V.toDk s o=((dw (opsS s) ((opsS s).ops) ((cF (opsS s) o).2.2) ((cF (opsS s) o).2.1)),(cF (opsS s) o).2.2):=by rw[bL,show js s.view s.id=true from h30,decide_eq_false h34,if_neg (by decide),ly,if_pos (.inl h50)]
 exact kn e;refine PS ?_;refine FA 0 eZ aO ?_;refine LU 2 Y3 (cN o rfl) ?_;refine PS ?_;refine ap ?_ ?_<;>intro h54;refine PS ?_;refine nx J9 (CY (sr λ_ J12=>P4 ?_));refine CZ u9 (fp V r (opsS s) ((opsS s).ops) ((cF (opsS s) o).2.2) ((cF (opsS s) o).2.1) (by first|exact hrs| (rw[kb];exact hrs))) (SM [1]) λvR=>?_
 refine nx J12 (sr λ_ J13=>P2 ?_);refine nx J13 (ah (ae (WK [0] (aw rfl rfl ?_))));have e:bL V.toDk s o=((dw (opsS s) ((opsS s).ops) ((cF (opsS s) o).2.2) ((cF (opsS s) o).2.1)),(cF (opsS s) o).2.2):=by rw[bL,show js s.view s.id=true from h30,decide_eq_false h34,if_neg (by decide),ly,if_pos (.inr h54)]
 exact kn e;refine PS ?_;refine nx J9 (CN (qx J8 (aa λ_ J14=>sr λ_ J15=>P2 ?_)));refine LW 0 el bf ai ?_;refine PS ?_;refine CE NW (sK V r (opsS s) ((cF (opsS s) o).1) ((opsS s).ops)) (SM [1]) ?_;refine PS ?_;refine nx J15 (sr λ_ J16=>P2 ?_);refine ap ?_ ?_<;>intro h68;refine nx J16 (CY (ac (P3 ?_)));refine CZ u9 (fp V r ((dI V.toDk (opsS s) ((cF (opsS s) o).1) ((opsS s).ops)).1) ((opsS s).ops) ((dI V.toDk (opsS s) ((cF (opsS s) o).1) ((opsS s).ops)).2) 0 (by first|exact hrs| (rw[kb];exact hrs))) ID λvR=>?_
 refine nx J14 (sr λ_ J17=>P2 ?_);refine nx J17 (ah (WK [0] (aw rfl rfl ?_)));have e:bL V.toDk s o=((dw ((dI V.toDk (opsS s) ((cF (opsS s) o).1) ((opsS s).ops)).1) ((opsS s).ops) ((dI V.toDk (opsS s) ((cF (opsS s) o).1) ((opsS s).ops)).2) 0),(dI V.toDk (opsS s) (cF (opsS s) o).1 (opsS s).ops).2):=by rw[bL,show js s.view s.id=true from h30,decide_eq_false h34,if_neg (by decide),ly,if_neg (λh=>h.elim (λh=>h50 h) (λh=>h54 h)),if_pos h68]
 exact kn e;refine nx J16 (CN (qx J14 (sr λ_ J18=>P2 ?_)));refine nx J18 (ah (WK [0] (aw rfl rfl ?_)));have e:bL V.toDk s o=((dI V.toDk (opsS s) ((cF (opsS s) o).1) ((opsS s).ops)).1,(dI V.toDk (opsS s) (cF (opsS s) o).1 (opsS s).ops).2):=by rw[bL,show js s.view s.id=true from h30,decide_eq_false h34,if_neg (by decide),ly,if_neg (λh=>h.elim (λh=>h50 h) (λh=>h54 h)),if_neg h68,show(dI V.toDk (opsS s) (cF (opsS s) o).1 (opsS s).ops).2=0 from Decidable.not_not.1 h68]
 exact kn e;refine EN (PD 9 ?_);refine NT 10 ?_;refine NT 11 ?_;refine NT 12 ?_;refine PD 13 ?_;refine DN (ad J5 (CN (qx J4 (sr λ_ J19=>PS ?_))));refine LW 0 eZ st ic ?_;refine CE O6 (xO V r (opsS s) o) (SM [1]) ?_;refine P4 ?_;refine XZ vw (ints RowT.zero.flat) λb8=>?_
 refine SW 0 bf ai ?_;refine P2 ?_;refine nx J19 (aa λ_ J20=>sr λ_ J21=>P2 ?_);refine ap ?_ ?_<;>intro h50;refine PS ?_
 iterate 3 refine UT ?_
 refine PS ?_;refine nx J21 (CY (sr λ_ J22=>P4 ?_));refine CZ u9 (fp V r (opsS s) ((opsS s).ops) ((cF (opsS s) o).2.2) ((cF (opsS s) o).2.1) (by first|exact hrs| (rw[kb];exact hrs))) (SM [1]) λvR=>?_
 refine nx J22 (sr λ_ J23=>P2 ?_);refine nx J23 (ah (ae (WK [0] (aw rfl rfl ?_))));have e:bL V.toDk s o=((dw (opsS s) ((opsS s).ops) ((cF (opsS s) o).2.2) ((cF (opsS s) o).2.1)),(cF (opsS s) o).2.2):=by rw[bL,show js s.view s.id=false from h30,if_neg (by rw[iq];decide),ly,if_pos (.inl h50)]
 exact kn e;refine PS ?_;refine FA 0 eZ aO ?_;refine LU 2 Y3 (cN o rfl) ?_;refine PS ?_;refine ap ?_ ?_<;>intro h54;refine PS ?_;refine nx J21 (CY (sr λ_ J24=>P4 ?_));refine CZ u9 (fp V r (opsS s) ((opsS s).ops) ((cF (opsS s) o).2.2) ((cF (opsS s) o).2.1) (by first|exact hrs| (rw[kb];exact hrs))) (SM [1]) λvR=>?_
 refine nx J24 (sr λ_ J25=>P2 ?_);refine nx J25 (ah (ae (WK [0] (aw rfl rfl ?_))));have e:bL V.toDk s o=((dw (opsS s) ((opsS s).ops) ((cF (opsS s) o).2.2) ((cF (opsS s) o).2.1)),(cF (opsS s) o).2.2):=by rw[bL,show js s.view s.id=false from h30,if_neg (by rw[iq];decide),ly,if_pos (.inr h54)]
 exact kn e;refine PS ?_;refine nx J21 (CN (qx J20 (aa λ_ J26=>sr λ_ J27=>P2 ?_)));refine LW 0 el bf ai ?_;refine PS ?_;refine CE NW (sK V r (opsS s) ((cF (opsS s) o).1) ((opsS s).ops)) (SM [1]) ?_;refine PS ?_;refine nx J27 (sr λ_ J28=>P2 ?_);refine ap ?_ ?_<;>intro h68;refine nx J28 (CY (ac (P3 ?_)));refine CZ u9 (fp V r ((dI V.toDk (opsS s) ((cF (opsS s) o).1) ((opsS s).ops)).1) ((opsS s).ops) ((dI V.toDk (opsS s) ((cF (opsS s) o).1) ((opsS s).ops)).2) 0 (by first|exact hrs| (rw[kb];exact hrs))) ID λvR=>?_
 refine nx J26 (sr λ_ J29=>P2 ?_);refine nx J29 (ah (WK [0] (aw rfl rfl ?_)));have e:bL V.toDk s o=((dw ((dI V.toDk (opsS s) ((cF (opsS s) o).1) ((opsS s).ops)).1) ((opsS s).ops) ((dI V.toDk (opsS s) ((cF (opsS s) o).1) ((opsS s).ops)).2) 0),(dI V.toDk (opsS s) (cF (opsS s) o).1 (opsS s).ops).2):=by rw[bL,show js s.view s.id=false from h30,if_neg (by rw[iq];decide),ly,if_neg (λh=>h.elim (λh=>h50 h) (λh=>h54 h)),if_pos h68]
 exact kn e;refine nx J28 (CN (qx J26 (sr λ_ J30=>P2 ?_)));refine nx J30 (ah (WK [0] (aw rfl rfl ?_)));have e:bL V.toDk s o=((dI V.toDk (opsS s) ((cF (opsS s) o).1) ((opsS s).ops)).1,(dI V.toDk (opsS s) (cF (opsS s) o).1 (opsS s).ops).2):=by rw[bL,show js s.view s.id=false from h30,if_neg (by rw[iq];decide),ly,if_neg (λh=>h.elim (λh=>h50 h) (λh=>h54 h)),if_neg h68,show(dI V.toDk (opsS s) (cF (opsS s) o).1 (opsS s).ops).2=0 from Decidable.not_not.1 h68]
 exact kn e
theorem Fa{δ:Type}(V:Env δ)(r:Nat)(s:MS δ)[OkR V.toDk s](hv:(fz V.toDk (ca V.toDk (bO V.toDk s))).vote=none):
 DT 26 #[(.pointer (some ⟨r,0,none⟩)),(.iface V.T V.ov)] T0 [cU V r s] (dG (λ_ H=>H=[cU V r (gS V.toDk s)])):=by
 refine BD 89 Tryz.func26 rfl rfl rfl λw0 F hF=>aa λ_ J1=>fA (α:=Unit) (λ_u=>True) (λ_u=>[(0,(.pointer (some ⟨r,0,none⟩))),(1,(.iface V.T V.ov))]) (λ_u=>[cU V r (if s.busy=true then eX V.toDk s else s)]) (λ_u hinv=>?_) (λtl1=>?_)
 have _:=hinv;refine ad J1 (sr λ_ J2=>P2 ?_);refine CZ Mj (pN V r (if s.busy=true then eX V.toDk s else s)) ID λvR=>?_
 refine nx J2 (sr λ_ J3=>P2 ?_);refine CZ NU (qV V r (lm V.toDk (if s.busy=true then eX V.toDk s else s))) ID λvR=>?_
 refine nx J3 (aa λ_ J4=>fA (α:=Unit) (λ_u=>True) (λ_u=>[(0,(.pointer (some ⟨r,0,none⟩))),(1,(.iface V.T V.ov))]) (λ_u=>[cU V r (ca V.toDk (bO V.toDk s))]) (λ_u hinv=>?_) (λtl4=>?_));have _:=hinv;refine ad J4 (aa λ_ J5=>aa λ_ J6=>DB bl (dm 0 rfl rfl) ?_);refine PD 0 ?_;refine PD 1 ?_;refine FD 2 2 dx bj ?_;refine ta 3 rfl (gO (vs:=ints ((ca V.toDk (bO V.toDk s)).view).flat) rfl eG rfl bj rfl (λ_ h=>h.2.1) (an ((ca V.toDk (bO V.toDk s)).view)) (λa_=>(gH ((ca V.toDk (bO V.toDk s)).rep a_) 0 rfl (by decide) (whole (an (((ca V.toDk (bO V.toDk s)).rep a_).view)))))) ?_;refine PD 4 ?_;refine PD 5 ?_;refine FD 6 0 dx aO ?_;refine ta 7 rfl (dD (v:=(.int .i64 ((ca V.toDk (bO V.toDk s)).id))) rfl Y3 rfl rfl (λ_ h=>h.2.1) (λa_=>(cT _ rfl))) ?_;refine AL 8 ?_;refine CE qK (dU ((ca V.toDk (bO V.toDk s)).view) ((ca V.toDk (bO V.toDk s)).id)) ID ?_;refine bg ?_ ?_<;>intro h42;refine EN (PD 9 ?_);refine DN (ad J6 (CN (qx J5 (aa λ_ J7=>fA (α:=Unit) (λ_u=>True) (λ_u=>[(0,(.pointer (some ⟨r,0,none⟩))),(1,(.iface V.T V.ov))]) (λ_u=>[cU V r (fz V.toDk (ca V.toDk (bO V.toDk s)))]) (λ_u hinv=>?_) (λtl7=>?_)))));have _:=hinv;refine ad J7 (aa λ_ J8=>sr λ_ J9=>ci (H':=wT V r (fz V.toDk (ca V.toDk (bO V.toDk s))) (.pointer none)::[]) (λ_ q=>tT hv q) (P2 ?_));refine FA 1067 dx nO ?_;refine LG 0 qb (.pointer none) ?_ (hc:=by exact λa_=>(cg _ rfl))
 refine tp (RR rfl qb rfl rfl) ?_;refine nx J9 (CY (ah (ae (aE (H':=[cU V r (fz V.toDk (ca V.toDk (bO V.toDk s)))]) (dN _) (λ_ q=>o7 hv (ak [0] rfl q)) (dZ rfl ?_)))));exact MQ (by rw[gS,if_pos h42,pV,hv]);refine aa λ_ J10=>fA (α:=(Nat)) (λb4=>True) (λb4=>[(0,(.pointer (some ⟨r,0,none⟩))),(1,(.iface V.T V.ov)),(4,(.pointer (some ⟨b4,0,none⟩)))]) (λb4=>[cU V r (ca V.toDk (bO V.toDk s)),aj b4 (ints (cA (ca V.toDk (bO V.toDk s)).book (ca V.toDk (bO V.toDk s)).id).flat) 74]) (λb4 hinv=>?_) (λtl10=>?_)
 have _:=hinv;refine ad J10 (sr λ_ J11=>FA 0 el aO ?_);refine LT 1 Y3 (.int .i64 ((cA (ca V.toDk (bO V.toDk s)).book (ca V.toDk (bO V.toDk s)).id).version)) ?_ (hc:=by exact cM _ rfl);refine PS ?_;refine ap ?_ ?_<;>intro h54;refine nx J11 (CY (ac (P2 ?_)));refine LW 1 el bf ai ?_;refine CZ NR (nK V r (ca V.toDk (bO V.toDk s)) (cA (ca V.toDk (bO V.toDk s)).book (ca V.toDk (bO V.toDk s)).id)) ID λvR=>?_
 refine au ?_
 exact aE
  SB
  (λ_ q=>by
   rw[fz,if_pos h54]
   exact ak [0] rfl q)
  (tl7 (():Unit) trivial)
 refine nx J11 (CN (aR ?_))
 exact aE
  SB
  (λ_ q=>by
   rw[fz,if_neg h54]
   exact ak [0] rfl q)
  (tl7 (():Unit) trivial)
 refine DB bl (dm 0 rfl rfl) ?_;refine PD 0 ?_;refine PD 1 ?_;refine FD 2 1068 dx Cz ?_;refine PD 3 ?_;refine PD 4 ?_;refine FD 5 0 dx aO ?_;refine ta 6 rfl (dD (v:=(.int .i64 ((ca V.toDk (bO V.toDk s)).id))) rfl Y3 rfl rfl (λ_ h=>h.2.1) (λa_=>(cT _ rfl))) ?_;refine db [7,8] (by kernel_rfl) rfl (aF rfl ?_ ?_);refine CE Mi (Leg.Does.hid (λa_=>ny r 1068 95 _ (gL ((ca V.toDk (bO V.toDk s)).rep a_)) (ca V.toDk (bO V.toDk s)).book ((ca V.toDk (bO V.toDk s)).id))) ID ?_;refine EN (AL 8 ?_);refine XZ vw (ints RowT.zero.flat) λb4=>?_
 refine EN (AL 9 ?_);refine SW 0 bf ai ?_;refine EN (DN ?_)
 exact aE
  SB
  (λ_ s=>ak [1,0] rfl s)
  (tl10 ((b4):(Nat)) trivial)
 refine aF rfl ?_ ?_;refine XZ vw (ints RowT.zero.flat) λb4=>?_
 refine EN (AL 7 ?_);refine CE Mi (Leg.Does.hid (λa_=>ny r 1068 95 _ (gL ((ca V.toDk (bO V.toDk s)).rep a_)) (ca V.toDk (bO V.toDk s)).book ((ca V.toDk (bO V.toDk s)).id))) (SM [1]) ?_;refine EN (AL 9 ?_);refine SW 1 bf ai ?_;refine EN (DN ?_)
 exact aE
  SB
  (λ_ s=>ak [0,0] rfl s)
  (tl10 ((b4):(Nat)) trivial)
 exact bP;refine EN (PD 9 ?_);refine DN (ad J6 (CY (ah (ae (WK [0] (dZ rfl ?_))))));exact MQ (by rw[gS,if_neg (by rw[h42];decide)]);refine sr λ_ J12=>P2 ?_
 refine FA 2 dx bj ?_;refine FA 2 eG aO ?_;refine LG 0 Y3 (.int .i64 (((bO V.toDk s).view).epoch)) ?_ (hc:=by exact λa_=>(cz ((bO V.toDk s).rep a_) 0 rfl (by decide) (aV _ rfl)));refine PS ?_;refine ap ?_ ?_<;>intro h26;refine nx J12 (CY (ac (P4 ?_)));refine FA 2 dx bj ?_;refine LZ 0 eG bj an ((bO V.toDk s).view) ?_ (hc:=by exact λ_=>dh _);refine CZ NS (nJ V r (bO V.toDk s) ((bO V.toDk s).view)) ID λvR=>?_
 refine au ?_
 exact aE
  SB
  (λ_ q=>by
   rw[ca,if_pos h26]
   exact ak [0] rfl q)
  (tl4 (():Unit) trivial)
 refine nx J12 (CN (aR ?_))
 exact aE
  SB
  (λ_ q=>by
   rw[ca,if_neg h26]
   exact ak [0] rfl q)
  (tl4 (():Unit) trivial)
 refine sr λ_ J13=>P2 ?_
 refine FA 1938 dx lT ?_;refine LG 0 Y4 (.bool (s.busy)) ?_ (hc:=by exact λa_=>(zo _ rfl));refine bg ?_ ?_<;>intro h11;refine nx J13 (CY (ac (P2 ?_)));refine CZ NV (oH V r s) ID λvR=>?_
 refine au ?_
 exact aE
  SB
  (λ_ q=>by
   rw[if_pos h11]
   exact ak [0] rfl q)
  (tl1 (():Unit) trivial)
 refine nx J13 (CN (aR ?_))
 exact aE
  SB
  (λ_ q=>by
   rw[if_neg (by rw[h11];decide)]
   exact ak [0] rfl q)
  (tl1 (():Unit) trivial)
theorem E9{δ:Type}(V:Env δ)(r:Nat)(s:MS δ)(vt:VoteT)[OkR V.toDk s](hv:(fz V.toDk (ca V.toDk (bO V.toDk s))).vote=some vt):
 DT 26 #[(.pointer (some ⟨r,0,none⟩)),(.iface V.T V.ov)] T0 [cU V r s] (dG (λ_ H=>H=[cU V r (gS V.toDk s)])):=by
 refine BD 89 Tryz.func26 rfl rfl rfl λw0 F hF=>?_
 have hov:OkVt vt:=OkR.vote vt hv;refine aa λ_ J1=>fA (α:=Unit) (λ_u=>True) (λ_u=>[(0,(.pointer (some ⟨r,0,none⟩))),(1,(.iface V.T V.ov))]) (λ_u=>[cU V r (if s.busy=true then eX V.toDk s else s)]) (λ_u hinv=>?_) (λtl1=>?_)
 have _:=hinv;refine ad J1 (sr λ_ J2=>P2 ?_);refine CZ Mj (pN V r (if s.busy=true then eX V.toDk s else s)) ID λvR=>?_
 refine nx J2 (sr λ_ J3=>P2 ?_);refine CZ NU (qV V r (lm V.toDk (if s.busy=true then eX V.toDk s else s))) ID λvR=>?_
 refine nx J3 (aa λ_ J4=>fA (α:=Unit) (λ_u=>True) (λ_u=>[(0,(.pointer (some ⟨r,0,none⟩))),(1,(.iface V.T V.ov))]) (λ_u=>[cU V r (ca V.toDk (bO V.toDk s))]) (λ_u hinv=>?_) (λtl4=>?_));have _:=hinv;refine ad J4 (aa λ_ J5=>aa λ_ J6=>DB bl (dm 0 rfl rfl) ?_);refine PD 0 ?_;refine PD 1 ?_;refine FD 2 2 dx bj ?_;refine ta 3 rfl (gO (vs:=ints ((ca V.toDk (bO V.toDk s)).view).flat) rfl eG rfl bj rfl (λ_ h=>h.2.1) (an ((ca V.toDk (bO V.toDk s)).view)) (λa_=>(gH ((ca V.toDk (bO V.toDk s)).rep a_) 0 rfl (by decide) (whole (an (((ca V.toDk (bO V.toDk s)).rep a_).view)))))) ?_;refine PD 4 ?_;refine PD 5 ?_;refine FD 6 0 dx aO ?_;refine ta 7 rfl (dD (v:=(.int .i64 ((ca V.toDk (bO V.toDk s)).id))) rfl Y3 rfl rfl (λ_ h=>h.2.1) (λa_=>(cT _ rfl))) ?_;refine AL 8 ?_;refine CE qK (dU ((ca V.toDk (bO V.toDk s)).view) ((ca V.toDk (bO V.toDk s)).id)) ID ?_;refine bg ?_ ?_<;>intro h42;refine EN (PD 9 ?_);refine DN (ad J6 (CN (qx J5 (aa λ_ J7=>fA (α:=Unit) (λ_u=>True) (λ_u=>[(0,(.pointer (some ⟨r,0,none⟩))),(1,(.iface V.T V.ov))]) (λ_u=>[cU V r (fz V.toDk (ca V.toDk (bO V.toDk s)))]) (λ_u hinv=>?_) (λtl7=>?_)))));have _:=hinv;refine ad J7 (aa λ_ J8=>sr λ_ J9=>Np (H':=λvb:Nat=>wT V r (fz V.toDk (ca V.toDk (bO V.toDk s))) (.pointer (some ⟨vb,0,none⟩))::aj vb (VoteT.cells vt) 196::[]) (λ_ q=>nX hv q) (λvb=>P2 ?_));refine FA 1067 dx nO ?_
 refine LG 0 qb (.pointer (some ⟨vb,0,none⟩)) ?_ (hc:=by exact λa_=>(cg _ rfl));refine tp (gA rfl qb rfl rfl) ?_;refine nx J9 (CN (qx J8 (sr λ_ J10=>P2 ?_)));refine FA 1067 dx nO ?_;refine LG 0 qb (.pointer (some ⟨vb,0,none⟩)) ?_ (hc:=by exact λa_=>(cg _ rfl));refine CE u6 (dy vb vt) (SM [1]) ?_;change TL _ _ _ _ _ _ _ _ _ [aj vb (VoteT.cells vt) 196,wT V r (fz V.toDk (ca V.toDk (bO V.toDk s))) (.pointer (some ⟨vb,0,none⟩))];refine ci (H':=cU V r (fz V.toDk (ca V.toDk (bO V.toDk s)))::[]) (λ_ q=>o6 hv (aD [1,0] rfl q)) (XZ Qp (ints ChangeT.zero.flat) λb5=>?_);refine SW 0 fF aJ ?_;refine nx J10 (aa λ_ J11=>fA (α:=Unit) (λ_u=>True) (λ_u=>[(0,(.pointer (some ⟨r,0,none⟩))),(1,(.iface V.T V.ov)),(5,(.pointer (some ⟨b5,0,none⟩))),(7,(.int .i64 ((dM (fz V.toDk (ca V.toDk (bO V.toDk s))).view vt.change).2)))]) (λ_u=>[cU V r (fz V.toDk (ca V.toDk (bO V.toDk s))),aj b5 (ints vt.change.flat) 28]) (λ_u hinv=>?_) (λtl11=>?_));have _:=hinv;refine ad J11 (sr λ_ J12=>P2 ?_);refine ap ?_ ?_<;>intro h79;refine P2 ?_;refine LW 1 mS fF aJ ?_;refine CE NQ (qX V r (fz V.toDk (ca V.toDk (bO V.toDk s))) vt.change) ID ?_;refine PS ?_;refine ap ?_ ?_<;>intro h84;refine PS ?_;refine nx J12 (CY (ac (P2 ?_)))
 refine CZ Mh (sy V r ((bN V.toDk (fz V.toDk (ca V.toDk (bO V.toDk s))) vt.change).1) (ju (fz V.toDk (ca V.toDk (bO V.toDk s))).view (cY (fz V.toDk (ca V.toDk (bO V.toDk s)))) vt.change) (sN h84)) ID λvR=>?_
 refine au (WK [0] (bC rfl ?_));exact MQ (by rw[gS,if_pos h42,pV,hv];simp only[];rw[if_pos h79,if_pos h84]);refine PS ?_;refine nx J12 (CN (aR (WK [0] (bC rfl ?_))));exact MQ (by rw[gS,if_pos h42,pV,hv];simp only[];rw[if_pos h79,if_neg h84]);refine PS ?_
 iterate 4 refine UF ?_
 refine PS ?_;refine nx J12 (CN (aR (WK [0] (bC rfl ?_))));exact MQ (by rw[gS,if_pos h42,pV,hv];simp only[];rw[if_neg h79]);refine DC bl (dm 1 rfl rfl) (BL 0) ?_;refine PD 0 ?_;refine PD 1 ?_;refine FD 2 2 dx bj ?_;refine ta 3 rfl (gO (vs:=ints ((fz V.toDk (ca V.toDk (bO V.toDk s))).view).flat) rfl eG rfl bj rfl (λ_ h=>h.2.1) (an ((fz V.toDk (ca V.toDk (bO V.toDk s))).view)) (λa_=>(gH ((fz V.toDk (ca V.toDk (bO V.toDk s))).rep a_) 0 rfl (by decide) (whole (an (((fz V.toDk (ca V.toDk (bO V.toDk s))).rep a_).view)))))) ?_;refine LY 4 mS fF aJ ?_;refine db [5,9] (by kernel_rfl) rfl (aF rfl ?_ ?_);refine CE nV (dL ((fz V.toDk (ca V.toDk (bO V.toDk s))).view) vt.change OkVw.rng) ID ?_;refine EN (PD 6 ?_);refine PD 7 ?_;refine PD 8 ?_;refine AL 9 ?_;refine XZ sV (ints ViewT.zero.flat) λb6=>?_
 refine EN (AL 10 ?_);refine SW 0 bj an ?_;refine EN (PD 11 ?_);refine DN ?_
 exact aE
  SB
  (λ_ s=>ak [2,1] rfl s)
  (tl11 (():Unit) trivial)
 refine aF rfl ?_ ?_;refine XZ sV (ints ViewT.zero.flat) λb6=>?_
 refine EN (AL 5 ?_);refine CE nV (dL ((fz V.toDk (ca V.toDk (bO V.toDk s))).view) vt.change OkVw.rng) ID ?_;refine EN (PD 6 ?_);refine PD 7 ?_;refine PD 8 ?_;refine AL 10 ?_;refine SW 0 bj an ?_;refine EN (PD 11 ?_);refine DN ?_
 exact aE
  SB
  (λ_ s=>ak [2,1] rfl s)
  (tl11 (():Unit) trivial)
 exact bP;refine aa λ_ J13=>fA (α:=(Nat)) (λb4=>True) (λb4=>[(0,(.pointer (some ⟨r,0,none⟩))),(1,(.iface V.T V.ov)),(4,(.pointer (some ⟨b4,0,none⟩)))]) (λb4=>[cU V r (ca V.toDk (bO V.toDk s)),aj b4 (ints (cA (ca V.toDk (bO V.toDk s)).book (ca V.toDk (bO V.toDk s)).id).flat) 74]) (λb4 hinv=>?_) (λtl13=>?_)
 have _:=hinv;refine ad J13 (sr λ_ J14=>FA 0 el aO ?_);refine LT 1 Y3 (.int .i64 ((cA (ca V.toDk (bO V.toDk s)).book (ca V.toDk (bO V.toDk s)).id).version)) ?_ (hc:=by exact cM _ rfl);refine PS ?_;refine ap ?_ ?_<;>intro h54;refine nx J14 (CY (ac (P2 ?_)));refine LW 1 el bf ai ?_;refine CZ NR (nK V r (ca V.toDk (bO V.toDk s)) (cA (ca V.toDk (bO V.toDk s)).book (ca V.toDk (bO V.toDk s)).id)) ID λvR=>?_
 refine au ?_
 exact aE
  SB
  (λ_ q=>by
   rw[fz,if_pos h54]
   exact ak [0] rfl q)
  (tl7 (():Unit) trivial)
 refine nx J14 (CN (aR ?_))
 exact aE
  SB
  (λ_ q=>by
   rw[fz,if_neg h54]
   exact ak [0] rfl q)
  (tl7 (():Unit) trivial)
 refine DB bl (dm 0 rfl rfl) ?_;refine PD 0 ?_;refine PD 1 ?_;refine FD 2 1068 dx Cz ?_;refine PD 3 ?_;refine PD 4 ?_;refine FD 5 0 dx aO ?_;refine ta 6 rfl (dD (v:=(.int .i64 ((ca V.toDk (bO V.toDk s)).id))) rfl Y3 rfl rfl (λ_ h=>h.2.1) (λa_=>(cT _ rfl))) ?_;refine db [7,8] (by kernel_rfl) rfl (aF rfl ?_ ?_);refine CE Mi (Leg.Does.hid (λa_=>ny r 1068 95 _ (gL ((ca V.toDk (bO V.toDk s)).rep a_)) (ca V.toDk (bO V.toDk s)).book ((ca V.toDk (bO V.toDk s)).id))) ID ?_;refine EN (AL 8 ?_);refine XZ vw (ints RowT.zero.flat) λb4=>?_
 refine EN (AL 9 ?_);refine SW 0 bf ai ?_;refine EN (DN ?_)
 exact aE
  SB
  (λ_ s=>ak [1,0] rfl s)
  (tl13 ((b4):(Nat)) trivial)
 refine aF rfl ?_ ?_;refine XZ vw (ints RowT.zero.flat) λb4=>?_
 refine EN (AL 7 ?_);refine CE Mi (Leg.Does.hid (λa_=>ny r 1068 95 _ (gL ((ca V.toDk (bO V.toDk s)).rep a_)) (ca V.toDk (bO V.toDk s)).book ((ca V.toDk (bO V.toDk s)).id))) (SM [1]) ?_;refine EN (AL 9 ?_);refine SW 1 bf ai ?_;refine EN (DN ?_)
 exact aE
  SB
  (λ_ s=>ak [0,0] rfl s)
  (tl13 ((b4):(Nat)) trivial)
 exact bP;refine EN (PD 9 ?_);refine DN (ad J6 (CY (ah (ae (WK [0] (dZ rfl ?_))))));exact MQ (by rw[gS,if_neg (by rw[h42];decide)]);refine sr λ_ J15=>P2 ?_
 refine FA 2 dx bj ?_;refine FA 2 eG aO ?_;refine LG 0 Y3 (.int .i64 (((bO V.toDk s).view).epoch)) ?_ (hc:=by exact λa_=>(cz ((bO V.toDk s).rep a_) 0 rfl (by decide) (aV _ rfl)));refine PS ?_;refine ap ?_ ?_<;>intro h26;refine nx J15 (CY (ac (P4 ?_)));refine FA 2 dx bj ?_;refine LZ 0 eG bj an ((bO V.toDk s).view) ?_ (hc:=by exact λ_=>dh _);refine CZ NS (nJ V r (bO V.toDk s) ((bO V.toDk s).view)) ID λvR=>?_
 refine au ?_
 exact aE
  SB
  (λ_ q=>by
   rw[ca,if_pos h26]
   exact ak [0] rfl q)
  (tl4 (():Unit) trivial)
 refine nx J15 (CN (aR ?_))
 exact aE
  SB
  (λ_ q=>by
   rw[ca,if_neg h26]
   exact ak [0] rfl q)
  (tl4 (():Unit) trivial)
 refine sr λ_ J16=>P2 ?_
 refine FA 1938 dx lT ?_;refine LG 0 Y4 (.bool (s.busy)) ?_ (hc:=by exact λa_=>(zo _ rfl));refine bg ?_ ?_<;>intro h11;refine nx J16 (CY (ac (P2 ?_)));refine CZ NV (oH V r s) ID λvR=>?_
 refine au ?_
 exact aE
  SB
  (λ_ q=>by
   rw[if_pos h11]
   exact ak [0] rfl q)
  (tl1 (():Unit) trivial)
 refine nx J16 (CN (aR ?_))
 exact aE
  SB
  (λ_ q=>by
   rw[if_neg (by rw[h11];decide)]
   exact ak [0] rfl q)
  (tl1 (():Unit) trivial)
theorem E8{δ:Type}(V:Env δ)(r:Nat)(s:MS δ)[OkR V.toDk s]:DT 26 #[.pointer (some ⟨r,0,none⟩), .iface V.T V.ov] T0 [cU V r s] (dG (λ_ H=>H=[cU V r (gS V.toDk s)])):=by
 cases hv:(fz V.toDk (ca V.toDk (bO V.toDk s))).vote with
 |none=>exact Fa V r s hv
 |some vt=>exact E9 V r s vt hv
abbrev EV{δ:Type}(lg r:Nat)(s:MS δ):HP:=hid r (λ_:Unit=>RepT.cells (s.rep ⟨lg, .pointer none, .slice none 0 0⟩)) 95 (λ_=>[])
theorem wg{δ:Type}(lg r:Nat)(s:MS δ)(v:ViewT):
 DT 44 #[(.pointer (some ⟨r,0,none⟩)),(.agg (ints v.flat).toArray)] T0 [EV lg r s] (dG (λ_ H=>H=[EV lg r (lO s v)])):=by
 refine BD 20 Tryz.func44 rfl rfl rfl λw0 F hF=>sr λ_ J1=>XY (ints v.flat) λb3=>?_
 refine nx J1 (sr λ_ J2=>PS ?_);refine LW 0 eG bj an ?_;refine PS ?_;refine FA 2 dx bj ?_;refine iB (vs:=ints v.flat) (i:=1) (ab rfl) rfl rfl rfl rfl rfl (by rw[(an v)];exact bj) (bv _) rfl rfl (λ_=>LC (di _) (an _)) (λa_=>(Ro (s.rep ⟨lg, .pointer none, .slice none 0 0⟩) 0 rfl (by have h1:=(an v);omega) (cy ((an ((s.rep ⟨lg, .pointer none, .slice none 0 0⟩).view)).trans (an v).symm)))) (nx J2 (sr λ_ J3=>PS ?_));refine FA 0 eG aO ?_;refine LU 0 Y3 (aV v rfl) ?_;refine tp (ku AccT.zero (AccT.mk v.epoch BallotT.zero BallotT.zero ChangeT.zero) [(0,[Value.int .i64 v.epoch])] qi pm (g:=AccT.sg)) ?_;refine PS ?_;refine FA 1058 dx gp ?_;refine iB (vs:=ints (AccT.mk v.epoch BallotT.zero BallotT.zero ChangeT.zero).flat) (i:=1) (ab rfl) rfl rfl rfl rfl rfl (by rw[(be (AccT.mk v.epoch BallotT.zero BallotT.zero ChangeT.zero))];exact gp) (bv _) rfl rfl (λ_=>LC (di _) (be _)) (λa_=>(lu ((MS.setView s v).rep ⟨lg, .pointer none, .slice none 0 0⟩) 0 rfl (by have h1:=(be (AccT.mk v.epoch BallotT.zero BallotT.zero ChangeT.zero));omega) (cy ((be (((MS.setView s v).rep ⟨lg, .pointer none, .slice none 0 0⟩).acc)).trans (be (AccT.mk v.epoch BallotT.zero BallotT.zero ChangeT.zero)).symm)))) (nx J3 (sr λ_ J4=>P2 ?_));refine FA 1067 dx nO ?_;refine SK 1 nO (λ_=>di _) ?_ (hc:=by exact λa_=>(Rq _ rfl _));refine nx J4 (ac (P2 ?_));refine FA 1066 dx aO ?_;refine SK 1 aO (λ_=>di _) ?_ (hc:=by exact λa_=>(mM _ rfl _))
 exact au (WK [1] (bC rfl rfl))
theorem yW{δ:Type}(lg r:Nat)(s:MS δ)(m:RecT)(hw:WF m.row.flat):
 DT 47 #[(.pointer (some ⟨r,0,none⟩)),(.agg (ints m.flat).toArray)] T0 [EV lg r s] (dG (λ_ H=>H=[EV lg r (km s m)])):=by
 refine BD 93 Tryz.func47 rfl rfl rfl λw0 F hF=>sr λ_ J1=>XY (ints m.flat) λb3=>?_
 refine nx J1 (sr λ_ J2=>FA 0 eH aO ?_);refine LU 0 Y3 (lv m rfl) ?_;refine nx J2 (am (sr λ_ J3=>PS ?_));refine ap ?_ ?_<;>intro h7;refine PS ?_;refine nx J3 (CY (ac (P3 ?_)));refine FA 2 eH bf ?_;refine LV 0 el bf ai RecT.sp_row (y:=m.row) ?_;refine PS ?_;refine FA 9 dx bf ?_;refine iB (vs:=ints m.row.flat) (i:=1) (ab rfl) rfl rfl rfl rfl rfl (by rw[(ai m.row)];exact bf) (bv _) rfl rfl (λ_=>LC (di _) (ai _)) (λa_=>(RP (s.rep ⟨lg, .pointer none, .slice none 0 0⟩) 0 rfl (by have h1:=(ai m.row);omega) (cy ((ai ((s.rep ⟨lg, .pointer none, .slice none 0 0⟩).own)).trans (ai m.row).symm)))) (PS ?_);refine FA 1938 dx lT ?_;refine SK 1 lT (λ_=>di _) ?_ (hc:=by exact λa_=>(Rs _ rfl _));refine PS ?_;refine FA 1939 dx aO ?_;refine SK 1 aO (λ_=>di _) ?_ (hc:=by exact λa_=>(Rr _ rfl _));refine au (af (WK [1] (bC rfl ?_)));exact congrArg (λq=>[EV lg r q]) (show(MS.setKept (MS.setBusy (MS.setOwn s m.row) true) 0)=km s m by rw[km,if_pos h7]<;>rfl);refine PS ?_;refine nx J3 (CN (sr λ_ J4=>PS ?_));refine ap ?_ ?_<;>intro h20;refine PS ?_;refine nx J4 (CY (D1 0 bl ?_));refine PD 0 ?_;refine PD 1 ?_;refine FD 2 183 dx uM ?_;refine FD 3 1 eH aO ?_;refine LR 4 Y3 (Hd m rfl) ?_;refine FD 5 2 eH bf ?_;refine ta 6 rfl (aN (vs:=ints m.row.flat) rfl el rfl bf rfl (λ_ h=>h.2.1) (ai m.row) (sU m 0 rfl (by decide) (whole (ai m.row)))) ?_;refine AL 7 ?_
 refine CE OY (Leg.Does.hid (λa_=>tV r 183 95 _ (ey (s.rep ⟨lg, .pointer none, .slice none 0 0⟩)) s.mirror m.whose m.row hw)) (SM [1]) ?_;refine EN (DN (af (WK [0] (bC rfl ?_))));exact congrArg (λq=>[EV lg r q]) (show(il s m.whose m.row)=km s m by rw[km,if_neg h7,if_pos h20]<;>rfl);refine PS ?_;refine nx J4 (CN (sr λ_ J5=>PS ?_));refine ap ?_ ?_<;>intro h30;refine PS ?_;refine nx J5 (CY (D1 0 bl ?_));refine PD 0 ?_;refine PD 1 ?_;refine FD 2 183 dx uM ?_;refine FD 3 1 eH aO ?_;refine LR 4 Y3 (Hd m rfl) ?_;refine AL 5 ?_;refine CE OX (Leg.Does.hid (λa_=>tU r 183 95 _ (ey (s.rep ⟨lg, .pointer none, .slice none 0 0⟩)) s.mirror m.whose)) (SM [1]) ?_;refine EN (DN (af (WK [0] (bC rfl ?_))));exact congrArg (λq=>[EV lg r q]) (show(lc s m.whose)=km s m by rw[km,if_neg h7,if_neg h20,if_pos h30]<;>rfl);refine PS ?_;refine nx J5 (CN (sr λ_ J6=>PS ?_));refine ap ?_ ?_<;>intro h38;refine PS ?_;refine nx J6 (CY (sr λ_ J7=>PS ?_));refine FA 177 eH cJ ?_;refine LV 0 kV cJ aq RecT.sp_ballot (y:=m.ballot) ?_;refine PS ?_;refine FA 1058 dx gp ?_;refine FA 1059 qi cJ ?_
 refine iB (vs:=ints m.ballot.flat) (i:=1) (ab rfl) rfl rfl rfl rfl rfl (by rw[(aq m.ballot)];exact cJ) (bv _) rfl rfl (λ_=>LC (di _) (aq _)) (λa_=>(lu (s.rep ⟨lg, .pointer none, .slice none 0 0⟩) 1 rfl (by have h1:=(aq m.ballot);omega) (RZ ((s.rep ⟨lg, .pointer none, .slice none 0 0⟩).acc) 0 rfl (by have h1:=(aq m.ballot);omega) (cy ((aq (((s.rep ⟨lg, .pointer none, .slice none 0 0⟩).acc).vow)).trans (aq m.ballot).symm))))) (nx J7 (D1 0 bl ?_));refine PD 0 ?_;refine PD 1 ?_;refine PD 2 ?_;refine FD 3 1066 dx aO ?_;refine FD 5 177 eH cJ ?_;refine FD 6 177 kV aO ?_;refine LX 7 Y3 (.int .i64 (m.ballot.round)) ?_ (hc:=by exact RecT.pt_ballot m 0 rfl (by decide) (fE m.ballot rfl));refine AL 4 ?_;refine LG 1 Y3 (.int .i64 (s.round)) ?_ (hc:=by exact λa_=>(wH _ rfl));refine EN (ta 8 rfl (zr rfl rfl rfl) ?_);refine PD 9 ?_;refine FD 10 1066 dx aO ?_;refine AL 11 ?_;refine SK 1 aO (λ_=>di _) ?_ (hc:=by exact λa_=>(mM _ rfl _));refine EN (DN (af (WK [1] (bC rfl ?_))));exact congrArg (λq=>[EV lg r q]) (show(MS.setRound (MS.setAcc s (AccT.mk s.acc.epoch m.ballot s.acc.had s.acc.change)) (max s.round m.ballot.round))=km s m by rw[km,if_neg h7,if_neg h20,if_neg h30,if_pos h38]<;>rfl);refine PS ?_;refine nx J6 (CN (sr λ_ J8=>PS ?_));refine ap ?_ ?_<;>intro h57;refine PS ?_;refine nx J8 (CY (aa λ_ J9=>D1 0 bl ?_));refine PD 0 ?_;refine PD 1 ?_;refine PD 2 ?_;refine FD 3 177 eH cJ ?_
 refine ta 4 rfl (aN (vs:=ints m.ballot.flat) rfl kV rfl cJ rfl (λ_ h=>h.2.1) (aq m.ballot) (rK m 0 rfl (by decide) (whole (aq m.ballot)))) ?_;refine FD 5 177 eH cJ ?_;refine ta 6 rfl (aN (vs:=ints m.ballot.flat) rfl kV rfl cJ rfl (λ_ h=>h.2.1) (aq m.ballot) (rK m 0 rfl (by decide) (whole (aq m.ballot)))) ?_;refine FD 7 179 eH fF ?_;refine ta 8 rfl (aN (vs:=ints m.change.flat) rfl mS rfl fF rfl (λ_ h=>h.2.1) (aJ m.change) (Oo m 0 rfl (by decide) (whole (aJ m.change)))) ?_;refine PD 9 ?_;refine FD 10 1058 dx gp ?_;refine FD 11 1059 qi cJ ?_;refine AL 12 ?_;refine iB (vs:=ints m.ballot.flat) (i:=1) (ab rfl) rfl rfl rfl rfl rfl (by rw[(aq m.ballot)];exact cJ) (bv _) rfl rfl (λ_=>LC (di _) (aq _)) (λa_=>(lu (s.rep ⟨lg, .pointer none, .slice none 0 0⟩) 1 rfl (by have h1:=(aq m.ballot);omega) (RZ ((s.rep ⟨lg, .pointer none, .slice none 0 0⟩).acc) 0 rfl (by have h1:=(aq m.ballot);omega) (cy ((aq (((s.rep ⟨lg, .pointer none, .slice none 0 0⟩).acc).vow)).trans (aq m.ballot).symm))))) (EN (PD 13 ?_));refine FD 14 1058 dx gp ?_;refine FD 15 1061 qi cJ ?_;refine AL 16 ?_
 refine iB (vs:=ints m.ballot.flat) (i:=1) (ab rfl) rfl rfl rfl rfl rfl (by rw[(aq m.ballot)];exact cJ) (bv _) rfl rfl (λ_=>LC (di _) (aq _)) (λa_=>(lu ((MS.setAcc s (AccT.mk s.acc.epoch m.ballot s.acc.had s.acc.change)).rep ⟨lg, .pointer none, .slice none 0 0⟩) 3 rfl (by have h1:=(aq m.ballot);omega) (AccT.wr_had_ (((MS.setAcc s (AccT.mk s.acc.epoch m.ballot s.acc.had s.acc.change)).rep ⟨lg, .pointer none, .slice none 0 0⟩).acc) 0 rfl (by have h1:=(aq m.ballot);omega) (cy ((aq ((((MS.setAcc s (AccT.mk s.acc.epoch m.ballot s.acc.had s.acc.change)).rep ⟨lg, .pointer none, .slice none 0 0⟩).acc).had)).trans (aq m.ballot).symm))))) (EN (PD 17 ?_));refine FD 18 1058 dx gp ?_;refine FD 19 1063 qi fF ?_;refine AL 20 ?_;refine iB (vs:=ints m.change.flat) (i:=1) (ab rfl) rfl rfl rfl rfl rfl (by rw[(aJ m.change)];exact fF) (bv _) rfl rfl (λ_=>LC (di _) (aJ _)) (λa_=>(lu ((MS.setAcc s (AccT.mk s.acc.epoch m.ballot m.ballot s.acc.change)).rep ⟨lg, .pointer none, .slice none 0 0⟩) 5 rfl (by have h1:=(aJ m.change);omega) (AccT.wr_change_ (((MS.setAcc s (AccT.mk s.acc.epoch m.ballot m.ballot s.acc.change)).rep ⟨lg, .pointer none, .slice none 0 0⟩).acc) 0 rfl (by have h1:=(aJ m.change);omega) (cy ((aJ ((((MS.setAcc s (AccT.mk s.acc.epoch m.ballot m.ballot s.acc.change)).rep ⟨lg, .pointer none, .slice none 0 0⟩).acc).change)).trans (aJ m.change).symm))))) (EN (DN (ad J9 (D1 0 bl ?_))));refine PD 0 ?_;refine PD 1 ?_;refine PD 2 ?_
 refine FD 3 1066 dx aO ?_;refine FD 5 177 eH cJ ?_;refine FD 6 177 kV aO ?_;refine LX 7 Y3 (.int .i64 (m.ballot.round)) ?_ (hc:=by exact RecT.pt_ballot m 0 rfl (by decide) (fE m.ballot rfl));refine AL 4 ?_;refine LG 1 Y3 (.int .i64 (s.round)) ?_ (hc:=by exact λa_=>(wH _ rfl));refine EN (ta 8 rfl (zr rfl rfl rfl) ?_);refine PD 9 ?_;refine FD 10 1066 dx aO ?_;refine AL 11 ?_;refine SK 1 aO (λ_=>di _) ?_ (hc:=by exact λa_=>(mM _ rfl _));refine EN (DN (af (WK [1] (bC rfl ?_))));exact congrArg (λq=>[EV lg r q]) (show(MS.setRound (MS.setAcc s (AccT.mk s.acc.epoch m.ballot m.ballot m.change)) (max s.round m.ballot.round))=km s m by rw[km,if_neg h7,if_neg h20,if_neg h30,if_neg h38,if_pos h57]<;>rfl);refine PS ?_;refine nx J8 (CN (sr λ_ J10=>PS ?_));refine ap ?_ ?_<;>intro h88;refine PS ?_;refine nx J10 (CY (ac (PS ?_)));refine FA 182 eH bj ?_;refine LV 0 eG bj an RecT.sp_view (y:=m.view) ?_;refine CZ NX (wg lg r s m.view) (SM [1]) λvR=>?_
 refine au (af (WK [0] (bC rfl ?_)));exact congrArg (λq=>[EV lg r q]) (show(lO s m.view)=km s m by rw[km,if_neg h7,if_neg h20,if_neg h30,if_neg h38,if_neg h57,if_pos h88]<;>rfl);refine PS ?_;refine nx J10 (CN (aR (af (WK [1] (bC rfl ?_)))));exact congrArg (λq=>[EV lg r q]) (show s=km s m by rw[km,if_neg h7,if_neg h20,if_neg h30,if_neg h38,if_neg h57,if_neg h88]<;>rfl)
theorem Mx{bs:List UInt8}(h: ¬(pa bs).2≠0):WF (pa bs).1.row.flat:=by
 rcases KC bs with⟨m,e,_,_,hw⟩|e
 · rw[e];exact hw
 · rw[e]at h;exact absurd (by decide) h
theorem CS{δ:Type}(e0:δ)(i:Int)(d:Nat)(D:DS)(hD:D.Ok)(hI:Wal.DS.In D)(hb:D.ws.length≤1000000):
 DT 21 #[(.int .i64 (i)),(.pointer (some ⟨d,0,none⟩))] T0 [dk d D] (dG (λr' H=>((bY D).err≠0∧r'= .tuple #[.pointer none, .int .i64 (bY D).err]∧H=[dk d (bY D).D])∨((bY D).err=0∧((mw (bY D).recs (ww i e0)=none∧r'= .tuple #[.pointer none, .int .i64 1]∧H=[dk d (bY D).D])∨∃s r lg,mw (bY D).recs (ww i e0)=some s∧r'= .tuple #[.pointer (some ⟨r,0,none⟩), .int .i64 0]∧H=[EV lg r s,GZ lg d (((bY D).recs.length:Nat):Int) (bY D).used,dk d (bY D).D])))):=by
 refine BD 50 Tryz.func21 rfl rfl rfl λw0 F hF=>sr λ_ J1=>P2 ?_
 refine nx J1 (aa λ_ J2=>sr λ_ J3=>PS ?_);refine tp (gA rfl K8 rfl rfl) ?_;refine nx J3 (CN (qx J2 (sr λ_ J4=>PS ?_)));refine CR QY (Ih d D hD hI hb) ID λvR HR hR=>?_
 rcases hR with⟨he,rfl,rfl⟩| ⟨he,lg,vr,rfl,rfl⟩
 refine P4 ?_;refine P3 ?_;refine nx J4 (aa λ_ J5=>sr λ_ J6=>P2 ?_);refine ap ?_ ?_<;>intro h23;refine nx J6 (CY (sr λ_ J7=>P3 ?_));exact nx J7 (ah (ae (WK [0] (iC rfl rfl rfl (.inl ⟨he,rfl,rfl⟩)))))
 · exact absurd he h23
 change TL _ _ _ _ _ _ _ _ _ [aj lg [(.pointer (some ⟨d,0,none⟩)),(.int .i64 ((((bY D).recs.length:Nat):Int))),(.int .i64 ((bY D).used))] 171,Qq vr (bY D).recs,dk d (bY D).D];refine zk (p:=p4 vr (bY D).recs.length∧vr.oneCell'=true) (λw m=>by obtain⟨h,_,_,hs⟩:=m;obtain⟨_,_,_,_,a,_⟩:=eJ 1 (lb rfl) hs;exact vG a) (λ⟨hsl,hvr⟩=>P4 ?_);refine P3 ?_;refine nx J4 (aa λ_ J8=>sr λ_ J9=>P2 ?_);refine nx J9 (CN (qx J8 (sr λ_ J10=>P2 ?_)))
 refine tp (zu (cs:=RepT.cells (RepT.mk i (.pointer (some ⟨lg,0,none⟩)) ViewT.zero RowT.zero MirT.zero AccT.zero 0 (.pointer none) BookT.zero false 0 0 0 (.slice none 0 0) (#v[0,0,0,0,0]) (#v[RowT.zero,RowT.zero,RowT.zero,RowT.zero,RowT.zero]))) (segs:=[[Value.int .i64 0],[(.pointer none)],ints ViewT.zero.flat,ints RowT.zero.flat,MirT.cells MirT.zero,ints AccT.zero.flat,[Value.int .i64 0],[(.pointer none)],ints BookT.zero.flat,[Value.bool false],[Value.int .i64 0],[Value.int .i64 0],[Value.int .i64 0],[(.slice none 0 0)],ints (#v[0,0,0,0,0]).toList,ints ((#v[RowT.zero,RowT.zero,RowT.zero,RowT.zero,RowT.zero]).toList.flatMap RowT.flat)]) (res:=[[Value.int .i64 i],[(.pointer (some ⟨lg,0,none⟩))],ints ViewT.zero.flat,ints RowT.zero.flat,MirT.cells MirT.zero,ints AccT.zero.flat,[Value.int .i64 0],[(.pointer none)],ints BookT.zero.flat,[Value.bool false],[Value.int .i64 0],[Value.int .i64 0],[Value.int .i64 0],[(.slice none 0 0)],ints (#v[0,0,0,0,0]).toList,ints ((#v[RowT.zero,RowT.zero,RowT.zero,RowT.zero,RowT.zero]).toList.flatMap RowT.flat)]) (parts:=[(0,[Value.int .i64 i]),(1,[(.pointer (some ⟨lg,0,none⟩))])]) rfl rfl dx (by kernel_rfl) (by kernel_rfl) rfl (fI rfl rfl (fI rfl ((rfl:[(.pointer (some ⟨lg,0,none⟩))].length=1).trans (rfl:[(.pointer none)].length=1).symm) my)) (eU (RepT.mk i (.pointer (some ⟨lg,0,none⟩)) ViewT.zero RowT.zero MirT.zero AccT.zero 0 (.pointer none) BookT.zero false 0 0 0 (.slice none 0 0) (#v[0,0,0,0,0]) (#v[RowT.zero,RowT.zero,RowT.zero,RowT.zero,RowT.zero]))).symm) ?_
 refine XY (RepT.cells (RepT.mk i (.pointer (some ⟨lg,0,none⟩)) ViewT.zero RowT.zero MirT.zero AccT.zero 0 (.pointer none) BookT.zero false 0 0 0 (.slice none 0 0) (#v[0,0,0,0,0]) (#v[RowT.zero,RowT.zero,RowT.zero,RowT.zero,RowT.zero]))) λb28=>?_
 refine PS ?_;refine nx J10 (sr λ_ J11=>ci (H':=EV lg b28 (Cf i e0)::[aj lg [(.pointer (some ⟨d,0,none⟩)),(.int .i64 ((((bY D).recs.length:Nat):Int))),(.int .i64 ((bY D).used))] 171,Qq vr (bY D).recs,dk d (bY D).D]) (λ_ q=>bw (p:=λ_:Unit=>[aj b28 (RepT.cells ((Cf i e0).rep ⟨lg, .pointer none, .slice none 0 0⟩)) 95]) () (aD [0] rfl q)) (PS ?_));refine CE O8 (yn) ID ?_;refine CZ NX (wg lg b28 (Cf i e0) firstV) ID λvR=>?_
 refine nx J11 (aa λ_ J12=>sr λ_ J13=>PS ?_);refine tp (dO rfl wE rfl hsl) ?_;refine PS ?_;refine nx J13 (am ?_)
 refine bG (α:=(Nat)×(MS δ)) (λ⟨k,s⟩=>k≤(bY D).recs.length∧mw (bY D).recs (ww i e0)=mw ((bY D).recs.drop k) s) (λ⟨k,s⟩=>[(9,(.pointer (some ⟨b28,0,none⟩))),(32,vr),(33,(.int .i64 ((((bY D).recs.length:Nat):Int)))),(34,(.int .i64 (((k:Nat):Int))))]) (λ⟨k,s⟩=>[EV lg b28 s,aj lg [(.pointer (some ⟨d,0,none⟩)),(.int .i64 ((((bY D).recs.length:Nat):Int))),(.int .i64 ((bY D).used))] 171,Qq vr (bY D).recs,dk d (bY D).D]) (λ⟨k,s⟩=>(bY D).recs.length-k) (0,(ww i e0))
  ⟨aP _,rfl⟩ SB
  (λ_ s=>ak [0,0,0,0] rfl s) (λ⟨k,s⟩ hinv=>?_)
 obtain⟨hk,hrs⟩:=hinv;refine sr λ_ J14=>PS ?_
 refine ap ?_ ?_<;>intro h35;refine ci (λ_ s=>aD [2] rfl s) (No (λus=>?_));change TL _ _ _ _ _ _ _ _ _ [own vr ((bY D).recs.length) (us) 47 1,eV us (bY D).recs 5,EV lg b28 s,aj lg [(.pointer (some ⟨d,0,none⟩)),(.int .i64 ((((bY D).recs.length:Nat):Int))),(.int .i64 ((bY D).used))] 171,dk d (bY D).D];refine zk (p:=us.length=(bY D).recs.length*1) (λw m=>m.own_len (i:=0) (lb rfl) rfl) (λhul=>?_);rw[gB]at hul;have hkl:k< (bY D).recs.length:=by omega
 refine jV 0 rfl rfl (by omega) (λg cap hv hcap=>?_);have hvq:vr= .slice (some ⟨g,0,none⟩) (bY D).recs.length cap:=hv;refine nx J14 (aa λ_ J15=>CY (qx J15 (aa λ_ J16=>am (sr λ_ J17=>tp (bn (r:=k) hv rfl wE lF rfl rfl (by omega) (by omega) (by omega)) ?_))));refine tp (cm (v:=(us.getD k undef)) rfl fO rfl rfl (gM 0 rfl hvq rfl) (by simp[List.getD_eq_getElem?_getD,show k<us.length by omega])) ?_;refine PS ?_;refine nx J17 (sr λ_ J18=>PS ?_);refine CF QX (wt (us.getD k undef) (bY D).recs[k]) ID (λg d s=>vh 1 hkl rfl rfl g d s) ?_;refine P3 ?_;refine XZ I8 (ints RecT.zero.flat) λb12=>?_
 refine SW 0 gq bz ?_;refine PS ?_;refine nx J18 (aa λ_ J19=>sr λ_ J20=>P2 ?_);refine ap ?_ ?_<;>intro h44;refine nx J20 (CY (sr λ_ J21=>P2 ?_));exact nx J21 (ah (ae (aI (ae (ae (aI (ae (WK [5] (iC rfl rfl rfl (.inr ⟨he, .inl ⟨hrs.trans (HW hkl h44),rfl,rfl⟩⟩))))))))));refine nx J20 (CN (qx J19 (ac (PS ?_))));refine LW 0 eH gq bz ?_;refine CZ QW (yW lg b28 s (pa (bY D).recs[k]).1 (Mx h44)) (SM [3]) λvR=>?_
 refine au (af (ad J16 (ac (AD ?_))));refine PS ?_;refine au ?_
 exact aL ((k+1,(km s (pa (bY D).recs[k]).1)):(Nat)×(MS δ)) ⟨by omega,hrs.trans (JI hkl h44)⟩ (by show(bY D).recs.length- (k+1)< (bY D).recs.length-k;omega)
  SB
  (λ_ s=>aD [1,1,0,0] rfl (bw (p:=λus:List Value=>[own vr (bY D).recs.length us 47 1,eV us (bY D).recs 5]) us (ak [2,2,0,1,1] rfl s)))
 refine nx J14 (aa λ_ J22=>CN (aW (aA (aA (bq (ad J12 (sr λ_ J23=>P3 ?_)))))));refine nx J23 (ah (WK [0,0,1] (iC rfl rfl rfl ?_)));exact .inr ⟨he, .inr ⟨s,b28,lg,by rw[hrs,dz (by omega)];rfl,rfl,rfl⟩⟩
def lA(k:Nat)(m:MsgT):List UInt8:=jP ((k / 5:Nat):Int) ((k%5:Nat):Int) (cX m)
def da(W:List (List MsgT)):List (List (List UInt8)):=(List.range 25).map λk=>(W.getD k []).map (lA k)
theorem qp(W:List (List MsgT)):(da W).length=25:=by simp[da]
theorem oq(W:List (List MsgT)){k:Nat}(h:k<25):(da W).getD k []=(W.getD k []).map (lA k):=by simp[da,h,List.getD_eq_getElem?_getD]
theorem w4(W:List (List MsgT)){k:Nat}(h:k<25)(hW:W.length=25)(l:List MsgT):(da W).set k (l.map (lA k))=da (W.set k l):=by
 refine List.ext_getElem? λj=>?_
 by_cases hj:j=k
 · subst hj
   rw[List.getElem?_set_self (by rw[qp];exact h)];simp[da,h,List.getD_eq_getElem?_getD,List.getElem?_set_self (show j<W.length by omega)]
 · rw[List.getElem?_set_ne (λe=>hj e.symm)]
   unfold da;rw[List.getElem?_map,List.getElem?_map]
   by_cases hk:j<25
   · simp[hk,List.getD_eq_getElem?_getD,List.getElem?_set_ne (λe=>hj e.symm)]
   · simp[hk]
theorem Cs{f t:Int}(hf:hZ f=true)(ht:hZ t=true)(m:MsgT):lA (bE f t) m=jP f t (cX m):=by
 have h1:0≤f∧f<5:=of_decide_eq_true hf;have h2:0≤t∧t<5:=of_decide_eq_true ht;unfold lA bE;rw[show(((f.toNat*5+t.toNat) / 5:Nat):Int)=f by omega,show(((f.toNat*5+t.toNat)%5:Nat):Int)=t by omega]
theorem tg{f t:Int}(h:dA f t=true):hZ f=true∧hZ t=true:=by
 unfold dA at h;rw[ao,ao]at h;exact h.1
theorem Jf{W:List (List MsgT)}(hW:W.length=25){f:Nat}(s:SaidT):pF (da W) ((f:Nat):Int) s.to' (jP ((f:Nat):Int) s.to' (cX s.msg))=da (qF W f s):=by
 unfold pF qF;cases hv:dA ((f:Nat):Int) s.to'
 · rfl
 · obtain⟨h1,h2⟩:=jh hv
   obtain⟨h3,h4⟩:=tg hv;rw[if_pos rfl,if_pos rfl,oq W h1,←Cs h3 h4,←w4 W h1 hW];unfold Bx;rw[cn];split
   · rw[e8];rfl
   · rfl
theorem JM(W:List (List MsgT))(f:Nat)(s:SaidT):(qF W f s).length=W.length:=by unfold qF;split<;>simp
theorem HE(W:List (List MsgT))(f:Nat)(l:List SaidT):(gT W f l).length=W.length:=by
 induction l generalizing W with
 |nil=>rfl
 |cons s l ih=>exact(ih _).trans (JM _ _ _)
theorem HF(W:List (List MsgT))(f:Nat)(l:List SaidT)(s:SaidT):gT W f (l++[s])=qF (gT W f l) f s:=by simp[gT]
theorem w3(k:Nat)(m:MsgT):(lA k m).length≤1000000:=by
 unfold lA;rw[sL];have:=uj m;omega
theorem xP(c:Nat)(w:Int):
 DT 22 #[(.pointer (some ⟨c,0,none⟩)),(.int .i64 (w))] T0 [] (RI (.bool (hZ w)) []):=by
 refine BD 15 Tryz.func22 rfl rfl rfl λw0 F hF=>sr λ_ J1=>PS ?_
 refine nx J1 (sr λ_ J2=>PS ?_);refine tp (gk rfl On rfl rfl) ?_;refine P3 ?_;refine ap ?_ ?_<;>intro h9
 iterate 6 refine PS ?_
 refine nx J2 (ah (WK [] (aw rfl rfl ?_)));exact⟨congrArg Value.bool (by unfold hZ;simp only[decide_eq_decide];omega),rfl⟩;refine P2 ?_;refine UF ?_;refine UF ?_;refine P2 ?_;refine nx J2 (ah (WK [] (aw rfl rfl ?_)));exact⟨congrArg Value.bool (by unfold hZ;symm;exact decide_eq_false (by omega)),rfl⟩
theorem eQ(c i:Nat)(hi:i<5):DT 22 #[.pointer (some ⟨c,0,none⟩), .int .i64 ((i:Nat):Int)] T0 [] (RI (.bool true) []):=by
 have:=xP c ((i:Nat):Int)
 rwa [show hZ ((i:Nat):Int)=true from decide_eq_true ⟨by omega,by omega⟩]at this
theorem ti(c n i:Nat)(D M P:Nat→Value)(hi:i<5)(hM:M i= .pointer none):
 DT 23 #[(.pointer (some ⟨c,0,none⟩)),(.int .i64 (((i:Nat):Int)))] T0 [aj c (fh n D M P) 56] (RI (.bool false) [aj c (fh n D M P) 56]):=by
 refine BD 27 Tryz.func23 rfl rfl rfl λw0 F hF=>sr λ_ J1=>PS ?_
 refine nx J1 (sr λ_ J2=>P2 ?_);refine CE rF (eQ c i hi) ID ?_;refine P4 ?_;refine FA 6 qj p7 ?_;refine IX (6+i) rI iQ ?_;refine LT 0 pn (.pointer none) ?_ (hc:=by exact(yv n D M P hi).trans (congrArg some hM));refine tq (jA rfl pn rfl rfl) ?_;refine P2 ?_
 iterate 8 refine UF ?_
 refine P2 ?_;exact nx J2 (ah (WK [0] (aw rfl rfl ⟨rfl,rfl⟩)))
theorem OS (c i : Nat) : yK Tryz.prog 63 (OR c i) "Send" 210 := fun w => by kernel_rfl
theorem th(c n i:Nat)(D M P:Nat→Value)(hi:i<5)(d r:Nat)(e:DS)(hD:D i= .pointer (some ⟨d,0,none⟩))(hM:M i= .pointer (some ⟨r,0,none⟩)):
 DT 23 #[(.pointer (some ⟨c,0,none⟩)),(.int .i64 (((i:Nat):Int)))] T0 [aj c (fh n D M P) 56,dk d e] (RI (.bool (!e.dn)) [aj c (fh n D M P) 56,dk d e]):=by
 refine BD 27 Tryz.func23 rfl rfl rfl λw0 F hF=>sr λ_ J1=>PS ?_
 refine nx J1 (sr λ_ J2=>P2 ?_);refine CE rF (eQ c i hi) ID ?_;refine P4 ?_;refine FA 6 qj p7 ?_;refine IX (6+i) rI iQ ?_;refine LT 0 pn (.pointer (some ⟨r,0,none⟩)) ?_ (hc:=by exact(yv n D M P hi).trans (congrArg some hM));refine tq (gk rfl pn rfl rfl) ?_
 iterate 5 refine PS ?_
 refine FA 1 qj CB ?_;refine IX (1+i) Nl xg ?_;refine LT 0 K8 (.pointer (some ⟨d,0,none⟩)) ?_ (hc:=by exact(Ge n D M P hi).trans (congrArg some hD));refine CE O7 (G3 d e) (SM [1]) ?_;refine tq (pg rfl rfl rfl) ?_;refine P2 ?_;exact nx J2 (ah (WK [1,0] (aw rfl rfl ⟨rfl,rfl⟩)))
theorem Fl(c n i:Nat)(D M P:Nat→Value)(hi:i<5)(d:Nat)(e:DS)(hD:D i= .pointer (some ⟨d,0,none⟩))(W:List (List MsgT))(hW:W.length=25)(to':Int)(m:MsgT):
 DT 210 #[(.agg #[(.pointer (some ⟨c,0,none⟩)),(.int .i64 (((i:Nat):Int)))]),(.int .i64 (to')),(.agg (ints m.flat).toArray)] T0 [aj c (fh n D M P) 56,dk d e,eT 106 169 5 n (da W)] (dG (λ_ H=>H=[aj c (fh n D M P) 56,dk d e,eT 106 169 5 n (da (if e.dn then W else qF W i ⟨to',m⟩))])):=by
 refine BD 27 Tryz.func210 rfl rfl rfl λw0 F hF=>sr λ_ J1=>XB λb3=>?_
 refine XY (ints m.flat) λb5=>?_
 refine nx J1 (aa λ_ J2=>D2 1 2 df ?_);refine FD 0 0 Om Jr ?_;refine LX 1 On (.pointer (some ⟨c,0,none⟩)) ?_ (hc:=by exact rfl);refine FD 2 1 Om aO ?_;refine LX 3 Y3 (.int .i64 (((i:Nat):Int))) ?_ (hc:=by exact rfl);refine PD 4 ?_;refine FD 5 1 qj CB ?_;refine IY 6 (1+i) Nl xg ?_;refine LX 7 K8 (.pointer (some ⟨d,0,none⟩)) ?_ (hc:=by exact(Ge n D M P hi).trans (congrArg some hD));refine AL 8 ?_;refine CE O7 (G3 d e) (SM [3]) ?_;refine bg ?_ ?_<;>intro h14;refine EN (PD 9 ?_);refine DN (ad J2 (CN (aR (WK [3,0,2] (bC rfl ?_)))));exact by rw[show e.dn=true by assumption];rfl
 refine EN (PD 9 ?_);refine DN (ad J2 (CY (sR (λw=>Frm F w∧w.heap[b3]?=some (.cells ([(.pointer (some ⟨c,0,none⟩)),(.int .i64 (((i:Nat):Int)))]).toArray 63 (0,0))∧w.heap[c]?=some (.cells (fh n D M P).toArray 56 (0,0))∧w.heap[b5]?=some (.cells (ints m.flat).toArray 134 (0,0))∧True) df rfl (λ_ s=>⟨fD s,s.block 2 (lb rfl) rfl,s.block 3 (lb rfl) rfl,s.block 1 (lb rfl) rfl,trivial⟩) (FD 0 0 Om Jr ?_))));refine LX 1 On (.pointer (some ⟨c,0,none⟩)) ?_ (hc:=by exact rfl);refine PD 2 ?_;refine FD 3 0 qj A8 ?_;refine LX 4 K9 (.pointer (some ⟨n,0,none⟩)) ?_ (hc:=by exact B2 n D M P);refine FD 5 1 Om aO ?_;refine LX 6 Y3 (.int .i64 (((i:Nat):Int))) ?_ (hc:=by exact rfl);refine PD 7 ?_;refine LY 8 bi ct aH ?_;refine AL 9 ?_;refine CR Pd (Ee m) ID λvR HR hR=>?_
 obtain⟨_,rfl,rfl⟩:=hR;revert vR;intro ue;refine EN (AL 10 ?_);refine CQ Pe (za n (da W) ((i:Nat):Int) to' ue (cX m) (uj m) (qp W)) (SM [5]) (λg d s=>Lk (tZ 0 rfl rfl g d s)) λvR HR hR=>?_
 obtain⟨_,rfl⟩:=hR;rw[Jf hW ⟨to',m⟩];refine EN (DN (WK [5,2,0] (bC rfl ?_)));exact by rw[show e.dn=false by assumption];rfl
def Ie(c n d i:Nat)(D M P:Nat→Value)(W:List (List MsgT))(e:LD)(l:List SaidT):HP:=bR [aj c (fh n D M P) 56,dk d e.D,eT 106 169 5 n (da (gT W i l))]
section
variable {c n d i:Nat} {D M P:Nat→Value} {W:List (List MsgT)} {e:LD} {l:List SaidT} {H:List HP} {h:Hl}
theorem uW(s:bR (Ie c n d i D M P W e l::H) h):bR (aj c (fh n D M P) 56::dk d e.D::eT 106 169 5 n (da (gT W i l))::H) h:=(cj [_,_,_] H).2 s
theorem uV(s:bR (aj c (fh n D M P) 56::dk d e.D::eT 106 169 5 n (da (gT W i l))::H) h):bR (Ie c n d i D M P W e l::H) h:=(cj [_,_,_] H).1 s
end
def yo(c n d i:Nat)(D M P:Nat→Value)(hi:i<5)(hD:D i= .pointer (some ⟨d,0,none⟩))(W:List (List MsgT))(hW:W.length=25):Env LD where
 toDk:=KD
 T:=63
 ov:=OR c i
 sf:=210
 E:=Ie c n d i D M P W
 lg g e:=GZ g d ((e.cnt:Nat):Int) e.used
 me:=OS c i
 nm:=Pf
 say e l to' m _:=by
  refine Leg.Does.conv (Fl c n i D M P hi d e.D hD (gT W i l) (by rw[HE];exact hW) to' m) (λh s=>uW s) λx H F w hp hs=>?_
  cases x with
  |returned v=>
   obtain rfl:=hp;refine⟨_,hs.mono (λh s=>uV (l:=if KD.dn e then l else l++[SaidT.mk to' m]) ?_),rfl⟩
   have q:gT W i (if KD.dn e then l else l++[SaidT.mk to' m])=if e.D.dn then gT W i l else qF (gT W i l) i ⟨to',m⟩:=by
    show gT W i (if e.D.dn then l else _)=_;split
    · rfl
    · exact HF ..
   rw[q];exact s
  |panicked c=>exact hp.elim
  |outgrown=>exact hp.elim
 put g x bs e l hok hlen:=by
  refine Leg.Does.withinR (A:=[GZ g d ((e.cnt:Nat):Int) e.used,dk d e.D]) (B:=[aj c (fh n D M P) 56,eT 106 169 5 n (da (gT W i l))]) (Cv g d e.cnt e.used x bs e.D hok.dk.ok (by have:=hok.dk.ws;omega) hok.used (by have:=hok.cnt;have:=hok.used;omega)) (λF g h dj=>Qe h dj) (λh s=>?_) λv H hp=>?_
  · exact aD [3,1,0,0] rfl (uW (aD [1,0] rfl s))
  · obtain⟨hv,rfl⟩:=hp
    exact⟨[GZ g d (((e.put bs).1.cnt:Nat):Int) (e.put bs).1.used,Ie c n d i D M P W (e.put bs).1 l],λh s=>aD [1,0] rfl (uV (e:=(e.put bs).1) (l:=l) (aD [2,1,1,0] rfl s)),hv,rfl⟩
abbrev lU(v:Value)(l:List ReplyT):HP:=own v l.length (ints (List.flatMap ReplyT.flat l)) 45 3
abbrev HN(s:MS LD)(d r:Nat)(a:Adr):List HP:=[aj r (RepT.cells (s.rep a)) 95,GZ a.lg d ((s.e.cnt:Nat):Int) s.e.used,lU a.rs s.replies,Gr a.vo s.vote]
abbrev gm(s:MS LD)(d r:Nat):HP:=pack (HN s d r)
def rE(x:Slot)(d r:Nat):HP:=match x.run with
 |some s=>gm s d r
 |none=>λ_=>True
abbrev lG(x:Slot)(d r:Nat)(p:Value):List HP:=[dk d x.dk,lU p x.past,rE x d r]
def lH(x:Slot)(d r:Nat)(p:Value):HP:=bR (lG x d r p)
structure CX where
 n:Nat
 d:Nat→Nat
 r:Nat→Nat
 p:Nat→Value
abbrev nv(g:CX):Nat→Value:=λi=> .pointer (some ⟨g.d i,0,none⟩)
def y8(x:Slot)(r:Nat):Value:=match x.run with
 |some _=> .pointer (some ⟨r,0,none⟩)
 |none=> .pointer none
abbrev kF(a:CL)(r:Nat→Nat):Nat→Value:=λi=>y8 (a.at' i) (r i)
abbrev qU(c:Nat)(a:CL)(g:CX):List HP:=[aj c (fh g.n (nv g) (kF a g.r) g.p) 56,eT 106 169 5 g.n (da a.W),bR ((List.range 5).map λi=>lH (a.at' i) (g.d i) (g.r i) (g.p i))]
def fX(c:Nat)(a:CL):HP:=pack (qU c a)
section
variable {c n d i r:Nat} {D M P:Nat→Value} {W:List (List MsgT)} {s:MS LD} {H:List HP} {h:Hl} {hi:i<5} {hD:D i= .pointer (some ⟨d,0,none⟩)} {hW:W.length=25}
theorem FJ(ho:s.o=[])(q:bR (aj c (fh n D M P) 56::dk d s.e.D::eT 106 169 5 n (da W)::gm s d r::H) h):bR (cU (yo c n d i D M P hi hD W hW) r s::H) h:=by
 obtain⟨a,q⟩:=fH (aD [3,0,0,0] rfl q);have q2:=aD [4,4,4,0,0,0,0] rfl q;have q3:=uV (i:=i) (W:=W) (e:=s.e) (l:=[]) q2;refine bw (p:=λa:Adr=>[aj r (RepT.cells (s.rep a)) 95,GZ a.lg d ((s.e.cnt:Nat):Int) s.e.used,lU a.rs s.replies,Gr a.vo s.vote,Ie c n d i D M P W s.e s.o]) a ?_;rw[ho];exact aD [1,1,1,1,0] rfl q3
theorem BH(q:bR (cU (yo c n d i D M P hi hD W hW) r s::H) h):bR (aj c (fh n D M P) 56::dk d s.e.D::eT 106 169 5 n (da (gT W i s.o))::gm s.hush d r::H) h:=by
 obtain⟨a,q⟩:=fH q;have q1:bR ([aj r (RepT.cells (s.rep a)) 95,GZ a.lg d ((s.e.cnt:Nat):Int) s.e.used,lU a.rs s.replies,Gr a.vo s.vote,Ie c n d i D M P W s.e s.o]++H) h:=q;have q2:=uW (aD [4,0,0,0,0] rfl q1);have q3:=bw (p:=HN s.hush d r) a (aD [3,3,3,3,0,0,0] rfl q2);exact aD [1,1,1,0] rfl q3
end
theorem F8(c n i:Nat)(D M P:Nat→Value)(hi:i<5)(d r:Nat)(s:MS LD)(hD:D i= .pointer (some ⟨d,0,none⟩))(hM:M i= .pointer (some ⟨r,0,none⟩))(W:List (List MsgT))(hW:W.length=25)(ho:s.o=[])(hs:OkR KD s)(o:OpT)(k:Int)(hk:0≤k∧k≤4)(hch:OkCh o.change)(hrs:s.replies.length≤1000000):
 DT 9 #[(.pointer (some ⟨c,0,none⟩)),(.agg (ints (OpT.mk k ((i:Nat):Int) o.to' o.key o.n o.change o.mask o.torn o.cut).flat).toArray)] T0 [aj c (fh n D M P) 56,dk d s.e.D,eT 106 169 5 n (da W),gm s d r] (dG (λv H=>(s.e.D.dn=true∧v= .int .i64 4∧H=[aj c (fh n D M P) 56,dk d s.e.D,eT 106 169 5 n (da (W)),gm s d r])∨(s.e.D.dn=false∧v= .int .i64 (bL KD s ((OpT.mk k ((i:Nat):Int) o.to' o.key o.n o.change o.mask o.torn o.cut))).2∧H=[aj c (fh n D M P) 56,dk d (bL KD s ((OpT.mk k ((i:Nat):Int) o.to' o.key o.n o.change o.mask o.torn o.cut))).1.hush.e.D,eT 106 169 5 n (da (gT W i (bL KD s ((OpT.mk k ((i:Nat):Int) o.to' o.key o.n o.change o.mask o.torn o.cut))).1.o)),gm (bL KD s ((OpT.mk k ((i:Nat):Int) o.to' o.key o.n o.change o.mask o.torn o.cut))).1.hush d r]))):=by
 refine BD 114 Tryz.func9 rfl rfl rfl λw0 F hF=>sr λ_ J1=>XY (ints (OpT.mk k ((i:Nat):Int) o.to' o.key o.n o.change o.mask o.torn o.cut).flat) λb3=>?_
 refine PS ?_;refine nx J1 (aa λ_ J2=>sr λ_ J3=>PS ?_);refine FA 1 eZ aO ?_;refine LT 0 Y3 (.int .i64 (((i:Nat):Int))) ?_ (hc:=by exact bT _ rfl);refine CE rF (eQ c i hi) ID ?_;refine PS ?_;refine nx J3 (CN (qx J2 (aa λ_ J4=>sr λ_ J5=>FA 0 eZ aO ?_)));refine LT 0 Y3 (.int .i64 (k)) ?_ (hc:=by exact cN _ rfl);refine nx J5 (am (aa λ_ J6=>fA (α:=Unit) (λ_u=>True) (λ_u=>[(0,(.pointer (some ⟨c,0,none⟩))),(3,(.pointer (some ⟨b3,0,none⟩))),(4,(.int .i64 0)),(11,(.int .i64 (k))),(12,(.bool true))]) (λ_u=>[aj b3 (ints (OpT.mk k ((i:Nat):Int) o.to' o.key o.n o.change o.mask o.torn o.cut).flat) 30,aj c (fh n D M P) 56,dk d s.e.D,eT 106 169 5 n (da W),gm s d r]) (λ_u hinv=>?_) (λtl6=>?_)));have _:=hinv;refine ad J6 (CY (aa λ_ J7=>sr λ_ J8=>PS ?_));refine FA 1 eZ aO ?_;refine LT 0 Y3 (.int .i64 (((i:Nat):Int))) ?_ (hc:=by exact bT _ rfl);refine CE DM (th c n i D M P hi d r s.e.D hD hM) (SM [1,1]) ?_;refine bg ?_ ?_<;>intro h21;refine PS ?_;refine nx J8 (CN (qx J7 (aa λ_ J9=>D2 2 0 df ?_)));refine PD 0 ?_;refine FD 1 1 eZ aO ?_;refine LX 2 Y3 (.int .i64 (((i:Nat):Int))) ?_ (hc:=by exact bT _ rfl);refine PD 3 ?_;refine FD 4 6 qj p7 ?_;refine IY 5 (6+i) rI iQ ?_;refine LX 6 pn (.pointer (some ⟨r,0,none⟩)) ?_ (hc:=by exact(yv n D M P hi).trans (congrArg some hM));refine PD 7 ?_;refine FD 8 1 eZ aO ?_
 refine LX 9 Y3 (.int .i64 (((i:Nat):Int))) ?_ (hc:=by exact bT _ rfl);refine ta 10 rfl (kM (cells:=#[(.pointer (some ⟨c,0,none⟩)),(.int .i64 (((i:Nat):Int)))]) rfl rfl (by as_aux_lemma=>kernel_rfl)) ?_;refine ta 11 rfl (qd rfl Om rfl rfl) ?_;refine LY 12 eZ st ic ?_;refine AL 13 ?_;refine ci (H':=[cU (yo c n d i D M P hi hD W hW) r s,aj b3 (ints (OpT.mk k ((i:Nat):Int) o.to' o.key o.n o.change o.mask o.torn o.cut).flat) 30]) (λ_ q=>FJ ho (aD [0,0,1,1] rfl q)) (CE Ra (@B1 _ (yo c n d i D M P hi hD W hW) r s ((OpT.mk k ((i:Nat):Int) o.to' o.key o.n o.change o.mask o.torn o.cut)) hs hch hrs) ID ?_);change TL _ _ _ _ _ _ _ _ _ [cU (yo c n d i D M P hi hD W hW) r ((bL KD s ((OpT.mk k ((i:Nat):Int) o.to' o.key o.n o.change o.mask o.torn o.cut))).1),aj b3 (ints (OpT.mk k ((i:Nat):Int) o.to' o.key o.n o.change o.mask o.torn o.cut).flat) 30];refine ci (H':=[aj c (fh n D M P) 56,dk d (((bL KD s ((OpT.mk k ((i:Nat):Int) o.to' o.key o.n o.change o.mask o.torn o.cut))).1).e.D),eT 106 169 5 n (da (gT W i ((bL KD s ((OpT.mk k ((i:Nat):Int) o.to' o.key o.n o.change o.mask o.torn o.cut))).1).o)),gm (((bL KD s ((OpT.mk k ((i:Nat):Int) o.to' o.key o.n o.change o.mask o.torn o.cut))).1).hush) d r,aj b3 (ints (OpT.mk k ((i:Nat):Int) o.to' o.key o.n o.change o.mask o.torn o.cut).flat) 30]) (λ_ q=>BH (s:=(bL KD s ((OpT.mk k ((i:Nat):Int) o.to' o.key o.n o.change o.mask o.torn o.cut))).1) q) (EN (PD 14 ?_))
 refine DN (ad J9 (ah (aI (ae (WK [0,0,0,0] (aw rfl rfl ?_))))));exact .inr ⟨(by simpa using h21),rfl,rfl⟩;refine PS ?_;refine nx J8 (CY (sr λ_ J10=>PS ?_));refine nx J10 (ah (ae (aI (ae (WK [0,0,1,1] (aw rfl rfl ?_))))));exact .inl ⟨(by simpa using h21),rfl,rfl⟩;refine sr λ_ J11=>P2 ?_
 refine ap ?_ ?_<;>intro h12;refine nx J11 (CY (aR ?_))
 exact aE
  SB
  (λ_ s=>ak [0,0,0,0,0] rfl s)
  (tl6 (():Unit) trivial)
 refine nx J11 (CN (sr λ_ J12=>P2 ?_));refine ap ?_ ?_<;>intro h12;refine nx J12 (CY (aR ?_))
 exact aE
  SB
  (λ_ s=>ak [0,0,0,0,0] rfl s)
  (tl6 (():Unit) trivial)
 refine nx J12 (CN (sr λ_ J13=>P2 ?_));refine ap ?_ ?_<;>intro h12;refine nx J13 (CY (aR ?_))
 exact aE
  SB
  (λ_ s=>ak [0,0,0,0,0] rfl s)
  (tl6 (():Unit) trivial)
 refine nx J13 (CN (sr λ_ J14=>P2 ?_));refine ap ?_ ?_<;>intro h12;refine nx J14 (CY (aR ?_))
 exact aE
  SB
  (λ_ s=>ak [0,0,0,0,0] rfl s)
  (tl6 (():Unit) trivial)
 refine nx J14 (CN (ac (PS ?_)));refine ap ?_ ?_<;>intro h17;refine PS ?_;refine au ?_
 exact aE
  SB
  (λ_ s=>ak [0,0,0,0,0] rfl s)
  (tl6 (():Unit) trivial)
 · exact absurd h17 (by omega)
theorem El(c n i:Nat)(D M P:Nat→Value)(hi:i<5)(hM:M i= .pointer none)(o:OpT)(k:Int)(hk:0≤k∧k≤4):
 DT 9 #[(.pointer (some ⟨c,0,none⟩)),(.agg (ints (OpT.mk k ((i:Nat):Int) o.to' o.key o.n o.change o.mask o.torn o.cut).flat).toArray)] T0 [aj c (fh n D M P) 56] (RI (.int .i64 4) [aj c (fh n D M P) 56]):=by
 refine BD 114 Tryz.func9 rfl rfl rfl λw0 F hF=>sr λ_ J1=>XY (ints (OpT.mk k ((i:Nat):Int) o.to' o.key o.n o.change o.mask o.torn o.cut).flat) λb3=>?_
 refine PS ?_;refine nx J1 (aa λ_ J2=>sr λ_ J3=>PS ?_);refine FA 1 eZ aO ?_;refine LT 0 Y3 (.int .i64 (((i:Nat):Int))) ?_ (hc:=by exact bT _ rfl);refine CE rF (eQ c i hi) ID ?_;refine PS ?_;refine nx J3 (CN (qx J2 (aa λ_ J4=>sr λ_ J5=>FA 0 eZ aO ?_)));refine LT 0 Y3 (.int .i64 (k)) ?_ (hc:=by exact cN _ rfl);refine nx J5 (am (aa λ_ J6=>fA (α:=Unit) (λ_u=>True) (λ_u=>[(0,(.pointer (some ⟨c,0,none⟩))),(3,(.pointer (some ⟨b3,0,none⟩))),(4,(.int .i64 0)),(11,(.int .i64 (k))),(12,(.bool true))]) (λ_u=>[aj b3 (ints (OpT.mk k ((i:Nat):Int) o.to' o.key o.n o.change o.mask o.torn o.cut).flat) 30,aj c (fh n D M P) 56]) (λ_u hinv=>?_) (λtl6=>?_)));have _:=hinv;refine ad J6 (CY (aa λ_ J7=>sr λ_ J8=>PS ?_));refine FA 1 eZ aO ?_;refine LT 0 Y3 (.int .i64 (((i:Nat):Int))) ?_ (hc:=by exact bT _ rfl);refine CE DM (ti c n i D M P hi hM) (SM [1]) ?_;refine PS ?_;refine nx J8 (CY (sr λ_ J9=>PS ?_));exact nx J9 (ah (ae (aI (ae (WK [0] (aw rfl rfl ⟨rfl,rfl⟩))))));refine sr λ_ J10=>P2 ?_
 refine ap ?_ ?_<;>intro h12;refine nx J10 (CY (aR ?_))
 exact aE
  SB
  (λ_ s=>ak [0,0] rfl s)
  (tl6 (():Unit) trivial)
 refine nx J10 (CN (sr λ_ J11=>P2 ?_));refine ap ?_ ?_<;>intro h12;refine nx J11 (CY (aR ?_))
 exact aE
  SB
  (λ_ s=>ak [0,0] rfl s)
  (tl6 (():Unit) trivial)
 refine nx J11 (CN (sr λ_ J12=>P2 ?_));refine ap ?_ ?_<;>intro h12;refine nx J12 (CY (aR ?_))
 exact aE
  SB
  (λ_ s=>ak [0,0] rfl s)
  (tl6 (():Unit) trivial)
 refine nx J12 (CN (sr λ_ J13=>P2 ?_));refine ap ?_ ?_<;>intro h12;refine nx J13 (CY (aR ?_))
 exact aE
  SB
  (λ_ s=>ak [0,0] rfl s)
  (tl6 (():Unit) trivial)
 refine nx J13 (CN (ac (PS ?_)));refine ap ?_ ?_<;>intro h17;refine PS ?_;refine au ?_
 exact aE
  SB
  (λ_ s=>ak [0,0] rfl s)
  (tl6 (():Unit) trivial)
 · exact absurd h17 (by omega)
theorem F3(c n i:Nat)(D M P:Nat→Value)(hi:i<5)(d r:Nat)(s:MS LD)(hD:D i= .pointer (some ⟨d,0,none⟩))(hM:M i= .pointer (some ⟨r,0,none⟩))(W:List (List MsgT))(hW:W.length=25)(ho:s.o=[])(hs:OkR KD s)(o:OpT):
 DT 9 #[(.pointer (some ⟨c,0,none⟩)),(.agg (ints (OpT.mk 8 ((i:Nat):Int) o.to' o.key o.n o.change o.mask o.torn o.cut).flat).toArray)] T0 [aj c (fh n D M P) 56,dk d s.e.D,eT 106 169 5 n (da W),gm s d r] (dG (λv H=>(s.e.D.dn=true∧v= .int .i64 4∧H=[aj c (fh n D M P) 56,dk d s.e.D,eT 106 169 5 n (da (W)),gm s d r])∨(s.e.D.dn=false∧v= .int .i64 0∧H=[aj c (fh n D M P) 56,dk d (gS KD s).hush.e.D,eT 106 169 5 n (da (gT W i (gS KD s).o)),gm (gS KD s).hush d r]))):=by
 refine BD 114 Tryz.func9 rfl rfl rfl λw0 F hF=>sr λ_ J1=>XY (ints (OpT.mk 8 ((i:Nat):Int) o.to' o.key o.n o.change o.mask o.torn o.cut).flat) λb3=>?_
 refine PS ?_;refine nx J1 (aa λ_ J2=>sr λ_ J3=>PS ?_);refine FA 1 eZ aO ?_;refine LT 0 Y3 (.int .i64 (((i:Nat):Int))) ?_ (hc:=by exact bT _ rfl);refine CE rF (eQ c i hi) ID ?_;refine PS ?_;refine nx J3 (CN (qx J2 (aa λ_ J4=>sr λ_ J5=>FA 0 eZ aO ?_)));refine LT 0 Y3 (.int .i64 8) ?_ (hc:=by exact cN _ rfl);refine nx J5 (am (aa λ_ J6=>sr λ_ J7=>P2 ?_));refine nx J7 (CN (sr λ_ J8=>P2 ?_));refine nx J8 (CN (sr λ_ J9=>P2 ?_));refine nx J9 (CN (sr λ_ J10=>P2 ?_));refine nx J10 (CN (ac (P2 ?_)));refine nx J6 (CN (aa λ_ J11=>sr λ_ J12=>P2 ?_));refine nx J12 (CN (sr λ_ J13=>P2 ?_));refine nx J13 (CN (ac (P2 ?_)));refine nx J11 (CN (sr λ_ J14=>P2 ?_));refine nx J14 (CY (aa λ_ J15=>sr λ_ J16=>PS ?_));refine FA 1 eZ aO ?_;refine LT 0 Y3 (.int .i64 (((i:Nat):Int))) ?_ (hc:=by exact bT _ rfl);refine CE DM (th c n i D M P hi d r s.e.D hD hM) (SM [1,1]) ?_;refine bg ?_ ?_<;>intro h49;refine PS ?_;refine nx J16 (CN (qx J15 (D2 2 0 df ?_)));refine PD 0 ?_;refine FD 1 1 eZ aO ?_;refine LX 2 Y3 (.int .i64 (((i:Nat):Int))) ?_ (hc:=by exact bT _ rfl);refine PD 3 ?_;refine FD 4 6 qj p7 ?_;refine IY 5 (6+i) rI iQ ?_;refine LX 6 pn (.pointer (some ⟨r,0,none⟩)) ?_ (hc:=by exact(yv n D M P hi).trans (congrArg some hM));refine PD 7 ?_;refine FD 8 1 eZ aO ?_;refine LX 9 Y3 (.int .i64 (((i:Nat):Int))) ?_ (hc:=by exact bT _ rfl)
 refine ta 10 rfl (kM (cells:=#[(.pointer (some ⟨c,0,none⟩)),(.int .i64 (((i:Nat):Int)))]) rfl rfl (by as_aux_lemma=>kernel_rfl)) ?_;refine ta 11 rfl (qd rfl Om rfl rfl) ?_;refine AL 12 ?_;refine ci (H':=[cU (yo c n d i D M P hi hD W hW) r s,aj b3 (ints (OpT.mk 8 ((i:Nat):Int) o.to' o.key o.n o.change o.mask o.torn o.cut).flat) 30]) (λ_ q=>FJ ho (aD [0,0,1,1] rfl q)) (CZ Q8 (@E8 _ (yo c n d i D M P hi hD W hW) r s hs) ID λvR=>?_);change TL _ _ _ _ _ _ _ _ _ [cU (yo c n d i D M P hi hD W hW) r (gS KD s),aj b3 (ints (OpT.mk 8 ((i:Nat):Int) o.to' o.key o.n o.change o.mask o.torn o.cut).flat) 30];refine ci (H':=[aj c (fh n D M P) 56,dk d ((gS KD s).e.D),eT 106 169 5 n (da (gT W i (gS KD s).o)),gm ((gS KD s).hush) d r,aj b3 (ints (OpT.mk 8 ((i:Nat):Int) o.to' o.key o.n o.change o.mask o.torn o.cut).flat) 30]) (λ_ q=>BH (s:=(gS KD s)) q) (EN (DN (af (ad J4 (sr λ_ J17=>PS ?_)))));refine nx J17 (ah (WK [0,0,0,0] (aw rfl rfl ?_)));exact .inr ⟨(by simpa using h49),rfl,rfl⟩;refine PS ?_;refine nx J16 (CY (sr λ_ J18=>PS ?_));refine nx J18 (ah (ae (aI (ae (WK [0,0,1,1] (aw rfl rfl ?_))))));exact .inl ⟨(by simpa using h49),rfl,rfl⟩
theorem Ej(c n i:Nat)(D M P:Nat→Value)(hi:i<5)(hM:M i= .pointer none)(o:OpT):
 DT 9 #[(.pointer (some ⟨c,0,none⟩)),(.agg (ints (OpT.mk 8 ((i:Nat):Int) o.to' o.key o.n o.change o.mask o.torn o.cut).flat).toArray)] T0 [aj c (fh n D M P) 56] (RI (.int .i64 4) [aj c (fh n D M P) 56]):=by
 refine BD 114 Tryz.func9 rfl rfl rfl λw0 F hF=>sr λ_ J1=>XY (ints (OpT.mk 8 ((i:Nat):Int) o.to' o.key o.n o.change o.mask o.torn o.cut).flat) λb3=>?_
 refine PS ?_;refine nx J1 (aa λ_ J2=>sr λ_ J3=>PS ?_);refine FA 1 eZ aO ?_;refine LT 0 Y3 (.int .i64 (((i:Nat):Int))) ?_ (hc:=by exact bT _ rfl);refine CE rF (eQ c i hi) ID ?_;refine PS ?_;refine nx J3 (CN (qx J2 (aa λ_ J4=>sr λ_ J5=>FA 0 eZ aO ?_)));refine LT 0 Y3 (.int .i64 8) ?_ (hc:=by exact cN _ rfl);refine nx J5 (am (aa λ_ J6=>sr λ_ J7=>P2 ?_));refine nx J7 (CN (sr λ_ J8=>P2 ?_));refine nx J8 (CN (sr λ_ J9=>P2 ?_));refine nx J9 (CN (sr λ_ J10=>P2 ?_));refine nx J10 (CN (ac (P2 ?_)));refine nx J6 (CN (aa λ_ J11=>sr λ_ J12=>P2 ?_));refine nx J12 (CN (sr λ_ J13=>P2 ?_));refine nx J13 (CN (ac (P2 ?_)));refine nx J11 (CN (sr λ_ J14=>P2 ?_));refine nx J14 (CY (aa λ_ J15=>sr λ_ J16=>PS ?_));refine FA 1 eZ aO ?_;refine LT 0 Y3 (.int .i64 (((i:Nat):Int))) ?_ (hc:=by exact bT _ rfl);refine CE DM (ti c n i D M P hi hM) (SM [1]) ?_;refine PS ?_;refine nx J16 (CY (sr λ_ J17=>PS ?_));exact nx J17 (ah (ae (aI (ae (WK [0] (aw rfl rfl ⟨rfl,rfl⟩))))))
theorem HT(s:MS LD)(d r:Nat)(h:s.replies.length≤1000000):DT 37 #[.pointer (some ⟨r,0,none⟩)] T0 [gm s d r] (dG λv H=>∃u,v=u∧H=[gm s d r,lU u s.replies]):=
 Leg.Does.pack (B:=[]) λa=>Leg.Does.withinR (A:=[aj r (RepT.cells (s.rep a)) 95,lU a.rs s.replies]) (B:=[GZ a.lg d ((s.e.cnt:Nat):Int) s.e.used,Gr a.vo s.vote]) (Bp r (s.rep a) s.replies h) (λ_ _ _ _=>trivial) (λ_ q=>aD [0,1,0,0] rfl q) λv H hp=>by
  obtain⟨u,rfl,rfl⟩:=hp;exact⟨_,λ_ q=>bw (p:=HN s d r) (H:=[lU v s.replies]) a (aD [0,2,0,1,0] rfl q),v,rfl,rfl⟩
theorem xI(c n i:Nat)(D M P:Nat→Value)(hi:i<5)(hM:M i= .pointer none)(pl:List ReplyT)(hpl:pl.length≤100000):
 DT 16 #[(.pointer (some ⟨c,0,none⟩)),(.int .i64 (((i:Nat):Int)))] T0 [aj c (fh n D M P) 56,own (P i) ((pl).length) (ints (List.flatMap ReplyT.flat (pl))) 45 3] (dG (λv H=>∃u,u.oneCell'=true∧v=u∧H=[aj c (fh n D M P) 56,lU (P i) pl,lU u pl])):=by
 refine BD 34 Tryz.func16 rfl rfl rfl λw0 F hF=>sr λ_ J1=>PS ?_
 refine nx J1 (aa λ_ J2=>sr λ_ J3=>P2 ?_);refine CE rF (eQ c i hi) ID ?_;refine PS ?_;refine nx J3 (CN (qx J2 (sr λ_ J4=>P3 ?_)));refine FA 11 qj LK ?_;refine IX (11+i) Qs yU ?_;refine LT 0 I6 (P i) ?_ (hc:=by exact PX n D M P hi);refine I2 45 3 (λ_=>bX (k:=0) (news:=ints (List.flatMap ReplyT.flat (pl))) (nn':=(pl).length) (xs':=ints (List.flatMap ReplyT.flat (pl))) (ab rfl) rfl rfl rfl I6 IA rfl rfl rfl rfl rfl rfl (λ_ s=>Ld 2 rfl rfl s) (bv _) (by simp only[maxLen];omega) (by omega) (by simp) (by simp) (λv16 ov16=>PS ?_));refine nx J4 (aa λ_ J5=>sr λ_ J6=>P3 ?_);refine FA 6 qj p7 ?_;refine IX (6+i) rI iQ ?_;refine LT 1 pn (.pointer none) ?_ (hc:=by exact(yv n D M P hi).trans (congrArg some hM));refine tp (jA rfl pn rfl rfl) ?_;refine nx J6 (CN (qx J5 (sr λ_ J7=>P2 ?_)));exact nx J7 (ah (WK [1,1,0] (aw rfl rfl ⟨_,ov16,rfl,rfl⟩)))
theorem xH(c n i:Nat)(D M P:Nat→Value)(hi:i<5)(d:Nat)(r:Nat)(s:MS LD)(hM:M i= .pointer (some ⟨r,0,none⟩))(pl:List ReplyT)(hpl:pl.length≤100000)(hrs:s.replies.length≤100000):
 DT 16 #[(.pointer (some ⟨c,0,none⟩)),(.int .i64 (((i:Nat):Int)))] T0 [aj c (fh n D M P) 56,own (P i) ((pl).length) (ints (List.flatMap ReplyT.flat (pl))) 45 3,gm s d r] (dG (λv H=>∃u,u.oneCell'=true∧v=u∧H=[aj c (fh n D M P) 56,lU (P i) pl,gm s d r,lU u (pl++s.replies)])):=by
 refine BD 34 Tryz.func16 rfl rfl rfl λw0 F hF=>sr λ_ J1=>PS ?_
 refine nx J1 (aa λ_ J2=>sr λ_ J3=>P2 ?_);refine CE rF (eQ c i hi) ID ?_;refine PS ?_;refine nx J3 (CN (qx J2 (sr λ_ J4=>P3 ?_)));refine FA 11 qj LK ?_;refine IX (11+i) Qs yU ?_;refine LT 0 I6 (P i) ?_ (hc:=by exact PX n D M P hi);refine I2 45 3 (λ_=>bX (k:=0) (news:=ints (List.flatMap ReplyT.flat (pl))) (nn':=(pl).length) (xs':=ints (List.flatMap ReplyT.flat (pl))) (ab rfl) rfl rfl rfl I6 IA rfl rfl rfl rfl rfl rfl (λ_ s=>Ld 2 rfl rfl s) (bv _) (by simp only[maxLen];omega) (by omega) (by simp) (by simp) (λv16 ov16=>PS ?_));refine nx J4 (aa λ_ J5=>sr λ_ J6=>P3 ?_);refine FA 6 qj p7 ?_;refine IX (6+i) rI iQ ?_;refine LT 1 pn (.pointer (some ⟨r,0,none⟩)) ?_ (hc:=by exact(yv n D M P hi).trans (congrArg some hM));refine tp (gk rfl pn rfl rfl) ?_;refine nx J6 (CY (ac (P4 ?_)));refine FA 6 qj p7 ?_;refine IX (6+i) rI iQ ?_;refine LT 1 pn (.pointer (some ⟨r,0,none⟩)) ?_ (hc:=by exact(yv n D M P hi).trans (congrArg some hM));refine CR Q3 (HT s d r (by omega)) (SM [3]) λvR HR hR=>?_
 obtain⟨_,rfl,rfl⟩:=hR;revert vR;intro ur;refine bX (k:=2) (news:=ints (List.flatMap ReplyT.flat (s.replies))) (nn':=(pl++s.replies).length) (xs':=ints (List.flatMap ReplyT.flat (pl++s.replies))) (ab rfl) rfl rfl rfl I6 IA rfl rfl rfl rfl rfl rfl (λ_ s=>Ld 1 rfl rfl s) (bv _) (by simp only[maxLen];omega) (by omega) (by rw[ag]) (by simp[ints]) (λv32 ov32=>PS ?_);refine nx J5 (sr λ_ J7=>P2 ?_);exact nx J7 (ah (WK [3,3,0,1] (aw rfl rfl ⟨_,ov32,rfl,rfl⟩)))
theorem Ga(c n i:Nat)(D M P:Nat→Value)(hi:i<5)(d:Nat)(hD:D i= .pointer (some ⟨d,0,none⟩))(e:DS)(o:OpT):
 DT 9 #[(.pointer (some ⟨c,0,none⟩)),(.agg (ints (OpT.mk 9 ((i:Nat):Int) o.to' o.key o.n o.change o.mask o.torn o.cut).flat).toArray)] T0 [aj c (fh n D M P) 56,dk d e] (RI (.int .i64 0) [aj c (fh n D M P) 56,dk d (e.arm o.n)]):=by
 refine BD 114 Tryz.func9 rfl rfl rfl λw0 F hF=>sr λ_ J1=>XY (ints (OpT.mk 9 ((i:Nat):Int) o.to' o.key o.n o.change o.mask o.torn o.cut).flat) λb3=>?_
 refine PS ?_;refine nx J1 (aa λ_ J2=>sr λ_ J3=>PS ?_);refine FA 1 eZ aO ?_;refine LT 0 Y3 (.int .i64 (((i:Nat):Int))) ?_ (hc:=by exact bT _ rfl);refine CE rF (eQ c i hi) ID ?_;refine PS ?_;refine nx J3 (CN (qx J2 (aa λ_ J4=>sr λ_ J5=>FA 0 eZ aO ?_)));refine LT 0 Y3 (.int .i64 9) ?_ (hc:=by exact cN _ rfl);refine nx J5 (am (aa λ_ J6=>sr λ_ J7=>P2 ?_));refine nx J7 (CN (sr λ_ J8=>P2 ?_));refine nx J8 (CN (sr λ_ J9=>P2 ?_));refine nx J9 (CN (sr λ_ J10=>P2 ?_));refine nx J10 (CN (ac (P2 ?_)));refine nx J6 (CN (aa λ_ J11=>sr λ_ J12=>P2 ?_));refine nx J12 (CN (sr λ_ J13=>P2 ?_));refine nx J13 (CN (ac (P2 ?_)));refine nx J11 (CN (sr λ_ J14=>P2 ?_));refine nx J14 (CN (sr λ_ J15=>P2 ?_));refine nx J15 (CY (D2 0 1 df ?_));refine PD 0 ?_;refine FD 1 1 eZ aO ?_;refine LX 2 Y3 (.int .i64 (((i:Nat):Int))) ?_ (hc:=by exact bT _ rfl);refine PD 3 ?_;refine FD 4 1 qj CB ?_;refine IY 5 (1+i) Nl xg ?_;refine LX 6 K8 (.pointer (some ⟨d,0,none⟩)) ?_ (hc:=by exact(Ge n D M P hi).trans (congrArg some hD));refine FD 7 4 eZ aO ?_;refine LX 8 Y3 (.int .i64 (o.n)) ?_ (hc:=by exact rc _ rfl);refine AL 9 ?_;refine CR Q7 (Od d e o.n) (SM [2]) λvR HR hR=>?_
 obtain⟨_,rfl⟩:=hR;refine EN (DN (af (ad J4 (sr λ_ J16=>PS ?_))));exact nx J16 (ah (WK [2,0] (aw rfl rfl ⟨rfl,rfl⟩)))
theorem F6(c n i:Nat)(D M P:Nat→Value)(hi:i<5)(d:Nat)(hD:D i= .pointer (some ⟨d,0,none⟩))(r:Nat)(s:MS LD)(hM:M i= .pointer (some ⟨r,0,none⟩))(pl:List ReplyT)(hpl:pl.length≤100000)(hrs:s.replies.length≤100000)(e:DS)(hok:e.Ok)(o:OpT):
 DT 9 #[(.pointer (some ⟨c,0,none⟩)),(.agg (ints (OpT.mk 10 ((i:Nat):Int) o.to' o.key o.n o.change o.mask o.torn o.cut).flat).toArray)] T0 [aj c (fh n D M P) 56,dk d e,own (P i) ((pl).length) (ints (List.flatMap ReplyT.flat (pl))) 45 3,gm s d r] (dG (λv H=>∃u,u.oneCell'=true∧v= .int .i64 0∧H=[aj c (fh n D (ow M i (.pointer none)) (ow P i u)) 56,dk d (e.crash o.mask o.torn o.cut),lU u (pl++s.replies)])):=by
 refine BD 114 Tryz.func9 rfl rfl rfl λw0 F hF=>sr λ_ J1=>XY (ints (OpT.mk 10 ((i:Nat):Int) o.to' o.key o.n o.change o.mask o.torn o.cut).flat) λb3=>?_
 refine PS ?_;refine nx J1 (aa λ_ J2=>sr λ_ J3=>PS ?_);refine FA 1 eZ aO ?_;refine LT 0 Y3 (.int .i64 (((i:Nat):Int))) ?_ (hc:=by exact bT _ rfl);refine CE rF (eQ c i hi) ID ?_;refine PS ?_;refine nx J3 (CN (qx J2 (aa λ_ J4=>sr λ_ J5=>FA 0 eZ aO ?_)));refine LT 0 Y3 (.int .i64 10) ?_ (hc:=by exact cN _ rfl);refine nx J5 (am (aa λ_ J6=>sr λ_ J7=>P2 ?_));refine nx J7 (CN (sr λ_ J8=>P2 ?_));refine nx J8 (CN (sr λ_ J9=>P2 ?_));refine nx J9 (CN (sr λ_ J10=>P2 ?_));refine nx J10 (CN (ac (P2 ?_)));refine nx J6 (CN (aa λ_ J11=>sr λ_ J12=>P2 ?_));refine nx J12 (CN (sr λ_ J13=>P2 ?_));refine nx J13 (CN (ac (P2 ?_)));refine nx J11 (CN (sr λ_ J14=>P2 ?_));refine nx J14 (CN (sr λ_ J15=>P2 ?_));refine nx J15 (CN (sr λ_ J16=>P2 ?_));refine nx J16 (CY (aa λ_ J17=>D1 0 df ?_));refine PD 0 ?_;refine FD 1 1 eZ aO ?_;refine LX 2 Y3 (.int .i64 (((i:Nat):Int))) ?_ (hc:=by exact bT _ rfl);refine PD 3 ?_;refine FD 4 1 eZ aO ?_;refine LX 5 Y3 (.int .i64 (((i:Nat):Int))) ?_ (hc:=by exact bT _ rfl);refine PD 7 ?_;refine FD 8 11 qj LK ?_;refine AL 6 ?_;refine CR Ml (xH c n i D M P hi d r s hM pl hpl hrs) (SM [1,2,2]) λvR HR hR=>?_
 obtain⟨_,huc,rfl,rfl⟩:=hR;revert vR;intro uc huc;refine EN (IY 9 (11+i) Qs yU ?_);refine AL 10 ?_;refine bK (i:=0) (ab rfl) rfl rfl rfl rfl huc yU rfl rfl (by rw[sM];omega) (G7 n D M P uc hi) rfl (EN (DN (ad J17 (aa λ_ J18=>D1 4 df ?_))));refine PD 0 ?_;refine FD 1 1 eZ aO ?_;refine LX 2 Y3 (.int .i64 (((i:Nat):Int))) ?_ (hc:=by exact bT _ rfl);refine PD 3 ?_;refine FD 4 6 qj p7 ?_;refine IY 5 (6+i) rI iQ ?_;refine AL 6 ?_;refine bK (i:=0) (ab rfl) rfl rfl rfl rfl rfl iQ rfl rfl (by rw[sM];omega) (wQ n D M (ow P i uc) (.pointer none) hi) rfl (EN (DN (ad J18 (D2 4 0 df ?_))));refine PD 0 ?_;refine FD 1 1 eZ aO ?_;refine LX 2 Y3 (.int .i64 (((i:Nat):Int))) ?_ (hc:=by exact bT _ rfl);refine PD 3 ?_;refine FD 4 1 qj CB ?_;refine IY 5 (1+i) Nl xg ?_;refine LX 6 K8 (.pointer (some ⟨d,0,none⟩)) ?_ (hc:=by exact(Ge n D (ow M i (.pointer none)) (ow P i uc) hi).trans (congrArg some hD));refine FD 7 8 eZ aO ?_;refine LX 8 Y3 (.int .i64 (o.mask)) ?_ (hc:=by exact OpT.at_mask _ rfl);refine FD 9 9 eZ aO ?_;refine LX 10 Y3 (.int .i64 (o.torn)) ?_ (hc:=by exact OpT.at_torn _ rfl);refine FD 11 10 eZ aO ?_;refine LX 12 Y3 (.int .i64 (o.cut)) ?_ (hc:=by exact OpT.at_cut _ rfl);refine AL 13 ?_;refine CR Pb (En d e o.mask o.torn o.cut hok) (SM [5]) λvR HR hR=>?_
 obtain⟨_,rfl⟩:=hR;refine EN (DN (af (ad J4 (sr λ_ J19=>PS ?_))));exact nx J19 (ah (WK [1,0,2] (aw rfl rfl ⟨uc,huc,rfl,rfl⟩)))
theorem F7(c n i:Nat)(D M P:Nat→Value)(hi:i<5)(d:Nat)(hD:D i= .pointer (some ⟨d,0,none⟩))(hM:M i= .pointer none)(pl:List ReplyT)(hpl:pl.length≤100000)(e:DS)(hok:e.Ok)(o:OpT):
 DT 9 #[(.pointer (some ⟨c,0,none⟩)),(.agg (ints (OpT.mk 10 ((i:Nat):Int) o.to' o.key o.n o.change o.mask o.torn o.cut).flat).toArray)] T0 [aj c (fh n D M P) 56,dk d e,own (P i) ((pl).length) (ints (List.flatMap ReplyT.flat (pl))) 45 3] (dG (λv H=>∃u,u.oneCell'=true∧v= .int .i64 0∧H=[aj c (fh n D (ow M i (.pointer none)) (ow P i u)) 56,dk d (e.crash o.mask o.torn o.cut),lU u pl])):=by
 refine BD 114 Tryz.func9 rfl rfl rfl λw0 F hF=>sr λ_ J1=>XY (ints (OpT.mk 10 ((i:Nat):Int) o.to' o.key o.n o.change o.mask o.torn o.cut).flat) λb3=>?_
 refine PS ?_;refine nx J1 (aa λ_ J2=>sr λ_ J3=>PS ?_);refine FA 1 eZ aO ?_;refine LT 0 Y3 (.int .i64 (((i:Nat):Int))) ?_ (hc:=by exact bT _ rfl);refine CE rF (eQ c i hi) ID ?_;refine PS ?_;refine nx J3 (CN (qx J2 (aa λ_ J4=>sr λ_ J5=>FA 0 eZ aO ?_)));refine LT 0 Y3 (.int .i64 10) ?_ (hc:=by exact cN _ rfl);refine nx J5 (am (aa λ_ J6=>sr λ_ J7=>P2 ?_));refine nx J7 (CN (sr λ_ J8=>P2 ?_));refine nx J8 (CN (sr λ_ J9=>P2 ?_));refine nx J9 (CN (sr λ_ J10=>P2 ?_));refine nx J10 (CN (ac (P2 ?_)));refine nx J6 (CN (aa λ_ J11=>sr λ_ J12=>P2 ?_));refine nx J12 (CN (sr λ_ J13=>P2 ?_));refine nx J13 (CN (ac (P2 ?_)));refine nx J11 (CN (sr λ_ J14=>P2 ?_));refine nx J14 (CN (sr λ_ J15=>P2 ?_));refine nx J15 (CN (sr λ_ J16=>P2 ?_));refine nx J16 (CY (aa λ_ J17=>D1 0 df ?_));refine PD 0 ?_;refine FD 1 1 eZ aO ?_;refine LX 2 Y3 (.int .i64 (((i:Nat):Int))) ?_ (hc:=by exact bT _ rfl);refine PD 3 ?_;refine FD 4 1 eZ aO ?_;refine LX 5 Y3 (.int .i64 (((i:Nat):Int))) ?_ (hc:=by exact bT _ rfl);refine PD 7 ?_;refine FD 8 11 qj LK ?_;refine AL 6 ?_;refine CR Ml (xI c n i D M P hi hM pl hpl) (SM [1,2]) λvR HR hR=>?_
 obtain⟨_,huc,rfl,rfl⟩:=hR;revert vR;intro uc huc;refine EN (IY 9 (11+i) Qs yU ?_);refine AL 10 ?_;refine bK (i:=0) (ab rfl) rfl rfl rfl rfl huc yU rfl rfl (by rw[sM];omega) (G7 n D M P uc hi) rfl (EN (DN (ad J17 (aa λ_ J18=>D1 3 df ?_))));refine PD 0 ?_;refine FD 1 1 eZ aO ?_;refine LX 2 Y3 (.int .i64 (((i:Nat):Int))) ?_ (hc:=by exact bT _ rfl);refine PD 3 ?_;refine FD 4 6 qj p7 ?_;refine IY 5 (6+i) rI iQ ?_;refine AL 6 ?_;refine bK (i:=0) (ab rfl) rfl rfl rfl rfl rfl iQ rfl rfl (by rw[sM];omega) (wQ n D M (ow P i uc) (.pointer none) hi) rfl (EN (DN (ad J18 (D2 3 0 df ?_))));refine PD 0 ?_;refine FD 1 1 eZ aO ?_;refine LX 2 Y3 (.int .i64 (((i:Nat):Int))) ?_ (hc:=by exact bT _ rfl);refine PD 3 ?_;refine FD 4 1 qj CB ?_;refine IY 5 (1+i) Nl xg ?_;refine LX 6 K8 (.pointer (some ⟨d,0,none⟩)) ?_ (hc:=by exact(Ge n D (ow M i (.pointer none)) (ow P i uc) hi).trans (congrArg some hD));refine FD 7 8 eZ aO ?_;refine LX 8 Y3 (.int .i64 (o.mask)) ?_ (hc:=by exact OpT.at_mask _ rfl);refine FD 9 9 eZ aO ?_;refine LX 10 Y3 (.int .i64 (o.torn)) ?_ (hc:=by exact OpT.at_torn _ rfl);refine FD 11 10 eZ aO ?_;refine LX 12 Y3 (.int .i64 (o.cut)) ?_ (hc:=by exact OpT.at_cut _ rfl);refine AL 13 ?_;refine CR Pb (En d e o.mask o.torn o.cut hok) (SM [4]) λvR HR hR=>?_
 obtain⟨_,rfl⟩:=hR;refine EN (DN (af (ad J4 (sr λ_ J19=>PS ?_))));exact nx J19 (ah (WK [1,0,1] (aw rfl rfl ⟨uc,huc,rfl,rfl⟩)))
theorem L5{s:MS LD}{lg d r:Nat}{e:LD}{i:Int}(f:Fresh i e s){H:List HP}{h:Hl}(q:bR (EV lg r s::GZ lg d ((e.cnt:Nat):Int) e.used::H) h):bR (gm s d r::H) h:=by
 obtain⟨_,q⟩:=fH (p:=λ_:Unit=>[aj r (RepT.cells (s.rep ⟨lg, .pointer none, .slice none 0 0⟩)) 95]) q;refine bw (p:=HN s d r) ⟨lg, .pointer none, .slice none 0 0⟩ ?_;have q2:=gf 45 3 q;have q3:bR (Gr (.pointer none) (none:Option VoteT)::own (.slice none 0 0) 0 [] 45 3::aj r (RepT.cells (s.rep ⟨lg, .pointer none, .slice none 0 0⟩)) 95::GZ lg d ((e.cnt:Nat):Int) e.used::H) h:=⟨em,h,EP h,(rV h).symm,rfl,q2⟩;have q4:=aD [2,2,1,0] rfl q3;simp only[HN,f.e,f.replies,f.vote];exact q4
theorem vD(i d:Nat)(e:DS)(hok:DkOk e):DT 21 #[.int .i64 ((i:Nat):Int), .pointer (some ⟨d,0,none⟩)] T0 [dk d e] (dG (λv H=>((eg i e).1=none∧(eg i e).2≠0∧v= .tuple #[.pointer none, .int .i64 (eg i e).2]∧H=[dk d (bY e).D])∨∃s r,(eg i e).1=some s∧v= .tuple #[.pointer (some ⟨r,0,none⟩), .int .i64 0]∧H=[gm s d r,dk d s.e.D])):=
 Leg.Does.fold (CS (⟨(bY e).recs.length,(bY e).used,(bY e).D⟩:LD) ((i:Nat):Int) d e hok.ok hok.inn (by have:=hok.ws;omega)) λx H hp=>by
  cases x with
  |returned v=>
   unfold eg;rcases hp with⟨he,rfl,rfl⟩| ⟨he,⟨hn,rfl,rfl⟩| ⟨s,r,lg,hn,rfl,rfl⟩⟩
   · rw[if_pos he];exact⟨_,λ_ q=>q, .inl ⟨rfl,he,rfl,rfl⟩⟩
   · rw[if_neg (by rw[he];decide),hn];exact⟨_,λ_ q=>q, .inl ⟨rfl,(by decide),rfl,rfl⟩⟩
   · rw[if_neg (by rw[he];decide),hn]
     have f:=Fresh.read _ (Fresh.new _ _) hn;refine⟨[gm s d r,dk d s.e.D],λ_ q=>L5 (lg:=lg) f ?_, .inr ⟨s,r,rfl,rfl,rfl⟩⟩;rw[f.e];exact q
  |panicked c=>exact hp.elim
  |outgrown=>exact hp.elim
theorem CO(c n i:Nat)(D M P:Nat→Value)(hi:i<5)(d:Nat)(hD:D i= .pointer (some ⟨d,0,none⟩))(hM:M i= .pointer none)(e:DS)(hok:DkOk e):
 DT 29 #[(.pointer (some ⟨c,0,none⟩)),(.int .i64 (((i:Nat):Int)))] T0 [aj c (fh n D M P) 56,dk d e] (dG (λv H=>((eg i e).1=none∧v= .int .i64 (eg i e).2∧H=[aj c (fh n D M P) 56,dk d (bY e).D])∨∃s r,(eg i e).1=some s∧v= .int .i64 0∧H=[aj c (fh n D (ow M i (.pointer (some ⟨r,0,none⟩))) P) 56,gm s d r,dk d s.e.D])):=by
 refine BD 34 Tryz.func29 rfl rfl rfl λw0 F hF=>sr λ_ J1=>PS ?_
 refine nx J1 (aa λ_ J2=>sr λ_ J3=>P3 ?_);refine FA 6 qj p7 ?_;refine IX (6+i) rI iQ ?_;refine LT 0 pn (.pointer none) ?_ (hc:=by exact(yv n D M P hi).trans (congrArg some hM));refine tp (jA rfl pn rfl rfl) ?_;refine nx J3 (CN (qx J2 (sr λ_ J4=>P4 ?_)));refine FA 1 qj CB ?_;refine IX (1+i) Nl xg ?_;refine LT 0 K8 (.pointer (some ⟨d,0,none⟩)) ?_ (hc:=by exact(Ge n D M P hi).trans (congrArg some hD));refine CR Pg (vD i d e hok) (SM [1]) λvR HR hR=>?_
 rcases hR with⟨hn,h0,rfl,rfl⟩| ⟨s,r,hn,rfl,rfl⟩
 refine P4 ?_;refine PS ?_;refine nx J4 (aa λ_ J5=>sr λ_ J6=>P2 ?_);refine ap ?_ ?_<;>intro h26
 · exact absurd h26 h0
 refine nx J6 (CN (qx J5 (sr λ_ J7=>P2 ?_)));exact nx J7 (ah (WK [1,0] (aw rfl rfl (.inl ⟨hn,rfl,rfl⟩))));refine P4 ?_;refine PS ?_;refine nx J4 (aa λ_ J8=>sr λ_ J9=>P2 ?_);refine nx J9 (CY (ac (P4 ?_)));refine FA 6 qj p7 ?_;refine IX (6+i) rI iQ ?_;refine bK (i:=2) (ab rfl) rfl rfl rfl rfl rfl iQ rfl rfl (by rw[sM];omega) (wQ n D M P (.pointer (some ⟨r,0,none⟩)) hi) rfl (nx J8 (sr λ_ J10=>P2 ?_));exact nx J10 (ah (WK [2,0,0] (aw rfl rfl (.inr ⟨s,r,hn,rfl,rfl⟩))))
theorem CM(c n i:Nat)(D M P:Nat→Value)(hi:i<5)(r:Nat)(hM:M i= .pointer (some ⟨r,0,none⟩)):
 DT 29 #[(.pointer (some ⟨c,0,none⟩)),(.int .i64 (((i:Nat):Int)))] T0 [aj c (fh n D M P) 56] (RI (.int .i64 5) [aj c (fh n D M P) 56]):=by
 refine BD 34 Tryz.func29 rfl rfl rfl λw0 F hF=>sr λ_ J1=>PS ?_
 refine nx J1 (aa λ_ J2=>sr λ_ J3=>P3 ?_);refine FA 6 qj p7 ?_;refine IX (6+i) rI iQ ?_;refine LT 0 pn (.pointer (some ⟨r,0,none⟩)) ?_ (hc:=by exact(yv n D M P hi).trans (congrArg some hM));refine tp (gk rfl pn rfl rfl) ?_;refine nx J3 (CY (sr λ_ J4=>PS ?_));exact nx J4 (ah (ae (WK [0] (aw rfl rfl ⟨rfl,rfl⟩))))
theorem F5(c n i:Nat)(D M P:Nat→Value)(hi:i<5)(d:Nat)(hD:D i= .pointer (some ⟨d,0,none⟩))(hM:M i= .pointer none)(e:DS)(hok:DkOk e)(o:OpT):
 DT 9 #[(.pointer (some ⟨c,0,none⟩)),(.agg (ints (OpT.mk 11 ((i:Nat):Int) o.to' o.key o.n o.change o.mask o.torn o.cut).flat).toArray)] T0 [aj c (fh n D M P) 56,dk d e] (dG (λv H=>((eg i e).1=none∧v= .int .i64 (eg i e).2∧H=[aj c (fh n D M P) 56,dk d (bY e).D])∨∃s r,(eg i e).1=some s∧v= .int .i64 0∧H=[aj c (fh n D (ow M i (.pointer (some ⟨r,0,none⟩))) P) 56,gm s d r,dk d s.e.D])):=by
 refine BD 114 Tryz.func9 rfl rfl rfl λw0 F hF=>sr λ_ J1=>XY (ints (OpT.mk 11 ((i:Nat):Int) o.to' o.key o.n o.change o.mask o.torn o.cut).flat) λb3=>?_
 refine PS ?_;refine nx J1 (aa λ_ J2=>sr λ_ J3=>PS ?_);refine FA 1 eZ aO ?_;refine LT 0 Y3 (.int .i64 (((i:Nat):Int))) ?_ (hc:=by exact bT _ rfl);refine CE rF (eQ c i hi) ID ?_;refine PS ?_;refine nx J3 (CN (qx J2 (aa λ_ J4=>sr λ_ J5=>FA 0 eZ aO ?_)));refine LT 0 Y3 (.int .i64 11) ?_ (hc:=by exact cN _ rfl);refine nx J5 (am (aa λ_ J6=>sr λ_ J7=>P2 ?_));refine nx J7 (CN (sr λ_ J8=>P2 ?_));refine nx J8 (CN (sr λ_ J9=>P2 ?_));refine nx J9 (CN (sr λ_ J10=>P2 ?_));refine nx J10 (CN (ac (P2 ?_)));refine nx J6 (CN (aa λ_ J11=>sr λ_ J12=>P2 ?_));refine nx J12 (CN (sr λ_ J13=>P2 ?_));refine nx J13 (CN (ac (P2 ?_)));refine nx J11 (CN (sr λ_ J14=>P2 ?_));refine nx J14 (CN (sr λ_ J15=>P2 ?_));refine nx J15 (CN (sr λ_ J16=>P2 ?_));refine nx J16 (CN (sr λ_ J17=>P2 ?_));refine nx J17 (CY (sr λ_ J18=>PS ?_));refine FA 1 eZ aO ?_;refine LT 0 Y3 (.int .i64 (((i:Nat):Int))) ?_ (hc:=by exact bT _ rfl);refine CR Pa (CO c n i D M P hi d hD hM e hok) (SM [1,1]) λvR HR hR=>?_
 rcases hR with⟨hn,rfl,rfl⟩| ⟨s,r,hn,rfl,rfl⟩
 refine PS ?_;exact nx J18 (ah (aI (ae (WK [0,0] (aw rfl rfl (.inl ⟨hn,rfl,rfl⟩))))));refine PS ?_;exact nx J18 (ah (aI (ae (WK [0,0,0] (aw rfl rfl (.inr ⟨s,r,hn,rfl,rfl⟩))))))
theorem F4(c n i:Nat)(D M P:Nat→Value)(hi:i<5)(r:Nat)(hM:M i= .pointer (some ⟨r,0,none⟩))(o:OpT):
 DT 9 #[(.pointer (some ⟨c,0,none⟩)),(.agg (ints (OpT.mk 11 ((i:Nat):Int) o.to' o.key o.n o.change o.mask o.torn o.cut).flat).toArray)] T0 [aj c (fh n D M P) 56] (RI (.int .i64 5) [aj c (fh n D M P) 56]):=by
 refine BD 114 Tryz.func9 rfl rfl rfl λw0 F hF=>sr λ_ J1=>XY (ints (OpT.mk 11 ((i:Nat):Int) o.to' o.key o.n o.change o.mask o.torn o.cut).flat) λb3=>?_
 refine PS ?_;refine nx J1 (aa λ_ J2=>sr λ_ J3=>PS ?_);refine FA 1 eZ aO ?_;refine LT 0 Y3 (.int .i64 (((i:Nat):Int))) ?_ (hc:=by exact bT _ rfl);refine CE rF (eQ c i hi) ID ?_;refine PS ?_;refine nx J3 (CN (qx J2 (aa λ_ J4=>sr λ_ J5=>FA 0 eZ aO ?_)));refine LT 0 Y3 (.int .i64 11) ?_ (hc:=by exact cN _ rfl);refine nx J5 (am (aa λ_ J6=>sr λ_ J7=>P2 ?_));refine nx J7 (CN (sr λ_ J8=>P2 ?_));refine nx J8 (CN (sr λ_ J9=>P2 ?_));refine nx J9 (CN (sr λ_ J10=>P2 ?_));refine nx J10 (CN (ac (P2 ?_)));refine nx J6 (CN (aa λ_ J11=>sr λ_ J12=>P2 ?_));refine nx J12 (CN (sr λ_ J13=>P2 ?_));refine nx J13 (CN (ac (P2 ?_)));refine nx J11 (CN (sr λ_ J14=>P2 ?_));refine nx J14 (CN (sr λ_ J15=>P2 ?_));refine nx J15 (CN (sr λ_ J16=>P2 ?_));refine nx J16 (CN (sr λ_ J17=>P2 ?_));refine nx J17 (CY (sr λ_ J18=>PS ?_));refine FA 1 eZ aO ?_;refine LT 0 Y3 (.int .i64 (((i:Nat):Int))) ?_ (hc:=by exact bT _ rfl);refine CE Pa (CM c n i D M P hi r hM) (SM [1]) ?_;refine PS ?_;exact nx J18 (ah (aI (ae (WK [0] (aw rfl rfl ⟨rfl,rfl⟩)))))
theorem Ct(c n i:Nat)(D M P:Nat→Value)(hi:i<5)(to' k:Int)(o:OpT)(hv:dA ((i:Nat):Int) to'=false)(bs:List Nat):
 DT 25 #[(.pointer (some ⟨c,0,none⟩)),(.agg (ints (OpT.mk k ((i:Nat):Int) to' o.key o.n o.change o.mask o.torn o.cut).flat).toArray)] T0 [aj c (fh n D M P) 56,aj n (dS bs) 106] (RI (.int .i64 5) [aj c (fh n D M P) 56,aj n (dS bs) 106]):=by
 refine BD 91 Tryz.func25 rfl rfl rfl λw0 F hF=>sr λ_ J1=>XY (ints (OpT.mk k ((i:Nat):Int) to' o.key o.n o.change o.mask o.torn o.cut).flat) λb3=>?_
 refine PS ?_;refine nx J1 (aa λ_ J2=>D2 0 1 df ?_);refine PD 0 ?_;refine PD 1 ?_;refine FD 2 0 qj A8 ?_;refine LX 3 K9 (.pointer (some ⟨n,0,none⟩)) ?_ (hc:=by exact B2 n D M P);refine FD 4 1 eZ aO ?_;refine LX 5 Y3 (.int .i64 (((i:Nat):Int))) ?_ (hc:=by exact bT _ rfl);refine FD 6 2 eZ aO ?_;refine LX 7 Y3 (.int .i64 (to')) ?_ (hc:=by exact iG _ rfl);refine AL 8 ?_;refine CR FE (nH n bs ((i:Nat):Int) to') (SM [2]) λvR HR hR=>?_
 obtain⟨hw,rfl⟩:=hR;obtain⟨_,rfl⟩:dA ((i:Nat):Int) to'=false∧vR= .pointer none:=hw.resolve_left (λq=>by rw[hv]at q;cases q.1);refine EN (PD 9 ?_);refine DN (ad J2 (aa λ_ J3=>sr λ_ J4=>PS ?_));refine tp (RR rfl yG rfl rfl) ?_;refine nx J4 (CY (sr λ_ J5=>PS ?_));exact nx J5 (ah (ae (WK [2,0] (aw rfl rfl ⟨rfl,rfl⟩))))
theorem qo{n i j:Nat}{bs:List Nat}{W:List (List MsgT)}{l:List MsgT}{H:List HP}{h:Hl}(hv:dA ((i:Nat):Int) ((j:Nat):Int)=true)(hW:W.length=25)(q:bR (iw 169 5 (bs.getD (bE ((i:Nat):Int) ((j:Nat):Int)) 0) (List.map (lA (bE ((i:Nat):Int) ((j:Nat):Int))) l)::fY 169 5 bs (da W) (bE ((i:Nat):Int) ((j:Nat):Int))::aj n (dS bs) 106::H) h):bR (eT 106 169 5 n (da (W.set (bE ((i:Nat):Int) ((j:Nat):Int)) l))::H) h:=by
 have q2:=uH hv (qp W) q;rw[w4 W (jh hv).1 hW]at q2;exact bw (p:=λbs:List Nat=>[aj n (dS bs) 106,fb 169 5 bs (da (W.set (bE ((i:Nat):Int) ((j:Nat):Int)) l))]) bs (eO (List.Perm.swap _ _ _) q2)
theorem AW(c n i:Nat)(D M P:Nat→Value)(hi:i<5)(j:Nat)(hj:j<5)(hv:dA ((i:Nat):Int) ((j:Nat):Int)=true)(W:List (List MsgT))(hW:W.length=25)(l:List MsgT)(hl:W.getD (bE ((i:Nat):Int) ((j:Nat):Int)) []=l)(h8:l.length≤8)(hlen: ∀m∈l,0< (cX m).length)(o:OpT)(k:Int)(hn:l=[])(bs:List Nat):
 DT 25 #[(.pointer (some ⟨c,0,none⟩)),(.agg (ints (OpT.mk k ((i:Nat):Int) ((j:Nat):Int) o.key o.n o.change o.mask o.torn o.cut).flat).toArray)] T0 [aj n (dS bs) 106,fb 169 5 bs (da W),aj c (fh n D M P) 56] (RI (.int .i64 10) [aj c (fh n D M P) 56,eT 106 169 5 n (da (W.set (bE ((i:Nat):Int) ((j:Nat):Int)) l))]):=by
 refine BD 91 Tryz.func25 rfl rfl rfl λw0 F hF=>sr λ_ J1=>XY (ints (OpT.mk k ((i:Nat):Int) ((j:Nat):Int) o.key o.n o.change o.mask o.torn o.cut).flat) λb3=>?_
 refine PS ?_;refine nx J1 (aa λ_ J2=>D2 0 3 df ?_);refine PD 0 ?_;refine PD 1 ?_;refine FD 2 0 qj A8 ?_;refine LX 3 K9 (.pointer (some ⟨n,0,none⟩)) ?_ (hc:=by exact B2 n D M P);refine FD 4 1 eZ aO ?_;refine LX 5 Y3 (.int .i64 (((i:Nat):Int))) ?_ (hc:=by exact bT _ rfl);refine FD 6 2 eZ aO ?_;refine LX 7 Y3 (.int .i64 (((j:Nat):Int))) ?_ (hc:=by exact iG _ rfl);refine AL 8 ?_;refine CR FE (nH n bs ((i:Nat):Int) ((j:Nat):Int)) (SM [1]) λvR HR hR=>?_
 obtain⟨hw,rfl⟩:=hR;obtain⟨_,rfl⟩:dA ((i:Nat):Int) ((j:Nat):Int)=true∧vR= .pointer (some ⟨(bs.getD (bE ((i:Nat):Int) ((j:Nat):Int)) 0),0,none⟩):=hw.resolve_right (λq=>by rw[hv]at q;cases q.1);refine EN (PD 9 ?_);refine DN (ad J2 (aa λ_ J3=>sr λ_ J4=>PS ?_));refine tp (gA rfl yG rfl rfl) ?_;refine nx J4 (CN (qx J3 (aa λ_ J5=>sr λ_ J6=>ci (H':=[iw 169 5 (bs.getD (bE ((i:Nat):Int) ((j:Nat):Int)) 0) (List.map (lA (bE ((i:Nat):Int) ((j:Nat):Int))) l),fY 169 5 bs (da W) (bE ((i:Nat):Int) ((j:Nat):Int)),aj n (dS bs) 106,aj b3 (ints (OpT.mk k ((i:Nat):Int) ((j:Nat):Int) o.key o.n o.change o.mask o.torn o.cut).flat) 30,aj c (fh n D M P) 56]) (λ_ q=>hl▸oq W (jh hv).1▸oS hv (aD [2] rfl q)) (PS ?_))));refine CE DL (jS (bs.getD (bE ((i:Nat):Int) ((j:Nat):Int)) 0) (List.map (lA (bE ((i:Nat):Int) ((j:Nat):Int))) l)) ID ?_;rw[cn];refine PS ?_;refine ap ?_ ?_<;>intro h23;refine nx J6 (CY (sr λ_ J7=>PS ?_));exact nx J7 (ah (ae (aE (H':=[aj c (fh n D M P) 56,eT 106 169 5 n (da (W.set (bE ((i:Nat):Int) ((j:Nat):Int)) l))]) (dN _) (λ_ q=>eO (List.Perm.swap _ _ _) (qo (bs:=bs) hv hW (ak [0,0,0,1] rfl q))) (aw rfl rfl ⟨rfl,rfl⟩))))
 · exact absurd (by rw[hn];rfl) h23
theorem yP(c n i:Nat)(D M P:Nat→Value)(hi:i<5)(j:Nat)(hj:j<5)(hv:dA ((i:Nat):Int) ((j:Nat):Int)=true)(W:List (List MsgT))(hW:W.length=25)(l:List MsgT)(hl:W.getD (bE ((i:Nat):Int) ((j:Nat):Int)) []=l)(h8:l.length≤8)(hlen: ∀m∈l,0< (cX m).length)(o:OpT)(hn:l≠[])(bs:List Nat):
    DT 25 #[(.pointer (some ⟨c,0,none⟩)),(.agg (ints (OpT.mk 7 ((i:Nat):Int) ((j:Nat):Int) o.key o.n o.change o.mask o.torn o.cut).flat).toArray)] T0 [aj n (dS bs) 106,fb 169 5 bs (da W),aj c (fh n D M P) 56] (RI (.int .i64 (if I5 l then 0 else 3)) [aj c (fh n D M P) 56,eT 106 169 5 n (da (W.set (bE ((i:Nat):Int) ((j:Nat):Int)) (ER l)))]):=by
 refine BD 91 Tryz.func25 rfl rfl rfl λw0 F hF=>sr λ_ J1=>XY (ints (OpT.mk 7 ((i:Nat):Int) ((j:Nat):Int) o.key o.n o.change o.mask o.torn o.cut).flat) λb3=>?_
 refine PS ?_;refine nx J1 (aa λ_ J2=>D2 0 3 df ?_);refine PD 0 ?_;refine PD 1 ?_;refine FD 2 0 qj A8 ?_;refine LX 3 K9 (.pointer (some ⟨n,0,none⟩)) ?_ (hc:=by exact B2 n D M P);refine FD 4 1 eZ aO ?_;refine LX 5 Y3 (.int .i64 (((i:Nat):Int))) ?_ (hc:=by exact bT _ rfl);refine FD 6 2 eZ aO ?_;refine LX 7 Y3 (.int .i64 (((j:Nat):Int))) ?_ (hc:=by exact iG _ rfl);refine AL 8 ?_;refine CR FE (nH n bs ((i:Nat):Int) ((j:Nat):Int)) (SM [1]) λvR HR hR=>?_
 obtain⟨hw,rfl⟩:=hR;obtain⟨_,rfl⟩:dA ((i:Nat):Int) ((j:Nat):Int)=true∧vR= .pointer (some ⟨(bs.getD (bE ((i:Nat):Int) ((j:Nat):Int)) 0),0,none⟩):=hw.resolve_right (λq=>by rw[hv]at q;cases q.1);refine EN (PD 9 ?_);refine DN (ad J2 (aa λ_ J3=>sr λ_ J4=>PS ?_));refine tp (gA rfl yG rfl rfl) ?_;refine nx J4 (CN (qx J3 (aa λ_ J5=>sr λ_ J6=>ci (H':=[iw 169 5 (bs.getD (bE ((i:Nat):Int) ((j:Nat):Int)) 0) (List.map (lA (bE ((i:Nat):Int) ((j:Nat):Int))) l),fY 169 5 bs (da W) (bE ((i:Nat):Int) ((j:Nat):Int)),aj n (dS bs) 106,aj b3 (ints (OpT.mk 7 ((i:Nat):Int) ((j:Nat):Int) o.key o.n o.change o.mask o.torn o.cut).flat) 30,aj c (fh n D M P) 56]) (λ_ q=>hl▸oq W (jh hv).1▸oS hv (aD [2] rfl q)) (PS ?_))));refine CE DL (jS (bs.getD (bE ((i:Nat):Int) ((j:Nat):Int)) 0) (List.map (lA (bE ((i:Nat):Int) ((j:Nat):Int))) l)) ID ?_;rw[cn];refine PS ?_;refine ap ?_ ?_<;>intro h23
 · exact absurd (List.eq_nil_of_length_eq_zero (by omega)) hn
 refine nx J6 (CN (qx J5 (aa λ_ J7=>sr λ_ J8=>FA 0 eZ aO ?_)));refine LT 3 Y3 (.int .i64 7) ?_ (hc:=by exact cN _ rfl);refine PS ?_;refine nx J8 (CY (aa λ_ J9=>sr λ_ J10=>PS ?_))
 refine lR (ab rfl) rfl rfl rfl QU rfl (zg (bs.getD (bE ((i:Nat):Int) ((j:Nat):Int)) 0) (List.map (lA (bE ((i:Nat):Int) ((j:Nat):Int))) l) (by rw[cn];exact h8) (λx hx=>by
        obtain⟨m,_,rfl⟩:=gl.1 hx
        exact w3 _ m)) (λ_ s=>s) (λ_ _ _=>trivial) (λvR HR hR=>?_)
 obtain⟨rfl,rfl⟩:=hR;rw[LI,LH];refine bg ?_ ?_<;>intro h28;refine PS ?_;refine nx J10 (CN (qx J9 (sr λ_ J11=>PS ?_)));refine nx J11 (ah (ae (aE (H':=[aj c (fh n D M P) 56,eT 106 169 5 n (da (W.set (bE ((i:Nat):Int) ((j:Nat):Int)) (ER l)))]) (dN _) (λ_ q=>eO (List.Perm.swap _ _ _) (qo (bs:=bs) hv hW (ak [0,0,0,1] rfl q))) (aw rfl rfl ?_))));exact⟨by rw[h28];rfl,rfl⟩;refine PS ?_;refine nx J10 (CY (sr λ_ J12=>PS ?_));refine nx J12 (ah (ae (ae (aE (H':=[aj c (fh n D M P) 56,eT 106 169 5 n (da (W.set (bE ((i:Nat):Int) ((j:Nat):Int)) (ER l)))]) (dN _) (λ_ q=>eO (List.Perm.swap _ _ _) (qo (bs:=bs) hv hW (ak [0,0,0,1] rfl q))) (aw rfl rfl ?_)))));exact⟨by rw[h28];rfl,rfl⟩
theorem Gt{i j:Nat}{W:List (List MsgT)}{m:MsgT}{l2:List MsgT}(hv:dA ((i:Nat):Int) ((j:Nat):Int)=true)(hW:W.length=25):(da (W.set (bE ((i:Nat):Int) ((j:Nat):Int)) (m::l2))).getD (bE ((i:Nat):Int) ((j:Nat):Int)) []=jP ((i:Nat):Int) ((j:Nat):Int) (cX m)::List.map (lA (bE ((i:Nat):Int) ((j:Nat):Int))) l2:=by
 rw[oq _ (jh hv).1,List.getD_eq_getElem?_getD,List.getElem?_set_self (by rw[hW];exact(jh hv).1),←Cs (tg hv).1 (tg hv).2];rfl
theorem Cy{i j:Nat}{W:List (List MsgT)}{m:MsgT}{l2:List MsgT}(hv:dA ((i:Nat):Int) ((j:Nat):Int)=true)(hW:W.length=25):(da (W.set (bE ((i:Nat):Int) ((j:Nat):Int)) (m::l2))).set (bE ((i:Nat):Int) ((j:Nat):Int)) (List.map (lA (bE ((i:Nat):Int) ((j:Nat):Int))) l2)=da (W.set (bE ((i:Nat):Int) ((j:Nat):Int)) l2):=by
 rw[w4 _ (jh hv).1 (by rw[fx];exact hW),ie]
theorem sZ(c n i:Nat)(D M P:Nat→Value)(hi:i<5)(j:Nat)(hj:j<5)(hv:dA ((i:Nat):Int) ((j:Nat):Int)=true)(W:List (List MsgT))(hW:W.length=25)(l:List MsgT)(hl:W.getD (bE ((i:Nat):Int) ((j:Nat):Int)) []=l)(h8:l.length≤8)(hlen: ∀m∈l,0< (cX m).length)(o:OpT)(m:MsgT)(l2:List MsgT)(ht:jD (max o.n 0% ((l.length:Nat):Int)).toNat l=m::l2)(bs:List Nat)(q:Int)(hk5:q=5∨q=6)(hk:q=6∨M j= .pointer none):
    DT 25 #[(.pointer (some ⟨c,0,none⟩)),(.agg (ints (OpT.mk q ((i:Nat):Int) ((j:Nat):Int) o.key o.n o.change o.mask o.torn o.cut).flat).toArray)] T0 [aj n (dS bs) 106,fb 169 5 bs (da W),aj c (fh n D M P) 56] (RI (.int .i64 0) [aj c (fh n D M P) 56,eT 106 169 5 n (da (W.set (bE ((i:Nat):Int) ((j:Nat):Int)) l2))]):=by
 refine BD 91 Tryz.func25 rfl rfl rfl λw0 F hF=>?_
 have hln:0<l.length:=by
     have:=kW (max o.n 0% ((l.length:Nat):Int)).toNat l;rw[ht]at this;rw[←this];exact Nat.succ_pos _
 have hm0:0< (cX m).length:=hlen m ((pq (max o.n 0% ((l.length:Nat):Int)).toNat l).1 (ht▸oo ..));have hrl:(max o.n 0% ((l.length:Nat):Int))< ((l.length:Nat):Int):=I4 _ (by omega);refine sr λ_ J1=>XY (ints (OpT.mk q ((i:Nat):Int) ((j:Nat):Int) o.key o.n o.change o.mask o.torn o.cut).flat) λb3=>?_
 refine PS ?_;refine nx J1 (aa λ_ J2=>D2 0 3 df ?_);refine PD 0 ?_;refine PD 1 ?_;refine FD 2 0 qj A8 ?_;refine LX 3 K9 (.pointer (some ⟨n,0,none⟩)) ?_ (hc:=by exact B2 n D M P);refine FD 4 1 eZ aO ?_;refine LX 5 Y3 (.int .i64 (((i:Nat):Int))) ?_ (hc:=by exact bT _ rfl);refine FD 6 2 eZ aO ?_;refine LX 7 Y3 (.int .i64 (((j:Nat):Int))) ?_ (hc:=by exact iG _ rfl);refine AL 8 ?_;refine CR FE (nH n bs ((i:Nat):Int) ((j:Nat):Int)) (SM [1]) λvR HR hR=>?_
 obtain⟨hw,rfl⟩:=hR;obtain⟨_,rfl⟩:dA ((i:Nat):Int) ((j:Nat):Int)=true∧vR= .pointer (some ⟨(bs.getD (bE ((i:Nat):Int) ((j:Nat):Int)) 0),0,none⟩):=hw.resolve_right (λq=>by rw[hv]at q;cases q.1);refine EN (PD 9 ?_);refine DN (ad J2 (aa λ_ J3=>sr λ_ J4=>PS ?_));refine tp (gA rfl yG rfl rfl) ?_;refine nx J4 (CN (qx J3 (aa λ_ J5=>sr λ_ J6=>ci (H':=[iw 169 5 (bs.getD (bE ((i:Nat):Int) ((j:Nat):Int)) 0) (List.map (lA (bE ((i:Nat):Int) ((j:Nat):Int))) l),fY 169 5 bs (da W) (bE ((i:Nat):Int) ((j:Nat):Int)),aj n (dS bs) 106,aj b3 (ints (OpT.mk q ((i:Nat):Int) ((j:Nat):Int) o.key o.n o.change o.mask o.torn o.cut).flat) 30,aj c (fh n D M P) 56]) (λ_ q=>hl▸oq W (jh hv).1▸oS hv (aD [2] rfl q)) (PS ?_))));refine CE DL (jS (bs.getD (bE ((i:Nat):Int) ((j:Nat):Int)) 0) (List.map (lA (bE ((i:Nat):Int) ((j:Nat):Int))) l)) ID ?_;rw[cn];refine PS ?_;refine ap ?_ ?_<;>intro h23
 · exact absurd h23 (by omega)
 refine nx J6 (CN (qx J5 (aa λ_ J7=>sr λ_ J8=>FA 0 eZ aO ?_)));refine LT 3 Y3 (.int .i64 (q)) ?_ (hc:=by exact cN _ rfl);refine PS ?_;refine ap ?_ ?_<;>intro h26
 · exact absurd h26 (by omega)
 refine nx J8 (CN (qx J7 (aa λ_ J9=>aa λ_ J10=>D1 3 df ?_)));refine FD 0 4 eZ aO ?_;refine LX 1 Y3 (.int .i64 (o.n)) ?_ (hc:=by exact rc _ rfl);refine ta 2 rfl (zr rfl rfl rfl) ?_;refine PD 3 ?_;refine PD 6 ?_;refine AL 4 ?_;refine CE DL (jS (bs.getD (bE ((i:Nat):Int) ((j:Nat):Int)) 0) (List.map (lA (bE ((i:Nat):Int) ((j:Nat):Int))) l)) ID ?_;rw[cn];refine EN (ta 5 rfl (P8 (r:=(max o.n 0% ((l.length:Nat):Int))) rfl rfl rfl (by omega) (uA (by omega))) ?_);refine DN (ad J10 (am ?_))
 refine bG (α:=(Nat)) (λk=>((k:Nat):Int)≤(max o.n 0% ((l.length:Nat):Int))) (λk=>[(0,(.pointer (some ⟨c,0,none⟩))),(3,(.pointer (some ⟨b3,0,none⟩))),(4,(.int .i64 0)),(5,(.pointer (some ⟨(bs.getD (bE ((i:Nat):Int) ((j:Nat):Int)) 0),0,none⟩))),(35,(.int .i64 ((max o.n 0% ((l.length:Nat):Int))))),(36,(.int .i64 (((k:Nat):Int))))]) (λk=>[iw 169 5 (bs.getD (bE ((i:Nat):Int) ((j:Nat):Int)) 0) (List.map (lA (bE ((i:Nat):Int) ((j:Nat):Int))) (jD k l)),fY 169 5 bs (da W) (bE ((i:Nat):Int) ((j:Nat):Int)),aj n (dS bs) 106,aj b3 (ints (OpT.mk q ((i:Nat):Int) ((j:Nat):Int) o.key o.n o.change o.mask o.torn o.cut).flat) 30,aj c (fh n D M P) 56]) (λk=>(max o.n 0% ((l.length:Nat):Int)).toNat-k) 0
     (AR _ (by omega)) SB
     (λ_ s=>aD [0,0,0,0,0] rfl s) (λk hinv=>?_)
 obtain hk:=hinv;refine sr λ_ J11=>PS ?_
 refine ap ?_ ?_<;>intro h37;refine nx J11 (aa λ_ J12=>CY (qx J12 (aa λ_ J13=>am (ac (PS ?_)))))
 refine lR (ab rfl) rfl rfl rfl O5 rfl (uo (bs.getD (bE ((i:Nat):Int) ((j:Nat):Int)) 0) (List.map (lA (bE ((i:Nat):Int) ((j:Nat):Int))) (jD k l)) (by rw[cn,kW];exact h8) (λx hx=>by
        obtain⟨m,_,rfl⟩:=gl.1 hx
        exact w3 _ m)) (λ_ s=>s) (λ_ _ _=>trivial) (λvR HR hR=>?_)
 obtain rfl:=hR;rw[zF];refine au (af (ad J13 (ac (AD ?_))));refine PS ?_;refine au ?_
 exact aL ((k+1):(Nat)) (by omega) (by show(max o.n 0% ((l.length:Nat):Int)).toNat- (k+1)< (max o.n 0% ((l.length:Nat):Int)).toNat-k;omega)
   SB
   (λ_ s=>aD [0,0,0,0,0] rfl s)
 have hkr:k=(max o.n 0% ((l.length:Nat):Int)).toNat:=by omega
 refine ci (H':=[iw 169 5 (bs.getD (bE ((i:Nat):Int) ((j:Nat):Int)) 0) (List.map (lA (bE ((i:Nat):Int) ((j:Nat):Int))) (m::l2)),fY 169 5 bs (da W) (bE ((i:Nat):Int) ((j:Nat):Int)),aj n (dS bs) 106,aj b3 (ints (OpT.mk q ((i:Nat):Int) ((j:Nat):Int) o.key o.n o.change o.mask o.torn o.cut).flat) 30,aj c (fh n D M P) 56]) (λ_ q=>by rw[hkr,ht]at q;exact q) (nx J11 (aa λ_ J14=>CN (aW (aA (aA (bq (ad J9 (aa λ_ J15=>D2 3 4 df ?_))))))));refine PD 0 ?_;refine PD 1 ?_;refine FD 2 0 qj A8 ?_;refine LX 3 K9 (.pointer (some ⟨n,0,none⟩)) ?_ (hc:=by exact B2 n D M P);refine FD 4 1 eZ aO ?_;refine LX 5 Y3 (.int .i64 (((i:Nat):Int))) ?_ (hc:=by exact bT _ rfl);refine FD 6 2 eZ aO ?_;refine LX 7 Y3 (.int .i64 (((j:Nat):Int))) ?_ (hc:=by exact iG _ rfl);refine AL 8 ?_;refine ci (H':=[eT 106 169 5 n (da (W.set (bE ((i:Nat):Int) ((j:Nat):Int)) (m::l2))),aj b3 (ints (OpT.mk q ((i:Nat):Int) ((j:Nat):Int) o.key o.n o.change o.mask o.torn o.cut).flat) 30,aj c (fh n D M P) 56]) (λ_ q=>qo (bs:=bs) hv hW (aD [0,0,0] rfl q)) (CR O4 (rR n (da (W.set (bE ((i:Nat):Int) ((j:Nat):Int)) (m::l2))) ((i:Nat):Int) ((j:Nat):Int) (cX m) (List.map (lA (bE ((i:Nat):Int) ((j:Nat):Int))) l2) hv (qp _) (Gt hv hW) hm0 (by have:=uj m;omega)) ID λvR HR hR=>?_);obtain⟨uv,rfl,rfl⟩:=hR;rw[Cy hv hW];refine EN (PD 9 ?_);refine PD 10 ?_;refine PD 11 ?_;refine PD 12 ?_;refine PD 13 ?_
 refine DN (ad J15 (aa λ_ J16=>sr λ_ J17=>FA 0 eZ aO ?_));refine LT 2 Y3 (.int .i64 (q)) ?_ (hc:=by exact cN _ rfl);refine PS ?_;refine ap ?_ ?_<;>intro h55;refine PS ?_;refine UT ?_;refine UT ?_;refine P2 ?_
 iterate 5 refine UT ?_
 refine PS ?_;refine nx J17 (CY (sr λ_ J18=>PS ?_));exact nx J18 (ah (ae (WK [3,0] (aw rfl rfl ⟨rfl,rfl⟩))));refine P2 ?_;refine PS ?_;refine P3 ?_;refine FA 2 eZ aO ?_;refine LT 2 Y3 (.int .i64 (((j:Nat):Int))) ?_ (hc:=by exact iG _ rfl);refine CE DM (ti c n j D M P hj (hk.resolve_left h55)) (SM [3]) ?_;refine PS ?_;refine PS ?_;refine nx J17 (CY (sr λ_ J19=>PS ?_));exact nx J19 (ah (ae (WK [0,0] (aw rfl rfl ⟨rfl,rfl⟩))))
theorem AY(c n i:Nat)(D M P:Nat→Value)(hi:i<5)(j:Nat)(hj:j<5)(hv:dA ((i:Nat):Int) ((j:Nat):Int)=true)(W:List (List MsgT))(hW:W.length=25)(l:List MsgT)(hl:W.getD (bE ((i:Nat):Int) ((j:Nat):Int)) []=l)(h8:l.length≤8)(hlen: ∀m∈l,0< (cX m).length)(o:OpT)(m:MsgT)(l2:List MsgT)(ht:jD (max o.n 0% ((l.length:Nat):Int)).toNat l=m::l2)(bs:List Nat)(d r:Nat)(s:MS LD)(hD:D j= .pointer (some ⟨d,0,none⟩))(hM:M j= .pointer (some ⟨r,0,none⟩))(ho:s.o=[])(hs:OkR KD s)(hto:((i:Nat):Int)≠s.id)(hrs:s.replies.length≤1000000):
    DT 25 #[(.pointer (some ⟨c,0,none⟩)),(.agg (ints (OpT.mk 5 ((i:Nat):Int) ((j:Nat):Int) o.key o.n o.change o.mask o.torn o.cut).flat).toArray)] T0 [aj n (dS bs) 106,fb 169 5 bs (da W),aj c (fh n D M P) 56,dk d s.e.D,gm s d r] (dG (λv H=>(s.e.D.dn=true∧v= .int .i64 0∧H=[aj c (fh n D M P) 56,dk d s.e.D,eT 106 169 5 n (da ((W.set (bE ((i:Nat):Int) ((j:Nat):Int)) l2))),gm s d r])∨(s.e.D.dn=false∧(jx (cX m)).2≠0∧v= .int .i64 (jx (cX m)).2∧H=[aj c (fh n D M P) 56,dk d s.e.D,eT 106 169 5 n (da ((W.set (bE ((i:Nat):Int) ((j:Nat):Int)) l2))),gm s d r])∨(s.e.D.dn=false∧(jx (cX m)).2=0∧v= .int .i64 0∧H=[aj c (fh n D M P) 56,dk d (fM KD s ((i:Nat):Int) (jx (cX m)).1).hush.e.D,eT 106 169 5 n (da (gT (W.set (bE ((i:Nat):Int) ((j:Nat):Int)) l2) j (fM KD s ((i:Nat):Int) (jx (cX m)).1).o)),gm (fM KD s ((i:Nat):Int) (jx (cX m)).1).hush d r]))):=by
 refine BD 91 Tryz.func25 rfl rfl rfl λw0 F hF=>?_
 have hln:0<l.length:=by
     have:=kW (max o.n 0% ((l.length:Nat):Int)).toNat l;rw[ht]at this;rw[←this];exact Nat.succ_pos _
 have hm0:0< (cX m).length:=hlen m ((pq (max o.n 0% ((l.length:Nat):Int)).toNat l).1 (ht▸oo ..));have hrl:(max o.n 0% ((l.length:Nat):Int))< ((l.length:Nat):Int):=I4 _ (by omega);refine sr λ_ J1=>XY (ints (OpT.mk 5 ((i:Nat):Int) ((j:Nat):Int) o.key o.n o.change o.mask o.torn o.cut).flat) λb3=>?_
 refine PS ?_;refine nx J1 (aa λ_ J2=>D2 0 3 df ?_);refine PD 0 ?_;refine PD 1 ?_;refine FD 2 0 qj A8 ?_;refine LX 3 K9 (.pointer (some ⟨n,0,none⟩)) ?_ (hc:=by exact B2 n D M P);refine FD 4 1 eZ aO ?_;refine LX 5 Y3 (.int .i64 (((i:Nat):Int))) ?_ (hc:=by exact bT _ rfl);refine FD 6 2 eZ aO ?_;refine LX 7 Y3 (.int .i64 (((j:Nat):Int))) ?_ (hc:=by exact iG _ rfl);refine AL 8 ?_;refine CR FE (nH n bs ((i:Nat):Int) ((j:Nat):Int)) (SM [1]) λvR HR hR=>?_
 obtain⟨hw,rfl⟩:=hR;obtain⟨_,rfl⟩:dA ((i:Nat):Int) ((j:Nat):Int)=true∧vR= .pointer (some ⟨(bs.getD (bE ((i:Nat):Int) ((j:Nat):Int)) 0),0,none⟩):=hw.resolve_right (λq=>by rw[hv]at q;cases q.1);refine EN (PD 9 ?_);refine DN (ad J2 (aa λ_ J3=>sr λ_ J4=>PS ?_));refine tp (gA rfl yG rfl rfl) ?_;refine nx J4 (CN (qx J3 (aa λ_ J5=>sr λ_ J6=>ci (H':=[iw 169 5 (bs.getD (bE ((i:Nat):Int) ((j:Nat):Int)) 0) (List.map (lA (bE ((i:Nat):Int) ((j:Nat):Int))) l),fY 169 5 bs (da W) (bE ((i:Nat):Int) ((j:Nat):Int)),aj n (dS bs) 106,aj b3 (ints (OpT.mk 5 ((i:Nat):Int) ((j:Nat):Int) o.key o.n o.change o.mask o.torn o.cut).flat) 30,aj c (fh n D M P) 56,dk d s.e.D,gm s d r]) (λ_ q=>hl▸oq W (jh hv).1▸oS hv (aD [2] rfl q)) (PS ?_))));refine CE DL (jS (bs.getD (bE ((i:Nat):Int) ((j:Nat):Int)) 0) (List.map (lA (bE ((i:Nat):Int) ((j:Nat):Int))) l)) ID ?_;rw[cn];refine PS ?_;refine ap ?_ ?_<;>intro h23
 · exact absurd h23 (by omega)
 refine nx J6 (CN (qx J5 (aa λ_ J7=>sr λ_ J8=>FA 0 eZ aO ?_)));refine LT 3 Y3 (.int .i64 5) ?_ (hc:=by exact cN _ rfl);refine PS ?_;refine nx J8 (CN (qx J7 (aa λ_ J9=>aa λ_ J10=>D1 3 df ?_)));refine FD 0 4 eZ aO ?_;refine LX 1 Y3 (.int .i64 (o.n)) ?_ (hc:=by exact rc _ rfl);refine ta 2 rfl (zr rfl rfl rfl) ?_;refine PD 3 ?_;refine PD 6 ?_;refine AL 4 ?_;refine CE DL (jS (bs.getD (bE ((i:Nat):Int) ((j:Nat):Int)) 0) (List.map (lA (bE ((i:Nat):Int) ((j:Nat):Int))) l)) ID ?_;rw[cn];refine EN (ta 5 rfl (P8 (r:=(max o.n 0% ((l.length:Nat):Int))) rfl rfl rfl (by omega) (uA (by omega))) ?_);refine DN (ad J10 (am ?_))
 refine bG (α:=(Nat)) (λk=>((k:Nat):Int)≤(max o.n 0% ((l.length:Nat):Int))) (λk=>[(0,(.pointer (some ⟨c,0,none⟩))),(3,(.pointer (some ⟨b3,0,none⟩))),(4,(.int .i64 0)),(5,(.pointer (some ⟨(bs.getD (bE ((i:Nat):Int) ((j:Nat):Int)) 0),0,none⟩))),(35,(.int .i64 ((max o.n 0% ((l.length:Nat):Int))))),(36,(.int .i64 (((k:Nat):Int))))]) (λk=>[iw 169 5 (bs.getD (bE ((i:Nat):Int) ((j:Nat):Int)) 0) (List.map (lA (bE ((i:Nat):Int) ((j:Nat):Int))) (jD k l)),fY 169 5 bs (da W) (bE ((i:Nat):Int) ((j:Nat):Int)),aj n (dS bs) 106,aj b3 (ints (OpT.mk 5 ((i:Nat):Int) ((j:Nat):Int) o.key o.n o.change o.mask o.torn o.cut).flat) 30,aj c (fh n D M P) 56,dk d s.e.D,gm s d r]) (λk=>(max o.n 0% ((l.length:Nat):Int)).toNat-k) 0
     (AR _ (by omega)) SB
     (λ_ s=>aD [0,0,0,0,0,0,0] rfl s) (λk hinv=>?_)
 obtain hk:=hinv;refine sr λ_ J11=>PS ?_
 refine ap ?_ ?_<;>intro h37;refine nx J11 (aa λ_ J12=>CY (qx J12 (aa λ_ J13=>am (ac (PS ?_)))))
 refine lR (ab rfl) rfl rfl rfl O5 rfl (uo (bs.getD (bE ((i:Nat):Int) ((j:Nat):Int)) 0) (List.map (lA (bE ((i:Nat):Int) ((j:Nat):Int))) (jD k l)) (by rw[cn,kW];exact h8) (λx hx=>by
        obtain⟨m,_,rfl⟩:=gl.1 hx
        exact w3 _ m)) (λ_ s=>s) (λ_ _ _=>trivial) (λvR HR hR=>?_)
 obtain rfl:=hR;rw[zF];refine au (af (ad J13 (ac (AD ?_))));refine PS ?_;refine au ?_
 exact aL ((k+1):(Nat)) (by omega) (by show(max o.n 0% ((l.length:Nat):Int)).toNat- (k+1)< (max o.n 0% ((l.length:Nat):Int)).toNat-k;omega)
   SB
   (λ_ s=>aD [0,0,0,0,0,0,0] rfl s)
 have hkr:k=(max o.n 0% ((l.length:Nat):Int)).toNat:=by omega
 refine ci (H':=[iw 169 5 (bs.getD (bE ((i:Nat):Int) ((j:Nat):Int)) 0) (List.map (lA (bE ((i:Nat):Int) ((j:Nat):Int))) (m::l2)),fY 169 5 bs (da W) (bE ((i:Nat):Int) ((j:Nat):Int)),aj n (dS bs) 106,aj b3 (ints (OpT.mk 5 ((i:Nat):Int) ((j:Nat):Int) o.key o.n o.change o.mask o.torn o.cut).flat) 30,aj c (fh n D M P) 56,dk d s.e.D,gm s d r]) (λ_ q=>by rw[hkr,ht]at q;exact q) (nx J11 (aa λ_ J14=>CN (aW (aA (aA (bq (ad J9 (aa λ_ J15=>D2 3 4 df ?_))))))));refine PD 0 ?_;refine PD 1 ?_;refine FD 2 0 qj A8 ?_;refine LX 3 K9 (.pointer (some ⟨n,0,none⟩)) ?_ (hc:=by exact B2 n D M P);refine FD 4 1 eZ aO ?_;refine LX 5 Y3 (.int .i64 (((i:Nat):Int))) ?_ (hc:=by exact bT _ rfl);refine FD 6 2 eZ aO ?_;refine LX 7 Y3 (.int .i64 (((j:Nat):Int))) ?_ (hc:=by exact iG _ rfl);refine AL 8 ?_;refine ci (H':=[eT 106 169 5 n (da (W.set (bE ((i:Nat):Int) ((j:Nat):Int)) (m::l2))),aj b3 (ints (OpT.mk 5 ((i:Nat):Int) ((j:Nat):Int) o.key o.n o.change o.mask o.torn o.cut).flat) 30,aj c (fh n D M P) 56,dk d s.e.D,gm s d r]) (λ_ q=>qo (bs:=bs) hv hW (aD [0,0,0] rfl q)) (CR O4 (rR n (da (W.set (bE ((i:Nat):Int) ((j:Nat):Int)) (m::l2))) ((i:Nat):Int) ((j:Nat):Int) (cX m) (List.map (lA (bE ((i:Nat):Int) ((j:Nat):Int))) l2) hv (qp _) (Gt hv hW) hm0 (by have:=uj m;omega)) ID λvR HR hR=>?_);obtain⟨uv,rfl,rfl⟩:=hR;rw[Cy hv hW];refine EN (PD 9 ?_);refine PD 10 ?_
 refine PD 11 ?_;refine PD 12 ?_;refine PD 13 ?_;refine DN (ad J15 (aa λ_ J16=>sr λ_ J17=>FA 0 eZ aO ?_));refine LT 2 Y3 (.int .i64 5) ?_ (hc:=by exact cN _ rfl);refine P3 ?_;refine PS ?_;refine P3 ?_;refine FA 2 eZ aO ?_;refine LT 2 Y3 (.int .i64 (((j:Nat):Int))) ?_ (hc:=by exact iG _ rfl);refine CE DM (th c n j D M P hj d r s.e.D hD hM) (SM [3,3]) ?_;refine bg ?_ ?_<;>intro h64;refine PS ?_;refine PS ?_;refine nx J17 (CN (qx J16 (sr λ_ J18=>PS ?_)));refine CF QT (Eo uv (cX m)) ID (BN 3 rfl rfl) ?_;refine P3 ?_;refine XZ nf (ints MsgT.zero.flat) λb8=>?_
 refine SW 0 ct aH ?_;refine PS ?_;refine nx J18 (aa λ_ J19=>sr λ_ J20=>P2 ?_);refine ap ?_ ?_<;>intro h73;refine nx J20 (CY (sR (λw=>Frm F w∧w.heap[b3]?=some (.cells (ints (OpT.mk 5 ((i:Nat):Int) ((j:Nat):Int) o.key o.n o.change o.mask o.torn o.cut).flat).toArray 30 (0,0))∧w.heap[c]?=some (.cells (fh n D M P).toArray 56 (0,0))∧w.heap[b8]?=some (.cells (ints ((jx (cX m)).1).flat).toArray 134 (0,0))∧True) df rfl (λ_ s=>⟨fD s,s.block 5 (lb rfl) rfl,s.block 1 (lb rfl) rfl,s.block 0 (lb rfl) rfl,trivial⟩) (PD 0 ?_)));refine FD 1 2 eZ aO ?_;refine LX 2 Y3 (.int .i64 (((j:Nat):Int))) ?_ (hc:=by exact iG _ rfl);refine PD 3 ?_;refine FD 4 6 qj p7 ?_;refine IY 5 (6+j) rI iQ ?_;refine LX 6 pn (.pointer (some ⟨r,0,none⟩)) ?_ (hc:=by exact(yv n D M P hj).trans (congrArg some hM));refine PD 7 ?_;refine FD 8 2 eZ aO ?_;refine LX 9 Y3 (.int .i64 (((j:Nat):Int))) ?_ (hc:=by exact iG _ rfl);refine ta 10 rfl (kM (cells:=#[(.pointer (some ⟨c,0,none⟩)),(.int .i64 (((j:Nat):Int)))]) rfl rfl (by as_aux_lemma=>kernel_rfl)) ?_;refine ta 11 rfl (qd rfl Om rfl rfl) ?_;refine FD 12 1 eZ aO ?_;refine LX 13 Y3 (.int .i64 (((i:Nat):Int))) ?_ (hc:=by exact bT _ rfl);refine LY 14 bi ct aH ?_;refine AL 15 ?_
 refine ci (H':=[cU (yo c n d j D M P hj hD (W.set (bE ((i:Nat):Int) ((j:Nat):Int)) l2) (by rw[fx];exact hW)) r s,aj b8 (ints ((jx (cX m)).1).flat) 134,ik uv (cX m) 5,aj b3 (ints (OpT.mk 5 ((i:Nat):Int) ((j:Nat):Int) o.key o.n o.change o.mask o.torn o.cut).flat) 30]) (λ_ q=>FJ ho (aD [1,1,1,3] rfl q)) (CZ O3 (@A7 _ (yo c n d j D M P hj hD (W.set (bE ((i:Nat):Int) ((j:Nat):Int)) l2) (by rw[fx];exact hW)) r s ((i:Nat):Int) (jx (cX m)).1 hs (G4 _) hto hrs) ID λvR=>?_);change TL _ _ _ _ _ _ _ _ _ [cU (yo c n d j D M P hj hD (W.set (bE ((i:Nat):Int) ((j:Nat):Int)) l2) (by rw[fx];exact hW)) r (fM KD s ((i:Nat):Int) (jx (cX m)).1),aj b8 (ints ((jx (cX m)).1).flat) 134,ik uv (cX m) 5,aj b3 (ints (OpT.mk 5 ((i:Nat):Int) ((j:Nat):Int) o.key o.n o.change o.mask o.torn o.cut).flat) 30];refine ci (H':=[aj c (fh n D M P) 56,dk d ((fM KD s ((i:Nat):Int) (jx (cX m)).1).e.D),eT 106 169 5 n (da (gT (W.set (bE ((i:Nat):Int) ((j:Nat):Int)) l2) j (fM KD s ((i:Nat):Int) (jx (cX m)).1).o)),gm ((fM KD s ((i:Nat):Int) (jx (cX m)).1).hush) d r,aj b8 (ints ((jx (cX m)).1).flat) 134,ik uv (cX m) 5,aj b3 (ints (OpT.mk 5 ((i:Nat):Int) ((j:Nat):Int) o.key o.n o.change o.mask o.torn o.cut).flat) 30]) (λ_ q=>BH (s:=(fM KD s ((i:Nat):Int) (jx (cX m)).1)) q) (EN (DN (ad J19 (sr λ_ J21=>P2 ?_))));refine nx J21 (ah (WK [0,0,0,0] (aw rfl rfl ?_)))
 exact .inr (.inr ⟨(by simpa using h64),h73,(by rw[h73]),rfl⟩);refine nx J20 (CN (qx J19 (sr λ_ J22=>P2 ?_)));refine nx J22 (ah (WK [1,1,1,3] (aw rfl rfl ?_)));exact .inr (.inl ⟨(by simpa using h64),h73,rfl,rfl⟩);refine PS ?_;refine PS ?_;refine nx J17 (CY (sr λ_ J23=>PS ?_));refine nx J23 (ah (ae (WK [0,0,0,2] (aw rfl rfl ?_))));exact .inl ⟨(by simpa using h64),rfl,rfl⟩
end Go.Proofs.YtkhjnolhhidecaaGreatDoor
end

section
namespace Api
open Go Leg Codec Dsk Wal
class GdM(m:MsgT):Prop where
 kind:0≤m.kind∧m.kind≤9
class GdL(l:List SaidT):Prop where
 all: ∀x∈l,0≤x.msg.kind∧x.msg.kind≤9
theorem KB(n:Int):0< (p8 n).length:=qS _
theorem Ed(n:Int)(l:List Int):0< (bh (n::l)).length:=by
 show 0< (p8 n++bh l).length;rw[ag];have:=KB n;omega
theorem N9{m:MsgT}(h:0≤m.kind∧m.kind≤9):0< (cX m).length:=by
 have p: ∀(l:List Int) (r:List UInt8),0< (bh (m.kind::l)++r).length:=λl r=>by rw[ag];have:=Ed m.kind l;omega
 unfold cX;split
 · exact p _ _
 rename_i h0;split
 · exact Ed _ _
 split
 · exact p _ _
 rename_i h3;split
 · rw[aG,aG];exact p _ _
 split
 · rw[aG];exact p _ _
 split
 · exact p _ _
 split
 · exact p _ _
 · exfalso
   simp only[eA,fj,decide_eq_true_eq]at h0 h3;omega
instance (v:Int):GdM (pJ v):=⟨(by decide:(0:Int)≤1∧(1:Int)≤9)⟩
instance (i:Int)(y:RowT):GdM (pD i y):=⟨(by decide:(0:Int)≤2∧(2:Int)≤9)⟩
instance (v:ViewT):GdM (jt v):=⟨(by decide:(0:Int)≤7∧(7:Int)≤9)⟩
instance (i:Int)(v:ViewT):GdM (nj i v):=⟨(by decide:(0:Int)≤8∧(8:Int)≤9)⟩
instance (i:Int)(y:RowT):GdM (eW i y):=⟨(by decide:(0:Int)≤9∧(9:Int)≤9)⟩
instance (e:Int)(b:BallotT):GdM (fK e b):=⟨(by decide:(0:Int)≤3∧(3:Int)≤9)⟩
instance (e:Int)(b h:BallotT)(c:ChangeT):GdM (ka e b h c):=⟨(by decide:(0:Int)≤4∧(4:Int)≤9)⟩
instance (e:Int)(b:BallotT)(c:ChangeT):GdM (iW e b c):=⟨(by decide:(0:Int)≤5∧(5:Int)≤9)⟩
instance (e:Int)(b:BallotT):GdM (ji e b):=⟨(by decide:(0:Int)≤6∧(6:Int)≤9)⟩
instance (t:Int)(m:MsgT)[h:GdM m]:GdL [⟨t,m⟩]:=⟨λx hx=>by rw[hX]at hx;subst hx;exact h.kind⟩
instance (i:Int)(m:MsgT)(p:Nat→Bool)(k:Nat)[h:GdM m]:GdL (nT i m p k):=⟨λx hx=>by
 unfold nT at hx;obtain⟨j,_,rfl⟩:=gl.1 hx
 exact h.kind⟩
instance (x:RepT):GdL (oy x):=⟨λs hs=>by
 unfold oy at hs;rw[gl]at hs;obtain⟨w,_,rfl⟩:=hs
 exact(show(0:Int)≤0∧(0:Int)≤9 by decide)⟩
section
variable {δ:Type} {K:Dk δ} {s0 s:MS δ}
class Qt(s0 s:MS δ):Prop where
 id:s.id=s0.id
 replies:s.replies=s0.replies
 ops:s.ops=s0.ops
 waits:s.waits=s0.waits∨s.waits=0
 o: ∃l,s.o=s0.o++l∧∀x∈l,0≤x.msg.kind∧x.msg.kind≤9
instance Qt.rfl':Qt s s:=⟨rfl,rfl,rfl, .inl rfl,[],(aY _).symm,λ_ h=>by cases h⟩
theorem Qt.trans{a b c:MS δ}(h:Qt a b)(g:Qt b c):Qt a c:=by
 obtain⟨l,e,hl⟩:=h.o;obtain⟨l2,e2,hl2⟩:=g.o;exact⟨g.id.trans h.id,g.replies.trans h.replies,g.ops.trans h.ops,g.waits.elim (λq=>h.waits.imp (q.trans ·) (q.trans ·)) .inr,l++l2,by rw[e2,e,aG],λx hx=>(fw.1 hx).elim (hl x) (hl2 x)⟩
theorem Qt.same{t:MS δ}(h:Qt s0 s)(h1:t.id=s.id)(h2:t.replies=s.replies)(h3:t.ops=s.ops)(h4:t.waits=s.waits)(h5:t.o=s.o):Qt s0 t:=
 ⟨h1.trans h.id,h2.trans h.replies,h3.trans h.ops,by rw[h4];exact h.waits,by rw[h5];exact h.o⟩
instance [h:Qt s0 s](l:List SaidT)[g:GdL l]:Qt s0 (iL K s l):=by
 refine h.trans ⟨rfl,rfl,rfl, .inl rfl,?_⟩
 by_cases q:K.dn s.e=true
 · exact⟨[],by rw[iL,if_pos q,aY],λ_ h=>by cases h⟩
 · exact⟨l,by rw[iL,if_neg q],g.all⟩
instance [h:Qt s0 s](t:Int)(m:MsgT)[GdM m]:Qt s0 (yV K s t m):=inferInstanceAs (Qt s0 (iL K s _))
instance [h:Qt s0 s](r:RecT):Qt s0 (dR K s r):=h.same rfl rfl rfl rfl rfl
instance [h:Qt s0 s](f:Int):Qt s0 (keptM s f):=h.same rfl rfl rfl rfl rfl
instance [h:Qt s0 s](w:Int)(x:RowT):Qt s0 (yC s w x):=h.same rfl rfl rfl rfl rfl
instance [h:Qt s0 s]:Qt s0 (gR s):=h.same rfl rfl rfl rfl rfl
instance [h:Qt s0 s](w:Int)(x:RowT):Qt s0 (il s w x):=h.same rfl rfl rfl rfl rfl
instance [h:Qt s0 s](w:Int):Qt s0 (lc s w):=h.same rfl rfl rfl rfl rfl
instance [h:Qt s0 s](x:RowT):Qt s0 (pZ s x 0):=⟨h.id,h.replies,h.ops, .inr rfl,h.o⟩
instance [Qt s0 s]:Qt s0 (eX K s):=inferInstanceAs (Qt s0 (iL K s _))
instance [Qt s0 s](y:RowT):Qt s0 (j6 K s y):=inferInstanceAs (Qt s0 (iL K s _))
instance [Qt s0 s](v:ViewT):Qt s0 (lj K s v):=inferInstanceAs (Qt s0 (iL K s _))
instance [Qt s0 s](m:MsgT)[GdM m]:Qt s0 (iY K s m):=inferInstanceAs (Qt s0 (iL K s _))
instance [Qt s0 s](x:RowT):Qt s0 (dI K s x 0).1:=by unfold dI;split<;>exact inferInstance
instance [h:Qt s0 s]:Qt s0 (lm K s):=by
 unfold lm;split
 · exact h
 split
 · exact inferInstance
 · exact h
instance [h:Qt s0 s](f:Int)(m:MsgT):Qt s0 (gI K s f m):=by
 unfold gI
 repeat' split
 all_goals exact inferInstance
instance [h:Qt s0 s](w:Int)(x:RowT):Qt s0 (mG s w x):=h.same rfl rfl rfl rfl rfl
instance [h:Qt s0 s](f w:Int)(y:RowT):Qt s0 (toldS s f w y):=h.same rfl rfl rfl rfl rfl
instance [h:Qt s0 s](f:Int)(m:MsgT):Qt s0 (dB K s f m):=by unfold dB;split<;>exact inferInstance
theorem qB[Qt s0 s]{f:MS δ→MS δ}(hf:Qt s0 (f s))(t:Int)(m:MsgT)[GdM m]:Qt s0 (kB K f s t m):=by unfold kB;split;exact hf;exact inferInstance
instance [h:Qt s0 s](f w:Int):Qt s0 (eC K s f w):=by
 unfold eC
 repeat' split
 · exact h
 · exact qB inferInstance _ _
 · exact inferInstance
 · exact qB inferInstance _ _
instance [h:Qt s0 s](i w:Int):Qt s0 (gG K s i w):=by
 unfold gG;split
 · exact h
 · exact qB inferInstance _ _
instance [Qt s0 s](i:Int):Qt s0 (ma K s i):=by unfold ma;exact inferInstance
theorem AG: ∀(l:List Int) (s:MS δ),Qt s0 s→Qt s0 (gi K l s)
 | [],_,h=>h
 |i::l,s,h=>AG l (ma K s i) inferInstance
instance [h:Qt s0 s]:Qt s0 (n5 K s):=AG _ _ h
instance [h:Qt s0 s](v:ViewT):Qt s0 (lO s v):=h.same rfl rfl rfl rfl rfl
instance [h:Qt s0 s](v:ViewT):Qt s0 (gz K s v):=by
 unfold gz
 repeat' split
 all_goals exact inferInstance
instance [h:Qt s0 s](f:Int)(m:MsgT):Qt s0 (iK K s f m):=by unfold iK;exact inferInstance
instance [h:Qt s0 s](c:ChangeT):Qt s0 (jd K s c):=by
 unfold jd
 repeat' split
 all_goals exact inferInstance
instance [h:Qt s0 s](n:Int):Qt s0 (dC s n):=h.same rfl rfl rfl rfl rfl
instance [h:Qt s0 s](v:VoteT):Qt s0 (lh s v):=h.same rfl rfl rfl rfl rfl
instance [h:Qt s0 s](a:AccT):Qt s0 (ux s a):=h.same rfl rfl rfl rfl rfl
instance [h:Qt s0 s](f:Int)(m:MsgT):Qt s0 (kj K f m s):=by
 unfold kj;split
 · exact h
 · split<;>exact inferInstance
theorem s8[h:Qt s0 s]{f:MS δ→MS δ}(hf: ∀s:MS δ,Qt s0 s→Qt s0 (f s))(w:Int)(m:MsgT):Qt s0 (eB K f s w m):=by
 unfold eB
 repeat' split
 · exact inferInstance
 · exact h
 · exact h
 · exact hf _ inferInstance
instance [Qt s0 s](w:Int)(m:MsgT):Qt s0 (mU K s w m):=s8 (λ_ _=>inferInstance) w m
instance [h:Qt s0 s](w:Int)(m:MsgT):Qt s0 (jG K w m s):=by unfold jG;exact qB inferInstance _ _
instance [h:Qt s0 s](w:Int)(m:MsgT):Qt s0 (mx K w m s):=by
 unfold mx
 repeat' split
 all_goals exact inferInstance
instance [Qt s0 s](w:Int)(m:MsgT):Qt s0 (nM K s w m):=s8 (λ_ _=>inferInstance) w m
theorem vK[h:Qt s0 s]{f:MS δ→MsgT→MS δ}{m:MsgT}[GdM m](hf: ∀s:MS δ,Qt s0 s→Qt s0 (f s m)):Qt s0 (gY K f s m):=by
 unfold gY;split
 · exact hf _ inferInstance
 · exact inferInstance
instance [h:Qt s0 s](vt:VoteT):Qt s0 (iM K s vt):=vK λ_ _=>inferInstance
instance [h:Qt s0 s](f:Int)(m:MsgT):Qt s0 (oi K f m s):=by
 unfold oi;split
 · exact h
 · split<;>exact inferInstance
instance [Qt s0 s](w:Int)(m:MsgT):Qt s0 (mV K s w m):=s8 (λ_ _=>inferInstance) w m
instance [h:Qt s0 s](w:Int)(m:MsgT)(a:AccT):Qt s0 (jU K w m a s):=by unfold jU;exact qB inferInstance _ _
instance [h:Qt s0 s](w:Int)(m:MsgT):Qt s0 (nc K w m s):=by
 unfold nc
 repeat' split
 all_goals exact inferInstance
instance [Qt s0 s](w:Int)(m:MsgT):Qt s0 (nN K s w m):=s8 (λ_ _=>inferInstance) w m
instance [h:Qt s0 s](vt:VoteT):Qt s0 (jH K s vt):=vK λ_ _=>inferInstance
instance [h:Qt s0 s](vt:VoteT):Qt s0 (lK K s vt):=by unfold lK;split<;>exact inferInstance
instance [h:Qt s0 s](c:ChangeT):Qt s0 (m3 K s c):=by unfold m3;exact inferInstance
instance [h:Qt s0 s](c:ChangeT):Qt s0 (bN K s c).1:=by
 unfold bN
 repeat' split
 all_goals exact inferInstance
instance [h:Qt s0 s]:Qt s0 (bO K s):=by unfold bO;split<;>exact inferInstance
instance [h:Qt s0 s]:Qt s0 (ca K s):=by unfold ca;split<;>exact inferInstance
instance [h:Qt s0 s]:Qt s0 (fz K s):=by unfold fz;split<;>exact inferInstance
instance [h:Qt s0 s]:Qt s0 (pV K s):=by
 unfold pV;split
 · exact h
 · repeat' split
   all_goals exact inferInstance
instance [h:Qt s0 s]:Qt s0 (gS K s):=by unfold gS;split<;>exact inferInstance
structure Rp(s0 s:MS δ)(l:List ReplyT):Prop where
 id:s.id=s0.id
 replies:s.replies=s0.replies++l
 o: ∃l,s.o=s0.o++l∧∀x∈l,0≤x.msg.kind∧x.msg.kind≤9
theorem Qt.rp(h:Qt s0 s):Rp s0 s []:=⟨h.id,by rw[h.replies,aY],h.o⟩
theorem Rp.then{l:List ReplyT}{t:MS δ}(h:Rp s0 s l)(g:Qt s t):Rp s0 t l:=by
 obtain⟨l1,e,hl⟩:=h.o;obtain⟨l2,e2,hl2⟩:=g.o;exact⟨g.id.trans h.id,g.replies.trans h.replies,l1++l2,by rw[e2,e,aG],λx hx=>(fw.1 hx).elim (hl x) (hl2 x)⟩
theorem Jq(s:MS δ)(f:Int)(m:MsgT):Qt s (du K s f m)∨(0<s.waits∧Rp s (du K s f m) [⟨s.waits,0,0⟩]∧(du K s f m).waits=0∧(du K s f m).ops=s.ops):=by
 unfold du;split
 · split
   · by_cases hw:0<s.waits
     · right
       have e:lB (gR (keptM s f))= {dw (gR (keptM s f)) s.waits 0 0 with waits:=0}:=zC (s:=gR (keptM s f)) hw;have q:Qt (lB (gR (keptM s f))) (kI K (keptM s f)):=by unfold kI;exact inferInstance
       have hw0:(lB (gR (keptM s f))).waits=0:=by rw[e]
       refine⟨hw,Rp.then (s:=lB (gR (keptM s f))) ?_ q,(q.waits.elim (·.trans hw0) id),q.ops.trans (by rw[e];rfl)⟩;rw[e];exact⟨rfl,rfl,[],(aY _).symm,λ_ h=>by cases h⟩
     · left
       unfold kI;rw[zD (s:=gR (keptM s f)) hw];exact inferInstance
   · left;exact inferInstance
 · left;exact inferInstance
theorem LJ(s:MS δ)(f:Int)(m:MsgT):Qt s (fM K s f m)∨(0<s.waits∧Rp s (fM K s f m) [⟨s.waits,0,0⟩]∧(fM K s f m).waits=0∧(fM K s f m).ops=s.ops):=by
 unfold fM
 by_cases h1:m.kind=1
 · rw[if_neg (by omega),if_pos h1];exact Jq s f m
 · left
   rw[if_neg h1]
   repeat' split
   all_goals exact inferInstance
theorem Mv(s:MS δ)(x:RowT)(op:Int):((dI K s x op).2≠0∧Qt s (dI K s x op).1)∨((dI K s x op).2=0∧Rp s (dI K s x op).1 []∧(dI K s x op).1.waits=op∧(dI K s x op).1.ops=s.ops):=by
 unfold dI;split
 · rename_i h;exact .inl ⟨h,inferInstance⟩
 · right
   have q:Qt (pZ (dR K s (gX x)) x op) (eX K (pZ (dR K s (gX x)) x op)):=inferInstance;refine⟨rfl,Rp.then (s:=pZ (dR K s (gX x)) x op) ⟨rfl,(aY _).symm,[],(aY _).symm,λ_ h=>by cases h⟩ q,?_,q.ops⟩;show(eX K _).waits=_;rfl
theorem IN(s:MS δ)(o:OpT):(∃e v,Rp s (bL K s o).1 [⟨fy (s.ops+1),e,v⟩]∧(bL K s o).2=e∧(bL K s o).1.ops=fy (s.ops+1)∧((bL K s o).1.waits=s.waits∨(bL K s o).1.waits=0))∨(Rp s (bL K s o).1 []∧(bL K s o).2=0∧(bL K s o).1.ops=fy (s.ops+1)∧(bL K s o).1.waits=fy (s.ops+1)):=by
 have e0:Rp s (opsS s) []:=⟨rfl,(aY _).symm,[],(aY _).symm,λ_ h=>by cases h⟩
 have rep: ∀(t:MS δ) (op e v:Int),Qt (opsS s) t→op=fy (s.ops+1)→Rp s (dw t op e v) [⟨fy (s.ops+1),e,v⟩]∧(dw t op e v).ops=fy (s.ops+1)∧((dw t op e v).waits=s.waits∨(dw t op e v).waits=0):=λt op e v h ho=>by
  subst ho;obtain⟨l,e1,hl⟩:=h.o;exact⟨⟨h.id,by show t.replies++_=_;rw[h.replies];rfl,l,e1,hl⟩,h.ops,h.waits⟩
 unfold bL;split
 · left
   unfold dv;split
   · obtain⟨a,b,c⟩:=rep (opsS s) _ (fu (opsS s) o.change) 0 inferInstance rfl
     exact⟨_,_,a,rfl,b,c⟩
   · split
     · obtain⟨a,b,c⟩:=rep (bN K (opsS s) o.change).1 _ (bN K (opsS s) o.change).2 0 inferInstance rfl
       exact⟨_,_,a,rfl,b,c⟩
     · obtain⟨a,b,c⟩:=rep (bN K (opsS s) o.change).1 _ 0 0 inferInstance rfl
       have q:Qt (dw (bN K (opsS s) o.change).1 (opsS s).ops 0 0) (lK K (dw (bN K (opsS s) o.change).1 (opsS s).ops 0 0) (ju (opsS s).view (cY (opsS s)) o.change)):=inferInstance;exact⟨_,_,a.then q,rfl,q.ops.trans b,q.waits.elim (λw=>c.imp (w.trans ·) (w.trans ·)) .inr⟩
 · unfold ly
   split
   · left
     obtain⟨a,b,c⟩:=rep (opsS s) _ (cF (opsS s) o).2.2 (cF (opsS s) o).2.1 inferInstance rfl;exact⟨_,_,a,rfl,b,c⟩
   · rcases Mv (K:=K) (opsS s) (cF (opsS s) o).1 (opsS s).ops with⟨h,q⟩| ⟨h,q,hw,ho⟩
     · rw[if_pos h]
       left;obtain⟨a,b,c⟩:=rep _ _ (dI K (opsS s) (cF (opsS s) o).1 (opsS s).ops).2 0 q rfl;exact⟨_,_,a,rfl,b,c⟩
     · rw[if_neg (by omega)]
       right;obtain⟨l,e1,hl⟩:=q.o;exact⟨⟨q.id,q.replies,l,e1,hl⟩,rfl,ho,hw⟩
end
def Slot.pend(x:Slot):Nat:=match x.run with
 |some s=>if 0<s.waits then 1 else 0
 |none=>0
structure SlotOk(i n:Nat)(x:Slot):Prop where
 run: ∀s,x.run=some s→OkR KD s∧s.id=((i:Nat):Int)∧s.o=[]
 D:x.run=none→DkOk x.D
 reps:x.reps.length+x.pend≤n
structure CLOk(n:Nat)(a:CL):Prop where
 ms:a.ms.length=5
 W:a.W.length=25
 at': ∀i,i<5→SlotOk i n (a.at' i)
 way: ∀k,(a.W.getD k []).length≤8∧∀m∈a.W.getD k [],0< (cX m).length
structure OkOp(o:OpT):Prop where
 change:OkCh o.change
 n:o.n≤9223372036854775807
theorem SlotOk.dk{i n:Nat}{x:Slot}(h:SlotOk i n x):DkOk x.dk:=by
 unfold Slot.dk;split
 · rename_i s q;exact(h.run s q).1.e.dk
 · rename_i q;exact h.D q
theorem SlotOk.more{i n k:Nat}{x:Slot}(h:SlotOk i n x)(hk:n≤k):SlotOk i k x:=⟨h.run,h.D,jY h.reps hk⟩
theorem CLOk.more{n k:Nat}{a:CL}(h:CLOk n a)(hk:n≤k):CLOk k a:=⟨h.ms,h.W,λi hi=>(h.at' i hi).more hk,h.way⟩
theorem vv{ms:List Slot}{W:List (List MsgT)}{i:Nat}{x:Slot}(h:i<ms.length):(CL.mk (ms.set i x) W).at' i=x:=by
 unfold CL.at';rw[List.getD_eq_getElem?_getD,List.getElem?_set_self h];rfl
theorem wl{ms:List Slot}{W:List (List MsgT)}{i j:Nat}{x:Slot}(h:j≠i):(CL.mk (ms.set i x) W).at' j=ms.getD j .nil:=by
 unfold CL.at';rw[List.getD_eq_getElem?_getD,List.getElem?_set_ne (λe=>h e.symm),←List.getD_eq_getElem?_getD]
theorem CLOk.put{n k i:Nat}{a:CL}(h:CLOk n a)(hk:n≤k)(hi:i<5){x:Slot}(hx:SlotOk i k x){W:List (List MsgT)}(hW:W.length=25)(hw: ∀k,(W.getD k []).length≤8∧∀m∈W.getD k [],0< (cX m).length):CLOk k ⟨a.ms.set i x,W⟩:=
 ⟨by show(a.ms.set i x).length=5;rw[fx];exact h.ms,hW,λj hj=>by
  by_cases q:j=i
  · subst q;rw[vv (by rw[h.ms];exact hi)];exact hx
  · rw[wl q];exact(h.at' j hj).more hk,hw⟩
theorem L9{W:List (List MsgT)}(hw: ∀k,(W.getD k []).length≤8∧∀m∈W.getD k [],0< (cX m).length)(f:Nat)(s:SaidT)(hs:0< (cX s.msg).length): ∀k,((qF W f s).getD k []).length≤8∧∀m∈(qF W f s).getD k [],0< (cX m).length:=λk=>by
 unfold qF;split
 · by_cases q:k=bE ((f:Nat):Int) s.to'
   · subst q
     by_cases hl:bE ((f:Nat):Int) s.to'<W.length
     · rw[List.getD_eq_getElem?_getD,List.getElem?_set_self hl]
       obtain⟨h1,h2⟩:=hw (bE ((f:Nat):Int) s.to');simp only[Option.getD_some];split
       · refine⟨by rw[ag,g8];omega,λm hm=>?_⟩
         rcases fw.1 hm with hm|hm
         · exact h2 m hm
         · rw[hX]at hm;subst hm;exact hs
       · exact⟨h1,h2⟩
     · rw[Rx (by omega)];exact hw _
   · rw[List.getD_eq_getElem?_getD,List.getElem?_set_ne (λe=>q e.symm),←List.getD_eq_getElem?_getD];exact hw k
 · exact hw k
theorem Di(f:Nat): ∀(l:List SaidT) {W:List (List MsgT)},(∀x∈l,0< (cX x.msg).length)→(∀k,(W.getD k []).length≤8∧∀m∈W.getD k [],0< (cX m).length)→∀k,((gT W f l).getD k []).length≤8∧∀m∈(gT W f l).getD k [],0< (cX m).length
 | [],_,_,hw=>hw
 |s::l,W,hl,hw=>Di f l (W:=qF W f s) (λx hx=>hl x (List.mem_cons_of_mem _ hx)) (L9 hw f s (hl s (oo ..)))
theorem qE(W:List (List MsgT))(f:Nat)(s:SaidT):(qF W f s).length=W.length:=by unfold qF;split<;>simp
theorem ni(f:Nat): ∀(l:List SaidT) (W:List (List MsgT)),(gT W f l).length=W.length
 | [],_=>rfl
 |s::l,W=>(ni f l _).trans (qE W f s)
theorem Mu{s:MS LD}(h:OkR KD s):OkR KD s.hush:=⟨h.e,h.id,h.view,h.own,h.mir,h.book,h.last,h.acc,h.vote⟩
def owe(s:MS LD):Nat:=if 0<s.waits then 1 else 0
theorem CLOk.did{n i k:Nat}{a:CL}(h:CLOk n a)(hk:n≤k)(hi:i<5){s s':MS LD}(hs:(a.at' i).run=some s)(h':OkR KD s'){l:List ReplyT}(r:Rp s s' l)(hl:l.length+owe s'+n≤k+owe s):CLOk k (a.did i s'):=by
 obtain⟨h1,h2,h3⟩:=(h.at' i hi).run s hs;obtain⟨lo,e,hlo⟩:=r.o;rw[h3,ba]at e;refine h.put hk hi ⟨λt q=>?_,(λq=>by cases q),?_⟩ (by rw[ni];exact h.W) (Di i _ (λx hx=>N9 (hlo x (by rw[←e];exact hx))) h.way)
 · obtain rfl:=bJ q
   exact⟨Mu h',r.id.trans h2,rfl⟩
 · have:=(h.at' i hi).reps
   unfold Slot.reps Slot.pend at this ⊢;rw[hs]at this;show((a.at' i).past++s'.replies).length+(if 0<s'.waits then 1 else 0)≤k;rw[r.replies];unfold owe at hl;simp only[ag]at this ⊢;omega
theorem Qt.owe{s s':MS LD}(q:Qt s s'):Api.owe s'≤Api.owe s:=by
 unfold Api.owe;rcases q.waits with e|e
 · rw[e];exact aK _
 · rw[e];exact aP _
theorem OQ(s:MS LD):owe s≤1:=by unfold owe;split<;>omega
theorem CLOk.quiet{n i:Nat}{a:CL}(h:CLOk n a)(hi:i<5){s s':MS LD}(hs:(a.at' i).run=some s)(h':OkR KD s')(q:Qt s s'):CLOk n (a.did i s'):=
 h.did (aK _) hi hs h' q.rp (by have:=q.owe;show 0+_+n≤_;omega)
theorem CLOk.onway{n k:Nat}{a:CL}(h:CLOk n a){l:List MsgT}(hl:l.length≤8∧∀m∈l,0< (cX m).length):CLOk n (a.way k l):=
 ⟨h.ms,by show(a.W.set k l).length=25;rw[fx];exact h.W,h.at',λj=>by
  show((a.W.set k l).getD j []).length≤8∧_
  by_cases q:j=k
  · subst q
    by_cases hk:j<a.W.length
    · show((a.W.set j l).getD j []).length≤8∧∀m∈(a.W.set j l).getD j [],_
      rw[List.getD_eq_getElem?_getD,List.getElem?_set_self hk];exact hl
    · show((a.W.set j l).getD j []).length≤8∧∀m∈(a.W.set j l).getD j [],_
      rw[Rx (by omega)];exact h.way j
  · show((a.W.set k l).getD j []).length≤8∧∀m∈(a.W.set k l).getD j [],_
    rw[List.getD_eq_getElem?_getD,List.getElem?_set_ne (λe=>q e.symm),←List.getD_eq_getElem?_getD];exact h.way j⟩
theorem mE{w:Int}(h:hZ w=true):w.toNat<5∧((w.toNat:Nat):Int)=w:=by
 have:0≤w∧w<5:=of_decide_eq_true h;omega
theorem MD{n f t:Nat}{a:CL}(h:CLOk n a)(ht:t<5)(m:MsgT):CLOk n (pc a f t m).1:=by
 unfold pc;split
 · exact h
 · rename_i s hs
   split
   · exact h
   · split
     · obtain⟨h1,_,_⟩:=(h.at' t ht).run s hs
       have hm:=G4 (cX m);rcases LJ (K:=KD) s ((f:Nat):Int) (jx (cX m)).1 with q| ⟨hw,q,q2,_⟩
       · exact h.quiet ht hs inferInstance q
       · refine h.did (aK _) ht hs inferInstance q ?_
         unfold owe;rw[q2,if_pos hw];show 1+(if(0:Int)<0 then 1 else 0)+n≤n+1;rw[if_neg (by omega)];omega
     · exact h
theorem Nu{n:Nat}{a:CL}(h:CLOk n a)(o:OpT):CLOk n (oh a o).1:=by
 unfold oh;split
 · exact h
 · rename_i hv
   have hv:dA o.at' o.to'=true:=by simpa using hv
   have hw:=h.way (bE o.at' o.to');split
   · exact h
   · rename_i m l hl
     rw[hl]at hw;split
     · split
       · refine h.onway ⟨?_,λx hx=>?_⟩
         · rename_i q
           unfold I5 at q;have q:=of_decide_eq_true q;unfold ER;rw[if_pos q,ag,g8];omega
         · unfold ER at hx
           split at hx
           · rcases fw.1 hx with hx|hx
             · exact hw.2 x hx
             · rw[hX]at hx;subst hx;exact hw.2 _ (oo ..)
           · exact hw.2 x hx
       · exact h
     · split
       · exact h
       · rename_i m2 l2 hl2
         have hlen:=kW (max o.n 0% ((m::l).length:Int)).toNat (m::l);have hmem:=λx=>(pq (x:=x) (max o.n 0% ((m::l).length:Int)).toNat (m::l)).1
         rw[hl2]at hlen hmem;have g:CLOk n (a.way (bE o.at' o.to') l2):=h.onway ⟨by simp only[av]at hlen hw;omega,λx hx=>hw.2 x (hmem x (List.mem_cons_of_mem _ hx))⟩
         have ht:o.to'.toNat<5:=by
          unfold dA at hv;rw[ao,ao]at hv;exact(mE hv.1.2).1
         split
         · exact g
         · exact MD g ht m2
theorem CK{n i:Nat}(hi:i<5){x:Slot}(h:SlotOk i n x):SlotOk i n (jE i x).1:=by
 unfold jE;split
 · exact h
 · rename_i hr
   have hD:=h.D hr;refine⟨λs q=>?_,λ_=>hD.open.1,?_⟩
   · obtain⟨h1,f⟩:=zJ hi hD q
     exact⟨h1,f.id,f.o⟩
   · have:=h.reps
     unfold Slot.reps Slot.pend at this ⊢;rw[hr,aY]at this;show(x.past++match(eg i x.D).1 with|some s=>s.replies|none=>[]).length+(match(eg i x.D).1 with|some s=>if 0<s.waits then 1 else 0|none=>0)≤n;cases q:(eg i x.D).1 with
     |some s=>
      have f:=(zJ hi hD q).2;simp only[f.replies,f.waits,aY]
      simpa using this
     |none=>simpa using this
theorem Oh{n i:Nat}{x:Slot}(h:SlotOk i n x){k:Int}(hk:k≤9223372036854775807):SlotOk i n (zi x k):=by
 unfold zi;split
 · rename_i s hs
   obtain⟨h1,h2,h3⟩:=h.run s hs;refine⟨λt q=>?_,(λq=>by cases q),?_⟩
   · obtain rfl:=bJ q
     exact⟨⟨⟨h1.e.dk.arm k hk,h1.e.used,h1.e.cnt⟩,h1.id,h1.view,h1.own,h1.mir,h1.book,h1.last,h1.acc,h1.vote⟩,h2,h3⟩
   · have:=h.reps
     unfold Slot.reps Slot.pend at this ⊢;rw[hs]at this;exact this
 · rename_i hr
   refine⟨λt q=>?_,λ_=>(h.D hr).arm k hk,?_⟩
   · rw[show x.run=some t from q]at hr;cases hr
   · have:=h.reps
     unfold Slot.reps Slot.pend at this ⊢;rw[hr]at this;simp only[hr];exact this
theorem crash_ok{n i:Nat}{x:Slot}(h:SlotOk i n x)(mask torn cut:Int):SlotOk i n (oN x mask torn cut):=
 ⟨(λt q=>by cases q),λ_=>h.dk.crash mask torn cut,by
  have:=h.reps;show(x.reps++[]).length+0≤n
  rw[aY];omega⟩
theorem F1{n:Nat}{a:CL}(h:CLOk n a){o:OpT}(ho:OkOp o)(hk: ¬(0≤o.kind∧o.kind≤4)):CLOk n (oM a o).1:=by
 unfold oM;split
 · exact h
 rename_i hm;have hm:hZ o.at'=true:=by simpa using hm
 have hi:=(mE hm).1;split
 · exact Nu h o
 split
 · unfold Cx
   split
   · exact h
   · rename_i s hs
     split
     · exact h
     · obtain⟨h1,_,_⟩:=(h.at' _ hi).run s hs
       exact h.quiet hi hs inferInstance inferInstance
 split
 · exact h.put (aK _) hi (Oh (h.at' _ hi) ho.n) h.W h.way
 split
 · exact h.put (aK _) hi (crash_ok (h.at' _ hi) _ _ _) h.W h.way
 split
 · exact h.put (aK _) hi (CK hi (h.at' _ hi)) h.W h.way
 · exact h
theorem wh{n:Nat}{a:CL}(h:CLOk n a){o:OpT}(ho:OkOp o):CLOk (n+1) (oM a o).1:=by
 by_cases hk:0≤o.kind∧o.kind≤4
 · unfold oM
   split
   · exact h.more (by omega)
   rename_i hm;have hm:hZ o.at'=true:=by simpa using hm
   have hi:=(mE hm).1;unfold yu;split
   · exact h.more (by omega)
   · rename_i s hs
     split
     · exact h.more (by omega)
     · obtain⟨h1,_,_⟩:=(h.at' _ hi).run s hs
       have:=ho.change;rcases IN (K:=KD) s o with⟨e,v,q,_,_,w⟩| ⟨q,_⟩
       · refine h.did (by omega) hi hs inferInstance q ?_
         have:owe (bL KD s o).1≤owe s:=by
          unfold owe;rcases w with e|e
          · rw[e];exact aK _
          · rw[e];exact aP _
         show 1+_+n≤_;omega
       · refine h.did (by omega) hi hs inferInstance q ?_
         have:=OQ (bL KD s o).1;show 0+_+n≤_;omega
 · exact(F1 h ho hk).more (by omega)
theorem new_ok:CLOk 0 CL.new:=by
 refine⟨by simp[CL.new],by simp[CL.new],λi hi=>?_,λk=>?_⟩
 · have e:CL.new.at' i=pE i:=by simp[CL.new,CL.at',List.getD_eq_getElem?_getD,hi]
   rw[e];exact CK hi ⟨(λs q=>by cases q),λ_=>DkOk.new,aK _⟩
 · have e:CL.new.W.getD k []=[]:=by
    show(List.replicate 25 ([]:List MsgT)).getD k []=[];rw[List.getD_eq_getElem?_getD,List.getElem?_replicate];split<;>rfl
   rw[e];exact⟨aP _,λm hm=>by cases hm⟩
end Api
end

section
namespace Go.Proofs.YtkhjnolhhidecaaGreatDoor
open Go Leg Codec Api Dsk Wal
theorem Aa{f:Nat→HP}{k i:Nat}(hi:i<k){H:List HP}{h:Hl}(s:bR (bR ((List.range k).map f)::H) h):bR (f i::bR (((List.range k).map f).eraseIdx i)::H) h:=by
 have s1:bR ((List.range k).map f++H) h:=(cj _ _).2 s;have e:((List.range k).map f).getD i (λ_=>True)=f i:=by simp[List.getD_eq_getElem?_getD,hi]
 have p:=nS (λ_=>True) ((List.range k).map f) i (by simpa using hi);rw[e]at p;exact cQ (eO (p.append_right H) s1) (λ_ a=>a) λ_ b=>(cj _ _).1 b
theorem z0{f g:Nat→HP}{k i:Nat}(hi:i<k)(hg: ∀j,j≠i→g j=f j){H:List HP}{h:Hl}(s:bR (g i::bR (((List.range k).map f).eraseIdx i)::H) h):bR (bR ((List.range k).map g)::H) h:=by
 have e0:((List.range k).map g).eraseIdx i=((List.range k).map f).eraseIdx i:=by
  refine List.ext_getElem? λj=>?_
  rw[List.getElem?_eraseIdx,List.getElem?_eraseIdx]
  have: ∀m,m≠i→((List.range k).map g)[m]?=((List.range k).map f)[m]?:=λm hm=>by
   rw[List.getElem?_map,List.getElem?_map]
   by_cases hk:m<k
   · simp[hk,hg m hm]
   · simp[hk]
  split
  · exact this j (by omega)
  · exact this (j+1) (by omega)
 have e:((List.range k).map g).getD i (λ_=>True)=g i:=by simp[List.getD_eq_getElem?_getD,hi]
 have p:=nS (λ_=>True) ((List.range k).map g) i (by simpa using hi);rw[e,e0]at p;have s2:bR ((g i::((List.range k).map f).eraseIdx i)++H) h:=cQ s (λ_ a=>a) λ_ b=>(cj _ _).2 b
 exact(cj _ _).1 (eO (p.symm.append_right H) s2)
section
variable {f:FuncId} {args:Array Value} {Q:Value→Prop} {c i:Nat} {a a':CL}
theorem BZ(hi:i<5){Z:Value→CL→Prop}(hne: ∀v a',Z v a'→∀j,j≠i→a'.at' j=a.at' j)
 (core: ∀g:CX,DT f args T0 (aj c (fh g.n (nv g) (kF a g.r) g.p) 56::eT 106 169 5 g.n (da a.W)::lG (a.at' i) (g.d i) (g.r i) (g.p i))
  (dG λv H=>∃a',Z v a'∧∃g':CX,g'.n=g.n∧(∀j,j≠i→g'.d j=g.d j∧g'.r j=g.r j∧g'.p j=g.p j)∧H=aj c (fh g.n (nv g') (kF a' g'.r) g'.p) 56::eT 106 169 5 g.n (da a'.W)::lG (a'.at' i) (g'.d i) (g'.r i) (g'.p i))):
 DT f args T0 [fX c a] (dG λv H=>∃a',Z v a'∧H=[fX c a']):=by
 refine Leg.Does.ex (A':=λg:CX=>(aj c (fh g.n (nv g) (kF a g.r) g.p) 56::eT 106 169 5 g.n (da a.W)::lG (a.at' i) (g.d i) (g.r i) (g.p i))++[bR (((List.range 5).map λi=>lH (a.at' i) (g.d i) (g.r i) (g.p i)).eraseIdx i)]) (λh s=>?_) λg=>?_
 · obtain⟨g,s⟩:=fH s
   have s2:=Aa (f:=λi=>lH (a.at' i) (g.d i) (g.r i) (g.p i)) hi (aD [2,0,0] rfl s);have s3:=(cj (lG (a.at' i) (g.d i) (g.r i) (g.p i)) _).2 s2;exact⟨g,aD [4,4,0,0,0,0] rfl s3⟩
 · refine Leg.Does.withinR (core g) (λ_ _ _ _=>trivial) (λh s=>s) λv H hp=>?_
   obtain⟨a',hz,g',hn,hg,rfl⟩:=hp;refine⟨[fX c a'],λh s=>?_,a',hz,rfl⟩;have s1:=aD [2,2,2,2,0,0] rfl s;have s2:=(cj (lG (a'.at' i) (g'.d i) (g'.r i) (g'.p i)) _).1 s1
   have s3:=z0 (f:=λi=>lH (a.at' i) (g.d i) (g.r i) (g.p i)) (g:=λi=>lH (a'.at' i) (g'.d i) (g'.r i) (g'.p i)) hi (λj hj=>by
    obtain⟨h1,h2,h3⟩:=hg j hj
    rw[hne v a' hz j hj,h1,h2,h3]) s2
   refine bw (p:=qU c a') g' ?_;rw[←hn]at s3;exact aD [1,1,0] rfl s3
theorem ya(hne: ∀j,j≠i→a'.at' j=a.at' j)(r:Nat→Nat)(hi:y8 (a'.at' i) (r i)=y8 (a.at' i) (r i)):kF a' r=kF a r:=funext λj=>by
 by_cases q:j=i
 · subst q;exact hi
 · show y8 (a'.at' j) (r j)=y8 (a.at' j) (r j)
   rw[hne j q]
theorem Gb(hl:a.ms.length=5)(hi:i<5){s:MS LD}(hs:(a.at' i).run=some s){R:Value→MS LD→List (List MsgT)→Prop}
 (core: ∀g:CX,kF a g.r i= .pointer (some ⟨g.r i,0,none⟩)→DT f args T0 [aj c (fh g.n (nv g) (kF a g.r) g.p) 56,dk (g.d i) s.e.D,eT 106 169 5 g.n (da a.W),gm s (g.d i) (g.r i)]
  (dG λv H=>∃s' W',R v s' W'∧H=[aj c (fh g.n (nv g) (kF a g.r) g.p) 56,dk (g.d i) s'.e.D,eT 106 169 5 g.n (da W'),gm s' (g.d i) (g.r i)])):
 DT f args T0 [fX c a] (dG λv H=>∃a',(∃s' W',R v s' W'∧a'=⟨a.ms.set i {a.at' i with run:=some s'},W'⟩)∧H=[fX c a']):=by
 refine BZ hi (λv a' hz j hj=>?_) λg=>?_
 · obtain⟨s',W',_,rfl⟩:=hz
   exact wl hj
 · have em:kF a g.r i= .pointer (some ⟨g.r i,0,none⟩):=by show y8 (a.at' i) _=_;unfold y8;rw[hs]
   have e1:rE (a.at' i) (g.d i) (g.r i)=gm s (g.d i) (g.r i):=by unfold rE;rw[hs]
   have e2:(a.at' i).dk=s.e.D:=by unfold Slot.dk;rw[hs]
   refine Leg.Does.withinR (B:=[lU (g.p i) (a.at' i).past]) (core g em) (λ_ _ _ _=>trivial) (λh q=>?_) λv H hp=>?_
   · unfold lG at q
     rw[e1,e2]at q;exact aD [0,1,0,1,0] rfl q
   · obtain⟨s',W',hR,rfl⟩:=hp
     have ea:(CL.mk (a.ms.set i {a.at' i with run:=some s'}) W').at' i= {a.at' i with run:=some s'}:=vv (by rw[hl];exact hi);have hm:kF ⟨a.ms.set i {a.at' i with run:=some s'},W'⟩ g.r=kF a g.r:=ya (λj hj=>wl hj) g.r (by rw[ea];unfold y8;rw[hs]);refine⟨_,λh q=>?_,_,⟨s',W',hR,rfl⟩,g,rfl,λ_ _=>⟨rfl,rfl,rfl⟩,rfl⟩;rw[hm,ea];exact aD [0,1,0,1,0] rfl q
theorem BY(core: ∀g:CX,DT f args T0 [aj c (fh g.n (nv g) (kF a g.r) g.p) 56] (dG λv H=>Q v∧H=[aj c (fh g.n (nv g) (kF a g.r) g.p) 56])):
 DT f args T0 [fX c a] (dG λv H=>Q v∧H=[fX c a]):=by
 refine Leg.Does.ex (A':=λg:CX=>[aj c (fh g.n (nv g) (kF a g.r) g.p) 56]++[eT 106 169 5 g.n (da a.W),bR ((List.range 5).map λi=>lH (a.at' i) (g.d i) (g.r i) (g.p i))]) (λh s=>fH s) λg=>?_
 refine Leg.Does.withinR (core g) (λ_ _ _ _=>trivial) (λh s=>s) λv H hp=>?_
 obtain⟨hQ,rfl⟩:=hp;exact⟨[fX c a],λh s=>bw (p:=qU c a) g s,hQ,rfl⟩
theorem KH{R:Value→List (List MsgT)→Prop}(core: ∀g:CX,DT f args T0 [aj c (fh g.n (nv g) (kF a g.r) g.p) 56,eT 106 169 5 g.n (da a.W)] (dG λv H=>∃W',R v W'∧H=[aj c (fh g.n (nv g) (kF a g.r) g.p) 56,eT 106 169 5 g.n (da W')])):
 DT f args T0 [fX c a] (dG λv H=>∃W',R v W'∧H=[fX c ⟨a.ms,W'⟩]):=by
 refine Leg.Does.ex (A':=λg:CX=>[aj c (fh g.n (nv g) (kF a g.r) g.p) 56,eT 106 169 5 g.n (da a.W)]++[bR ((List.range 5).map λi=>lH (a.at' i) (g.d i) (g.r i) (g.p i))]) (λh s=>fH s) λg=>?_
 refine Leg.Does.withinR (core g) (λ_ _ _ _=>trivial) (λh s=>s) λv H hp=>?_
 obtain⟨W',hR,rfl⟩:=hp;exact⟨[fX c ⟨a.ms,W'⟩],λh s=>bw (p:=qU c ⟨a.ms,W'⟩) g s,W',hR,rfl⟩
theorem Mz(hl:a.ms.length=5)(hi:i<5){x:Slot}(hm: ∀r,y8 x r=y8 (a.at' i) r)(hr: ∀d r,rE x d r=rE (a.at' i) d r)(hp:x.past=(a.at' i).past)
 (core: ∀g:CX,DT f args T0 [aj c (fh g.n (nv g) (kF a g.r) g.p) 56,dk (g.d i) (a.at' i).dk] (dG λv H=>Q v∧H=[aj c (fh g.n (nv g) (kF a g.r) g.p) 56,dk (g.d i) x.dk])):
 DT f args T0 [fX c a] (dG λv H=>∃a',(Q v∧a'=a.set i x)∧H=[fX c a']):=by
 have ea:(a.set i x).at' i=x:=vv (by rw[hl];exact hi);refine BZ hi (λv a' hz j hj=>by rw[hz.2];exact wl hj) λg=>?_
 refine Leg.Does.withinR (B:=[eT 106 169 5 g.n (da a.W),lU (g.p i) (a.at' i).past,rE (a.at' i) (g.d i) (g.r i)]) (core g) (λ_ _ _ _=>trivial) (λh q=>aD [0,1,0,0,0] rfl q) λv H hq=>?_
 obtain⟨hQ,rfl⟩:=hq;have hmm:kF (a.set i x) g.r=kF a g.r:=ya (λj hj=>wl hj) g.r (by rw[show(CL.mk (a.ms.set i x) a.W).at' i=x from ea];exact hm _);refine⟨_,λh q=>?_,_,⟨hQ,rfl⟩,g,rfl,λ_ _=>⟨rfl,rfl,rfl⟩,rfl⟩;rw[hmm,ea];unfold lG;rw[hp,hr];exact aD [0,1,0,0,0] rfl q
end
theorem mW{f:FuncId}{args:Array Value}{R:Hl→Prop}{A:List HP}{p q:Value→List HP→Prop}(d:DT f args R A (dG p))(k: ∀v H,p v H→q v H):DT f args R A (dG q):=
 Leg.Does.fold d λe H hp=>by
  cases e with
  |returned v=>exact⟨H,λ_ s=>s,k v H hp⟩
  |panicked c=>exact hp.elim
  |outgrown=>exact hp.elim
theorem xu{H:List HP}{h:Hl}(s:bR H h):bR ((λ_=>True)::H) h:=⟨em,h,EP h,(rV h).symm,trivial,s⟩
theorem xq{α:Type}{l:List α}{k:Nat}{d:α}(h:k<l.length):l.set k (l.getD k d)=l:=by
 refine List.ext_getElem? λj=>?_
 by_cases q:j=k
 · subst q;rw[List.getElem?_set_self h,List.getD_eq_getElem?_getD,List.getElem?_eq_getElem h];rfl
 · rw[List.getElem?_set_ne (λe=>q e.symm)]
section
variable {n c i:Nat} {a:CL} {o:OpT}
theorem De(h:CLOk n a)(hi:i<5):a.set i (a.at' i)=a:=by
 show CL.mk (a.ms.set i (a.ms.getD i .nil)) a.W=a;rw[xq (by rw[h.ms];exact hi)]
theorem xE(h:CLOk n a)(hi:i<5){s:MS LD}(hs:(a.at' i).run=some s):(CL.mk (a.ms.set i {a.at' i with run:=some s}) a.W)=a:=by
 have e:({a.at' i with run:=some s}:Slot)=a.at' i:=by cases q:a.at' i with|mk r D p=>rw[q]at hs;simp only at hs;rw[hs]
 rw[e];exact De h hi
theorem pC{k:Int}(hk:o.kind=k)(hi:o.at'=((i:Nat):Int)):OpT.mk k ((i:Nat):Int) o.to' o.key o.n o.change o.mask o.torn o.cut=o:=by subst hk;rw[←hi]
theorem tQ{k:Int}{j:Nat}(hk:o.kind=k)(hi:o.at'=((i:Nat):Int))(hj:o.to'=((j:Nat):Int)):OpT.mk k ((i:Nat):Int) ((j:Nat):Int) o.key o.n o.change o.mask o.torn o.cut=o:=by subst hk;rw[←hi,←hj]
theorem tW{g:CX}{s:MS LD}(hs:(a.at' i).run=some s):kF a g.r i= .pointer (some ⟨g.r i,0,none⟩):=by show y8 (a.at' i) _=_;unfold y8;rw[hs]
theorem nZ{g:CX}(hs:(a.at' i).run=none):kF a g.r i= .pointer none:=by show y8 (a.at' i) _=_;unfold y8;rw[hs]
theorem GY{a':CL}{r r':Nat→Nat}{v:Value}(hne: ∀j,j≠i→a'.at' j=a.at' j)(hr: ∀j,j≠i→r' j=r j)(hv:y8 (a'.at' i) (r' i)=v):kF a' r'=ow (kF a r) i v:=funext λj=>by
 by_cases q:j=i
 · subst q;rw[mm];exact hv
 · rw[qu _ _ q]
   show y8 (a'.at' j) (r' j)=y8 (a.at' j) (r j);rw[hne j q,hr j q]
theorem KK(h:CLOk n a)(hn:n≤100000)(hi:i<5)(hat:o.at'=((i:Nat):Int))(hk:0≤o.kind∧o.kind≤4)(ho:OkOp o):DT 9 #[.pointer (some ⟨c,0,none⟩), .agg (ints o.flat).toArray] T0 [fX c a] (dG λv H=>v= .int .i64 (yu a i o).2∧H=[fX c (yu a i o).1]):=by
 have eo:=pC (o:=o) rfl hat;cases hr:(a.at' i).run with
 |none=>
  refine mW (BY (Q:=λv=>v= .int .i64 4) λg=>?_) λv H hp=>?_
  · have:=El c g.n i (nv g) (kF a g.r) g.p hi (nZ hr) o o.kind hk
    rw[eo]at this;exact this
  · unfold yu;rw[hr];exact hp
 |some s=>
  obtain⟨hs,_,hso⟩:=(h.at' i hi).run s hr;have hrep:=(h.at' i hi).reps;unfold Slot.reps at hrep;rw[hr,ag]at hrep;simp only at hrep;refine mW (Gb h.ms hi hr (R:=λv s' W'=>(s.e.D.dn=true∧v= .int .i64 4∧s'=s∧W'=a.W)∨(s.e.D.dn=false∧v= .int .i64 (bL KD s o).2∧s'=(bL KD s o).1.hush∧W'=gT a.W i (bL KD s o).1.o)) λg em=>?_) λv H hp=>?_
  · have:=F8 c g.n i (nv g) (kF a g.r) g.p hi (g.d i) (g.r i) s rfl em a.W h.W hso hs o o.kind hk ho.change (by omega)
    rw[eo]at this;refine mW this λv H hp=>?_
    rcases hp with⟨hd,rfl,rfl⟩| ⟨hd,rfl,rfl⟩
    · exact⟨s,a.W, .inl ⟨hd,rfl,rfl,rfl⟩,rfl⟩
    · exact⟨_,_, .inr ⟨hd,rfl,rfl,rfl⟩,rfl⟩
  · obtain⟨a',⟨s',W',hR,rfl⟩,rfl⟩:=hp
    unfold yu;rw[hr];rcases hR with⟨hd,rfl,rfl,rfl⟩| ⟨hd,rfl,rfl,rfl⟩
    · simp only[hd,if_true];exact⟨by first|rfl|trivial,by rw[xE h hi hr]⟩
    · simp only[hd];exact⟨rfl,rfl⟩
theorem Jm(h:CLOk n a)(hi:i<5)(hat:o.at'=((i:Nat):Int))(hk:o.kind=8):DT 9 #[.pointer (some ⟨c,0,none⟩), .agg (ints o.flat).toArray] T0 [fX c a] (dG λv H=>v= .int .i64 (Cx a i).2∧H=[fX c (Cx a i).1]):=by
 have eo:=pC (o:=o) hk hat;cases hr:(a.at' i).run with
 |none=>
  refine mW (BY (Q:=λv=>v= .int .i64 4) λg=>?_) λv H hp=>?_
  · have:=Ej c g.n i (nv g) (kF a g.r) g.p hi (nZ hr) o
    rw[eo]at this;exact this
  · unfold Cx;rw[hr];exact hp
 |some s=>
  obtain⟨hs,_,hso⟩:=(h.at' i hi).run s hr;refine mW (Gb h.ms hi hr (R:=λv s' W'=>(s.e.D.dn=true∧v= .int .i64 4∧s'=s∧W'=a.W)∨(s.e.D.dn=false∧v= .int .i64 0∧s'=(gS KD s).hush∧W'=gT a.W i (gS KD s).o)) λg em=>?_) λv H hp=>?_
  · have:=F3 c g.n i (nv g) (kF a g.r) g.p hi (g.d i) (g.r i) s rfl em a.W h.W hso hs o
    rw[eo]at this;refine mW this λv H hp=>?_
    rcases hp with⟨hd,rfl,rfl⟩| ⟨hd,rfl,rfl⟩
    · exact⟨s,a.W, .inl ⟨hd,rfl,rfl,rfl⟩,rfl⟩
    · exact⟨_,_, .inr ⟨hd,rfl,rfl,rfl⟩,rfl⟩
  · obtain⟨a',⟨s',W',hR,rfl⟩,rfl⟩:=hp
    unfold Cx;rw[hr];rcases hR with⟨hd,rfl,rfl,rfl⟩| ⟨hd,rfl,rfl,rfl⟩
    · simp only[hd,if_true];exact⟨by first|rfl|trivial,by rw[xE h hi hr]⟩
    · simp only[hd];exact⟨rfl,rfl⟩
theorem KZ(h:CLOk n a)(hi:i<5)(hat:o.at'=((i:Nat):Int))(hk:o.kind=9):DT 9 #[.pointer (some ⟨c,0,none⟩), .agg (ints o.flat).toArray] T0 [fX c a] (dG λv H=>v= .int .i64 0∧H=[fX c (a.set i (zi (a.at' i) o.n))]):=by
 have eo:=pC (o:=o) hk hat
 have ed:(zi (a.at' i) o.n).dk=(a.at' i).dk.arm o.n:=by
  unfold zi Slot.dk;cases hr:(a.at' i).run with
  |none=>simp only[hr]
  |some s=>rfl
 refine mW (Mz (x:=zi (a.at' i) o.n) (Q:=λv=>v= .int .i64 0) h.ms hi (λr=>?_) (λd r=>?_) ?_ λg=>?_) λv H hp=>?_
 · unfold zi y8
   cases hr:(a.at' i).run with
   |none=>simp only[hr]
   |some s=>rfl
 · unfold zi rE
   cases hr:(a.at' i).run with
   |none=>simp only[hr]
   |some s=>rfl
 · unfold zi;split<;>rfl
 · have:=Ga c g.n i (nv g) (kF a g.r) g.p hi (g.d i) rfl (a.at' i).dk o
   rw[eo]at this;rw[ed];exact this
 · obtain⟨a',⟨rfl,rfl⟩,rfl⟩:=hp
   exact⟨rfl,rfl⟩
theorem Gd(h:CLOk n a)(hn:n≤100000)(hi:i<5)(hat:o.at'=((i:Nat):Int))(hk:o.kind=10):DT 9 #[.pointer (some ⟨c,0,none⟩), .agg (ints o.flat).toArray] T0 [fX c a] (dG λv H=>v= .int .i64 0∧H=[fX c (a.set i (oN (a.at' i) o.mask o.torn o.cut))]):=by
 have eo:=pC (o:=o) hk hat;have so:=h.at' i hi;have hrep:=so.reps;unfold Slot.reps at hrep;rw[ag]at hrep;have ea:(a.set i (oN (a.at' i) o.mask o.torn o.cut)).at' i=oN (a.at' i) o.mask o.torn o.cut:=vv (by rw[h.ms];exact hi);have hne: ∀j,j≠i→(a.set i (oN (a.at' i) o.mask o.torn o.cut)).at' j=a.at' j:=λj hj=>wl hj
 refine mW (BZ (Z:=λv a'=>v= .int .i64 0∧a'=a.set i (oN (a.at' i) o.mask o.torn o.cut)) hi (λv a' hz j hj=>by rw[hz.2];exact hne j hj) λg=>?_) λv H hp=>by obtain⟨_,⟨rfl,rfl⟩,rfl⟩:=hp;exact⟨rfl,rfl⟩
 have fin: ∀u,u.oneCell'=true→∀h,bR ([aj c (fh g.n (nv g) (ow (kF a g.r) i (.pointer none)) (ow g.p i u)) 56,dk (g.d i) ((a.at' i).dk.crash o.mask o.torn o.cut),lU u (a.at' i).reps]++[eT 106 169 5 g.n (da a.W)]) h→
  bR (aj c (fh g.n (nv {g with p:=ow g.p i u}) (kF (a.set i (oN (a.at' i) o.mask o.torn o.cut)) g.r) (ow g.p i u)) 56::eT 106 169 5 g.n (da (a.set i (oN (a.at' i) o.mask o.torn o.cut)).W)::lG ((a.set i (oN (a.at' i) o.mask o.torn o.cut)).at' i) (g.d i) (g.r i) (ow g.p i u i)) h:=λu _ hh q=>by
  rw[GY (a:=a) (i:=i) (v:= .pointer none) (r:=g.r) hne (λ_ _=>rfl) (by rw[ea];rfl),ea,mm];have q2:=xu (aD [0,2,0,0] rfl q);exact aD [1,1,1,1,0] rfl q2
 cases hr:(a.at' i).run with
 |none=>
  have er:(a.at' i).reps=(a.at' i).past:=by unfold Slot.reps;rw[hr,aY]
  have:=F7 c g.n i (nv g) (kF a g.r) g.p hi (g.d i) rfl (nZ hr) (a.at' i).past (by omega) (a.at' i).dk so.dk.ok o;rw[eo]at this;refine Leg.Does.withinR (B:=[eT 106 169 5 g.n (da a.W)]) this (λ_ _ _ _=>trivial) (λhh q=>?_) λv H hp=>?_
  · exact ak [0,1,1,0] rfl q
  · obtain⟨u,hu,rfl,rfl⟩:=hp
    refine⟨_,λhh q=>fin u hu hh ?_,_,⟨rfl,rfl⟩,{g with p:=ow g.p i u},rfl,λj hj=>⟨rfl,rfl,qu _ _ hj⟩,rfl⟩;rw[er];exact q
 |some s=>
  rw[hr]at hrep;simp only at hrep;have er:(a.at' i).reps=(a.at' i).past++s.replies:=by unfold Slot.reps;rw[hr]
  have e1:rE (a.at' i) (g.d i) (g.r i)=gm s (g.d i) (g.r i):=by unfold rE;rw[hr]
  have:=F6 c g.n i (nv g) (kF a g.r) g.p hi (g.d i) rfl (g.r i) s (tW hr) (a.at' i).past (by omega) (by omega) (a.at' i).dk so.dk.ok o;rw[eo]at this;refine Leg.Does.withinR (B:=[eT 106 169 5 g.n (da a.W)]) this (λ_ _ _ _=>trivial) (λhh q=>?_) λv H hp=>?_
  · unfold lG at q
    rw[e1]at q;exact aD [0,1,1,1,0] rfl q
  · obtain⟨u,hu,rfl,rfl⟩:=hp
    refine⟨_,λhh q=>fin u hu hh ?_,_,⟨rfl,rfl⟩,{g with p:=ow g.p i u},rfl,λj hj=>⟨rfl,rfl,qu _ _ hj⟩,rfl⟩;rw[er];exact q
end
section
variable {n c i:Nat} {a:CL} {o:OpT}
theorem CU{i:Nat}{D:DS}{s:MS LD}(h:(eg i D).1=some s):(eg i D).2=0:=by
 obtain⟨h1,h2⟩:=vE h;unfold eg;rw[if_neg (by rw[h1];decide),h2]
theorem CV(h:CLOk n a)(hi:i<5)(hat:o.at'=((i:Nat):Int))(hk:o.kind=11):DT 9 #[.pointer (some ⟨c,0,none⟩), .agg (ints o.flat).toArray] T0 [fX c a] (dG λv H=>v= .int .i64 (jE i (a.at' i)).2∧H=[fX c (a.set i (jE i (a.at' i)).1)]):=by
 have eo:=pC (o:=o) hk hat;have so:=h.at' i hi;cases hr:(a.at' i).run with
 |some s=>
  have e:jE i (a.at' i)=(a.at' i,5):=by unfold jE;rw[hr]
  rw[e,show a.set i (a.at' i,(5:Int)).1=a from De h hi];refine BY (Q:=λv=>v= .int .i64 5) λg=>?_
  have:=F4 c g.n i (nv g) (kF a g.r) g.p hi (g.r i) (tW hr) o;rw[eo]at this;exact this
 |none=>
  have e:jE i (a.at' i)=({a.at' i with run:=(eg i (a.at' i).D).1,D:=(bY (a.at' i).D).D},(eg i (a.at' i).D).2):=by unfold jE;rw[hr]
  have hD:=so.D hr;have ed:(a.at' i).dk=(a.at' i).D:=by unfold Slot.dk;rw[hr]
  have e1: ∀d r,rE (a.at' i) d r= λ_=>True:=λd r=>by unfold rE;rw[hr]
  have hst: ∀x:Slot,(a.set i x).at' i=x:=λx=>vv (by rw[h.ms];exact hi)
  have hne: ∀x:Slot,∀j,j≠i→(a.set i x).at' j=a.at' j:=λx j hj=>wl hj
  refine mW (BZ (Z:=λv a'=>v= .int .i64 (jE i (a.at' i)).2∧a'=a.set i (jE i (a.at' i)).1) hi (λv a' hz j hj=>by rw[hz.2];exact hne _ j hj) λg=>?_) λv H hp=>by obtain⟨_,⟨rfl,rfl⟩,rfl⟩:=hp;exact⟨rfl,rfl⟩
  have:=F5 c g.n i (nv g) (kF a g.r) g.p hi (g.d i) rfl (nZ hr) (a.at' i).D hD o;rw[eo]at this;refine Leg.Does.withinR (B:=[eT 106 169 5 g.n (da a.W),lU (g.p i) (a.at' i).past]) this (λ_ _ _ _=>trivial) (λhh q=>?_) λv H hp=>?_
  · unfold lG at q
    rw[ed]at q;exact ak [0,1,0,0] rfl q
  · rcases hp with⟨hn,rfl,rfl⟩| ⟨s,r,hn,rfl,rfl⟩
    · refine⟨_,λhh q=>?_,_,⟨by rw[e],rfl⟩,g,rfl,λj hj=>⟨rfl,rfl,rfl⟩,rfl⟩
      rw[hst,e];have em:kF (a.set i {a.at' i with run:=(eg i (a.at' i).D).1,D:=(bY (a.at' i).D).D}) g.r=kF a g.r:=ya (hne _) g.r (by rw[hst];unfold y8;rw[hr];simp only[hn]);rw[em];have q2:=xu (aD [0,1,0,0] rfl q);have q3:=aD [1,1,1,1,0] rfl q2;unfold lG Slot.dk rE;simp only[hn];exact q3
    · refine⟨_,λhh q=>?_,_,⟨by rw[e];simp only[CU hn],rfl⟩,{g with r:=ow g.r i r},rfl,λj hj=>⟨rfl,qu _ _ hj,rfl⟩,rfl⟩
      rw[hst,e];have em:kF (a.set i {a.at' i with run:=(eg i (a.at' i).D).1,D:=(bY (a.at' i).D).D}) (ow g.r i r)=ow (kF a g.r) i (.pointer (some ⟨r,0,none⟩)):=GY (hne _) (λj hj=>qu _ _ hj) (by rw[hst,mm];unfold y8;simp only[hn]);rw[em];have q3:=aD [0,2,1,1,0] rfl q;unfold lG Slot.dk rE;simp only[hn,mm];exact q3
theorem Ho(h:CLOk n a)(hn:n≤100000)(hi:i<5)(hat:o.at'=((i:Nat):Int))(hk:o.kind=5∨o.kind=6∨o.kind=7):DT 25 #[.pointer (some ⟨c,0,none⟩), .agg (ints o.flat).toArray] T0 [fX c a] (dG λv H=>v= .int .i64 (oh a o).2∧H=[fX c (oh a o).1]):=by
 cases hv:dA o.at' o.to' with
 |false=>
  have e:oh a o=(a,5):=by unfold oh;rw[if_pos hv]
  rw[e];have eo:=pC (o:=o) rfl hat;refine mW (KH (R:=λv W'=>v= .int .i64 5∧W'=a.W) λg=>?_) λv H hp=>by obtain⟨_,⟨rfl,rfl⟩,rfl⟩:=hp;exact⟨rfl,rfl⟩
  refine Leg.Does.ex (A':=λbs:List Nat=>[aj c (fh g.n (nv g) (kF a g.r) g.p) 56,aj g.n (dS bs) 106]++[fb 169 5 bs (da a.W)]) (λhh q=>?_) λbs=>?_
  · obtain⟨bs,q⟩:=fH (eO (List.Perm.swap _ _ _) q)
    exact⟨bs,aD [2,0,0] rfl q⟩
  · rw[hat]at hv
    have:=Ct c g.n i (nv g) (kF a g.r) g.p hi o.to' o.kind o hv bs;rw[eo]at this;refine Leg.Does.withinR this (λ_ _ _ _=>trivial) (λhh q=>q) λv H hp=>?_
    obtain⟨rfl,rfl⟩:=hp;refine⟨_,λhh q=>?_,a.W,⟨rfl,rfl⟩,rfl⟩;exact eO (List.Perm.swap _ _ _) (bw (p:=λbs:List Nat=>[aj g.n (dS bs) 106,fb 169 5 bs (da a.W)]) bs (aD [1,1,0] rfl q))
 |true=>
  obtain⟨j,hto⟩: ∃j:Nat,o.to'=((j:Nat):Int):=⟨o.to'.toNat,((mE (tg hv).2).2).symm⟩;have hj:j<5:=by have:=(mE (tg hv).2).1;rw[hto]at this;simpa using this
  have hv2:dA ((i:Nat):Int) ((j:Nat):Int)=true:=by rw[←hat,←hto];exact hv
  have eK:bE o.at' o.to'=bE ((i:Nat):Int) ((j:Nat):Int):=by rw[hat,hto]
  have hij:((i:Nat):Int)≠((j:Nat):Int):=λe=>by
   unfold dA at hv2;rw[decide_eq_true e]at hv2;simp at hv2
  obtain⟨h8,hlen⟩:=h.way (bE ((i:Nat):Int) ((j:Nat):Int));have hkl:bE ((i:Nat):Int) ((j:Nat):Int)<a.W.length:=by rw[h.W];exact(jh hv2).1
  -- the net alone
  have net: ∀{R:Value→List (List MsgT)→Prop},(∀(g:CX) (bs:List Nat),Leg.Does Tryz.prog 25 #[.pointer (some ⟨c,0,none⟩), .agg (ints o.flat).toArray] (λ_=>True) [aj g.n (dS bs) 106,fb 169 5 bs (da a.W),aj c (fh g.n (nv g) (kF a g.r) g.p) 56] (dG λv H=>∃W',R v W'∧H=[aj c (fh g.n (nv g) (kF a g.r) g.p) 56,eT 106 169 5 g.n (da W')]))→
   Leg.Does Tryz.prog 25 #[.pointer (some ⟨c,0,none⟩), .agg (ints o.flat).toArray] (λ_=>True) [fX c a] (dG λv H=>∃W',R v W'∧H=[fX c ⟨a.ms,W'⟩]):=λcore=>KH λg=>Leg.Does.ex (A':=λbs:List Nat=>[aj g.n (dS bs) 106,fb 169 5 bs (da a.W),aj c (fh g.n (nv g) (kF a g.r) g.p) 56]) (λhh q=>fH (eO (List.Perm.swap _ _ _) q)) (core g)
  cases hl:a.W.getD (bE ((i:Nat):Int) ((j:Nat):Int)) []with
  |nil=>
   have e:oh a o=(a,10):=by unfold oh;rw[if_neg (by rw[hv];decide),eK,hl]
   rw[e];refine mW (net (R:=λv W'=>v= .int .i64 10∧W'=a.W) λg bs=>?_) λv H hp=>by obtain⟨_,⟨rfl,rfl⟩,rfl⟩:=hp;exact⟨rfl,rfl⟩
   have:=AW c g.n i (nv g) (kF a g.r) g.p hi j hj hv2 a.W h.W _ rfl h8 hlen o o.kind hl bs;rw[tQ rfl hat hto,xq hkl]at this;exact mW this λv H hp=>⟨a.W,⟨hp.1,rfl⟩,hp.2⟩
  |cons m0 l0=>
   by_cases h7:o.kind=7
   · have e:oh a o=(a.way (bE ((i:Nat):Int) ((j:Nat):Int)) (ER (m0::l0)),if I5 (m0::l0)then 0 else 3):=by
      unfold oh;rw[if_neg (by rw[hv];decide),eK,hl];simp only[if_pos h7];split
      · rfl
      · rename_i q
        have q2:ER (m0::l0)=m0::l0:=by unfold ER;unfold I5 at q;rw[if_neg (by simpa using q)]
        rw[q2];show(a,(3:Int))=(CL.mk a.ms (a.W.set _ (m0::l0)),3);rw[←hl,xq hkl]
     rw[e];refine mW (net (R:=λv W'=>v= .int .i64 (if I5 (m0::l0)then 0 else 3)∧W'=a.W.set (bE ((i:Nat):Int) ((j:Nat):Int)) (ER (m0::l0))) λg bs=>?_) λv H hp=>by obtain⟨_,⟨rfl,rfl⟩,rfl⟩:=hp;exact⟨rfl,rfl⟩
     have:=yP c g.n i (nv g) (kF a g.r) g.p hi j hj hv2 a.W h.W (m0::l0) hl (by rw[←hl];exact h8) (by rw[←hl];exact hlen) o (by simp) bs;rw[tQ h7 hat hto]at this;exact mW this λv H hp=>⟨_,⟨hp.1,rfl⟩,hp.2⟩
   · cases ht:jD (max o.n 0% ((m0::l0).length:Int)).toNat (m0::l0)with
     |nil=>have:=kW (max o.n 0% ((m0::l0).length:Int)).toNat (m0::l0);rw[ht]at this;simp at this
     |cons m l2=>
      by_cases h6:o.kind=6
      · have e:oh a o=(a.way (bE ((i:Nat):Int) ((j:Nat):Int)) l2,0):=by
         unfold oh;rw[if_neg (by rw[hv];decide),eK,hl];simp only[if_neg h7];rw[ht];simp only[if_pos h6]
        rw[e];refine mW (net (R:=λv W'=>v= .int .i64 0∧W'=a.W.set (bE ((i:Nat):Int) ((j:Nat):Int)) l2) λg bs=>?_) λv H hp=>by obtain⟨_,⟨rfl,rfl⟩,rfl⟩:=hp;exact⟨rfl,rfl⟩
        have:=sZ c g.n i (nv g) (kF a g.r) g.p hi j hj hv2 a.W h.W (m0::l0) hl (by rw[←hl];exact h8) (by rw[←hl];exact hlen) o m l2 ht bs 6 (.inr rfl) (.inl rfl);rw[tQ h6 hat hto]at this;exact mW this λv H hp=>⟨_,⟨hp.1,rfl⟩,hp.2⟩
      · have h5:o.kind=5:=by omega
        have e:oh a o=pc (a.way (bE ((i:Nat):Int) ((j:Nat):Int)) l2) i j m:=by
         unfold oh;rw[if_neg (by rw[hv];decide),eK,hl];simp only[if_neg h7];rw[ht];simp only[if_neg h6];rw[hat,hto];rfl
        rw[e];have ew:(a.way (bE ((i:Nat):Int) ((j:Nat):Int)) l2).at' j=a.at' j:=rfl;cases hr:(a.at' j).run with
        |none=>
         have e2:pc (a.way (bE ((i:Nat):Int) ((j:Nat):Int)) l2) i j m=(a.way (bE ((i:Nat):Int) ((j:Nat):Int)) l2,0):=by unfold pc;rw[ew,hr]
         rw[e2];refine mW (net (R:=λv W'=>v= .int .i64 0∧W'=a.W.set (bE ((i:Nat):Int) ((j:Nat):Int)) l2) λg bs=>?_) λv H hp=>by obtain⟨_,⟨rfl,rfl⟩,rfl⟩:=hp;exact⟨rfl,rfl⟩
         have:=sZ c g.n i (nv g) (kF a g.r) g.p hi j hj hv2 a.W h.W (m0::l0) hl (by rw[←hl];exact h8) (by rw[←hl];exact hlen) o m l2 ht bs 5 (.inl rfl) (.inr (nZ hr));rw[tQ h5 hat hto]at this;exact mW this λv H hp=>⟨_,⟨hp.1,rfl⟩,hp.2⟩
        |some s=>
         obtain⟨hs,hid,hso⟩:=(h.at' j hj).run s hr;have hrep:=(h.at' j hj).reps;unfold Slot.reps at hrep;rw[hr,ag]at hrep;simp only at hrep;have W2:(a.W.set (bE ((i:Nat):Int) ((j:Nat):Int)) l2).length=25:=by rw[fx];exact h.W
         refine mW (Gb h.ms hj hr (R:=λv s' W'=>(s.e.D.dn=true∧v= .int .i64 0∧s'=s∧W'=a.W.set (bE ((i:Nat):Int) ((j:Nat):Int)) l2)∨(s.e.D.dn=false∧(jx (cX m)).2≠0∧v= .int .i64 (jx (cX m)).2∧s'=s∧W'=a.W.set (bE ((i:Nat):Int) ((j:Nat):Int)) l2)∨(s.e.D.dn=false∧(jx (cX m)).2=0∧v= .int .i64 0∧s'=(fM KD s ((i:Nat):Int) (jx (cX m)).1).hush∧W'=gT (a.W.set (bE ((i:Nat):Int) ((j:Nat):Int)) l2) j (fM KD s ((i:Nat):Int) (jx (cX m)).1).o)) λg em=>?_) λv H hp=>?_
         · refine Leg.Does.ex (A':=λbs:List Nat=>[aj g.n (dS bs) 106,fb 169 5 bs (da a.W),aj c (fh g.n (nv g) (kF a g.r) g.p) 56,dk (g.d j) s.e.D,gm s (g.d j) (g.r j)]) (λhh q=>fH (aD [2,0,0,0] rfl q)) λbs=>?_
           have:=AY c g.n i (nv g) (kF a g.r) g.p hi j hj hv2 a.W h.W (m0::l0) hl (by rw[←hl];exact h8) (by rw[←hl];exact hlen) o m l2 ht bs (g.d j) (g.r j) s rfl em hso hs (by rw[hid];exact hij) (by omega);rw[tQ h5 hat hto]at this;refine mW this λv H hp=>?_
           rcases hp with⟨hd,rfl,rfl⟩| ⟨hd,h1,rfl,rfl⟩| ⟨hd,h1,rfl,rfl⟩
           · exact⟨_,_, .inl ⟨hd,rfl,rfl,rfl⟩,rfl⟩
           · exact⟨_,_, .inr (.inl ⟨hd,h1,rfl,rfl,rfl⟩),rfl⟩
           · exact⟨_,_, .inr (.inr ⟨hd,h1,rfl,rfl,rfl⟩),rfl⟩
         · obtain⟨a',⟨s',W',hR,rfl⟩,rfl⟩:=hp
           have er: ∀W',CL.mk (a.ms.set j {a.at' j with run:=some s}) W'=CL.mk a.ms W':=λW'=>by
            have:=congrArg CL.ms (xE h hj hr);rw[show a.ms.set j {a.at' j with run:=some s}=a.ms from this]
           unfold pc;rw[ew,hr];rcases hR with⟨hd,rfl,rfl,rfl⟩| ⟨hd,h1,rfl,rfl,rfl⟩| ⟨hd,h1,rfl,rfl,rfl⟩
           · simp only[hd,if_true];exact⟨by first|rfl|trivial,by rw[er];rfl⟩
           · simp only[hd,if_neg h1];exact⟨by first|rfl|trivial,by rw[er];rfl⟩
           · simp only[hd,if_pos h1];exact⟨by first|rfl|trivial,rfl⟩
end
theorem F9(c:Nat)(X:HP)(o:OpT)(hm:hZ o.at'=false):
 DT 9 #[(.pointer (some ⟨c,0,none⟩)),(.agg (ints o.flat).toArray)] T0 [X] (RI (.int .i64 5) [X]):=by
 refine BD 114 Tryz.func9 rfl rfl rfl λw0 F hF=>sr λ_ J1=>XY (ints o.flat) λb3=>?_
 refine PS ?_;refine nx J1 (aa λ_ J2=>sr λ_ J3=>PS ?_);refine FA 1 eZ aO ?_;refine LU 0 Y3 (bT o rfl) ?_;refine CE rF (xP c o.at') ID ?_;rw[hm];refine PS ?_;refine nx J3 (CY (sr λ_ J4=>PS ?_));exact nx J4 (ah (ae (WK [1] (aw rfl rfl ⟨rfl,rfl⟩))))
theorem F2(c i:Nat)(hi:i<5)(X:HP)(o:OpT)(k:Int)(hk:k=5∨k=6∨k=7)(p:Int→HP→Prop)(hw:DT 25 #[(.pointer (some ⟨c,0,none⟩)),(.agg (ints (OpT.mk k ((i:Nat):Int) o.to' o.key o.n o.change o.mask o.torn o.cut).flat).toArray)] T0 [X] (dG (λv H=>∃e X',v= .int .i64 e∧H=[X']∧p e X'))):
 DT 9 #[(.pointer (some ⟨c,0,none⟩)),(.agg (ints (OpT.mk k ((i:Nat):Int) o.to' o.key o.n o.change o.mask o.torn o.cut).flat).toArray)] T0 [X] (dG (λv H=>∃e X',v= .int .i64 e∧H=[X']∧p e X')):=by
 refine BD 114 Tryz.func9 rfl rfl rfl λw0 F hF=>sr λ_ J1=>XY (ints (OpT.mk k ((i:Nat):Int) o.to' o.key o.n o.change o.mask o.torn o.cut).flat) λb3=>?_
 refine PS ?_;refine nx J1 (aa λ_ J2=>sr λ_ J3=>PS ?_);refine FA 1 eZ aO ?_;refine LT 0 Y3 (.int .i64 (((i:Nat):Int))) ?_ (hc:=by exact bT _ rfl);refine CE rF (eQ c i hi) ID ?_;refine PS ?_;refine nx J3 (CN (qx J2 (aa λ_ J4=>sr λ_ J5=>FA 0 eZ aO ?_)));refine LT 0 Y3 (.int .i64 (k)) ?_ (hc:=by exact cN _ rfl);refine nx J5 (am (aa λ_ J6=>sr λ_ J7=>P2 ?_));refine ap ?_ ?_<;>intro h12
 · exact absurd h12 (by omega)
 refine nx J7 (CN (sr λ_ J8=>P2 ?_));refine ap ?_ ?_<;>intro h12
 · exact absurd h12 (by omega)
 refine nx J8 (CN (sr λ_ J9=>P2 ?_));refine ap ?_ ?_<;>intro h12
 · exact absurd h12 (by omega)
 refine nx J9 (CN (sr λ_ J10=>P2 ?_));refine ap ?_ ?_<;>intro h12
 · exact absurd h12 (by omega)
 refine nx J10 (CN (ac (PS ?_)));refine ap ?_ ?_<;>intro h17
 · exact absurd h17 (by omega)
 refine PS ?_;refine nx J6 (CN (aa λ_ J11=>fA (α:=Unit) (λ_u=>True) (λ_u=>[(0,(.pointer (some ⟨c,0,none⟩))),(3,(.pointer (some ⟨b3,0,none⟩))),(4,(.int .i64 0)),(11,(.int .i64 (k))),(37,(.bool true))]) (λ_u=>[aj b3 (ints (OpT.mk k ((i:Nat):Int) o.to' o.key o.n o.change o.mask o.torn o.cut).flat) 30,X]) (λ_u hinv=>?_) (λtl11=>?_)));have _:=hinv;refine ad J11 (CY (sr λ_ J12=>PS ?_));refine LW 0 eZ st ic ?_;refine CR Q9 (hw) (SM [1]) λvR HR hR=>?_
 obtain⟨e,X',rfl,rfl,hp⟩:=hR;refine PS ?_;exact nx J12 (ah (aI (ae (WK [0] (aw rfl rfl ⟨e,X',rfl,rfl,hp⟩)))));refine sr λ_ J13=>P2 ?_
 refine ap ?_ ?_<;>intro h37;refine nx J13 (CY (aR ?_))
 exact aE
  SB
  (λ_ s=>ak [0,0] rfl s)
  (tl11 (():Unit) trivial)
 refine nx J13 (CN (sr λ_ J14=>P2 ?_));refine ap ?_ ?_<;>intro h37;refine nx J14 (CY (aR ?_))
 exact aE
  SB
  (λ_ s=>ak [0,0] rfl s)
  (tl11 (():Unit) trivial)
 refine nx J14 (CN (ac (PS ?_)));refine ap ?_ ?_<;>intro h40;refine PS ?_;refine au ?_
 exact aE
  SB
  (λ_ s=>ak [0,0] rfl s)
  (tl11 (():Unit) trivial)
 · exact absurd h40 (by omega)
theorem Ek(c i:Nat)(hi:i<5)(X:HP)(o:OpT)(k:Int)(hk:k<0∨11<k):
 DT 9 #[(.pointer (some ⟨c,0,none⟩)),(.agg (ints (OpT.mk k ((i:Nat):Int) o.to' o.key o.n o.change o.mask o.torn o.cut).flat).toArray)] T0 [X] (RI (.int .i64 5) [X]):=by
 refine BD 114 Tryz.func9 rfl rfl rfl λw0 F hF=>sr λ_ J1=>XY (ints (OpT.mk k ((i:Nat):Int) o.to' o.key o.n o.change o.mask o.torn o.cut).flat) λb3=>?_
 refine PS ?_;refine nx J1 (aa λ_ J2=>sr λ_ J3=>PS ?_);refine FA 1 eZ aO ?_;refine LT 0 Y3 (.int .i64 (((i:Nat):Int))) ?_ (hc:=by exact bT _ rfl);refine CE rF (eQ c i hi) ID ?_;refine PS ?_;refine nx J3 (CN (qx J2 (aa λ_ J4=>sr λ_ J5=>FA 0 eZ aO ?_)));refine LT 0 Y3 (.int .i64 (k)) ?_ (hc:=by exact cN _ rfl);refine nx J5 (am (aa λ_ J6=>sr λ_ J7=>P2 ?_));refine ap ?_ ?_<;>intro h12
 · exact absurd h12 (by omega)
 refine nx J7 (CN (sr λ_ J8=>P2 ?_));refine ap ?_ ?_<;>intro h12
 · exact absurd h12 (by omega)
 refine nx J8 (CN (sr λ_ J9=>P2 ?_));refine ap ?_ ?_<;>intro h12
 · exact absurd h12 (by omega)
 refine nx J9 (CN (sr λ_ J10=>P2 ?_));refine ap ?_ ?_<;>intro h12
 · exact absurd h12 (by omega)
 refine nx J10 (CN (ac (PS ?_)));refine ap ?_ ?_<;>intro h17
 · exact absurd h17 (by omega)
 refine PS ?_;refine nx J6 (CN (aa λ_ J11=>sr λ_ J12=>P2 ?_));refine ap ?_ ?_<;>intro h37
 · exact absurd h37 (by omega)
 refine nx J12 (CN (sr λ_ J13=>P2 ?_));refine ap ?_ ?_<;>intro h37
 · exact absurd h37 (by omega)
 refine nx J13 (CN (ac (PS ?_)));refine ap ?_ ?_<;>intro h40
 · exact absurd h40 (by omega)
 refine PS ?_;refine nx J11 (CN (sr λ_ J14=>PS ?_));refine ap ?_ ?_<;>intro h45
 · exact absurd h45 (by omega)
 refine PS ?_;refine nx J14 (CN (sr λ_ J15=>PS ?_));refine ap ?_ ?_<;>intro h65
 · exact absurd h65 (by omega)
 refine PS ?_;refine nx J15 (CN (sr λ_ J16=>PS ?_));refine ap ?_ ?_<;>intro h77
 · exact absurd h77 (by omega)
 refine PS ?_;refine nx J16 (CN (sr λ_ J17=>PS ?_));refine ap ?_ ?_<;>intro h109
 · exact absurd h109 (by omega)
 refine PS ?_;refine nx J17 (CN (sr λ_ J18=>PS ?_));exact nx J18 (ah (aI (ae (WK [1] (aw rfl rfl ⟨rfl,rfl⟩)))))
section
variable {n c:Nat} {a:CL} {o:OpT}
theorem kG(h:CLOk n a)(hn:n≤100000)(ho:OkOp o):DT 9 #[.pointer (some ⟨c,0,none⟩), .agg (ints o.flat).toArray] T0 [fX c a] (dG λv H=>v= .int .i64 (oM a o).2∧H=[fX c (oM a o).1]):=by
 unfold oM
 by_cases hm:hZ o.at'=false
 · rw[if_pos hm]
   exact F9 c (fX c a) o hm
 · rw[if_neg hm]
   have hm:hZ o.at'=true:=by simpa using hm
   obtain⟨hi,hat⟩:=mE hm
   by_cases h1:0≤o.kind∧o.kind≤4
   · rw[if_pos h1];exact KK h hn hi hat.symm h1 ho
   rw[if_neg h1]
   by_cases h2:o.kind=5∨o.kind=6∨o.kind=7
   · rw[if_pos h2]
     have:=F2 c _ hi (fX c a) o o.kind h2 (λe X=>e=(oh a o).2∧X=fX c (oh a o).1) (by
      rw[pC rfl hat.symm]
      exact mW (Ho h hn hi hat.symm h2) λv H hp=>⟨_,_,hp.1,hp.2,rfl,rfl⟩)
     rw[pC rfl hat.symm]at this
     exact mW this λv H hp=>by
      obtain⟨e,X,rfl,rfl,rfl,rfl⟩:=hp;exact⟨rfl,rfl⟩
   rw[if_neg h2]
   by_cases h3:o.kind=8
   · rw[if_pos h3];exact Jm h hi hat.symm h3
   rw[if_neg h3]
   by_cases h4:o.kind=9
   · rw[if_pos h4];exact KZ h hi hat.symm h4
   rw[if_neg h4]
   by_cases h5:o.kind=10
   · rw[if_pos h5];exact Gd h hn hi hat.symm h5
   rw[if_neg h5]
   by_cases h6:o.kind=11
   · rw[if_pos h6];exact CV h hi hat.symm h6
   rw[if_neg h6];have:=Ek c _ hi (fX c a) o o.kind (by omega);rw[pC rfl hat.symm]at this;exact this
end
end Go.Proofs.YtkhjnolhhidecaaGreatDoor
end
