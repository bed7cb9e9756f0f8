/-
  Joined texts:what a statement's proof reaches.
-/
import Derived.Test.YtjblgopghhgflaaGreatPAT6
set_option maxHeartbeats 8000000
set_option maxRecDepth 100000
set_option linter.unusedSimpArgs false
set_option linter.unusedVariables false
section
namespace Go.Proofs.YtjblgopghhgflaaGreat
open Go Leg Codec Api Dsk Wal
theorem q6{δ:Type}(V:Env δ)(r:Nat)(s:MS δ)(c:ChangeT)[OkR V.toDk s][OkCh c]:
 DT 112 #[(.pointer (some ⟨r,0,none⟩)),(.agg (ints c.flat).toArray)] T0 [cQ V r s] (RI (.int .i64 (cF V.toDk s c).2) [cQ V r (cF V.toDk s c).1]):=by
 refine BD 66 Tryz.func112 rfl rfl rfl λw0 F hF=>sr λ_ J1=>XY (ints c.flat) λb3=>?_
 refine PS ?_;refine nx J1 (aa λ_ J2=>fC (α:=(Nat)) (λb5=>True) (λb5=>[(0,(.pointer (some ⟨r,0,none⟩))),(3,(.pointer (some ⟨b3,0,none⟩))),(4,(.int .i64 0)),(5,(.pointer (some ⟨b5,0,none⟩)))]) (λb5=>[cQ V r s,am b3 (ints c.flat) 28,am b5 (ints (e7 s).flat) 88]) (λb5 hinv=>?_) (λtl2=>?_));have _:=hinv;refine ac J2 (aa λ_ J3=>fC (α:=(Nat)) (λb6=>True) (λb6=>[(0,(.pointer (some ⟨r,0,none⟩))),(3,(.pointer (some ⟨b3,0,none⟩))),(4,(.int .i64 0)),(5,(.pointer (some ⟨b5,0,none⟩))),(6,(.pointer (some ⟨b6,0,none⟩))),(7,(.bool ((bY s.acc s.view.epoch (e7 s)).2)))]) (λb6=>[cQ V r s,am b3 (ints c.flat) 28,am b5 (ints (e7 s).flat) 88,am b6 (ints ((bY s.acc s.view.epoch (e7 s)).1).flat) 118]) (λb6 hinv=>?_) (λtl3=>?_));have _:=hinv;refine ac J3 (aa λ_ J4=>sr λ_ J5=>PS ?_);refine bf ?_ ?_<;>intro h33;refine PS ?_;refine nx J5 (CN (qx J4 (aa λ_ J6=>aa λ_ J7=>DC bp (c9 0 rfl rfl) (BL 2) ?_)));refine PD 0 ?_;refine PD 1 ?_;refine PD 2 ?_;refine FD 3 2 bo bm ?_;refine FD 4 2 eX aQ ?_;refine ta 5 rfl (dy (v:=(.int .i64 (s.view.epoch))) rfl Y3 rfl rfl (λ_ h=>h.2.1) (λa_=>(cn (s.rep a_) 0 rfl (by decide) (aZ _ rfl)))) ?_;refine LY 6 kW cI ap ?_;refine ta 7 rfl (lY RecT.zero (RecT.mk 3 0 RowT.zero s.view.epoch (e7 s) ChangeT.zero ViewT.zero) [(0,[Value.int .i64 3]),(3,[Value.int .i64 s.view.epoch]),(4,ints (e7 s).flat)] jD fD (g:=RecT.sg)) ?_
 refine AL 8 ?_;refine CE xT (l6 V r s (gZ s.view.epoch (e7 s))) ID ?_;refine EN (PD 9 ?_);refine DN (ac J7 (sr λ_ J8=>P2 ?_));refine ao ?_ ?_<;>intro h45;refine nx J8 (CY (sr λ_ J9=>P2 ?_));refine nx J9 (aj (af (WK [0] (aw rfl rfl ?_))));have e:cF V.toDk s c=(dw V.toDk s (gZ s.view.epoch (e7 s)),tK V.toDk s (gZ s.view.epoch (e7 s))):=by rw[cF,if_neg (by rw[h33];decide),if_pos h45]
 exact kn e;refine Nh (H':=λvo:Value=>wS V r (dw V.toDk s (gZ s.view.epoch (e7 s))) vo::[am b3 (ints c.flat) 28,am b5 (ints (e7 s).flat) 88,am b6 (ints ((bY s.acc s.view.epoch (e7 s)).1).flat) 118]) (λ_ q=>GR q) (λvo=>nx J8 (CN (qx J6 (aa λ_ J10=>D2 3 2 bp ?_))));refine PD 0 ?_;refine PD 1 ?_;refine LY 2 jB dM bi ?_;refine FD 3 0 kW aQ ?_;refine LX 4 Y3 (.int .i64 ((e7 s).round)) ?_ (hc:=by exact fF _ rfl);refine PD 5 ?_;refine FD 6 1058 bo dM ?_;refine AL 7 ?_;refine iw (vs:=ints ((bY s.acc s.view.epoch (e7 s)).1).flat) (i:=0) (ab rfl) rfl rfl rfl rfl rfl (by rw[(bi ((bY s.acc s.view.epoch (e7 s)).1))];exact dM) (bF _) rfl rfl (λ_=>LC (c8 _) (bi _)) (λa_=>(li ((dw V.toDk s (gZ s.view.epoch (e7 s))).rep ⟨(a_:Nat×Value).1,vo,a_.2⟩) 0 rfl (by have h1:=(bi ((bY s.acc s.view.epoch (e7 s)).1));omega) (cy ((bi (((dw V.toDk s (gZ s.view.epoch (e7 s))).rep ⟨(a_:Nat×Value).1,vo,a_.2⟩).acc)).trans (bi ((bY s.acc s.view.epoch (e7 s)).1)).symm)))) (EN (PD 8 ?_));refine FD 9 1066 bo aQ ?_;refine AL 10 ?_;refine SK 0 aQ (λ_=>c8 _) ?_ (hc:=by exact λa_=>(mH _ rfl _));refine EN (DN (ac J10 (aa λ_ J11=>D2 2 1 bp ?_)));refine PD 0 ?_;refine PD 1 ?_;refine PD 2 ?_;refine FD 3 2 bo bm ?_;refine LY 5 kW cI ap ?_;refine LY 6 n9 gg aM ?_;refine AL 4 ?_;refine LZ 0 eX bm an s.view ?_ (hc:=by exact λ_=>c7 _);refine EN (AL 7 ?_);refine CR O7 (A0 s.view (e7 s) c) ID λvR HR hR=>?_
 obtain⟨vb,rfl,rfl⟩:=hR;refine EN (PD 8 ?_);refine FD 9 1067 bo jL ?_;refine AL 10 ?_;refine SK 1 jL (λ_=>c8 _) ?_ (hc:=by exact λa_=>(Q9 _ rfl _));refine EN (DN (ac J11 (sr λ_ J12=>PS ?_)));refine nx J12 (aj (aF (H':=[cQ V r (nZ V.toDk s c)]) (dE _) (λ_ q=>pj (ak [1,0] rfl q)) (aw rfl rfl ?_)));have e:cF V.toDk s c=(nZ V.toDk s c,0):=by rw[cF,if_neg (by rw[h33];decide),if_neg h45]
 exact kn e;refine PS ?_;refine nx J5 (CY (sr λ_ J13=>PS ?_));refine nx J13 (aj (af (WK [0] (aw rfl rfl ?_))));have e:cF V.toDk s c=(s,6):=if_pos h33;exact kn e;refine DC bp (c9 0 rfl rfl) (BL 2) ?_;refine PD 0 ?_;refine PD 1 ?_;refine FD 2 1058 bo dM ?_;refine ta 3 rfl (gD (vs:=ints s.acc.flat) rfl jB rfl dM rfl (λ_ h=>h.2.1) (bi s.acc) (λa_=>(zv (s.rep a_) 0 rfl (by decide) (whole (bi ((s.rep a_).acc)))))) ?_;refine PD 4 ?_;refine PD 5 ?_;refine FD 6 2 bo bm ?_;refine FD 7 2 eX aQ ?_;refine ta 8 rfl (dy (v:=(.int .i64 (s.view.epoch))) rfl Y3 rfl rfl (λ_ h=>h.2.1) (λa_=>(cn (s.rep a_) 0 rfl (by decide) (aZ _ rfl)))) ?_;refine LY 9 kW cI ap ?_;refine cX [10,14] (by kernel_rfl) rfl (aH rfl ?_ ?_);refine CE GJ (oF s.acc s.view.epoch (e7 s)) ID ?_;refine EN (PD 11 ?_);refine PD 12 ?_;refine PD 13 ?_;refine oc ?_ ?_<;>intro h32;refine AL 14 ?_;refine XZ wV (ints AccT.zero.flat) λb6=>?_
 refine EN (AL 15 ?_);refine SW 0 dM bi ?_;refine EN (PD 16 ?_);refine DN ?_
 exact aF
  (aS (aS (aS (aS (aS (bv rfl (by rw[h32]) SB))))))
  (λ_ s=>ak [1,1,1,0] rfl s)
  (tl3 ((b6):(Nat)) trivial)
 refine AL 14 ?_;refine XZ wV (ints AccT.zero.flat) λb6=>?_
 refine EN (AL 15 ?_);refine SW 0 dM bi ?_;refine EN (PD 16 ?_);refine DN ?_
 exact aF
  (aS (aS (aS (aS (aS (bv rfl (by rw[h32]) SB))))))
  (λ_ s=>ak [1,1,1,0] rfl s)
  (tl3 ((b6):(Nat)) trivial)
 refine aH rfl ?_ ?_;refine XZ wV (ints AccT.zero.flat) λb6=>?_
 refine EN (AL 10 ?_);refine CE GJ (oF s.acc s.view.epoch (e7 s)) ID ?_;refine EN (PD 11 ?_);refine PD 12 ?_;refine PD 13 ?_;refine oc ?_ ?_<;>intro h32;refine AL 15 ?_;refine SW 0 dM bi ?_;refine EN (PD 16 ?_);refine DN ?_
 exact aF
  (aS (aS (aS (aS (aS (bv rfl (by rw[h32]) SB))))))
  (λ_ s=>ak [1,1,1,0] rfl s)
  (tl3 ((b6):(Nat)) trivial)
 refine AL 15 ?_;refine SW 0 dM bi ?_;refine EN (PD 16 ?_);refine DN ?_
 exact aF
  (aS (aS (aS (aS (aS (bv rfl (by rw[h32]) SB))))))
  (λ_ s=>ak [1,1,1,0] rfl s)
  (tl3 ((b6):(Nat)) trivial)
 exact bM;refine DB bp (c9 1 rfl rfl) ?_;refine PD 0 ?_;refine PD 1 ?_;refine FD 2 1066 bo aQ ?_;refine ta 3 rfl (dy (v:=(.int .i64 (s.round))) rfl Y3 rfl rfl (λ_ h=>h.2.1) (λa_=>(wE _ rfl))) ?_;refine ta 4 rfl (cL (r:=(gr (s.round+1))) rfl rfl rfl rfl) ?_;refine PD 5 ?_;refine PD 6 ?_;refine FD 7 0 bo aQ ?_;refine ta 8 rfl (dy (v:=(.int .i64 (s.id))) rfl Y3 rfl rfl (λ_ h=>h.2.1) (λa_=>(cN _ rfl))) ?_;refine ta 9 rfl (lY BallotT.zero (BallotT.mk (gr (s.round+1)) s.id) [(0,[Value.int .i64 (gr (s.round+1))]),(1,[Value.int .i64 s.id])] kW Qa (g:=BallotT.sg)) ?_;refine AL 10 ?_;refine XZ Qe (ints BallotT.zero.flat) λb5=>?_
 refine EN (AL 11 ?_);refine SW 0 cI ap ?_;refine EN (DN ?_)
 exact aF
  SB
  (λ_ s=>ak [2,1,0] rfl s)
  (tl2 ((b5):(Nat)) trivial)
theorem B6{δ:Type}(V:Env δ)(r:Nat)(s:MS δ)(op:Int)(c:ChangeT)[OkR V.toDk s][OkCh c](hrs:s.replies.length≤1000000)(hv:s.vote=none):
 DT 95 #[(.pointer (some ⟨r,0,none⟩)),(.iface V.T V.ov),(.int .i64 (op)),(.agg (ints c.flat).toArray)] T0 [cQ V r s] (RI (.int .i64 (dH V.toDk s op c).2) [cQ V r (dH V.toDk s op c).1]):=by
 refine BD 44 Tryz.func95 rfl rfl rfl λw0 F hF=>sr λ_ J1=>XY (ints c.flat) λb7=>?_
 refine PS ?_;refine nx J1 (aa λ_ J2=>fC (α:=Unit) (λ_u=>True) (λ_u=>[(0,(.pointer (some ⟨r,0,none⟩))),(1,(.iface V.T V.ov)),(2,(.int .i64 (op))),(7,(.pointer (some ⟨b7,0,none⟩))),(8,(.int .i64 0)),(10,(.int .i64 ((ej s.view c).2)))]) (λ_u=>[cQ V r s,am b7 (ints c.flat) 28]) (λ_u hinv=>?_) (λtl2=>?_));have _:=hinv;refine ac J2 (aa λ_ J3=>sr λ_ J4=>cJ (H':=wS V r s (.pointer none)::[am b7 (ints c.flat) 28]) (λ_ q=>tO hv q) (P2 ?_));refine ao ?_ ?_<;>intro h21;refine P3 ?_;refine FA 1067 bo jL ?_;refine LG 0 jv (.pointer none) ?_ (hc:=by exact λa_=>(bZ _ rfl));refine tq (iy rfl jv rfl rfl) ?_;refine PS ?_;refine nx J4 (CN (qx J3 (aa λ_ J5=>sr λ_ J6=>cJ (H':=cQ V r s::[am b7 (ints c.flat) 28]) (λ_ q=>pn hv (aD [0] rfl q)) (P2 ?_))));refine ao ?_ ?_<;>intro h30;refine nx J6 (CY (ae (PS ?_)));refine LW 1 n9 gg aM ?_;refine CE Kc (q6 V r s c) ID ?_;refine PS ?_;refine nx J5 (sr λ_ J7=>P3 ?_);refine CZ u6 (fx V r ((cF V.toDk s c).1) op ((cF V.toDk s c).2) 0 (by first|exact hrs| (rw[jq];exact hrs))) ID λvR=>?_
 refine nx J7 (aa λ_ J8=>sr λ_ J9=>P2 ?_);refine ao ?_ ?_<;>intro h39;refine nx J9 (CY (ae (P2 ?_)));refine CZ GP (sj V r (dI ((cF V.toDk s c).1) op ((cF V.toDk s c).2) 0) (kU s.view (e7 s) c) (sL h39)) ID λvR=>?_
 refine nx J8 (sr λ_ J10=>P2 ?_);refine nx J10 (aj (WK [0] (aw rfl rfl ?_)));have e:dH V.toDk s op c=((m6 V.toDk (dI ((cF V.toDk s c).1) op ((cF V.toDk s c).2) 0) (kU s.view (e7 s) c)),(cF V.toDk s c).2):=by rw[dH,show gy s c=(ej s.view c).2 by rw[gy,if_neg (λh=>by rw[hv]at h;exact absurd h.2 (by decide))],if_neg (by rw[h30];decide),if_neg (by rw[h39];decide),h39]
 exact kn e;refine nx J9 (CN (qx J8 (sr λ_ J11=>P2 ?_)));refine nx J11 (aj (WK [0] (aw rfl rfl ?_)));have e:dH V.toDk s op c=((dI ((cF V.toDk s c).1) op ((cF V.toDk s c).2) 0),(cF V.toDk s c).2):=by rw[dH,show gy s c=(ej s.view c).2 by rw[gy,if_neg (λh=>by rw[hv]at h;exact absurd h.2 (by decide))],if_neg (by rw[h30];decide),if_pos h39]
 exact kn e;refine nx J6 (CN (qx J5 (sr λ_ J12=>P3 ?_)));refine CZ u6 (fx V r s op ((ej s.view c).2) 0 (by first|exact hrs| (rw[jq];exact hrs))) ID λvR=>?_
 refine nx J12 (aa λ_ J13=>sr λ_ J14=>P2 ?_);refine ao ?_ ?_<;>intro h39
 · exact absurd h39 h30
 refine nx J14 (CN (qx J13 (sr λ_ J15=>P2 ?_)));refine nx J15 (aj (WK [0] (aw rfl rfl ?_)));have e:dH V.toDk s op c=((dI s op ((ej s.view c).2) 0),(ej s.view c).2):=by rw[dH,show gy s c=(ej s.view c).2 by rw[gy,if_neg (λh=>h30 h.1)]];exact if_pos (by exact h30)
 exact kn e;refine PS ?_
 iterate 5 refine UF ?_
 refine PS ?_;refine nx J4 (CN (qx J3 (aa λ_ J16=>sr λ_ J17=>cJ (H':=cQ V r s::[am b7 (ints c.flat) 28]) (λ_ q=>pn hv (aD [0] rfl q)) (P2 ?_))));refine ao ?_ ?_<;>intro h30;refine nx J17 (CY (ae (PS ?_)));refine LW 1 n9 gg aM ?_;refine CE Kc (q6 V r s c) ID ?_;refine PS ?_;refine nx J16 (sr λ_ J18=>P3 ?_);refine CZ u6 (fx V r ((cF V.toDk s c).1) op ((cF V.toDk s c).2) 0 (by first|exact hrs| (rw[jq];exact hrs))) ID λvR=>?_
 refine nx J18 (aa λ_ J19=>sr λ_ J20=>P2 ?_);refine ao ?_ ?_<;>intro h39;refine nx J20 (CY (ae (P2 ?_)));refine CZ GP (sj V r (dI ((cF V.toDk s c).1) op ((cF V.toDk s c).2) 0) (kU s.view (e7 s) c) (sL h39)) ID λvR=>?_
 refine nx J19 (sr λ_ J21=>P2 ?_);refine nx J21 (aj (WK [0] (aw rfl rfl ?_)));have e:dH V.toDk s op c=((m6 V.toDk (dI ((cF V.toDk s c).1) op ((cF V.toDk s c).2) 0) (kU s.view (e7 s) c)),(cF V.toDk s c).2):=by rw[dH,show gy s c=(ej s.view c).2 by rw[gy,if_neg (λh=>by rw[hv]at h;exact absurd h.2 (by decide))],if_neg (by rw[h30];decide),if_neg (by rw[h39];decide),h39]
 exact kn e;refine nx J20 (CN (qx J19 (sr λ_ J22=>P2 ?_)));refine nx J22 (aj (WK [0] (aw rfl rfl ?_)));have e:dH V.toDk s op c=((dI ((cF V.toDk s c).1) op ((cF V.toDk s c).2) 0),(cF V.toDk s c).2):=by rw[dH,show gy s c=(ej s.view c).2 by rw[gy,if_neg (λh=>by rw[hv]at h;exact absurd h.2 (by decide))],if_neg (by rw[h30];decide),if_pos h39]
 exact kn e;refine nx J17 (CN (qx J16 (sr λ_ J23=>P3 ?_)));refine CZ u6 (fx V r s op ((ej s.view c).2) 0 (by first|exact hrs| (rw[jq];exact hrs))) ID λvR=>?_
 refine nx J23 (aa λ_ J24=>sr λ_ J25=>P2 ?_);refine ao ?_ ?_<;>intro h39
 · exact absurd h39 h30
 refine nx J25 (CN (qx J24 (sr λ_ J26=>P2 ?_)));refine nx J26 (aj (WK [0] (aw rfl rfl ?_)));have e:dH V.toDk s op c=((dI s op ((ej s.view c).2) 0),(ej s.view c).2):=by rw[dH,show gy s c=(ej s.view c).2 by rw[gy,if_neg (λh=>h30 h.1)]];exact if_pos (by exact h30)
 exact kn e;refine DC bp (c9 1 rfl rfl) (BL 0) ?_;refine PD 0 ?_;refine PD 1 ?_;refine FD 2 2 bo bm ?_;refine ta 3 rfl (gD (vs:=ints s.view.flat) rfl eX rfl bm rfl (λ_ h=>h.2.1) (an s.view) (λa_=>(gA (s.rep a_) 0 rfl (by decide) (whole (an ((s.rep a_).view)))))) ?_;refine LY 4 n9 gg aM ?_;refine cX [5,9] (by kernel_rfl) rfl (aH rfl ?_ ?_);refine CE nT (dD s.view c OkVw.rng) ID ?_;refine EN (PD 6 ?_);refine PD 7 ?_;refine PD 8 ?_;refine AL 9 ?_;refine XZ sY (ints ViewT.zero.flat) λb9=>?_
 refine EN (AL 10 ?_);refine SW 0 bm an ?_;refine EN (PD 11 ?_);refine DN ?_
 exact aF
  SB
  (λ_ s=>ak [2,1] rfl s)
  (tl2 (():Unit) trivial)
 refine aH rfl ?_ ?_;refine XZ sY (ints ViewT.zero.flat) λb9=>?_
 refine EN (AL 5 ?_);refine CE nT (dD s.view c OkVw.rng) ID ?_;refine EN (PD 6 ?_);refine PD 7 ?_;refine PD 8 ?_;refine AL 10 ?_;refine SW 0 bm an ?_;refine EN (PD 11 ?_);refine DN ?_
 exact aF
  SB
  (λ_ s=>ak [2,1] rfl s)
  (tl2 (():Unit) trivial)
 exact bM
theorem B5{δ:Type}(V:Env δ)(r:Nat)(s:MS δ)(vt:VoteT)(op:Int)(c:ChangeT)[OkR V.toDk s][OkCh c](hrs:s.replies.length≤1000000)(hv:s.vote=some vt):
 DT 95 #[(.pointer (some ⟨r,0,none⟩)),(.iface V.T V.ov),(.int .i64 (op)),(.agg (ints c.flat).toArray)] T0 [cQ V r s] (RI (.int .i64 (dH V.toDk s op c).2) [cQ V r (dH V.toDk s op c).1]):=by
 refine BD 44 Tryz.func95 rfl rfl rfl λw0 F hF=>sr λ_ J1=>XY (ints c.flat) λb7=>?_
 refine PS ?_;refine nx J1 (aa λ_ J2=>fC (α:=Unit) (λ_u=>True) (λ_u=>[(0,(.pointer (some ⟨r,0,none⟩))),(1,(.iface V.T V.ov)),(2,(.int .i64 (op))),(7,(.pointer (some ⟨b7,0,none⟩))),(8,(.int .i64 0)),(10,(.int .i64 ((ej s.view c).2)))]) (λ_u=>[cQ V r s,am b7 (ints c.flat) 28]) (λ_u hinv=>?_) (λtl2=>?_));have _:=hinv;refine ac J2 (aa λ_ J3=>sr λ_ J4=>Nh (H':=λvb:Nat=>wS V r s (.pointer (some ⟨vb,0,none⟩))::am vb (VoteT.cells vt) 227::[am b7 (ints c.flat) 28]) (λ_ q=>nU hv q) (λvb=>P2 ?_));refine ao ?_ ?_<;>intro h21;refine P3 ?_;refine FA 1067 bo jL ?_;refine LG 0 jv (.pointer (some ⟨vb,0,none⟩)) ?_ (hc:=by exact λa_=>(bZ _ rfl));refine tq (gd rfl jv rfl rfl) ?_;refine PS ?_;refine nx J4 (CY (ae (cJ (H':=cQ V r s::[am b7 (ints c.flat) 28]) (λ_ q=>pm hv (aD [0,0] rfl q)) (PS ?_))));refine nx J3 (aa λ_ J5=>sr λ_ J6=>P2 ?_);refine nx J6 (CN (qx J5 (sr λ_ J7=>P3 ?_)));refine CZ u6 (fx V r s op 8 0 (by first|exact hrs| (rw[jq];exact hrs))) ID λvR=>?_
 refine nx J7 (aa λ_ J8=>sr λ_ J9=>P2 ?_);refine nx J9 (CN (qx J8 (sr λ_ J10=>P2 ?_)));refine nx J10 (aj (WK [0] (aw rfl rfl ?_)));have e:dH V.toDk s op c=((dI s op 8 0),8):=by rw[dH,show gy s c=8 by rw[gy,if_pos ⟨h21,by rw[hv];rfl⟩]];exact if_pos (by decide)
 exact kn e;refine PS ?_
 iterate 5 refine UF ?_
 refine PS ?_;refine nx J4 (CN (qx J3 (aa λ_ J11=>sr λ_ J12=>cJ (H':=cQ V r s::[am b7 (ints c.flat) 28]) (λ_ q=>pm hv (aD [0,0] rfl q)) (P2 ?_))));refine ao ?_ ?_<;>intro h30
 · exact absurd h30 (by first|decide|exact h21)
 refine nx J12 (CN (qx J11 (sr λ_ J13=>P3 ?_)));refine CZ u6 (fx V r s op ((ej s.view c).2) 0 (by first|exact hrs| (rw[jq];exact hrs))) ID λvR=>?_
 refine nx J13 (aa λ_ J14=>sr λ_ J15=>P2 ?_);refine ao ?_ ?_<;>intro h39
 · exact absurd h39 (by first|decide|exact h30)
 refine nx J15 (CN (qx J14 (sr λ_ J16=>P2 ?_)));refine nx J16 (aj (WK [0] (aw rfl rfl ?_)));have e:dH V.toDk s op c=((dI s op ((ej s.view c).2) 0),(ej s.view c).2):=by rw[dH,show gy s c=(ej s.view c).2 by rw[gy,if_neg (λh=>h30 h.1)]];exact if_pos (by exact h30)
 exact kn e;refine DC bp (c9 1 rfl rfl) (BL 0) ?_;refine PD 0 ?_;refine PD 1 ?_;refine FD 2 2 bo bm ?_;refine ta 3 rfl (gD (vs:=ints s.view.flat) rfl eX rfl bm rfl (λ_ h=>h.2.1) (an s.view) (λa_=>(gA (s.rep a_) 0 rfl (by decide) (whole (an ((s.rep a_).view)))))) ?_;refine LY 4 n9 gg aM ?_;refine cX [5,9] (by kernel_rfl) rfl (aH rfl ?_ ?_);refine CE nT (dD s.view c OkVw.rng) ID ?_;refine EN (PD 6 ?_);refine PD 7 ?_;refine PD 8 ?_;refine AL 9 ?_;refine XZ sY (ints ViewT.zero.flat) λb9=>?_
 refine EN (AL 10 ?_);refine SW 0 bm an ?_;refine EN (PD 11 ?_);refine DN ?_
 exact aF
  SB
  (λ_ s=>ak [2,1] rfl s)
  (tl2 (():Unit) trivial)
 refine aH rfl ?_ ?_;refine XZ sY (ints ViewT.zero.flat) λb9=>?_
 refine EN (AL 5 ?_);refine CE nT (dD s.view c OkVw.rng) ID ?_;refine EN (PD 6 ?_);refine PD 7 ?_;refine PD 8 ?_;refine AL 10 ?_;refine SW 0 bm an ?_;refine EN (PD 11 ?_);refine DN ?_
 exact aF
  SB
  (λ_ s=>ak [2,1] rfl s)
  (tl2 (():Unit) trivial)
 exact bM
theorem B4{δ:Type}(V:Env δ)(r:Nat)(s:MS δ)(op:Int)(c:ChangeT)[OkR V.toDk s][OkCh c](hrs:s.replies.length≤1000000):DT 95 #[.pointer (some ⟨r,0,none⟩), .iface V.T V.ov, .int .i64 op, .agg (ints c.flat).toArray] T0 [cQ V r s] (RI (.int .i64 (dH V.toDk s op c).2) [cQ V r (dH V.toDk s op c).1]):=by
 cases hv:s.vote with
 |none=>exact B6 V r s op c hrs hv
 |some vt=>exact B5 V r s vt op c hrs hv
theorem xM{δ:Type}(V:Env δ)(r:Nat)(s:MS δ)(o:OpT):DT 96 #[.pointer (some ⟨r,0,none⟩), .agg (ints o.flat).toArray] T0 [cQ V r s] (RI (.tuple #[.agg (ints (dm s o).1.flat).toArray, .int .i64 (dm s o).2.1, .int .i64 (dm s o).2.2]) [cQ V r s]):=Leg.Does.hid (λa=>H3 r (s.rep a) o)
theorem BZ{δ:Type}(V:Env δ)(r:Nat)(s:MS δ)(o:OpT)[OkR V.toDk s][OkCh o.change](hrs:s.replies.length≤1000000):
 DT 58 #[(.pointer (some ⟨r,0,none⟩)),(.iface V.T V.ov),(.agg (ints o.flat).toArray)] T0 [cQ V r s] (RI (.int .i64 (ca V.toDk s o).2) [cQ V r (ca V.toDk s o).1]):=by
 refine BD 74 Tryz.func58 rfl rfl rfl λw0 F hF=>sr λ_ J1=>XY (ints o.flat) λb5=>?_
 refine PS ?_;refine nx J1 (sr λ_ J2=>P2 ?_);refine FA 1941 bo aQ ?_;refine LG 1 Y3 (.int .i64 (s.ops)) ?_ (hc:=by exact λa_=>(RepT.at_ops _ rfl));refine tp (cL (r:=(gr (s.ops+1))) rfl rfl rfl rfl) ?_;refine PS ?_;refine FA 1941 bo aQ ?_;refine SK 1 aQ (λ_=>c8 _) ?_ (hc:=by exact λa_=>(RepT.set_ops _ rfl _));refine nx J2 (sr λ_ J3=>P2 ?_);refine FA 1941 bo aQ ?_;refine LG 1 Y3 (.int .i64 ((bP s).ops)) ?_ (hc:=by exact λa_=>(RepT.at_ops _ rfl));refine PS ?_;refine nx J3 (aa λ_ J4=>aa λ_ J5=>DC bp (c9 1 rfl rfl) (BL 0) ?_);refine PD 0 ?_;refine PD 1 ?_;refine FD 2 2 bo bm ?_;refine ta 3 rfl (gD (vs:=ints ((bP s).view).flat) rfl eX rfl bm rfl (λ_ h=>h.2.1) (an ((bP s).view)) (λa_=>(gA ((bP s).rep a_) 0 rfl (by decide) (whole (an (((bP s).rep a_).view)))))) ?_;refine PD 4 ?_;refine PD 5 ?_;refine FD 6 0 bo aQ ?_;refine ta 7 rfl (dy (v:=(.int .i64 ((bP s).id))) rfl Y3 rfl rfl (λ_ h=>h.2.1) (λa_=>(cN _ rfl))) ?_;refine AL 8 ?_;refine CE qR (dP ((bP s).view) ((bP s).id)) ID ?_;refine bf ?_ ?_<;>intro h30;refine EN (PD 9 ?_);refine FD 10 0 gh aQ ?_;refine LR 11 Y3 (dh o rfl) ?_;refine PD 12 ?_;refine iK ?_ ?_<;>intro h34;refine PD 13 ?_;refine DN (ac J5 (CY (sr λ_ J6=>P3 ?_)));refine FA 5 gh gg ?_;refine LV 0 n9 gg aM OpT.sp_change (y:=o.change) ?_;refine CE Qz (B4 V r (bP s) ((bP s).ops) o.change hrs) (SM [1]) ?_;refine PS ?_;refine nx J6 (aj (af (WK [0] (aw rfl rfl ?_))))
 have e:ca V.toDk s o=((dH V.toDk (bP s) ((bP s).ops) o.change).1,(dH V.toDk (bP s) (bP s).ops o.change).2):=by rw[ca,show ju s.view s.id=true from h30,decide_eq_true h34,if_pos (by rfl)]
 exact kn e;refine PD 13 ?_;refine DN (ac J5 (CN (qx J4 (sr λ_ J7=>PS ?_))));refine LW 0 gh Cy KZ ?_;refine CE OD (xM V r (bP s) o) (SM [1]) ?_;refine P4 ?_;refine XZ uB (ints RowT.zero.flat) λb8=>?_
 refine SW 0 bg ah ?_;refine P2 ?_;refine nx J7 (aa λ_ J8=>sr λ_ J9=>P2 ?_);refine ao ?_ ?_<;>intro h50;refine PS ?_
 iterate 3 refine UT ?_
 refine PS ?_;refine nx J9 (CY (sr λ_ J10=>P4 ?_));refine CZ u6 (fx V r (bP s) ((bP s).ops) ((dm (bP s) o).2.2) ((dm (bP s) o).2.1) (by first|exact hrs| (rw[kg];exact hrs))) (SM [1]) λvR=>?_
 refine nx J10 (sr λ_ J11=>P2 ?_);refine nx J11 (aj (af (WK [0] (aw rfl rfl ?_))));have e:ca V.toDk s o=((dI (bP s) ((bP s).ops) ((dm (bP s) o).2.2) ((dm (bP s) o).2.1)),(dm (bP s) o).2.2):=by rw[ca,show ju s.view s.id=true from h30,decide_eq_false h34,if_neg (by decide),oT,if_pos (.inl h50)]
 exact kn e;refine PS ?_;refine FA 0 gh aQ ?_;refine LU 2 Y3 (dh o rfl) ?_;refine PS ?_;refine ao ?_ ?_<;>intro h54;refine PS ?_;refine nx J9 (CY (sr λ_ J12=>P4 ?_));refine CZ u6 (fx V r (bP s) ((bP s).ops) ((dm (bP s) o).2.2) ((dm (bP s) o).2.1) (by first|exact hrs| (rw[kg];exact hrs))) (SM [1]) λvR=>?_
 refine nx J12 (sr λ_ J13=>P2 ?_);refine nx J13 (aj (af (WK [0] (aw rfl rfl ?_))));have e:ca V.toDk s o=((dI (bP s) ((bP s).ops) ((dm (bP s) o).2.2) ((dm (bP s) o).2.1)),(dm (bP s) o).2.2):=by rw[ca,show ju s.view s.id=true from h30,decide_eq_false h34,if_neg (by decide),oT,if_pos (.inr h54)]
 exact kn e;refine PS ?_;refine nx J9 (CN (qx J8 (aa λ_ J14=>sr λ_ J15=>P2 ?_)));refine LW 0 dV bg ah ?_;refine PS ?_;refine CE Ny (sG V r (bP s) ((dm (bP s) o).1) ((bP s).ops)) (SM [1]) ?_;refine PS ?_;refine nx J15 (sr λ_ J16=>P2 ?_);refine ao ?_ ?_<;>intro h68;refine nx J16 (CY (ae (P3 ?_)));refine CZ u6 (fx V r ((eW V.toDk (bP s) ((dm (bP s) o).1) ((bP s).ops)).1) ((bP s).ops) ((eW V.toDk (bP s) ((dm (bP s) o).1) ((bP s).ops)).2) 0 (by first|exact hrs| (rw[kg];exact hrs))) ID λvR=>?_
 refine nx J14 (sr λ_ J17=>P2 ?_);refine nx J17 (aj (WK [0] (aw rfl rfl ?_)));have e:ca V.toDk s o=((dI ((eW V.toDk (bP s) ((dm (bP s) o).1) ((bP s).ops)).1) ((bP s).ops) ((eW V.toDk (bP s) ((dm (bP s) o).1) ((bP s).ops)).2) 0),(eW V.toDk (bP s) (dm (bP s) o).1 (bP s).ops).2):=by rw[ca,show ju s.view s.id=true from h30,decide_eq_false h34,if_neg (by decide),oT,if_neg (λh=>h.elim (λh=>h50 h) (λh=>h54 h)),if_pos h68]
 exact kn e;refine nx J16 (CN (qx J14 (sr λ_ J18=>P2 ?_)));refine nx J18 (aj (WK [0] (aw rfl rfl ?_)));have e:ca V.toDk s o=((eW V.toDk (bP s) ((dm (bP s) o).1) ((bP s).ops)).1,(eW V.toDk (bP s) (dm (bP s) o).1 (bP s).ops).2):=by rw[ca,show ju s.view s.id=true from h30,decide_eq_false h34,if_neg (by decide),oT,if_neg (λh=>h.elim (λh=>h50 h) (λh=>h54 h)),if_neg h68,show(eW V.toDk (bP s) (dm (bP s) o).1 (bP s).ops).2=0 from Decidable.not_not.1 h68]
 exact kn e;refine EN (PD 9 ?_);refine NT 10 ?_;refine NT 11 ?_;refine NT 12 ?_;refine PD 13 ?_;refine DN (ac J5 (CN (qx J4 (sr λ_ J19=>PS ?_))));refine LW 0 gh Cy KZ ?_;refine CE OD (xM V r (bP s) o) (SM [1]) ?_;refine P4 ?_;refine XZ uB (ints RowT.zero.flat) λb8=>?_
 refine SW 0 bg ah ?_;refine P2 ?_;refine nx J19 (aa λ_ J20=>sr λ_ J21=>P2 ?_);refine ao ?_ ?_<;>intro h50;refine PS ?_
 iterate 3 refine UT ?_
 refine PS ?_;refine nx J21 (CY (sr λ_ J22=>P4 ?_));refine CZ u6 (fx V r (bP s) ((bP s).ops) ((dm (bP s) o).2.2) ((dm (bP s) o).2.1) (by first|exact hrs| (rw[kg];exact hrs))) (SM [1]) λvR=>?_
 refine nx J22 (sr λ_ J23=>P2 ?_);refine nx J23 (aj (af (WK [0] (aw rfl rfl ?_))));have e:ca V.toDk s o=((dI (bP s) ((bP s).ops) ((dm (bP s) o).2.2) ((dm (bP s) o).2.1)),(dm (bP s) o).2.2):=by rw[ca,show ju s.view s.id=false from h30,if_neg (by rw[ik];decide),oT,if_pos (.inl h50)]
 exact kn e;refine PS ?_;refine FA 0 gh aQ ?_;refine LU 2 Y3 (dh o rfl) ?_;refine PS ?_;refine ao ?_ ?_<;>intro h54;refine PS ?_;refine nx J21 (CY (sr λ_ J24=>P4 ?_));refine CZ u6 (fx V r (bP s) ((bP s).ops) ((dm (bP s) o).2.2) ((dm (bP s) o).2.1) (by first|exact hrs| (rw[kg];exact hrs))) (SM [1]) λvR=>?_
 refine nx J24 (sr λ_ J25=>P2 ?_);refine nx J25 (aj (af (WK [0] (aw rfl rfl ?_))));have e:ca V.toDk s o=((dI (bP s) ((bP s).ops) ((dm (bP s) o).2.2) ((dm (bP s) o).2.1)),(dm (bP s) o).2.2):=by rw[ca,show ju s.view s.id=false from h30,if_neg (by rw[ik];decide),oT,if_pos (.inr h54)]
 exact kn e;refine PS ?_;refine nx J21 (CN (qx J20 (aa λ_ J26=>sr λ_ J27=>P2 ?_)));refine LW 0 dV bg ah ?_;refine PS ?_;refine CE Ny (sG V r (bP s) ((dm (bP s) o).1) ((bP s).ops)) (SM [1]) ?_;refine PS ?_;refine nx J27 (sr λ_ J28=>P2 ?_);refine ao ?_ ?_<;>intro h68;refine nx J28 (CY (ae (P3 ?_)));refine CZ u6 (fx V r ((eW V.toDk (bP s) ((dm (bP s) o).1) ((bP s).ops)).1) ((bP s).ops) ((eW V.toDk (bP s) ((dm (bP s) o).1) ((bP s).ops)).2) 0 (by first|exact hrs| (rw[kg];exact hrs))) ID λvR=>?_
 refine nx J26 (sr λ_ J29=>P2 ?_);refine nx J29 (aj (WK [0] (aw rfl rfl ?_)));have e:ca V.toDk s o=((dI ((eW V.toDk (bP s) ((dm (bP s) o).1) ((bP s).ops)).1) ((bP s).ops) ((eW V.toDk (bP s) ((dm (bP s) o).1) ((bP s).ops)).2) 0),(eW V.toDk (bP s) (dm (bP s) o).1 (bP s).ops).2):=by rw[ca,show ju s.view s.id=false from h30,if_neg (by rw[ik];decide),oT,if_neg (λh=>h.elim (λh=>h50 h) (λh=>h54 h)),if_pos h68]
 exact kn e;refine nx J28 (CN (qx J26 (sr λ_ J30=>P2 ?_)));refine nx J30 (aj (WK [0] (aw rfl rfl ?_)));have e:ca V.toDk s o=((eW V.toDk (bP s) ((dm (bP s) o).1) ((bP s).ops)).1,(eW V.toDk (bP s) (dm (bP s) o).1 (bP s).ops).2):=by rw[ca,show ju s.view s.id=false from h30,if_neg (by rw[ik];decide),oT,if_neg (λh=>h.elim (λh=>h50 h) (λh=>h54 h)),if_neg h68,show(eW V.toDk (bP s) (dm (bP s) o).1 (bP s).ops).2=0 from Decidable.not_not.1 h68]
 exact kn e
theorem EV{δ:Type}(V:Env δ)(r:Nat)(s:MS δ)[OkR V.toDk s](hv:(gj V.toDk (cd V.toDk (bT V.toDk s))).vote=none):
 DT 60 #[(.pointer (some ⟨r,0,none⟩)),(.iface V.T V.ov)] T0 [cQ V r s] (dB (λ_ H=>H=[cQ V r (gU V.toDk s)])):=by
 refine BD 89 Tryz.func60 rfl rfl rfl λw0 F hF=>aa λ_ J1=>fC (α:=Unit) (λ_u=>True) (λ_u=>[(0,(.pointer (some ⟨r,0,none⟩))),(1,(.iface V.T V.ov))]) (λ_u=>[cQ V r (if s.busy=true then fg V.toDk s else s)]) (λ_u hinv=>?_) (λtl1=>?_)
 have _:=hinv;refine ac J1 (sr λ_ J2=>P2 ?_);refine CZ GQ (p3 V r (if s.busy=true then fg V.toDk s else s)) ID λvR=>?_
 refine nx J2 (sr λ_ J3=>P2 ?_);refine CZ Kg (qY V r (lH V.toDk (if s.busy=true then fg V.toDk s else s))) ID λvR=>?_
 refine nx J3 (aa λ_ J4=>fC (α:=Unit) (λ_u=>True) (λ_u=>[(0,(.pointer (some ⟨r,0,none⟩))),(1,(.iface V.T V.ov))]) (λ_u=>[cQ V r (cd V.toDk (bT V.toDk s))]) (λ_u hinv=>?_) (λtl4=>?_));have _:=hinv;refine ac J4 (aa λ_ J5=>aa λ_ J6=>DB bp (c9 0 rfl rfl) ?_);refine PD 0 ?_;refine PD 1 ?_;refine FD 2 2 bo bm ?_;refine ta 3 rfl (gD (vs:=ints ((cd V.toDk (bT V.toDk s)).view).flat) rfl eX rfl bm rfl (λ_ h=>h.2.1) (an ((cd V.toDk (bT V.toDk s)).view)) (λa_=>(gA ((cd V.toDk (bT V.toDk s)).rep a_) 0 rfl (by decide) (whole (an (((cd V.toDk (bT V.toDk s)).rep a_).view)))))) ?_;refine PD 4 ?_;refine PD 5 ?_;refine FD 6 0 bo aQ ?_;refine ta 7 rfl (dy (v:=(.int .i64 ((cd V.toDk (bT V.toDk s)).id))) rfl Y3 rfl rfl (λ_ h=>h.2.1) (λa_=>(cN _ rfl))) ?_;refine AL 8 ?_;refine CE qR (dP ((cd V.toDk (bT V.toDk s)).view) ((cd V.toDk (bT V.toDk s)).id)) ID ?_;refine bf ?_ ?_<;>intro h42;refine EN (PD 9 ?_);refine DN (ac J6 (CN (qx J5 (aa λ_ J7=>fC (α:=Unit) (λ_u=>True) (λ_u=>[(0,(.pointer (some ⟨r,0,none⟩))),(1,(.iface V.T V.ov))]) (λ_u=>[cQ V r (gj V.toDk (cd V.toDk (bT V.toDk s)))]) (λ_u hinv=>?_) (λtl7=>?_)))));have _:=hinv;refine ac J7 (aa λ_ J8=>sr λ_ J9=>cJ (H':=wS V r (gj V.toDk (cd V.toDk (bT V.toDk s))) (.pointer none)::[]) (λ_ q=>tO hv q) (P2 ?_));refine FA 1067 bo jL ?_;refine LG 0 jv (.pointer none) ?_ (hc:=by exact λa_=>(bZ _ rfl))
 refine tp (KY rfl jv rfl rfl) ?_;refine nx J9 (CY (aj (af (aF (H':=[cQ V r (gj V.toDk (cd V.toDk (bT V.toDk s)))]) (dE _) (λ_ q=>pn hv (ak [0] rfl q)) (dW rfl ?_)))));exact MQ (by rw[gU,if_pos h42,o7,hv]);refine aa λ_ J10=>fC (α:=(Nat)) (λb4=>True) (λb4=>[(0,(.pointer (some ⟨r,0,none⟩))),(1,(.iface V.T V.ov)),(4,(.pointer (some ⟨b4,0,none⟩)))]) (λb4=>[cQ V r (cd V.toDk (bT V.toDk s)),am b4 (ints (bL (cd V.toDk (bT V.toDk s)).book (cd V.toDk (bT V.toDk s)).id).flat) 60]) (λb4 hinv=>?_) (λtl10=>?_)
 have _:=hinv;refine ac J10 (sr λ_ J11=>FA 0 dV aQ ?_);refine LT 1 Y3 (.int .i64 ((bL (cd V.toDk (bT V.toDk s)).book (cd V.toDk (bT V.toDk s)).id).version)) ?_ (hc:=by exact ce _ rfl);refine PS ?_;refine ao ?_ ?_<;>intro h54;refine nx J11 (CY (ae (P2 ?_)));refine LW 1 dV bg ah ?_;refine CZ Ke (nM V r (cd V.toDk (bT V.toDk s)) (bL (cd V.toDk (bT V.toDk s)).book (cd V.toDk (bT V.toDk s)).id)) ID λvR=>?_
 refine au ?_
 exact aF
  SB
  (λ_ q=>by
   rw[gj,if_pos h54]
   exact ak [0] rfl q)
  (tl7 (():Unit) trivial)
 refine nx J11 (CN (aU ?_))
 exact aF
  SB
  (λ_ q=>by
   rw[gj,if_neg h54]
   exact ak [0] rfl q)
  (tl7 (():Unit) trivial)
 refine DB bp (c9 0 rfl rfl) ?_;refine PD 0 ?_;refine PD 1 ?_;refine FD 2 1068 bo xg ?_;refine PD 3 ?_;refine PD 4 ?_;refine FD 5 0 bo aQ ?_;refine ta 6 rfl (dy (v:=(.int .i64 ((cd V.toDk (bT V.toDk s)).id))) rfl Y3 rfl rfl (λ_ h=>h.2.1) (λa_=>(cN _ rfl))) ?_;refine cX [7,8] (by kernel_rfl) rfl (aH rfl ?_ ?_);refine CE JR (Leg.Does.hid (λa_=>lJ r 1068 123 _ (ii ((cd V.toDk (bT V.toDk s)).rep a_)) (cd V.toDk (bT V.toDk s)).book ((cd V.toDk (bT V.toDk s)).id))) ID ?_;refine EN (AL 8 ?_);refine XZ uB (ints RowT.zero.flat) λb4=>?_
 refine EN (AL 9 ?_);refine SW 0 bg ah ?_;refine EN (DN ?_)
 exact aF
  SB
  (λ_ s=>ak [1,0] rfl s)
  (tl10 ((b4):(Nat)) trivial)
 refine aH rfl ?_ ?_;refine XZ uB (ints RowT.zero.flat) λb4=>?_
 refine EN (AL 7 ?_);refine CE JR (Leg.Does.hid (λa_=>lJ r 1068 123 _ (ii ((cd V.toDk (bT V.toDk s)).rep a_)) (cd V.toDk (bT V.toDk s)).book ((cd V.toDk (bT V.toDk s)).id))) (SM [1]) ?_;refine EN (AL 9 ?_);refine SW 1 bg ah ?_;refine EN (DN ?_)
 exact aF
  SB
  (λ_ s=>ak [0,0] rfl s)
  (tl10 ((b4):(Nat)) trivial)
 exact bM;refine EN (PD 9 ?_);refine DN (ac J6 (CY (aj (af (WK [0] (dW rfl ?_))))));exact MQ (by rw[gU,if_neg (by rw[h42];decide)]);refine sr λ_ J12=>P2 ?_
 refine FA 2 bo bm ?_;refine FA 2 eX aQ ?_;refine LG 0 Y3 (.int .i64 (((bT V.toDk s).view).epoch)) ?_ (hc:=by exact λa_=>(cn ((bT V.toDk s).rep a_) 0 rfl (by decide) (aZ _ rfl)));refine PS ?_;refine ao ?_ ?_<;>intro h26;refine nx J12 (CY (ae (P4 ?_)));refine FA 2 bo bm ?_;refine LZ 0 eX bm an ((bT V.toDk s).view) ?_ (hc:=by exact λ_=>c7 _);refine CZ Kf (nL V r (bT V.toDk s) ((bT V.toDk s).view)) ID λvR=>?_
 refine au ?_
 exact aF
  SB
  (λ_ q=>by
   rw[cd,if_pos h26]
   exact ak [0] rfl q)
  (tl4 (():Unit) trivial)
 refine nx J12 (CN (aU ?_))
 exact aF
  SB
  (λ_ q=>by
   rw[cd,if_neg h26]
   exact ak [0] rfl q)
  (tl4 (():Unit) trivial)
 refine sr λ_ J13=>P2 ?_
 refine FA 1938 bo lP ?_;refine LG 0 Y4 (.bool (s.busy)) ?_ (hc:=by exact λa_=>(zw _ rfl));refine bf ?_ ?_<;>intro h11;refine nx J13 (CY (ae (P2 ?_)));refine CZ Kh (oL V r s) ID λvR=>?_
 refine au ?_
 exact aF
  SB
  (λ_ q=>by
   rw[if_pos h11]
   exact ak [0] rfl q)
  (tl1 (():Unit) trivial)
 refine nx J13 (CN (aU ?_))
 exact aF
  SB
  (λ_ q=>by
   rw[if_neg (by rw[h11];decide)]
   exact ak [0] rfl q)
  (tl1 (():Unit) trivial)
theorem EU{δ:Type}(V:Env δ)(r:Nat)(s:MS δ)(vt:VoteT)[OkR V.toDk s](hv:(gj V.toDk (cd V.toDk (bT V.toDk s))).vote=some vt):
 DT 60 #[(.pointer (some ⟨r,0,none⟩)),(.iface V.T V.ov)] T0 [cQ V r s] (dB (λ_ H=>H=[cQ V r (gU V.toDk s)])):=by
 refine BD 89 Tryz.func60 rfl rfl rfl λw0 F hF=>?_
 have hov:OkVt vt:=OkR.vote vt hv;refine aa λ_ J1=>fC (α:=Unit) (λ_u=>True) (λ_u=>[(0,(.pointer (some ⟨r,0,none⟩))),(1,(.iface V.T V.ov))]) (λ_u=>[cQ V r (if s.busy=true then fg V.toDk s else s)]) (λ_u hinv=>?_) (λtl1=>?_)
 have _:=hinv;refine ac J1 (sr λ_ J2=>P2 ?_);refine CZ GQ (p3 V r (if s.busy=true then fg V.toDk s else s)) ID λvR=>?_
 refine nx J2 (sr λ_ J3=>P2 ?_);refine CZ Kg (qY V r (lH V.toDk (if s.busy=true then fg V.toDk s else s))) ID λvR=>?_
 refine nx J3 (aa λ_ J4=>fC (α:=Unit) (λ_u=>True) (λ_u=>[(0,(.pointer (some ⟨r,0,none⟩))),(1,(.iface V.T V.ov))]) (λ_u=>[cQ V r (cd V.toDk (bT V.toDk s))]) (λ_u hinv=>?_) (λtl4=>?_));have _:=hinv;refine ac J4 (aa λ_ J5=>aa λ_ J6=>DB bp (c9 0 rfl rfl) ?_);refine PD 0 ?_;refine PD 1 ?_;refine FD 2 2 bo bm ?_;refine ta 3 rfl (gD (vs:=ints ((cd V.toDk (bT V.toDk s)).view).flat) rfl eX rfl bm rfl (λ_ h=>h.2.1) (an ((cd V.toDk (bT V.toDk s)).view)) (λa_=>(gA ((cd V.toDk (bT V.toDk s)).rep a_) 0 rfl (by decide) (whole (an (((cd V.toDk (bT V.toDk s)).rep a_).view)))))) ?_;refine PD 4 ?_;refine PD 5 ?_;refine FD 6 0 bo aQ ?_;refine ta 7 rfl (dy (v:=(.int .i64 ((cd V.toDk (bT V.toDk s)).id))) rfl Y3 rfl rfl (λ_ h=>h.2.1) (λa_=>(cN _ rfl))) ?_;refine AL 8 ?_;refine CE qR (dP ((cd V.toDk (bT V.toDk s)).view) ((cd V.toDk (bT V.toDk s)).id)) ID ?_;refine bf ?_ ?_<;>intro h42;refine EN (PD 9 ?_);refine DN (ac J6 (CN (qx J5 (aa λ_ J7=>fC (α:=Unit) (λ_u=>True) (λ_u=>[(0,(.pointer (some ⟨r,0,none⟩))),(1,(.iface V.T V.ov))]) (λ_u=>[cQ V r (gj V.toDk (cd V.toDk (bT V.toDk s)))]) (λ_u hinv=>?_) (λtl7=>?_)))));have _:=hinv;refine ac J7 (aa λ_ J8=>sr λ_ J9=>Nh (H':=λvb:Nat=>wS V r (gj V.toDk (cd V.toDk (bT V.toDk s))) (.pointer (some ⟨vb,0,none⟩))::am vb (VoteT.cells vt) 227::[]) (λ_ q=>nU hv q) (λvb=>P2 ?_));refine FA 1067 bo jL ?_
 refine LG 0 jv (.pointer (some ⟨vb,0,none⟩)) ?_ (hc:=by exact λa_=>(bZ _ rfl));refine tp (jE rfl jv rfl rfl) ?_;refine nx J9 (CN (qx J8 (sr λ_ J10=>P2 ?_)));refine FA 1067 bo jL ?_;refine LG 0 jv (.pointer (some ⟨vb,0,none⟩)) ?_ (hc:=by exact λa_=>(bZ _ rfl));refine CE pi (du vb vt) (SM [1]) ?_;change TL _ _ _ _ _ _ _ _ _ [am vb (VoteT.cells vt) 227,wS V r (gj V.toDk (cd V.toDk (bT V.toDk s))) (.pointer (some ⟨vb,0,none⟩))];refine cJ (H':=cQ V r (gj V.toDk (cd V.toDk (bT V.toDk s)))::[]) (λ_ q=>pm hv (aD [1,0] rfl q)) (XZ Qh (ints ChangeT.zero.flat) λb5=>?_);refine SW 0 gg aM ?_;refine nx J10 (aa λ_ J11=>fC (α:=Unit) (λ_u=>True) (λ_u=>[(0,(.pointer (some ⟨r,0,none⟩))),(1,(.iface V.T V.ov)),(5,(.pointer (some ⟨b5,0,none⟩))),(7,(.int .i64 ((ej (gj V.toDk (cd V.toDk (bT V.toDk s))).view vt.change).2)))]) (λ_u=>[cQ V r (gj V.toDk (cd V.toDk (bT V.toDk s))),am b5 (ints vt.change.flat) 28]) (λ_u hinv=>?_) (λtl11=>?_));have _:=hinv;refine ac J11 (sr λ_ J12=>P2 ?_);refine ao ?_ ?_<;>intro h79;refine P2 ?_;refine LW 1 n9 gg aM ?_;refine CE Kc (q6 V r (gj V.toDk (cd V.toDk (bT V.toDk s))) vt.change) ID ?_;refine PS ?_;refine ao ?_ ?_<;>intro h84;refine PS ?_;refine nx J12 (CY (ae (P2 ?_)))
 refine CZ GP (sj V r ((cF V.toDk (gj V.toDk (cd V.toDk (bT V.toDk s))) vt.change).1) (kU (gj V.toDk (cd V.toDk (bT V.toDk s))).view (e7 (gj V.toDk (cd V.toDk (bT V.toDk s)))) vt.change) (sL h84)) ID λvR=>?_
 refine au (WK [0] (bG rfl ?_));exact MQ (by rw[gU,if_pos h42,o7,hv];simp only[];rw[if_pos h79,if_pos h84]);refine PS ?_;refine nx J12 (CN (aU (WK [0] (bG rfl ?_))));exact MQ (by rw[gU,if_pos h42,o7,hv];simp only[];rw[if_pos h79,if_neg h84]);refine PS ?_
 iterate 4 refine UF ?_
 refine PS ?_;refine nx J12 (CN (aU (WK [0] (bG rfl ?_))));exact MQ (by rw[gU,if_pos h42,o7,hv];simp only[];rw[if_neg h79]);refine DC bp (c9 1 rfl rfl) (BL 0) ?_;refine PD 0 ?_;refine PD 1 ?_;refine FD 2 2 bo bm ?_;refine ta 3 rfl (gD (vs:=ints ((gj V.toDk (cd V.toDk (bT V.toDk s))).view).flat) rfl eX rfl bm rfl (λ_ h=>h.2.1) (an ((gj V.toDk (cd V.toDk (bT V.toDk s))).view)) (λa_=>(gA ((gj V.toDk (cd V.toDk (bT V.toDk s))).rep a_) 0 rfl (by decide) (whole (an (((gj V.toDk (cd V.toDk (bT V.toDk s))).rep a_).view)))))) ?_;refine LY 4 n9 gg aM ?_;refine cX [5,9] (by kernel_rfl) rfl (aH rfl ?_ ?_);refine CE nT (dD ((gj V.toDk (cd V.toDk (bT V.toDk s))).view) vt.change OkVw.rng) ID ?_;refine EN (PD 6 ?_);refine PD 7 ?_;refine PD 8 ?_;refine AL 9 ?_;refine XZ sY (ints ViewT.zero.flat) λb6=>?_
 refine EN (AL 10 ?_);refine SW 0 bm an ?_;refine EN (PD 11 ?_);refine DN ?_
 exact aF
  SB
  (λ_ s=>ak [2,1] rfl s)
  (tl11 (():Unit) trivial)
 refine aH rfl ?_ ?_;refine XZ sY (ints ViewT.zero.flat) λb6=>?_
 refine EN (AL 5 ?_);refine CE nT (dD ((gj V.toDk (cd V.toDk (bT V.toDk s))).view) vt.change OkVw.rng) ID ?_;refine EN (PD 6 ?_);refine PD 7 ?_;refine PD 8 ?_;refine AL 10 ?_;refine SW 0 bm an ?_;refine EN (PD 11 ?_);refine DN ?_
 exact aF
  SB
  (λ_ s=>ak [2,1] rfl s)
  (tl11 (():Unit) trivial)
 exact bM;refine aa λ_ J13=>fC (α:=(Nat)) (λb4=>True) (λb4=>[(0,(.pointer (some ⟨r,0,none⟩))),(1,(.iface V.T V.ov)),(4,(.pointer (some ⟨b4,0,none⟩)))]) (λb4=>[cQ V r (cd V.toDk (bT V.toDk s)),am b4 (ints (bL (cd V.toDk (bT V.toDk s)).book (cd V.toDk (bT V.toDk s)).id).flat) 60]) (λb4 hinv=>?_) (λtl13=>?_)
 have _:=hinv;refine ac J13 (sr λ_ J14=>FA 0 dV aQ ?_);refine LT 1 Y3 (.int .i64 ((bL (cd V.toDk (bT V.toDk s)).book (cd V.toDk (bT V.toDk s)).id).version)) ?_ (hc:=by exact ce _ rfl);refine PS ?_;refine ao ?_ ?_<;>intro h54;refine nx J14 (CY (ae (P2 ?_)));refine LW 1 dV bg ah ?_;refine CZ Ke (nM V r (cd V.toDk (bT V.toDk s)) (bL (cd V.toDk (bT V.toDk s)).book (cd V.toDk (bT V.toDk s)).id)) ID λvR=>?_
 refine au ?_
 exact aF
  SB
  (λ_ q=>by
   rw[gj,if_pos h54]
   exact ak [0] rfl q)
  (tl7 (():Unit) trivial)
 refine nx J14 (CN (aU ?_))
 exact aF
  SB
  (λ_ q=>by
   rw[gj,if_neg h54]
   exact ak [0] rfl q)
  (tl7 (():Unit) trivial)
 refine DB bp (c9 0 rfl rfl) ?_;refine PD 0 ?_;refine PD 1 ?_;refine FD 2 1068 bo xg ?_;refine PD 3 ?_;refine PD 4 ?_;refine FD 5 0 bo aQ ?_;refine ta 6 rfl (dy (v:=(.int .i64 ((cd V.toDk (bT V.toDk s)).id))) rfl Y3 rfl rfl (λ_ h=>h.2.1) (λa_=>(cN _ rfl))) ?_;refine cX [7,8] (by kernel_rfl) rfl (aH rfl ?_ ?_);refine CE JR (Leg.Does.hid (λa_=>lJ r 1068 123 _ (ii ((cd V.toDk (bT V.toDk s)).rep a_)) (cd V.toDk (bT V.toDk s)).book ((cd V.toDk (bT V.toDk s)).id))) ID ?_;refine EN (AL 8 ?_);refine XZ uB (ints RowT.zero.flat) λb4=>?_
 refine EN (AL 9 ?_);refine SW 0 bg ah ?_;refine EN (DN ?_)
 exact aF
  SB
  (λ_ s=>ak [1,0] rfl s)
  (tl13 ((b4):(Nat)) trivial)
 refine aH rfl ?_ ?_;refine XZ uB (ints RowT.zero.flat) λb4=>?_
 refine EN (AL 7 ?_);refine CE JR (Leg.Does.hid (λa_=>lJ r 1068 123 _ (ii ((cd V.toDk (bT V.toDk s)).rep a_)) (cd V.toDk (bT V.toDk s)).book ((cd V.toDk (bT V.toDk s)).id))) (SM [1]) ?_;refine EN (AL 9 ?_);refine SW 1 bg ah ?_;refine EN (DN ?_)
 exact aF
  SB
  (λ_ s=>ak [0,0] rfl s)
  (tl13 ((b4):(Nat)) trivial)
 exact bM;refine EN (PD 9 ?_);refine DN (ac J6 (CY (aj (af (WK [0] (dW rfl ?_))))));exact MQ (by rw[gU,if_neg (by rw[h42];decide)]);refine sr λ_ J15=>P2 ?_
 refine FA 2 bo bm ?_;refine FA 2 eX aQ ?_;refine LG 0 Y3 (.int .i64 (((bT V.toDk s).view).epoch)) ?_ (hc:=by exact λa_=>(cn ((bT V.toDk s).rep a_) 0 rfl (by decide) (aZ _ rfl)));refine PS ?_;refine ao ?_ ?_<;>intro h26;refine nx J15 (CY (ae (P4 ?_)));refine FA 2 bo bm ?_;refine LZ 0 eX bm an ((bT V.toDk s).view) ?_ (hc:=by exact λ_=>c7 _);refine CZ Kf (nL V r (bT V.toDk s) ((bT V.toDk s).view)) ID λvR=>?_
 refine au ?_
 exact aF
  SB
  (λ_ q=>by
   rw[cd,if_pos h26]
   exact ak [0] rfl q)
  (tl4 (():Unit) trivial)
 refine nx J15 (CN (aU ?_))
 exact aF
  SB
  (λ_ q=>by
   rw[cd,if_neg h26]
   exact ak [0] rfl q)
  (tl4 (():Unit) trivial)
 refine sr λ_ J16=>P2 ?_
 refine FA 1938 bo lP ?_;refine LG 0 Y4 (.bool (s.busy)) ?_ (hc:=by exact λa_=>(zw _ rfl));refine bf ?_ ?_<;>intro h11;refine nx J16 (CY (ae (P2 ?_)));refine CZ Kh (oL V r s) ID λvR=>?_
 refine au ?_
 exact aF
  SB
  (λ_ q=>by
   rw[if_pos h11]
   exact ak [0] rfl q)
  (tl1 (():Unit) trivial)
 refine nx J16 (CN (aU ?_))
 exact aF
  SB
  (λ_ q=>by
   rw[if_neg (by rw[h11];decide)]
   exact ak [0] rfl q)
  (tl1 (():Unit) trivial)
theorem ET{δ:Type}(V:Env δ)(r:Nat)(s:MS δ)[OkR V.toDk s]:DT 60 #[.pointer (some ⟨r,0,none⟩), .iface V.T V.ov] T0 [cQ V r s] (dB (λ_ H=>H=[cQ V r (gU V.toDk s)])):=by
 cases hv:(gj V.toDk (cd V.toDk (bT V.toDk s))).vote with
 |none=>exact EV V r s hv
 |some vt=>exact EU V r s vt hv
abbrev EH{δ:Type}(lg r:Nat)(s:MS δ):HP:=hid r (λ_:Unit=>RepT.cells (s.rep ⟨lg, .pointer none, .slice none 0 0⟩)) 123 (λ_=>[])
theorem wi{δ:Type}(lg r:Nat)(s:MS δ)(v:ViewT):
 DT 93 #[(.pointer (some ⟨r,0,none⟩)),(.agg (ints v.flat).toArray)] T0 [EH lg r s] (dB (λ_ H=>H=[EH lg r (lG s v)])):=by
 refine BD 20 Tryz.func93 rfl rfl rfl λw0 F hF=>sr λ_ J1=>XY (ints v.flat) λb3=>?_
 refine nx J1 (sr λ_ J2=>PS ?_);refine LW 0 eX bm an ?_;refine PS ?_;refine FA 2 bo bm ?_;refine iw (vs:=ints v.flat) (i:=1) (ab rfl) rfl rfl rfl rfl rfl (by rw[(an v)];exact bm) (bF _) rfl rfl (λ_=>LC (c8 _) (an _)) (λa_=>(Q8 (s.rep ⟨lg, .pointer none, .slice none 0 0⟩) 0 rfl (by have h1:=(an v);omega) (cy ((an ((s.rep ⟨lg, .pointer none, .slice none 0 0⟩).view)).trans (an v).symm)))) (nx J2 (sr λ_ J3=>PS ?_));refine FA 0 eX aQ ?_;refine LU 0 Y3 (aZ v rfl) ?_;refine tp (lY AccT.zero (AccT.mk v.epoch BallotT.zero BallotT.zero ChangeT.zero) [(0,[Value.int .i64 v.epoch])] jB pC (g:=AccT.sg)) ?_;refine PS ?_;refine FA 1058 bo dM ?_;refine iw (vs:=ints (AccT.mk v.epoch BallotT.zero BallotT.zero ChangeT.zero).flat) (i:=1) (ab rfl) rfl rfl rfl rfl rfl (by rw[(bi (AccT.mk v.epoch BallotT.zero BallotT.zero ChangeT.zero))];exact dM) (bF _) rfl rfl (λ_=>LC (c8 _) (bi _)) (λa_=>(li ((MS.setView s v).rep ⟨lg, .pointer none, .slice none 0 0⟩) 0 rfl (by have h1:=(bi (AccT.mk v.epoch BallotT.zero BallotT.zero ChangeT.zero));omega) (cy ((bi (((MS.setView s v).rep ⟨lg, .pointer none, .slice none 0 0⟩).acc)).trans (bi (AccT.mk v.epoch BallotT.zero BallotT.zero ChangeT.zero)).symm)))) (nx J3 (sr λ_ J4=>P2 ?_));refine FA 1067 bo jL ?_;refine SK 1 jL (λ_=>c8 _) ?_ (hc:=by exact λa_=>(Q9 _ rfl _));refine nx J4 (ae (P2 ?_));refine FA 1066 bo aQ ?_;refine SK 1 aQ (λ_=>c8 _) ?_ (hc:=by exact λa_=>(mH _ rfl _))
 exact au (WK [1] (bG rfl rfl))
theorem y5{δ:Type}(lg r:Nat)(s:MS δ)(m:RecT)(hw:WF m.row.flat):
 DT 94 #[(.pointer (some ⟨r,0,none⟩)),(.agg (ints m.flat).toArray)] T0 [EH lg r s] (dB (λ_ H=>H=[EH lg r (iN s m)])):=by
 refine BD 93 Tryz.func94 rfl rfl rfl λw0 F hF=>sr λ_ J1=>XY (ints m.flat) λb3=>?_
 refine nx J1 (sr λ_ J2=>FA 0 jD aQ ?_);refine LU 0 Y3 (lj m rfl) ?_;refine nx J2 (aq (sr λ_ J3=>PS ?_));refine ao ?_ ?_<;>intro h7;refine PS ?_;refine nx J3 (CY (ae (P3 ?_)));refine FA 2 jD bg ?_;refine LV 0 dV bg ah RecT.sp_row (y:=m.row) ?_;refine PS ?_;refine FA 9 bo bg ?_;refine iw (vs:=ints m.row.flat) (i:=1) (ab rfl) rfl rfl rfl rfl rfl (by rw[(ah m.row)];exact bg) (bF _) rfl rfl (λ_=>LC (c8 _) (ah _)) (λa_=>(Ru (s.rep ⟨lg, .pointer none, .slice none 0 0⟩) 0 rfl (by have h1:=(ah m.row);omega) (cy ((ah ((s.rep ⟨lg, .pointer none, .slice none 0 0⟩).own)).trans (ah m.row).symm)))) (PS ?_);refine FA 1938 bo lP ?_;refine SK 1 lP (λ_=>c8 _) ?_ (hc:=by exact λa_=>(Rb _ rfl _));refine PS ?_;refine FA 1939 bo aQ ?_;refine SK 1 aQ (λ_=>c8 _) ?_ (hc:=by exact λa_=>(Ra _ rfl _));refine au (ag (WK [1] (bG rfl ?_)));exact congrArg (λq=>[EH lg r q]) (show(MS.setKept (MS.setBusy (MS.setOwn s m.row) true) 0)=iN s m by rw[iN,if_pos h7]<;>rfl);refine PS ?_;refine nx J3 (CN (sr λ_ J4=>PS ?_));refine ao ?_ ?_<;>intro h20;refine PS ?_;refine nx J4 (CY (D1 0 bp ?_));refine PD 0 ?_;refine PD 1 ?_;refine FD 2 183 bo o9 ?_;refine FD 3 1 jD aQ ?_;refine LR 4 Y3 (Hd m rfl) ?_;refine FD 5 2 jD bg ?_;refine ta 6 rfl (aO (vs:=ints m.row.flat) rfl dV rfl bg rfl (λ_ h=>h.2.1) (ah m.row) (sR m 0 rfl (by decide) (whole (ah m.row)))) ?_;refine AL 7 ?_
 refine CE M2 (Leg.Does.hid (λa_=>tR r 183 123 _ (el (s.rep ⟨lg, .pointer none, .slice none 0 0⟩)) s.mirror m.whose m.row hw)) (SM [1]) ?_;refine EN (DN (ag (WK [0] (bG rfl ?_))));exact congrArg (λq=>[EH lg r q]) (show(hZ s m.whose m.row)=iN s m by rw[iN,if_neg h7,if_pos h20]<;>rfl);refine PS ?_;refine nx J4 (CN (sr λ_ J5=>PS ?_));refine ao ?_ ?_<;>intro h30;refine PS ?_;refine nx J5 (CY (D1 0 bp ?_));refine PD 0 ?_;refine PD 1 ?_;refine FD 2 183 bo o9 ?_;refine FD 3 1 jD aQ ?_;refine LR 4 Y3 (Hd m rfl) ?_;refine AL 5 ?_;refine CE M1 (Leg.Does.hid (λa_=>tP r 183 123 _ (el (s.rep ⟨lg, .pointer none, .slice none 0 0⟩)) s.mirror m.whose)) (SM [1]) ?_;refine EN (DN (ag (WK [0] (bG rfl ?_))));exact congrArg (λq=>[EH lg r q]) (show(jY s m.whose)=iN s m by rw[iN,if_neg h7,if_neg h20,if_pos h30]<;>rfl);refine PS ?_;refine nx J5 (CN (sr λ_ J6=>PS ?_));refine ao ?_ ?_<;>intro h38;refine PS ?_;refine nx J6 (CY (sr λ_ J7=>PS ?_));refine FA 177 jD cI ?_;refine LV 0 kW cI ap RecT.sp_ballot (y:=m.ballot) ?_;refine PS ?_;refine FA 1058 bo dM ?_;refine FA 1059 jB cI ?_
 refine iw (vs:=ints m.ballot.flat) (i:=1) (ab rfl) rfl rfl rfl rfl rfl (by rw[(ap m.ballot)];exact cI) (bF _) rfl rfl (λ_=>LC (c8 _) (ap _)) (λa_=>(li (s.rep ⟨lg, .pointer none, .slice none 0 0⟩) 1 rfl (by have h1:=(ap m.ballot);omega) (RA ((s.rep ⟨lg, .pointer none, .slice none 0 0⟩).acc) 0 rfl (by have h1:=(ap m.ballot);omega) (cy ((ap (((s.rep ⟨lg, .pointer none, .slice none 0 0⟩).acc).vow)).trans (ap m.ballot).symm))))) (nx J7 (D1 0 bp ?_));refine PD 0 ?_;refine PD 1 ?_;refine PD 2 ?_;refine FD 3 1066 bo aQ ?_;refine FD 5 177 jD cI ?_;refine FD 6 177 kW aQ ?_;refine LX 7 Y3 (.int .i64 (m.ballot.round)) ?_ (hc:=by exact RecT.pt_ballot m 0 rfl (by decide) (fF m.ballot rfl));refine AL 4 ?_;refine LG 1 Y3 (.int .i64 (s.round)) ?_ (hc:=by exact λa_=>(wE _ rfl));refine EN (ta 8 rfl (sS rfl rfl rfl) ?_);refine PD 9 ?_;refine FD 10 1066 bo aQ ?_;refine AL 11 ?_;refine SK 1 aQ (λ_=>c8 _) ?_ (hc:=by exact λa_=>(mH _ rfl _));refine EN (DN (ag (WK [1] (bG rfl ?_))));exact congrArg (λq=>[EH lg r q]) (show(MS.setRound (MS.setAcc s (AccT.mk s.acc.epoch m.ballot s.acc.had s.acc.change)) (max s.round m.ballot.round))=iN s m by rw[iN,if_neg h7,if_neg h20,if_neg h30,if_pos h38]<;>rfl);refine PS ?_;refine nx J6 (CN (sr λ_ J8=>PS ?_));refine ao ?_ ?_<;>intro h57;refine PS ?_;refine nx J8 (CY (aa λ_ J9=>D1 0 bp ?_));refine PD 0 ?_;refine PD 1 ?_;refine PD 2 ?_;refine FD 3 177 jD cI ?_
 refine ta 4 rfl (aO (vs:=ints m.ballot.flat) rfl kW rfl cI rfl (λ_ h=>h.2.1) (ap m.ballot) (rG m 0 rfl (by decide) (whole (ap m.ballot)))) ?_;refine FD 5 177 jD cI ?_;refine ta 6 rfl (aO (vs:=ints m.ballot.flat) rfl kW rfl cI rfl (λ_ h=>h.2.1) (ap m.ballot) (rG m 0 rfl (by decide) (whole (ap m.ballot)))) ?_;refine FD 7 179 jD gg ?_;refine ta 8 rfl (aO (vs:=ints m.change.flat) rfl n9 rfl gg rfl (λ_ h=>h.2.1) (aM m.change) (N6 m 0 rfl (by decide) (whole (aM m.change)))) ?_;refine PD 9 ?_;refine FD 10 1058 bo dM ?_;refine FD 11 1059 jB cI ?_;refine AL 12 ?_;refine iw (vs:=ints m.ballot.flat) (i:=1) (ab rfl) rfl rfl rfl rfl rfl (by rw[(ap m.ballot)];exact cI) (bF _) rfl rfl (λ_=>LC (c8 _) (ap _)) (λa_=>(li (s.rep ⟨lg, .pointer none, .slice none 0 0⟩) 1 rfl (by have h1:=(ap m.ballot);omega) (RA ((s.rep ⟨lg, .pointer none, .slice none 0 0⟩).acc) 0 rfl (by have h1:=(ap m.ballot);omega) (cy ((ap (((s.rep ⟨lg, .pointer none, .slice none 0 0⟩).acc).vow)).trans (ap m.ballot).symm))))) (EN (PD 13 ?_));refine FD 14 1058 bo dM ?_;refine FD 15 1061 jB cI ?_;refine AL 16 ?_
 refine iw (vs:=ints m.ballot.flat) (i:=1) (ab rfl) rfl rfl rfl rfl rfl (by rw[(ap m.ballot)];exact cI) (bF _) rfl rfl (λ_=>LC (c8 _) (ap _)) (λa_=>(li ((MS.setAcc s (AccT.mk s.acc.epoch m.ballot s.acc.had s.acc.change)).rep ⟨lg, .pointer none, .slice none 0 0⟩) 3 rfl (by have h1:=(ap m.ballot);omega) (AccT.wr_had_ (((MS.setAcc s (AccT.mk s.acc.epoch m.ballot s.acc.had s.acc.change)).rep ⟨lg, .pointer none, .slice none 0 0⟩).acc) 0 rfl (by have h1:=(ap m.ballot);omega) (cy ((ap ((((MS.setAcc s (AccT.mk s.acc.epoch m.ballot s.acc.had s.acc.change)).rep ⟨lg, .pointer none, .slice none 0 0⟩).acc).had)).trans (ap m.ballot).symm))))) (EN (PD 17 ?_));refine FD 18 1058 bo dM ?_;refine FD 19 1063 jB gg ?_;refine AL 20 ?_;refine iw (vs:=ints m.change.flat) (i:=1) (ab rfl) rfl rfl rfl rfl rfl (by rw[(aM m.change)];exact gg) (bF _) rfl rfl (λ_=>LC (c8 _) (aM _)) (λa_=>(li ((MS.setAcc s (AccT.mk s.acc.epoch m.ballot m.ballot s.acc.change)).rep ⟨lg, .pointer none, .slice none 0 0⟩) 5 rfl (by have h1:=(aM m.change);omega) (AccT.wr_change_ (((MS.setAcc s (AccT.mk s.acc.epoch m.ballot m.ballot s.acc.change)).rep ⟨lg, .pointer none, .slice none 0 0⟩).acc) 0 rfl (by have h1:=(aM m.change);omega) (cy ((aM ((((MS.setAcc s (AccT.mk s.acc.epoch m.ballot m.ballot s.acc.change)).rep ⟨lg, .pointer none, .slice none 0 0⟩).acc).change)).trans (aM m.change).symm))))) (EN (DN (ac J9 (D1 0 bp ?_))));refine PD 0 ?_;refine PD 1 ?_;refine PD 2 ?_
 refine FD 3 1066 bo aQ ?_;refine FD 5 177 jD cI ?_;refine FD 6 177 kW aQ ?_;refine LX 7 Y3 (.int .i64 (m.ballot.round)) ?_ (hc:=by exact RecT.pt_ballot m 0 rfl (by decide) (fF m.ballot rfl));refine AL 4 ?_;refine LG 1 Y3 (.int .i64 (s.round)) ?_ (hc:=by exact λa_=>(wE _ rfl));refine EN (ta 8 rfl (sS rfl rfl rfl) ?_);refine PD 9 ?_;refine FD 10 1066 bo aQ ?_;refine AL 11 ?_;refine SK 1 aQ (λ_=>c8 _) ?_ (hc:=by exact λa_=>(mH _ rfl _));refine EN (DN (ag (WK [1] (bG rfl ?_))));exact congrArg (λq=>[EH lg r q]) (show(MS.setRound (MS.setAcc s (AccT.mk s.acc.epoch m.ballot m.ballot m.change)) (max s.round m.ballot.round))=iN s m by rw[iN,if_neg h7,if_neg h20,if_neg h30,if_neg h38,if_pos h57]<;>rfl);refine PS ?_;refine nx J8 (CN (sr λ_ J10=>PS ?_));refine ao ?_ ?_<;>intro h88;refine PS ?_;refine nx J10 (CY (ae (PS ?_)));refine FA 182 jD bm ?_;refine LV 0 eX bm an RecT.sp_view (y:=m.view) ?_;refine CZ Nz (wi lg r s m.view) (SM [1]) λvR=>?_
 refine au (ag (WK [0] (bG rfl ?_)));exact congrArg (λq=>[EH lg r q]) (show(lG s m.view)=iN s m by rw[iN,if_neg h7,if_neg h20,if_neg h30,if_neg h38,if_neg h57,if_pos h88]<;>rfl);refine PS ?_;refine nx J10 (CN (aU (ag (WK [1] (bG rfl ?_)))));exact congrArg (λq=>[EH lg r q]) (show s=iN s m by rw[iN,if_neg h7,if_neg h20,if_neg h30,if_neg h38,if_neg h57,if_neg h88]<;>rfl)
theorem Mg{bs:List UInt8}(h: ¬(cW bs).2≠0):WF (cW bs).1.row.flat:=by
 rcases yz bs with⟨m,e,_,_,hw⟩|e
 · rw[e];exact hw
 · rw[e]at h;exact absurd (by decide) h
theorem CO{δ:Type}(e0:δ)(i:Int)(d:Nat)(D:DS)(hD:D.Ok)(hI:Wal.DS.In D)(hb:D.ws.length≤1000000):
 DT 55 #[(.int .i64 (i)),(.pointer (some ⟨d,0,none⟩))] T0 [dk d D] (dB (λr' H=>((bJ D).err≠0∧r'= .tuple #[.pointer none, .int .i64 (bJ D).err]∧H=[dk d (bJ D).D])∨((bJ D).err=0∧((iD (bJ D).recs (Bz i e0)=none∧r'= .tuple #[.pointer none, .int .i64 1]∧H=[dk d (bJ D).D])∨∃s r lg,iD (bJ D).recs (Bz i e0)=some s∧r'= .tuple #[.pointer (some ⟨r,0,none⟩), .int .i64 0]∧H=[EH lg r s,GY lg d (((bJ D).recs.length:Nat):Int) (bJ D).used,dk d (bJ D).D])))):=by
 refine BD 50 Tryz.func55 rfl rfl rfl λw0 F hF=>sr λ_ J1=>P2 ?_
 refine nx J1 (aa λ_ J2=>sr λ_ J3=>PS ?_);refine tp (jE rfl ut rfl rfl) ?_;refine nx J3 (CN (qx J2 (sr λ_ J4=>PS ?_)));refine CR QB (Ic d D hD hI hb) ID λvR HR hR=>?_
 rcases hR with⟨he,rfl,rfl⟩| ⟨he,lg,vr,rfl,rfl⟩
 refine P4 ?_;refine P3 ?_;refine nx J4 (aa λ_ J5=>sr λ_ J6=>P2 ?_);refine ao ?_ ?_<;>intro h23;refine nx J6 (CY (sr λ_ J7=>P3 ?_));exact nx J7 (aj (af (WK [0] (jr rfl rfl rfl (.inl ⟨he,rfl,rfl⟩)))))
 · exact absurd he h23
 change TL _ _ _ _ _ _ _ _ _ [am lg [(.pointer (some ⟨d,0,none⟩)),(.int .i64 ((((bJ D).recs.length:Nat):Int))),(.int .i64 ((bJ D).used))] 210,Qi vr (bJ D).recs,dk d (bJ D).D];refine zp (p:=qd vr (bJ D).recs.length∧vr.oneCell'=true) (λw m=>by obtain⟨h,_,_,hs⟩:=m;obtain⟨_,_,_,_,a,_⟩:=fl 1 (lb rfl) hs;exact vH a) (λ⟨hsl,hvr⟩=>P4 ?_);refine P3 ?_;refine nx J4 (aa λ_ J8=>sr λ_ J9=>P2 ?_);refine nx J9 (CN (qx J8 (sr λ_ J10=>P2 ?_)))
 refine tp (zz (cs:=RepT.cells (RepT.mk i (.pointer (some ⟨lg,0,none⟩)) ViewT.zero RowT.zero MirT.zero AccT.zero 0 (.pointer none) BookT.zero false 0 0 0 (.slice none 0 0) (#v[0,0,0,0,0]) (#v[RowT.zero,RowT.zero,RowT.zero,RowT.zero,RowT.zero]))) (segs:=[[Value.int .i64 0],[(.pointer none)],ints ViewT.zero.flat,ints RowT.zero.flat,MirT.cells MirT.zero,ints AccT.zero.flat,[Value.int .i64 0],[(.pointer none)],ints BookT.zero.flat,[Value.bool false],[Value.int .i64 0],[Value.int .i64 0],[Value.int .i64 0],[(.slice none 0 0)],ints (#v[0,0,0,0,0]).toList,ints ((#v[RowT.zero,RowT.zero,RowT.zero,RowT.zero,RowT.zero]).toList.flatMap RowT.flat)]) (res:=[[Value.int .i64 i],[(.pointer (some ⟨lg,0,none⟩))],ints ViewT.zero.flat,ints RowT.zero.flat,MirT.cells MirT.zero,ints AccT.zero.flat,[Value.int .i64 0],[(.pointer none)],ints BookT.zero.flat,[Value.bool false],[Value.int .i64 0],[Value.int .i64 0],[Value.int .i64 0],[(.slice none 0 0)],ints (#v[0,0,0,0,0]).toList,ints ((#v[RowT.zero,RowT.zero,RowT.zero,RowT.zero,RowT.zero]).toList.flatMap RowT.flat)]) (parts:=[(0,[Value.int .i64 i]),(1,[(.pointer (some ⟨lg,0,none⟩))])]) rfl rfl bo (by kernel_rfl) (by kernel_rfl) rfl (fH rfl rfl (fH rfl ((rfl:[(.pointer (some ⟨lg,0,none⟩))].length=1).trans (rfl:[(.pointer none)].length=1).symm) mq)) (eP (RepT.mk i (.pointer (some ⟨lg,0,none⟩)) ViewT.zero RowT.zero MirT.zero AccT.zero 0 (.pointer none) BookT.zero false 0 0 0 (.slice none 0 0) (#v[0,0,0,0,0]) (#v[RowT.zero,RowT.zero,RowT.zero,RowT.zero,RowT.zero]))).symm) ?_
 refine XY (RepT.cells (RepT.mk i (.pointer (some ⟨lg,0,none⟩)) ViewT.zero RowT.zero MirT.zero AccT.zero 0 (.pointer none) BookT.zero false 0 0 0 (.slice none 0 0) (#v[0,0,0,0,0]) (#v[RowT.zero,RowT.zero,RowT.zero,RowT.zero,RowT.zero]))) λb28=>?_
 refine PS ?_;refine nx J10 (sr λ_ J11=>cJ (H':=EH lg b28 (Gp i e0)::[am lg [(.pointer (some ⟨d,0,none⟩)),(.int .i64 ((((bJ D).recs.length:Nat):Int))),(.int .i64 ((bJ D).used))] 210,Qi vr (bJ D).recs,dk d (bJ D).D]) (λ_ q=>br (p:=λ_:Unit=>[am b28 (RepT.cells ((Gp i e0).rep ⟨lg, .pointer none, .slice none 0 0⟩)) 123]) () (aD [0] rfl q)) (PS ?_));refine CE NR (sI) ID ?_;refine CZ Nz (wi lg b28 (Gp i e0) firstV) ID λvR=>?_
 refine nx J11 (aa λ_ J12=>sr λ_ J13=>PS ?_);refine tp (ef rfl wB rfl hsl) ?_;refine PS ?_;refine nx J13 (aq ?_)
 refine bA (α:=(Nat)×(MS δ)) (λ⟨k,s⟩=>k≤(bJ D).recs.length∧iD (bJ D).recs (Bz i e0)=iD ((bJ D).recs.drop k) s) (λ⟨k,s⟩=>[(9,(.pointer (some ⟨b28,0,none⟩))),(32,vr),(33,(.int .i64 ((((bJ D).recs.length:Nat):Int)))),(34,(.int .i64 (((k:Nat):Int))))]) (λ⟨k,s⟩=>[EH lg b28 s,am lg [(.pointer (some ⟨d,0,none⟩)),(.int .i64 ((((bJ D).recs.length:Nat):Int))),(.int .i64 ((bJ D).used))] 210,Qi vr (bJ D).recs,dk d (bJ D).D]) (λ⟨k,s⟩=>(bJ D).recs.length-k) (0,(Bz i e0))
  ⟨aN _,rfl⟩ SB
  (λ_ s=>ak [0,0,0,0] rfl s) (λ⟨k,s⟩ hinv=>?_)
 obtain⟨hk,hrs⟩:=hinv;refine sr λ_ J14=>PS ?_
 refine ao ?_ ?_<;>intro h35;refine cJ (λ_ s=>aD [2] rfl s) (Ng (λus=>?_));change TL _ _ _ _ _ _ _ _ _ [own vr ((bJ D).recs.length) (us) 93 1,eQ us (bJ D).recs 5,EH lg b28 s,am lg [(.pointer (some ⟨d,0,none⟩)),(.int .i64 ((((bJ D).recs.length:Nat):Int))),(.int .i64 ((bJ D).used))] 210,dk d (bJ D).D];refine zp (p:=us.length=(bJ D).recs.length*1) (λw m=>m.own_len (i:=0) (lb rfl) rfl) (λhul=>?_);rw[gp]at hul;have hkl:k< (bJ D).recs.length:=by omega
 refine j5 0 rfl rfl (by omega) (λg cap hv hcap=>?_);have hvq:vr= .slice (some ⟨g,0,none⟩) (bJ D).recs.length cap:=hv;refine nx J14 (aa λ_ J15=>CY (qx J15 (aa λ_ J16=>aq (sr λ_ J17=>tp (bU (r:=k) hv rfl wB oM rfl rfl (by omega) (by omega) (by omega)) ?_))));refine tp (dr (v:=(us.getD k undef)) rfl ic rfl rfl (gC 0 rfl hvq rfl) (by simp[List.getD_eq_getElem?_getD,show k<us.length by omega])) ?_;refine PS ?_;refine nx J17 (sr λ_ J18=>PS ?_);refine CF QR (ww (us.getD k undef) (bJ D).recs[k]) ID (λg d s=>vd 1 hkl rfl rfl g d s) ?_;refine P3 ?_;refine XZ Oi (ints RecT.zero.flat) λb12=>?_
 refine SW 0 jK bw ?_;refine PS ?_;refine nx J18 (aa λ_ J19=>sr λ_ J20=>P2 ?_);refine ao ?_ ?_<;>intro h44;refine nx J20 (CY (sr λ_ J21=>P2 ?_));exact nx J21 (aj (af (aL (af (af (aL (af (WK [5] (jr rfl rfl rfl (.inr ⟨he, .inl ⟨hrs.trans (HS hkl h44),rfl,rfl⟩⟩))))))))));refine nx J20 (CN (qx J19 (ae (PS ?_))));refine LW 0 jD jK bw ?_;refine CZ QA (y5 lg b28 s (cW (bJ D).recs[k]).1 (Mg h44)) (SM [3]) λvR=>?_
 refine au (ag (ac J16 (ae (AD ?_))));refine PS ?_;refine au ?_
 exact aK ((k+1,(iN s (cW (bJ D).recs[k]).1)):(Nat)×(MS δ)) ⟨by omega,hrs.trans (JD hkl h44)⟩ (by show(bJ D).recs.length- (k+1)< (bJ D).recs.length-k;omega)
  SB
  (λ_ s=>aD [1,1,0,0] rfl (br (p:=λus:List Value=>[own vr (bJ D).recs.length us 93 1,eQ us (bJ D).recs 5]) us (ak [2,2,0,1,1] rfl s)))
 refine nx J14 (aa λ_ J22=>CN (aX (aA (aA (bu (ac J12 (sr λ_ J23=>P3 ?_)))))));refine nx J23 (aj (WK [0,0,1] (jr rfl rfl rfl ?_)));exact .inr ⟨he, .inr ⟨s,b28,lg,by rw[hrs,co (by omega)];rfl,rfl,rfl⟩⟩
def lm(k:Nat)(m:MsgT):List UInt8:=jW ((k / 5:Nat):Int) ((k%5:Nat):Int) (cq m)
def cV(W:List (List MsgT)):List (List (List UInt8)):=(List.range 25).map λk=>(W.getD k []).map (lm k)
theorem qA(W:List (List MsgT)):(cV W).length=25:=by simp[cV]
theorem oj(W:List (List MsgT)){k:Nat}(h:k<25):(cV W).getD k []=(W.getD k []).map (lm k):=by simp[cV,h,List.getD_eq_getElem?_getD]
theorem w6(W:List (List MsgT)){k:Nat}(h:k<25)(hW:W.length=25)(l:List MsgT):(cV W).set k (l.map (lm k))=cV (W.set k l):=by
 refine List.ext_getElem? λj=>?_
 by_cases hj:j=k
 · subst hj
   rw[List.getElem?_set_self (by rw[qA];exact h)];simp[cV,h,List.getD_eq_getElem?_getD,List.getElem?_set_self (show j<W.length by omega)]
 · rw[List.getElem?_set_ne (λe=>hj e.symm)]
   unfold cV;rw[List.getElem?_map,List.getElem?_map]
   by_cases hk:j<25
   · simp[hk,List.getD_eq_getElem?_getD,List.getElem?_set_ne (λe=>hj e.symm)]
   · simp[hk]
theorem Cr{f t:Int}(hf:je f=true)(ht:je t=true)(m:MsgT):lm (bC f t) m=jW f t (cq m):=by
 have h1:0≤f∧f<5:=of_decide_eq_true hf;have h2:0≤t∧t<5:=of_decide_eq_true ht;unfold lm bC;rw[show(((f.toNat*5+t.toNat) / 5:Nat):Int)=f by omega,show(((f.toNat*5+t.toNat)%5:Nat):Int)=t by omega]
theorem tk{f t:Int}(h:dx f t=true):je f=true∧je t=true:=by
 unfold dx at h;rw[av,av]at h;exact h.1
theorem Jc{W:List (List MsgT)}(hW:W.length=25){f:Nat}(s:SaidT):pU (cV W) ((f:Nat):Int) s.to' (jW ((f:Nat):Int) s.to' (cq s.msg))=cV (qP W f s):=by
 unfold pU qP;cases hv:dx ((f:Nat):Int) s.to'
 · rfl
 · obtain⟨h1,h2⟩:=iZ hv
   obtain⟨h3,h4⟩:=tk hv;rw[if_pos rfl,if_pos rfl,oj W h1,←Cr h3 h4,←w6 W h1 hW];unfold Bq;rw[cf];split
   · rw[de];rfl
   · rfl
theorem JH(W:List (List MsgT))(f:Nat)(s:SaidT):(qP W f s).length=W.length:=by unfold qP;split<;>simp
theorem Hy(W:List (List MsgT))(f:Nat)(l:List SaidT):(it W f l).length=W.length:=by
 induction l generalizing W with
 |nil=>rfl
 |cons s l ih=>exact(ih _).trans (JH _ _ _)
theorem Hz(W:List (List MsgT))(f:Nat)(l:List SaidT)(s:SaidT):it W f (l++[s])=qP (it W f l) f s:=by simp[it]
theorem w5(k:Nat)(m:MsgT):(lm k m).length≤1000000:=by
 unfold lm;rw[sH];have:=tZ m;omega
theorem xN(c:Nat)(w:Int):
 DT 56 #[(.pointer (some ⟨c,0,none⟩)),(.int .i64 (w))] T0 [] (RI (.bool (je w)) []):=by
 refine BD 15 Tryz.func56 rfl rfl rfl λw0 F hF=>sr λ_ J1=>PS ?_
 refine nx J1 (sr λ_ J2=>PS ?_);refine tp (gd rfl PK rfl rfl) ?_;refine P3 ?_;refine ao ?_ ?_<;>intro h9
 iterate 6 refine PS ?_
 refine nx J2 (aj (WK [] (aw rfl rfl ?_)));exact⟨congrArg Value.bool (by unfold je;simp only[decide_eq_decide];omega),rfl⟩;refine P2 ?_;refine UF ?_;refine UF ?_;refine P2 ?_;refine nx J2 (aj (WK [] (aw rfl rfl ?_)));exact⟨congrArg Value.bool (by unfold je;symm;exact decide_eq_false (by omega)),rfl⟩
theorem eb(c i:Nat)(hi:i<5):DT 56 #[.pointer (some ⟨c,0,none⟩), .int .i64 ((i:Nat):Int)] T0 [] (RI (.bool true) []):=by
 have:=xN c ((i:Nat):Int)
 rwa [show je ((i:Nat):Int)=true from decide_eq_true ⟨by omega,by omega⟩]at this
theorem tn(c n i:Nat)(D M P:Nat→Value)(hi:i<5)(hM:M i= .pointer none):
 DT 16 #[(.pointer (some ⟨c,0,none⟩)),(.int .i64 (((i:Nat):Int)))] T0 [am c (eZ n D M P) 104] (RI (.bool false) [am c (eZ n D M P) 104]):=by
 refine BD 27 Tryz.func16 rfl rfl rfl λw0 F hF=>sr λ_ J1=>PS ?_
 refine nx J1 (sr λ_ J2=>P2 ?_);refine CE qQ (eb c i hi) ID ?_;refine P4 ?_;refine FA 6 jw pJ ?_;refine IX (6+i) rE iR ?_;refine LT 0 ql (.pointer none) ?_ (hc:=by exact(yB n D M P hi).trans (congrArg some hM));refine tq (iy rfl ql rfl rfl) ?_;refine P2 ?_
 iterate 8 refine UF ?_
 refine P2 ?_;exact nx J2 (aj (WK [0] (aw rfl rfl ⟨rfl,rfl⟩)))
theorem OB (c i : Nat) : yT Tryz.prog 110 (OA c i) "Send" 203 := fun w => by kernel_rfl
theorem tm(c n i:Nat)(D M P:Nat→Value)(hi:i<5)(d r:Nat)(e:DS)(hD:D i= .pointer (some ⟨d,0,none⟩))(hM:M i= .pointer (some ⟨r,0,none⟩)):
 DT 16 #[(.pointer (some ⟨c,0,none⟩)),(.int .i64 (((i:Nat):Int)))] T0 [am c (eZ n D M P) 104,dk d e] (RI (.bool (!e.dn)) [am c (eZ n D M P) 104,dk d e]):=by
 refine BD 27 Tryz.func16 rfl rfl rfl λw0 F hF=>sr λ_ J1=>PS ?_
 refine nx J1 (sr λ_ J2=>P2 ?_);refine CE qQ (eb c i hi) ID ?_;refine P4 ?_;refine FA 6 jw pJ ?_;refine IX (6+i) rE iR ?_;refine LT 0 ql (.pointer (some ⟨r,0,none⟩)) ?_ (hc:=by exact(yB n D M P hi).trans (congrArg some hM));refine tq (gd rfl ql rfl rfl) ?_
 iterate 5 refine PS ?_
 refine FA 1 jw tv ?_;refine IX (1+i) Cd p7 ?_;refine LT 0 ut (.pointer (some ⟨d,0,none⟩)) ?_ (hc:=by exact(Ef n D M P hi).trans (congrArg some hD));refine CE OL (G3 d e) (SM [1]) ?_;refine tq (px rfl rfl rfl) ?_;refine P2 ?_;exact nx J2 (aj (WK [1,0] (aw rfl rfl ⟨rfl,rfl⟩)))
theorem E7(c n i:Nat)(D M P:Nat→Value)(hi:i<5)(d:Nat)(e:DS)(hD:D i= .pointer (some ⟨d,0,none⟩))(W:List (List MsgT))(hW:W.length=25)(to':Int)(m:MsgT):
 DT 203 #[(.agg #[(.pointer (some ⟨c,0,none⟩)),(.int .i64 (((i:Nat):Int)))]),(.int .i64 (to')),(.agg (ints m.flat).toArray)] T0 [am c (eZ n D M P) 104,dk d e,eO 156 208 5 n (cV W)] (dB (λ_ H=>H=[am c (eZ n D M P) 104,dk d e,eO 156 208 5 n (cV (if e.dn then W else qP W i ⟨to',m⟩))])):=by
 refine BD 27 Tryz.func203 rfl rfl rfl λw0 F hF=>sr λ_ J1=>XB λb3=>?_
 refine XY (ints m.flat) λb5=>?_
 refine nx J1 (aa λ_ J2=>D2 1 2 dK ?_);refine FD 0 0 Gk Ot ?_;refine LX 1 PK (.pointer (some ⟨c,0,none⟩)) ?_ (hc:=by exact rfl);refine FD 2 1 Gk aQ ?_;refine LX 3 Y3 (.int .i64 (((i:Nat):Int))) ?_ (hc:=by exact rfl);refine PD 4 ?_;refine FD 5 1 jw tv ?_;refine IY 6 (1+i) Cd p7 ?_;refine LX 7 ut (.pointer (some ⟨d,0,none⟩)) ?_ (hc:=by exact(Ef n D M P hi).trans (congrArg some hD));refine AL 8 ?_;refine CE OL (G3 d e) (SM [3]) ?_;refine bf ?_ ?_<;>intro h14;refine EN (PD 9 ?_);refine DN (ac J2 (CN (aU (WK [3,0,2] (bG rfl ?_)))));exact by rw[show e.dn=true by assumption];rfl
 refine EN (PD 9 ?_);refine DN (ac J2 (CY (sO (λw=>Frm F w∧w.heap[b3]?=some (.cells ([(.pointer (some ⟨c,0,none⟩)),(.int .i64 (((i:Nat):Int)))]).toArray 110 (0,0))∧w.heap[c]?=some (.cells (eZ n D M P).toArray 104 (0,0))∧w.heap[b5]?=some (.cells (ints m.flat).toArray 178 (0,0))∧True) dK rfl (λ_ s=>⟨fN s,s.block 2 (lb rfl) rfl,s.block 3 (lb rfl) rfl,s.block 1 (lb rfl) rfl,trivial⟩) (FD 0 0 Gk Ot ?_))));refine LX 1 PK (.pointer (some ⟨c,0,none⟩)) ?_ (hc:=by exact rfl);refine PD 2 ?_;refine FD 3 0 jw A8 ?_;refine LX 4 KS (.pointer (some ⟨n,0,none⟩)) ?_ (hc:=by exact B1 n D M P);refine FD 5 1 Gk aQ ?_;refine LX 6 Y3 (.int .i64 (((i:Nat):Int))) ?_ (hc:=by exact rfl);refine PD 7 ?_;refine LY 8 bk cj aJ ?_;refine AL 9 ?_;refine CR OO (DW m) ID λvR HR hR=>?_
 obtain⟨_,rfl,rfl⟩:=hR;revert vR;intro ue;refine EN (AL 10 ?_);refine CQ OP (zd n (cV W) ((i:Nat):Int) to' ue (cq m) (tZ m) (qA W)) (SM [5]) (λg d s=>K7 (wO 0 rfl rfl g d s)) λvR HR hR=>?_
 obtain⟨_,rfl⟩:=hR;rw[Jc hW ⟨to',m⟩];refine EN (DN (WK [5,2,0] (bG rfl ?_)));exact by rw[show e.dn=false by assumption];rfl
def Ia(c n d i:Nat)(D M P:Nat→Value)(W:List (List MsgT))(e:LD)(l:List SaidT):HP:=bH [am c (eZ n D M P) 104,dk d e.D,eO 156 208 5 n (cV (it W i l))]
section
variable {c n d i:Nat} {D M P:Nat→Value} {W:List (List MsgT)} {e:LD} {l:List SaidT} {H:List HP} {h:Hl}
theorem uZ(s:bH (Ia c n d i D M P W e l::H) h):bH (am c (eZ n D M P) 104::dk d e.D::eO 156 208 5 n (cV (it W i l))::H) h:=(ck [_,_,_] H).2 s
theorem uY(s:bH (am c (eZ n D M P) 104::dk d e.D::eO 156 208 5 n (cV (it W i l))::H) h):bH (Ia c n d i D M P W e l::H) h:=(ck [_,_,_] H).1 s
end
def yp(c n d i:Nat)(D M P:Nat→Value)(hi:i<5)(hD:D i= .pointer (some ⟨d,0,none⟩))(W:List (List MsgT))(hW:W.length=25):Env LD where
 toDk:=KD
 T:=110
 ov:=OA c i
 sf:=203
 E:=Ia c n d i D M P W
 lg g e:=GY g d ((e.cnt:Nat):Int) e.used
 me:=OB c i
 nm:=OQ
 say e l to' m _:=by
  refine Leg.Does.conv (E7 c n i D M P hi d e.D hD (it W i l) (by rw[Hy];exact hW) to' m) (λh s=>uZ s) λx H F w hp hs=>?_
  cases x with
  |returned v=>
   obtain rfl:=hp;refine⟨_,hs.mono (λh s=>uY (l:=if KD.dn e then l else l++[SaidT.mk to' m]) ?_),rfl⟩
   have q:it W i (if KD.dn e then l else l++[SaidT.mk to' m])=if e.D.dn then it W i l else qP (it W i l) i ⟨to',m⟩:=by
    show it W i (if e.D.dn then l else _)=_;split
    · rfl
    · exact Hz ..
   rw[q];exact s
  |panicked c=>exact hp.elim
  |outgrown=>exact hp.elim
 put g x bs e l hok hlen:=by
  refine Leg.Does.withinR (A:=[GY g d ((e.cnt:Nat):Int) e.used,dk d e.D]) (B:=[am c (eZ n D M P) 104,eO 156 208 5 n (cV (it W i l))]) (Cu g d e.cnt e.used x bs e.D hok.dk.ok (by have:=hok.dk.ws;omega) hok.used (by have:=hok.cnt;have:=hok.used;omega)) (λF g h dj=>PT h dj) (λh s=>?_) λv H hp=>?_
  · exact aD [3,1,0,0] rfl (uZ (aD [1,0] rfl s))
  · obtain⟨hv,rfl⟩:=hp
    exact⟨[GY g d (((e.put bs).1.cnt:Nat):Int) (e.put bs).1.used,Ia c n d i D M P W (e.put bs).1 l],λh s=>aD [1,0] rfl (uY (e:=(e.put bs).1) (l:=l) (aD [2,1,1,0] rfl s)),hv,rfl⟩
abbrev ni(v:Value)(l:List ReplyT):HP:=own v l.length (ints (List.flatMap ReplyT.flat l)) 37 3
abbrev HH(s:MS LD)(d r:Nat)(a:Adr):List HP:=[am r (RepT.cells (s.rep a)) 123,GY a.lg d ((s.e.cnt:Nat):Int) s.e.used,ni a.rs s.replies,Gr a.vo s.vote]
abbrev fw(s:MS LD)(d r:Nat):HP:=pack (HH s d r)
def rD(x:Slot)(d r:Nat):HP:=match x.run with
 |some s=>fw s d r
 |none=>λ_=>True
abbrev la(x:Slot)(d r:Nat)(p:Value):List HP:=[dk d x.dk,ni p x.past,rD x d r]
def lv(x:Slot)(d r:Nat)(p:Value):HP:=bH (la x d r p)
structure CX where
 n:Nat
 d:Nat→Nat
 r:Nat→Nat
 p:Nat→Value
abbrev nu(g:CX):Nat→Value:=λi=> .pointer (some ⟨g.d i,0,none⟩)
def zc(x:Slot)(r:Nat):Value:=match x.run with
 |some _=> .pointer (some ⟨r,0,none⟩)
 |none=> .pointer none
abbrev kI(a:CL)(r:Nat→Nat):Nat→Value:=λi=>zc (a.at' i) (r i)
abbrev rR(c:Nat)(a:CL)(g:CX):List HP:=[am c (eZ g.n (nu g) (kI a g.r) g.p) 104,eO 156 208 5 g.n (cV a.W),bH ((List.range 5).map λi=>lv (a.at' i) (g.d i) (g.r i) (g.p i))]
def gq(c:Nat)(a:CL):HP:=pack (rR c a)
section
variable {c n d i r:Nat} {D M P:Nat→Value} {W:List (List MsgT)} {s:MS LD} {H:List HP} {h:Hl} {hi:i<5} {hD:D i= .pointer (some ⟨d,0,none⟩)} {hW:W.length=25}
theorem Ft(ho:s.o=[])(q:bH (am c (eZ n D M P) 104::dk d s.e.D::eO 156 208 5 n (cV W)::fw s d r::H) h):bH (cQ (yp c n d i D M P hi hD W hW) r s::H) h:=by
 obtain⟨a,q⟩:=fT (aD [3,0,0,0] rfl q);have q2:=aD [4,4,4,0,0,0,0] rfl q;have q3:=uY (i:=i) (W:=W) (e:=s.e) (l:=[]) q2;refine br (p:=λa:Adr=>[am r (RepT.cells (s.rep a)) 123,GY a.lg d ((s.e.cnt:Nat):Int) s.e.used,ni a.rs s.replies,Gr a.vo s.vote,Ia c n d i D M P W s.e s.o]) a ?_;rw[ho];exact aD [1,1,1,1,0] rfl q3
theorem BC(q:bH (cQ (yp c n d i D M P hi hD W hW) r s::H) h):bH (am c (eZ n D M P) 104::dk d s.e.D::eO 156 208 5 n (cV (it W i s.o))::fw s.hush d r::H) h:=by
 obtain⟨a,q⟩:=fT q;have q1:bH ([am r (RepT.cells (s.rep a)) 123,GY a.lg d ((s.e.cnt:Nat):Int) s.e.used,ni a.rs s.replies,Gr a.vo s.vote,Ia c n d i D M P W s.e s.o]++H) h:=q;have q2:=uZ (aD [4,0,0,0,0] rfl q1);have q3:=br (p:=HH s.hush d r) a (aD [3,3,3,3,0,0,0] rfl q2);exact aD [1,1,1,0] rfl q3
end
theorem FX(c n i:Nat)(D M P:Nat→Value)(hi:i<5)(d r:Nat)(s:MS LD)(hD:D i= .pointer (some ⟨d,0,none⟩))(hM:M i= .pointer (some ⟨r,0,none⟩))(W:List (List MsgT))(hW:W.length=25)(ho:s.o=[])(hs:OkR KD s)(o:OpT)(k:Int)(hk:0≤k∧k≤4)(hch:OkCh o.change)(hrs:s.replies.length≤1000000):
 DT 17 #[(.pointer (some ⟨c,0,none⟩)),(.agg (ints (OpT.mk k ((i:Nat):Int) o.to' o.key o.n o.change o.mask o.torn o.cut).flat).toArray)] T0 [am c (eZ n D M P) 104,dk d s.e.D,eO 156 208 5 n (cV W),fw s d r] (dB (λv H=>(s.e.D.dn=true∧v= .int .i64 4∧H=[am c (eZ n D M P) 104,dk d s.e.D,eO 156 208 5 n (cV (W)),fw s d r])∨(s.e.D.dn=false∧v= .int .i64 (ca KD s ((OpT.mk k ((i:Nat):Int) o.to' o.key o.n o.change o.mask o.torn o.cut))).2∧H=[am c (eZ n D M P) 104,dk d (ca KD s ((OpT.mk k ((i:Nat):Int) o.to' o.key o.n o.change o.mask o.torn o.cut))).1.hush.e.D,eO 156 208 5 n (cV (it W i (ca KD s ((OpT.mk k ((i:Nat):Int) o.to' o.key o.n o.change o.mask o.torn o.cut))).1.o)),fw (ca KD s ((OpT.mk k ((i:Nat):Int) o.to' o.key o.n o.change o.mask o.torn o.cut))).1.hush d r]))):=by
 refine BD 114 Tryz.func17 rfl rfl rfl λw0 F hF=>sr λ_ J1=>XY (ints (OpT.mk k ((i:Nat):Int) o.to' o.key o.n o.change o.mask o.torn o.cut).flat) λb3=>?_
 refine PS ?_;refine nx J1 (aa λ_ J2=>sr λ_ J3=>PS ?_);refine FA 1 gh aQ ?_;refine LT 0 Y3 (.int .i64 (((i:Nat):Int))) ?_ (hc:=by exact bQ _ rfl);refine CE qQ (eb c i hi) ID ?_;refine PS ?_;refine nx J3 (CN (qx J2 (aa λ_ J4=>sr λ_ J5=>FA 0 gh aQ ?_)));refine LT 0 Y3 (.int .i64 (k)) ?_ (hc:=by exact dh _ rfl);refine nx J5 (aq (aa λ_ J6=>fC (α:=Unit) (λ_u=>True) (λ_u=>[(0,(.pointer (some ⟨c,0,none⟩))),(3,(.pointer (some ⟨b3,0,none⟩))),(4,(.int .i64 0)),(11,(.int .i64 (k))),(12,(.bool true))]) (λ_u=>[am b3 (ints (OpT.mk k ((i:Nat):Int) o.to' o.key o.n o.change o.mask o.torn o.cut).flat) 30,am c (eZ n D M P) 104,dk d s.e.D,eO 156 208 5 n (cV W),fw s d r]) (λ_u hinv=>?_) (λtl6=>?_)));have _:=hinv;refine ac J6 (CY (aa λ_ J7=>sr λ_ J8=>PS ?_));refine FA 1 gh aQ ?_;refine LT 0 Y3 (.int .i64 (((i:Nat):Int))) ?_ (hc:=by exact bQ _ rfl);refine CE Dq (tm c n i D M P hi d r s.e.D hD hM) (SM [1,1]) ?_;refine bf ?_ ?_<;>intro h21;refine PS ?_;refine nx J8 (CN (qx J7 (aa λ_ J9=>D2 2 0 dK ?_)));refine PD 0 ?_;refine FD 1 1 gh aQ ?_;refine LX 2 Y3 (.int .i64 (((i:Nat):Int))) ?_ (hc:=by exact bQ _ rfl);refine PD 3 ?_;refine FD 4 6 jw pJ ?_;refine IY 5 (6+i) rE iR ?_;refine LX 6 ql (.pointer (some ⟨r,0,none⟩)) ?_ (hc:=by exact(yB n D M P hi).trans (congrArg some hM));refine PD 7 ?_;refine FD 8 1 gh aQ ?_
 refine LX 9 Y3 (.int .i64 (((i:Nat):Int))) ?_ (hc:=by exact bQ _ rfl);refine ta 10 rfl (kP (cells:=#[(.pointer (some ⟨c,0,none⟩)),(.int .i64 (((i:Nat):Int)))]) rfl rfl (by as_aux_lemma=>kernel_rfl)) ?_;refine ta 11 rfl (qn rfl Gk rfl rfl) ?_;refine LY 12 gh Cy KZ ?_;refine AL 13 ?_;refine cJ (H':=[cQ (yp c n d i D M P hi hD W hW) r s,am b3 (ints (OpT.mk k ((i:Nat):Int) o.to' o.key o.n o.change o.mask o.torn o.cut).flat) 30]) (λ_ q=>Ft ho (aD [0,0,1,1] rfl q)) (CE QM (@BZ _ (yp c n d i D M P hi hD W hW) r s ((OpT.mk k ((i:Nat):Int) o.to' o.key o.n o.change o.mask o.torn o.cut)) hs hch hrs) ID ?_);change TL _ _ _ _ _ _ _ _ _ [cQ (yp c n d i D M P hi hD W hW) r ((ca KD s ((OpT.mk k ((i:Nat):Int) o.to' o.key o.n o.change o.mask o.torn o.cut))).1),am b3 (ints (OpT.mk k ((i:Nat):Int) o.to' o.key o.n o.change o.mask o.torn o.cut).flat) 30];refine cJ (H':=[am c (eZ n D M P) 104,dk d (((ca KD s ((OpT.mk k ((i:Nat):Int) o.to' o.key o.n o.change o.mask o.torn o.cut))).1).e.D),eO 156 208 5 n (cV (it W i ((ca KD s ((OpT.mk k ((i:Nat):Int) o.to' o.key o.n o.change o.mask o.torn o.cut))).1).o)),fw (((ca KD s ((OpT.mk k ((i:Nat):Int) o.to' o.key o.n o.change o.mask o.torn o.cut))).1).hush) d r,am b3 (ints (OpT.mk k ((i:Nat):Int) o.to' o.key o.n o.change o.mask o.torn o.cut).flat) 30]) (λ_ q=>BC (s:=(ca KD s ((OpT.mk k ((i:Nat):Int) o.to' o.key o.n o.change o.mask o.torn o.cut))).1) q) (EN (PD 14 ?_))
 refine DN (ac J9 (aj (aL (af (WK [0,0,0,0] (aw rfl rfl ?_))))));exact .inr ⟨(by simpa using h21),rfl,rfl⟩;refine PS ?_;refine nx J8 (CY (sr λ_ J10=>PS ?_));refine nx J10 (aj (af (aL (af (WK [0,0,1,1] (aw rfl rfl ?_))))));exact .inl ⟨(by simpa using h21),rfl,rfl⟩;refine sr λ_ J11=>P2 ?_
 refine ao ?_ ?_<;>intro h12;refine nx J11 (CY (aU ?_))
 exact aF
  SB
  (λ_ s=>ak [0,0,0,0,0] rfl s)
  (tl6 (():Unit) trivial)
 refine nx J11 (CN (sr λ_ J12=>P2 ?_));refine ao ?_ ?_<;>intro h12;refine nx J12 (CY (aU ?_))
 exact aF
  SB
  (λ_ s=>ak [0,0,0,0,0] rfl s)
  (tl6 (():Unit) trivial)
 refine nx J12 (CN (sr λ_ J13=>P2 ?_));refine ao ?_ ?_<;>intro h12;refine nx J13 (CY (aU ?_))
 exact aF
  SB
  (λ_ s=>ak [0,0,0,0,0] rfl s)
  (tl6 (():Unit) trivial)
 refine nx J13 (CN (sr λ_ J14=>P2 ?_));refine ao ?_ ?_<;>intro h12;refine nx J14 (CY (aU ?_))
 exact aF
  SB
  (λ_ s=>ak [0,0,0,0,0] rfl s)
  (tl6 (():Unit) trivial)
 refine nx J14 (CN (ae (PS ?_)));refine ao ?_ ?_<;>intro h17;refine PS ?_;refine au ?_
 exact aF
  SB
  (λ_ s=>ak [0,0,0,0,0] rfl s)
  (tl6 (():Unit) trivial)
 · exact absurd h17 (by omega)
theorem D7(c n i:Nat)(D M P:Nat→Value)(hi:i<5)(hM:M i= .pointer none)(o:OpT)(k:Int)(hk:0≤k∧k≤4):
 DT 17 #[(.pointer (some ⟨c,0,none⟩)),(.agg (ints (OpT.mk k ((i:Nat):Int) o.to' o.key o.n o.change o.mask o.torn o.cut).flat).toArray)] T0 [am c (eZ n D M P) 104] (RI (.int .i64 4) [am c (eZ n D M P) 104]):=by
 refine BD 114 Tryz.func17 rfl rfl rfl λw0 F hF=>sr λ_ J1=>XY (ints (OpT.mk k ((i:Nat):Int) o.to' o.key o.n o.change o.mask o.torn o.cut).flat) λb3=>?_
 refine PS ?_;refine nx J1 (aa λ_ J2=>sr λ_ J3=>PS ?_);refine FA 1 gh aQ ?_;refine LT 0 Y3 (.int .i64 (((i:Nat):Int))) ?_ (hc:=by exact bQ _ rfl);refine CE qQ (eb c i hi) ID ?_;refine PS ?_;refine nx J3 (CN (qx J2 (aa λ_ J4=>sr λ_ J5=>FA 0 gh aQ ?_)));refine LT 0 Y3 (.int .i64 (k)) ?_ (hc:=by exact dh _ rfl);refine nx J5 (aq (aa λ_ J6=>fC (α:=Unit) (λ_u=>True) (λ_u=>[(0,(.pointer (some ⟨c,0,none⟩))),(3,(.pointer (some ⟨b3,0,none⟩))),(4,(.int .i64 0)),(11,(.int .i64 (k))),(12,(.bool true))]) (λ_u=>[am b3 (ints (OpT.mk k ((i:Nat):Int) o.to' o.key o.n o.change o.mask o.torn o.cut).flat) 30,am c (eZ n D M P) 104]) (λ_u hinv=>?_) (λtl6=>?_)));have _:=hinv;refine ac J6 (CY (aa λ_ J7=>sr λ_ J8=>PS ?_));refine FA 1 gh aQ ?_;refine LT 0 Y3 (.int .i64 (((i:Nat):Int))) ?_ (hc:=by exact bQ _ rfl);refine CE Dq (tn c n i D M P hi hM) (SM [1]) ?_;refine PS ?_;refine nx J8 (CY (sr λ_ J9=>PS ?_));exact nx J9 (aj (af (aL (af (WK [0] (aw rfl rfl ⟨rfl,rfl⟩))))));refine sr λ_ J10=>P2 ?_
 refine ao ?_ ?_<;>intro h12;refine nx J10 (CY (aU ?_))
 exact aF
  SB
  (λ_ s=>ak [0,0] rfl s)
  (tl6 (():Unit) trivial)
 refine nx J10 (CN (sr λ_ J11=>P2 ?_));refine ao ?_ ?_<;>intro h12;refine nx J11 (CY (aU ?_))
 exact aF
  SB
  (λ_ s=>ak [0,0] rfl s)
  (tl6 (():Unit) trivial)
 refine nx J11 (CN (sr λ_ J12=>P2 ?_));refine ao ?_ ?_<;>intro h12;refine nx J12 (CY (aU ?_))
 exact aF
  SB
  (λ_ s=>ak [0,0] rfl s)
  (tl6 (():Unit) trivial)
 refine nx J12 (CN (sr λ_ J13=>P2 ?_));refine ao ?_ ?_<;>intro h12;refine nx J13 (CY (aU ?_))
 exact aF
  SB
  (λ_ s=>ak [0,0] rfl s)
  (tl6 (():Unit) trivial)
 refine nx J13 (CN (ae (PS ?_)));refine ao ?_ ?_<;>intro h17;refine PS ?_;refine au ?_
 exact aF
  SB
  (λ_ s=>ak [0,0] rfl s)
  (tl6 (():Unit) trivial)
 · exact absurd h17 (by omega)
theorem FS(c n i:Nat)(D M P:Nat→Value)(hi:i<5)(d r:Nat)(s:MS LD)(hD:D i= .pointer (some ⟨d,0,none⟩))(hM:M i= .pointer (some ⟨r,0,none⟩))(W:List (List MsgT))(hW:W.length=25)(ho:s.o=[])(hs:OkR KD s)(o:OpT):
 DT 17 #[(.pointer (some ⟨c,0,none⟩)),(.agg (ints (OpT.mk 8 ((i:Nat):Int) o.to' o.key o.n o.change o.mask o.torn o.cut).flat).toArray)] T0 [am c (eZ n D M P) 104,dk d s.e.D,eO 156 208 5 n (cV W),fw s d r] (dB (λv H=>(s.e.D.dn=true∧v= .int .i64 4∧H=[am c (eZ n D M P) 104,dk d s.e.D,eO 156 208 5 n (cV (W)),fw s d r])∨(s.e.D.dn=false∧v= .int .i64 0∧H=[am c (eZ n D M P) 104,dk d (gU KD s).hush.e.D,eO 156 208 5 n (cV (it W i (gU KD s).o)),fw (gU KD s).hush d r]))):=by
 refine BD 114 Tryz.func17 rfl rfl rfl λw0 F hF=>sr λ_ J1=>XY (ints (OpT.mk 8 ((i:Nat):Int) o.to' o.key o.n o.change o.mask o.torn o.cut).flat) λb3=>?_
 refine PS ?_;refine nx J1 (aa λ_ J2=>sr λ_ J3=>PS ?_);refine FA 1 gh aQ ?_;refine LT 0 Y3 (.int .i64 (((i:Nat):Int))) ?_ (hc:=by exact bQ _ rfl);refine CE qQ (eb c i hi) ID ?_;refine PS ?_;refine nx J3 (CN (qx J2 (aa λ_ J4=>sr λ_ J5=>FA 0 gh aQ ?_)));refine LT 0 Y3 (.int .i64 8) ?_ (hc:=by exact dh _ rfl);refine nx J5 (aq (aa λ_ J6=>sr λ_ J7=>P2 ?_));refine nx J7 (CN (sr λ_ J8=>P2 ?_));refine nx J8 (CN (sr λ_ J9=>P2 ?_));refine nx J9 (CN (sr λ_ J10=>P2 ?_));refine nx J10 (CN (ae (P2 ?_)));refine nx J6 (CN (aa λ_ J11=>sr λ_ J12=>P2 ?_));refine nx J12 (CN (sr λ_ J13=>P2 ?_));refine nx J13 (CN (ae (P2 ?_)));refine nx J11 (CN (sr λ_ J14=>P2 ?_));refine nx J14 (CY (aa λ_ J15=>sr λ_ J16=>PS ?_));refine FA 1 gh aQ ?_;refine LT 0 Y3 (.int .i64 (((i:Nat):Int))) ?_ (hc:=by exact bQ _ rfl);refine CE Dq (tm c n i D M P hi d r s.e.D hD hM) (SM [1,1]) ?_;refine bf ?_ ?_<;>intro h49;refine PS ?_;refine nx J16 (CN (qx J15 (D2 2 0 dK ?_)));refine PD 0 ?_;refine FD 1 1 gh aQ ?_;refine LX 2 Y3 (.int .i64 (((i:Nat):Int))) ?_ (hc:=by exact bQ _ rfl);refine PD 3 ?_;refine FD 4 6 jw pJ ?_;refine IY 5 (6+i) rE iR ?_;refine LX 6 ql (.pointer (some ⟨r,0,none⟩)) ?_ (hc:=by exact(yB n D M P hi).trans (congrArg some hM));refine PD 7 ?_;refine FD 8 1 gh aQ ?_;refine LX 9 Y3 (.int .i64 (((i:Nat):Int))) ?_ (hc:=by exact bQ _ rfl)
 refine ta 10 rfl (kP (cells:=#[(.pointer (some ⟨c,0,none⟩)),(.int .i64 (((i:Nat):Int)))]) rfl rfl (by as_aux_lemma=>kernel_rfl)) ?_;refine ta 11 rfl (qn rfl Gk rfl rfl) ?_;refine AL 12 ?_;refine cJ (H':=[cQ (yp c n d i D M P hi hD W hW) r s,am b3 (ints (OpT.mk 8 ((i:Nat):Int) o.to' o.key o.n o.change o.mask o.torn o.cut).flat) 30]) (λ_ q=>Ft ho (aD [0,0,1,1] rfl q)) (CZ QK (@ET _ (yp c n d i D M P hi hD W hW) r s hs) ID λvR=>?_);change TL _ _ _ _ _ _ _ _ _ [cQ (yp c n d i D M P hi hD W hW) r (gU KD s),am b3 (ints (OpT.mk 8 ((i:Nat):Int) o.to' o.key o.n o.change o.mask o.torn o.cut).flat) 30];refine cJ (H':=[am c (eZ n D M P) 104,dk d ((gU KD s).e.D),eO 156 208 5 n (cV (it W i (gU KD s).o)),fw ((gU KD s).hush) d r,am b3 (ints (OpT.mk 8 ((i:Nat):Int) o.to' o.key o.n o.change o.mask o.torn o.cut).flat) 30]) (λ_ q=>BC (s:=(gU KD s)) q) (EN (DN (ag (ac J4 (sr λ_ J17=>PS ?_)))));refine nx J17 (aj (WK [0,0,0,0] (aw rfl rfl ?_)));exact .inr ⟨(by simpa using h49),rfl,rfl⟩;refine PS ?_;refine nx J16 (CY (sr λ_ J18=>PS ?_));refine nx J18 (aj (af (aL (af (WK [0,0,1,1] (aw rfl rfl ?_))))));exact .inl ⟨(by simpa using h49),rfl,rfl⟩
theorem D5(c n i:Nat)(D M P:Nat→Value)(hi:i<5)(hM:M i= .pointer none)(o:OpT):
 DT 17 #[(.pointer (some ⟨c,0,none⟩)),(.agg (ints (OpT.mk 8 ((i:Nat):Int) o.to' o.key o.n o.change o.mask o.torn o.cut).flat).toArray)] T0 [am c (eZ n D M P) 104] (RI (.int .i64 4) [am c (eZ n D M P) 104]):=by
 refine BD 114 Tryz.func17 rfl rfl rfl λw0 F hF=>sr λ_ J1=>XY (ints (OpT.mk 8 ((i:Nat):Int) o.to' o.key o.n o.change o.mask o.torn o.cut).flat) λb3=>?_
 refine PS ?_;refine nx J1 (aa λ_ J2=>sr λ_ J3=>PS ?_);refine FA 1 gh aQ ?_;refine LT 0 Y3 (.int .i64 (((i:Nat):Int))) ?_ (hc:=by exact bQ _ rfl);refine CE qQ (eb c i hi) ID ?_;refine PS ?_;refine nx J3 (CN (qx J2 (aa λ_ J4=>sr λ_ J5=>FA 0 gh aQ ?_)));refine LT 0 Y3 (.int .i64 8) ?_ (hc:=by exact dh _ rfl);refine nx J5 (aq (aa λ_ J6=>sr λ_ J7=>P2 ?_));refine nx J7 (CN (sr λ_ J8=>P2 ?_));refine nx J8 (CN (sr λ_ J9=>P2 ?_));refine nx J9 (CN (sr λ_ J10=>P2 ?_));refine nx J10 (CN (ae (P2 ?_)));refine nx J6 (CN (aa λ_ J11=>sr λ_ J12=>P2 ?_));refine nx J12 (CN (sr λ_ J13=>P2 ?_));refine nx J13 (CN (ae (P2 ?_)));refine nx J11 (CN (sr λ_ J14=>P2 ?_));refine nx J14 (CY (aa λ_ J15=>sr λ_ J16=>PS ?_));refine FA 1 gh aQ ?_;refine LT 0 Y3 (.int .i64 (((i:Nat):Int))) ?_ (hc:=by exact bQ _ rfl);refine CE Dq (tn c n i D M P hi hM) (SM [1]) ?_;refine PS ?_;refine nx J16 (CY (sr λ_ J17=>PS ?_));exact nx J17 (aj (af (aL (af (WK [0] (aw rfl rfl ⟨rfl,rfl⟩))))))
theorem HM(s:MS LD)(d r:Nat)(h:s.replies.length≤1000000):DT 19 #[.pointer (some ⟨r,0,none⟩)] T0 [fw s d r] (dB λv H=>∃u,v=u∧H=[fw s d r,ni u s.replies]):=
 Leg.Does.pack (B:=[]) λa=>Leg.Does.withinR (A:=[am r (RepT.cells (s.rep a)) 123,ni a.rs s.replies]) (B:=[GY a.lg d ((s.e.cnt:Nat):Int) s.e.used,Gr a.vo s.vote]) (Bm r (s.rep a) s.replies h) (λ_ _ _ _=>trivial) (λ_ q=>aD [0,1,0,0] rfl q) λv H hp=>by
  obtain⟨u,rfl,rfl⟩:=hp;exact⟨_,λ_ q=>br (p:=HH s d r) (H:=[ni v s.replies]) a (aD [0,2,0,1,0] rfl q),v,rfl,rfl⟩
theorem Fg(c n i:Nat)(D M P:Nat→Value)(hi:i<5)(hM:M i= .pointer none)(pl:List ReplyT)(hpl:pl.length≤100000):
 DT 15 #[(.pointer (some ⟨c,0,none⟩)),(.int .i64 (((i:Nat):Int)))] T0 [am c (eZ n D M P) 104,own (P i) ((pl).length) (ints (List.flatMap ReplyT.flat (pl))) 37 3] (dB (λv H=>∃u,u.oneCell'=true∧v=u∧H=[am c (eZ n D M P) 104,ni (P i) pl,ni u pl])):=by
 refine BD 34 Tryz.func15 rfl rfl rfl λw0 F hF=>sr λ_ J1=>PS ?_
 refine nx J1 (aa λ_ J2=>sr λ_ J3=>P2 ?_);refine CE qQ (eb c i hi) ID ?_;refine PS ?_;refine nx J3 (CN (qx J2 (sr λ_ J4=>P3 ?_)));refine FA 11 jw Gz ?_;refine IX (11+i) Mt y2 ?_;refine LT 0 Lg (P i) ?_ (hc:=by exact PE n D M P hi);refine PL 37 3 (λ_=>cS (k:=0) (news:=ints (List.flatMap ReplyT.flat (pl))) (nn':=(pl).length) (xs':=ints (List.flatMap ReplyT.flat (pl))) (ab rfl) rfl rfl rfl Lg IF rfl rfl rfl rfl rfl rfl (λ_ s=>Rt 2 rfl rfl s) (bF _) (by simp only[maxLen];omega) (by omega) (by simp) (by simp) (λv16 ov16=>PS ?_));refine nx J4 (aa λ_ J5=>sr λ_ J6=>P3 ?_);refine FA 6 jw pJ ?_;refine IX (6+i) rE iR ?_;refine LT 1 ql (.pointer none) ?_ (hc:=by exact(yB n D M P hi).trans (congrArg some hM));refine tp (iy rfl ql rfl rfl) ?_;refine nx J6 (CN (qx J5 (sr λ_ J7=>P2 ?_)));exact nx J7 (aj (WK [1,1,0] (aw rfl rfl ⟨_,ov16,rfl,rfl⟩)))
theorem Ff(c n i:Nat)(D M P:Nat→Value)(hi:i<5)(d:Nat)(r:Nat)(s:MS LD)(hM:M i= .pointer (some ⟨r,0,none⟩))(pl:List ReplyT)(hpl:pl.length≤100000)(hrs:s.replies.length≤100000):
 DT 15 #[(.pointer (some ⟨c,0,none⟩)),(.int .i64 (((i:Nat):Int)))] T0 [am c (eZ n D M P) 104,own (P i) ((pl).length) (ints (List.flatMap ReplyT.flat (pl))) 37 3,fw s d r] (dB (λv H=>∃u,u.oneCell'=true∧v=u∧H=[am c (eZ n D M P) 104,ni (P i) pl,fw s d r,ni u (pl++s.replies)])):=by
 refine BD 34 Tryz.func15 rfl rfl rfl λw0 F hF=>sr λ_ J1=>PS ?_
 refine nx J1 (aa λ_ J2=>sr λ_ J3=>P2 ?_);refine CE qQ (eb c i hi) ID ?_;refine PS ?_;refine nx J3 (CN (qx J2 (sr λ_ J4=>P3 ?_)));refine FA 11 jw Gz ?_;refine IX (11+i) Mt y2 ?_;refine LT 0 Lg (P i) ?_ (hc:=by exact PE n D M P hi);refine PL 37 3 (λ_=>cS (k:=0) (news:=ints (List.flatMap ReplyT.flat (pl))) (nn':=(pl).length) (xs':=ints (List.flatMap ReplyT.flat (pl))) (ab rfl) rfl rfl rfl Lg IF rfl rfl rfl rfl rfl rfl (λ_ s=>Rt 2 rfl rfl s) (bF _) (by simp only[maxLen];omega) (by omega) (by simp) (by simp) (λv16 ov16=>PS ?_));refine nx J4 (aa λ_ J5=>sr λ_ J6=>P3 ?_);refine FA 6 jw pJ ?_;refine IX (6+i) rE iR ?_;refine LT 1 ql (.pointer (some ⟨r,0,none⟩)) ?_ (hc:=by exact(yB n D M P hi).trans (congrArg some hM));refine tp (gd rfl ql rfl rfl) ?_;refine nx J6 (CY (ae (P4 ?_)));refine FA 6 jw pJ ?_;refine IX (6+i) rE iR ?_;refine LT 1 ql (.pointer (some ⟨r,0,none⟩)) ?_ (hc:=by exact(yB n D M P hi).trans (congrArg some hM));refine CR QY (HM s d r (by omega)) (SM [3]) λvR HR hR=>?_
 obtain⟨_,rfl,rfl⟩:=hR;revert vR;intro ur;refine cS (k:=2) (news:=ints (List.flatMap ReplyT.flat (s.replies))) (nn':=(pl++s.replies).length) (xs':=ints (List.flatMap ReplyT.flat (pl++s.replies))) (ab rfl) rfl rfl rfl Lg IF rfl rfl rfl rfl rfl rfl (λ_ s=>Rt 1 rfl rfl s) (bF _) (by simp only[maxLen];omega) (by omega) (by rw[ai]) (by simp[ints]) (λv32 ov32=>PS ?_);refine nx J5 (sr λ_ J7=>P2 ?_);exact nx J7 (aj (WK [3,3,0,1] (aw rfl rfl ⟨_,ov32,rfl,rfl⟩)))
theorem FZ(c n i:Nat)(D M P:Nat→Value)(hi:i<5)(d:Nat)(hD:D i= .pointer (some ⟨d,0,none⟩))(e:DS)(o:OpT):
 DT 17 #[(.pointer (some ⟨c,0,none⟩)),(.agg (ints (OpT.mk 9 ((i:Nat):Int) o.to' o.key o.n o.change o.mask o.torn o.cut).flat).toArray)] T0 [am c (eZ n D M P) 104,dk d e] (RI (.int .i64 0) [am c (eZ n D M P) 104,dk d (e.arm o.n)]):=by
 refine BD 114 Tryz.func17 rfl rfl rfl λw0 F hF=>sr λ_ J1=>XY (ints (OpT.mk 9 ((i:Nat):Int) o.to' o.key o.n o.change o.mask o.torn o.cut).flat) λb3=>?_
 refine PS ?_;refine nx J1 (aa λ_ J2=>sr λ_ J3=>PS ?_);refine FA 1 gh aQ ?_;refine LT 0 Y3 (.int .i64 (((i:Nat):Int))) ?_ (hc:=by exact bQ _ rfl);refine CE qQ (eb c i hi) ID ?_;refine PS ?_;refine nx J3 (CN (qx J2 (aa λ_ J4=>sr λ_ J5=>FA 0 gh aQ ?_)));refine LT 0 Y3 (.int .i64 9) ?_ (hc:=by exact dh _ rfl);refine nx J5 (aq (aa λ_ J6=>sr λ_ J7=>P2 ?_));refine nx J7 (CN (sr λ_ J8=>P2 ?_));refine nx J8 (CN (sr λ_ J9=>P2 ?_));refine nx J9 (CN (sr λ_ J10=>P2 ?_));refine nx J10 (CN (ae (P2 ?_)));refine nx J6 (CN (aa λ_ J11=>sr λ_ J12=>P2 ?_));refine nx J12 (CN (sr λ_ J13=>P2 ?_));refine nx J13 (CN (ae (P2 ?_)));refine nx J11 (CN (sr λ_ J14=>P2 ?_));refine nx J14 (CN (sr λ_ J15=>P2 ?_));refine nx J15 (CY (D2 0 1 dK ?_));refine PD 0 ?_;refine FD 1 1 gh aQ ?_;refine LX 2 Y3 (.int .i64 (((i:Nat):Int))) ?_ (hc:=by exact bQ _ rfl);refine PD 3 ?_;refine FD 4 1 jw tv ?_;refine IY 5 (1+i) Cd p7 ?_;refine LX 6 ut (.pointer (some ⟨d,0,none⟩)) ?_ (hc:=by exact(Ef n D M P hi).trans (congrArg some hD));refine FD 7 4 gh aQ ?_;refine LX 8 Y3 (.int .i64 (o.n)) ?_ (hc:=by exact yS _ rfl);refine AL 9 ?_;refine CR QJ (N2 d e o.n) (SM [2]) λvR HR hR=>?_
 obtain⟨_,rfl⟩:=hR;refine EN (DN (ag (ac J4 (sr λ_ J16=>PS ?_))));exact nx J16 (aj (WK [2,0] (aw rfl rfl ⟨rfl,rfl⟩)))
theorem FV(c n i:Nat)(D M P:Nat→Value)(hi:i<5)(d:Nat)(hD:D i= .pointer (some ⟨d,0,none⟩))(r:Nat)(s:MS LD)(hM:M i= .pointer (some ⟨r,0,none⟩))(pl:List ReplyT)(hpl:pl.length≤100000)(hrs:s.replies.length≤100000)(e:DS)(hok:e.Ok)(o:OpT):
 DT 17 #[(.pointer (some ⟨c,0,none⟩)),(.agg (ints (OpT.mk 10 ((i:Nat):Int) o.to' o.key o.n o.change o.mask o.torn o.cut).flat).toArray)] T0 [am c (eZ n D M P) 104,dk d e,own (P i) ((pl).length) (ints (List.flatMap ReplyT.flat (pl))) 37 3,fw s d r] (dB (λv H=>∃u,u.oneCell'=true∧v= .int .i64 0∧H=[am c (eZ n D (lO M i (.pointer none)) (lO P i u)) 104,dk d (e.crash o.mask o.torn o.cut),ni u (pl++s.replies)])):=by
 refine BD 114 Tryz.func17 rfl rfl rfl λw0 F hF=>sr λ_ J1=>XY (ints (OpT.mk 10 ((i:Nat):Int) o.to' o.key o.n o.change o.mask o.torn o.cut).flat) λb3=>?_
 refine PS ?_;refine nx J1 (aa λ_ J2=>sr λ_ J3=>PS ?_);refine FA 1 gh aQ ?_;refine LT 0 Y3 (.int .i64 (((i:Nat):Int))) ?_ (hc:=by exact bQ _ rfl);refine CE qQ (eb c i hi) ID ?_;refine PS ?_;refine nx J3 (CN (qx J2 (aa λ_ J4=>sr λ_ J5=>FA 0 gh aQ ?_)));refine LT 0 Y3 (.int .i64 10) ?_ (hc:=by exact dh _ rfl);refine nx J5 (aq (aa λ_ J6=>sr λ_ J7=>P2 ?_));refine nx J7 (CN (sr λ_ J8=>P2 ?_));refine nx J8 (CN (sr λ_ J9=>P2 ?_));refine nx J9 (CN (sr λ_ J10=>P2 ?_));refine nx J10 (CN (ae (P2 ?_)));refine nx J6 (CN (aa λ_ J11=>sr λ_ J12=>P2 ?_));refine nx J12 (CN (sr λ_ J13=>P2 ?_));refine nx J13 (CN (ae (P2 ?_)));refine nx J11 (CN (sr λ_ J14=>P2 ?_));refine nx J14 (CN (sr λ_ J15=>P2 ?_));refine nx J15 (CN (sr λ_ J16=>P2 ?_));refine nx J16 (CY (aa λ_ J17=>D1 0 dK ?_));refine PD 0 ?_;refine FD 1 1 gh aQ ?_;refine LX 2 Y3 (.int .i64 (((i:Nat):Int))) ?_ (hc:=by exact bQ _ rfl);refine PD 3 ?_;refine FD 4 1 gh aQ ?_;refine LX 5 Y3 (.int .i64 (((i:Nat):Int))) ?_ (hc:=by exact bQ _ rfl);refine PD 7 ?_;refine FD 8 11 jw Gz ?_;refine AL 6 ?_;refine CR O8 (Ff c n i D M P hi d r s hM pl hpl hrs) (SM [1,2,2]) λvR HR hR=>?_
 obtain⟨_,huc,rfl,rfl⟩:=hR;revert vR;intro uc huc;refine EN (IY 9 (11+i) Mt y2 ?_);refine AL 10 ?_;refine bI (i:=0) (ab rfl) rfl rfl rfl rfl huc y2 rfl rfl (by rw[sK];omega) (G8 n D M P uc hi) rfl (EN (DN (ac J17 (aa λ_ J18=>D1 4 dK ?_))));refine PD 0 ?_;refine FD 1 1 gh aQ ?_;refine LX 2 Y3 (.int .i64 (((i:Nat):Int))) ?_ (hc:=by exact bQ _ rfl);refine PD 3 ?_;refine FD 4 6 jw pJ ?_;refine IY 5 (6+i) rE iR ?_;refine AL 6 ?_;refine bI (i:=0) (ab rfl) rfl rfl rfl rfl rfl iR rfl rfl (by rw[sK];omega) (wP n D M (lO P i uc) (.pointer none) hi) rfl (EN (DN (ac J18 (D2 4 0 dK ?_))));refine PD 0 ?_;refine FD 1 1 gh aQ ?_;refine LX 2 Y3 (.int .i64 (((i:Nat):Int))) ?_ (hc:=by exact bQ _ rfl);refine PD 3 ?_;refine FD 4 1 jw tv ?_;refine IY 5 (1+i) Cd p7 ?_;refine LX 6 ut (.pointer (some ⟨d,0,none⟩)) ?_ (hc:=by exact(Ef n D (lO M i (.pointer none)) (lO P i uc) hi).trans (congrArg some hD));refine FD 7 8 gh aQ ?_;refine LX 8 Y3 (.int .i64 (o.mask)) ?_ (hc:=by exact OpT.at_mask _ rfl);refine FD 9 9 gh aQ ?_;refine LX 10 Y3 (.int .i64 (o.torn)) ?_ (hc:=by exact OpT.at_torn _ rfl);refine FD 11 10 gh aQ ?_;refine LX 12 Y3 (.int .i64 (o.cut)) ?_ (hc:=by exact OpT.at_cut _ rfl);refine AL 13 ?_;refine CR OK (D8 d e o.mask o.torn o.cut hok) (SM [5]) λvR HR hR=>?_
 obtain⟨_,rfl⟩:=hR;refine EN (DN (ag (ac J4 (sr λ_ J19=>PS ?_))));exact nx J19 (aj (WK [1,0,2] (aw rfl rfl ⟨uc,huc,rfl,rfl⟩)))
theorem FW(c n i:Nat)(D M P:Nat→Value)(hi:i<5)(d:Nat)(hD:D i= .pointer (some ⟨d,0,none⟩))(hM:M i= .pointer none)(pl:List ReplyT)(hpl:pl.length≤100000)(e:DS)(hok:e.Ok)(o:OpT):
 DT 17 #[(.pointer (some ⟨c,0,none⟩)),(.agg (ints (OpT.mk 10 ((i:Nat):Int) o.to' o.key o.n o.change o.mask o.torn o.cut).flat).toArray)] T0 [am c (eZ n D M P) 104,dk d e,own (P i) ((pl).length) (ints (List.flatMap ReplyT.flat (pl))) 37 3] (dB (λv H=>∃u,u.oneCell'=true∧v= .int .i64 0∧H=[am c (eZ n D (lO M i (.pointer none)) (lO P i u)) 104,dk d (e.crash o.mask o.torn o.cut),ni u pl])):=by
 refine BD 114 Tryz.func17 rfl rfl rfl λw0 F hF=>sr λ_ J1=>XY (ints (OpT.mk 10 ((i:Nat):Int) o.to' o.key o.n o.change o.mask o.torn o.cut).flat) λb3=>?_
 refine PS ?_;refine nx J1 (aa λ_ J2=>sr λ_ J3=>PS ?_);refine FA 1 gh aQ ?_;refine LT 0 Y3 (.int .i64 (((i:Nat):Int))) ?_ (hc:=by exact bQ _ rfl);refine CE qQ (eb c i hi) ID ?_;refine PS ?_;refine nx J3 (CN (qx J2 (aa λ_ J4=>sr λ_ J5=>FA 0 gh aQ ?_)));refine LT 0 Y3 (.int .i64 10) ?_ (hc:=by exact dh _ rfl);refine nx J5 (aq (aa λ_ J6=>sr λ_ J7=>P2 ?_));refine nx J7 (CN (sr λ_ J8=>P2 ?_));refine nx J8 (CN (sr λ_ J9=>P2 ?_));refine nx J9 (CN (sr λ_ J10=>P2 ?_));refine nx J10 (CN (ae (P2 ?_)));refine nx J6 (CN (aa λ_ J11=>sr λ_ J12=>P2 ?_));refine nx J12 (CN (sr λ_ J13=>P2 ?_));refine nx J13 (CN (ae (P2 ?_)));refine nx J11 (CN (sr λ_ J14=>P2 ?_));refine nx J14 (CN (sr λ_ J15=>P2 ?_));refine nx J15 (CN (sr λ_ J16=>P2 ?_));refine nx J16 (CY (aa λ_ J17=>D1 0 dK ?_));refine PD 0 ?_;refine FD 1 1 gh aQ ?_;refine LX 2 Y3 (.int .i64 (((i:Nat):Int))) ?_ (hc:=by exact bQ _ rfl);refine PD 3 ?_;refine FD 4 1 gh aQ ?_;refine LX 5 Y3 (.int .i64 (((i:Nat):Int))) ?_ (hc:=by exact bQ _ rfl);refine PD 7 ?_;refine FD 8 11 jw Gz ?_;refine AL 6 ?_;refine CR O8 (Fg c n i D M P hi hM pl hpl) (SM [1,2]) λvR HR hR=>?_
 obtain⟨_,huc,rfl,rfl⟩:=hR;revert vR;intro uc huc;refine EN (IY 9 (11+i) Mt y2 ?_);refine AL 10 ?_;refine bI (i:=0) (ab rfl) rfl rfl rfl rfl huc y2 rfl rfl (by rw[sK];omega) (G8 n D M P uc hi) rfl (EN (DN (ac J17 (aa λ_ J18=>D1 3 dK ?_))));refine PD 0 ?_;refine FD 1 1 gh aQ ?_;refine LX 2 Y3 (.int .i64 (((i:Nat):Int))) ?_ (hc:=by exact bQ _ rfl);refine PD 3 ?_;refine FD 4 6 jw pJ ?_;refine IY 5 (6+i) rE iR ?_;refine AL 6 ?_;refine bI (i:=0) (ab rfl) rfl rfl rfl rfl rfl iR rfl rfl (by rw[sK];omega) (wP n D M (lO P i uc) (.pointer none) hi) rfl (EN (DN (ac J18 (D2 3 0 dK ?_))));refine PD 0 ?_;refine FD 1 1 gh aQ ?_;refine LX 2 Y3 (.int .i64 (((i:Nat):Int))) ?_ (hc:=by exact bQ _ rfl);refine PD 3 ?_;refine FD 4 1 jw tv ?_;refine IY 5 (1+i) Cd p7 ?_;refine LX 6 ut (.pointer (some ⟨d,0,none⟩)) ?_ (hc:=by exact(Ef n D (lO M i (.pointer none)) (lO P i uc) hi).trans (congrArg some hD));refine FD 7 8 gh aQ ?_;refine LX 8 Y3 (.int .i64 (o.mask)) ?_ (hc:=by exact OpT.at_mask _ rfl);refine FD 9 9 gh aQ ?_;refine LX 10 Y3 (.int .i64 (o.torn)) ?_ (hc:=by exact OpT.at_torn _ rfl);refine FD 11 10 gh aQ ?_;refine LX 12 Y3 (.int .i64 (o.cut)) ?_ (hc:=by exact OpT.at_cut _ rfl);refine AL 13 ?_;refine CR OK (D8 d e o.mask o.torn o.cut hok) (SM [4]) λvR HR hR=>?_
 obtain⟨_,rfl⟩:=hR;refine EN (DN (ag (ac J4 (sr λ_ J19=>PS ?_))));exact nx J19 (aj (WK [1,0,1] (aw rfl rfl ⟨uc,huc,rfl,rfl⟩)))
theorem LH{s:MS LD}{lg d r:Nat}{e:LD}{i:Int}(f:Fresh i e s){H:List HP}{h:Hl}(q:bH (EH lg r s::GY lg d ((e.cnt:Nat):Int) e.used::H) h):bH (fw s d r::H) h:=by
 obtain⟨_,q⟩:=fT (p:=λ_:Unit=>[am r (RepT.cells (s.rep ⟨lg, .pointer none, .slice none 0 0⟩)) 123]) q;refine br (p:=HH s d r) ⟨lg, .pointer none, .slice none 0 0⟩ ?_;have q2:=iq 37 3 q;have q3:bH (Gr (.pointer none) (none:Option VoteT)::own (.slice none 0 0) 0 [] 37 3::am r (RepT.cells (s.rep ⟨lg, .pointer none, .slice none 0 0⟩)) 123::GY lg d ((e.cnt:Nat):Int) e.used::H) h:=⟨em,h,Ez h,(rP h).symm,rfl,q2⟩;have q4:=aD [2,2,1,0] rfl q3;simp only[HH,f.e,f.replies,f.vote];exact q4
theorem qJ(i d:Nat)(e:DS)(hok:DkOk e):DT 55 #[.int .i64 ((i:Nat):Int), .pointer (some ⟨d,0,none⟩)] T0 [dk d e] (dB (λv H=>((cD i e).1=none∧(cD i e).2≠0∧v= .tuple #[.pointer none, .int .i64 (cD i e).2]∧H=[dk d (bJ e).D])∨∃s r,(cD i e).1=some s∧v= .tuple #[.pointer (some ⟨r,0,none⟩), .int .i64 0]∧H=[fw s d r,dk d s.e.D])):=
 Leg.Does.fold (CO (⟨(bJ e).recs.length,(bJ e).used,(bJ e).D⟩:LD) ((i:Nat):Int) d e hok.ok hok.inn (by have:=hok.ws;omega)) λx H hp=>by
  cases x with
  |returned v=>
   unfold cD;rcases hp with⟨he,rfl,rfl⟩| ⟨he,⟨hn,rfl,rfl⟩| ⟨s,r,lg,hn,rfl,rfl⟩⟩
   · rw[if_pos he];exact⟨_,λ_ q=>q, .inl ⟨rfl,he,rfl,rfl⟩⟩
   · rw[if_neg (by rw[he];decide),hn];exact⟨_,λ_ q=>q, .inl ⟨rfl,(by decide),rfl,rfl⟩⟩
   · rw[if_neg (by rw[he];decide),hn]
     have f:=I7 _ (Ro _ _) hn;refine⟨[fw s d r,dk d s.e.D],λ_ q=>LH (lg:=lg) f ?_, .inr ⟨s,r,rfl,rfl,rfl⟩⟩;rw[f.e];exact q
  |panicked c=>exact hp.elim
  |outgrown=>exact hp.elim
theorem CJ(c n i:Nat)(D M P:Nat→Value)(hi:i<5)(d:Nat)(hD:D i= .pointer (some ⟨d,0,none⟩))(hM:M i= .pointer none)(e:DS)(hok:DkOk e):
 DT 63 #[(.pointer (some ⟨c,0,none⟩)),(.int .i64 (((i:Nat):Int)))] T0 [am c (eZ n D M P) 104,dk d e] (dB (λv H=>((cD i e).1=none∧v= .int .i64 (cD i e).2∧H=[am c (eZ n D M P) 104,dk d (bJ e).D])∨∃s r,(cD i e).1=some s∧v= .int .i64 0∧H=[am c (eZ n D (lO M i (.pointer (some ⟨r,0,none⟩))) P) 104,fw s d r,dk d s.e.D])):=by
 refine BD 34 Tryz.func63 rfl rfl rfl λw0 F hF=>sr λ_ J1=>PS ?_
 refine nx J1 (aa λ_ J2=>sr λ_ J3=>P3 ?_);refine FA 6 jw pJ ?_;refine IX (6+i) rE iR ?_;refine LT 0 ql (.pointer none) ?_ (hc:=by exact(yB n D M P hi).trans (congrArg some hM));refine tp (iy rfl ql rfl rfl) ?_;refine nx J3 (CN (qx J2 (sr λ_ J4=>P4 ?_)));refine FA 1 jw tv ?_;refine IX (1+i) Cd p7 ?_;refine LT 0 ut (.pointer (some ⟨d,0,none⟩)) ?_ (hc:=by exact(Ef n D M P hi).trans (congrArg some hD));refine CR NI (qJ i d e hok) (SM [1]) λvR HR hR=>?_
 rcases hR with⟨hn,h0,rfl,rfl⟩| ⟨s,r,hn,rfl,rfl⟩
 refine P4 ?_;refine PS ?_;refine nx J4 (aa λ_ J5=>sr λ_ J6=>P2 ?_);refine ao ?_ ?_<;>intro h26
 · exact absurd h26 h0
 refine nx J6 (CN (qx J5 (sr λ_ J7=>P2 ?_)));exact nx J7 (aj (WK [1,0] (aw rfl rfl (.inl ⟨hn,rfl,rfl⟩))));refine P4 ?_;refine PS ?_;refine nx J4 (aa λ_ J8=>sr λ_ J9=>P2 ?_);refine nx J9 (CY (ae (P4 ?_)));refine FA 6 jw pJ ?_;refine IX (6+i) rE iR ?_;refine bI (i:=2) (ab rfl) rfl rfl rfl rfl rfl iR rfl rfl (by rw[sK];omega) (wP n D M P (.pointer (some ⟨r,0,none⟩)) hi) rfl (nx J8 (sr λ_ J10=>P2 ?_));exact nx J10 (aj (WK [2,0,0] (aw rfl rfl (.inr ⟨s,r,hn,rfl,rfl⟩))))
theorem CI(c n i:Nat)(D M P:Nat→Value)(hi:i<5)(r:Nat)(hM:M i= .pointer (some ⟨r,0,none⟩)):
 DT 63 #[(.pointer (some ⟨c,0,none⟩)),(.int .i64 (((i:Nat):Int)))] T0 [am c (eZ n D M P) 104] (RI (.int .i64 5) [am c (eZ n D M P) 104]):=by
 refine BD 34 Tryz.func63 rfl rfl rfl λw0 F hF=>sr λ_ J1=>PS ?_
 refine nx J1 (aa λ_ J2=>sr λ_ J3=>P3 ?_);refine FA 6 jw pJ ?_;refine IX (6+i) rE iR ?_;refine LT 0 ql (.pointer (some ⟨r,0,none⟩)) ?_ (hc:=by exact(yB n D M P hi).trans (congrArg some hM));refine tp (gd rfl ql rfl rfl) ?_;refine nx J3 (CY (sr λ_ J4=>PS ?_));exact nx J4 (aj (af (WK [0] (aw rfl rfl ⟨rfl,rfl⟩))))
theorem FU(c n i:Nat)(D M P:Nat→Value)(hi:i<5)(d:Nat)(hD:D i= .pointer (some ⟨d,0,none⟩))(hM:M i= .pointer none)(e:DS)(hok:DkOk e)(o:OpT):
 DT 17 #[(.pointer (some ⟨c,0,none⟩)),(.agg (ints (OpT.mk 11 ((i:Nat):Int) o.to' o.key o.n o.change o.mask o.torn o.cut).flat).toArray)] T0 [am c (eZ n D M P) 104,dk d e] (dB (λv H=>((cD i e).1=none∧v= .int .i64 (cD i e).2∧H=[am c (eZ n D M P) 104,dk d (bJ e).D])∨∃s r,(cD i e).1=some s∧v= .int .i64 0∧H=[am c (eZ n D (lO M i (.pointer (some ⟨r,0,none⟩))) P) 104,fw s d r,dk d s.e.D])):=by
 refine BD 114 Tryz.func17 rfl rfl rfl λw0 F hF=>sr λ_ J1=>XY (ints (OpT.mk 11 ((i:Nat):Int) o.to' o.key o.n o.change o.mask o.torn o.cut).flat) λb3=>?_
 refine PS ?_;refine nx J1 (aa λ_ J2=>sr λ_ J3=>PS ?_);refine FA 1 gh aQ ?_;refine LT 0 Y3 (.int .i64 (((i:Nat):Int))) ?_ (hc:=by exact bQ _ rfl);refine CE qQ (eb c i hi) ID ?_;refine PS ?_;refine nx J3 (CN (qx J2 (aa λ_ J4=>sr λ_ J5=>FA 0 gh aQ ?_)));refine LT 0 Y3 (.int .i64 11) ?_ (hc:=by exact dh _ rfl);refine nx J5 (aq (aa λ_ J6=>sr λ_ J7=>P2 ?_));refine nx J7 (CN (sr λ_ J8=>P2 ?_));refine nx J8 (CN (sr λ_ J9=>P2 ?_));refine nx J9 (CN (sr λ_ J10=>P2 ?_));refine nx J10 (CN (ae (P2 ?_)));refine nx J6 (CN (aa λ_ J11=>sr λ_ J12=>P2 ?_));refine nx J12 (CN (sr λ_ J13=>P2 ?_));refine nx J13 (CN (ae (P2 ?_)));refine nx J11 (CN (sr λ_ J14=>P2 ?_));refine nx J14 (CN (sr λ_ J15=>P2 ?_));refine nx J15 (CN (sr λ_ J16=>P2 ?_));refine nx J16 (CN (sr λ_ J17=>P2 ?_));refine nx J17 (CY (sr λ_ J18=>PS ?_));refine FA 1 gh aQ ?_;refine LT 0 Y3 (.int .i64 (((i:Nat):Int))) ?_ (hc:=by exact bQ _ rfl);refine CR OJ (CJ c n i D M P hi d hD hM e hok) (SM [1,1]) λvR HR hR=>?_
 rcases hR with⟨hn,rfl,rfl⟩| ⟨s,r,hn,rfl,rfl⟩
 refine PS ?_;exact nx J18 (aj (aL (af (WK [0,0] (aw rfl rfl (.inl ⟨hn,rfl,rfl⟩))))));refine PS ?_;exact nx J18 (aj (aL (af (WK [0,0,0] (aw rfl rfl (.inr ⟨s,r,hn,rfl,rfl⟩))))))
theorem FT(c n i:Nat)(D M P:Nat→Value)(hi:i<5)(r:Nat)(hM:M i= .pointer (some ⟨r,0,none⟩))(o:OpT):
 DT 17 #[(.pointer (some ⟨c,0,none⟩)),(.agg (ints (OpT.mk 11 ((i:Nat):Int) o.to' o.key o.n o.change o.mask o.torn o.cut).flat).toArray)] T0 [am c (eZ n D M P) 104] (RI (.int .i64 5) [am c (eZ n D M P) 104]):=by
 refine BD 114 Tryz.func17 rfl rfl rfl λw0 F hF=>sr λ_ J1=>XY (ints (OpT.mk 11 ((i:Nat):Int) o.to' o.key o.n o.change o.mask o.torn o.cut).flat) λb3=>?_
 refine PS ?_;refine nx J1 (aa λ_ J2=>sr λ_ J3=>PS ?_);refine FA 1 gh aQ ?_;refine LT 0 Y3 (.int .i64 (((i:Nat):Int))) ?_ (hc:=by exact bQ _ rfl);refine CE qQ (eb c i hi) ID ?_;refine PS ?_;refine nx J3 (CN (qx J2 (aa λ_ J4=>sr λ_ J5=>FA 0 gh aQ ?_)));refine LT 0 Y3 (.int .i64 11) ?_ (hc:=by exact dh _ rfl);refine nx J5 (aq (aa λ_ J6=>sr λ_ J7=>P2 ?_));refine nx J7 (CN (sr λ_ J8=>P2 ?_));refine nx J8 (CN (sr λ_ J9=>P2 ?_));refine nx J9 (CN (sr λ_ J10=>P2 ?_));refine nx J10 (CN (ae (P2 ?_)));refine nx J6 (CN (aa λ_ J11=>sr λ_ J12=>P2 ?_));refine nx J12 (CN (sr λ_ J13=>P2 ?_));refine nx J13 (CN (ae (P2 ?_)));refine nx J11 (CN (sr λ_ J14=>P2 ?_));refine nx J14 (CN (sr λ_ J15=>P2 ?_));refine nx J15 (CN (sr λ_ J16=>P2 ?_));refine nx J16 (CN (sr λ_ J17=>P2 ?_));refine nx J17 (CY (sr λ_ J18=>PS ?_));refine FA 1 gh aQ ?_;refine LT 0 Y3 (.int .i64 (((i:Nat):Int))) ?_ (hc:=by exact bQ _ rfl);refine CE OJ (CI c n i D M P hi r hM) (SM [1]) ?_;refine PS ?_;exact nx J18 (aj (aL (af (WK [0] (aw rfl rfl ⟨rfl,rfl⟩)))))
theorem Cs(c n i:Nat)(D M P:Nat→Value)(hi:i<5)(to' k:Int)(o:OpT)(hv:dx ((i:Nat):Int) to'=false)(bs:List Nat):
 DT 59 #[(.pointer (some ⟨c,0,none⟩)),(.agg (ints (OpT.mk k ((i:Nat):Int) to' o.key o.n o.change o.mask o.torn o.cut).flat).toArray)] T0 [am c (eZ n D M P) 104,am n (dN bs) 156] (RI (.int .i64 5) [am c (eZ n D M P) 104,am n (dN bs) 156]):=by
 refine BD 91 Tryz.func59 rfl rfl rfl λw0 F hF=>sr λ_ J1=>XY (ints (OpT.mk k ((i:Nat):Int) to' o.key o.n o.change o.mask o.torn o.cut).flat) λb3=>?_
 refine PS ?_;refine nx J1 (aa λ_ J2=>D2 0 1 dK ?_);refine PD 0 ?_;refine PD 1 ?_;refine FD 2 0 jw A8 ?_;refine LX 3 KS (.pointer (some ⟨n,0,none⟩)) ?_ (hc:=by exact B1 n D M P);refine FD 4 1 gh aQ ?_;refine LX 5 Y3 (.int .i64 (((i:Nat):Int))) ?_ (hc:=by exact bQ _ rfl);refine FD 6 2 gh aQ ?_;refine LX 7 Y3 (.int .i64 (to')) ?_ (hc:=by exact ji _ rfl);refine AL 8 ?_;refine CR Fq (nG n bs ((i:Nat):Int) to') (SM [2]) λvR HR hR=>?_
 obtain⟨hw,rfl⟩:=hR;obtain⟨_,rfl⟩:dx ((i:Nat):Int) to'=false∧vR= .pointer none:=hw.resolve_left (λq=>by rw[hv]at q;cases q.1);refine EN (PD 9 ?_);refine DN (ac J2 (aa λ_ J3=>sr λ_ J4=>PS ?_));refine tp (KY rfl yO rfl rfl) ?_;refine nx J4 (CY (sr λ_ J5=>PS ?_));exact nx J5 (aj (af (WK [2,0] (aw rfl rfl ⟨rfl,rfl⟩))))
theorem qz{n i j:Nat}{bs:List Nat}{W:List (List MsgT)}{l:List MsgT}{H:List HP}{h:Hl}(hv:dx ((i:Nat):Int) ((j:Nat):Int)=true)(hW:W.length=25)(q:bH (ir 208 5 (bs.getD (bC ((i:Nat):Int) ((j:Nat):Int)) 0) (List.map (lm (bC ((i:Nat):Int) ((j:Nat):Int))) l)::fV 208 5 bs (cV W) (bC ((i:Nat):Int) ((j:Nat):Int))::am n (dN bs) 156::H) h):bH (eO 156 208 5 n (cV (W.set (bC ((i:Nat):Int) ((j:Nat):Int)) l))::H) h:=by
 have q2:=uF hv (qA W) q;rw[w6 W (iZ hv).1 hW]at q2;exact br (p:=λbs:List Nat=>[am n (dN bs) 156,e5 208 5 bs (cV (W.set (bC ((i:Nat):Int) ((j:Nat):Int)) l))]) bs (eG (List.Perm.swap _ _ _) q2)
theorem AW(c n i:Nat)(D M P:Nat→Value)(hi:i<5)(j:Nat)(hj:j<5)(hv:dx ((i:Nat):Int) ((j:Nat):Int)=true)(W:List (List MsgT))(hW:W.length=25)(l:List MsgT)(hl:W.getD (bC ((i:Nat):Int) ((j:Nat):Int)) []=l)(h8:l.length≤8)(hlen: ∀m∈l,0< (cq m).length)(o:OpT)(k:Int)(hn:l=[])(bs:List Nat):
 DT 59 #[(.pointer (some ⟨c,0,none⟩)),(.agg (ints (OpT.mk k ((i:Nat):Int) ((j:Nat):Int) o.key o.n o.change o.mask o.torn o.cut).flat).toArray)] T0 [am n (dN bs) 156,e5 208 5 bs (cV W),am c (eZ n D M P) 104] (RI (.int .i64 10) [am c (eZ n D M P) 104,eO 156 208 5 n (cV (W.set (bC ((i:Nat):Int) ((j:Nat):Int)) l))]):=by
 refine BD 91 Tryz.func59 rfl rfl rfl λw0 F hF=>sr λ_ J1=>XY (ints (OpT.mk k ((i:Nat):Int) ((j:Nat):Int) o.key o.n o.change o.mask o.torn o.cut).flat) λb3=>?_
 refine PS ?_;refine nx J1 (aa λ_ J2=>D2 0 3 dK ?_);refine PD 0 ?_;refine PD 1 ?_;refine FD 2 0 jw A8 ?_;refine LX 3 KS (.pointer (some ⟨n,0,none⟩)) ?_ (hc:=by exact B1 n D M P);refine FD 4 1 gh aQ ?_;refine LX 5 Y3 (.int .i64 (((i:Nat):Int))) ?_ (hc:=by exact bQ _ rfl);refine FD 6 2 gh aQ ?_;refine LX 7 Y3 (.int .i64 (((j:Nat):Int))) ?_ (hc:=by exact ji _ rfl);refine AL 8 ?_;refine CR Fq (nG n bs ((i:Nat):Int) ((j:Nat):Int)) (SM [1]) λvR HR hR=>?_
 obtain⟨hw,rfl⟩:=hR;obtain⟨_,rfl⟩:dx ((i:Nat):Int) ((j:Nat):Int)=true∧vR= .pointer (some ⟨(bs.getD (bC ((i:Nat):Int) ((j:Nat):Int)) 0),0,none⟩):=hw.resolve_right (λq=>by rw[hv]at q;cases q.1);refine EN (PD 9 ?_);refine DN (ac J2 (aa λ_ J3=>sr λ_ J4=>PS ?_));refine tp (jE rfl yO rfl rfl) ?_;refine nx J4 (CN (qx J3 (aa λ_ J5=>sr λ_ J6=>cJ (H':=[ir 208 5 (bs.getD (bC ((i:Nat):Int) ((j:Nat):Int)) 0) (List.map (lm (bC ((i:Nat):Int) ((j:Nat):Int))) l),fV 208 5 bs (cV W) (bC ((i:Nat):Int) ((j:Nat):Int)),am n (dN bs) 156,am b3 (ints (OpT.mk k ((i:Nat):Int) ((j:Nat):Int) o.key o.n o.change o.mask o.torn o.cut).flat) 30,am c (eZ n D M P) 104]) (λ_ q=>hl▸oj W (iZ hv).1▸oW hv (aD [2] rfl q)) (PS ?_))));refine CE vT (jZ (bs.getD (bC ((i:Nat):Int) ((j:Nat):Int)) 0) (List.map (lm (bC ((i:Nat):Int) ((j:Nat):Int))) l)) ID ?_;rw[cf];refine PS ?_;refine ao ?_ ?_<;>intro h23;refine nx J6 (CY (sr λ_ J7=>PS ?_));exact nx J7 (aj (af (aF (H':=[am c (eZ n D M P) 104,eO 156 208 5 n (cV (W.set (bC ((i:Nat):Int) ((j:Nat):Int)) l))]) (dE _) (λ_ q=>eG (List.Perm.swap _ _ _) (qz (bs:=bs) hv hW (ak [0,0,0,1] rfl q))) (aw rfl rfl ⟨rfl,rfl⟩))))
 · exact absurd (by rw[hn];rfl) h23
theorem yX(c n i:Nat)(D M P:Nat→Value)(hi:i<5)(j:Nat)(hj:j<5)(hv:dx ((i:Nat):Int) ((j:Nat):Int)=true)(W:List (List MsgT))(hW:W.length=25)(l:List MsgT)(hl:W.getD (bC ((i:Nat):Int) ((j:Nat):Int)) []=l)(h8:l.length≤8)(hlen: ∀m∈l,0< (cq m).length)(o:OpT)(hn:l≠[])(bs:List Nat):
    DT 59 #[(.pointer (some ⟨c,0,none⟩)),(.agg (ints (OpT.mk 7 ((i:Nat):Int) ((j:Nat):Int) o.key o.n o.change o.mask o.torn o.cut).flat).toArray)] T0 [am n (dN bs) 156,e5 208 5 bs (cV W),am c (eZ n D M P) 104] (RI (.int .i64 (if Jh l then 0 else 3)) [am c (eZ n D M P) 104,eO 156 208 5 n (cV (W.set (bC ((i:Nat):Int) ((j:Nat):Int)) (EC l)))]):=by
 refine BD 91 Tryz.func59 rfl rfl rfl λw0 F hF=>sr λ_ J1=>XY (ints (OpT.mk 7 ((i:Nat):Int) ((j:Nat):Int) o.key o.n o.change o.mask o.torn o.cut).flat) λb3=>?_
 refine PS ?_;refine nx J1 (aa λ_ J2=>D2 0 3 dK ?_);refine PD 0 ?_;refine PD 1 ?_;refine FD 2 0 jw A8 ?_;refine LX 3 KS (.pointer (some ⟨n,0,none⟩)) ?_ (hc:=by exact B1 n D M P);refine FD 4 1 gh aQ ?_;refine LX 5 Y3 (.int .i64 (((i:Nat):Int))) ?_ (hc:=by exact bQ _ rfl);refine FD 6 2 gh aQ ?_;refine LX 7 Y3 (.int .i64 (((j:Nat):Int))) ?_ (hc:=by exact ji _ rfl);refine AL 8 ?_;refine CR Fq (nG n bs ((i:Nat):Int) ((j:Nat):Int)) (SM [1]) λvR HR hR=>?_
 obtain⟨hw,rfl⟩:=hR;obtain⟨_,rfl⟩:dx ((i:Nat):Int) ((j:Nat):Int)=true∧vR= .pointer (some ⟨(bs.getD (bC ((i:Nat):Int) ((j:Nat):Int)) 0),0,none⟩):=hw.resolve_right (λq=>by rw[hv]at q;cases q.1);refine EN (PD 9 ?_);refine DN (ac J2 (aa λ_ J3=>sr λ_ J4=>PS ?_));refine tp (jE rfl yO rfl rfl) ?_;refine nx J4 (CN (qx J3 (aa λ_ J5=>sr λ_ J6=>cJ (H':=[ir 208 5 (bs.getD (bC ((i:Nat):Int) ((j:Nat):Int)) 0) (List.map (lm (bC ((i:Nat):Int) ((j:Nat):Int))) l),fV 208 5 bs (cV W) (bC ((i:Nat):Int) ((j:Nat):Int)),am n (dN bs) 156,am b3 (ints (OpT.mk 7 ((i:Nat):Int) ((j:Nat):Int) o.key o.n o.change o.mask o.torn o.cut).flat) 30,am c (eZ n D M P) 104]) (λ_ q=>hl▸oj W (iZ hv).1▸oW hv (aD [2] rfl q)) (PS ?_))));refine CE vT (jZ (bs.getD (bC ((i:Nat):Int) ((j:Nat):Int)) 0) (List.map (lm (bC ((i:Nat):Int) ((j:Nat):Int))) l)) ID ?_;rw[cf];refine PS ?_;refine ao ?_ ?_<;>intro h23
 · exact absurd (List.eq_nil_of_length_eq_zero (by omega)) hn
 refine nx J6 (CN (qx J5 (aa λ_ J7=>sr λ_ J8=>FA 0 gh aQ ?_)));refine LT 3 Y3 (.int .i64 7) ?_ (hc:=by exact dh _ rfl);refine PS ?_;refine nx J8 (CY (aa λ_ J9=>sr λ_ J10=>PS ?_))
 refine lL (ab rfl) rfl rfl rfl Pq rfl (zj (bs.getD (bC ((i:Nat):Int) ((j:Nat):Int)) 0) (List.map (lm (bC ((i:Nat):Int) ((j:Nat):Int))) l) (by rw[cf];exact h8) (λx hx=>by
        obtain⟨m,_,rfl⟩:=dQ.1 hx
        exact w5 _ m)) (λ_ s=>s) (λ_ _ _=>trivial) (λvR HR hR=>?_)
 obtain⟨rfl,rfl⟩:=hR;rw[Lr,Lq];refine bf ?_ ?_<;>intro h28;refine PS ?_;refine nx J10 (CN (qx J9 (sr λ_ J11=>PS ?_)));refine nx J11 (aj (af (aF (H':=[am c (eZ n D M P) 104,eO 156 208 5 n (cV (W.set (bC ((i:Nat):Int) ((j:Nat):Int)) (EC l)))]) (dE _) (λ_ q=>eG (List.Perm.swap _ _ _) (qz (bs:=bs) hv hW (ak [0,0,0,1] rfl q))) (aw rfl rfl ?_))));exact⟨by rw[h28];rfl,rfl⟩;refine PS ?_;refine nx J10 (CY (sr λ_ J12=>PS ?_));refine nx J12 (aj (af (af (aF (H':=[am c (eZ n D M P) 104,eO 156 208 5 n (cV (W.set (bC ((i:Nat):Int) ((j:Nat):Int)) (EC l)))]) (dE _) (λ_ q=>eG (List.Perm.swap _ _ _) (qz (bs:=bs) hv hW (ak [0,0,0,1] rfl q))) (aw rfl rfl ?_)))));exact⟨by rw[h28];rfl,rfl⟩
theorem Gw{i j:Nat}{W:List (List MsgT)}{m:MsgT}{l2:List MsgT}(hv:dx ((i:Nat):Int) ((j:Nat):Int)=true)(hW:W.length=25):(cV (W.set (bC ((i:Nat):Int) ((j:Nat):Int)) (m::l2))).getD (bC ((i:Nat):Int) ((j:Nat):Int)) []=jW ((i:Nat):Int) ((j:Nat):Int) (cq m)::List.map (lm (bC ((i:Nat):Int) ((j:Nat):Int))) l2:=by
 rw[oj _ (iZ hv).1,List.getD_eq_getElem?_getD,List.getElem?_set_self (by rw[hW];exact(iZ hv).1),←Cr (tk hv).1 (tk hv).2];rfl
theorem Cw{i j:Nat}{W:List (List MsgT)}{m:MsgT}{l2:List MsgT}(hv:dx ((i:Nat):Int) ((j:Nat):Int)=true)(hW:W.length=25):(cV (W.set (bC ((i:Nat):Int) ((j:Nat):Int)) (m::l2))).set (bC ((i:Nat):Int) ((j:Nat):Int)) (List.map (lm (bC ((i:Nat):Int) ((j:Nat):Int))) l2)=cV (W.set (bC ((i:Nat):Int) ((j:Nat):Int)) l2):=by
 rw[w6 _ (iZ hv).1 (by rw[cK];exact hW),iM]
theorem s8(c n i:Nat)(D M P:Nat→Value)(hi:i<5)(j:Nat)(hj:j<5)(hv:dx ((i:Nat):Int) ((j:Nat):Int)=true)(W:List (List MsgT))(hW:W.length=25)(l:List MsgT)(hl:W.getD (bC ((i:Nat):Int) ((j:Nat):Int)) []=l)(h8:l.length≤8)(hlen: ∀m∈l,0< (cq m).length)(o:OpT)(m:MsgT)(l2:List MsgT)(ht:l3 (max o.n 0% ((l.length:Nat):Int)).toNat l=m::l2)(bs:List Nat)(q:Int)(hk5:q=5∨q=6)(hk:q=6∨M j= .pointer none):
    DT 59 #[(.pointer (some ⟨c,0,none⟩)),(.agg (ints (OpT.mk q ((i:Nat):Int) ((j:Nat):Int) o.key o.n o.change o.mask o.torn o.cut).flat).toArray)] T0 [am n (dN bs) 156,e5 208 5 bs (cV W),am c (eZ n D M P) 104] (RI (.int .i64 0) [am c (eZ n D M P) 104,eO 156 208 5 n (cV (W.set (bC ((i:Nat):Int) ((j:Nat):Int)) l2))]):=by
 refine BD 91 Tryz.func59 rfl rfl rfl λw0 F hF=>?_
 have hln:0<l.length:=by
     have:=jI (max o.n 0% ((l.length:Nat):Int)).toNat l;rw[ht]at this;rw[←this];exact Nat.succ_pos _
 have hm0:0< (cq m).length:=hlen m ((nK (max o.n 0% ((l.length:Nat):Int)).toNat l).1 (ht▸cC ..));have hrl:(max o.n 0% ((l.length:Nat):Int))< ((l.length:Nat):Int):=I6 _ (by omega);refine sr λ_ J1=>XY (ints (OpT.mk q ((i:Nat):Int) ((j:Nat):Int) o.key o.n o.change o.mask o.torn o.cut).flat) λb3=>?_
 refine PS ?_;refine nx J1 (aa λ_ J2=>D2 0 3 dK ?_);refine PD 0 ?_;refine PD 1 ?_;refine FD 2 0 jw A8 ?_;refine LX 3 KS (.pointer (some ⟨n,0,none⟩)) ?_ (hc:=by exact B1 n D M P);refine FD 4 1 gh aQ ?_;refine LX 5 Y3 (.int .i64 (((i:Nat):Int))) ?_ (hc:=by exact bQ _ rfl);refine FD 6 2 gh aQ ?_;refine LX 7 Y3 (.int .i64 (((j:Nat):Int))) ?_ (hc:=by exact ji _ rfl);refine AL 8 ?_;refine CR Fq (nG n bs ((i:Nat):Int) ((j:Nat):Int)) (SM [1]) λvR HR hR=>?_
 obtain⟨hw,rfl⟩:=hR;obtain⟨_,rfl⟩:dx ((i:Nat):Int) ((j:Nat):Int)=true∧vR= .pointer (some ⟨(bs.getD (bC ((i:Nat):Int) ((j:Nat):Int)) 0),0,none⟩):=hw.resolve_right (λq=>by rw[hv]at q;cases q.1);refine EN (PD 9 ?_);refine DN (ac J2 (aa λ_ J3=>sr λ_ J4=>PS ?_));refine tp (jE rfl yO rfl rfl) ?_;refine nx J4 (CN (qx J3 (aa λ_ J5=>sr λ_ J6=>cJ (H':=[ir 208 5 (bs.getD (bC ((i:Nat):Int) ((j:Nat):Int)) 0) (List.map (lm (bC ((i:Nat):Int) ((j:Nat):Int))) l),fV 208 5 bs (cV W) (bC ((i:Nat):Int) ((j:Nat):Int)),am n (dN bs) 156,am b3 (ints (OpT.mk q ((i:Nat):Int) ((j:Nat):Int) o.key o.n o.change o.mask o.torn o.cut).flat) 30,am c (eZ n D M P) 104]) (λ_ q=>hl▸oj W (iZ hv).1▸oW hv (aD [2] rfl q)) (PS ?_))));refine CE vT (jZ (bs.getD (bC ((i:Nat):Int) ((j:Nat):Int)) 0) (List.map (lm (bC ((i:Nat):Int) ((j:Nat):Int))) l)) ID ?_;rw[cf];refine PS ?_;refine ao ?_ ?_<;>intro h23
 · exact absurd h23 (by omega)
 refine nx J6 (CN (qx J5 (aa λ_ J7=>sr λ_ J8=>FA 0 gh aQ ?_)));refine LT 3 Y3 (.int .i64 (q)) ?_ (hc:=by exact dh _ rfl);refine PS ?_;refine ao ?_ ?_<;>intro h26
 · exact absurd h26 (by omega)
 refine nx J8 (CN (qx J7 (aa λ_ J9=>aa λ_ J10=>D1 3 dK ?_)));refine FD 0 4 gh aQ ?_;refine LX 1 Y3 (.int .i64 (o.n)) ?_ (hc:=by exact yS _ rfl);refine ta 2 rfl (sS rfl rfl rfl) ?_;refine PD 3 ?_;refine PD 6 ?_;refine AL 4 ?_;refine CE vT (jZ (bs.getD (bC ((i:Nat):Int) ((j:Nat):Int)) 0) (List.map (lm (bC ((i:Nat):Int) ((j:Nat):Int))) l)) ID ?_;rw[cf];refine EN (ta 5 rfl (PV.rem (r:=(max o.n 0% ((l.length:Nat):Int))) rfl rfl rfl (by omega) (uA (by omega))) ?_);refine DN (ac J10 (aq ?_))
 refine bA (α:=(Nat)) (λk=>((k:Nat):Int)≤(max o.n 0% ((l.length:Nat):Int))) (λk=>[(0,(.pointer (some ⟨c,0,none⟩))),(3,(.pointer (some ⟨b3,0,none⟩))),(4,(.int .i64 0)),(5,(.pointer (some ⟨(bs.getD (bC ((i:Nat):Int) ((j:Nat):Int)) 0),0,none⟩))),(35,(.int .i64 ((max o.n 0% ((l.length:Nat):Int))))),(36,(.int .i64 (((k:Nat):Int))))]) (λk=>[ir 208 5 (bs.getD (bC ((i:Nat):Int) ((j:Nat):Int)) 0) (List.map (lm (bC ((i:Nat):Int) ((j:Nat):Int))) (l3 k l)),fV 208 5 bs (cV W) (bC ((i:Nat):Int) ((j:Nat):Int)),am n (dN bs) 156,am b3 (ints (OpT.mk q ((i:Nat):Int) ((j:Nat):Int) o.key o.n o.change o.mask o.torn o.cut).flat) 30,am c (eZ n D M P) 104]) (λk=>(max o.n 0% ((l.length:Nat):Int)).toNat-k) 0
     (AP _ (by omega)) SB
     (λ_ s=>aD [0,0,0,0,0] rfl s) (λk hinv=>?_)
 obtain hk:=hinv;refine sr λ_ J11=>PS ?_
 refine ao ?_ ?_<;>intro h37;refine nx J11 (aa λ_ J12=>CY (qx J12 (aa λ_ J13=>aq (ae (PS ?_)))))
 refine lL (ab rfl) rfl rfl rfl M7 rfl (ui (bs.getD (bC ((i:Nat):Int) ((j:Nat):Int)) 0) (List.map (lm (bC ((i:Nat):Int) ((j:Nat):Int))) (l3 k l)) (by rw[cf,jI];exact h8) (λx hx=>by
        obtain⟨m,_,rfl⟩:=dQ.1 hx
        exact w5 _ m)) (λ_ s=>s) (λ_ _ _=>trivial) (λvR HR hR=>?_)
 obtain rfl:=hR;rw[zK];refine au (ag (ac J13 (ae (AD ?_))));refine PS ?_;refine au ?_
 exact aK ((k+1):(Nat)) (by omega) (by show(max o.n 0% ((l.length:Nat):Int)).toNat- (k+1)< (max o.n 0% ((l.length:Nat):Int)).toNat-k;omega)
   SB
   (λ_ s=>aD [0,0,0,0,0] rfl s)
 have hkr:k=(max o.n 0% ((l.length:Nat):Int)).toNat:=by omega
 refine cJ (H':=[ir 208 5 (bs.getD (bC ((i:Nat):Int) ((j:Nat):Int)) 0) (List.map (lm (bC ((i:Nat):Int) ((j:Nat):Int))) (m::l2)),fV 208 5 bs (cV W) (bC ((i:Nat):Int) ((j:Nat):Int)),am n (dN bs) 156,am b3 (ints (OpT.mk q ((i:Nat):Int) ((j:Nat):Int) o.key o.n o.change o.mask o.torn o.cut).flat) 30,am c (eZ n D M P) 104]) (λ_ q=>by rw[hkr,ht]at q;exact q) (nx J11 (aa λ_ J14=>CN (aX (aA (aA (bu (ac J9 (aa λ_ J15=>D2 3 4 dK ?_))))))));refine PD 0 ?_;refine PD 1 ?_;refine FD 2 0 jw A8 ?_;refine LX 3 KS (.pointer (some ⟨n,0,none⟩)) ?_ (hc:=by exact B1 n D M P);refine FD 4 1 gh aQ ?_;refine LX 5 Y3 (.int .i64 (((i:Nat):Int))) ?_ (hc:=by exact bQ _ rfl);refine FD 6 2 gh aQ ?_;refine LX 7 Y3 (.int .i64 (((j:Nat):Int))) ?_ (hc:=by exact ji _ rfl);refine AL 8 ?_;refine cJ (H':=[eO 156 208 5 n (cV (W.set (bC ((i:Nat):Int) ((j:Nat):Int)) (m::l2))),am b3 (ints (OpT.mk q ((i:Nat):Int) ((j:Nat):Int) o.key o.n o.change o.mask o.torn o.cut).flat) 30,am c (eZ n D M P) 104]) (λ_ q=>qz (bs:=bs) hv hW (aD [0,0,0] rfl q)) (CR M6 (rM n (cV (W.set (bC ((i:Nat):Int) ((j:Nat):Int)) (m::l2))) ((i:Nat):Int) ((j:Nat):Int) (cq m) (List.map (lm (bC ((i:Nat):Int) ((j:Nat):Int))) l2) hv (qA _) (Gw hv hW) hm0 (by have:=tZ m;omega)) ID λvR HR hR=>?_);obtain⟨uv,rfl,rfl⟩:=hR;rw[Cw hv hW];refine EN (PD 9 ?_);refine PD 10 ?_;refine PD 11 ?_;refine PD 12 ?_;refine PD 13 ?_
 refine DN (ac J15 (aa λ_ J16=>sr λ_ J17=>FA 0 gh aQ ?_));refine LT 2 Y3 (.int .i64 (q)) ?_ (hc:=by exact dh _ rfl);refine PS ?_;refine ao ?_ ?_<;>intro h55;refine PS ?_;refine UT ?_;refine UT ?_;refine P2 ?_
 iterate 5 refine UT ?_
 refine PS ?_;refine nx J17 (CY (sr λ_ J18=>PS ?_));exact nx J18 (aj (af (WK [3,0] (aw rfl rfl ⟨rfl,rfl⟩))));refine P2 ?_;refine PS ?_;refine P3 ?_;refine FA 2 gh aQ ?_;refine LT 2 Y3 (.int .i64 (((j:Nat):Int))) ?_ (hc:=by exact ji _ rfl);refine CE Dq (tn c n j D M P hj (hk.resolve_left h55)) (SM [3]) ?_;refine PS ?_;refine PS ?_;refine nx J17 (CY (sr λ_ J19=>PS ?_));exact nx J19 (aj (af (WK [0,0] (aw rfl rfl ⟨rfl,rfl⟩))))
theorem AX(c n i:Nat)(D M P:Nat→Value)(hi:i<5)(j:Nat)(hj:j<5)(hv:dx ((i:Nat):Int) ((j:Nat):Int)=true)(W:List (List MsgT))(hW:W.length=25)(l:List MsgT)(hl:W.getD (bC ((i:Nat):Int) ((j:Nat):Int)) []=l)(h8:l.length≤8)(hlen: ∀m∈l,0< (cq m).length)(o:OpT)(m:MsgT)(l2:List MsgT)(ht:l3 (max o.n 0% ((l.length:Nat):Int)).toNat l=m::l2)(bs:List Nat)(d r:Nat)(s:MS LD)(hD:D j= .pointer (some ⟨d,0,none⟩))(hM:M j= .pointer (some ⟨r,0,none⟩))(ho:s.o=[])(hs:OkR KD s)(hto:((i:Nat):Int)≠s.id)(hrs:s.replies.length≤1000000):
    DT 59 #[(.pointer (some ⟨c,0,none⟩)),(.agg (ints (OpT.mk 5 ((i:Nat):Int) ((j:Nat):Int) o.key o.n o.change o.mask o.torn o.cut).flat).toArray)] T0 [am n (dN bs) 156,e5 208 5 bs (cV W),am c (eZ n D M P) 104,dk d s.e.D,fw s d r] (dB (λv H=>(s.e.D.dn=true∧v= .int .i64 0∧H=[am c (eZ n D M P) 104,dk d s.e.D,eO 156 208 5 n (cV ((W.set (bC ((i:Nat):Int) ((j:Nat):Int)) l2))),fw s d r])∨(s.e.D.dn=false∧(eT (cq m)).2≠0∧v= .int .i64 (eT (cq m)).2∧H=[am c (eZ n D M P) 104,dk d s.e.D,eO 156 208 5 n (cV ((W.set (bC ((i:Nat):Int) ((j:Nat):Int)) l2))),fw s d r])∨(s.e.D.dn=false∧(eT (cq m)).2=0∧v= .int .i64 0∧H=[am c (eZ n D M P) 104,dk d (gk KD s ((i:Nat):Int) (eT (cq m)).1).hush.e.D,eO 156 208 5 n (cV (it (W.set (bC ((i:Nat):Int) ((j:Nat):Int)) l2) j (gk KD s ((i:Nat):Int) (eT (cq m)).1).o)),fw (gk KD s ((i:Nat):Int) (eT (cq m)).1).hush d r]))):=by
 refine BD 91 Tryz.func59 rfl rfl rfl λw0 F hF=>?_
 have hln:0<l.length:=by
     have:=jI (max o.n 0% ((l.length:Nat):Int)).toNat l;rw[ht]at this;rw[←this];exact Nat.succ_pos _
 have hm0:0< (cq m).length:=hlen m ((nK (max o.n 0% ((l.length:Nat):Int)).toNat l).1 (ht▸cC ..));have hrl:(max o.n 0% ((l.length:Nat):Int))< ((l.length:Nat):Int):=I6 _ (by omega);refine sr λ_ J1=>XY (ints (OpT.mk 5 ((i:Nat):Int) ((j:Nat):Int) o.key o.n o.change o.mask o.torn o.cut).flat) λb3=>?_
 refine PS ?_;refine nx J1 (aa λ_ J2=>D2 0 3 dK ?_);refine PD 0 ?_;refine PD 1 ?_;refine FD 2 0 jw A8 ?_;refine LX 3 KS (.pointer (some ⟨n,0,none⟩)) ?_ (hc:=by exact B1 n D M P);refine FD 4 1 gh aQ ?_;refine LX 5 Y3 (.int .i64 (((i:Nat):Int))) ?_ (hc:=by exact bQ _ rfl);refine FD 6 2 gh aQ ?_;refine LX 7 Y3 (.int .i64 (((j:Nat):Int))) ?_ (hc:=by exact ji _ rfl);refine AL 8 ?_;refine CR Fq (nG n bs ((i:Nat):Int) ((j:Nat):Int)) (SM [1]) λvR HR hR=>?_
 obtain⟨hw,rfl⟩:=hR;obtain⟨_,rfl⟩:dx ((i:Nat):Int) ((j:Nat):Int)=true∧vR= .pointer (some ⟨(bs.getD (bC ((i:Nat):Int) ((j:Nat):Int)) 0),0,none⟩):=hw.resolve_right (λq=>by rw[hv]at q;cases q.1);refine EN (PD 9 ?_);refine DN (ac J2 (aa λ_ J3=>sr λ_ J4=>PS ?_));refine tp (jE rfl yO rfl rfl) ?_;refine nx J4 (CN (qx J3 (aa λ_ J5=>sr λ_ J6=>cJ (H':=[ir 208 5 (bs.getD (bC ((i:Nat):Int) ((j:Nat):Int)) 0) (List.map (lm (bC ((i:Nat):Int) ((j:Nat):Int))) l),fV 208 5 bs (cV W) (bC ((i:Nat):Int) ((j:Nat):Int)),am n (dN bs) 156,am b3 (ints (OpT.mk 5 ((i:Nat):Int) ((j:Nat):Int) o.key o.n o.change o.mask o.torn o.cut).flat) 30,am c (eZ n D M P) 104,dk d s.e.D,fw s d r]) (λ_ q=>hl▸oj W (iZ hv).1▸oW hv (aD [2] rfl q)) (PS ?_))));refine CE vT (jZ (bs.getD (bC ((i:Nat):Int) ((j:Nat):Int)) 0) (List.map (lm (bC ((i:Nat):Int) ((j:Nat):Int))) l)) ID ?_;rw[cf];refine PS ?_;refine ao ?_ ?_<;>intro h23
 · exact absurd h23 (by omega)
 refine nx J6 (CN (qx J5 (aa λ_ J7=>sr λ_ J8=>FA 0 gh aQ ?_)));refine LT 3 Y3 (.int .i64 5) ?_ (hc:=by exact dh _ rfl);refine PS ?_;refine nx J8 (CN (qx J7 (aa λ_ J9=>aa λ_ J10=>D1 3 dK ?_)));refine FD 0 4 gh aQ ?_;refine LX 1 Y3 (.int .i64 (o.n)) ?_ (hc:=by exact yS _ rfl);refine ta 2 rfl (sS rfl rfl rfl) ?_;refine PD 3 ?_;refine PD 6 ?_;refine AL 4 ?_;refine CE vT (jZ (bs.getD (bC ((i:Nat):Int) ((j:Nat):Int)) 0) (List.map (lm (bC ((i:Nat):Int) ((j:Nat):Int))) l)) ID ?_;rw[cf];refine EN (ta 5 rfl (PV.rem (r:=(max o.n 0% ((l.length:Nat):Int))) rfl rfl rfl (by omega) (uA (by omega))) ?_);refine DN (ac J10 (aq ?_))
 refine bA (α:=(Nat)) (λk=>((k:Nat):Int)≤(max o.n 0% ((l.length:Nat):Int))) (λk=>[(0,(.pointer (some ⟨c,0,none⟩))),(3,(.pointer (some ⟨b3,0,none⟩))),(4,(.int .i64 0)),(5,(.pointer (some ⟨(bs.getD (bC ((i:Nat):Int) ((j:Nat):Int)) 0),0,none⟩))),(35,(.int .i64 ((max o.n 0% ((l.length:Nat):Int))))),(36,(.int .i64 (((k:Nat):Int))))]) (λk=>[ir 208 5 (bs.getD (bC ((i:Nat):Int) ((j:Nat):Int)) 0) (List.map (lm (bC ((i:Nat):Int) ((j:Nat):Int))) (l3 k l)),fV 208 5 bs (cV W) (bC ((i:Nat):Int) ((j:Nat):Int)),am n (dN bs) 156,am b3 (ints (OpT.mk 5 ((i:Nat):Int) ((j:Nat):Int) o.key o.n o.change o.mask o.torn o.cut).flat) 30,am c (eZ n D M P) 104,dk d s.e.D,fw s d r]) (λk=>(max o.n 0% ((l.length:Nat):Int)).toNat-k) 0
     (AP _ (by omega)) SB
     (λ_ s=>aD [0,0,0,0,0,0,0] rfl s) (λk hinv=>?_)
 obtain hk:=hinv;refine sr λ_ J11=>PS ?_
 refine ao ?_ ?_<;>intro h37;refine nx J11 (aa λ_ J12=>CY (qx J12 (aa λ_ J13=>aq (ae (PS ?_)))))
 refine lL (ab rfl) rfl rfl rfl M7 rfl (ui (bs.getD (bC ((i:Nat):Int) ((j:Nat):Int)) 0) (List.map (lm (bC ((i:Nat):Int) ((j:Nat):Int))) (l3 k l)) (by rw[cf,jI];exact h8) (λx hx=>by
        obtain⟨m,_,rfl⟩:=dQ.1 hx
        exact w5 _ m)) (λ_ s=>s) (λ_ _ _=>trivial) (λvR HR hR=>?_)
 obtain rfl:=hR;rw[zK];refine au (ag (ac J13 (ae (AD ?_))));refine PS ?_;refine au ?_
 exact aK ((k+1):(Nat)) (by omega) (by show(max o.n 0% ((l.length:Nat):Int)).toNat- (k+1)< (max o.n 0% ((l.length:Nat):Int)).toNat-k;omega)
   SB
   (λ_ s=>aD [0,0,0,0,0,0,0] rfl s)
 have hkr:k=(max o.n 0% ((l.length:Nat):Int)).toNat:=by omega
 refine cJ (H':=[ir 208 5 (bs.getD (bC ((i:Nat):Int) ((j:Nat):Int)) 0) (List.map (lm (bC ((i:Nat):Int) ((j:Nat):Int))) (m::l2)),fV 208 5 bs (cV W) (bC ((i:Nat):Int) ((j:Nat):Int)),am n (dN bs) 156,am b3 (ints (OpT.mk 5 ((i:Nat):Int) ((j:Nat):Int) o.key o.n o.change o.mask o.torn o.cut).flat) 30,am c (eZ n D M P) 104,dk d s.e.D,fw s d r]) (λ_ q=>by rw[hkr,ht]at q;exact q) (nx J11 (aa λ_ J14=>CN (aX (aA (aA (bu (ac J9 (aa λ_ J15=>D2 3 4 dK ?_))))))));refine PD 0 ?_;refine PD 1 ?_;refine FD 2 0 jw A8 ?_;refine LX 3 KS (.pointer (some ⟨n,0,none⟩)) ?_ (hc:=by exact B1 n D M P);refine FD 4 1 gh aQ ?_;refine LX 5 Y3 (.int .i64 (((i:Nat):Int))) ?_ (hc:=by exact bQ _ rfl);refine FD 6 2 gh aQ ?_;refine LX 7 Y3 (.int .i64 (((j:Nat):Int))) ?_ (hc:=by exact ji _ rfl);refine AL 8 ?_;refine cJ (H':=[eO 156 208 5 n (cV (W.set (bC ((i:Nat):Int) ((j:Nat):Int)) (m::l2))),am b3 (ints (OpT.mk 5 ((i:Nat):Int) ((j:Nat):Int) o.key o.n o.change o.mask o.torn o.cut).flat) 30,am c (eZ n D M P) 104,dk d s.e.D,fw s d r]) (λ_ q=>qz (bs:=bs) hv hW (aD [0,0,0] rfl q)) (CR M6 (rM n (cV (W.set (bC ((i:Nat):Int) ((j:Nat):Int)) (m::l2))) ((i:Nat):Int) ((j:Nat):Int) (cq m) (List.map (lm (bC ((i:Nat):Int) ((j:Nat):Int))) l2) hv (qA _) (Gw hv hW) hm0 (by have:=tZ m;omega)) ID λvR HR hR=>?_);obtain⟨uv,rfl,rfl⟩:=hR;rw[Cw hv hW];refine EN (PD 9 ?_);refine PD 10 ?_
 refine PD 11 ?_;refine PD 12 ?_;refine PD 13 ?_;refine DN (ac J15 (aa λ_ J16=>sr λ_ J17=>FA 0 gh aQ ?_));refine LT 2 Y3 (.int .i64 5) ?_ (hc:=by exact dh _ rfl);refine P3 ?_;refine PS ?_;refine P3 ?_;refine FA 2 gh aQ ?_;refine LT 2 Y3 (.int .i64 (((j:Nat):Int))) ?_ (hc:=by exact ji _ rfl);refine CE Dq (tm c n j D M P hj d r s.e.D hD hM) (SM [3,3]) ?_;refine bf ?_ ?_<;>intro h64;refine PS ?_;refine PS ?_;refine nx J17 (CN (qx J16 (sr λ_ J18=>PS ?_)));refine CF Pp (D9 uv (cq m)) ID (BJ 3 rfl rfl) ?_;refine P3 ?_;refine XZ m9 (ints MsgT.zero.flat) λb8=>?_
 refine SW 0 cj aJ ?_;refine PS ?_;refine nx J18 (aa λ_ J19=>sr λ_ J20=>P2 ?_);refine ao ?_ ?_<;>intro h73;refine nx J20 (CY (sO (λw=>Frm F w∧w.heap[b3]?=some (.cells (ints (OpT.mk 5 ((i:Nat):Int) ((j:Nat):Int) o.key o.n o.change o.mask o.torn o.cut).flat).toArray 30 (0,0))∧w.heap[c]?=some (.cells (eZ n D M P).toArray 104 (0,0))∧w.heap[b8]?=some (.cells (ints ((eT (cq m)).1).flat).toArray 178 (0,0))∧True) dK rfl (λ_ s=>⟨fN s,s.block 5 (lb rfl) rfl,s.block 1 (lb rfl) rfl,s.block 0 (lb rfl) rfl,trivial⟩) (PD 0 ?_)));refine FD 1 2 gh aQ ?_;refine LX 2 Y3 (.int .i64 (((j:Nat):Int))) ?_ (hc:=by exact ji _ rfl);refine PD 3 ?_;refine FD 4 6 jw pJ ?_;refine IY 5 (6+j) rE iR ?_;refine LX 6 ql (.pointer (some ⟨r,0,none⟩)) ?_ (hc:=by exact(yB n D M P hj).trans (congrArg some hM));refine PD 7 ?_;refine FD 8 2 gh aQ ?_;refine LX 9 Y3 (.int .i64 (((j:Nat):Int))) ?_ (hc:=by exact ji _ rfl);refine ta 10 rfl (kP (cells:=#[(.pointer (some ⟨c,0,none⟩)),(.int .i64 (((j:Nat):Int)))]) rfl rfl (by as_aux_lemma=>kernel_rfl)) ?_;refine ta 11 rfl (qn rfl Gk rfl rfl) ?_;refine FD 12 1 gh aQ ?_;refine LX 13 Y3 (.int .i64 (((i:Nat):Int))) ?_ (hc:=by exact bQ _ rfl);refine LY 14 bk cj aJ ?_;refine AL 15 ?_
 refine cJ (H':=[cQ (yp c n d j D M P hj hD (W.set (bC ((i:Nat):Int) ((j:Nat):Int)) l2) (by rw[cK];exact hW)) r s,am b8 (ints ((eT (cq m)).1).flat) 178,hY uv (cq m) 5,am b3 (ints (OpT.mk 5 ((i:Nat):Int) ((j:Nat):Int) o.key o.n o.change o.mask o.torn o.cut).flat) 30]) (λ_ q=>Ft ho (aD [1,1,1,3] rfl q)) (CZ M5 (@A7 _ (yp c n d j D M P hj hD (W.set (bC ((i:Nat):Int) ((j:Nat):Int)) l2) (by rw[cK];exact hW)) r s ((i:Nat):Int) (eT (cq m)).1 hs (BW _) hto hrs) ID λvR=>?_);change TL _ _ _ _ _ _ _ _ _ [cQ (yp c n d j D M P hj hD (W.set (bC ((i:Nat):Int) ((j:Nat):Int)) l2) (by rw[cK];exact hW)) r (gk KD s ((i:Nat):Int) (eT (cq m)).1),am b8 (ints ((eT (cq m)).1).flat) 178,hY uv (cq m) 5,am b3 (ints (OpT.mk 5 ((i:Nat):Int) ((j:Nat):Int) o.key o.n o.change o.mask o.torn o.cut).flat) 30];refine cJ (H':=[am c (eZ n D M P) 104,dk d ((gk KD s ((i:Nat):Int) (eT (cq m)).1).e.D),eO 156 208 5 n (cV (it (W.set (bC ((i:Nat):Int) ((j:Nat):Int)) l2) j (gk KD s ((i:Nat):Int) (eT (cq m)).1).o)),fw ((gk KD s ((i:Nat):Int) (eT (cq m)).1).hush) d r,am b8 (ints ((eT (cq m)).1).flat) 178,hY uv (cq m) 5,am b3 (ints (OpT.mk 5 ((i:Nat):Int) ((j:Nat):Int) o.key o.n o.change o.mask o.torn o.cut).flat) 30]) (λ_ q=>BC (s:=(gk KD s ((i:Nat):Int) (eT (cq m)).1)) q) (EN (DN (ac J19 (sr λ_ J21=>P2 ?_))));refine nx J21 (aj (WK [0,0,0,0] (aw rfl rfl ?_)))
 exact .inr (.inr ⟨(by simpa using h64),h73,(by rw[h73]),rfl⟩);refine nx J20 (CN (qx J19 (sr λ_ J22=>P2 ?_)));refine nx J22 (aj (WK [1,1,1,3] (aw rfl rfl ?_)));exact .inr (.inl ⟨(by simpa using h64),h73,rfl,rfl⟩);refine PS ?_;refine PS ?_;refine nx J17 (CY (sr λ_ J23=>PS ?_));refine nx J23 (aj (af (WK [0,0,0,2] (aw rfl rfl ?_))));exact .inl ⟨(by simpa using h64),rfl,rfl⟩
end Go.Proofs.YtjblgopghhgflaaGreat
end

section
namespace Api
open Go Leg Codec Dsk Wal
class GdM(m:MsgT):Prop where
 kind:0≤m.kind∧m.kind≤9
class GdL(l:List SaidT):Prop where
 all: ∀x∈l,0≤x.msg.kind∧x.msg.kind≤9
theorem Kz(n:Int):0< (jg n).length:=qX _
theorem DV(n:Int)(l:List Int):0< (bj (n::l)).length:=by
 show 0< (jg n++bj l).length;rw[ai];have:=Kz n;omega
theorem NZ{m:MsgT}(h:0≤m.kind∧m.kind≤9):0< (cq m).length:=by
 have p: ∀(l:List Int) (r:List UInt8),0< (bj (m.kind::l)++r).length:=λl r=>by rw[ai];have:=DV m.kind l;omega
 unfold cq;split
 · exact p _ _
 rename_i h0;split
 · exact DV _ _
 split
 · exact p _ _
 rename_i h3;split
 · rw[aG,aG];exact p _ _
 split
 · rw[aG];exact p _ _
 split
 · exact p _ _
 split
 · exact p _ _
 · exfalso
   simp only[eD,fo,decide_eq_true_eq]at h0 h3;omega
instance (v:Int):GdM (oz v):=⟨(by decide:(0:Int)≤1∧(1:Int)≤9)⟩
instance (i:Int)(y:RowT):GdM (pS i y):=⟨(by decide:(0:Int)≤2∧(2:Int)≤9)⟩
instance (v:ViewT):GdM (jx v):=⟨(by decide:(0:Int)≤7∧(7:Int)≤9)⟩
instance (i:Int)(v:ViewT):GdM (nf i v):=⟨(by decide:(0:Int)≤8∧(8:Int)≤9)⟩
instance (i:Int)(y:RowT):GdM (fZ i y):=⟨(by decide:(0:Int)≤9∧(9:Int)≤9)⟩
instance (e:Int)(b:BallotT):GdM (fJ e b):=⟨(by decide:(0:Int)≤3∧(3:Int)≤9)⟩
instance (e:Int)(b h:BallotT)(c:ChangeT):GdM (kd e b h c):=⟨(by decide:(0:Int)≤4∧(4:Int)≤9)⟩
instance (e:Int)(b:BallotT)(c:ChangeT):GdM (iT e b c):=⟨(by decide:(0:Int)≤5∧(5:Int)≤9)⟩
instance (e:Int)(b:BallotT):GdM (ja e b):=⟨(by decide:(0:Int)≤6∧(6:Int)≤9)⟩
instance (t:Int)(m:MsgT)[h:GdM m]:GdL [⟨t,m⟩]:=⟨λx hx=>by rw[bR]at hx;subst hx;exact h.kind⟩
instance (i:Int)(m:MsgT)(p:Nat→Bool)(k:Nat)[h:GdM m]:GdL (nj i m p k):=⟨λx hx=>by
 unfold nj at hx;obtain⟨j,_,rfl⟩:=dQ.1 hx
 exact h.kind⟩
instance (x:RepT):GdL (oo x):=⟨λs hs=>by
 unfold oo at hs;rw[dQ]at hs;obtain⟨w,_,rfl⟩:=hs
 exact(show(0:Int)≤0∧(0:Int)≤9 by decide)⟩
section
variable {δ:Type} {K:Dk δ} {s0 s:MS δ}
class Qt(s0 s:MS δ):Prop where
 id:s.id=s0.id
 replies:s.replies=s0.replies
 ops:s.ops=s0.ops
 waits:s.waits=s0.waits∨s.waits=0
 o: ∃l,s.o=s0.o++l∧∀x∈l,0≤x.msg.kind∧x.msg.kind≤9
instance Qt.rfl':Qt s s:=⟨rfl,rfl,rfl, .inl rfl,[],(aR _).symm,λ_ h=>by cases h⟩
theorem Qt.trans{a b c:MS δ}(h:Qt a b)(g:Qt b c):Qt a c:=by
 obtain⟨l,e,hl⟩:=h.o;obtain⟨l2,e2,hl2⟩:=g.o;exact⟨g.id.trans h.id,g.replies.trans h.replies,g.ops.trans h.ops,g.waits.elim (λq=>h.waits.imp (q.trans ·) (q.trans ·)) .inr,l++l2,by rw[e2,e,aG],λx hx=>(bS.1 hx).elim (hl x) (hl2 x)⟩
theorem Qt.same{t:MS δ}(h:Qt s0 s)(h1:t.id=s.id)(h2:t.replies=s.replies)(h3:t.ops=s.ops)(h4:t.waits=s.waits)(h5:t.o=s.o):Qt s0 t:=
 ⟨h1.trans h.id,h2.trans h.replies,h3.trans h.ops,by rw[h4];exact h.waits,by rw[h5];exact h.o⟩
instance [h:Qt s0 s](l:List SaidT)[g:GdL l]:Qt s0 (gE K s l):=by
 refine h.trans ⟨rfl,rfl,rfl, .inl rfl,?_⟩
 by_cases q:K.dn s.e=true
 · exact⟨[],by rw[gE,if_pos q,aR],λ_ h=>by cases h⟩
 · exact⟨l,by rw[gE,if_neg q],g.all⟩
instance [h:Qt s0 s](t:Int)(m:MsgT)[GdM m]:Qt s0 (Bh K s t m):=inferInstanceAs (Qt s0 (gE K s _))
instance [h:Qt s0 s](r:RecT):Qt s0 (dw K s r):=h.same rfl rfl rfl rfl rfl
instance [h:Qt s0 s](f:Int):Qt s0 (iO s f):=h.same rfl rfl rfl rfl rfl
instance [h:Qt s0 s](w:Int)(x:RowT):Qt s0 (AN s w x):=h.same rfl rfl rfl rfl rfl
instance [h:Qt s0 s]:Qt s0 (gP s):=h.same rfl rfl rfl rfl rfl
instance [h:Qt s0 s](w:Int)(x:RowT):Qt s0 (hZ s w x):=h.same rfl rfl rfl rfl rfl
instance [h:Qt s0 s](w:Int):Qt s0 (jY s w):=h.same rfl rfl rfl rfl rfl
instance [h:Qt s0 s](x:RowT):Qt s0 (qT s x 0):=⟨h.id,h.replies,h.ops, .inr rfl,h.o⟩
instance [Qt s0 s]:Qt s0 (fg K s):=inferInstanceAs (Qt s0 (gE K s _))
instance [Qt s0 s](y:RowT):Qt s0 (k8 K s y):=inferInstanceAs (Qt s0 (gE K s _))
instance [Qt s0 s](v:ViewT):Qt s0 (l4 K s v):=inferInstanceAs (Qt s0 (gE K s _))
instance [Qt s0 s](m:MsgT)[GdM m]:Qt s0 (jt K s m):=inferInstanceAs (Qt s0 (gE K s _))
instance [Qt s0 s](x:RowT):Qt s0 (eW K s x 0).1:=by unfold eW;split<;>exact inferInstance
instance [h:Qt s0 s]:Qt s0 (lH K s):=by
 unfold lH;split
 · exact h
 split
 · exact inferInstance
 · exact h
instance [h:Qt s0 s](f:Int)(m:MsgT):Qt s0 (iB K s f m):=by
 unfold iB
 repeat' split
 all_goals exact inferInstance
instance [h:Qt s0 s](w:Int)(x:RowT):Qt s0 (mB s w x):=h.same rfl rfl rfl rfl rfl
instance [h:Qt s0 s](f w:Int)(y:RowT):Qt s0 (vA s f w y):=h.same rfl rfl rfl rfl rfl
instance [h:Qt s0 s](f:Int)(m:MsgT):Qt s0 (e8 K s f m):=by unfold e8;split<;>exact inferInstance
theorem qM[Qt s0 s]{f:MS δ→MS δ}(hf:Qt s0 (f s))(t:Int)(m:MsgT)[GdM m]:Qt s0 (mZ K f s t m):=by unfold mZ;split;exact hf;exact inferInstance
instance [h:Qt s0 s](f w:Int):Qt s0 (eR K s f w):=by
 unfold eR
 repeat' split
 · exact h
 · exact qM inferInstance _ _
 · exact inferInstance
 · exact qM inferInstance _ _
instance [h:Qt s0 s](i w:Int):Qt s0 (gG K s i w):=by
 unfold gG;split
 · exact h
 · exact qM inferInstance _ _
instance [Qt s0 s](i:Int):Qt s0 (ma K s i):=by unfold ma;exact inferInstance
theorem AE: ∀(l:List Int) (s:MS δ),Qt s0 s→Qt s0 (gz K l s)
 | [],_,h=>h
 |i::l,s,h=>AE l (ma K s i) inferInstance
instance [h:Qt s0 s]:Qt s0 (p4 K s):=AE _ _ h
instance [h:Qt s0 s](v:ViewT):Qt s0 (lG s v):=h.same rfl rfl rfl rfl rfl
instance [h:Qt s0 s](v:ViewT):Qt s0 (gN K s v):=by
 unfold gN
 repeat' split
 all_goals exact inferInstance
instance [h:Qt s0 s](f:Int)(m:MsgT):Qt s0 (jm K s f m):=by unfold jm;exact inferInstance
instance [h:Qt s0 s](c:ChangeT):Qt s0 (jy K s c):=by
 unfold jy
 repeat' split
 all_goals exact inferInstance
instance [h:Qt s0 s](n:Int):Qt s0 (dz s n):=h.same rfl rfl rfl rfl rfl
instance [h:Qt s0 s](v:VoteT):Qt s0 (lp s v):=h.same rfl rfl rfl rfl rfl
instance [h:Qt s0 s](a:AccT):Qt s0 (vu s a):=h.same rfl rfl rfl rfl rfl
instance [h:Qt s0 s](f:Int)(m:MsgT):Qt s0 (kC K f m s):=by
 unfold kC;split
 · exact h
 · split<;>exact inferInstance
theorem tf[h:Qt s0 s]{f:MS δ→MS δ}(hf: ∀s:MS δ,Qt s0 s→Qt s0 (f s))(w:Int)(m:MsgT):Qt s0 (eU K f s w m):=by
 unfold eU
 repeat' split
 · exact inferInstance
 · exact h
 · exact h
 · exact hf _ inferInstance
instance [Qt s0 s](w:Int)(m:MsgT):Qt s0 (pH K s w m):=tf (λ_ _=>inferInstance) w m
instance [h:Qt s0 s](w:Int)(m:MsgT):Qt s0 (kE K w m s):=by unfold kE;exact qM inferInstance _ _
instance [h:Qt s0 s](w:Int)(m:MsgT):Qt s0 (m5 K w m s):=by
 unfold m5
 repeat' split
 all_goals exact inferInstance
instance [Qt s0 s](w:Int)(m:MsgT):Qt s0 (qG K s w m):=tf (λ_ _=>inferInstance) w m
theorem vN[h:Qt s0 s]{f:MS δ→MsgT→MS δ}{m:MsgT}[GdM m](hf: ∀s:MS δ,Qt s0 s→Qt s0 (f s m)):Qt s0 (jc K f s m):=by
 unfold jc;split
 · exact hf _ inferInstance
 · exact inferInstance
instance [h:Qt s0 s](vt:VoteT):Qt s0 (jM K s vt):=vN λ_ _=>inferInstance
instance [h:Qt s0 s](f:Int)(m:MsgT):Qt s0 (oJ K f m s):=by
 unfold oJ;split
 · exact h
 · split<;>exact inferInstance
instance [Qt s0 s](w:Int)(m:MsgT):Qt s0 (pI K s w m):=tf (λ_ _=>inferInstance) w m
instance [h:Qt s0 s](w:Int)(m:MsgT)(a:AccT):Qt s0 (mD K w m a s):=by unfold mD;exact qM inferInstance _ _
instance [h:Qt s0 s](w:Int)(m:MsgT):Qt s0 (n4 K w m s):=by
 unfold n4
 repeat' split
 all_goals exact inferInstance
instance [Qt s0 s](w:Int)(m:MsgT):Qt s0 (qH K s w m):=tf (λ_ _=>inferInstance) w m
instance [h:Qt s0 s](vt:VoteT):Qt s0 (lC K s vt):=vN λ_ _=>inferInstance
instance [h:Qt s0 s](vt:VoteT):Qt s0 (m6 K s vt):=by unfold m6;split<;>exact inferInstance
instance [h:Qt s0 s](c:ChangeT):Qt s0 (nZ K s c):=by unfold nZ;exact inferInstance
instance [h:Qt s0 s](c:ChangeT):Qt s0 (cF K s c).1:=by
 unfold cF
 repeat' split
 all_goals exact inferInstance
instance [h:Qt s0 s]:Qt s0 (bT K s):=by unfold bT;split<;>exact inferInstance
instance [h:Qt s0 s]:Qt s0 (cd K s):=by unfold cd;split<;>exact inferInstance
instance [h:Qt s0 s]:Qt s0 (gj K s):=by unfold gj;split<;>exact inferInstance
instance [h:Qt s0 s]:Qt s0 (o7 K s):=by
 unfold o7;split
 · exact h
 · repeat' split
   all_goals exact inferInstance
instance [h:Qt s0 s]:Qt s0 (gU K s):=by unfold gU;split<;>exact inferInstance
structure Rp(s0 s:MS δ)(l:List ReplyT):Prop where
 id:s.id=s0.id
 replies:s.replies=s0.replies++l
 o: ∃l,s.o=s0.o++l∧∀x∈l,0≤x.msg.kind∧x.msg.kind≤9
theorem Qt.rp(h:Qt s0 s):Rp s0 s []:=⟨h.id,by rw[h.replies,aR],h.o⟩
theorem Rp.then{l:List ReplyT}{t:MS δ}(h:Rp s0 s l)(g:Qt s t):Rp s0 t l:=by
 obtain⟨l1,e,hl⟩:=h.o;obtain⟨l2,e2,hl2⟩:=g.o;exact⟨g.id.trans h.id,g.replies.trans h.replies,l1++l2,by rw[e2,e,aG],λx hx=>(bS.1 hx).elim (hl x) (hl2 x)⟩
theorem Jr(s:MS δ)(f:Int)(m:MsgT):Qt s (dv K s f m)∨(0<s.waits∧Rp s (dv K s f m) [⟨s.waits,0,0⟩]∧(dv K s f m).waits=0∧(dv K s f m).ops=s.ops):=by
 unfold dv;split
 · split
   · by_cases hw:0<s.waits
     · right
       have e:lS (gP (iO s f))= {dI (gP (iO s f)) s.waits 0 0 with waits:=0}:=zG (s:=gP (iO s f)) hw;have q:Qt (lS (gP (iO s f))) (kL K (iO s f)):=by unfold kL;exact inferInstance
       have hw0:(lS (gP (iO s f))).waits=0:=by rw[e]
       refine⟨hw,Rp.then (s:=lS (gP (iO s f))) ?_ q,(q.waits.elim (·.trans hw0) id),q.ops.trans (by rw[e];rfl)⟩;rw[e];exact⟨rfl,rfl,[],(aR _).symm,λ_ h=>by cases h⟩
     · left
       unfold kL;rw[zH (s:=gP (iO s f)) hw];exact inferInstance
   · left;exact inferInstance
 · left;exact inferInstance
theorem Gv(s:MS δ)(f:Int)(m:MsgT):Qt s (gk K s f m)∨(0<s.waits∧Rp s (gk K s f m) [⟨s.waits,0,0⟩]∧(gk K s f m).waits=0∧(gk K s f m).ops=s.ops):=by
 unfold gk
 by_cases h1:m.kind=1
 · rw[if_neg (by omega),if_pos h1];exact Jr s f m
 · left
   rw[if_neg h1]
   repeat' split
   all_goals exact inferInstance
theorem Mb(s:MS δ)(x:RowT)(op:Int):((eW K s x op).2≠0∧Qt s (eW K s x op).1)∨((eW K s x op).2=0∧Rp s (eW K s x op).1 []∧(eW K s x op).1.waits=op∧(eW K s x op).1.ops=s.ops):=by
 unfold eW;split
 · rename_i h;exact .inl ⟨h,inferInstance⟩
 · right
   have q:Qt (qT (dw K s (dT x)) x op) (fg K (qT (dw K s (dT x)) x op)):=inferInstance;refine⟨rfl,Rp.then (s:=qT (dw K s (dT x)) x op) ⟨rfl,(aR _).symm,[],(aR _).symm,λ_ h=>by cases h⟩ q,?_,q.ops⟩;show(fg K _).waits=_;rfl
theorem AA(s:MS δ)(o:OpT):(∃e v,Rp s (ca K s o).1 [⟨gr (s.ops+1),e,v⟩]∧(ca K s o).2=e∧(ca K s o).1.ops=gr (s.ops+1)∧((ca K s o).1.waits=s.waits∨(ca K s o).1.waits=0))∨(Rp s (ca K s o).1 []∧(ca K s o).2=0∧(ca K s o).1.ops=gr (s.ops+1)∧(ca K s o).1.waits=gr (s.ops+1)):=by
 have e0:Rp s (bP s) []:=⟨rfl,(aR _).symm,[],(aR _).symm,λ_ h=>by cases h⟩
 have rep: ∀(t:MS δ) (op e v:Int),Qt (bP s) t→op=gr (s.ops+1)→Rp s (dI t op e v) [⟨gr (s.ops+1),e,v⟩]∧(dI t op e v).ops=gr (s.ops+1)∧((dI t op e v).waits=s.waits∨(dI t op e v).waits=0):=λt op e v h ho=>by
  subst ho;obtain⟨l,e1,hl⟩:=h.o;exact⟨⟨h.id,by show t.replies++_=_;rw[h.replies];rfl,l,e1,hl⟩,h.ops,h.waits⟩
 unfold ca;split
 · left
   unfold dH;split
   · obtain⟨a,b,c⟩:=rep (bP s) _ (gy (bP s) o.change) 0 inferInstance rfl
     exact⟨_,_,a,rfl,b,c⟩
   · split
     · obtain⟨a,b,c⟩:=rep (cF K (bP s) o.change).1 _ (cF K (bP s) o.change).2 0 inferInstance rfl
       exact⟨_,_,a,rfl,b,c⟩
     · obtain⟨a,b,c⟩:=rep (cF K (bP s) o.change).1 _ 0 0 inferInstance rfl
       have q:Qt (dI (cF K (bP s) o.change).1 (bP s).ops 0 0) (m6 K (dI (cF K (bP s) o.change).1 (bP s).ops 0 0) (kU (bP s).view (e7 (bP s)) o.change)):=inferInstance;exact⟨_,_,a.then q,rfl,q.ops.trans b,q.waits.elim (λw=>c.imp (w.trans ·) (w.trans ·)) .inr⟩
 · unfold oT
   split
   · left
     obtain⟨a,b,c⟩:=rep (bP s) _ (dm (bP s) o).2.2 (dm (bP s) o).2.1 inferInstance rfl;exact⟨_,_,a,rfl,b,c⟩
   · rcases Mb (K:=K) (bP s) (dm (bP s) o).1 (bP s).ops with⟨h,q⟩| ⟨h,q,hw,ho⟩
     · rw[if_pos h]
       left;obtain⟨a,b,c⟩:=rep _ _ (eW K (bP s) (dm (bP s) o).1 (bP s).ops).2 0 q rfl;exact⟨_,_,a,rfl,b,c⟩
     · rw[if_neg (by omega)]
       right;obtain⟨l,e1,hl⟩:=q.o;exact⟨⟨q.id,q.replies,l,e1,hl⟩,rfl,ho,hw⟩
end
def Slot.pend(x:Slot):Nat:=match x.run with
 |some s=>if 0<s.waits then 1 else 0
 |none=>0
structure SlotOk(i n:Nat)(x:Slot):Prop where
 run: ∀s,x.run=some s→OkR KD s∧s.id=((i:Nat):Int)∧s.o=[]
 D:x.run=none→DkOk x.D
 reps:x.reps.length+x.pend≤n
structure CLOk(n:Nat)(a:CL):Prop where
 ms:a.ms.length=5
 W:a.W.length=25
 at': ∀i,i<5→SlotOk i n (a.at' i)
 way: ∀k,(a.W.getD k []).length≤8∧∀m∈a.W.getD k [],0< (cq m).length
structure OkOp(o:OpT):Prop where
 change:OkCh o.change
 n:o.n≤9223372036854775807
theorem SlotOk.dk{i n:Nat}{x:Slot}(h:SlotOk i n x):DkOk x.dk:=by
 unfold Slot.dk;split
 · rename_i s q;exact(h.run s q).1.e.dk
 · rename_i q;exact h.D q
theorem SlotOk.more{i n k:Nat}{x:Slot}(h:SlotOk i n x)(hk:n≤k):SlotOk i k x:=⟨h.run,h.D,zC h.reps hk⟩
theorem CLOk.more{n k:Nat}{a:CL}(h:CLOk n a)(hk:n≤k):CLOk k a:=⟨h.ms,h.W,λi hi=>(h.at' i hi).more hk,h.way⟩
theorem sM{ms:List Slot}{W:List (List MsgT)}{i:Nat}{x:Slot}(h:i<ms.length):(CL.mk (ms.set i x) W).at' i=x:=by
 unfold CL.at';rw[List.getD_eq_getElem?_getD,List.getElem?_set_self h];rfl
theorem um{ms:List Slot}{W:List (List MsgT)}{i j:Nat}{x:Slot}(h:j≠i):(CL.mk (ms.set i x) W).at' j=ms.getD j .nil:=by
 unfold CL.at';rw[List.getD_eq_getElem?_getD,List.getElem?_set_ne (λe=>h e.symm),←List.getD_eq_getElem?_getD]
theorem CLOk.put{n k i:Nat}{a:CL}(h:CLOk n a)(hk:n≤k)(hi:i<5){x:Slot}(hx:SlotOk i k x){W:List (List MsgT)}(hW:W.length=25)(hw: ∀k,(W.getD k []).length≤8∧∀m∈W.getD k [],0< (cq m).length):CLOk k ⟨a.ms.set i x,W⟩:=
 ⟨by show(a.ms.set i x).length=5;rw[cK];exact h.ms,hW,λj hj=>by
  by_cases q:j=i
  · subst q;rw[sM (by rw[h.ms];exact hi)];exact hx
  · rw[um q];exact(h.at' j hj).more hk,hw⟩
theorem LM{W:List (List MsgT)}(hw: ∀k,(W.getD k []).length≤8∧∀m∈W.getD k [],0< (cq m).length)(f:Nat)(s:SaidT)(hs:0< (cq s.msg).length): ∀k,((qP W f s).getD k []).length≤8∧∀m∈(qP W f s).getD k [],0< (cq m).length:=λk=>by
 unfold qP;split
 · by_cases q:k=bC ((f:Nat):Int) s.to'
   · subst q
     by_cases hl:bC ((f:Nat):Int) s.to'<W.length
     · rw[List.getD_eq_getElem?_getD,List.getElem?_set_self hl]
       obtain⟨h1,h2⟩:=hw (bC ((f:Nat):Int) s.to');simp only[Mx];split
       · refine⟨by rw[ai,fc];omega,λm hm=>?_⟩
         rcases bS.1 hm with hm|hm
         · exact h2 m hm
         · rw[bR]at hm;subst hm;exact hs
       · exact⟨h1,h2⟩
     · rw[n7 (by omega)];exact hw _
   · rw[List.getD_eq_getElem?_getD,List.getElem?_set_ne (λe=>q e.symm),←List.getD_eq_getElem?_getD];exact hw k
 · exact hw k
theorem C5(f:Nat): ∀(l:List SaidT) {W:List (List MsgT)},(∀x∈l,0< (cq x.msg).length)→(∀k,(W.getD k []).length≤8∧∀m∈W.getD k [],0< (cq m).length)→∀k,((it W f l).getD k []).length≤8∧∀m∈(it W f l).getD k [],0< (cq m).length
 | [],_,_,hw=>hw
 |s::l,W,hl,hw=>C5 f l (W:=qP W f s) (λx hx=>hl x (cU _ hx)) (LM hw f s (hl s (cC ..)))
theorem Dh(W:List (List MsgT))(f:Nat)(s:SaidT):(qP W f s).length=W.length:=by unfold qP;split<;>simp
theorem tB(f:Nat): ∀(l:List SaidT) (W:List (List MsgT)),(it W f l).length=W.length
 | [],_=>rfl
 |s::l,W=>(tB f l _).trans (Dh W f s)
theorem Ma{s:MS LD}(h:OkR KD s):OkR KD s.hush:=⟨h.e,h.id,h.view,h.own,h.mir,h.book,h.last,h.acc,h.vote⟩
def owe(s:MS LD):Nat:=if 0<s.waits then 1 else 0
theorem CLOk.did{n i k:Nat}{a:CL}(h:CLOk n a)(hk:n≤k)(hi:i<5){s s':MS LD}(hs:(a.at' i).run=some s)(h':OkR KD s'){l:List ReplyT}(r:Rp s s' l)(hl:l.length+owe s'+n≤k+owe s):CLOk k (a.did i s'):=by
 obtain⟨h1,h2,h3⟩:=(h.at' i hi).run s hs;obtain⟨lo,e,hlo⟩:=r.o;rw[h3,bb]at e;refine h.put hk hi ⟨λt q=>?_,(λq=>by cases q),?_⟩ (by rw[tB];exact h.W) (C5 i _ (λx hx=>NZ (hlo x (by rw[←e];exact hx))) h.way)
 · obtain rfl:=cw q
   exact⟨Ma h',r.id.trans h2,rfl⟩
 · have:=(h.at' i hi).reps
   unfold Slot.reps Slot.pend at this ⊢;rw[hs]at this;show((a.at' i).past++s'.replies).length+(if 0<s'.waits then 1 else 0)≤k;rw[r.replies];unfold owe at hl;simp only[ai]at this ⊢;omega
theorem Qt.owe{s s':MS LD}(q:Qt s s'):Api.owe s'≤Api.owe s:=by
 unfold Api.owe;rcases q.waits with e|e
 · rw[e];exact aI _
 · rw[e];exact aN _
theorem Oz(s:MS LD):owe s≤1:=by unfold owe;split<;>omega
theorem CLOk.quiet{n i:Nat}{a:CL}(h:CLOk n a)(hi:i<5){s s':MS LD}(hs:(a.at' i).run=some s)(h':OkR KD s')(q:Qt s s'):CLOk n (a.did i s'):=
 h.did (aI _) hi hs h' q.rp (by have:=q.owe;show 0+_+n≤_;omega)
theorem CLOk.onway{n k:Nat}{a:CL}(h:CLOk n a){l:List MsgT}(hl:l.length≤8∧∀m∈l,0< (cq m).length):CLOk n (a.way k l):=
 ⟨h.ms,by show(a.W.set k l).length=25;rw[cK];exact h.W,h.at',λj=>by
  show((a.W.set k l).getD j []).length≤8∧_
  by_cases q:j=k
  · subst q
    by_cases hk:j<a.W.length
    · show((a.W.set j l).getD j []).length≤8∧∀m∈(a.W.set j l).getD j [],_
      rw[List.getD_eq_getElem?_getD,List.getElem?_set_self hk];exact hl
    · show((a.W.set j l).getD j []).length≤8∧∀m∈(a.W.set j l).getD j [],_
      rw[n7 (by omega)];exact h.way j
  · show((a.W.set k l).getD j []).length≤8∧∀m∈(a.W.set k l).getD j [],_
    rw[List.getD_eq_getElem?_getD,List.getElem?_set_ne (λe=>q e.symm),←List.getD_eq_getElem?_getD];exact h.way j⟩
theorem lE{w:Int}(h:je w=true):w.toNat<5∧((w.toNat:Nat):Int)=w:=by
 have:0≤w∧w<5:=of_decide_eq_true h;omega
theorem Mm{n f t:Nat}{a:CL}(h:CLOk n a)(ht:t<5)(m:MsgT):CLOk n (uh a f t m).1:=by
 unfold uh;split
 · exact h
 · rename_i s hs
   split
   · exact h
   · split
     · obtain⟨h1,_,_⟩:=(h.at' t ht).run s hs
       have hm:=BW (cq m);rcases Gv (K:=KD) s ((f:Nat):Int) (eT (cq m)).1 with q| ⟨hw,q,q2,_⟩
       · exact h.quiet ht hs inferInstance q
       · refine h.did (aI _) ht hs inferInstance q ?_
         unfold owe;rw[q2,if_pos hw];show 1+(if(0:Int)<0 then 1 else 0)+n≤n+1;rw[if_neg (by omega)];omega
     · exact h
theorem Nl{n:Nat}{a:CL}(h:CLOk n a)(o:OpT):CLOk n (pE a o).1:=by
 unfold pE;split
 · exact h
 · rename_i hv
   have hv:dx o.at' o.to'=true:=by simpa using hv
   have hw:=h.way (bC o.at' o.to');split
   · exact h
   · rename_i m l hl
     rw[hl]at hw;split
     · split
       · refine h.onway ⟨?_,λx hx=>?_⟩
         · rename_i q
           unfold Jh at q;have q:=of_decide_eq_true q;unfold EC;rw[if_pos q,ai,fc];omega
         · unfold EC at hx
           split at hx
           · rcases bS.1 hx with hx|hx
             · exact hw.2 x hx
             · rw[bR]at hx;subst hx;exact hw.2 _ (cC ..)
           · exact hw.2 x hx
       · exact h
     · split
       · exact h
       · rename_i m2 l2 hl2
         have hlen:=jI (max o.n 0% ((m::l).length:Int)).toNat (m::l);have hmem:=λx=>(nK (x:=x) (max o.n 0% ((m::l).length:Int)).toNat (m::l)).1
         rw[hl2]at hlen hmem;have g:CLOk n (a.way (bC o.at' o.to') l2):=h.onway ⟨by simp only[ax]at hlen hw;omega,λx hx=>hw.2 x (hmem x (cU _ hx))⟩
         have ht:o.to'.toNat<5:=by
          unfold dx at hv;rw[av,av]at hv;exact(lE hv.1.2).1
         split
         · exact g
         · exact Mm g ht m2
theorem CH{n i:Nat}(hi:i<5){x:Slot}(h:SlotOk i n x):SlotOk i n (il i x).1:=by
 unfold il;split
 · exact h
 · rename_i hr
   have hD:=h.D hr;refine⟨λs q=>?_,λ_=>hD.open.1,?_⟩
   · obtain⟨h1,f⟩:=uN hi hD q
     exact⟨h1,f.id,f.o⟩
   · have:=h.reps
     unfold Slot.reps Slot.pend at this ⊢;rw[hr,aR]at this;show(x.past++match(cD i x.D).1 with|some s=>s.replies|none=>[]).length+(match(cD i x.D).1 with|some s=>if 0<s.waits then 1 else 0|none=>0)≤n;cases q:(cD i x.D).1 with
     |some s=>
      have f:=(uN hi hD q).2;simp only[f.replies,f.waits,aR]
      simpa using this
     |none=>simpa using this
theorem arm_ok{n i:Nat}{x:Slot}(h:SlotOk i n x){k:Int}(hk:k≤9223372036854775807):SlotOk i n (uo x k):=by
 unfold uo;split
 · rename_i s hs
   obtain⟨h1,h2,h3⟩:=h.run s hs;refine⟨λt q=>?_,(λq=>by cases q),?_⟩
   · obtain rfl:=cw q
     exact⟨⟨⟨h1.e.dk.arm k hk,h1.e.used,h1.e.cnt⟩,h1.id,h1.view,h1.own,h1.mir,h1.book,h1.last,h1.acc,h1.vote⟩,h2,h3⟩
   · have:=h.reps
     unfold Slot.reps Slot.pend at this ⊢;rw[hs]at this;exact this
 · rename_i hr
   refine⟨λt q=>?_,λ_=>(h.D hr).arm k hk,?_⟩
   · rw[show x.run=some t from q]at hr;cases hr
   · have:=h.reps
     unfold Slot.reps Slot.pend at this ⊢;rw[hr]at this;simp only[hr];exact this
theorem crash_ok{n i:Nat}{x:Slot}(h:SlotOk i n x)(mask torn cut:Int):SlotOk i n (oP x mask torn cut):=
 ⟨(λt q=>by cases q),λ_=>h.dk.crash mask torn cut,by
  have:=h.reps;show(x.reps++[]).length+0≤n
  rw[aR];omega⟩
theorem FQ{n:Nat}{a:CL}(h:CLOk n a){o:OpT}(ho:OkOp o)(hk: ¬(0≤o.kind∧o.kind≤4)):CLOk n (Cg a o).1:=by
 unfold Cg;split
 · exact h
 rename_i hm;have hm:je o.at'=true:=by simpa using hm
 have hi:=(lE hm).1;split
 · exact Nl h o
 split
 · unfold ES
   split
   · exact h
   · rename_i s hs
     split
     · exact h
     · obtain⟨h1,_,_⟩:=(h.at' _ hi).run s hs
       exact h.quiet hi hs inferInstance inferInstance
 split
 · exact h.put (aI _) hi (arm_ok (h.at' _ hi) ho.n) h.W h.way
 split
 · exact h.put (aI _) hi (crash_ok (h.at' _ hi) _ _ _) h.W h.way
 split
 · exact h.put (aI _) hi (CH hi (h.at' _ hi)) h.W h.way
 · exact h
theorem KA{n:Nat}{a:CL}(h:CLOk n a){o:OpT}(ho:OkOp o):CLOk (n+1) (Cg a o).1:=by
 by_cases hk:0≤o.kind∧o.kind≤4
 · unfold Cg
   split
   · exact h.more (by omega)
   rename_i hm;have hm:je o.at'=true:=by simpa using hm
   have hi:=(lE hm).1;unfold F7;split
   · exact h.more (by omega)
   · rename_i s hs
     split
     · exact h.more (by omega)
     · obtain⟨h1,_,_⟩:=(h.at' _ hi).run s hs
       have:=ho.change;rcases AA (K:=KD) s o with⟨e,v,q,_,_,w⟩| ⟨q,_⟩
       · refine h.did (by omega) hi hs inferInstance q ?_
         have:owe (ca KD s o).1≤owe s:=by
          unfold owe;rcases w with e|e
          · rw[e];exact aI _
          · rw[e];exact aN _
         show 1+_+n≤_;omega
       · refine h.did (by omega) hi hs inferInstance q ?_
         have:=Oz (ca KD s o).1;show 0+_+n≤_;omega
 · exact(FQ h ho hk).more (by omega)
theorem new_ok:CLOk 0 CL.new:=by
 refine⟨by simp[CL.new],by simp[CL.new],λi hi=>?_,λk=>?_⟩
 · have e:CL.new.at' i=pT i:=by simp[CL.new,CL.at',List.getD_eq_getElem?_getD,hi]
   rw[e];exact CH hi ⟨(λs q=>by cases q),λ_=>DkOk.new,aI _⟩
 · have e:CL.new.W.getD k []=[]:=by
    show(List.replicate 25 ([]:List MsgT)).getD k []=[];rw[List.getD_eq_getElem?_getD,List.getElem?_replicate];split<;>rfl
   rw[e];exact⟨aN _,λm hm=>by cases hm⟩
theorem Fa: ∀(l:List OpT) {n:Nat} {a:CL},CLOk n a→(∀o∈l,OkOp o)→CLOk (n+l.length) (eC a l)
 | [],_,_,h,_=>h
 |o::l,n,a,h,ho=>by
  have:=Fa l (KA h (ho o (cC ..))) λx hx=>ho x (cU _ hx)
  rw[ax,show n+(l.length+1)=n+1+l.length by omega];exact this
end Api
end

section
namespace Go.Proofs.YtjblgopghhgflaaGreat
open Go Leg Codec Api Dsk Wal
theorem uT{f:Nat→HP}{k i:Nat}(hi:i<k){H:List HP}{h:Hl}(s:bH (bH ((List.range k).map f)::H) h):bH (f i::bH (((List.range k).map f).eraseIdx i)::H) h:=by
 have s1:bH ((List.range k).map f++H) h:=(ck _ _).2 s;have e:((List.range k).map f).getD i (λ_=>True)=f i:=by simp[List.getD_eq_getElem?_getD,hi]
 have p:=nS (λ_=>True) ((List.range k).map f) i (by simpa using hi);rw[e]at p;exact cO (eG (p.append_right H) s1) (λ_ a=>a) λ_ b=>(ck _ _).1 b
theorem uS{f g:Nat→HP}{k i:Nat}(hi:i<k)(hg: ∀j,j≠i→g j=f j){H:List HP}{h:Hl}(s:bH (g i::bH (((List.range k).map f).eraseIdx i)::H) h):bH (bH ((List.range k).map g)::H) h:=by
 have e0:((List.range k).map g).eraseIdx i=((List.range k).map f).eraseIdx i:=by
  refine List.ext_getElem? λj=>?_
  rw[List.getElem?_eraseIdx,List.getElem?_eraseIdx]
  have: ∀m,m≠i→((List.range k).map g)[m]?=((List.range k).map f)[m]?:=λm hm=>by
   rw[List.getElem?_map,List.getElem?_map]
   by_cases hk:m<k
   · simp[hk,hg m hm]
   · simp[hk]
  split
  · exact this j (by omega)
  · exact this (j+1) (by omega)
 have e:((List.range k).map g).getD i (λ_=>True)=g i:=by simp[List.getD_eq_getElem?_getD,hi]
 have p:=nS (λ_=>True) ((List.range k).map g) i (by simpa using hi);rw[e,e0]at p;have s2:bH ((g i::((List.range k).map f).eraseIdx i)++H) h:=cO s (λ_ a=>a) λ_ b=>(ck _ _).2 b
 exact(ck _ _).1 (eG (p.symm.append_right H) s2)
section
variable {f:FuncId} {args:Array Value} {Q:Value→Prop} {c i:Nat} {a a':CL}
theorem BY(hi:i<5){Z:Value→CL→Prop}(hne: ∀v a',Z v a'→∀j,j≠i→a'.at' j=a.at' j)
 (core: ∀g:CX,DT f args T0 (am c (eZ g.n (nu g) (kI a g.r) g.p) 104::eO 156 208 5 g.n (cV a.W)::la (a.at' i) (g.d i) (g.r i) (g.p i))
  (dB λv H=>∃a',Z v a'∧∃g':CX,g'.n=g.n∧(∀j,j≠i→g'.d j=g.d j∧g'.r j=g.r j∧g'.p j=g.p j)∧H=am c (eZ g.n (nu g') (kI a' g'.r) g'.p) 104::eO 156 208 5 g.n (cV a'.W)::la (a'.at' i) (g'.d i) (g'.r i) (g'.p i))):
 DT f args T0 [gq c a] (dB λv H=>∃a',Z v a'∧H=[gq c a']):=by
 refine Leg.Does.ex (A':=λg:CX=>(am c (eZ g.n (nu g) (kI a g.r) g.p) 104::eO 156 208 5 g.n (cV a.W)::la (a.at' i) (g.d i) (g.r i) (g.p i))++[bH (((List.range 5).map λi=>lv (a.at' i) (g.d i) (g.r i) (g.p i)).eraseIdx i)]) (λh s=>?_) λg=>?_
 · obtain⟨g,s⟩:=fT s
   have s2:=uT (f:=λi=>lv (a.at' i) (g.d i) (g.r i) (g.p i)) hi (aD [2,0,0] rfl s);have s3:=(ck (la (a.at' i) (g.d i) (g.r i) (g.p i)) _).2 s2;exact⟨g,aD [4,4,0,0,0,0] rfl s3⟩
 · refine Leg.Does.withinR (core g) (λ_ _ _ _=>trivial) (λh s=>s) λv H hp=>?_
   obtain⟨a',hz,g',hn,hg,rfl⟩:=hp;refine⟨[gq c a'],λh s=>?_,a',hz,rfl⟩;have s1:=aD [2,2,2,2,0,0] rfl s;have s2:=(ck (la (a'.at' i) (g'.d i) (g'.r i) (g'.p i)) _).1 s1
   have s3:=uS (f:=λi=>lv (a.at' i) (g.d i) (g.r i) (g.p i)) (g:=λi=>lv (a'.at' i) (g'.d i) (g'.r i) (g'.p i)) hi (λj hj=>by
    obtain⟨h1,h2,h3⟩:=hg j hj
    rw[hne v a' hz j hj,h1,h2,h3]) s2
   refine br (p:=rR c a') g' ?_;rw[←hn]at s3;exact aD [1,1,0] rfl s3
theorem x8(hne: ∀j,j≠i→a'.at' j=a.at' j)(r:Nat→Nat)(hi:zc (a'.at' i) (r i)=zc (a.at' i) (r i)):kI a' r=kI a r:=funext λj=>by
 by_cases q:j=i
 · subst q;exact hi
 · show zc (a'.at' j) (r j)=zc (a.at' j) (r j)
   rw[hne j q]
theorem F4(hl:a.ms.length=5)(hi:i<5){s:MS LD}(hs:(a.at' i).run=some s){R:Value→MS LD→List (List MsgT)→Prop}
 (core: ∀g:CX,kI a g.r i= .pointer (some ⟨g.r i,0,none⟩)→DT f args T0 [am c (eZ g.n (nu g) (kI a g.r) g.p) 104,dk (g.d i) s.e.D,eO 156 208 5 g.n (cV a.W),fw s (g.d i) (g.r i)]
  (dB λv H=>∃s' W',R v s' W'∧H=[am c (eZ g.n (nu g) (kI a g.r) g.p) 104,dk (g.d i) s'.e.D,eO 156 208 5 g.n (cV W'),fw s' (g.d i) (g.r i)])):
 DT f args T0 [gq c a] (dB λv H=>∃a',(∃s' W',R v s' W'∧a'=⟨a.ms.set i {a.at' i with run:=some s'},W'⟩)∧H=[gq c a']):=by
 refine BY hi (λv a' hz j hj=>?_) λg=>?_
 · obtain⟨s',W',_,rfl⟩:=hz
   exact um hj
 · have em:kI a g.r i= .pointer (some ⟨g.r i,0,none⟩):=by show zc (a.at' i) _=_;unfold zc;rw[hs]
   have e1:rD (a.at' i) (g.d i) (g.r i)=fw s (g.d i) (g.r i):=by unfold rD;rw[hs]
   have e2:(a.at' i).dk=s.e.D:=by unfold Slot.dk;rw[hs]
   refine Leg.Does.withinR (B:=[ni (g.p i) (a.at' i).past]) (core g em) (λ_ _ _ _=>trivial) (λh q=>?_) λv H hp=>?_
   · unfold la at q
     rw[e1,e2]at q;exact aD [0,1,0,1,0] rfl q
   · obtain⟨s',W',hR,rfl⟩:=hp
     have ea:(CL.mk (a.ms.set i {a.at' i with run:=some s'}) W').at' i= {a.at' i with run:=some s'}:=sM (by rw[hl];exact hi);have hm:kI ⟨a.ms.set i {a.at' i with run:=some s'},W'⟩ g.r=kI a g.r:=x8 (λj hj=>um hj) g.r (by rw[ea];unfold zc;rw[hs]);refine⟨_,λh q=>?_,_,⟨s',W',hR,rfl⟩,g,rfl,λ_ _=>⟨rfl,rfl,rfl⟩,rfl⟩;rw[hm,ea];exact aD [0,1,0,1,0] rfl q
theorem BX(core: ∀g:CX,DT f args T0 [am c (eZ g.n (nu g) (kI a g.r) g.p) 104] (dB λv H=>Q v∧H=[am c (eZ g.n (nu g) (kI a g.r) g.p) 104])):
 DT f args T0 [gq c a] (dB λv H=>Q v∧H=[gq c a]):=by
 refine Leg.Does.ex (A':=λg:CX=>[am c (eZ g.n (nu g) (kI a g.r) g.p) 104]++[eO 156 208 5 g.n (cV a.W),bH ((List.range 5).map λi=>lv (a.at' i) (g.d i) (g.r i) (g.p i))]) (λh s=>fT s) λg=>?_
 refine Leg.Does.withinR (core g) (λ_ _ _ _=>trivial) (λh s=>s) λv H hp=>?_
 obtain⟨hQ,rfl⟩:=hp;exact⟨[gq c a],λh s=>br (p:=rR c a) g s,hQ,rfl⟩
theorem KE{R:Value→List (List MsgT)→Prop}(core: ∀g:CX,DT f args T0 [am c (eZ g.n (nu g) (kI a g.r) g.p) 104,eO 156 208 5 g.n (cV a.W)] (dB λv H=>∃W',R v W'∧H=[am c (eZ g.n (nu g) (kI a g.r) g.p) 104,eO 156 208 5 g.n (cV W')])):
 DT f args T0 [gq c a] (dB λv H=>∃W',R v W'∧H=[gq c ⟨a.ms,W'⟩]):=by
 refine Leg.Does.ex (A':=λg:CX=>[am c (eZ g.n (nu g) (kI a g.r) g.p) 104,eO 156 208 5 g.n (cV a.W)]++[bH ((List.range 5).map λi=>lv (a.at' i) (g.d i) (g.r i) (g.p i))]) (λh s=>fT s) λg=>?_
 refine Leg.Does.withinR (core g) (λ_ _ _ _=>trivial) (λh s=>s) λv H hp=>?_
 obtain⟨W',hR,rfl⟩:=hp;exact⟨[gq c ⟨a.ms,W'⟩],λh s=>br (p:=rR c ⟨a.ms,W'⟩) g s,W',hR,rfl⟩
theorem Mi(hl:a.ms.length=5)(hi:i<5){x:Slot}(hm: ∀r,zc x r=zc (a.at' i) r)(hr: ∀d r,rD x d r=rD (a.at' i) d r)(hp:x.past=(a.at' i).past)
 (core: ∀g:CX,DT f args T0 [am c (eZ g.n (nu g) (kI a g.r) g.p) 104,dk (g.d i) (a.at' i).dk] (dB λv H=>Q v∧H=[am c (eZ g.n (nu g) (kI a g.r) g.p) 104,dk (g.d i) x.dk])):
 DT f args T0 [gq c a] (dB λv H=>∃a',(Q v∧a'=a.set i x)∧H=[gq c a']):=by
 have ea:(a.set i x).at' i=x:=sM (by rw[hl];exact hi);refine BY hi (λv a' hz j hj=>by rw[hz.2];exact um hj) λg=>?_
 refine Leg.Does.withinR (B:=[eO 156 208 5 g.n (cV a.W),ni (g.p i) (a.at' i).past,rD (a.at' i) (g.d i) (g.r i)]) (core g) (λ_ _ _ _=>trivial) (λh q=>aD [0,1,0,0,0] rfl q) λv H hq=>?_
 obtain⟨hQ,rfl⟩:=hq;have hmm:kI (a.set i x) g.r=kI a g.r:=x8 (λj hj=>um hj) g.r (by rw[show(CL.mk (a.ms.set i x) a.W).at' i=x from ea];exact hm _);refine⟨_,λh q=>?_,_,⟨hQ,rfl⟩,g,rfl,λ_ _=>⟨rfl,rfl,rfl⟩,rfl⟩;rw[hmm,ea];unfold la;rw[hp,hr];exact aD [0,1,0,0,0] rfl q
end
theorem mp{f:FuncId}{args:Array Value}{R:Hl→Prop}{A:List HP}{p q:Value→List HP→Prop}(d:DT f args R A (dB p))(k: ∀v H,p v H→q v H):DT f args R A (dB q):=
 Leg.Does.fold d λe H hp=>by
  cases e with
  |returned v=>exact⟨H,λ_ s=>s,k v H hp⟩
  |panicked c=>exact hp.elim
  |outgrown=>exact hp.elim
theorem qK{H:List HP}{h:Hl}(s:bH H h):bH ((λ_=>True)::H) h:=⟨em,h,Ez h,(rP h).symm,trivial,s⟩
theorem xm{α:Type}{l:List α}{k:Nat}{d:α}(h:k<l.length):l.set k (l.getD k d)=l:=by
 refine List.ext_getElem? λj=>?_
 by_cases q:j=k
 · subst q;rw[List.getElem?_set_self h,List.getD_eq_getElem?_getD,List.getElem?_eq_getElem h];rfl
 · rw[List.getElem?_set_ne (λe=>q e.symm)]
section
variable {n c i:Nat} {a:CL} {o:OpT}
theorem C1(h:CLOk n a)(hi:i<5):a.set i (a.at' i)=a:=by
 show CL.mk (a.ms.set i (a.ms.getD i .nil)) a.W=a;rw[xm (by rw[h.ms];exact hi)]
theorem xB(h:CLOk n a)(hi:i<5){s:MS LD}(hs:(a.at' i).run=some s):(CL.mk (a.ms.set i {a.at' i with run:=some s}) a.W)=a:=by
 have e:({a.at' i with run:=some s}:Slot)=a.at' i:=by cases q:a.at' i with|mk r D p=>rw[q]at hs;simp only at hs;rw[hs]
 rw[e];exact C1 h hi
theorem pR{k:Int}(hk:o.kind=k)(hi:o.at'=((i:Nat):Int)):OpT.mk k ((i:Nat):Int) o.to' o.key o.n o.change o.mask o.torn o.cut=o:=by subst hk;rw[←hi]
theorem tM{k:Int}{j:Nat}(hk:o.kind=k)(hi:o.at'=((i:Nat):Int))(hj:o.to'=((j:Nat):Int)):OpT.mk k ((i:Nat):Int) ((j:Nat):Int) o.key o.n o.change o.mask o.torn o.cut=o:=by subst hk;rw[←hi,←hj]
theorem x7{g:CX}{s:MS LD}(hs:(a.at' i).run=some s):kI a g.r i= .pointer (some ⟨g.r i,0,none⟩):=by show zc (a.at' i) _=_;unfold zc;rw[hs]
theorem po{g:CX}(hs:(a.at' i).run=none):kI a g.r i= .pointer none:=by show zc (a.at' i) _=_;unfold zc;rw[hs]
theorem GW{a':CL}{r r':Nat→Nat}{v:Value}(hne: ∀j,j≠i→a'.at' j=a.at' j)(hr: ∀j,j≠i→r' j=r j)(hv:zc (a'.at' i) (r' i)=v):kI a' r'=lO (kI a r) i v:=funext λj=>by
 by_cases q:j=i
 · subst q;rw[jG];exact hv
 · rw[nJ _ _ q]
   show zc (a'.at' j) (r' j)=zc (a.at' j) (r j);rw[hne j q,hr j q]
theorem KF(h:CLOk n a)(hn:n≤100000)(hi:i<5)(hat:o.at'=((i:Nat):Int))(hk:0≤o.kind∧o.kind≤4)(ho:OkOp o):DT 17 #[.pointer (some ⟨c,0,none⟩), .agg (ints o.flat).toArray] T0 [gq c a] (dB λv H=>v= .int .i64 (F7 a i o).2∧H=[gq c (F7 a i o).1]):=by
 have eo:=pR (o:=o) rfl hat;cases hr:(a.at' i).run with
 |none=>
  refine mp (BX (Q:=λv=>v= .int .i64 4) λg=>?_) λv H hp=>?_
  · have:=D7 c g.n i (nu g) (kI a g.r) g.p hi (po hr) o o.kind hk
    rw[eo]at this;exact this
  · unfold F7;rw[hr];exact hp
 |some s=>
  obtain⟨hs,_,hso⟩:=(h.at' i hi).run s hr;have hrep:=(h.at' i hi).reps;unfold Slot.reps at hrep;rw[hr,ai]at hrep;simp only at hrep;refine mp (F4 h.ms hi hr (R:=λv s' W'=>(s.e.D.dn=true∧v= .int .i64 4∧s'=s∧W'=a.W)∨(s.e.D.dn=false∧v= .int .i64 (ca KD s o).2∧s'=(ca KD s o).1.hush∧W'=it a.W i (ca KD s o).1.o)) λg em=>?_) λv H hp=>?_
  · have:=FX c g.n i (nu g) (kI a g.r) g.p hi (g.d i) (g.r i) s rfl em a.W h.W hso hs o o.kind hk ho.change (by omega)
    rw[eo]at this;refine mp this λv H hp=>?_
    rcases hp with⟨hd,rfl,rfl⟩| ⟨hd,rfl,rfl⟩
    · exact⟨s,a.W, .inl ⟨hd,rfl,rfl,rfl⟩,rfl⟩
    · exact⟨_,_, .inr ⟨hd,rfl,rfl,rfl⟩,rfl⟩
  · obtain⟨a',⟨s',W',hR,rfl⟩,rfl⟩:=hp
    unfold F7;rw[hr];rcases hR with⟨hd,rfl,rfl,rfl⟩| ⟨hd,rfl,rfl,rfl⟩
    · simp only[hd,if_true];exact⟨by first|rfl|trivial,by rw[xB h hi hr]⟩
    · simp only[hd];exact⟨rfl,rfl⟩
theorem Jm(h:CLOk n a)(hi:i<5)(hat:o.at'=((i:Nat):Int))(hk:o.kind=8):DT 17 #[.pointer (some ⟨c,0,none⟩), .agg (ints o.flat).toArray] T0 [gq c a] (dB λv H=>v= .int .i64 (ES a i).2∧H=[gq c (ES a i).1]):=by
 have eo:=pR (o:=o) hk hat;cases hr:(a.at' i).run with
 |none=>
  refine mp (BX (Q:=λv=>v= .int .i64 4) λg=>?_) λv H hp=>?_
  · have:=D5 c g.n i (nu g) (kI a g.r) g.p hi (po hr) o
    rw[eo]at this;exact this
  · unfold ES;rw[hr];exact hp
 |some s=>
  obtain⟨hs,_,hso⟩:=(h.at' i hi).run s hr;refine mp (F4 h.ms hi hr (R:=λv s' W'=>(s.e.D.dn=true∧v= .int .i64 4∧s'=s∧W'=a.W)∨(s.e.D.dn=false∧v= .int .i64 0∧s'=(gU KD s).hush∧W'=it a.W i (gU KD s).o)) λg em=>?_) λv H hp=>?_
  · have:=FS c g.n i (nu g) (kI a g.r) g.p hi (g.d i) (g.r i) s rfl em a.W h.W hso hs o
    rw[eo]at this;refine mp this λv H hp=>?_
    rcases hp with⟨hd,rfl,rfl⟩| ⟨hd,rfl,rfl⟩
    · exact⟨s,a.W, .inl ⟨hd,rfl,rfl,rfl⟩,rfl⟩
    · exact⟨_,_, .inr ⟨hd,rfl,rfl,rfl⟩,rfl⟩
  · obtain⟨a',⟨s',W',hR,rfl⟩,rfl⟩:=hp
    unfold ES;rw[hr];rcases hR with⟨hd,rfl,rfl,rfl⟩| ⟨hd,rfl,rfl,rfl⟩
    · simp only[hd,if_true];exact⟨by first|rfl|trivial,by rw[xB h hi hr]⟩
    · simp only[hd];exact⟨rfl,rfl⟩
theorem KQ(h:CLOk n a)(hi:i<5)(hat:o.at'=((i:Nat):Int))(hk:o.kind=9):DT 17 #[.pointer (some ⟨c,0,none⟩), .agg (ints o.flat).toArray] T0 [gq c a] (dB λv H=>v= .int .i64 0∧H=[gq c (a.set i (uo (a.at' i) o.n))]):=by
 have eo:=pR (o:=o) hk hat
 have ed:(uo (a.at' i) o.n).dk=(a.at' i).dk.arm o.n:=by
  unfold uo Slot.dk;cases hr:(a.at' i).run with
  |none=>simp only[hr]
  |some s=>rfl
 refine mp (Mi (x:=uo (a.at' i) o.n) (Q:=λv=>v= .int .i64 0) h.ms hi (λr=>?_) (λd r=>?_) ?_ λg=>?_) λv H hp=>?_
 · unfold uo zc
   cases hr:(a.at' i).run with
   |none=>simp only[hr]
   |some s=>rfl
 · unfold uo rD
   cases hr:(a.at' i).run with
   |none=>simp only[hr]
   |some s=>rfl
 · unfold uo;split<;>rfl
 · have:=FZ c g.n i (nu g) (kI a g.r) g.p hi (g.d i) rfl (a.at' i).dk o
   rw[eo]at this;rw[ed];exact this
 · obtain⟨a',⟨rfl,rfl⟩,rfl⟩:=hp
   exact⟨rfl,rfl⟩
theorem F6(h:CLOk n a)(hn:n≤100000)(hi:i<5)(hat:o.at'=((i:Nat):Int))(hk:o.kind=10):DT 17 #[.pointer (some ⟨c,0,none⟩), .agg (ints o.flat).toArray] T0 [gq c a] (dB λv H=>v= .int .i64 0∧H=[gq c (a.set i (oP (a.at' i) o.mask o.torn o.cut))]):=by
 have eo:=pR (o:=o) hk hat;have so:=h.at' i hi;have hrep:=so.reps;unfold Slot.reps at hrep;rw[ai]at hrep;have ea:(a.set i (oP (a.at' i) o.mask o.torn o.cut)).at' i=oP (a.at' i) o.mask o.torn o.cut:=sM (by rw[h.ms];exact hi);have hne: ∀j,j≠i→(a.set i (oP (a.at' i) o.mask o.torn o.cut)).at' j=a.at' j:=λj hj=>um hj
 refine mp (BY (Z:=λv a'=>v= .int .i64 0∧a'=a.set i (oP (a.at' i) o.mask o.torn o.cut)) hi (λv a' hz j hj=>by rw[hz.2];exact hne j hj) λg=>?_) λv H hp=>by obtain⟨_,⟨rfl,rfl⟩,rfl⟩:=hp;exact⟨rfl,rfl⟩
 have fin: ∀u,u.oneCell'=true→∀h,bH ([am c (eZ g.n (nu g) (lO (kI a g.r) i (.pointer none)) (lO g.p i u)) 104,dk (g.d i) ((a.at' i).dk.crash o.mask o.torn o.cut),ni u (a.at' i).reps]++[eO 156 208 5 g.n (cV a.W)]) h→
  bH (am c (eZ g.n (nu {g with p:=lO g.p i u}) (kI (a.set i (oP (a.at' i) o.mask o.torn o.cut)) g.r) (lO g.p i u)) 104::eO 156 208 5 g.n (cV (a.set i (oP (a.at' i) o.mask o.torn o.cut)).W)::la ((a.set i (oP (a.at' i) o.mask o.torn o.cut)).at' i) (g.d i) (g.r i) (lO g.p i u i)) h:=λu _ hh q=>by
  rw[GW (a:=a) (i:=i) (v:= .pointer none) (r:=g.r) hne (λ_ _=>rfl) (by rw[ea];rfl),ea,jG];have q2:=qK (aD [0,2,0,0] rfl q);exact aD [1,1,1,1,0] rfl q2
 cases hr:(a.at' i).run with
 |none=>
  have er:(a.at' i).reps=(a.at' i).past:=by unfold Slot.reps;rw[hr,aR]
  have:=FW c g.n i (nu g) (kI a g.r) g.p hi (g.d i) rfl (po hr) (a.at' i).past (by omega) (a.at' i).dk so.dk.ok o;rw[eo]at this;refine Leg.Does.withinR (B:=[eO 156 208 5 g.n (cV a.W)]) this (λ_ _ _ _=>trivial) (λhh q=>?_) λv H hp=>?_
  · exact ak [0,1,1,0] rfl q
  · obtain⟨u,hu,rfl,rfl⟩:=hp
    refine⟨_,λhh q=>fin u hu hh ?_,_,⟨rfl,rfl⟩,{g with p:=lO g.p i u},rfl,λj hj=>⟨rfl,rfl,nJ _ _ hj⟩,rfl⟩;rw[er];exact q
 |some s=>
  rw[hr]at hrep;simp only at hrep;have er:(a.at' i).reps=(a.at' i).past++s.replies:=by unfold Slot.reps;rw[hr]
  have e1:rD (a.at' i) (g.d i) (g.r i)=fw s (g.d i) (g.r i):=by unfold rD;rw[hr]
  have:=FV c g.n i (nu g) (kI a g.r) g.p hi (g.d i) rfl (g.r i) s (x7 hr) (a.at' i).past (by omega) (by omega) (a.at' i).dk so.dk.ok o;rw[eo]at this;refine Leg.Does.withinR (B:=[eO 156 208 5 g.n (cV a.W)]) this (λ_ _ _ _=>trivial) (λhh q=>?_) λv H hp=>?_
  · unfold la at q
    rw[e1]at q;exact aD [0,1,1,1,0] rfl q
  · obtain⟨u,hu,rfl,rfl⟩:=hp
    refine⟨_,λhh q=>fin u hu hh ?_,_,⟨rfl,rfl⟩,{g with p:=lO g.p i u},rfl,λj hj=>⟨rfl,rfl,nJ _ _ hj⟩,rfl⟩;rw[er];exact q
end
section
variable {n c i:Nat} {a:CL} {o:OpT}
theorem CS{i:Nat}{D:DS}{s:MS LD}(h:(cD i D).1=some s):(cD i D).2=0:=by
 obtain⟨h1,h2⟩:=oq h;unfold cD;rw[if_neg (by rw[h1];decide),h2]
theorem CU(h:CLOk n a)(hi:i<5)(hat:o.at'=((i:Nat):Int))(hk:o.kind=11):DT 17 #[.pointer (some ⟨c,0,none⟩), .agg (ints o.flat).toArray] T0 [gq c a] (dB λv H=>v= .int .i64 (il i (a.at' i)).2∧H=[gq c (a.set i (il i (a.at' i)).1)]):=by
 have eo:=pR (o:=o) hk hat;have so:=h.at' i hi;cases hr:(a.at' i).run with
 |some s=>
  have e:il i (a.at' i)=(a.at' i,5):=by unfold il;rw[hr]
  rw[e,show a.set i (a.at' i,(5:Int)).1=a from C1 h hi];refine BX (Q:=λv=>v= .int .i64 5) λg=>?_
  have:=FT c g.n i (nu g) (kI a g.r) g.p hi (g.r i) (x7 hr) o;rw[eo]at this;exact this
 |none=>
  have e:il i (a.at' i)=({a.at' i with run:=(cD i (a.at' i).D).1,D:=(bJ (a.at' i).D).D},(cD i (a.at' i).D).2):=by unfold il;rw[hr]
  have hD:=so.D hr;have ed:(a.at' i).dk=(a.at' i).D:=by unfold Slot.dk;rw[hr]
  have e1: ∀d r,rD (a.at' i) d r= λ_=>True:=λd r=>by unfold rD;rw[hr]
  have hst: ∀x:Slot,(a.set i x).at' i=x:=λx=>sM (by rw[h.ms];exact hi)
  have hne: ∀x:Slot,∀j,j≠i→(a.set i x).at' j=a.at' j:=λx j hj=>um hj
  refine mp (BY (Z:=λv a'=>v= .int .i64 (il i (a.at' i)).2∧a'=a.set i (il i (a.at' i)).1) hi (λv a' hz j hj=>by rw[hz.2];exact hne _ j hj) λg=>?_) λv H hp=>by obtain⟨_,⟨rfl,rfl⟩,rfl⟩:=hp;exact⟨rfl,rfl⟩
  have:=FU c g.n i (nu g) (kI a g.r) g.p hi (g.d i) rfl (po hr) (a.at' i).D hD o;rw[eo]at this;refine Leg.Does.withinR (B:=[eO 156 208 5 g.n (cV a.W),ni (g.p i) (a.at' i).past]) this (λ_ _ _ _=>trivial) (λhh q=>?_) λv H hp=>?_
  · unfold la at q
    rw[ed]at q;exact ak [0,1,0,0] rfl q
  · rcases hp with⟨hn,rfl,rfl⟩| ⟨s,r,hn,rfl,rfl⟩
    · refine⟨_,λhh q=>?_,_,⟨by rw[e],rfl⟩,g,rfl,λj hj=>⟨rfl,rfl,rfl⟩,rfl⟩
      rw[hst,e];have em:kI (a.set i {a.at' i with run:=(cD i (a.at' i).D).1,D:=(bJ (a.at' i).D).D}) g.r=kI a g.r:=x8 (hne _) g.r (by rw[hst];unfold zc;rw[hr];simp only[hn]);rw[em];have q2:=qK (aD [0,1,0,0] rfl q);have q3:=aD [1,1,1,1,0] rfl q2;unfold la Slot.dk rD;simp only[hn];exact q3
    · refine⟨_,λhh q=>?_,_,⟨by rw[e];simp only[CS hn],rfl⟩,{g with r:=lO g.r i r},rfl,λj hj=>⟨rfl,nJ _ _ hj,rfl⟩,rfl⟩
      rw[hst,e];have em:kI (a.set i {a.at' i with run:=(cD i (a.at' i).D).1,D:=(bJ (a.at' i).D).D}) (lO g.r i r)=lO (kI a g.r) i (.pointer (some ⟨r,0,none⟩)):=GW (hne _) (λj hj=>nJ _ _ hj) (by rw[hst,jG];unfold zc;simp only[hn]);rw[em];have q3:=aD [0,2,1,1,0] rfl q;unfold la Slot.dk rD;simp only[hn,jG];exact q3
theorem Hn(h:CLOk n a)(hn:n≤100000)(hi:i<5)(hat:o.at'=((i:Nat):Int))(hk:o.kind=5∨o.kind=6∨o.kind=7):DT 59 #[.pointer (some ⟨c,0,none⟩), .agg (ints o.flat).toArray] T0 [gq c a] (dB λv H=>v= .int .i64 (pE a o).2∧H=[gq c (pE a o).1]):=by
 cases hv:dx o.at' o.to' with
 |false=>
  have e:pE a o=(a,5):=by unfold pE;rw[if_pos hv]
  rw[e];have eo:=pR (o:=o) rfl hat;refine mp (KE (R:=λv W'=>v= .int .i64 5∧W'=a.W) λg=>?_) λv H hp=>by obtain⟨_,⟨rfl,rfl⟩,rfl⟩:=hp;exact⟨rfl,rfl⟩
  refine Leg.Does.ex (A':=λbs:List Nat=>[am c (eZ g.n (nu g) (kI a g.r) g.p) 104,am g.n (dN bs) 156]++[e5 208 5 bs (cV a.W)]) (λhh q=>?_) λbs=>?_
  · obtain⟨bs,q⟩:=fT (eG (List.Perm.swap _ _ _) q)
    exact⟨bs,aD [2,0,0] rfl q⟩
  · rw[hat]at hv
    have:=Cs c g.n i (nu g) (kI a g.r) g.p hi o.to' o.kind o hv bs;rw[eo]at this;refine Leg.Does.withinR this (λ_ _ _ _=>trivial) (λhh q=>q) λv H hp=>?_
    obtain⟨rfl,rfl⟩:=hp;refine⟨_,λhh q=>?_,a.W,⟨rfl,rfl⟩,rfl⟩;exact eG (List.Perm.swap _ _ _) (br (p:=λbs:List Nat=>[am g.n (dN bs) 156,e5 208 5 bs (cV a.W)]) bs (aD [1,1,0] rfl q))
 |true=>
  obtain⟨j,hto⟩: ∃j:Nat,o.to'=((j:Nat):Int):=⟨o.to'.toNat,((lE (tk hv).2).2).symm⟩;have hj:j<5:=by have:=(lE (tk hv).2).1;rw[hto]at this;simpa using this
  have hv2:dx ((i:Nat):Int) ((j:Nat):Int)=true:=by rw[←hat,←hto];exact hv
  have eK:bC o.at' o.to'=bC ((i:Nat):Int) ((j:Nat):Int):=by rw[hat,hto]
  have hij:((i:Nat):Int)≠((j:Nat):Int):=λe=>by
   unfold dx at hv2;rw[decide_eq_true e]at hv2;simp at hv2
  obtain⟨h8,hlen⟩:=h.way (bC ((i:Nat):Int) ((j:Nat):Int));have hkl:bC ((i:Nat):Int) ((j:Nat):Int)<a.W.length:=by rw[h.W];exact(iZ hv2).1
  -- the net alone
  have net: ∀{R:Value→List (List MsgT)→Prop},(∀(g:CX) (bs:List Nat),Leg.Does Tryz.prog 59 #[.pointer (some ⟨c,0,none⟩), .agg (ints o.flat).toArray] (λ_=>True) [am g.n (dN bs) 156,e5 208 5 bs (cV a.W),am c (eZ g.n (nu g) (kI a g.r) g.p) 104] (dB λv H=>∃W',R v W'∧H=[am c (eZ g.n (nu g) (kI a g.r) g.p) 104,eO 156 208 5 g.n (cV W')]))→
   Leg.Does Tryz.prog 59 #[.pointer (some ⟨c,0,none⟩), .agg (ints o.flat).toArray] (λ_=>True) [gq c a] (dB λv H=>∃W',R v W'∧H=[gq c ⟨a.ms,W'⟩]):=λcore=>KE λg=>Leg.Does.ex (A':=λbs:List Nat=>[am g.n (dN bs) 156,e5 208 5 bs (cV a.W),am c (eZ g.n (nu g) (kI a g.r) g.p) 104]) (λhh q=>fT (eG (List.Perm.swap _ _ _) q)) (core g)
  cases hl:a.W.getD (bC ((i:Nat):Int) ((j:Nat):Int)) []with
  |nil=>
   have e:pE a o=(a,10):=by unfold pE;rw[if_neg (by rw[hv];decide),eK,hl]
   rw[e];refine mp (net (R:=λv W'=>v= .int .i64 10∧W'=a.W) λg bs=>?_) λv H hp=>by obtain⟨_,⟨rfl,rfl⟩,rfl⟩:=hp;exact⟨rfl,rfl⟩
   have:=AW c g.n i (nu g) (kI a g.r) g.p hi j hj hv2 a.W h.W _ rfl h8 hlen o o.kind hl bs;rw[tM rfl hat hto,xm hkl]at this;exact mp this λv H hp=>⟨a.W,⟨hp.1,rfl⟩,hp.2⟩
  |cons m0 l0=>
   by_cases h7:o.kind=7
   · have e:pE a o=(a.way (bC ((i:Nat):Int) ((j:Nat):Int)) (EC (m0::l0)),if Jh (m0::l0)then 0 else 3):=by
      unfold pE;rw[if_neg (by rw[hv];decide),eK,hl];simp only[if_pos h7];split
      · rfl
      · rename_i q
        have q2:EC (m0::l0)=m0::l0:=by unfold EC;unfold Jh at q;rw[if_neg (by simpa using q)]
        rw[q2];show(a,(3:Int))=(CL.mk a.ms (a.W.set _ (m0::l0)),3);rw[←hl,xm hkl]
     rw[e];refine mp (net (R:=λv W'=>v= .int .i64 (if Jh (m0::l0)then 0 else 3)∧W'=a.W.set (bC ((i:Nat):Int) ((j:Nat):Int)) (EC (m0::l0))) λg bs=>?_) λv H hp=>by obtain⟨_,⟨rfl,rfl⟩,rfl⟩:=hp;exact⟨rfl,rfl⟩
     have:=yX c g.n i (nu g) (kI a g.r) g.p hi j hj hv2 a.W h.W (m0::l0) hl (by rw[←hl];exact h8) (by rw[←hl];exact hlen) o (by simp) bs;rw[tM h7 hat hto]at this;exact mp this λv H hp=>⟨_,⟨hp.1,rfl⟩,hp.2⟩
   · cases ht:l3 (max o.n 0% ((m0::l0).length:Int)).toNat (m0::l0)with
     |nil=>have:=jI (max o.n 0% ((m0::l0).length:Int)).toNat (m0::l0);rw[ht]at this;simp at this
     |cons m l2=>
      by_cases h6:o.kind=6
      · have e:pE a o=(a.way (bC ((i:Nat):Int) ((j:Nat):Int)) l2,0):=by
         unfold pE;rw[if_neg (by rw[hv];decide),eK,hl];simp only[if_neg h7];rw[ht];simp only[if_pos h6]
        rw[e];refine mp (net (R:=λv W'=>v= .int .i64 0∧W'=a.W.set (bC ((i:Nat):Int) ((j:Nat):Int)) l2) λg bs=>?_) λv H hp=>by obtain⟨_,⟨rfl,rfl⟩,rfl⟩:=hp;exact⟨rfl,rfl⟩
        have:=s8 c g.n i (nu g) (kI a g.r) g.p hi j hj hv2 a.W h.W (m0::l0) hl (by rw[←hl];exact h8) (by rw[←hl];exact hlen) o m l2 ht bs 6 (.inr rfl) (.inl rfl);rw[tM h6 hat hto]at this;exact mp this λv H hp=>⟨_,⟨hp.1,rfl⟩,hp.2⟩
      · have h5:o.kind=5:=by omega
        have e:pE a o=uh (a.way (bC ((i:Nat):Int) ((j:Nat):Int)) l2) i j m:=by
         unfold pE;rw[if_neg (by rw[hv];decide),eK,hl];simp only[if_neg h7];rw[ht];simp only[if_neg h6];rw[hat,hto];rfl
        rw[e];have ew:(a.way (bC ((i:Nat):Int) ((j:Nat):Int)) l2).at' j=a.at' j:=rfl;cases hr:(a.at' j).run with
        |none=>
         have e2:uh (a.way (bC ((i:Nat):Int) ((j:Nat):Int)) l2) i j m=(a.way (bC ((i:Nat):Int) ((j:Nat):Int)) l2,0):=by unfold uh;rw[ew,hr]
         rw[e2];refine mp (net (R:=λv W'=>v= .int .i64 0∧W'=a.W.set (bC ((i:Nat):Int) ((j:Nat):Int)) l2) λg bs=>?_) λv H hp=>by obtain⟨_,⟨rfl,rfl⟩,rfl⟩:=hp;exact⟨rfl,rfl⟩
         have:=s8 c g.n i (nu g) (kI a g.r) g.p hi j hj hv2 a.W h.W (m0::l0) hl (by rw[←hl];exact h8) (by rw[←hl];exact hlen) o m l2 ht bs 5 (.inl rfl) (.inr (po hr));rw[tM h5 hat hto]at this;exact mp this λv H hp=>⟨_,⟨hp.1,rfl⟩,hp.2⟩
        |some s=>
         obtain⟨hs,hid,hso⟩:=(h.at' j hj).run s hr;have hrep:=(h.at' j hj).reps;unfold Slot.reps at hrep;rw[hr,ai]at hrep;simp only at hrep;have W2:(a.W.set (bC ((i:Nat):Int) ((j:Nat):Int)) l2).length=25:=by rw[cK];exact h.W
         refine mp (F4 h.ms hj hr (R:=λv s' W'=>(s.e.D.dn=true∧v= .int .i64 0∧s'=s∧W'=a.W.set (bC ((i:Nat):Int) ((j:Nat):Int)) l2)∨(s.e.D.dn=false∧(eT (cq m)).2≠0∧v= .int .i64 (eT (cq m)).2∧s'=s∧W'=a.W.set (bC ((i:Nat):Int) ((j:Nat):Int)) l2)∨(s.e.D.dn=false∧(eT (cq m)).2=0∧v= .int .i64 0∧s'=(gk KD s ((i:Nat):Int) (eT (cq m)).1).hush∧W'=it (a.W.set (bC ((i:Nat):Int) ((j:Nat):Int)) l2) j (gk KD s ((i:Nat):Int) (eT (cq m)).1).o)) λg em=>?_) λv H hp=>?_
         · refine Leg.Does.ex (A':=λbs:List Nat=>[am g.n (dN bs) 156,e5 208 5 bs (cV a.W),am c (eZ g.n (nu g) (kI a g.r) g.p) 104,dk (g.d j) s.e.D,fw s (g.d j) (g.r j)]) (λhh q=>fT (aD [2,0,0,0] rfl q)) λbs=>?_
           have:=AX c g.n i (nu g) (kI a g.r) g.p hi j hj hv2 a.W h.W (m0::l0) hl (by rw[←hl];exact h8) (by rw[←hl];exact hlen) o m l2 ht bs (g.d j) (g.r j) s rfl em hso hs (by rw[hid];exact hij) (by omega);rw[tM h5 hat hto]at this;refine mp this λv H hp=>?_
           rcases hp with⟨hd,rfl,rfl⟩| ⟨hd,h1,rfl,rfl⟩| ⟨hd,h1,rfl,rfl⟩
           · exact⟨_,_, .inl ⟨hd,rfl,rfl,rfl⟩,rfl⟩
           · exact⟨_,_, .inr (.inl ⟨hd,h1,rfl,rfl,rfl⟩),rfl⟩
           · exact⟨_,_, .inr (.inr ⟨hd,h1,rfl,rfl,rfl⟩),rfl⟩
         · obtain⟨a',⟨s',W',hR,rfl⟩,rfl⟩:=hp
           have er: ∀W',CL.mk (a.ms.set j {a.at' j with run:=some s}) W'=CL.mk a.ms W':=λW'=>by
            have:=congrArg CL.ms (xB h hj hr);rw[show a.ms.set j {a.at' j with run:=some s}=a.ms from this]
           unfold uh;rw[ew,hr];rcases hR with⟨hd,rfl,rfl,rfl⟩| ⟨hd,h1,rfl,rfl,rfl⟩| ⟨hd,h1,rfl,rfl,rfl⟩
           · simp only[hd,if_true];exact⟨by first|rfl|trivial,by rw[er];rfl⟩
           · simp only[hd,if_neg h1];exact⟨by first|rfl|trivial,by rw[er];rfl⟩
           · simp only[hd,if_pos h1];exact⟨by first|rfl|trivial,rfl⟩
end
theorem FY(c:Nat)(X:HP)(o:OpT)(hm:je o.at'=false):
 DT 17 #[(.pointer (some ⟨c,0,none⟩)),(.agg (ints o.flat).toArray)] T0 [X] (RI (.int .i64 5) [X]):=by
 refine BD 114 Tryz.func17 rfl rfl rfl λw0 F hF=>sr λ_ J1=>XY (ints o.flat) λb3=>?_
 refine PS ?_;refine nx J1 (aa λ_ J2=>sr λ_ J3=>PS ?_);refine FA 1 gh aQ ?_;refine LU 0 Y3 (bQ o rfl) ?_;refine CE qQ (xN c o.at') ID ?_;rw[hm];refine PS ?_;refine nx J3 (CY (sr λ_ J4=>PS ?_));exact nx J4 (aj (af (WK [1] (aw rfl rfl ⟨rfl,rfl⟩))))
theorem FR(c i:Nat)(hi:i<5)(X:HP)(o:OpT)(k:Int)(hk:k=5∨k=6∨k=7)(p:Int→HP→Prop)(hw:DT 59 #[(.pointer (some ⟨c,0,none⟩)),(.agg (ints (OpT.mk k ((i:Nat):Int) o.to' o.key o.n o.change o.mask o.torn o.cut).flat).toArray)] T0 [X] (dB (λv H=>∃e X',v= .int .i64 e∧H=[X']∧p e X'))):
 DT 17 #[(.pointer (some ⟨c,0,none⟩)),(.agg (ints (OpT.mk k ((i:Nat):Int) o.to' o.key o.n o.change o.mask o.torn o.cut).flat).toArray)] T0 [X] (dB (λv H=>∃e X',v= .int .i64 e∧H=[X']∧p e X')):=by
 refine BD 114 Tryz.func17 rfl rfl rfl λw0 F hF=>sr λ_ J1=>XY (ints (OpT.mk k ((i:Nat):Int) o.to' o.key o.n o.change o.mask o.torn o.cut).flat) λb3=>?_
 refine PS ?_;refine nx J1 (aa λ_ J2=>sr λ_ J3=>PS ?_);refine FA 1 gh aQ ?_;refine LT 0 Y3 (.int .i64 (((i:Nat):Int))) ?_ (hc:=by exact bQ _ rfl);refine CE qQ (eb c i hi) ID ?_;refine PS ?_;refine nx J3 (CN (qx J2 (aa λ_ J4=>sr λ_ J5=>FA 0 gh aQ ?_)));refine LT 0 Y3 (.int .i64 (k)) ?_ (hc:=by exact dh _ rfl);refine nx J5 (aq (aa λ_ J6=>sr λ_ J7=>P2 ?_));refine ao ?_ ?_<;>intro h12
 · exact absurd h12 (by omega)
 refine nx J7 (CN (sr λ_ J8=>P2 ?_));refine ao ?_ ?_<;>intro h12
 · exact absurd h12 (by omega)
 refine nx J8 (CN (sr λ_ J9=>P2 ?_));refine ao ?_ ?_<;>intro h12
 · exact absurd h12 (by omega)
 refine nx J9 (CN (sr λ_ J10=>P2 ?_));refine ao ?_ ?_<;>intro h12
 · exact absurd h12 (by omega)
 refine nx J10 (CN (ae (PS ?_)));refine ao ?_ ?_<;>intro h17
 · exact absurd h17 (by omega)
 refine PS ?_;refine nx J6 (CN (aa λ_ J11=>fC (α:=Unit) (λ_u=>True) (λ_u=>[(0,(.pointer (some ⟨c,0,none⟩))),(3,(.pointer (some ⟨b3,0,none⟩))),(4,(.int .i64 0)),(11,(.int .i64 (k))),(37,(.bool true))]) (λ_u=>[am b3 (ints (OpT.mk k ((i:Nat):Int) o.to' o.key o.n o.change o.mask o.torn o.cut).flat) 30,X]) (λ_u hinv=>?_) (λtl11=>?_)));have _:=hinv;refine ac J11 (CY (sr λ_ J12=>PS ?_));refine LW 0 gh Cy KZ ?_;refine CR QL (hw) (SM [1]) λvR HR hR=>?_
 obtain⟨e,X',rfl,rfl,hp⟩:=hR;refine PS ?_;exact nx J12 (aj (aL (af (WK [0] (aw rfl rfl ⟨e,X',rfl,rfl,hp⟩)))));refine sr λ_ J13=>P2 ?_
 refine ao ?_ ?_<;>intro h37;refine nx J13 (CY (aU ?_))
 exact aF
  SB
  (λ_ s=>ak [0,0] rfl s)
  (tl11 (():Unit) trivial)
 refine nx J13 (CN (sr λ_ J14=>P2 ?_));refine ao ?_ ?_<;>intro h37;refine nx J14 (CY (aU ?_))
 exact aF
  SB
  (λ_ s=>ak [0,0] rfl s)
  (tl11 (():Unit) trivial)
 refine nx J14 (CN (ae (PS ?_)));refine ao ?_ ?_<;>intro h40;refine PS ?_;refine au ?_
 exact aF
  SB
  (λ_ s=>ak [0,0] rfl s)
  (tl11 (():Unit) trivial)
 · exact absurd h40 (by omega)
theorem D6(c i:Nat)(hi:i<5)(X:HP)(o:OpT)(k:Int)(hk:k<0∨11<k):
 DT 17 #[(.pointer (some ⟨c,0,none⟩)),(.agg (ints (OpT.mk k ((i:Nat):Int) o.to' o.key o.n o.change o.mask o.torn o.cut).flat).toArray)] T0 [X] (RI (.int .i64 5) [X]):=by
 refine BD 114 Tryz.func17 rfl rfl rfl λw0 F hF=>sr λ_ J1=>XY (ints (OpT.mk k ((i:Nat):Int) o.to' o.key o.n o.change o.mask o.torn o.cut).flat) λb3=>?_
 refine PS ?_;refine nx J1 (aa λ_ J2=>sr λ_ J3=>PS ?_);refine FA 1 gh aQ ?_;refine LT 0 Y3 (.int .i64 (((i:Nat):Int))) ?_ (hc:=by exact bQ _ rfl);refine CE qQ (eb c i hi) ID ?_;refine PS ?_;refine nx J3 (CN (qx J2 (aa λ_ J4=>sr λ_ J5=>FA 0 gh aQ ?_)));refine LT 0 Y3 (.int .i64 (k)) ?_ (hc:=by exact dh _ rfl);refine nx J5 (aq (aa λ_ J6=>sr λ_ J7=>P2 ?_));refine ao ?_ ?_<;>intro h12
 · exact absurd h12 (by omega)
 refine nx J7 (CN (sr λ_ J8=>P2 ?_));refine ao ?_ ?_<;>intro h12
 · exact absurd h12 (by omega)
 refine nx J8 (CN (sr λ_ J9=>P2 ?_));refine ao ?_ ?_<;>intro h12
 · exact absurd h12 (by omega)
 refine nx J9 (CN (sr λ_ J10=>P2 ?_));refine ao ?_ ?_<;>intro h12
 · exact absurd h12 (by omega)
 refine nx J10 (CN (ae (PS ?_)));refine ao ?_ ?_<;>intro h17
 · exact absurd h17 (by omega)
 refine PS ?_;refine nx J6 (CN (aa λ_ J11=>sr λ_ J12=>P2 ?_));refine ao ?_ ?_<;>intro h37
 · exact absurd h37 (by omega)
 refine nx J12 (CN (sr λ_ J13=>P2 ?_));refine ao ?_ ?_<;>intro h37
 · exact absurd h37 (by omega)
 refine nx J13 (CN (ae (PS ?_)));refine ao ?_ ?_<;>intro h40
 · exact absurd h40 (by omega)
 refine PS ?_;refine nx J11 (CN (sr λ_ J14=>PS ?_));refine ao ?_ ?_<;>intro h45
 · exact absurd h45 (by omega)
 refine PS ?_;refine nx J14 (CN (sr λ_ J15=>PS ?_));refine ao ?_ ?_<;>intro h65
 · exact absurd h65 (by omega)
 refine PS ?_;refine nx J15 (CN (sr λ_ J16=>PS ?_));refine ao ?_ ?_<;>intro h77
 · exact absurd h77 (by omega)
 refine PS ?_;refine nx J16 (CN (sr λ_ J17=>PS ?_));refine ao ?_ ?_<;>intro h109
 · exact absurd h109 (by omega)
 refine PS ?_;refine nx J17 (CN (sr λ_ J18=>PS ?_));exact nx J18 (aj (aL (af (WK [1] (aw rfl rfl ⟨rfl,rfl⟩)))))
section
variable {n c:Nat} {a:CL} {o:OpT}
theorem ug(h:CLOk n a)(hn:n≤100000)(ho:OkOp o):DT 17 #[.pointer (some ⟨c,0,none⟩), .agg (ints o.flat).toArray] T0 [gq c a] (dB λv H=>v= .int .i64 (Cg a o).2∧H=[gq c (Cg a o).1]):=by
 unfold Cg
 by_cases hm:je o.at'=false
 · rw[if_pos hm]
   exact FY c (gq c a) o hm
 · rw[if_neg hm]
   have hm:je o.at'=true:=by simpa using hm
   obtain⟨hi,hat⟩:=lE hm
   by_cases h1:0≤o.kind∧o.kind≤4
   · rw[if_pos h1];exact KF h hn hi hat.symm h1 ho
   rw[if_neg h1]
   by_cases h2:o.kind=5∨o.kind=6∨o.kind=7
   · rw[if_pos h2]
     have:=FR c _ hi (gq c a) o o.kind h2 (λe X=>e=(pE a o).2∧X=gq c (pE a o).1) (by
      rw[pR rfl hat.symm]
      exact mp (Hn h hn hi hat.symm h2) λv H hp=>⟨_,_,hp.1,hp.2,rfl,rfl⟩)
     rw[pR rfl hat.symm]at this
     exact mp this λv H hp=>by
      obtain⟨e,X,rfl,rfl,rfl,rfl⟩:=hp;exact⟨rfl,rfl⟩
   rw[if_neg h2]
   by_cases h3:o.kind=8
   · rw[if_pos h3];exact Jm h hi hat.symm h3
   rw[if_neg h3]
   by_cases h4:o.kind=9
   · rw[if_pos h4];exact KQ h hi hat.symm h4
   rw[if_neg h4]
   by_cases h5:o.kind=10
   · rw[if_pos h5];exact F6 h hn hi hat.symm h5
   rw[if_neg h5]
   by_cases h6:o.kind=11
   · rw[if_pos h6];exact CU h hi hat.symm h6
   rw[if_neg h6];have:=D6 c _ hi (gq c a) o o.kind (by omega);rw[pR rfl hat.symm]at this;exact this
end
end Go.Proofs.YtjblgopghhgflaaGreat
end
