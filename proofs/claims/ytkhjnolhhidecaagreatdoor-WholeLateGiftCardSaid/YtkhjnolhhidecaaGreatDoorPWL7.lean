/-
  Joined texts:what a statement's proof reaches.
-/
import Derived.Test.YtkhjnolhhidecaaGreatDoorPWL6
set_option maxHeartbeats 8000000
set_option maxRecDepth 100000
set_option linter.unusedSimpArgs false
set_option linter.unusedVariables false
section
namespace Go.Proofs.YtkhjnolhhidecaaGreatDoor
open Go Leg Codec Api Dsk Wal
theorem qU{δ:Type}(V:Env δ)(r:Nat)(s:MS δ)(c:ChangeT)[OkR V.toDk s][OkCh c]:
 DT 69 #[(.pointer (some ⟨r,0,none⟩)),(.agg (ints c.flat).toArray)] T0 [cV V r s] (RI (.int .i64 (bN V.toDk s c).2) [cV V r (bN V.toDk s c).1]):=by
 refine BD 66 Tryz.func69 rfl rfl rfl λw0 F hF=>sr λ_ J1=>XY (ints c.flat) λb3=>?_
 refine PS ?_;refine nx J1 (aa λ_ J2=>fy (α:=(Nat)) (λb5=>True) (λb5=>[(0,(.pointer (some ⟨r,0,none⟩))),(3,(.pointer (some ⟨b3,0,none⟩))),(4,(.int .i64 0)),(5,(.pointer (some ⟨b5,0,none⟩)))]) (λb5=>[cV V r s,aj b3 (ints c.flat) 28,aj b5 (ints (cZ s).flat) 90]) (λb5 hinv=>?_) (λtl2=>?_));have _:=hinv;refine ad J2 (aa λ_ J3=>fy (α:=(Nat)) (λb6=>True) (λb6=>[(0,(.pointer (some ⟨r,0,none⟩))),(3,(.pointer (some ⟨b3,0,none⟩))),(4,(.int .i64 0)),(5,(.pointer (some ⟨b5,0,none⟩))),(6,(.pointer (some ⟨b6,0,none⟩))),(7,(.bool ((cb s.acc s.view.epoch (cZ s)).2)))]) (λb6=>[cV V r s,aj b3 (ints c.flat) 28,aj b5 (ints (cZ s).flat) 90,aj b6 (ints ((cb s.acc s.view.epoch (cZ s)).1).flat) 92]) (λb6 hinv=>?_) (λtl3=>?_));have _:=hinv;refine ad J3 (aa λ_ J4=>sr λ_ J5=>PS ?_);refine bg ?_ ?_<;>intro h33;refine PS ?_;refine nx J5 (CN (qx J4 (aa λ_ J6=>aa λ_ J7=>DC bl (di 0 rfl rfl) (BL 2) ?_)));refine PD 0 ?_;refine PD 1 ?_;refine PD 2 ?_;refine FD 3 2 dv bj ?_;refine FD 4 2 eB aP ?_;refine ta 5 rfl (dB (v:=(.int .i64 (s.view.epoch))) rfl Y3 rfl rfl (λ_ h=>h.2.1) (λa_=>(cz (s.rep a_) 0 rfl (by decide) (aV _ rfl)))) ?_;refine LY 6 kU cK aq ?_;refine ta 7 rfl (kp RecT.zero (RecT.mk 3 0 RowT.zero s.view.epoch (cZ s) ChangeT.zero ViewT.zero) [(0,[Value.int .i64 3]),(3,[Value.int .i64 s.view.epoch]),(4,ints (cZ s).flat)] eC fz (g:=RecT.sg)) ?_;refine AL 8 ?_
 refine CE Fq (l3 V r s (fX s.view.epoch (cZ s))) ID ?_;refine EN (PD 9 ?_);refine DN (ad J7 (sr λ_ J8=>P2 ?_));refine ap ?_ ?_<;>intro h45;refine nx J8 (CY (sr λ_ J9=>P2 ?_));refine nx J9 (ah (ae (WK [0] (aw rfl rfl ?_))));have e:bN V.toDk s c=(dO V.toDk s (fX s.view.epoch (cZ s)),mx V.toDk s (fX s.view.epoch (cZ s))):=by rw[bN,if_neg (by rw[h33];decide),if_pos h45]
 exact kn e;refine No (H':=λvo:Value=>wM V r (dO V.toDk s (fX s.view.epoch (cZ s))) vo::[aj b3 (ints c.flat) 28,aj b5 (ints (cZ s).flat) 90,aj b6 (ints ((cb s.acc s.view.epoch (cZ s)).1).flat) 92]) (λ_ q=>GT q) (λvo=>nx J8 (CN (qx J6 (aa λ_ J10=>D2 3 2 bl ?_))));refine PD 0 ?_;refine PD 1 ?_;refine LY 2 qf gm be ?_;refine FD 3 0 kU aP ?_;refine LX 4 Y3 (.int .i64 ((cZ s).round)) ?_ (hc:=by exact fC _ rfl);refine PD 5 ?_;refine FD 6 1058 dv gm ?_;refine AL 7 ?_;refine iw (vs:=ints ((cb s.acc s.view.epoch (cZ s)).1).flat) (i:=0) (ab rfl) rfl rfl rfl rfl rfl (by rw[(be ((cb s.acc s.view.epoch (cZ s)).1))];exact gm) (bv _) rfl rfl (λ_=>LC (dh _) (be _)) (λa_=>(lp ((dO V.toDk s (fX s.view.epoch (cZ s))).rep ⟨(a_:Nat×Value).1,vo,a_.2⟩) 0 rfl (by have h1:=(be ((cb s.acc s.view.epoch (cZ s)).1));omega) (cy ((be (((dO V.toDk s (fX s.view.epoch (cZ s))).rep ⟨(a_:Nat×Value).1,vo,a_.2⟩).acc)).trans (be ((cb s.acc s.view.epoch (cZ s)).1)).symm)))) (EN (PD 8 ?_));refine FD 9 1066 dv aP ?_;refine AL 10 ?_;refine SK 0 aP (λ_=>dh _) ?_ (hc:=by exact λa_=>(mJ _ rfl _));refine EN (DN (ad J10 (aa λ_ J11=>D2 2 1 bl ?_)));refine PD 0 ?_;refine PD 1 ?_;refine PD 2 ?_;refine FD 3 2 dv bj ?_;refine LY 5 kU cK aq ?_;refine LY 6 mP fD aJ ?_;refine AL 4 ?_;refine LZ 0 eB bj an s.view ?_ (hc:=by exact λ_=>df _);refine EN (AL 7 ?_);refine CR PA (AR s.view (cZ s) c) ID λvR HR hR=>?_
 obtain⟨vb,rfl,rfl⟩:=hR;refine EN (PD 8 ?_);refine FD 9 1067 dv nI ?_;refine AL 10 ?_;refine SK 1 nI (λ_=>dh _) ?_ (hc:=by exact λa_=>(Rh _ rfl _));refine EN (DN (ad J11 (sr λ_ J12=>PS ?_)));refine nx J12 (ah (aE (H':=[cV V r (mW V.toDk s c)]) (dK _) (λ_ q=>oX (ak [1,0] rfl q)) (aw rfl rfl ?_)));have e:bN V.toDk s c=(mW V.toDk s c,0):=by rw[bN,if_neg (by rw[h33];decide),if_neg h45]
 exact kn e;refine PS ?_;refine nx J5 (CY (sr λ_ J13=>PS ?_));refine nx J13 (ah (ae (WK [0] (aw rfl rfl ?_))));have e:bN V.toDk s c=(s,6):=if_pos h33;exact kn e;refine DC bl (di 0 rfl rfl) (BL 2) ?_;refine PD 0 ?_;refine PD 1 ?_;refine FD 2 1058 dv gm ?_;refine ta 3 rfl (gO (vs:=ints s.acc.flat) rfl qf rfl gm rfl (λ_ h=>h.2.1) (be s.acc) (λa_=>(zg (s.rep a_) 0 rfl (by decide) (whole (be ((s.rep a_).acc)))))) ?_;refine PD 4 ?_;refine PD 5 ?_;refine FD 6 2 dv bj ?_;refine FD 7 2 eB aP ?_;refine ta 8 rfl (dB (v:=(.int .i64 (s.view.epoch))) rfl Y3 rfl rfl (λ_ h=>h.2.1) (λa_=>(cz (s.rep a_) 0 rfl (by decide) (aV _ rfl)))) ?_;refine LY 9 kU cK aq ?_;refine da [10,14] (by kernel_rfl) rfl (aF rfl ?_ ?_);refine CE GQ (oz s.acc s.view.epoch (cZ s)) ID ?_;refine EN (PD 11 ?_);refine PD 12 ?_;refine PD 13 ?_;refine sJ ?_ ?_<;>intro h32;refine AL 14 ?_;refine XZ I8 (ints AccT.zero.flat) λb6=>?_
 refine EN (AL 15 ?_);refine SW 0 gm be ?_;refine EN (PD 16 ?_);refine DN ?_
 exact aE
  (aX (aX (aX (aX (aX (bM rfl (by rw[h32]) SB))))))
  (λ_ s=>ak [1,1,1,0] rfl s)
  (tl3 ((b6):(Nat)) trivial)
 refine AL 14 ?_;refine XZ I8 (ints AccT.zero.flat) λb6=>?_
 refine EN (AL 15 ?_);refine SW 0 gm be ?_;refine EN (PD 16 ?_);refine DN ?_
 exact aE
  (aX (aX (aX (aX (aX (bM rfl (by rw[h32]) SB))))))
  (λ_ s=>ak [1,1,1,0] rfl s)
  (tl3 ((b6):(Nat)) trivial)
 refine aF rfl ?_ ?_;refine XZ I8 (ints AccT.zero.flat) λb6=>?_
 refine EN (AL 10 ?_);refine CE GQ (oz s.acc s.view.epoch (cZ s)) ID ?_;refine EN (PD 11 ?_);refine PD 12 ?_;refine PD 13 ?_;refine sJ ?_ ?_<;>intro h32;refine AL 15 ?_;refine SW 0 gm be ?_;refine EN (PD 16 ?_);refine DN ?_
 exact aE
  (aX (aX (aX (aX (aX (bM rfl (by rw[h32]) SB))))))
  (λ_ s=>ak [1,1,1,0] rfl s)
  (tl3 ((b6):(Nat)) trivial)
 refine AL 15 ?_;refine SW 0 gm be ?_;refine EN (PD 16 ?_);refine DN ?_
 exact aE
  (aX (aX (aX (aX (aX (bM rfl (by rw[h32]) SB))))))
  (λ_ s=>ak [1,1,1,0] rfl s)
  (tl3 ((b6):(Nat)) trivial)
 exact bP;refine DB bl (di 1 rfl rfl) ?_;refine PD 0 ?_;refine PD 1 ?_;refine FD 2 1066 dv aP ?_;refine ta 3 rfl (dB (v:=(.int .i64 (s.round))) rfl Y3 rfl rfl (λ_ h=>h.2.1) (λa_=>(wA _ rfl))) ?_;refine ta 4 rfl (bC (r:=(fw (s.round+1))) rfl rfl rfl rfl) ?_;refine PD 5 ?_;refine PD 6 ?_;refine FD 7 0 dv aP ?_;refine ta 8 rfl (dB (v:=(.int .i64 (s.id))) rfl Y3 rfl rfl (λ_ h=>h.2.1) (λa_=>(cU _ rfl))) ?_;refine ta 9 rfl (kp BallotT.zero (BallotT.mk (fw (s.round+1)) s.id) [(0,[Value.int .i64 (fw (s.round+1))]),(1,[Value.int .i64 s.id])] kU Qg (g:=BallotT.sg)) ?_;refine AL 10 ?_;refine XZ Qi (ints BallotT.zero.flat) λb5=>?_
 refine EN (AL 11 ?_);refine SW 0 cK aq ?_;refine EN (DN ?_)
 exact aE
  SB
  (λ_ s=>ak [2,1,0] rfl s)
  (tl2 ((b5):(Nat)) trivial)
theorem BR{δ:Type}(V:Env δ)(r:Nat)(s:MS δ)(op:Int)(c:ChangeT)[OkR V.toDk s][OkCh c](hrs:s.replies.length≤1000000)(hv:s.vote=none):
 DT 50 #[(.pointer (some ⟨r,0,none⟩)),(.iface V.T V.ov),(.int .i64 (op)),(.agg (ints c.flat).toArray)] T0 [cV V r s] (RI (.int .i64 (dr V.toDk s op c).2) [cV V r (dr V.toDk s op c).1]):=by
 refine BD 44 Tryz.func50 rfl rfl rfl λw0 F hF=>sr λ_ J1=>XY (ints c.flat) λb7=>?_
 refine PS ?_;refine nx J1 (aa λ_ J2=>fy (α:=Unit) (λ_u=>True) (λ_u=>[(0,(.pointer (some ⟨r,0,none⟩))),(1,(.iface V.T V.ov)),(2,(.int .i64 (op))),(7,(.pointer (some ⟨b7,0,none⟩))),(8,(.int .i64 0)),(10,(.int .i64 ((dI s.view c).2)))]) (λ_u=>[cV V r s,aj b7 (ints c.flat) 28]) (λ_u hinv=>?_) (λtl2=>?_));have _:=hinv;refine ad J2 (aa λ_ J3=>sr λ_ J4=>cr (H':=wM V r s (.pointer none)::[aj b7 (ints c.flat) 28]) (λ_ q=>tM hv q) (P2 ?_));refine ap ?_ ?_<;>intro h21;refine P3 ?_;refine FA 1067 dv nI ?_;refine LG 0 p9 (.pointer none) ?_ (hc:=by exact λa_=>(cg _ rfl));refine tq (jy rfl p9 rfl rfl) ?_;refine PS ?_;refine nx J4 (CN (qx J3 (aa λ_ J5=>sr λ_ J6=>cr (H':=cV V r s::[aj b7 (ints c.flat) 28]) (λ_ q=>oZ hv (aD [0] rfl q)) (P2 ?_))));refine ap ?_ ?_<;>intro h30;refine nx J6 (CY (ac (PS ?_)));refine LW 1 mP fD aJ ?_;refine CE NO (qU V r s c) ID ?_;refine PS ?_;refine nx J5 (sr λ_ J7=>P3 ?_);refine CZ uT (fm V r ((bN V.toDk s c).1) op ((bN V.toDk s c).2) 0 (by first|exact hrs| (rw[jo];exact hrs))) ID λvR=>?_
 refine nx J7 (aa λ_ J8=>sr λ_ J9=>P2 ?_);refine ap ?_ ?_<;>intro h39;refine nx J9 (CY (ac (P2 ?_)));refine CZ Mf (sq V r (du ((bN V.toDk s c).1) op ((bN V.toDk s c).2) 0) (jr s.view (cZ s) c) (sG h39)) ID λvR=>?_
 refine nx J8 (sr λ_ J10=>P2 ?_);refine nx J10 (ah (WK [0] (aw rfl rfl ?_)));have e:dr V.toDk s op c=((lH V.toDk (du ((bN V.toDk s c).1) op ((bN V.toDk s c).2) 0) (jr s.view (cZ s) c)),(bN V.toDk s c).2):=by rw[dr,show fp s c=(dI s.view c).2 by rw[fp,if_neg (λh=>by rw[hv]at h;exact absurd h.2 (by decide))],if_neg (by rw[h30];decide),if_neg (by rw[h39];decide),h39]
 exact kn e;refine nx J9 (CN (qx J8 (sr λ_ J11=>P2 ?_)));refine nx J11 (ah (WK [0] (aw rfl rfl ?_)));have e:dr V.toDk s op c=((du ((bN V.toDk s c).1) op ((bN V.toDk s c).2) 0),(bN V.toDk s c).2):=by rw[dr,show fp s c=(dI s.view c).2 by rw[fp,if_neg (λh=>by rw[hv]at h;exact absurd h.2 (by decide))],if_neg (by rw[h30];decide),if_pos h39]
 exact kn e;refine nx J6 (CN (qx J5 (sr λ_ J12=>P3 ?_)));refine CZ uT (fm V r s op ((dI s.view c).2) 0 (by first|exact hrs| (rw[jo];exact hrs))) ID λvR=>?_
 refine nx J12 (aa λ_ J13=>sr λ_ J14=>P2 ?_);refine ap ?_ ?_<;>intro h39
 · exact absurd h39 h30
 refine nx J14 (CN (qx J13 (sr λ_ J15=>P2 ?_)));refine nx J15 (ah (WK [0] (aw rfl rfl ?_)));have e:dr V.toDk s op c=((du s op ((dI s.view c).2) 0),(dI s.view c).2):=by rw[dr,show fp s c=(dI s.view c).2 by rw[fp,if_neg (λh=>h30 h.1)]];exact if_pos (by exact h30)
 exact kn e;refine PS ?_
 iterate 5 refine UF ?_
 refine PS ?_;refine nx J4 (CN (qx J3 (aa λ_ J16=>sr λ_ J17=>cr (H':=cV V r s::[aj b7 (ints c.flat) 28]) (λ_ q=>oZ hv (aD [0] rfl q)) (P2 ?_))));refine ap ?_ ?_<;>intro h30;refine nx J17 (CY (ac (PS ?_)));refine LW 1 mP fD aJ ?_;refine CE NO (qU V r s c) ID ?_;refine PS ?_;refine nx J16 (sr λ_ J18=>P3 ?_);refine CZ uT (fm V r ((bN V.toDk s c).1) op ((bN V.toDk s c).2) 0 (by first|exact hrs| (rw[jo];exact hrs))) ID λvR=>?_
 refine nx J18 (aa λ_ J19=>sr λ_ J20=>P2 ?_);refine ap ?_ ?_<;>intro h39;refine nx J20 (CY (ac (P2 ?_)));refine CZ Mf (sq V r (du ((bN V.toDk s c).1) op ((bN V.toDk s c).2) 0) (jr s.view (cZ s) c) (sG h39)) ID λvR=>?_
 refine nx J19 (sr λ_ J21=>P2 ?_);refine nx J21 (ah (WK [0] (aw rfl rfl ?_)));have e:dr V.toDk s op c=((lH V.toDk (du ((bN V.toDk s c).1) op ((bN V.toDk s c).2) 0) (jr s.view (cZ s) c)),(bN V.toDk s c).2):=by rw[dr,show fp s c=(dI s.view c).2 by rw[fp,if_neg (λh=>by rw[hv]at h;exact absurd h.2 (by decide))],if_neg (by rw[h30];decide),if_neg (by rw[h39];decide),h39]
 exact kn e;refine nx J20 (CN (qx J19 (sr λ_ J22=>P2 ?_)));refine nx J22 (ah (WK [0] (aw rfl rfl ?_)));have e:dr V.toDk s op c=((du ((bN V.toDk s c).1) op ((bN V.toDk s c).2) 0),(bN V.toDk s c).2):=by rw[dr,show fp s c=(dI s.view c).2 by rw[fp,if_neg (λh=>by rw[hv]at h;exact absurd h.2 (by decide))],if_neg (by rw[h30];decide),if_pos h39]
 exact kn e;refine nx J17 (CN (qx J16 (sr λ_ J23=>P3 ?_)));refine CZ uT (fm V r s op ((dI s.view c).2) 0 (by first|exact hrs| (rw[jo];exact hrs))) ID λvR=>?_
 refine nx J23 (aa λ_ J24=>sr λ_ J25=>P2 ?_);refine ap ?_ ?_<;>intro h39
 · exact absurd h39 h30
 refine nx J25 (CN (qx J24 (sr λ_ J26=>P2 ?_)));refine nx J26 (ah (WK [0] (aw rfl rfl ?_)));have e:dr V.toDk s op c=((du s op ((dI s.view c).2) 0),(dI s.view c).2):=by rw[dr,show fp s c=(dI s.view c).2 by rw[fp,if_neg (λh=>h30 h.1)]];exact if_pos (by exact h30)
 exact kn e;refine DC bl (di 1 rfl rfl) (BL 0) ?_;refine PD 0 ?_;refine PD 1 ?_;refine FD 2 2 dv bj ?_;refine ta 3 rfl (gO (vs:=ints s.view.flat) rfl eB rfl bj rfl (λ_ h=>h.2.1) (an s.view) (λa_=>(gF (s.rep a_) 0 rfl (by decide) (whole (an ((s.rep a_).view)))))) ?_;refine LY 4 mP fD aJ ?_;refine da [5,9] (by kernel_rfl) rfl (aF rfl ?_ ?_);refine CE nR (dH s.view c OkVw.rng) ID ?_;refine EN (PD 6 ?_);refine PD 7 ?_;refine PD 8 ?_;refine AL 9 ?_;refine XZ sO (ints ViewT.zero.flat) λb9=>?_
 refine EN (AL 10 ?_);refine SW 0 bj an ?_;refine EN (PD 11 ?_);refine DN ?_
 exact aE
  SB
  (λ_ s=>ak [2,1] rfl s)
  (tl2 (():Unit) trivial)
 refine aF rfl ?_ ?_;refine XZ sO (ints ViewT.zero.flat) λb9=>?_
 refine EN (AL 5 ?_);refine CE nR (dH s.view c OkVw.rng) ID ?_;refine EN (PD 6 ?_);refine PD 7 ?_;refine PD 8 ?_;refine AL 10 ?_;refine SW 0 bj an ?_;refine EN (PD 11 ?_);refine DN ?_
 exact aE
  SB
  (λ_ s=>ak [2,1] rfl s)
  (tl2 (():Unit) trivial)
 exact bP
theorem BQ{δ:Type}(V:Env δ)(r:Nat)(s:MS δ)(vt:VoteT)(op:Int)(c:ChangeT)[OkR V.toDk s][OkCh c](hrs:s.replies.length≤1000000)(hv:s.vote=some vt):
 DT 50 #[(.pointer (some ⟨r,0,none⟩)),(.iface V.T V.ov),(.int .i64 (op)),(.agg (ints c.flat).toArray)] T0 [cV V r s] (RI (.int .i64 (dr V.toDk s op c).2) [cV V r (dr V.toDk s op c).1]):=by
 refine BD 44 Tryz.func50 rfl rfl rfl λw0 F hF=>sr λ_ J1=>XY (ints c.flat) λb7=>?_
 refine PS ?_;refine nx J1 (aa λ_ J2=>fy (α:=Unit) (λ_u=>True) (λ_u=>[(0,(.pointer (some ⟨r,0,none⟩))),(1,(.iface V.T V.ov)),(2,(.int .i64 (op))),(7,(.pointer (some ⟨b7,0,none⟩))),(8,(.int .i64 0)),(10,(.int .i64 ((dI s.view c).2)))]) (λ_u=>[cV V r s,aj b7 (ints c.flat) 28]) (λ_u hinv=>?_) (λtl2=>?_));have _:=hinv;refine ad J2 (aa λ_ J3=>sr λ_ J4=>No (H':=λvb:Nat=>wM V r s (.pointer (some ⟨vb,0,none⟩))::aj vb (VoteT.cells vt) 196::[aj b7 (ints c.flat) 28]) (λ_ q=>nT hv q) (λvb=>P2 ?_));refine ap ?_ ?_<;>intro h21;refine P3 ?_;refine FA 1067 dv nI ?_;refine LG 0 p9 (.pointer (some ⟨vb,0,none⟩)) ?_ (hc:=by exact λa_=>(cg _ rfl));refine tq (gj rfl p9 rfl rfl) ?_;refine PS ?_;refine nx J4 (CY (ac (cr (H':=cV V r s::[aj b7 (ints c.flat) 28]) (λ_ q=>oY hv (aD [0,0] rfl q)) (PS ?_))));refine nx J3 (aa λ_ J5=>sr λ_ J6=>P2 ?_);refine nx J6 (CN (qx J5 (sr λ_ J7=>P3 ?_)));refine CZ uT (fm V r s op 8 0 (by first|exact hrs| (rw[jo];exact hrs))) ID λvR=>?_
 refine nx J7 (aa λ_ J8=>sr λ_ J9=>P2 ?_);refine nx J9 (CN (qx J8 (sr λ_ J10=>P2 ?_)));refine nx J10 (ah (WK [0] (aw rfl rfl ?_)));have e:dr V.toDk s op c=((du s op 8 0),8):=by rw[dr,show fp s c=8 by rw[fp,if_pos ⟨h21,by rw[hv];rfl⟩]];exact if_pos (by decide)
 exact kn e;refine PS ?_
 iterate 5 refine UF ?_
 refine PS ?_;refine nx J4 (CN (qx J3 (aa λ_ J11=>sr λ_ J12=>cr (H':=cV V r s::[aj b7 (ints c.flat) 28]) (λ_ q=>oY hv (aD [0,0] rfl q)) (P2 ?_))));refine ap ?_ ?_<;>intro h30
 · exact absurd h30 (by first|decide|exact h21)
 refine nx J12 (CN (qx J11 (sr λ_ J13=>P3 ?_)));refine CZ uT (fm V r s op ((dI s.view c).2) 0 (by first|exact hrs| (rw[jo];exact hrs))) ID λvR=>?_
 refine nx J13 (aa λ_ J14=>sr λ_ J15=>P2 ?_);refine ap ?_ ?_<;>intro h39
 · exact absurd h39 (by first|decide|exact h30)
 refine nx J15 (CN (qx J14 (sr λ_ J16=>P2 ?_)));refine nx J16 (ah (WK [0] (aw rfl rfl ?_)));have e:dr V.toDk s op c=((du s op ((dI s.view c).2) 0),(dI s.view c).2):=by rw[dr,show fp s c=(dI s.view c).2 by rw[fp,if_neg (λh=>h30 h.1)]];exact if_pos (by exact h30)
 exact kn e;refine DC bl (di 1 rfl rfl) (BL 0) ?_;refine PD 0 ?_;refine PD 1 ?_;refine FD 2 2 dv bj ?_;refine ta 3 rfl (gO (vs:=ints s.view.flat) rfl eB rfl bj rfl (λ_ h=>h.2.1) (an s.view) (λa_=>(gF (s.rep a_) 0 rfl (by decide) (whole (an ((s.rep a_).view)))))) ?_;refine LY 4 mP fD aJ ?_;refine da [5,9] (by kernel_rfl) rfl (aF rfl ?_ ?_);refine CE nR (dH s.view c OkVw.rng) ID ?_;refine EN (PD 6 ?_);refine PD 7 ?_;refine PD 8 ?_;refine AL 9 ?_;refine XZ sO (ints ViewT.zero.flat) λb9=>?_
 refine EN (AL 10 ?_);refine SW 0 bj an ?_;refine EN (PD 11 ?_);refine DN ?_
 exact aE
  SB
  (λ_ s=>ak [2,1] rfl s)
  (tl2 (():Unit) trivial)
 refine aF rfl ?_ ?_;refine XZ sO (ints ViewT.zero.flat) λb9=>?_
 refine EN (AL 5 ?_);refine CE nR (dH s.view c OkVw.rng) ID ?_;refine EN (PD 6 ?_);refine PD 7 ?_;refine PD 8 ?_;refine AL 10 ?_;refine SW 0 bj an ?_;refine EN (PD 11 ?_);refine DN ?_
 exact aE
  SB
  (λ_ s=>ak [2,1] rfl s)
  (tl2 (():Unit) trivial)
 exact bP
theorem BP{δ:Type}(V:Env δ)(r:Nat)(s:MS δ)(op:Int)(c:ChangeT)[OkR V.toDk s][OkCh c](hrs:s.replies.length≤1000000):DT 50 #[.pointer (some ⟨r,0,none⟩), .iface V.T V.ov, .int .i64 op, .agg (ints c.flat).toArray] T0 [cV V r s] (RI (.int .i64 (dr V.toDk s op c).2) [cV V r (dr V.toDk s op c).1]):=by
 cases hv:s.vote with
 |none=>exact BR V r s op c hrs hv
 |some vt=>exact BQ V r s vt op c hrs hv
theorem xH{δ:Type}(V:Env δ)(r:Nat)(s:MS δ)(o:OpT):DT 51 #[.pointer (some ⟨r,0,none⟩), .agg (ints o.flat).toArray] T0 [cV V r s] (RI (.tuple #[.agg (ints (cF s o).1.flat).toArray, .int .i64 (cF s o).2.1, .int .i64 (cF s o).2.2]) [cV V r s]):=Leg.Does.hid (λa=>H6 r (s.rep a) o)
theorem BK{δ:Type}(V:Env δ)(r:Nat)(s:MS δ)(o:OpT)[OkR V.toDk s][OkCh o.change](hrs:s.replies.length≤1000000):
 DT 24 #[(.pointer (some ⟨r,0,none⟩)),(.iface V.T V.ov),(.agg (ints o.flat).toArray)] T0 [cV V r s] (RI (.int .i64 (bI V.toDk s o).2) [cV V r (bI V.toDk s o).1]):=by
 refine BD 74 Tryz.func24 rfl rfl rfl λw0 F hF=>sr λ_ J1=>XY (ints o.flat) λb5=>?_
 refine PS ?_;refine nx J1 (sr λ_ J2=>P2 ?_);refine FA 1941 dv aP ?_;refine LG 1 Y3 (.int .i64 (s.ops)) ?_ (hc:=by exact λa_=>(RepT.at_ops _ rfl));refine tp (bC (r:=(fw (s.ops+1))) rfl rfl rfl rfl) ?_;refine PS ?_;refine FA 1941 dv aP ?_;refine SK 1 aP (λ_=>dh _) ?_ (hc:=by exact λa_=>(RepT.set_ops _ rfl _));refine nx J2 (sr λ_ J3=>P2 ?_);refine FA 1941 dv aP ?_;refine LG 1 Y3 (.int .i64 ((opsS s).ops)) ?_ (hc:=by exact λa_=>(RepT.at_ops _ rfl));refine PS ?_;refine nx J3 (aa λ_ J4=>aa λ_ J5=>DC bl (di 1 rfl rfl) (BL 0) ?_);refine PD 0 ?_;refine PD 1 ?_;refine FD 2 2 dv bj ?_;refine ta 3 rfl (gO (vs:=ints ((opsS s).view).flat) rfl eB rfl bj rfl (λ_ h=>h.2.1) (an ((opsS s).view)) (λa_=>(gF ((opsS s).rep a_) 0 rfl (by decide) (whole (an (((opsS s).rep a_).view)))))) ?_;refine PD 4 ?_;refine PD 5 ?_;refine FD 6 0 dv aP ?_;refine ta 7 rfl (dB (v:=(.int .i64 ((opsS s).id))) rfl Y3 rfl rfl (λ_ h=>h.2.1) (λa_=>(cU _ rfl))) ?_;refine AL 8 ?_;refine CE qH (dR ((opsS s).view) ((opsS s).id)) ID ?_;refine bg ?_ ?_<;>intro h30;refine EN (PD 9 ?_);refine FD 10 0 eP aP ?_;refine LR 11 Y3 (cO o rfl) ?_;refine PD 12 ?_;refine kg ?_ ?_<;>intro h34;refine PD 13 ?_;refine DN (ad J5 (CY (sr λ_ J6=>P3 ?_)));refine FA 5 eP fD ?_;refine LV 0 mP fD aJ OpT.sp_change (y:=o.change) ?_;refine CE QO (BP V r (opsS s) ((opsS s).ops) o.change hrs) (SM [1]) ?_;refine PS ?_;refine nx J6 (ah (ae (WK [0] (aw rfl rfl ?_))))
 have e:bI V.toDk s o=((dr V.toDk (opsS s) ((opsS s).ops) o.change).1,(dr V.toDk (opsS s) (opsS s).ops o.change).2):=by rw[bI,show jp s.view s.id=true from h30,decide_eq_true h34,if_pos (by rfl)]
 exact kn e;refine PD 13 ?_;refine DN (ad J5 (CN (qx J4 (sr λ_ J7=>PS ?_))));refine LW 0 eP nJ fg ?_;refine CE OY (xH V r (opsS s) o) (SM [1]) ?_;refine P4 ?_;refine XZ vl (ints RowT.zero.flat) λb8=>?_
 refine SW 0 bf ai ?_;refine P2 ?_;refine nx J7 (aa λ_ J8=>sr λ_ J9=>P2 ?_);refine ap ?_ ?_<;>intro h50;refine PS ?_
 iterate 3 refine UT ?_
 refine PS ?_;refine nx J9 (CY (sr λ_ J10=>P4 ?_));refine CZ uT (fm V r (opsS s) ((opsS s).ops) ((cF (opsS s) o).2.2) ((cF (opsS s) o).2.1) (by first|exact hrs| (rw[kc];exact hrs))) (SM [1]) λvR=>?_
 refine nx J10 (sr λ_ J11=>P2 ?_);refine nx J11 (ah (ae (WK [0] (aw rfl rfl ?_))));have e:bI V.toDk s o=((du (opsS s) ((opsS s).ops) ((cF (opsS s) o).2.2) ((cF (opsS s) o).2.1)),(cF (opsS s) o).2.2):=by rw[bI,show jp s.view s.id=true from h30,decide_eq_false h34,if_neg (by decide),lv,if_pos (.inl h50)]
 exact kn e;refine PS ?_;refine FA 0 eP aP ?_;refine LU 2 Y3 (cO o rfl) ?_;refine PS ?_;refine ap ?_ ?_<;>intro h54;refine PS ?_;refine nx J9 (CY (sr λ_ J12=>P4 ?_));refine CZ uT (fm V r (opsS s) ((opsS s).ops) ((cF (opsS s) o).2.2) ((cF (opsS s) o).2.1) (by first|exact hrs| (rw[kc];exact hrs))) (SM [1]) λvR=>?_
 refine nx J12 (sr λ_ J13=>P2 ?_);refine nx J13 (ah (ae (WK [0] (aw rfl rfl ?_))));have e:bI V.toDk s o=((du (opsS s) ((opsS s).ops) ((cF (opsS s) o).2.2) ((cF (opsS s) o).2.1)),(cF (opsS s) o).2.2):=by rw[bI,show jp s.view s.id=true from h30,decide_eq_false h34,if_neg (by decide),lv,if_pos (.inr h54)]
 exact kn e;refine PS ?_;refine nx J9 (CN (qx J8 (aa λ_ J14=>sr λ_ J15=>P2 ?_)));refine LW 0 ei bf ai ?_;refine PS ?_;refine CE NU (sD V r (opsS s) ((cF (opsS s) o).1) ((opsS s).ops)) (SM [1]) ?_;refine PS ?_;refine nx J15 (sr λ_ J16=>P2 ?_);refine ap ?_ ?_<;>intro h68;refine nx J16 (CY (ac (P3 ?_)));refine CZ uT (fm V r ((dF V.toDk (opsS s) ((cF (opsS s) o).1) ((opsS s).ops)).1) ((opsS s).ops) ((dF V.toDk (opsS s) ((cF (opsS s) o).1) ((opsS s).ops)).2) 0 (by first|exact hrs| (rw[kc];exact hrs))) ID λvR=>?_
 refine nx J14 (sr λ_ J17=>P2 ?_);refine nx J17 (ah (WK [0] (aw rfl rfl ?_)));have e:bI V.toDk s o=((du ((dF V.toDk (opsS s) ((cF (opsS s) o).1) ((opsS s).ops)).1) ((opsS s).ops) ((dF V.toDk (opsS s) ((cF (opsS s) o).1) ((opsS s).ops)).2) 0),(dF V.toDk (opsS s) (cF (opsS s) o).1 (opsS s).ops).2):=by rw[bI,show jp s.view s.id=true from h30,decide_eq_false h34,if_neg (by decide),lv,if_neg (λh=>h.elim (λh=>h50 h) (λh=>h54 h)),if_pos h68]
 exact kn e;refine nx J16 (CN (qx J14 (sr λ_ J18=>P2 ?_)));refine nx J18 (ah (WK [0] (aw rfl rfl ?_)));have e:bI V.toDk s o=((dF V.toDk (opsS s) ((cF (opsS s) o).1) ((opsS s).ops)).1,(dF V.toDk (opsS s) (cF (opsS s) o).1 (opsS s).ops).2):=by rw[bI,show jp s.view s.id=true from h30,decide_eq_false h34,if_neg (by decide),lv,if_neg (λh=>h.elim (λh=>h50 h) (λh=>h54 h)),if_neg h68,show(dF V.toDk (opsS s) (cF (opsS s) o).1 (opsS s).ops).2=0 from Decidable.not_not.1 h68]
 exact kn e;refine EN (PD 9 ?_);refine NT 10 ?_;refine NT 11 ?_;refine NT 12 ?_;refine PD 13 ?_;refine DN (ad J5 (CN (qx J4 (sr λ_ J19=>PS ?_))));refine LW 0 eP nJ fg ?_;refine CE OY (xH V r (opsS s) o) (SM [1]) ?_;refine P4 ?_;refine XZ vl (ints RowT.zero.flat) λb8=>?_
 refine SW 0 bf ai ?_;refine P2 ?_;refine nx J19 (aa λ_ J20=>sr λ_ J21=>P2 ?_);refine ap ?_ ?_<;>intro h50;refine PS ?_
 iterate 3 refine UT ?_
 refine PS ?_;refine nx J21 (CY (sr λ_ J22=>P4 ?_));refine CZ uT (fm V r (opsS s) ((opsS s).ops) ((cF (opsS s) o).2.2) ((cF (opsS s) o).2.1) (by first|exact hrs| (rw[kc];exact hrs))) (SM [1]) λvR=>?_
 refine nx J22 (sr λ_ J23=>P2 ?_);refine nx J23 (ah (ae (WK [0] (aw rfl rfl ?_))));have e:bI V.toDk s o=((du (opsS s) ((opsS s).ops) ((cF (opsS s) o).2.2) ((cF (opsS s) o).2.1)),(cF (opsS s) o).2.2):=by rw[bI,show jp s.view s.id=false from h30,if_neg (by rw[ik];decide),lv,if_pos (.inl h50)]
 exact kn e;refine PS ?_;refine FA 0 eP aP ?_;refine LU 2 Y3 (cO o rfl) ?_;refine PS ?_;refine ap ?_ ?_<;>intro h54;refine PS ?_;refine nx J21 (CY (sr λ_ J24=>P4 ?_));refine CZ uT (fm V r (opsS s) ((opsS s).ops) ((cF (opsS s) o).2.2) ((cF (opsS s) o).2.1) (by first|exact hrs| (rw[kc];exact hrs))) (SM [1]) λvR=>?_
 refine nx J24 (sr λ_ J25=>P2 ?_);refine nx J25 (ah (ae (WK [0] (aw rfl rfl ?_))));have e:bI V.toDk s o=((du (opsS s) ((opsS s).ops) ((cF (opsS s) o).2.2) ((cF (opsS s) o).2.1)),(cF (opsS s) o).2.2):=by rw[bI,show jp s.view s.id=false from h30,if_neg (by rw[ik];decide),lv,if_pos (.inr h54)]
 exact kn e;refine PS ?_;refine nx J21 (CN (qx J20 (aa λ_ J26=>sr λ_ J27=>P2 ?_)));refine LW 0 ei bf ai ?_;refine PS ?_;refine CE NU (sD V r (opsS s) ((cF (opsS s) o).1) ((opsS s).ops)) (SM [1]) ?_;refine PS ?_;refine nx J27 (sr λ_ J28=>P2 ?_);refine ap ?_ ?_<;>intro h68;refine nx J28 (CY (ac (P3 ?_)));refine CZ uT (fm V r ((dF V.toDk (opsS s) ((cF (opsS s) o).1) ((opsS s).ops)).1) ((opsS s).ops) ((dF V.toDk (opsS s) ((cF (opsS s) o).1) ((opsS s).ops)).2) 0 (by first|exact hrs| (rw[kc];exact hrs))) ID λvR=>?_
 refine nx J26 (sr λ_ J29=>P2 ?_);refine nx J29 (ah (WK [0] (aw rfl rfl ?_)));have e:bI V.toDk s o=((du ((dF V.toDk (opsS s) ((cF (opsS s) o).1) ((opsS s).ops)).1) ((opsS s).ops) ((dF V.toDk (opsS s) ((cF (opsS s) o).1) ((opsS s).ops)).2) 0),(dF V.toDk (opsS s) (cF (opsS s) o).1 (opsS s).ops).2):=by rw[bI,show jp s.view s.id=false from h30,if_neg (by rw[ik];decide),lv,if_neg (λh=>h.elim (λh=>h50 h) (λh=>h54 h)),if_pos h68]
 exact kn e;refine nx J28 (CN (qx J26 (sr λ_ J30=>P2 ?_)));refine nx J30 (ah (WK [0] (aw rfl rfl ?_)));have e:bI V.toDk s o=((dF V.toDk (opsS s) ((cF (opsS s) o).1) ((opsS s).ops)).1,(dF V.toDk (opsS s) (cF (opsS s) o).1 (opsS s).ops).2):=by rw[bI,show jp s.view s.id=false from h30,if_neg (by rw[ik];decide),lv,if_neg (λh=>h.elim (λh=>h50 h) (λh=>h54 h)),if_neg h68,show(dF V.toDk (opsS s) (cF (opsS s) o).1 (opsS s).ops).2=0 from Decidable.not_not.1 h68]
 exact kn e
theorem EY{δ:Type}(V:Env δ)(r:Nat)(s:MS δ)[OkR V.toDk s](hv:(fx V.toDk (ca V.toDk (bO V.toDk s))).vote=none):
 DT 26 #[(.pointer (some ⟨r,0,none⟩)),(.iface V.T V.ov)] T0 [cV V r s] (dD (λ_ H=>H=[cV V r (gS V.toDk s)])):=by
 refine BD 89 Tryz.func26 rfl rfl rfl λw0 F hF=>aa λ_ J1=>fy (α:=Unit) (λ_u=>True) (λ_u=>[(0,(.pointer (some ⟨r,0,none⟩))),(1,(.iface V.T V.ov))]) (λ_u=>[cV V r (if s.busy=true then eU V.toDk s else s)]) (λ_u hinv=>?_) (λtl1=>?_)
 have _:=hinv;refine ad J1 (sr λ_ J2=>P2 ?_);refine CZ Mh (pL V r (if s.busy=true then eU V.toDk s else s)) ID λvR=>?_
 refine nx J2 (sr λ_ J3=>P2 ?_);refine CZ NR (qS V r (lj V.toDk (if s.busy=true then eU V.toDk s else s))) ID λvR=>?_
 refine nx J3 (aa λ_ J4=>fy (α:=Unit) (λ_u=>True) (λ_u=>[(0,(.pointer (some ⟨r,0,none⟩))),(1,(.iface V.T V.ov))]) (λ_u=>[cV V r (ca V.toDk (bO V.toDk s))]) (λ_u hinv=>?_) (λtl4=>?_));have _:=hinv;refine ad J4 (aa λ_ J5=>aa λ_ J6=>DB bl (di 0 rfl rfl) ?_);refine PD 0 ?_;refine PD 1 ?_;refine FD 2 2 dv bj ?_;refine ta 3 rfl (gO (vs:=ints ((ca V.toDk (bO V.toDk s)).view).flat) rfl eB rfl bj rfl (λ_ h=>h.2.1) (an ((ca V.toDk (bO V.toDk s)).view)) (λa_=>(gF ((ca V.toDk (bO V.toDk s)).rep a_) 0 rfl (by decide) (whole (an (((ca V.toDk (bO V.toDk s)).rep a_).view)))))) ?_;refine PD 4 ?_;refine PD 5 ?_;refine FD 6 0 dv aP ?_;refine ta 7 rfl (dB (v:=(.int .i64 ((ca V.toDk (bO V.toDk s)).id))) rfl Y3 rfl rfl (λ_ h=>h.2.1) (λa_=>(cU _ rfl))) ?_;refine AL 8 ?_;refine CE qH (dR ((ca V.toDk (bO V.toDk s)).view) ((ca V.toDk (bO V.toDk s)).id)) ID ?_;refine bg ?_ ?_<;>intro h42;refine EN (PD 9 ?_);refine DN (ad J6 (CN (qx J5 (aa λ_ J7=>fy (α:=Unit) (λ_u=>True) (λ_u=>[(0,(.pointer (some ⟨r,0,none⟩))),(1,(.iface V.T V.ov))]) (λ_u=>[cV V r (fx V.toDk (ca V.toDk (bO V.toDk s)))]) (λ_u hinv=>?_) (λtl7=>?_)))));have _:=hinv;refine ad J7 (aa λ_ J8=>sr λ_ J9=>cr (H':=wM V r (fx V.toDk (ca V.toDk (bO V.toDk s))) (.pointer none)::[]) (λ_ q=>tM hv q) (P2 ?_));refine FA 1067 dv nI ?_;refine LG 0 p9 (.pointer none) ?_ (hc:=by exact λa_=>(cg _ rfl))
 refine tp (RH rfl p9 rfl rfl) ?_;refine nx J9 (CY (ah (ae (aE (H':=[cV V r (fx V.toDk (ca V.toDk (bO V.toDk s)))]) (dK _) (λ_ q=>oZ hv (ak [0] rfl q)) (dW rfl ?_)))));exact MQ (by rw[gS,if_pos h42,pS,hv]);refine aa λ_ J10=>fy (α:=(Nat)) (λb4=>True) (λb4=>[(0,(.pointer (some ⟨r,0,none⟩))),(1,(.iface V.T V.ov)),(4,(.pointer (some ⟨b4,0,none⟩)))]) (λb4=>[cV V r (ca V.toDk (bO V.toDk s)),aj b4 (ints (cA (ca V.toDk (bO V.toDk s)).book (ca V.toDk (bO V.toDk s)).id).flat) 74]) (λb4 hinv=>?_) (λtl10=>?_)
 have _:=hinv;refine ad J10 (sr λ_ J11=>FA 0 ei aP ?_);refine LT 1 Y3 (.int .i64 ((cA (ca V.toDk (bO V.toDk s)).book (ca V.toDk (bO V.toDk s)).id).version)) ?_ (hc:=by exact cN _ rfl);refine PS ?_;refine ap ?_ ?_<;>intro h54;refine nx J11 (CY (ac (P2 ?_)));refine LW 1 ei bf ai ?_;refine CZ NP (nE V r (ca V.toDk (bO V.toDk s)) (cA (ca V.toDk (bO V.toDk s)).book (ca V.toDk (bO V.toDk s)).id)) ID λvR=>?_
 refine au ?_
 exact aE
  SB
  (λ_ q=>by
   rw[fx,if_pos h54]
   exact ak [0] rfl q)
  (tl7 (():Unit) trivial)
 refine nx J11 (CN (aR ?_))
 exact aE
  SB
  (λ_ q=>by
   rw[fx,if_neg h54]
   exact ak [0] rfl q)
  (tl7 (():Unit) trivial)
 refine DB bl (di 0 rfl rfl) ?_;refine PD 0 ?_;refine PD 1 ?_;refine FD 2 1068 dv Cm ?_;refine PD 3 ?_;refine PD 4 ?_;refine FD 5 0 dv aP ?_;refine ta 6 rfl (dB (v:=(.int .i64 ((ca V.toDk (bO V.toDk s)).id))) rfl Y3 rfl rfl (λ_ h=>h.2.1) (λa_=>(cU _ rfl))) ?_;refine da [7,8] (by kernel_rfl) rfl (aF rfl ?_ ?_);refine CE Mg (Leg.Does.hid (λa_=>nq r 1068 95 _ (gJ ((ca V.toDk (bO V.toDk s)).rep a_)) (ca V.toDk (bO V.toDk s)).book ((ca V.toDk (bO V.toDk s)).id))) ID ?_;refine EN (AL 8 ?_);refine XZ vl (ints RowT.zero.flat) λb4=>?_
 refine EN (AL 9 ?_);refine SW 0 bf ai ?_;refine EN (DN ?_)
 exact aE
  SB
  (λ_ s=>ak [1,0] rfl s)
  (tl10 ((b4):(Nat)) trivial)
 refine aF rfl ?_ ?_;refine XZ vl (ints RowT.zero.flat) λb4=>?_
 refine EN (AL 7 ?_);refine CE Mg (Leg.Does.hid (λa_=>nq r 1068 95 _ (gJ ((ca V.toDk (bO V.toDk s)).rep a_)) (ca V.toDk (bO V.toDk s)).book ((ca V.toDk (bO V.toDk s)).id))) (SM [1]) ?_;refine EN (AL 9 ?_);refine SW 1 bf ai ?_;refine EN (DN ?_)
 exact aE
  SB
  (λ_ s=>ak [0,0] rfl s)
  (tl10 ((b4):(Nat)) trivial)
 exact bP;refine EN (PD 9 ?_);refine DN (ad J6 (CY (ah (ae (WK [0] (dW rfl ?_))))));exact MQ (by rw[gS,if_neg (by rw[h42];decide)]);refine sr λ_ J12=>P2 ?_
 refine FA 2 dv bj ?_;refine FA 2 eB aP ?_;refine LG 0 Y3 (.int .i64 (((bO V.toDk s).view).epoch)) ?_ (hc:=by exact λa_=>(cz ((bO V.toDk s).rep a_) 0 rfl (by decide) (aV _ rfl)));refine PS ?_;refine ap ?_ ?_<;>intro h26;refine nx J12 (CY (ac (P4 ?_)));refine FA 2 dv bj ?_;refine LZ 0 eB bj an ((bO V.toDk s).view) ?_ (hc:=by exact λ_=>df _);refine CZ NQ (nD V r (bO V.toDk s) ((bO V.toDk s).view)) ID λvR=>?_
 refine au ?_
 exact aE
  SB
  (λ_ q=>by
   rw[ca,if_pos h26]
   exact ak [0] rfl q)
  (tl4 (():Unit) trivial)
 refine nx J12 (CN (aR ?_))
 exact aE
  SB
  (λ_ q=>by
   rw[ca,if_neg h26]
   exact ak [0] rfl q)
  (tl4 (():Unit) trivial)
 refine sr λ_ J13=>P2 ?_
 refine FA 1938 dv lR ?_;refine LG 0 Y4 (.bool (s.busy)) ?_ (hc:=by exact λa_=>(zh _ rfl));refine bg ?_ ?_<;>intro h11;refine nx J13 (CY (ac (P2 ?_)));refine CZ NS (oF V r s) ID λvR=>?_
 refine au ?_
 exact aE
  SB
  (λ_ q=>by
   rw[if_pos h11]
   exact ak [0] rfl q)
  (tl1 (():Unit) trivial)
 refine nx J13 (CN (aR ?_))
 exact aE
  SB
  (λ_ q=>by
   rw[if_neg (by rw[h11];decide)]
   exact ak [0] rfl q)
  (tl1 (():Unit) trivial)
theorem EX{δ:Type}(V:Env δ)(r:Nat)(s:MS δ)(vt:VoteT)[OkR V.toDk s](hv:(fx V.toDk (ca V.toDk (bO V.toDk s))).vote=some vt):
 DT 26 #[(.pointer (some ⟨r,0,none⟩)),(.iface V.T V.ov)] T0 [cV V r s] (dD (λ_ H=>H=[cV V r (gS V.toDk s)])):=by
 refine BD 89 Tryz.func26 rfl rfl rfl λw0 F hF=>?_
 have hov:OkVt vt:=OkR.vote vt hv;refine aa λ_ J1=>fy (α:=Unit) (λ_u=>True) (λ_u=>[(0,(.pointer (some ⟨r,0,none⟩))),(1,(.iface V.T V.ov))]) (λ_u=>[cV V r (if s.busy=true then eU V.toDk s else s)]) (λ_u hinv=>?_) (λtl1=>?_)
 have _:=hinv;refine ad J1 (sr λ_ J2=>P2 ?_);refine CZ Mh (pL V r (if s.busy=true then eU V.toDk s else s)) ID λvR=>?_
 refine nx J2 (sr λ_ J3=>P2 ?_);refine CZ NR (qS V r (lj V.toDk (if s.busy=true then eU V.toDk s else s))) ID λvR=>?_
 refine nx J3 (aa λ_ J4=>fy (α:=Unit) (λ_u=>True) (λ_u=>[(0,(.pointer (some ⟨r,0,none⟩))),(1,(.iface V.T V.ov))]) (λ_u=>[cV V r (ca V.toDk (bO V.toDk s))]) (λ_u hinv=>?_) (λtl4=>?_));have _:=hinv;refine ad J4 (aa λ_ J5=>aa λ_ J6=>DB bl (di 0 rfl rfl) ?_);refine PD 0 ?_;refine PD 1 ?_;refine FD 2 2 dv bj ?_;refine ta 3 rfl (gO (vs:=ints ((ca V.toDk (bO V.toDk s)).view).flat) rfl eB rfl bj rfl (λ_ h=>h.2.1) (an ((ca V.toDk (bO V.toDk s)).view)) (λa_=>(gF ((ca V.toDk (bO V.toDk s)).rep a_) 0 rfl (by decide) (whole (an (((ca V.toDk (bO V.toDk s)).rep a_).view)))))) ?_;refine PD 4 ?_;refine PD 5 ?_;refine FD 6 0 dv aP ?_;refine ta 7 rfl (dB (v:=(.int .i64 ((ca V.toDk (bO V.toDk s)).id))) rfl Y3 rfl rfl (λ_ h=>h.2.1) (λa_=>(cU _ rfl))) ?_;refine AL 8 ?_;refine CE qH (dR ((ca V.toDk (bO V.toDk s)).view) ((ca V.toDk (bO V.toDk s)).id)) ID ?_;refine bg ?_ ?_<;>intro h42;refine EN (PD 9 ?_);refine DN (ad J6 (CN (qx J5 (aa λ_ J7=>fy (α:=Unit) (λ_u=>True) (λ_u=>[(0,(.pointer (some ⟨r,0,none⟩))),(1,(.iface V.T V.ov))]) (λ_u=>[cV V r (fx V.toDk (ca V.toDk (bO V.toDk s)))]) (λ_u hinv=>?_) (λtl7=>?_)))));have _:=hinv;refine ad J7 (aa λ_ J8=>sr λ_ J9=>No (H':=λvb:Nat=>wM V r (fx V.toDk (ca V.toDk (bO V.toDk s))) (.pointer (some ⟨vb,0,none⟩))::aj vb (VoteT.cells vt) 196::[]) (λ_ q=>nT hv q) (λvb=>P2 ?_));refine FA 1067 dv nI ?_
 refine LG 0 p9 (.pointer (some ⟨vb,0,none⟩)) ?_ (hc:=by exact λa_=>(cg _ rfl));refine tp (gy rfl p9 rfl rfl) ?_;refine nx J9 (CN (qx J8 (sr λ_ J10=>P2 ?_)));refine FA 1067 dv nI ?_;refine LG 0 p9 (.pointer (some ⟨vb,0,none⟩)) ?_ (hc:=by exact λa_=>(cg _ rfl));refine CE uS (dw vb vt) (SM [1]) ?_;change TL _ _ _ _ _ _ _ _ _ [aj vb (VoteT.cells vt) 196,wM V r (fx V.toDk (ca V.toDk (bO V.toDk s))) (.pointer (some ⟨vb,0,none⟩))];refine cr (H':=cV V r (fx V.toDk (ca V.toDk (bO V.toDk s)))::[]) (λ_ q=>oY hv (aD [1,0] rfl q)) (XZ Qj (ints ChangeT.zero.flat) λb5=>?_);refine SW 0 fD aJ ?_;refine nx J10 (aa λ_ J11=>fy (α:=Unit) (λ_u=>True) (λ_u=>[(0,(.pointer (some ⟨r,0,none⟩))),(1,(.iface V.T V.ov)),(5,(.pointer (some ⟨b5,0,none⟩))),(7,(.int .i64 ((dI (fx V.toDk (ca V.toDk (bO V.toDk s))).view vt.change).2)))]) (λ_u=>[cV V r (fx V.toDk (ca V.toDk (bO V.toDk s))),aj b5 (ints vt.change.flat) 28]) (λ_u hinv=>?_) (λtl11=>?_));have _:=hinv;refine ad J11 (sr λ_ J12=>P2 ?_);refine ap ?_ ?_<;>intro h79;refine P2 ?_;refine LW 1 mP fD aJ ?_;refine CE NO (qU V r (fx V.toDk (ca V.toDk (bO V.toDk s))) vt.change) ID ?_;refine PS ?_;refine ap ?_ ?_<;>intro h84;refine PS ?_;refine nx J12 (CY (ac (P2 ?_)))
 refine CZ Mf (sq V r ((bN V.toDk (fx V.toDk (ca V.toDk (bO V.toDk s))) vt.change).1) (jr (fx V.toDk (ca V.toDk (bO V.toDk s))).view (cZ (fx V.toDk (ca V.toDk (bO V.toDk s)))) vt.change) (sG h84)) ID λvR=>?_
 refine au (WK [0] (bB rfl ?_));exact MQ (by rw[gS,if_pos h42,pS,hv];simp only[];rw[if_pos h79,if_pos h84]);refine PS ?_;refine nx J12 (CN (aR (WK [0] (bB rfl ?_))));exact MQ (by rw[gS,if_pos h42,pS,hv];simp only[];rw[if_pos h79,if_neg h84]);refine PS ?_
 iterate 4 refine UF ?_
 refine PS ?_;refine nx J12 (CN (aR (WK [0] (bB rfl ?_))));exact MQ (by rw[gS,if_pos h42,pS,hv];simp only[];rw[if_neg h79]);refine DC bl (di 1 rfl rfl) (BL 0) ?_;refine PD 0 ?_;refine PD 1 ?_;refine FD 2 2 dv bj ?_;refine ta 3 rfl (gO (vs:=ints ((fx V.toDk (ca V.toDk (bO V.toDk s))).view).flat) rfl eB rfl bj rfl (λ_ h=>h.2.1) (an ((fx V.toDk (ca V.toDk (bO V.toDk s))).view)) (λa_=>(gF ((fx V.toDk (ca V.toDk (bO V.toDk s))).rep a_) 0 rfl (by decide) (whole (an (((fx V.toDk (ca V.toDk (bO V.toDk s))).rep a_).view)))))) ?_;refine LY 4 mP fD aJ ?_;refine da [5,9] (by kernel_rfl) rfl (aF rfl ?_ ?_);refine CE nR (dH ((fx V.toDk (ca V.toDk (bO V.toDk s))).view) vt.change OkVw.rng) ID ?_;refine EN (PD 6 ?_);refine PD 7 ?_;refine PD 8 ?_;refine AL 9 ?_;refine XZ sO (ints ViewT.zero.flat) λb6=>?_
 refine EN (AL 10 ?_);refine SW 0 bj an ?_;refine EN (PD 11 ?_);refine DN ?_
 exact aE
  SB
  (λ_ s=>ak [2,1] rfl s)
  (tl11 (():Unit) trivial)
 refine aF rfl ?_ ?_;refine XZ sO (ints ViewT.zero.flat) λb6=>?_
 refine EN (AL 5 ?_);refine CE nR (dH ((fx V.toDk (ca V.toDk (bO V.toDk s))).view) vt.change OkVw.rng) ID ?_;refine EN (PD 6 ?_);refine PD 7 ?_;refine PD 8 ?_;refine AL 10 ?_;refine SW 0 bj an ?_;refine EN (PD 11 ?_);refine DN ?_
 exact aE
  SB
  (λ_ s=>ak [2,1] rfl s)
  (tl11 (():Unit) trivial)
 exact bP;refine aa λ_ J13=>fy (α:=(Nat)) (λb4=>True) (λb4=>[(0,(.pointer (some ⟨r,0,none⟩))),(1,(.iface V.T V.ov)),(4,(.pointer (some ⟨b4,0,none⟩)))]) (λb4=>[cV V r (ca V.toDk (bO V.toDk s)),aj b4 (ints (cA (ca V.toDk (bO V.toDk s)).book (ca V.toDk (bO V.toDk s)).id).flat) 74]) (λb4 hinv=>?_) (λtl13=>?_)
 have _:=hinv;refine ad J13 (sr λ_ J14=>FA 0 ei aP ?_);refine LT 1 Y3 (.int .i64 ((cA (ca V.toDk (bO V.toDk s)).book (ca V.toDk (bO V.toDk s)).id).version)) ?_ (hc:=by exact cN _ rfl);refine PS ?_;refine ap ?_ ?_<;>intro h54;refine nx J14 (CY (ac (P2 ?_)));refine LW 1 ei bf ai ?_;refine CZ NP (nE V r (ca V.toDk (bO V.toDk s)) (cA (ca V.toDk (bO V.toDk s)).book (ca V.toDk (bO V.toDk s)).id)) ID λvR=>?_
 refine au ?_
 exact aE
  SB
  (λ_ q=>by
   rw[fx,if_pos h54]
   exact ak [0] rfl q)
  (tl7 (():Unit) trivial)
 refine nx J14 (CN (aR ?_))
 exact aE
  SB
  (λ_ q=>by
   rw[fx,if_neg h54]
   exact ak [0] rfl q)
  (tl7 (():Unit) trivial)
 refine DB bl (di 0 rfl rfl) ?_;refine PD 0 ?_;refine PD 1 ?_;refine FD 2 1068 dv Cm ?_;refine PD 3 ?_;refine PD 4 ?_;refine FD 5 0 dv aP ?_;refine ta 6 rfl (dB (v:=(.int .i64 ((ca V.toDk (bO V.toDk s)).id))) rfl Y3 rfl rfl (λ_ h=>h.2.1) (λa_=>(cU _ rfl))) ?_;refine da [7,8] (by kernel_rfl) rfl (aF rfl ?_ ?_);refine CE Mg (Leg.Does.hid (λa_=>nq r 1068 95 _ (gJ ((ca V.toDk (bO V.toDk s)).rep a_)) (ca V.toDk (bO V.toDk s)).book ((ca V.toDk (bO V.toDk s)).id))) ID ?_;refine EN (AL 8 ?_);refine XZ vl (ints RowT.zero.flat) λb4=>?_
 refine EN (AL 9 ?_);refine SW 0 bf ai ?_;refine EN (DN ?_)
 exact aE
  SB
  (λ_ s=>ak [1,0] rfl s)
  (tl13 ((b4):(Nat)) trivial)
 refine aF rfl ?_ ?_;refine XZ vl (ints RowT.zero.flat) λb4=>?_
 refine EN (AL 7 ?_);refine CE Mg (Leg.Does.hid (λa_=>nq r 1068 95 _ (gJ ((ca V.toDk (bO V.toDk s)).rep a_)) (ca V.toDk (bO V.toDk s)).book ((ca V.toDk (bO V.toDk s)).id))) (SM [1]) ?_;refine EN (AL 9 ?_);refine SW 1 bf ai ?_;refine EN (DN ?_)
 exact aE
  SB
  (λ_ s=>ak [0,0] rfl s)
  (tl13 ((b4):(Nat)) trivial)
 exact bP;refine EN (PD 9 ?_);refine DN (ad J6 (CY (ah (ae (WK [0] (dW rfl ?_))))));exact MQ (by rw[gS,if_neg (by rw[h42];decide)]);refine sr λ_ J15=>P2 ?_
 refine FA 2 dv bj ?_;refine FA 2 eB aP ?_;refine LG 0 Y3 (.int .i64 (((bO V.toDk s).view).epoch)) ?_ (hc:=by exact λa_=>(cz ((bO V.toDk s).rep a_) 0 rfl (by decide) (aV _ rfl)));refine PS ?_;refine ap ?_ ?_<;>intro h26;refine nx J15 (CY (ac (P4 ?_)));refine FA 2 dv bj ?_;refine LZ 0 eB bj an ((bO V.toDk s).view) ?_ (hc:=by exact λ_=>df _);refine CZ NQ (nD V r (bO V.toDk s) ((bO V.toDk s).view)) ID λvR=>?_
 refine au ?_
 exact aE
  SB
  (λ_ q=>by
   rw[ca,if_pos h26]
   exact ak [0] rfl q)
  (tl4 (():Unit) trivial)
 refine nx J15 (CN (aR ?_))
 exact aE
  SB
  (λ_ q=>by
   rw[ca,if_neg h26]
   exact ak [0] rfl q)
  (tl4 (():Unit) trivial)
 refine sr λ_ J16=>P2 ?_
 refine FA 1938 dv lR ?_;refine LG 0 Y4 (.bool (s.busy)) ?_ (hc:=by exact λa_=>(zh _ rfl));refine bg ?_ ?_<;>intro h11;refine nx J16 (CY (ac (P2 ?_)));refine CZ NS (oF V r s) ID λvR=>?_
 refine au ?_
 exact aE
  SB
  (λ_ q=>by
   rw[if_pos h11]
   exact ak [0] rfl q)
  (tl1 (():Unit) trivial)
 refine nx J16 (CN (aR ?_))
 exact aE
  SB
  (λ_ q=>by
   rw[if_neg (by rw[h11];decide)]
   exact ak [0] rfl q)
  (tl1 (():Unit) trivial)
theorem EW{δ:Type}(V:Env δ)(r:Nat)(s:MS δ)[OkR V.toDk s]:DT 26 #[.pointer (some ⟨r,0,none⟩), .iface V.T V.ov] T0 [cV V r s] (dD (λ_ H=>H=[cV V r (gS V.toDk s)])):=by
 cases hv:(fx V.toDk (ca V.toDk (bO V.toDk s))).vote with
 |none=>exact EY V r s hv
 |some vt=>exact EX V r s vt hv
abbrev EL{δ:Type}(lg r:Nat)(s:MS δ):HP:=hid r (λ_:Unit=>RepT.cells (s.rep ⟨lg, .pointer none, .slice none 0 0⟩)) 95 (λ_=>[])
theorem vW{δ:Type}(lg r:Nat)(s:MS δ)(v:ViewT):
 DT 44 #[(.pointer (some ⟨r,0,none⟩)),(.agg (ints v.flat).toArray)] T0 [EL lg r s] (dD (λ_ H=>H=[EL lg r (lM s v)])):=by
 refine BD 20 Tryz.func44 rfl rfl rfl λw0 F hF=>sr λ_ J1=>XY (ints v.flat) λb3=>?_
 refine nx J1 (sr λ_ J2=>PS ?_);refine LW 0 eB bj an ?_;refine PS ?_;refine FA 2 dv bj ?_;refine iw (vs:=ints v.flat) (i:=1) (ab rfl) rfl rfl rfl rfl rfl (by rw[(an v)];exact bj) (bv _) rfl rfl (λ_=>LC (dh _) (an _)) (λa_=>(Rg (s.rep ⟨lg, .pointer none, .slice none 0 0⟩) 0 rfl (by have h1:=(an v);omega) (cy ((an ((s.rep ⟨lg, .pointer none, .slice none 0 0⟩).view)).trans (an v).symm)))) (nx J2 (sr λ_ J3=>PS ?_));refine FA 0 eB aP ?_;refine LU 0 Y3 (aV v rfl) ?_;refine tp (kp AccT.zero (AccT.mk v.epoch BallotT.zero BallotT.zero ChangeT.zero) [(0,[Value.int .i64 v.epoch])] qf pg (g:=AccT.sg)) ?_;refine PS ?_;refine FA 1058 dv gm ?_;refine iw (vs:=ints (AccT.mk v.epoch BallotT.zero BallotT.zero ChangeT.zero).flat) (i:=1) (ab rfl) rfl rfl rfl rfl rfl (by rw[(be (AccT.mk v.epoch BallotT.zero BallotT.zero ChangeT.zero))];exact gm) (bv _) rfl rfl (λ_=>LC (dh _) (be _)) (λa_=>(lp ((MS.setView s v).rep ⟨lg, .pointer none, .slice none 0 0⟩) 0 rfl (by have h1:=(be (AccT.mk v.epoch BallotT.zero BallotT.zero ChangeT.zero));omega) (cy ((be (((MS.setView s v).rep ⟨lg, .pointer none, .slice none 0 0⟩).acc)).trans (be (AccT.mk v.epoch BallotT.zero BallotT.zero ChangeT.zero)).symm)))) (nx J3 (sr λ_ J4=>P2 ?_));refine FA 1067 dv nI ?_;refine SK 1 nI (λ_=>dh _) ?_ (hc:=by exact λa_=>(Rh _ rfl _));refine nx J4 (ac (P2 ?_));refine FA 1066 dv aP ?_;refine SK 1 aP (λ_=>dh _) ?_ (hc:=by exact λa_=>(mJ _ rfl _))
 exact au (WK [1] (bB rfl rfl))
theorem yP{δ:Type}(lg r:Nat)(s:MS δ)(m:RecT)(hw:WF m.row.flat):
 DT 47 #[(.pointer (some ⟨r,0,none⟩)),(.agg (ints m.flat).toArray)] T0 [EL lg r s] (dD (λ_ H=>H=[EL lg r (km s m)])):=by
 refine BD 93 Tryz.func47 rfl rfl rfl λw0 F hF=>sr λ_ J1=>XY (ints m.flat) λb3=>?_
 refine nx J1 (sr λ_ J2=>FA 0 eC aP ?_);refine LU 0 Y3 (lq m rfl) ?_;refine nx J2 (am (sr λ_ J3=>PS ?_));refine ap ?_ ?_<;>intro h7;refine PS ?_;refine nx J3 (CY (ac (P3 ?_)));refine FA 2 eC bf ?_;refine LV 0 ei bf ai RecT.sp_row (y:=m.row) ?_;refine PS ?_;refine FA 9 dv bf ?_;refine iw (vs:=ints m.row.flat) (i:=1) (ab rfl) rfl rfl rfl rfl rfl (by rw[(ai m.row)];exact bf) (bv _) rfl rfl (λ_=>LC (dh _) (ai _)) (λa_=>(RF (s.rep ⟨lg, .pointer none, .slice none 0 0⟩) 0 rfl (by have h1:=(ai m.row);omega) (cy ((ai ((s.rep ⟨lg, .pointer none, .slice none 0 0⟩).own)).trans (ai m.row).symm)))) (PS ?_);refine FA 1938 dv lR ?_;refine SK 1 lR (λ_=>dh _) ?_ (hc:=by exact λa_=>(Rj _ rfl _));refine PS ?_;refine FA 1939 dv aP ?_;refine SK 1 aP (λ_=>dh _) ?_ (hc:=by exact λa_=>(Ri _ rfl _));refine au (af (WK [1] (bB rfl ?_)));exact congrArg (λq=>[EL lg r q]) (show(MS.setKept (MS.setBusy (MS.setOwn s m.row) true) 0)=km s m by rw[km,if_pos h7]<;>rfl);refine PS ?_;refine nx J3 (CN (sr λ_ J4=>PS ?_));refine ap ?_ ?_<;>intro h20;refine PS ?_;refine nx J4 (CY (D1 0 bl ?_));refine PD 0 ?_;refine PD 1 ?_;refine FD 2 183 dv uD ?_;refine FD 3 1 eC aP ?_;refine LR 4 Y3 (Hc m rfl) ?_;refine FD 5 2 eC bf ?_;refine ta 6 rfl (aN (vs:=ints m.row.flat) rfl ei rfl bf rfl (λ_ h=>h.2.1) (ai m.row) (sN m 0 rfl (by decide) (whole (ai m.row)))) ?_;refine AL 7 ?_
 refine CE OR (Leg.Does.hid (λa_=>tO r 183 95 _ (ej (s.rep ⟨lg, .pointer none, .slice none 0 0⟩)) s.mirror m.whose m.row hw)) (SM [1]) ?_;refine EN (DN (af (WK [0] (bB rfl ?_))));exact congrArg (λq=>[EL lg r q]) (show(ig s m.whose m.row)=km s m by rw[km,if_neg h7,if_pos h20]<;>rfl);refine PS ?_;refine nx J4 (CN (sr λ_ J5=>PS ?_));refine ap ?_ ?_<;>intro h30;refine PS ?_;refine nx J5 (CY (D1 0 bl ?_));refine PD 0 ?_;refine PD 1 ?_;refine FD 2 183 dv uD ?_;refine FD 3 1 eC aP ?_;refine LR 4 Y3 (Hc m rfl) ?_;refine AL 5 ?_;refine CE OQ (Leg.Does.hid (λa_=>tN r 183 95 _ (ej (s.rep ⟨lg, .pointer none, .slice none 0 0⟩)) s.mirror m.whose)) (SM [1]) ?_;refine EN (DN (af (WK [0] (bB rfl ?_))));exact congrArg (λq=>[EL lg r q]) (show(k9 s m.whose)=km s m by rw[km,if_neg h7,if_neg h20,if_pos h30]<;>rfl);refine PS ?_;refine nx J5 (CN (sr λ_ J6=>PS ?_));refine ap ?_ ?_<;>intro h38;refine PS ?_;refine nx J6 (CY (sr λ_ J7=>PS ?_));refine FA 177 eC cK ?_;refine LV 0 kU cK aq RecT.sp_ballot (y:=m.ballot) ?_;refine PS ?_;refine FA 1058 dv gm ?_;refine FA 1059 qf cK ?_
 refine iw (vs:=ints m.ballot.flat) (i:=1) (ab rfl) rfl rfl rfl rfl rfl (by rw[(aq m.ballot)];exact cK) (bv _) rfl rfl (λ_=>LC (dh _) (aq _)) (λa_=>(lp (s.rep ⟨lg, .pointer none, .slice none 0 0⟩) 1 rfl (by have h1:=(aq m.ballot);omega) (RN ((s.rep ⟨lg, .pointer none, .slice none 0 0⟩).acc) 0 rfl (by have h1:=(aq m.ballot);omega) (cy ((aq (((s.rep ⟨lg, .pointer none, .slice none 0 0⟩).acc).vow)).trans (aq m.ballot).symm))))) (nx J7 (D1 0 bl ?_));refine PD 0 ?_;refine PD 1 ?_;refine PD 2 ?_;refine FD 3 1066 dv aP ?_;refine FD 5 177 eC cK ?_;refine FD 6 177 kU aP ?_;refine LX 7 Y3 (.int .i64 (m.ballot.round)) ?_ (hc:=by exact RecT.pt_ballot m 0 rfl (by decide) (fC m.ballot rfl));refine AL 4 ?_;refine LG 1 Y3 (.int .i64 (s.round)) ?_ (hc:=by exact λa_=>(wA _ rfl));refine EN (ta 8 rfl (zk rfl rfl rfl) ?_);refine PD 9 ?_;refine FD 10 1066 dv aP ?_;refine AL 11 ?_;refine SK 1 aP (λ_=>dh _) ?_ (hc:=by exact λa_=>(mJ _ rfl _));refine EN (DN (af (WK [1] (bB rfl ?_))));exact congrArg (λq=>[EL lg r q]) (show(MS.setRound (MS.setAcc s (AccT.mk s.acc.epoch m.ballot s.acc.had s.acc.change)) (max s.round m.ballot.round))=km s m by rw[km,if_neg h7,if_neg h20,if_neg h30,if_pos h38]<;>rfl);refine PS ?_;refine nx J6 (CN (sr λ_ J8=>PS ?_));refine ap ?_ ?_<;>intro h57;refine PS ?_;refine nx J8 (CY (aa λ_ J9=>D1 0 bl ?_));refine PD 0 ?_;refine PD 1 ?_;refine PD 2 ?_;refine FD 3 177 eC cK ?_
 refine ta 4 rfl (aN (vs:=ints m.ballot.flat) rfl kU rfl cK rfl (λ_ h=>h.2.1) (aq m.ballot) (rG m 0 rfl (by decide) (whole (aq m.ballot)))) ?_;refine FD 5 177 eC cK ?_;refine ta 6 rfl (aN (vs:=ints m.ballot.flat) rfl kU rfl cK rfl (λ_ h=>h.2.1) (aq m.ballot) (rG m 0 rfl (by decide) (whole (aq m.ballot)))) ?_;refine FD 7 179 eC fD ?_;refine ta 8 rfl (aN (vs:=ints m.change.flat) rfl mP rfl fD rfl (λ_ h=>h.2.1) (aJ m.change) (Oh m 0 rfl (by decide) (whole (aJ m.change)))) ?_;refine PD 9 ?_;refine FD 10 1058 dv gm ?_;refine FD 11 1059 qf cK ?_;refine AL 12 ?_;refine iw (vs:=ints m.ballot.flat) (i:=1) (ab rfl) rfl rfl rfl rfl rfl (by rw[(aq m.ballot)];exact cK) (bv _) rfl rfl (λ_=>LC (dh _) (aq _)) (λa_=>(lp (s.rep ⟨lg, .pointer none, .slice none 0 0⟩) 1 rfl (by have h1:=(aq m.ballot);omega) (RN ((s.rep ⟨lg, .pointer none, .slice none 0 0⟩).acc) 0 rfl (by have h1:=(aq m.ballot);omega) (cy ((aq (((s.rep ⟨lg, .pointer none, .slice none 0 0⟩).acc).vow)).trans (aq m.ballot).symm))))) (EN (PD 13 ?_));refine FD 14 1058 dv gm ?_;refine FD 15 1061 qf cK ?_;refine AL 16 ?_
 refine iw (vs:=ints m.ballot.flat) (i:=1) (ab rfl) rfl rfl rfl rfl rfl (by rw[(aq m.ballot)];exact cK) (bv _) rfl rfl (λ_=>LC (dh _) (aq _)) (λa_=>(lp ((MS.setAcc s (AccT.mk s.acc.epoch m.ballot s.acc.had s.acc.change)).rep ⟨lg, .pointer none, .slice none 0 0⟩) 3 rfl (by have h1:=(aq m.ballot);omega) (AccT.wr_had_ (((MS.setAcc s (AccT.mk s.acc.epoch m.ballot s.acc.had s.acc.change)).rep ⟨lg, .pointer none, .slice none 0 0⟩).acc) 0 rfl (by have h1:=(aq m.ballot);omega) (cy ((aq ((((MS.setAcc s (AccT.mk s.acc.epoch m.ballot s.acc.had s.acc.change)).rep ⟨lg, .pointer none, .slice none 0 0⟩).acc).had)).trans (aq m.ballot).symm))))) (EN (PD 17 ?_));refine FD 18 1058 dv gm ?_;refine FD 19 1063 qf fD ?_;refine AL 20 ?_;refine iw (vs:=ints m.change.flat) (i:=1) (ab rfl) rfl rfl rfl rfl rfl (by rw[(aJ m.change)];exact fD) (bv _) rfl rfl (λ_=>LC (dh _) (aJ _)) (λa_=>(lp ((MS.setAcc s (AccT.mk s.acc.epoch m.ballot m.ballot s.acc.change)).rep ⟨lg, .pointer none, .slice none 0 0⟩) 5 rfl (by have h1:=(aJ m.change);omega) (AccT.wr_change_ (((MS.setAcc s (AccT.mk s.acc.epoch m.ballot m.ballot s.acc.change)).rep ⟨lg, .pointer none, .slice none 0 0⟩).acc) 0 rfl (by have h1:=(aJ m.change);omega) (cy ((aJ ((((MS.setAcc s (AccT.mk s.acc.epoch m.ballot m.ballot s.acc.change)).rep ⟨lg, .pointer none, .slice none 0 0⟩).acc).change)).trans (aJ m.change).symm))))) (EN (DN (ad J9 (D1 0 bl ?_))));refine PD 0 ?_;refine PD 1 ?_;refine PD 2 ?_
 refine FD 3 1066 dv aP ?_;refine FD 5 177 eC cK ?_;refine FD 6 177 kU aP ?_;refine LX 7 Y3 (.int .i64 (m.ballot.round)) ?_ (hc:=by exact RecT.pt_ballot m 0 rfl (by decide) (fC m.ballot rfl));refine AL 4 ?_;refine LG 1 Y3 (.int .i64 (s.round)) ?_ (hc:=by exact λa_=>(wA _ rfl));refine EN (ta 8 rfl (zk rfl rfl rfl) ?_);refine PD 9 ?_;refine FD 10 1066 dv aP ?_;refine AL 11 ?_;refine SK 1 aP (λ_=>dh _) ?_ (hc:=by exact λa_=>(mJ _ rfl _));refine EN (DN (af (WK [1] (bB rfl ?_))));exact congrArg (λq=>[EL lg r q]) (show(MS.setRound (MS.setAcc s (AccT.mk s.acc.epoch m.ballot m.ballot m.change)) (max s.round m.ballot.round))=km s m by rw[km,if_neg h7,if_neg h20,if_neg h30,if_neg h38,if_pos h57]<;>rfl);refine PS ?_;refine nx J8 (CN (sr λ_ J10=>PS ?_));refine ap ?_ ?_<;>intro h88;refine PS ?_;refine nx J10 (CY (ac (PS ?_)));refine FA 182 eC bj ?_;refine LV 0 eB bj an RecT.sp_view (y:=m.view) ?_;refine CZ NV (vW lg r s m.view) (SM [1]) λvR=>?_
 refine au (af (WK [0] (bB rfl ?_)));exact congrArg (λq=>[EL lg r q]) (show(lM s m.view)=km s m by rw[km,if_neg h7,if_neg h20,if_neg h30,if_neg h38,if_neg h57,if_pos h88]<;>rfl);refine PS ?_;refine nx J10 (CN (aR (af (WK [1] (bB rfl ?_)))));exact congrArg (λq=>[EL lg r q]) (show s=km s m by rw[km,if_neg h7,if_neg h20,if_neg h30,if_neg h38,if_neg h57,if_neg h88]<;>rfl)
theorem Mv{bs:List UInt8}(h: ¬(o7 bs).2≠0):WF (o7 bs).1.row.flat:=by
 rcases KI bs with⟨m,e,_,_,hw⟩|e
 · rw[e];exact hw
 · rw[e]at h;exact absurd (by decide) h
theorem Cy{δ:Type}(e0:δ)(i:Int)(d:Nat)(D:DS)(hD:D.Ok)(hI:Wal.DS.In D)(hb:D.ws.length≤1000000):
 DT 21 #[(.int .i64 (i)),(.pointer (some ⟨d,0,none⟩))] T0 [dk d D] (dD (λr' H=>((bY D).err≠0∧r'= .tuple #[.pointer none, .int .i64 (bY D).err]∧H=[dk d (bY D).D])∨((bY D).err=0∧((mp (bY D).recs (wm i e0)=none∧r'= .tuple #[.pointer none, .int .i64 1]∧H=[dk d (bY D).D])∨∃s r lg,mp (bY D).recs (wm i e0)=some s∧r'= .tuple #[.pointer (some ⟨r,0,none⟩), .int .i64 0]∧H=[EL lg r s,GX lg d (((bY D).recs.length:Nat):Int) (bY D).used,dk d (bY D).D])))):=by
 refine BD 50 Tryz.func21 rfl rfl rfl λw0 F hF=>sr λ_ J1=>P2 ?_
 refine nx J1 (aa λ_ J2=>sr λ_ J3=>PS ?_);refine tp (gy rfl K7 rfl rfl) ?_;refine nx J3 (CN (qx J2 (sr λ_ J4=>PS ?_)));refine CR QS (Ig d D hD hI hb) ID λvR HR hR=>?_
 rcases hR with⟨he,rfl,rfl⟩| ⟨he,lg,vr,rfl,rfl⟩
 refine P4 ?_;refine P3 ?_;refine nx J4 (aa λ_ J5=>sr λ_ J6=>P2 ?_);refine ap ?_ ?_<;>intro h23;refine nx J6 (CY (sr λ_ J7=>P3 ?_));exact nx J7 (ah (ae (WK [0] (ix rfl rfl rfl (.inl ⟨he,rfl,rfl⟩)))))
 · exact absurd he h23
 change TL _ _ _ _ _ _ _ _ _ [aj lg [(.pointer (some ⟨d,0,none⟩)),(.int .i64 ((((bY D).recs.length:Nat):Int))),(.int .i64 ((bY D).used))] 171,Qk vr (bY D).recs,dk d (bY D).D];refine zd (p:=pY vr (bY D).recs.length∧vr.oneCell'=true) (λw m=>by obtain⟨h,_,_,hs⟩:=m;obtain⟨_,_,_,_,a,_⟩:=eF 1 (lb rfl) hs;exact vA a) (λ⟨hsl,hvr⟩=>P4 ?_);refine P3 ?_;refine nx J4 (aa λ_ J8=>sr λ_ J9=>P2 ?_);refine nx J9 (CN (qx J8 (sr λ_ J10=>P2 ?_)))
 refine tp (zl (cs:=RepT.cells (RepT.mk i (.pointer (some ⟨lg,0,none⟩)) ViewT.zero RowT.zero MirT.zero AccT.zero 0 (.pointer none) BookT.zero false 0 0 0 (.slice none 0 0) (#v[0,0,0,0,0]) (#v[RowT.zero,RowT.zero,RowT.zero,RowT.zero,RowT.zero]))) (segs:=[[Value.int .i64 0],[(.pointer none)],ints ViewT.zero.flat,ints RowT.zero.flat,MirT.cells MirT.zero,ints AccT.zero.flat,[Value.int .i64 0],[(.pointer none)],ints BookT.zero.flat,[Value.bool false],[Value.int .i64 0],[Value.int .i64 0],[Value.int .i64 0],[(.slice none 0 0)],ints (#v[0,0,0,0,0]).toList,ints ((#v[RowT.zero,RowT.zero,RowT.zero,RowT.zero,RowT.zero]).toList.flatMap RowT.flat)]) (res:=[[Value.int .i64 i],[(.pointer (some ⟨lg,0,none⟩))],ints ViewT.zero.flat,ints RowT.zero.flat,MirT.cells MirT.zero,ints AccT.zero.flat,[Value.int .i64 0],[(.pointer none)],ints BookT.zero.flat,[Value.bool false],[Value.int .i64 0],[Value.int .i64 0],[Value.int .i64 0],[(.slice none 0 0)],ints (#v[0,0,0,0,0]).toList,ints ((#v[RowT.zero,RowT.zero,RowT.zero,RowT.zero,RowT.zero]).toList.flatMap RowT.flat)]) (parts:=[(0,[Value.int .i64 i]),(1,[(.pointer (some ⟨lg,0,none⟩))])]) rfl rfl dv (by kernel_rfl) (by kernel_rfl) rfl (fG rfl rfl (fG rfl ((rfl:[(.pointer (some ⟨lg,0,none⟩))].length=1).trans (rfl:[(.pointer none)].length=1).symm) mu)) (eR (RepT.mk i (.pointer (some ⟨lg,0,none⟩)) ViewT.zero RowT.zero MirT.zero AccT.zero 0 (.pointer none) BookT.zero false 0 0 0 (.slice none 0 0) (#v[0,0,0,0,0]) (#v[RowT.zero,RowT.zero,RowT.zero,RowT.zero,RowT.zero]))).symm) ?_
 refine XY (RepT.cells (RepT.mk i (.pointer (some ⟨lg,0,none⟩)) ViewT.zero RowT.zero MirT.zero AccT.zero 0 (.pointer none) BookT.zero false 0 0 0 (.slice none 0 0) (#v[0,0,0,0,0]) (#v[RowT.zero,RowT.zero,RowT.zero,RowT.zero,RowT.zero]))) λb28=>?_
 refine PS ?_;refine nx J10 (sr λ_ J11=>cr (H':=EL lg b28 (B2 i e0)::[aj lg [(.pointer (some ⟨d,0,none⟩)),(.int .i64 ((((bY D).recs.length:Nat):Int))),(.int .i64 ((bY D).used))] 171,Qk vr (bY D).recs,dk d (bY D).D]) (λ_ q=>bw (p:=λ_:Unit=>[aj b28 (RepT.cells ((B2 i e0).rep ⟨lg, .pointer none, .slice none 0 0⟩)) 95]) () (aD [0] rfl q)) (PS ?_));refine CE O1 (yf) ID ?_;refine CZ NV (vW lg b28 (B2 i e0) firstV) ID λvR=>?_
 refine nx J11 (aa λ_ J12=>sr λ_ J13=>PS ?_);refine tp (dL rfl wx rfl hsl) ?_;refine PS ?_;refine nx J13 (am ?_)
 refine bG (α:=(Nat)×(MS δ)) (λ⟨k,s⟩=>k≤(bY D).recs.length∧mp (bY D).recs (wm i e0)=mp ((bY D).recs.drop k) s) (λ⟨k,s⟩=>[(9,(.pointer (some ⟨b28,0,none⟩))),(32,vr),(33,(.int .i64 ((((bY D).recs.length:Nat):Int)))),(34,(.int .i64 (((k:Nat):Int))))]) (λ⟨k,s⟩=>[EL lg b28 s,aj lg [(.pointer (some ⟨d,0,none⟩)),(.int .i64 ((((bY D).recs.length:Nat):Int))),(.int .i64 ((bY D).used))] 171,Qk vr (bY D).recs,dk d (bY D).D]) (λ⟨k,s⟩=>(bY D).recs.length-k) (0,(wm i e0))
  ⟨aO _,rfl⟩ SB
  (λ_ s=>ak [0,0,0,0] rfl s) (λ⟨k,s⟩ hinv=>?_)
 obtain⟨hk,hrs⟩:=hinv;refine sr λ_ J14=>PS ?_
 refine ap ?_ ?_<;>intro h35;refine cr (λ_ s=>aD [2] rfl s) (Nl (λus=>?_));change TL _ _ _ _ _ _ _ _ _ [own vr ((bY D).recs.length) (us) 47 1,eS us (bY D).recs 5,EL lg b28 s,aj lg [(.pointer (some ⟨d,0,none⟩)),(.int .i64 ((((bY D).recs.length:Nat):Int))),(.int .i64 ((bY D).used))] 171,dk d (bY D).D];refine zd (p:=us.length=(bY D).recs.length*1) (λw m=>m.own_len (i:=0) (lb rfl) rfl) (λhul=>?_);rw[gz]at hul;have hkl:k< (bY D).recs.length:=by omega
 refine jW 0 rfl rfl (by omega) (λg cap hv hcap=>?_);have hvq:vr= .slice (some ⟨g,0,none⟩) (bY D).recs.length cap:=hv;refine nx J14 (aa λ_ J15=>CY (qx J15 (aa λ_ J16=>am (sr λ_ J17=>tp (bn (r:=k) hv rfl wx lC rfl rfl (by omega) (by omega) (by omega)) ?_))));refine tp (cj (v:=(us.getD k undef)) rfl fM rfl rfl (gK 0 rfl hvq rfl) (by simp[List.getD_eq_getElem?_getD,show k<us.length by omega])) ?_;refine PS ?_;refine nx J17 (sr λ_ J18=>PS ?_);refine CF QR (wk (us.getD k undef) (bY D).recs[k]) ID (λg d s=>u9 1 hkl rfl rfl g d s) ?_;refine P3 ?_;refine XZ I9 (ints RecT.zero.flat) λb12=>?_
 refine SW 0 gn bz ?_;refine PS ?_;refine nx J18 (aa λ_ J19=>sr λ_ J20=>P2 ?_);refine ap ?_ ?_<;>intro h44;refine nx J20 (CY (sr λ_ J21=>P2 ?_));exact nx J21 (ah (ae (aI (ae (ae (aI (ae (WK [5] (ix rfl rfl rfl (.inr ⟨he, .inl ⟨hrs.trans (HV hkl h44),rfl,rfl⟩⟩))))))))));refine nx J20 (CN (qx J19 (ac (PS ?_))));refine LW 0 eC gn bz ?_;refine CZ QP (yP lg b28 s (o7 (bY D).recs[k]).1 (Mv h44)) (SM [3]) λvR=>?_
 refine au (af (ad J16 (ac (AD ?_))));refine PS ?_;refine au ?_
 exact aL ((k+1,(km s (o7 (bY D).recs[k]).1)):(Nat)×(MS δ)) ⟨by omega,hrs.trans (JK hkl h44)⟩ (by show(bY D).recs.length- (k+1)< (bY D).recs.length-k;omega)
  SB
  (λ_ s=>aD [1,1,0,0] rfl (bw (p:=λus:List Value=>[own vr (bY D).recs.length us 47 1,eS us (bY D).recs 5]) us (ak [2,2,0,1,1] rfl s)))
 refine nx J14 (aa λ_ J22=>CN (aW (aA (aA (br (ad J12 (sr λ_ J23=>P3 ?_)))))));refine nx J23 (ah (WK [0,0,1] (ix rfl rfl rfl ?_)));exact .inr ⟨he, .inr ⟨s,b28,lg,by rw[hrs,dx (by omega)];rfl,rfl,rfl⟩⟩
def lw(k:Nat)(m:MsgT):List UInt8:=jO ((k / 5:Nat):Int) ((k%5:Nat):Int) (cY m)
def c9(W:List (List MsgT)):List (List (List UInt8)):=(List.range 25).map λk=>(W.getD k []).map (lw k)
theorem qm(W:List (List MsgT)):(c9 W).length=25:=by simp[c9]
theorem oj(W:List (List MsgT)){k:Nat}(h:k<25):(c9 W).getD k []=(W.getD k []).map (lw k):=by simp[c9,h,List.getD_eq_getElem?_getD]
theorem wT(W:List (List MsgT)){k:Nat}(h:k<25)(hW:W.length=25)(l:List MsgT):(c9 W).set k (l.map (lw k))=c9 (W.set k l):=by
 refine List.ext_getElem? λj=>?_
 by_cases hj:j=k
 · subst hj
   rw[List.getElem?_set_self (by rw[qm];exact h)];simp[c9,h,List.getD_eq_getElem?_getD,List.getElem?_set_self (show j<W.length by omega)]
 · rw[List.getElem?_set_ne (λe=>hj e.symm)]
   unfold c9;rw[List.getElem?_map,List.getElem?_map]
   by_cases hk:j<25
   · simp[hk,List.getD_eq_getElem?_getD,List.getElem?_set_ne (λe=>hj e.symm)]
   · simp[hk]
theorem Cf{f t:Int}(hf:hO f=true)(ht:hO t=true)(m:MsgT):lw (bE f t) m=jO f t (cY m):=by
 have h1:0≤f∧f<5:=of_decide_eq_true hf;have h2:0≤t∧t<5:=of_decide_eq_true ht;unfold lw bE;rw[show(((f.toNat*5+t.toNat) / 5:Nat):Int)=f by omega,show(((f.toNat*5+t.toNat)%5:Nat):Int)=t by omega]
theorem sY{f t:Int}(h:dy f t=true):hO f=true∧hO t=true:=by
 unfold dy at h;rw[ao,ao]at h;exact h.1
theorem Jh{W:List (List MsgT)}(hW:W.length=25){f:Nat}(s:SaidT):pD (c9 W) ((f:Nat):Int) s.to' (jO ((f:Nat):Int) s.to' (cY s.msg))=c9 (qD W f s):=by
 unfold pD qD;cases hv:dy ((f:Nat):Int) s.to'
 · rfl
 · obtain⟨h1,h2⟩:=je hv
   obtain⟨h3,h4⟩:=sY hv;rw[if_pos rfl,if_pos rfl,oj W h1,←Cf h3 h4,←wT W h1 hW];unfold Bk;rw[cm];split
   · rw[eX];rfl
   · rfl
theorem JO(W:List (List MsgT))(f:Nat)(s:SaidT):(qD W f s).length=W.length:=by unfold qD;split<;>simp
theorem HD(W:List (List MsgT))(f:Nat)(l:List SaidT):(gT W f l).length=W.length:=by
 induction l generalizing W with
 |nil=>rfl
 |cons s l ih=>exact(ih _).trans (JO _ _ _)
theorem HE(W:List (List MsgT))(f:Nat)(l:List SaidT)(s:SaidT):gT W f (l++[s])=qD (gT W f l) f s:=by simp[gT]
theorem wS(k:Nat)(m:MsgT):(lw k m).length≤1000000:=by
 unfold lw;rw[sE];have:=tX m;omega
theorem xI(c:Nat)(w:Int):
 DT 22 #[(.pointer (some ⟨c,0,none⟩)),(.int .i64 (w))] T0 [] (RI (.bool (hO w)) []):=by
 refine BD 15 Tryz.func22 rfl rfl rfl λw0 F hF=>sr λ_ J1=>PS ?_
 refine nx J1 (sr λ_ J2=>PS ?_);refine tp (gj rfl Og rfl rfl) ?_;refine P3 ?_;refine ap ?_ ?_<;>intro h9
 iterate 6 refine PS ?_
 refine nx J2 (ah (WK [] (aw rfl rfl ?_)));exact⟨congrArg Value.bool (by unfold hO;simp only[decide_eq_decide];omega),rfl⟩;refine P2 ?_;refine UF ?_;refine UF ?_;refine P2 ?_;refine nx J2 (ah (WK [] (aw rfl rfl ?_)));exact⟨congrArg Value.bool (by unfold hO;symm;exact decide_eq_false (by omega)),rfl⟩
theorem eL(c i:Nat)(hi:i<5):DT 22 #[.pointer (some ⟨c,0,none⟩), .int .i64 ((i:Nat):Int)] T0 [] (RI (.bool true) []):=by
 have:=xI c ((i:Nat):Int)
 rwa [show hO ((i:Nat):Int)=true from decide_eq_true ⟨by omega,by omega⟩]at this
theorem s8(c n i:Nat)(D M P:Nat→Value)(hi:i<5)(hM:M i= .pointer none):
 DT 23 #[(.pointer (some ⟨c,0,none⟩)),(.int .i64 (((i:Nat):Int)))] T0 [aj c (fc n D M P) 56] (RI (.bool false) [aj c (fc n D M P) 56]):=by
 refine BD 27 Tryz.func23 rfl rfl rfl λw0 F hF=>sr λ_ J1=>PS ?_
 refine nx J1 (sr λ_ J2=>P2 ?_);refine CE rB (eL c i hi) ID ?_;refine P4 ?_;refine FA 6 qg p5 ?_;refine IX (6+i) rE iM ?_;refine LT 0 pi (.pointer none) ?_ (hc:=by exact(ym n D M P hi).trans (congrArg some hM));refine tq (jy rfl pi rfl rfl) ?_;refine P2 ?_
 iterate 8 refine UF ?_
 refine P2 ?_;exact nx J2 (ah (WK [0] (aw rfl rfl ⟨rfl,rfl⟩)))
theorem OM (c i : Nat) : yC Tryz.prog 63 (OL c i) "Send" 210 := fun w => by kernel_rfl
theorem sZ(c n i:Nat)(D M P:Nat→Value)(hi:i<5)(d r:Nat)(e:DS)(hD:D i= .pointer (some ⟨d,0,none⟩))(hM:M i= .pointer (some ⟨r,0,none⟩)):
 DT 23 #[(.pointer (some ⟨c,0,none⟩)),(.int .i64 (((i:Nat):Int)))] T0 [aj c (fc n D M P) 56,dk d e] (RI (.bool (!e.dn)) [aj c (fc n D M P) 56,dk d e]):=by
 refine BD 27 Tryz.func23 rfl rfl rfl λw0 F hF=>sr λ_ J1=>PS ?_
 refine nx J1 (sr λ_ J2=>P2 ?_);refine CE rB (eL c i hi) ID ?_;refine P4 ?_;refine FA 6 qg p5 ?_;refine IX (6+i) rE iM ?_;refine LT 0 pi (.pointer (some ⟨r,0,none⟩)) ?_ (hc:=by exact(ym n D M P hi).trans (congrArg some hM));refine tq (gj rfl pi rfl rfl) ?_
 iterate 5 refine PS ?_
 refine FA 1 qg Co ?_;refine IX (1+i) Nk w8 ?_;refine LT 0 K7 (.pointer (some ⟨d,0,none⟩)) ?_ (hc:=by exact(Ga n D M P hi).trans (congrArg some hD));refine CE O0 (G2 d e) (SM [1]) ?_;refine tq (pc rfl rfl rfl) ?_;refine P2 ?_;exact nx J2 (ah (WK [1,0] (aw rfl rfl ⟨rfl,rfl⟩)))
theorem Fa(c n i:Nat)(D M P:Nat→Value)(hi:i<5)(d:Nat)(e:DS)(hD:D i= .pointer (some ⟨d,0,none⟩))(W:List (List MsgT))(hW:W.length=25)(to':Int)(m:MsgT):
 DT 210 #[(.agg #[(.pointer (some ⟨c,0,none⟩)),(.int .i64 (((i:Nat):Int)))]),(.int .i64 (to')),(.agg (ints m.flat).toArray)] T0 [aj c (fc n D M P) 56,dk d e,eQ 106 169 5 n (c9 W)] (dD (λ_ H=>H=[aj c (fc n D M P) 56,dk d e,eQ 106 169 5 n (c9 (if e.dn then W else qD W i ⟨to',m⟩))])):=by
 refine BD 27 Tryz.func210 rfl rfl rfl λw0 F hF=>sr λ_ J1=>XB λb3=>?_
 refine XY (ints m.flat) λb5=>?_
 refine nx J1 (aa λ_ J2=>D2 1 2 de ?_);refine FD 0 0 Of Jt ?_;refine LX 1 Og (.pointer (some ⟨c,0,none⟩)) ?_ (hc:=by exact rfl);refine FD 2 1 Of aP ?_;refine LX 3 Y3 (.int .i64 (((i:Nat):Int))) ?_ (hc:=by exact rfl);refine PD 4 ?_;refine FD 5 1 qg Co ?_;refine IY 6 (1+i) Nk w8 ?_;refine LX 7 K7 (.pointer (some ⟨d,0,none⟩)) ?_ (hc:=by exact(Ga n D M P hi).trans (congrArg some hD));refine AL 8 ?_;refine CE O0 (G2 d e) (SM [3]) ?_;refine bg ?_ ?_<;>intro h14;refine EN (PD 9 ?_);refine DN (ad J2 (CN (aR (WK [3,0,2] (bB rfl ?_)))));exact by rw[show e.dn=true by assumption];rfl
 refine EN (PD 9 ?_);refine DN (ad J2 (CY (sK (λw=>Frm F w∧w.heap[b3]?=some (.cells ([(.pointer (some ⟨c,0,none⟩)),(.int .i64 (((i:Nat):Int)))]).toArray 63 (0,0))∧w.heap[c]?=some (.cells (fc n D M P).toArray 56 (0,0))∧w.heap[b5]?=some (.cells (ints m.flat).toArray 134 (0,0))∧True) de rfl (λ_ s=>⟨fB s,s.block 2 (lb rfl) rfl,s.block 3 (lb rfl) rfl,s.block 1 (lb rfl) rfl,trivial⟩) (FD 0 0 Of Jt ?_))));refine LX 1 Og (.pointer (some ⟨c,0,none⟩)) ?_ (hc:=by exact rfl);refine PD 2 ?_;refine FD 3 0 qg AX ?_;refine LX 4 K8 (.pointer (some ⟨n,0,none⟩)) ?_ (hc:=by exact BM n D M P);refine FD 5 1 Of aP ?_;refine LX 6 Y3 (.int .i64 (((i:Nat):Int))) ?_ (hc:=by exact rfl);refine PD 7 ?_;refine LY 8 bi ct aH ?_;refine AL 9 ?_;refine CR O7 (D6 m) ID λvR HR hR=>?_
 obtain⟨_,rfl,rfl⟩:=hR;revert vR;intro ue;refine EN (AL 10 ?_);refine CQ O8 (y2 n (c9 W) ((i:Nat):Int) to' ue (cY m) (tX m) (qm W)) (SM [5]) (λg d s=>Lj (tR 0 rfl rfl g d s)) λvR HR hR=>?_
 obtain⟨_,rfl⟩:=hR;rw[Jh hW ⟨to',m⟩];refine EN (DN (WK [5,2,0] (bB rfl ?_)));exact by rw[show e.dn=false by assumption];rfl
def Ic(c n d i:Nat)(D M P:Nat→Value)(W:List (List MsgT))(e:LD)(l:List SaidT):HP:=bR [aj c (fc n D M P) 56,dk d e.D,eQ 106 169 5 n (c9 (gT W i l))]
section
variable {c n d i:Nat} {D M P:Nat→Value} {W:List (List MsgT)} {e:LD} {l:List SaidT} {H:List HP} {h:Hl}
theorem uO(s:bR (Ic c n d i D M P W e l::H) h):bR (aj c (fc n D M P) 56::dk d e.D::eQ 106 169 5 n (c9 (gT W i l))::H) h:=(ci [_,_,_] H).2 s
theorem uN(s:bR (aj c (fc n D M P) 56::dk d e.D::eQ 106 169 5 n (c9 (gT W i l))::H) h):bR (Ic c n d i D M P W e l::H) h:=(ci [_,_,_] H).1 s
end
def yg(c n d i:Nat)(D M P:Nat→Value)(hi:i<5)(hD:D i= .pointer (some ⟨d,0,none⟩))(W:List (List MsgT))(hW:W.length=25):Env LD where
 toDk:=KD
 T:=63
 ov:=OL c i
 sf:=210
 E:=Ic c n d i D M P W
 lg g e:=GX g d ((e.cnt:Nat):Int) e.used
 me:=OM c i
 nm:=O9
 say e l to' m _:=by
  refine Leg.Does.conv (Fa c n i D M P hi d e.D hD (gT W i l) (by rw[HD];exact hW) to' m) (λh s=>uO s) λx H F w hp hs=>?_
  cases x with
  |returned v=>
   obtain rfl:=hp;refine⟨_,hs.mono (λh s=>uN (l:=if KD.dn e then l else l++[SaidT.mk to' m]) ?_),rfl⟩
   have q:gT W i (if KD.dn e then l else l++[SaidT.mk to' m])=if e.D.dn then gT W i l else qD (gT W i l) i ⟨to',m⟩:=by
    show gT W i (if e.D.dn then l else _)=_;split
    · rfl
    · exact HE ..
   rw[q];exact s
  |panicked c=>exact hp.elim
  |outgrown=>exact hp.elim
 put g x bs e l hok hlen:=by
  refine Leg.Does.withinR (A:=[GX g d ((e.cnt:Nat):Int) e.used,dk d e.D]) (B:=[aj c (fc n D M P) 56,eQ 106 169 5 n (c9 (gT W i l))]) (Ci g d e.cnt e.used x bs e.D hok.dk.ok (by have:=hok.dk.ws;omega) hok.used (by have:=hok.cnt;have:=hok.used;omega)) (λF g h dj=>P8 h dj) (λh s=>?_) λv H hp=>?_
  · exact aD [3,1,0,0] rfl (uO (aD [1,0] rfl s))
  · obtain⟨hv,rfl⟩:=hp
    exact⟨[GX g d (((e.put bs).1.cnt:Nat):Int) (e.put bs).1.used,Ic c n d i D M P W (e.put bs).1 l],λh s=>aD [1,0] rfl (uN (e:=(e.put bs).1) (l:=l) (aD [2,1,1,0] rfl s)),hv,rfl⟩
abbrev lS(v:Value)(l:List ReplyT):HP:=own v l.length (ints (List.flatMap ReplyT.flat l)) 45 3
abbrev HM(s:MS LD)(d r:Nat)(a:Adr):List HP:=[aj r (RepT.cells (s.rep a)) 95,GX a.lg d ((s.e.cnt:Nat):Int) s.e.used,lS a.rs s.replies,Gm a.vo s.vote]
abbrev gk(s:MS LD)(d r:Nat):HP:=pack (HM s d r)
def rA(x:Slot)(d r:Nat):HP:=match x.run with
 |some s=>gk s d r
 |none=>λ_=>True
abbrev lD(x:Slot)(d r:Nat)(p:Value):List HP:=[dk d x.dk,lS p x.past,rA x d r]
def lE(x:Slot)(d r:Nat)(p:Value):HP:=bR (lD x d r p)
structure CX where
 n:Nat
 d:Nat→Nat
 r:Nat→Nat
 p:Nat→Value
abbrev nl(g:CX):Nat→Value:=λi=> .pointer (some ⟨g.d i,0,none⟩)
def yZ(x:Slot)(r:Nat):Value:=match x.run with
 |some _=> .pointer (some ⟨r,0,none⟩)
 |none=> .pointer none
abbrev kF(a:CL)(r:Nat→Nat):Nat→Value:=λi=>yZ (a.at' i) (r i)
abbrev qR(c:Nat)(a:CL)(g:CX):List HP:=[aj c (fc g.n (nl g) (kF a g.r) g.p) 56,eQ 106 169 5 g.n (c9 a.W),bR ((List.range 5).map λi=>lE (a.at' i) (g.d i) (g.r i) (g.p i))]
def gf(c:Nat)(a:CL):HP:=pack (qR c a)
section
variable {c n d i r:Nat} {D M P:Nat→Value} {W:List (List MsgT)} {s:MS LD} {H:List HP} {h:Hl} {hi:i<5} {hD:D i= .pointer (some ⟨d,0,none⟩)} {hW:W.length=25}
theorem Fx(ho:s.o=[])(q:bR (aj c (fc n D M P) 56::dk d s.e.D::eQ 106 169 5 n (c9 W)::gk s d r::H) h):bR (cV (yg c n d i D M P hi hD W hW) r s::H) h:=by
 obtain⟨a,q⟩:=fF (aD [3,0,0,0] rfl q);have q2:=aD [4,4,4,0,0,0,0] rfl q;have q3:=uN (i:=i) (W:=W) (e:=s.e) (l:=[]) q2;refine bw (p:=λa:Adr=>[aj r (RepT.cells (s.rep a)) 95,GX a.lg d ((s.e.cnt:Nat):Int) s.e.used,lS a.rs s.replies,Gm a.vo s.vote,Ic c n d i D M P W s.e s.o]) a ?_;rw[ho];exact aD [1,1,1,1,0] rfl q3
theorem Bt(q:bR (cV (yg c n d i D M P hi hD W hW) r s::H) h):bR (aj c (fc n D M P) 56::dk d s.e.D::eQ 106 169 5 n (c9 (gT W i s.o))::gk s.hush d r::H) h:=by
 obtain⟨a,q⟩:=fF q;have q1:bR ([aj r (RepT.cells (s.rep a)) 95,GX a.lg d ((s.e.cnt:Nat):Int) s.e.used,lS a.rs s.replies,Gm a.vo s.vote,Ic c n d i D M P W s.e s.o]++H) h:=q;have q2:=uO (aD [4,0,0,0,0] rfl q1);have q3:=bw (p:=HM s.hush d r) a (aD [3,3,3,3,0,0,0] rfl q2);exact aD [1,1,1,0] rfl q3
end
theorem F4(c n i:Nat)(D M P:Nat→Value)(hi:i<5)(d r:Nat)(s:MS LD)(hD:D i= .pointer (some ⟨d,0,none⟩))(hM:M i= .pointer (some ⟨r,0,none⟩))(W:List (List MsgT))(hW:W.length=25)(ho:s.o=[])(hs:OkR KD s)(o:OpT)(k:Int)(hk:0≤k∧k≤4)(hch:OkCh o.change)(hrs:s.replies.length≤1000000):
 DT 9 #[(.pointer (some ⟨c,0,none⟩)),(.agg (ints (OpT.mk k ((i:Nat):Int) o.to' o.key o.n o.change o.mask o.torn o.cut).flat).toArray)] T0 [aj c (fc n D M P) 56,dk d s.e.D,eQ 106 169 5 n (c9 W),gk s d r] (dD (λv H=>(s.e.D.dn=true∧v= .int .i64 4∧H=[aj c (fc n D M P) 56,dk d s.e.D,eQ 106 169 5 n (c9 (W)),gk s d r])∨(s.e.D.dn=false∧v= .int .i64 (bI KD s ((OpT.mk k ((i:Nat):Int) o.to' o.key o.n o.change o.mask o.torn o.cut))).2∧H=[aj c (fc n D M P) 56,dk d (bI KD s ((OpT.mk k ((i:Nat):Int) o.to' o.key o.n o.change o.mask o.torn o.cut))).1.hush.e.D,eQ 106 169 5 n (c9 (gT W i (bI KD s ((OpT.mk k ((i:Nat):Int) o.to' o.key o.n o.change o.mask o.torn o.cut))).1.o)),gk (bI KD s ((OpT.mk k ((i:Nat):Int) o.to' o.key o.n o.change o.mask o.torn o.cut))).1.hush d r]))):=by
 refine BD 114 Tryz.func9 rfl rfl rfl λw0 F hF=>sr λ_ J1=>XY (ints (OpT.mk k ((i:Nat):Int) o.to' o.key o.n o.change o.mask o.torn o.cut).flat) λb3=>?_
 refine PS ?_;refine nx J1 (aa λ_ J2=>sr λ_ J3=>PS ?_);refine FA 1 eP aP ?_;refine LT 0 Y3 (.int .i64 (((i:Nat):Int))) ?_ (hc:=by exact bT _ rfl);refine CE rB (eL c i hi) ID ?_;refine PS ?_;refine nx J3 (CN (qx J2 (aa λ_ J4=>sr λ_ J5=>FA 0 eP aP ?_)));refine LT 0 Y3 (.int .i64 (k)) ?_ (hc:=by exact cO _ rfl);refine nx J5 (am (aa λ_ J6=>fy (α:=Unit) (λ_u=>True) (λ_u=>[(0,(.pointer (some ⟨c,0,none⟩))),(3,(.pointer (some ⟨b3,0,none⟩))),(4,(.int .i64 0)),(11,(.int .i64 (k))),(12,(.bool true))]) (λ_u=>[aj b3 (ints (OpT.mk k ((i:Nat):Int) o.to' o.key o.n o.change o.mask o.torn o.cut).flat) 30,aj c (fc n D M P) 56,dk d s.e.D,eQ 106 169 5 n (c9 W),gk s d r]) (λ_u hinv=>?_) (λtl6=>?_)));have _:=hinv;refine ad J6 (CY (aa λ_ J7=>sr λ_ J8=>PS ?_));refine FA 1 eP aP ?_;refine LT 0 Y3 (.int .i64 (((i:Nat):Int))) ?_ (hc:=by exact bT _ rfl);refine CE Dy (sZ c n i D M P hi d r s.e.D hD hM) (SM [1,1]) ?_;refine bg ?_ ?_<;>intro h21;refine PS ?_;refine nx J8 (CN (qx J7 (aa λ_ J9=>D2 2 0 de ?_)));refine PD 0 ?_;refine FD 1 1 eP aP ?_;refine LX 2 Y3 (.int .i64 (((i:Nat):Int))) ?_ (hc:=by exact bT _ rfl);refine PD 3 ?_;refine FD 4 6 qg p5 ?_;refine IY 5 (6+i) rE iM ?_;refine LX 6 pi (.pointer (some ⟨r,0,none⟩)) ?_ (hc:=by exact(ym n D M P hi).trans (congrArg some hM));refine PD 7 ?_;refine FD 8 1 eP aP ?_
 refine LX 9 Y3 (.int .i64 (((i:Nat):Int))) ?_ (hc:=by exact bT _ rfl);refine ta 10 rfl (kL (cells:=#[(.pointer (some ⟨c,0,none⟩)),(.int .i64 (((i:Nat):Int)))]) rfl rfl (by as_aux_lemma=>kernel_rfl)) ?_;refine ta 11 rfl (qb rfl Of rfl rfl) ?_;refine LY 12 eP nJ fg ?_;refine AL 13 ?_;refine cr (H':=[cV (yg c n d i D M P hi hD W hW) r s,aj b3 (ints (OpT.mk k ((i:Nat):Int) o.to' o.key o.n o.change o.mask o.torn o.cut).flat) 30]) (λ_ q=>Fx ho (aD [0,0,1,1] rfl q)) (CE Q4 (@BK _ (yg c n d i D M P hi hD W hW) r s ((OpT.mk k ((i:Nat):Int) o.to' o.key o.n o.change o.mask o.torn o.cut)) hs hch hrs) ID ?_);change TL _ _ _ _ _ _ _ _ _ [cV (yg c n d i D M P hi hD W hW) r ((bI KD s ((OpT.mk k ((i:Nat):Int) o.to' o.key o.n o.change o.mask o.torn o.cut))).1),aj b3 (ints (OpT.mk k ((i:Nat):Int) o.to' o.key o.n o.change o.mask o.torn o.cut).flat) 30];refine cr (H':=[aj c (fc n D M P) 56,dk d (((bI KD s ((OpT.mk k ((i:Nat):Int) o.to' o.key o.n o.change o.mask o.torn o.cut))).1).e.D),eQ 106 169 5 n (c9 (gT W i ((bI KD s ((OpT.mk k ((i:Nat):Int) o.to' o.key o.n o.change o.mask o.torn o.cut))).1).o)),gk (((bI KD s ((OpT.mk k ((i:Nat):Int) o.to' o.key o.n o.change o.mask o.torn o.cut))).1).hush) d r,aj b3 (ints (OpT.mk k ((i:Nat):Int) o.to' o.key o.n o.change o.mask o.torn o.cut).flat) 30]) (λ_ q=>Bt (s:=(bI KD s ((OpT.mk k ((i:Nat):Int) o.to' o.key o.n o.change o.mask o.torn o.cut))).1) q) (EN (PD 14 ?_))
 refine DN (ad J9 (ah (aI (ae (WK [0,0,0,0] (aw rfl rfl ?_))))));exact .inr ⟨(by simpa using h21),rfl,rfl⟩;refine PS ?_;refine nx J8 (CY (sr λ_ J10=>PS ?_));refine nx J10 (ah (ae (aI (ae (WK [0,0,1,1] (aw rfl rfl ?_))))));exact .inl ⟨(by simpa using h21),rfl,rfl⟩;refine sr λ_ J11=>P2 ?_
 refine ap ?_ ?_<;>intro h12;refine nx J11 (CY (aR ?_))
 exact aE
  SB
  (λ_ s=>ak [0,0,0,0,0] rfl s)
  (tl6 (():Unit) trivial)
 refine nx J11 (CN (sr λ_ J12=>P2 ?_));refine ap ?_ ?_<;>intro h12;refine nx J12 (CY (aR ?_))
 exact aE
  SB
  (λ_ s=>ak [0,0,0,0,0] rfl s)
  (tl6 (():Unit) trivial)
 refine nx J12 (CN (sr λ_ J13=>P2 ?_));refine ap ?_ ?_<;>intro h12;refine nx J13 (CY (aR ?_))
 exact aE
  SB
  (λ_ s=>ak [0,0,0,0,0] rfl s)
  (tl6 (():Unit) trivial)
 refine nx J13 (CN (sr λ_ J14=>P2 ?_));refine ap ?_ ?_<;>intro h12;refine nx J14 (CY (aR ?_))
 exact aE
  SB
  (λ_ s=>ak [0,0,0,0,0] rfl s)
  (tl6 (():Unit) trivial)
 refine nx J14 (CN (ac (PS ?_)));refine ap ?_ ?_<;>intro h17;refine PS ?_;refine au ?_
 exact aE
  SB
  (λ_ s=>ak [0,0,0,0,0] rfl s)
  (tl6 (():Unit) trivial)
 · exact absurd h17 (by omega)
theorem Ed(c n i:Nat)(D M P:Nat→Value)(hi:i<5)(hM:M i= .pointer none)(o:OpT)(k:Int)(hk:0≤k∧k≤4):
 DT 9 #[(.pointer (some ⟨c,0,none⟩)),(.agg (ints (OpT.mk k ((i:Nat):Int) o.to' o.key o.n o.change o.mask o.torn o.cut).flat).toArray)] T0 [aj c (fc n D M P) 56] (RI (.int .i64 4) [aj c (fc n D M P) 56]):=by
 refine BD 114 Tryz.func9 rfl rfl rfl λw0 F hF=>sr λ_ J1=>XY (ints (OpT.mk k ((i:Nat):Int) o.to' o.key o.n o.change o.mask o.torn o.cut).flat) λb3=>?_
 refine PS ?_;refine nx J1 (aa λ_ J2=>sr λ_ J3=>PS ?_);refine FA 1 eP aP ?_;refine LT 0 Y3 (.int .i64 (((i:Nat):Int))) ?_ (hc:=by exact bT _ rfl);refine CE rB (eL c i hi) ID ?_;refine PS ?_;refine nx J3 (CN (qx J2 (aa λ_ J4=>sr λ_ J5=>FA 0 eP aP ?_)));refine LT 0 Y3 (.int .i64 (k)) ?_ (hc:=by exact cO _ rfl);refine nx J5 (am (aa λ_ J6=>fy (α:=Unit) (λ_u=>True) (λ_u=>[(0,(.pointer (some ⟨c,0,none⟩))),(3,(.pointer (some ⟨b3,0,none⟩))),(4,(.int .i64 0)),(11,(.int .i64 (k))),(12,(.bool true))]) (λ_u=>[aj b3 (ints (OpT.mk k ((i:Nat):Int) o.to' o.key o.n o.change o.mask o.torn o.cut).flat) 30,aj c (fc n D M P) 56]) (λ_u hinv=>?_) (λtl6=>?_)));have _:=hinv;refine ad J6 (CY (aa λ_ J7=>sr λ_ J8=>PS ?_));refine FA 1 eP aP ?_;refine LT 0 Y3 (.int .i64 (((i:Nat):Int))) ?_ (hc:=by exact bT _ rfl);refine CE Dy (s8 c n i D M P hi hM) (SM [1]) ?_;refine PS ?_;refine nx J8 (CY (sr λ_ J9=>PS ?_));exact nx J9 (ah (ae (aI (ae (WK [0] (aw rfl rfl ⟨rfl,rfl⟩))))));refine sr λ_ J10=>P2 ?_
 refine ap ?_ ?_<;>intro h12;refine nx J10 (CY (aR ?_))
 exact aE
  SB
  (λ_ s=>ak [0,0] rfl s)
  (tl6 (():Unit) trivial)
 refine nx J10 (CN (sr λ_ J11=>P2 ?_));refine ap ?_ ?_<;>intro h12;refine nx J11 (CY (aR ?_))
 exact aE
  SB
  (λ_ s=>ak [0,0] rfl s)
  (tl6 (():Unit) trivial)
 refine nx J11 (CN (sr λ_ J12=>P2 ?_));refine ap ?_ ?_<;>intro h12;refine nx J12 (CY (aR ?_))
 exact aE
  SB
  (λ_ s=>ak [0,0] rfl s)
  (tl6 (():Unit) trivial)
 refine nx J12 (CN (sr λ_ J13=>P2 ?_));refine ap ?_ ?_<;>intro h12;refine nx J13 (CY (aR ?_))
 exact aE
  SB
  (λ_ s=>ak [0,0] rfl s)
  (tl6 (():Unit) trivial)
 refine nx J13 (CN (ac (PS ?_)));refine ap ?_ ?_<;>intro h17;refine PS ?_;refine au ?_
 exact aE
  SB
  (λ_ s=>ak [0,0] rfl s)
  (tl6 (():Unit) trivial)
 · exact absurd h17 (by omega)
theorem FZ(c n i:Nat)(D M P:Nat→Value)(hi:i<5)(d r:Nat)(s:MS LD)(hD:D i= .pointer (some ⟨d,0,none⟩))(hM:M i= .pointer (some ⟨r,0,none⟩))(W:List (List MsgT))(hW:W.length=25)(ho:s.o=[])(hs:OkR KD s)(o:OpT):
 DT 9 #[(.pointer (some ⟨c,0,none⟩)),(.agg (ints (OpT.mk 8 ((i:Nat):Int) o.to' o.key o.n o.change o.mask o.torn o.cut).flat).toArray)] T0 [aj c (fc n D M P) 56,dk d s.e.D,eQ 106 169 5 n (c9 W),gk s d r] (dD (λv H=>(s.e.D.dn=true∧v= .int .i64 4∧H=[aj c (fc n D M P) 56,dk d s.e.D,eQ 106 169 5 n (c9 (W)),gk s d r])∨(s.e.D.dn=false∧v= .int .i64 0∧H=[aj c (fc n D M P) 56,dk d (gS KD s).hush.e.D,eQ 106 169 5 n (c9 (gT W i (gS KD s).o)),gk (gS KD s).hush d r]))):=by
 refine BD 114 Tryz.func9 rfl rfl rfl λw0 F hF=>sr λ_ J1=>XY (ints (OpT.mk 8 ((i:Nat):Int) o.to' o.key o.n o.change o.mask o.torn o.cut).flat) λb3=>?_
 refine PS ?_;refine nx J1 (aa λ_ J2=>sr λ_ J3=>PS ?_);refine FA 1 eP aP ?_;refine LT 0 Y3 (.int .i64 (((i:Nat):Int))) ?_ (hc:=by exact bT _ rfl);refine CE rB (eL c i hi) ID ?_;refine PS ?_;refine nx J3 (CN (qx J2 (aa λ_ J4=>sr λ_ J5=>FA 0 eP aP ?_)));refine LT 0 Y3 (.int .i64 8) ?_ (hc:=by exact cO _ rfl);refine nx J5 (am (aa λ_ J6=>sr λ_ J7=>P2 ?_));refine nx J7 (CN (sr λ_ J8=>P2 ?_));refine nx J8 (CN (sr λ_ J9=>P2 ?_));refine nx J9 (CN (sr λ_ J10=>P2 ?_));refine nx J10 (CN (ac (P2 ?_)));refine nx J6 (CN (aa λ_ J11=>sr λ_ J12=>P2 ?_));refine nx J12 (CN (sr λ_ J13=>P2 ?_));refine nx J13 (CN (ac (P2 ?_)));refine nx J11 (CN (sr λ_ J14=>P2 ?_));refine nx J14 (CY (aa λ_ J15=>sr λ_ J16=>PS ?_));refine FA 1 eP aP ?_;refine LT 0 Y3 (.int .i64 (((i:Nat):Int))) ?_ (hc:=by exact bT _ rfl);refine CE Dy (sZ c n i D M P hi d r s.e.D hD hM) (SM [1,1]) ?_;refine bg ?_ ?_<;>intro h49;refine PS ?_;refine nx J16 (CN (qx J15 (D2 2 0 de ?_)));refine PD 0 ?_;refine FD 1 1 eP aP ?_;refine LX 2 Y3 (.int .i64 (((i:Nat):Int))) ?_ (hc:=by exact bT _ rfl);refine PD 3 ?_;refine FD 4 6 qg p5 ?_;refine IY 5 (6+i) rE iM ?_;refine LX 6 pi (.pointer (some ⟨r,0,none⟩)) ?_ (hc:=by exact(ym n D M P hi).trans (congrArg some hM));refine PD 7 ?_;refine FD 8 1 eP aP ?_;refine LX 9 Y3 (.int .i64 (((i:Nat):Int))) ?_ (hc:=by exact bT _ rfl)
 refine ta 10 rfl (kL (cells:=#[(.pointer (some ⟨c,0,none⟩)),(.int .i64 (((i:Nat):Int)))]) rfl rfl (by as_aux_lemma=>kernel_rfl)) ?_;refine ta 11 rfl (qb rfl Of rfl rfl) ?_;refine AL 12 ?_;refine cr (H':=[cV (yg c n d i D M P hi hD W hW) r s,aj b3 (ints (OpT.mk 8 ((i:Nat):Int) o.to' o.key o.n o.change o.mask o.torn o.cut).flat) 30]) (λ_ q=>Fx ho (aD [0,0,1,1] rfl q)) (CZ Q2 (@EW _ (yg c n d i D M P hi hD W hW) r s hs) ID λvR=>?_);change TL _ _ _ _ _ _ _ _ _ [cV (yg c n d i D M P hi hD W hW) r (gS KD s),aj b3 (ints (OpT.mk 8 ((i:Nat):Int) o.to' o.key o.n o.change o.mask o.torn o.cut).flat) 30];refine cr (H':=[aj c (fc n D M P) 56,dk d ((gS KD s).e.D),eQ 106 169 5 n (c9 (gT W i (gS KD s).o)),gk ((gS KD s).hush) d r,aj b3 (ints (OpT.mk 8 ((i:Nat):Int) o.to' o.key o.n o.change o.mask o.torn o.cut).flat) 30]) (λ_ q=>Bt (s:=(gS KD s)) q) (EN (DN (af (ad J4 (sr λ_ J17=>PS ?_)))));refine nx J17 (ah (WK [0,0,0,0] (aw rfl rfl ?_)));exact .inr ⟨(by simpa using h49),rfl,rfl⟩;refine PS ?_;refine nx J16 (CY (sr λ_ J18=>PS ?_));refine nx J18 (ah (ae (aI (ae (WK [0,0,1,1] (aw rfl rfl ?_))))));exact .inl ⟨(by simpa using h49),rfl,rfl⟩
theorem Eb(c n i:Nat)(D M P:Nat→Value)(hi:i<5)(hM:M i= .pointer none)(o:OpT):
 DT 9 #[(.pointer (some ⟨c,0,none⟩)),(.agg (ints (OpT.mk 8 ((i:Nat):Int) o.to' o.key o.n o.change o.mask o.torn o.cut).flat).toArray)] T0 [aj c (fc n D M P) 56] (RI (.int .i64 4) [aj c (fc n D M P) 56]):=by
 refine BD 114 Tryz.func9 rfl rfl rfl λw0 F hF=>sr λ_ J1=>XY (ints (OpT.mk 8 ((i:Nat):Int) o.to' o.key o.n o.change o.mask o.torn o.cut).flat) λb3=>?_
 refine PS ?_;refine nx J1 (aa λ_ J2=>sr λ_ J3=>PS ?_);refine FA 1 eP aP ?_;refine LT 0 Y3 (.int .i64 (((i:Nat):Int))) ?_ (hc:=by exact bT _ rfl);refine CE rB (eL c i hi) ID ?_;refine PS ?_;refine nx J3 (CN (qx J2 (aa λ_ J4=>sr λ_ J5=>FA 0 eP aP ?_)));refine LT 0 Y3 (.int .i64 8) ?_ (hc:=by exact cO _ rfl);refine nx J5 (am (aa λ_ J6=>sr λ_ J7=>P2 ?_));refine nx J7 (CN (sr λ_ J8=>P2 ?_));refine nx J8 (CN (sr λ_ J9=>P2 ?_));refine nx J9 (CN (sr λ_ J10=>P2 ?_));refine nx J10 (CN (ac (P2 ?_)));refine nx J6 (CN (aa λ_ J11=>sr λ_ J12=>P2 ?_));refine nx J12 (CN (sr λ_ J13=>P2 ?_));refine nx J13 (CN (ac (P2 ?_)));refine nx J11 (CN (sr λ_ J14=>P2 ?_));refine nx J14 (CY (aa λ_ J15=>sr λ_ J16=>PS ?_));refine FA 1 eP aP ?_;refine LT 0 Y3 (.int .i64 (((i:Nat):Int))) ?_ (hc:=by exact bT _ rfl);refine CE Dy (s8 c n i D M P hi hM) (SM [1]) ?_;refine PS ?_;refine nx J16 (CY (sr λ_ J17=>PS ?_));exact nx J17 (ah (ae (aI (ae (WK [0] (aw rfl rfl ⟨rfl,rfl⟩))))))
theorem HS(s:MS LD)(d r:Nat)(h:s.replies.length≤1000000):DT 37 #[.pointer (some ⟨r,0,none⟩)] T0 [gk s d r] (dD λv H=>∃u,v=u∧H=[gk s d r,lS u s.replies]):=
 Leg.Does.pack (B:=[]) λa=>Leg.Does.withinR (A:=[aj r (RepT.cells (s.rep a)) 95,lS a.rs s.replies]) (B:=[GX a.lg d ((s.e.cnt:Nat):Int) s.e.used,Gm a.vo s.vote]) (Bd r (s.rep a) s.replies h) (λ_ _ _ _=>trivial) (λ_ q=>aD [0,1,0,0] rfl q) λv H hp=>by
  obtain⟨u,rfl,rfl⟩:=hp;exact⟨_,λ_ q=>bw (p:=HM s d r) (H:=[lS v s.replies]) a (aD [0,2,0,1,0] rfl q),v,rfl,rfl⟩
theorem xB(c n i:Nat)(D M P:Nat→Value)(hi:i<5)(hM:M i= .pointer none)(pl:List ReplyT)(hpl:pl.length≤100000):
 DT 16 #[(.pointer (some ⟨c,0,none⟩)),(.int .i64 (((i:Nat):Int)))] T0 [aj c (fc n D M P) 56,own (P i) ((pl).length) (ints (List.flatMap ReplyT.flat (pl))) 45 3] (dD (λv H=>∃u,u.oneCell'=true∧v=u∧H=[aj c (fc n D M P) 56,lS (P i) pl,lS u pl])):=by
 refine BD 34 Tryz.func16 rfl rfl rfl λw0 F hF=>sr λ_ J1=>PS ?_
 refine nx J1 (aa λ_ J2=>sr λ_ J3=>P2 ?_);refine CE rB (eL c i hi) ID ?_;refine PS ?_;refine nx J3 (CN (qx J2 (sr λ_ J4=>P3 ?_)));refine FA 11 qg LI ?_;refine IX (11+i) Qm yN ?_;refine LT 0 I7 (P i) ?_ (hc:=by exact PP n D M P hi);refine I3 45 3 (λ_=>bX (k:=0) (news:=ints (List.flatMap ReplyT.flat (pl))) (nn':=(pl).length) (xs':=ints (List.flatMap ReplyT.flat (pl))) (ab rfl) rfl rfl rfl I7 Iz rfl rfl rfl rfl rfl rfl (λ_ s=>Lc 2 rfl rfl s) (bv _) (by simp only[maxLen];omega) (by omega) (by simp) (by simp) (λv16 ov16=>PS ?_));refine nx J4 (aa λ_ J5=>sr λ_ J6=>P3 ?_);refine FA 6 qg p5 ?_;refine IX (6+i) rE iM ?_;refine LT 1 pi (.pointer none) ?_ (hc:=by exact(ym n D M P hi).trans (congrArg some hM));refine tp (jy rfl pi rfl rfl) ?_;refine nx J6 (CN (qx J5 (sr λ_ J7=>P2 ?_)));exact nx J7 (ah (WK [1,1,0] (aw rfl rfl ⟨_,ov16,rfl,rfl⟩)))
theorem xA(c n i:Nat)(D M P:Nat→Value)(hi:i<5)(d:Nat)(r:Nat)(s:MS LD)(hM:M i= .pointer (some ⟨r,0,none⟩))(pl:List ReplyT)(hpl:pl.length≤100000)(hrs:s.replies.length≤100000):
 DT 16 #[(.pointer (some ⟨c,0,none⟩)),(.int .i64 (((i:Nat):Int)))] T0 [aj c (fc n D M P) 56,own (P i) ((pl).length) (ints (List.flatMap ReplyT.flat (pl))) 45 3,gk s d r] (dD (λv H=>∃u,u.oneCell'=true∧v=u∧H=[aj c (fc n D M P) 56,lS (P i) pl,gk s d r,lS u (pl++s.replies)])):=by
 refine BD 34 Tryz.func16 rfl rfl rfl λw0 F hF=>sr λ_ J1=>PS ?_
 refine nx J1 (aa λ_ J2=>sr λ_ J3=>P2 ?_);refine CE rB (eL c i hi) ID ?_;refine PS ?_;refine nx J3 (CN (qx J2 (sr λ_ J4=>P3 ?_)));refine FA 11 qg LI ?_;refine IX (11+i) Qm yN ?_;refine LT 0 I7 (P i) ?_ (hc:=by exact PP n D M P hi);refine I3 45 3 (λ_=>bX (k:=0) (news:=ints (List.flatMap ReplyT.flat (pl))) (nn':=(pl).length) (xs':=ints (List.flatMap ReplyT.flat (pl))) (ab rfl) rfl rfl rfl I7 Iz rfl rfl rfl rfl rfl rfl (λ_ s=>Lc 2 rfl rfl s) (bv _) (by simp only[maxLen];omega) (by omega) (by simp) (by simp) (λv16 ov16=>PS ?_));refine nx J4 (aa λ_ J5=>sr λ_ J6=>P3 ?_);refine FA 6 qg p5 ?_;refine IX (6+i) rE iM ?_;refine LT 1 pi (.pointer (some ⟨r,0,none⟩)) ?_ (hc:=by exact(ym n D M P hi).trans (congrArg some hM));refine tp (gj rfl pi rfl rfl) ?_;refine nx J6 (CY (ac (P4 ?_)));refine FA 6 qg p5 ?_;refine IX (6+i) rE iM ?_;refine LT 1 pi (.pointer (some ⟨r,0,none⟩)) ?_ (hc:=by exact(ym n D M P hi).trans (congrArg some hM));refine CR QX (HS s d r (by omega)) (SM [3]) λvR HR hR=>?_
 obtain⟨_,rfl,rfl⟩:=hR;revert vR;intro ur;refine bX (k:=2) (news:=ints (List.flatMap ReplyT.flat (s.replies))) (nn':=(pl++s.replies).length) (xs':=ints (List.flatMap ReplyT.flat (pl++s.replies))) (ab rfl) rfl rfl rfl I7 Iz rfl rfl rfl rfl rfl rfl (λ_ s=>Lc 1 rfl rfl s) (bv _) (by simp only[maxLen];omega) (by omega) (by rw[ag]) (by simp[ints]) (λv32 ov32=>PS ?_);refine nx J5 (sr λ_ J7=>P2 ?_);exact nx J7 (ah (WK [3,3,0,1] (aw rfl rfl ⟨_,ov32,rfl,rfl⟩)))
theorem F6(c n i:Nat)(D M P:Nat→Value)(hi:i<5)(d:Nat)(hD:D i= .pointer (some ⟨d,0,none⟩))(e:DS)(o:OpT):
 DT 9 #[(.pointer (some ⟨c,0,none⟩)),(.agg (ints (OpT.mk 9 ((i:Nat):Int) o.to' o.key o.n o.change o.mask o.torn o.cut).flat).toArray)] T0 [aj c (fc n D M P) 56,dk d e] (RI (.int .i64 0) [aj c (fc n D M P) 56,dk d (e.arm o.n)]):=by
 refine BD 114 Tryz.func9 rfl rfl rfl λw0 F hF=>sr λ_ J1=>XY (ints (OpT.mk 9 ((i:Nat):Int) o.to' o.key o.n o.change o.mask o.torn o.cut).flat) λb3=>?_
 refine PS ?_;refine nx J1 (aa λ_ J2=>sr λ_ J3=>PS ?_);refine FA 1 eP aP ?_;refine LT 0 Y3 (.int .i64 (((i:Nat):Int))) ?_ (hc:=by exact bT _ rfl);refine CE rB (eL c i hi) ID ?_;refine PS ?_;refine nx J3 (CN (qx J2 (aa λ_ J4=>sr λ_ J5=>FA 0 eP aP ?_)));refine LT 0 Y3 (.int .i64 9) ?_ (hc:=by exact cO _ rfl);refine nx J5 (am (aa λ_ J6=>sr λ_ J7=>P2 ?_));refine nx J7 (CN (sr λ_ J8=>P2 ?_));refine nx J8 (CN (sr λ_ J9=>P2 ?_));refine nx J9 (CN (sr λ_ J10=>P2 ?_));refine nx J10 (CN (ac (P2 ?_)));refine nx J6 (CN (aa λ_ J11=>sr λ_ J12=>P2 ?_));refine nx J12 (CN (sr λ_ J13=>P2 ?_));refine nx J13 (CN (ac (P2 ?_)));refine nx J11 (CN (sr λ_ J14=>P2 ?_));refine nx J14 (CN (sr λ_ J15=>P2 ?_));refine nx J15 (CY (D2 0 1 de ?_));refine PD 0 ?_;refine FD 1 1 eP aP ?_;refine LX 2 Y3 (.int .i64 (((i:Nat):Int))) ?_ (hc:=by exact bT _ rfl);refine PD 3 ?_;refine FD 4 1 qg Co ?_;refine IY 5 (1+i) Nk w8 ?_;refine LX 6 K7 (.pointer (some ⟨d,0,none⟩)) ?_ (hc:=by exact(Ga n D M P hi).trans (congrArg some hD));refine FD 7 4 eP aP ?_;refine LX 8 Y3 (.int .i64 (o.n)) ?_ (hc:=by exact q7 _ rfl);refine AL 9 ?_;refine CR Q1 (N8 d e o.n) (SM [2]) λvR HR hR=>?_
 obtain⟨_,rfl⟩:=hR;refine EN (DN (af (ad J4 (sr λ_ J16=>PS ?_))));exact nx J16 (ah (WK [2,0] (aw rfl rfl ⟨rfl,rfl⟩)))
theorem F2(c n i:Nat)(D M P:Nat→Value)(hi:i<5)(d:Nat)(hD:D i= .pointer (some ⟨d,0,none⟩))(r:Nat)(s:MS LD)(hM:M i= .pointer (some ⟨r,0,none⟩))(pl:List ReplyT)(hpl:pl.length≤100000)(hrs:s.replies.length≤100000)(e:DS)(hok:e.Ok)(o:OpT):
 DT 9 #[(.pointer (some ⟨c,0,none⟩)),(.agg (ints (OpT.mk 10 ((i:Nat):Int) o.to' o.key o.n o.change o.mask o.torn o.cut).flat).toArray)] T0 [aj c (fc n D M P) 56,dk d e,own (P i) ((pl).length) (ints (List.flatMap ReplyT.flat (pl))) 45 3,gk s d r] (dD (λv H=>∃u,u.oneCell'=true∧v= .int .i64 0∧H=[aj c (fc n D (oq M i (.pointer none)) (oq P i u)) 56,dk d (e.crash o.mask o.torn o.cut),lS u (pl++s.replies)])):=by
 refine BD 114 Tryz.func9 rfl rfl rfl λw0 F hF=>sr λ_ J1=>XY (ints (OpT.mk 10 ((i:Nat):Int) o.to' o.key o.n o.change o.mask o.torn o.cut).flat) λb3=>?_
 refine PS ?_;refine nx J1 (aa λ_ J2=>sr λ_ J3=>PS ?_);refine FA 1 eP aP ?_;refine LT 0 Y3 (.int .i64 (((i:Nat):Int))) ?_ (hc:=by exact bT _ rfl);refine CE rB (eL c i hi) ID ?_;refine PS ?_;refine nx J3 (CN (qx J2 (aa λ_ J4=>sr λ_ J5=>FA 0 eP aP ?_)));refine LT 0 Y3 (.int .i64 10) ?_ (hc:=by exact cO _ rfl);refine nx J5 (am (aa λ_ J6=>sr λ_ J7=>P2 ?_));refine nx J7 (CN (sr λ_ J8=>P2 ?_));refine nx J8 (CN (sr λ_ J9=>P2 ?_));refine nx J9 (CN (sr λ_ J10=>P2 ?_));refine nx J10 (CN (ac (P2 ?_)));refine nx J6 (CN (aa λ_ J11=>sr λ_ J12=>P2 ?_));refine nx J12 (CN (sr λ_ J13=>P2 ?_));refine nx J13 (CN (ac (P2 ?_)));refine nx J11 (CN (sr λ_ J14=>P2 ?_));refine nx J14 (CN (sr λ_ J15=>P2 ?_));refine nx J15 (CN (sr λ_ J16=>P2 ?_));refine nx J16 (CY (aa λ_ J17=>D1 0 de ?_));refine PD 0 ?_;refine FD 1 1 eP aP ?_;refine LX 2 Y3 (.int .i64 (((i:Nat):Int))) ?_ (hc:=by exact bT _ rfl);refine PD 3 ?_;refine FD 4 1 eP aP ?_;refine LX 5 Y3 (.int .i64 (((i:Nat):Int))) ?_ (hc:=by exact bT _ rfl);refine PD 7 ?_;refine FD 8 11 qg LI ?_;refine AL 6 ?_;refine CR Mj (xA c n i D M P hi d r s hM pl hpl hrs) (SM [1,2,2]) λvR HR hR=>?_
 obtain⟨_,huc,rfl,rfl⟩:=hR;revert vR;intro uc huc;refine EN (IY 9 (11+i) Qm yN ?_);refine AL 10 ?_;refine bH (i:=0) (ab rfl) rfl rfl rfl rfl huc yN rfl rfl (by rw[sF];omega) (G6 n D M P uc hi) rfl (EN (DN (ad J17 (aa λ_ J18=>D1 4 de ?_))));refine PD 0 ?_;refine FD 1 1 eP aP ?_;refine LX 2 Y3 (.int .i64 (((i:Nat):Int))) ?_ (hc:=by exact bT _ rfl);refine PD 3 ?_;refine FD 4 6 qg p5 ?_;refine IY 5 (6+i) rE iM ?_;refine AL 6 ?_;refine bH (i:=0) (ab rfl) rfl rfl rfl rfl rfl iM rfl rfl (by rw[sF];omega) (wJ n D M (oq P i uc) (.pointer none) hi) rfl (EN (DN (ad J18 (D2 4 0 de ?_))));refine PD 0 ?_;refine FD 1 1 eP aP ?_;refine LX 2 Y3 (.int .i64 (((i:Nat):Int))) ?_ (hc:=by exact bT _ rfl);refine PD 3 ?_;refine FD 4 1 qg Co ?_;refine IY 5 (1+i) Nk w8 ?_;refine LX 6 K7 (.pointer (some ⟨d,0,none⟩)) ?_ (hc:=by exact(Ga n D (oq M i (.pointer none)) (oq P i uc) hi).trans (congrArg some hD));refine FD 7 8 eP aP ?_;refine LX 8 Y3 (.int .i64 (o.mask)) ?_ (hc:=by exact OpT.at_mask _ rfl);refine FD 9 9 eP aP ?_;refine LX 10 Y3 (.int .i64 (o.torn)) ?_ (hc:=by exact OpT.at_torn _ rfl);refine FD 11 10 eP aP ?_;refine LX 12 Y3 (.int .i64 (o.cut)) ?_ (hc:=by exact OpT.at_cut _ rfl);refine AL 13 ?_;refine CR O5 (Ef d e o.mask o.torn o.cut hok) (SM [5]) λvR HR hR=>?_
 obtain⟨_,rfl⟩:=hR;refine EN (DN (af (ad J4 (sr λ_ J19=>PS ?_))));exact nx J19 (ah (WK [1,0,2] (aw rfl rfl ⟨uc,huc,rfl,rfl⟩)))
theorem F3(c n i:Nat)(D M P:Nat→Value)(hi:i<5)(d:Nat)(hD:D i= .pointer (some ⟨d,0,none⟩))(hM:M i= .pointer none)(pl:List ReplyT)(hpl:pl.length≤100000)(e:DS)(hok:e.Ok)(o:OpT):
 DT 9 #[(.pointer (some ⟨c,0,none⟩)),(.agg (ints (OpT.mk 10 ((i:Nat):Int) o.to' o.key o.n o.change o.mask o.torn o.cut).flat).toArray)] T0 [aj c (fc n D M P) 56,dk d e,own (P i) ((pl).length) (ints (List.flatMap ReplyT.flat (pl))) 45 3] (dD (λv H=>∃u,u.oneCell'=true∧v= .int .i64 0∧H=[aj c (fc n D (oq M i (.pointer none)) (oq P i u)) 56,dk d (e.crash o.mask o.torn o.cut),lS u pl])):=by
 refine BD 114 Tryz.func9 rfl rfl rfl λw0 F hF=>sr λ_ J1=>XY (ints (OpT.mk 10 ((i:Nat):Int) o.to' o.key o.n o.change o.mask o.torn o.cut).flat) λb3=>?_
 refine PS ?_;refine nx J1 (aa λ_ J2=>sr λ_ J3=>PS ?_);refine FA 1 eP aP ?_;refine LT 0 Y3 (.int .i64 (((i:Nat):Int))) ?_ (hc:=by exact bT _ rfl);refine CE rB (eL c i hi) ID ?_;refine PS ?_;refine nx J3 (CN (qx J2 (aa λ_ J4=>sr λ_ J5=>FA 0 eP aP ?_)));refine LT 0 Y3 (.int .i64 10) ?_ (hc:=by exact cO _ rfl);refine nx J5 (am (aa λ_ J6=>sr λ_ J7=>P2 ?_));refine nx J7 (CN (sr λ_ J8=>P2 ?_));refine nx J8 (CN (sr λ_ J9=>P2 ?_));refine nx J9 (CN (sr λ_ J10=>P2 ?_));refine nx J10 (CN (ac (P2 ?_)));refine nx J6 (CN (aa λ_ J11=>sr λ_ J12=>P2 ?_));refine nx J12 (CN (sr λ_ J13=>P2 ?_));refine nx J13 (CN (ac (P2 ?_)));refine nx J11 (CN (sr λ_ J14=>P2 ?_));refine nx J14 (CN (sr λ_ J15=>P2 ?_));refine nx J15 (CN (sr λ_ J16=>P2 ?_));refine nx J16 (CY (aa λ_ J17=>D1 0 de ?_));refine PD 0 ?_;refine FD 1 1 eP aP ?_;refine LX 2 Y3 (.int .i64 (((i:Nat):Int))) ?_ (hc:=by exact bT _ rfl);refine PD 3 ?_;refine FD 4 1 eP aP ?_;refine LX 5 Y3 (.int .i64 (((i:Nat):Int))) ?_ (hc:=by exact bT _ rfl);refine PD 7 ?_;refine FD 8 11 qg LI ?_;refine AL 6 ?_;refine CR Mj (xB c n i D M P hi hM pl hpl) (SM [1,2]) λvR HR hR=>?_
 obtain⟨_,huc,rfl,rfl⟩:=hR;revert vR;intro uc huc;refine EN (IY 9 (11+i) Qm yN ?_);refine AL 10 ?_;refine bH (i:=0) (ab rfl) rfl rfl rfl rfl huc yN rfl rfl (by rw[sF];omega) (G6 n D M P uc hi) rfl (EN (DN (ad J17 (aa λ_ J18=>D1 3 de ?_))));refine PD 0 ?_;refine FD 1 1 eP aP ?_;refine LX 2 Y3 (.int .i64 (((i:Nat):Int))) ?_ (hc:=by exact bT _ rfl);refine PD 3 ?_;refine FD 4 6 qg p5 ?_;refine IY 5 (6+i) rE iM ?_;refine AL 6 ?_;refine bH (i:=0) (ab rfl) rfl rfl rfl rfl rfl iM rfl rfl (by rw[sF];omega) (wJ n D M (oq P i uc) (.pointer none) hi) rfl (EN (DN (ad J18 (D2 3 0 de ?_))));refine PD 0 ?_;refine FD 1 1 eP aP ?_;refine LX 2 Y3 (.int .i64 (((i:Nat):Int))) ?_ (hc:=by exact bT _ rfl);refine PD 3 ?_;refine FD 4 1 qg Co ?_;refine IY 5 (1+i) Nk w8 ?_;refine LX 6 K7 (.pointer (some ⟨d,0,none⟩)) ?_ (hc:=by exact(Ga n D (oq M i (.pointer none)) (oq P i uc) hi).trans (congrArg some hD));refine FD 7 8 eP aP ?_;refine LX 8 Y3 (.int .i64 (o.mask)) ?_ (hc:=by exact OpT.at_mask _ rfl);refine FD 9 9 eP aP ?_;refine LX 10 Y3 (.int .i64 (o.torn)) ?_ (hc:=by exact OpT.at_torn _ rfl);refine FD 11 10 eP aP ?_;refine LX 12 Y3 (.int .i64 (o.cut)) ?_ (hc:=by exact OpT.at_cut _ rfl);refine AL 13 ?_;refine CR O5 (Ef d e o.mask o.torn o.cut hok) (SM [4]) λvR HR hR=>?_
 obtain⟨_,rfl⟩:=hR;refine EN (DN (af (ad J4 (sr λ_ J19=>PS ?_))));exact nx J19 (ah (WK [1,0,1] (aw rfl rfl ⟨uc,huc,rfl,rfl⟩)))
theorem L3{s:MS LD}{lg d r:Nat}{e:LD}{i:Int}(f:Fresh i e s){H:List HP}{h:Hl}(q:bR (EL lg r s::GX lg d ((e.cnt:Nat):Int) e.used::H) h):bR (gk s d r::H) h:=by
 obtain⟨_,q⟩:=fF (p:=λ_:Unit=>[aj r (RepT.cells (s.rep ⟨lg, .pointer none, .slice none 0 0⟩)) 95]) q;refine bw (p:=HM s d r) ⟨lg, .pointer none, .slice none 0 0⟩ ?_;have q2:=fY 45 3 q;have q3:bR (Gm (.pointer none) (none:Option VoteT)::own (.slice none 0 0) 0 [] 45 3::aj r (RepT.cells (s.rep ⟨lg, .pointer none, .slice none 0 0⟩)) 95::GX lg d ((e.cnt:Nat):Int) e.used::H) h:=⟨em,h,EE h,(rS h).symm,rfl,q2⟩;have q4:=aD [2,2,1,0] rfl q3;simp only[HM,f.e,f.replies,f.vote];exact q4
theorem vv(i d:Nat)(e:DS)(hok:DkOk e):DT 21 #[.int .i64 ((i:Nat):Int), .pointer (some ⟨d,0,none⟩)] T0 [dk d e] (dD (λv H=>((dY i e).1=none∧(dY i e).2≠0∧v= .tuple #[.pointer none, .int .i64 (dY i e).2]∧H=[dk d (bY e).D])∨∃s r,(dY i e).1=some s∧v= .tuple #[.pointer (some ⟨r,0,none⟩), .int .i64 0]∧H=[gk s d r,dk d s.e.D])):=
 Leg.Does.fold (Cy (⟨(bY e).recs.length,(bY e).used,(bY e).D⟩:LD) ((i:Nat):Int) d e hok.ok hok.inn (by have:=hok.ws;omega)) λx H hp=>by
  cases x with
  |returned v=>
   unfold dY;rcases hp with⟨he,rfl,rfl⟩| ⟨he,⟨hn,rfl,rfl⟩| ⟨s,r,lg,hn,rfl,rfl⟩⟩
   · rw[if_pos he];exact⟨_,λ_ q=>q, .inl ⟨rfl,he,rfl,rfl⟩⟩
   · rw[if_neg (by rw[he];decide),hn];exact⟨_,λ_ q=>q, .inl ⟨rfl,(by decide),rfl,rfl⟩⟩
   · rw[if_neg (by rw[he];decide),hn]
     have f:=Fresh.read _ (Fresh.new _ _) hn;refine⟨[gk s d r,dk d s.e.D],λ_ q=>L3 (lg:=lg) f ?_, .inr ⟨s,r,rfl,rfl,rfl⟩⟩;rw[f.e];exact q
  |panicked c=>exact hp.elim
  |outgrown=>exact hp.elim
theorem Cx(c n i:Nat)(D M P:Nat→Value)(hi:i<5)(d:Nat)(hD:D i= .pointer (some ⟨d,0,none⟩))(hM:M i= .pointer none)(e:DS)(hok:DkOk e):
 DT 29 #[(.pointer (some ⟨c,0,none⟩)),(.int .i64 (((i:Nat):Int)))] T0 [aj c (fc n D M P) 56,dk d e] (dD (λv H=>((dY i e).1=none∧v= .int .i64 (dY i e).2∧H=[aj c (fc n D M P) 56,dk d (bY e).D])∨∃s r,(dY i e).1=some s∧v= .int .i64 0∧H=[aj c (fc n D (oq M i (.pointer (some ⟨r,0,none⟩))) P) 56,gk s d r,dk d s.e.D])):=by
 refine BD 34 Tryz.func29 rfl rfl rfl λw0 F hF=>sr λ_ J1=>PS ?_
 refine nx J1 (aa λ_ J2=>sr λ_ J3=>P3 ?_);refine FA 6 qg p5 ?_;refine IX (6+i) rE iM ?_;refine LT 0 pi (.pointer none) ?_ (hc:=by exact(ym n D M P hi).trans (congrArg some hM));refine tp (jy rfl pi rfl rfl) ?_;refine nx J3 (CN (qx J2 (sr λ_ J4=>P4 ?_)));refine FA 1 qg Co ?_;refine IX (1+i) Nk w8 ?_;refine LT 0 K7 (.pointer (some ⟨d,0,none⟩)) ?_ (hc:=by exact(Ga n D M P hi).trans (congrArg some hD));refine CR Pa (vv i d e hok) (SM [1]) λvR HR hR=>?_
 rcases hR with⟨hn,h0,rfl,rfl⟩| ⟨s,r,hn,rfl,rfl⟩
 refine P4 ?_;refine PS ?_;refine nx J4 (aa λ_ J5=>sr λ_ J6=>P2 ?_);refine ap ?_ ?_<;>intro h26
 · exact absurd h26 h0
 refine nx J6 (CN (qx J5 (sr λ_ J7=>P2 ?_)));exact nx J7 (ah (WK [1,0] (aw rfl rfl (.inl ⟨hn,rfl,rfl⟩))));refine P4 ?_;refine PS ?_;refine nx J4 (aa λ_ J8=>sr λ_ J9=>P2 ?_);refine nx J9 (CY (ac (P4 ?_)));refine FA 6 qg p5 ?_;refine IX (6+i) rE iM ?_;refine bH (i:=2) (ab rfl) rfl rfl rfl rfl rfl iM rfl rfl (by rw[sF];omega) (wJ n D M P (.pointer (some ⟨r,0,none⟩)) hi) rfl (nx J8 (sr λ_ J10=>P2 ?_));exact nx J10 (ah (WK [2,0,0] (aw rfl rfl (.inr ⟨s,r,hn,rfl,rfl⟩))))
theorem Cw(c n i:Nat)(D M P:Nat→Value)(hi:i<5)(r:Nat)(hM:M i= .pointer (some ⟨r,0,none⟩)):
 DT 29 #[(.pointer (some ⟨c,0,none⟩)),(.int .i64 (((i:Nat):Int)))] T0 [aj c (fc n D M P) 56] (RI (.int .i64 5) [aj c (fc n D M P) 56]):=by
 refine BD 34 Tryz.func29 rfl rfl rfl λw0 F hF=>sr λ_ J1=>PS ?_
 refine nx J1 (aa λ_ J2=>sr λ_ J3=>P3 ?_);refine FA 6 qg p5 ?_;refine IX (6+i) rE iM ?_;refine LT 0 pi (.pointer (some ⟨r,0,none⟩)) ?_ (hc:=by exact(ym n D M P hi).trans (congrArg some hM));refine tp (gj rfl pi rfl rfl) ?_;refine nx J3 (CY (sr λ_ J4=>PS ?_));exact nx J4 (ah (ae (WK [0] (aw rfl rfl ⟨rfl,rfl⟩))))
theorem F1(c n i:Nat)(D M P:Nat→Value)(hi:i<5)(d:Nat)(hD:D i= .pointer (some ⟨d,0,none⟩))(hM:M i= .pointer none)(e:DS)(hok:DkOk e)(o:OpT):
 DT 9 #[(.pointer (some ⟨c,0,none⟩)),(.agg (ints (OpT.mk 11 ((i:Nat):Int) o.to' o.key o.n o.change o.mask o.torn o.cut).flat).toArray)] T0 [aj c (fc n D M P) 56,dk d e] (dD (λv H=>((dY i e).1=none∧v= .int .i64 (dY i e).2∧H=[aj c (fc n D M P) 56,dk d (bY e).D])∨∃s r,(dY i e).1=some s∧v= .int .i64 0∧H=[aj c (fc n D (oq M i (.pointer (some ⟨r,0,none⟩))) P) 56,gk s d r,dk d s.e.D])):=by
 refine BD 114 Tryz.func9 rfl rfl rfl λw0 F hF=>sr λ_ J1=>XY (ints (OpT.mk 11 ((i:Nat):Int) o.to' o.key o.n o.change o.mask o.torn o.cut).flat) λb3=>?_
 refine PS ?_;refine nx J1 (aa λ_ J2=>sr λ_ J3=>PS ?_);refine FA 1 eP aP ?_;refine LT 0 Y3 (.int .i64 (((i:Nat):Int))) ?_ (hc:=by exact bT _ rfl);refine CE rB (eL c i hi) ID ?_;refine PS ?_;refine nx J3 (CN (qx J2 (aa λ_ J4=>sr λ_ J5=>FA 0 eP aP ?_)));refine LT 0 Y3 (.int .i64 11) ?_ (hc:=by exact cO _ rfl);refine nx J5 (am (aa λ_ J6=>sr λ_ J7=>P2 ?_));refine nx J7 (CN (sr λ_ J8=>P2 ?_));refine nx J8 (CN (sr λ_ J9=>P2 ?_));refine nx J9 (CN (sr λ_ J10=>P2 ?_));refine nx J10 (CN (ac (P2 ?_)));refine nx J6 (CN (aa λ_ J11=>sr λ_ J12=>P2 ?_));refine nx J12 (CN (sr λ_ J13=>P2 ?_));refine nx J13 (CN (ac (P2 ?_)));refine nx J11 (CN (sr λ_ J14=>P2 ?_));refine nx J14 (CN (sr λ_ J15=>P2 ?_));refine nx J15 (CN (sr λ_ J16=>P2 ?_));refine nx J16 (CN (sr λ_ J17=>P2 ?_));refine nx J17 (CY (sr λ_ J18=>PS ?_));refine FA 1 eP aP ?_;refine LT 0 Y3 (.int .i64 (((i:Nat):Int))) ?_ (hc:=by exact bT _ rfl);refine CR O4 (Cx c n i D M P hi d hD hM e hok) (SM [1,1]) λvR HR hR=>?_
 rcases hR with⟨hn,rfl,rfl⟩| ⟨s,r,hn,rfl,rfl⟩
 refine PS ?_;exact nx J18 (ah (aI (ae (WK [0,0] (aw rfl rfl (.inl ⟨hn,rfl,rfl⟩))))));refine PS ?_;exact nx J18 (ah (aI (ae (WK [0,0,0] (aw rfl rfl (.inr ⟨s,r,hn,rfl,rfl⟩))))))
theorem F0(c n i:Nat)(D M P:Nat→Value)(hi:i<5)(r:Nat)(hM:M i= .pointer (some ⟨r,0,none⟩))(o:OpT):
 DT 9 #[(.pointer (some ⟨c,0,none⟩)),(.agg (ints (OpT.mk 11 ((i:Nat):Int) o.to' o.key o.n o.change o.mask o.torn o.cut).flat).toArray)] T0 [aj c (fc n D M P) 56] (RI (.int .i64 5) [aj c (fc n D M P) 56]):=by
 refine BD 114 Tryz.func9 rfl rfl rfl λw0 F hF=>sr λ_ J1=>XY (ints (OpT.mk 11 ((i:Nat):Int) o.to' o.key o.n o.change o.mask o.torn o.cut).flat) λb3=>?_
 refine PS ?_;refine nx J1 (aa λ_ J2=>sr λ_ J3=>PS ?_);refine FA 1 eP aP ?_;refine LT 0 Y3 (.int .i64 (((i:Nat):Int))) ?_ (hc:=by exact bT _ rfl);refine CE rB (eL c i hi) ID ?_;refine PS ?_;refine nx J3 (CN (qx J2 (aa λ_ J4=>sr λ_ J5=>FA 0 eP aP ?_)));refine LT 0 Y3 (.int .i64 11) ?_ (hc:=by exact cO _ rfl);refine nx J5 (am (aa λ_ J6=>sr λ_ J7=>P2 ?_));refine nx J7 (CN (sr λ_ J8=>P2 ?_));refine nx J8 (CN (sr λ_ J9=>P2 ?_));refine nx J9 (CN (sr λ_ J10=>P2 ?_));refine nx J10 (CN (ac (P2 ?_)));refine nx J6 (CN (aa λ_ J11=>sr λ_ J12=>P2 ?_));refine nx J12 (CN (sr λ_ J13=>P2 ?_));refine nx J13 (CN (ac (P2 ?_)));refine nx J11 (CN (sr λ_ J14=>P2 ?_));refine nx J14 (CN (sr λ_ J15=>P2 ?_));refine nx J15 (CN (sr λ_ J16=>P2 ?_));refine nx J16 (CN (sr λ_ J17=>P2 ?_));refine nx J17 (CY (sr λ_ J18=>PS ?_));refine FA 1 eP aP ?_;refine LT 0 Y3 (.int .i64 (((i:Nat):Int))) ?_ (hc:=by exact bT _ rfl);refine CE O4 (Cw c n i D M P hi r hM) (SM [1]) ?_;refine PS ?_;exact nx J18 (ah (aI (ae (WK [0] (aw rfl rfl ⟨rfl,rfl⟩)))))
theorem Cg(c n i:Nat)(D M P:Nat→Value)(hi:i<5)(to' k:Int)(o:OpT)(hv:dy ((i:Nat):Int) to'=false)(bs:List Nat):
 DT 25 #[(.pointer (some ⟨c,0,none⟩)),(.agg (ints (OpT.mk k ((i:Nat):Int) to' o.key o.n o.change o.mask o.torn o.cut).flat).toArray)] T0 [aj c (fc n D M P) 56,aj n (dP bs) 106] (RI (.int .i64 5) [aj c (fc n D M P) 56,aj n (dP bs) 106]):=by
 refine BD 91 Tryz.func25 rfl rfl rfl λw0 F hF=>sr λ_ J1=>XY (ints (OpT.mk k ((i:Nat):Int) to' o.key o.n o.change o.mask o.torn o.cut).flat) λb3=>?_
 refine PS ?_;refine nx J1 (aa λ_ J2=>D2 0 1 de ?_);refine PD 0 ?_;refine PD 1 ?_;refine FD 2 0 qg AX ?_;refine LX 3 K8 (.pointer (some ⟨n,0,none⟩)) ?_ (hc:=by exact BM n D M P);refine FD 4 1 eP aP ?_;refine LX 5 Y3 (.int .i64 (((i:Nat):Int))) ?_ (hc:=by exact bT _ rfl);refine FD 6 2 eP aP ?_;refine LX 7 Y3 (.int .i64 (to')) ?_ (hc:=by exact iB _ rfl);refine AL 8 ?_;refine CR Fs (nB n bs ((i:Nat):Int) to') (SM [2]) λvR HR hR=>?_
 obtain⟨hw,rfl⟩:=hR;obtain⟨_,rfl⟩:dy ((i:Nat):Int) to'=false∧vR= .pointer none:=hw.resolve_left (λq=>by rw[hv]at q;cases q.1);refine EN (PD 9 ?_);refine DN (ad J2 (aa λ_ J3=>sr λ_ J4=>PS ?_));refine tp (RH rfl yy rfl rfl) ?_;refine nx J4 (CY (sr λ_ J5=>PS ?_));exact nx J5 (ah (ae (WK [2,0] (aw rfl rfl ⟨rfl,rfl⟩))))
theorem ql{n i j:Nat}{bs:List Nat}{W:List (List MsgT)}{l:List MsgT}{H:List HP}{h:Hl}(hv:dy ((i:Nat):Int) ((j:Nat):Int)=true)(hW:W.length=25)(q:bR (io 169 5 (bs.getD (bE ((i:Nat):Int) ((j:Nat):Int)) 0) (List.map (lw (bE ((i:Nat):Int) ((j:Nat):Int))) l)::fV 169 5 bs (c9 W) (bE ((i:Nat):Int) ((j:Nat):Int))::aj n (dP bs) 106::H) h):bR (eQ 106 169 5 n (c9 (W.set (bE ((i:Nat):Int) ((j:Nat):Int)) l))::H) h:=by
 have q2:=uz hv (qm W) q;rw[wT W (je hv).1 hW]at q2;exact bw (p:=λbs:List Nat=>[aj n (dP bs) 106,eZ 169 5 bs (c9 (W.set (bE ((i:Nat):Int) ((j:Nat):Int)) l))]) bs (eI (List.Perm.swap _ _ _) q2)
theorem AM(c n i:Nat)(D M P:Nat→Value)(hi:i<5)(j:Nat)(hj:j<5)(hv:dy ((i:Nat):Int) ((j:Nat):Int)=true)(W:List (List MsgT))(hW:W.length=25)(l:List MsgT)(hl:W.getD (bE ((i:Nat):Int) ((j:Nat):Int)) []=l)(h8:l.length≤8)(hlen: ∀m∈l,0< (cY m).length)(o:OpT)(k:Int)(hn:l=[])(bs:List Nat):
 DT 25 #[(.pointer (some ⟨c,0,none⟩)),(.agg (ints (OpT.mk k ((i:Nat):Int) ((j:Nat):Int) o.key o.n o.change o.mask o.torn o.cut).flat).toArray)] T0 [aj n (dP bs) 106,eZ 169 5 bs (c9 W),aj c (fc n D M P) 56] (RI (.int .i64 10) [aj c (fc n D M P) 56,eQ 106 169 5 n (c9 (W.set (bE ((i:Nat):Int) ((j:Nat):Int)) l))]):=by
 refine BD 91 Tryz.func25 rfl rfl rfl λw0 F hF=>sr λ_ J1=>XY (ints (OpT.mk k ((i:Nat):Int) ((j:Nat):Int) o.key o.n o.change o.mask o.torn o.cut).flat) λb3=>?_
 refine PS ?_;refine nx J1 (aa λ_ J2=>D2 0 3 de ?_);refine PD 0 ?_;refine PD 1 ?_;refine FD 2 0 qg AX ?_;refine LX 3 K8 (.pointer (some ⟨n,0,none⟩)) ?_ (hc:=by exact BM n D M P);refine FD 4 1 eP aP ?_;refine LX 5 Y3 (.int .i64 (((i:Nat):Int))) ?_ (hc:=by exact bT _ rfl);refine FD 6 2 eP aP ?_;refine LX 7 Y3 (.int .i64 (((j:Nat):Int))) ?_ (hc:=by exact iB _ rfl);refine AL 8 ?_;refine CR Fs (nB n bs ((i:Nat):Int) ((j:Nat):Int)) (SM [1]) λvR HR hR=>?_
 obtain⟨hw,rfl⟩:=hR;obtain⟨_,rfl⟩:dy ((i:Nat):Int) ((j:Nat):Int)=true∧vR= .pointer (some ⟨(bs.getD (bE ((i:Nat):Int) ((j:Nat):Int)) 0),0,none⟩):=hw.resolve_right (λq=>by rw[hv]at q;cases q.1);refine EN (PD 9 ?_);refine DN (ad J2 (aa λ_ J3=>sr λ_ J4=>PS ?_));refine tp (gy rfl yy rfl rfl) ?_;refine nx J4 (CN (qx J3 (aa λ_ J5=>sr λ_ J6=>cr (H':=[io 169 5 (bs.getD (bE ((i:Nat):Int) ((j:Nat):Int)) 0) (List.map (lw (bE ((i:Nat):Int) ((j:Nat):Int))) l),fV 169 5 bs (c9 W) (bE ((i:Nat):Int) ((j:Nat):Int)),aj n (dP bs) 106,aj b3 (ints (OpT.mk k ((i:Nat):Int) ((j:Nat):Int) o.key o.n o.change o.mask o.torn o.cut).flat) 30,aj c (fc n D M P) 56]) (λ_ q=>hl▸oj W (je hv).1▸oP hv (aD [2] rfl q)) (PS ?_))));refine CE Dx (jS (bs.getD (bE ((i:Nat):Int) ((j:Nat):Int)) 0) (List.map (lw (bE ((i:Nat):Int) ((j:Nat):Int))) l)) ID ?_;rw[cm];refine PS ?_;refine ap ?_ ?_<;>intro h23;refine nx J6 (CY (sr λ_ J7=>PS ?_));exact nx J7 (ah (ae (aE (H':=[aj c (fc n D M P) 56,eQ 106 169 5 n (c9 (W.set (bE ((i:Nat):Int) ((j:Nat):Int)) l))]) (dK _) (λ_ q=>eI (List.Perm.swap _ _ _) (ql (bs:=bs) hv hW (ak [0,0,0,1] rfl q))) (aw rfl rfl ⟨rfl,rfl⟩))))
 · exact absurd (by rw[hn];rfl) h23
theorem yI(c n i:Nat)(D M P:Nat→Value)(hi:i<5)(j:Nat)(hj:j<5)(hv:dy ((i:Nat):Int) ((j:Nat):Int)=true)(W:List (List MsgT))(hW:W.length=25)(l:List MsgT)(hl:W.getD (bE ((i:Nat):Int) ((j:Nat):Int)) []=l)(h8:l.length≤8)(hlen: ∀m∈l,0< (cY m).length)(o:OpT)(hn:l≠[])(bs:List Nat):
    DT 25 #[(.pointer (some ⟨c,0,none⟩)),(.agg (ints (OpT.mk 7 ((i:Nat):Int) ((j:Nat):Int) o.key o.n o.change o.mask o.torn o.cut).flat).toArray)] T0 [aj n (dP bs) 106,eZ 169 5 bs (c9 W),aj c (fc n D M P) 56] (RI (.int .i64 (if I6 l then 0 else 3)) [aj c (fc n D M P) 56,eQ 106 169 5 n (c9 (W.set (bE ((i:Nat):Int) ((j:Nat):Int)) (EH l)))]):=by
 refine BD 91 Tryz.func25 rfl rfl rfl λw0 F hF=>sr λ_ J1=>XY (ints (OpT.mk 7 ((i:Nat):Int) ((j:Nat):Int) o.key o.n o.change o.mask o.torn o.cut).flat) λb3=>?_
 refine PS ?_;refine nx J1 (aa λ_ J2=>D2 0 3 de ?_);refine PD 0 ?_;refine PD 1 ?_;refine FD 2 0 qg AX ?_;refine LX 3 K8 (.pointer (some ⟨n,0,none⟩)) ?_ (hc:=by exact BM n D M P);refine FD 4 1 eP aP ?_;refine LX 5 Y3 (.int .i64 (((i:Nat):Int))) ?_ (hc:=by exact bT _ rfl);refine FD 6 2 eP aP ?_;refine LX 7 Y3 (.int .i64 (((j:Nat):Int))) ?_ (hc:=by exact iB _ rfl);refine AL 8 ?_;refine CR Fs (nB n bs ((i:Nat):Int) ((j:Nat):Int)) (SM [1]) λvR HR hR=>?_
 obtain⟨hw,rfl⟩:=hR;obtain⟨_,rfl⟩:dy ((i:Nat):Int) ((j:Nat):Int)=true∧vR= .pointer (some ⟨(bs.getD (bE ((i:Nat):Int) ((j:Nat):Int)) 0),0,none⟩):=hw.resolve_right (λq=>by rw[hv]at q;cases q.1);refine EN (PD 9 ?_);refine DN (ad J2 (aa λ_ J3=>sr λ_ J4=>PS ?_));refine tp (gy rfl yy rfl rfl) ?_;refine nx J4 (CN (qx J3 (aa λ_ J5=>sr λ_ J6=>cr (H':=[io 169 5 (bs.getD (bE ((i:Nat):Int) ((j:Nat):Int)) 0) (List.map (lw (bE ((i:Nat):Int) ((j:Nat):Int))) l),fV 169 5 bs (c9 W) (bE ((i:Nat):Int) ((j:Nat):Int)),aj n (dP bs) 106,aj b3 (ints (OpT.mk 7 ((i:Nat):Int) ((j:Nat):Int) o.key o.n o.change o.mask o.torn o.cut).flat) 30,aj c (fc n D M P) 56]) (λ_ q=>hl▸oj W (je hv).1▸oP hv (aD [2] rfl q)) (PS ?_))));refine CE Dx (jS (bs.getD (bE ((i:Nat):Int) ((j:Nat):Int)) 0) (List.map (lw (bE ((i:Nat):Int) ((j:Nat):Int))) l)) ID ?_;rw[cm];refine PS ?_;refine ap ?_ ?_<;>intro h23
 · exact absurd (List.eq_nil_of_length_eq_zero (by omega)) hn
 refine nx J6 (CN (qx J5 (aa λ_ J7=>sr λ_ J8=>FA 0 eP aP ?_)));refine LT 3 Y3 (.int .i64 7) ?_ (hc:=by exact cO _ rfl);refine PS ?_;refine nx J8 (CY (aa λ_ J9=>sr λ_ J10=>PS ?_))
 refine lP (ab rfl) rfl rfl rfl QN rfl (y9 (bs.getD (bE ((i:Nat):Int) ((j:Nat):Int)) 0) (List.map (lw (bE ((i:Nat):Int) ((j:Nat):Int))) l) (by rw[cm];exact h8) (λx hx=>by
        obtain⟨m,_,rfl⟩:=gN.1 hx
        exact wS _ m)) (λ_ s=>s) (λ_ _ _=>trivial) (λvR HR hR=>?_)
 obtain⟨rfl,rfl⟩:=hR;rw[LF,Lz];refine bg ?_ ?_<;>intro h28;refine PS ?_;refine nx J10 (CN (qx J9 (sr λ_ J11=>PS ?_)));refine nx J11 (ah (ae (aE (H':=[aj c (fc n D M P) 56,eQ 106 169 5 n (c9 (W.set (bE ((i:Nat):Int) ((j:Nat):Int)) (EH l)))]) (dK _) (λ_ q=>eI (List.Perm.swap _ _ _) (ql (bs:=bs) hv hW (ak [0,0,0,1] rfl q))) (aw rfl rfl ?_))));exact⟨by rw[h28];rfl,rfl⟩;refine PS ?_;refine nx J10 (CY (sr λ_ J12=>PS ?_));refine nx J12 (ah (ae (ae (aE (H':=[aj c (fc n D M P) 56,eQ 106 169 5 n (c9 (W.set (bE ((i:Nat):Int) ((j:Nat):Int)) (EH l)))]) (dK _) (λ_ q=>eI (List.Perm.swap _ _ _) (ql (bs:=bs) hv hW (ak [0,0,0,1] rfl q))) (aw rfl rfl ?_)))));exact⟨by rw[h28];rfl,rfl⟩
theorem Gq{i j:Nat}{W:List (List MsgT)}{m:MsgT}{l2:List MsgT}(hv:dy ((i:Nat):Int) ((j:Nat):Int)=true)(hW:W.length=25):(c9 (W.set (bE ((i:Nat):Int) ((j:Nat):Int)) (m::l2))).getD (bE ((i:Nat):Int) ((j:Nat):Int)) []=jO ((i:Nat):Int) ((j:Nat):Int) (cY m)::List.map (lw (bE ((i:Nat):Int) ((j:Nat):Int))) l2:=by
 rw[oj _ (je hv).1,List.getD_eq_getElem?_getD,List.getElem?_set_self (by rw[hW];exact(je hv).1),←Cf (sY hv).1 (sY hv).2];rfl
theorem Cl{i j:Nat}{W:List (List MsgT)}{m:MsgT}{l2:List MsgT}(hv:dy ((i:Nat):Int) ((j:Nat):Int)=true)(hW:W.length=25):(c9 (W.set (bE ((i:Nat):Int) ((j:Nat):Int)) (m::l2))).set (bE ((i:Nat):Int) ((j:Nat):Int)) (List.map (lw (bE ((i:Nat):Int) ((j:Nat):Int))) l2)=c9 (W.set (bE ((i:Nat):Int) ((j:Nat):Int)) l2):=by
 rw[wT _ (je hv).1 (by rw[fu];exact hW),hZ]
theorem sT(c n i:Nat)(D M P:Nat→Value)(hi:i<5)(j:Nat)(hj:j<5)(hv:dy ((i:Nat):Int) ((j:Nat):Int)=true)(W:List (List MsgT))(hW:W.length=25)(l:List MsgT)(hl:W.getD (bE ((i:Nat):Int) ((j:Nat):Int)) []=l)(h8:l.length≤8)(hlen: ∀m∈l,0< (cY m).length)(o:OpT)(m:MsgT)(l2:List MsgT)(ht:jB (max o.n 0% ((l.length:Nat):Int)).toNat l=m::l2)(bs:List Nat)(q:Int)(hk5:q=5∨q=6)(hk:q=6∨M j= .pointer none):
    DT 25 #[(.pointer (some ⟨c,0,none⟩)),(.agg (ints (OpT.mk q ((i:Nat):Int) ((j:Nat):Int) o.key o.n o.change o.mask o.torn o.cut).flat).toArray)] T0 [aj n (dP bs) 106,eZ 169 5 bs (c9 W),aj c (fc n D M P) 56] (RI (.int .i64 0) [aj c (fc n D M P) 56,eQ 106 169 5 n (c9 (W.set (bE ((i:Nat):Int) ((j:Nat):Int)) l2))]):=by
 refine BD 91 Tryz.func25 rfl rfl rfl λw0 F hF=>?_
 have hln:0<l.length:=by
     have:=kV (max o.n 0% ((l.length:Nat):Int)).toNat l;rw[ht]at this;rw[←this];exact Nat.succ_pos _
 have hm0:0< (cY m).length:=hlen m ((pm (max o.n 0% ((l.length:Nat):Int)).toNat l).1 (ht▸oh ..));have hrl:(max o.n 0% ((l.length:Nat):Int))< ((l.length:Nat):Int):=I5 _ (by omega);refine sr λ_ J1=>XY (ints (OpT.mk q ((i:Nat):Int) ((j:Nat):Int) o.key o.n o.change o.mask o.torn o.cut).flat) λb3=>?_
 refine PS ?_;refine nx J1 (aa λ_ J2=>D2 0 3 de ?_);refine PD 0 ?_;refine PD 1 ?_;refine FD 2 0 qg AX ?_;refine LX 3 K8 (.pointer (some ⟨n,0,none⟩)) ?_ (hc:=by exact BM n D M P);refine FD 4 1 eP aP ?_;refine LX 5 Y3 (.int .i64 (((i:Nat):Int))) ?_ (hc:=by exact bT _ rfl);refine FD 6 2 eP aP ?_;refine LX 7 Y3 (.int .i64 (((j:Nat):Int))) ?_ (hc:=by exact iB _ rfl);refine AL 8 ?_;refine CR Fs (nB n bs ((i:Nat):Int) ((j:Nat):Int)) (SM [1]) λvR HR hR=>?_
 obtain⟨hw,rfl⟩:=hR;obtain⟨_,rfl⟩:dy ((i:Nat):Int) ((j:Nat):Int)=true∧vR= .pointer (some ⟨(bs.getD (bE ((i:Nat):Int) ((j:Nat):Int)) 0),0,none⟩):=hw.resolve_right (λq=>by rw[hv]at q;cases q.1);refine EN (PD 9 ?_);refine DN (ad J2 (aa λ_ J3=>sr λ_ J4=>PS ?_));refine tp (gy rfl yy rfl rfl) ?_;refine nx J4 (CN (qx J3 (aa λ_ J5=>sr λ_ J6=>cr (H':=[io 169 5 (bs.getD (bE ((i:Nat):Int) ((j:Nat):Int)) 0) (List.map (lw (bE ((i:Nat):Int) ((j:Nat):Int))) l),fV 169 5 bs (c9 W) (bE ((i:Nat):Int) ((j:Nat):Int)),aj n (dP bs) 106,aj b3 (ints (OpT.mk q ((i:Nat):Int) ((j:Nat):Int) o.key o.n o.change o.mask o.torn o.cut).flat) 30,aj c (fc n D M P) 56]) (λ_ q=>hl▸oj W (je hv).1▸oP hv (aD [2] rfl q)) (PS ?_))));refine CE Dx (jS (bs.getD (bE ((i:Nat):Int) ((j:Nat):Int)) 0) (List.map (lw (bE ((i:Nat):Int) ((j:Nat):Int))) l)) ID ?_;rw[cm];refine PS ?_;refine ap ?_ ?_<;>intro h23
 · exact absurd h23 (by omega)
 refine nx J6 (CN (qx J5 (aa λ_ J7=>sr λ_ J8=>FA 0 eP aP ?_)));refine LT 3 Y3 (.int .i64 (q)) ?_ (hc:=by exact cO _ rfl);refine PS ?_;refine ap ?_ ?_<;>intro h26
 · exact absurd h26 (by omega)
 refine nx J8 (CN (qx J7 (aa λ_ J9=>aa λ_ J10=>D1 3 de ?_)));refine FD 0 4 eP aP ?_;refine LX 1 Y3 (.int .i64 (o.n)) ?_ (hc:=by exact q7 _ rfl);refine ta 2 rfl (zk rfl rfl rfl) ?_;refine PD 3 ?_;refine PD 6 ?_;refine AL 4 ?_;refine CE Dx (jS (bs.getD (bE ((i:Nat):Int) ((j:Nat):Int)) 0) (List.map (lw (bE ((i:Nat):Int) ((j:Nat):Int))) l)) ID ?_;rw[cm];refine EN (ta 5 rfl (PV.rem (r:=(max o.n 0% ((l.length:Nat):Int))) rfl rfl rfl (by omega) (um (by omega))) ?_);refine DN (ad J10 (am ?_))
 refine bG (α:=(Nat)) (λk=>((k:Nat):Int)≤(max o.n 0% ((l.length:Nat):Int))) (λk=>[(0,(.pointer (some ⟨c,0,none⟩))),(3,(.pointer (some ⟨b3,0,none⟩))),(4,(.int .i64 0)),(5,(.pointer (some ⟨(bs.getD (bE ((i:Nat):Int) ((j:Nat):Int)) 0),0,none⟩))),(35,(.int .i64 ((max o.n 0% ((l.length:Nat):Int))))),(36,(.int .i64 (((k:Nat):Int))))]) (λk=>[io 169 5 (bs.getD (bE ((i:Nat):Int) ((j:Nat):Int)) 0) (List.map (lw (bE ((i:Nat):Int) ((j:Nat):Int))) (jB k l)),fV 169 5 bs (c9 W) (bE ((i:Nat):Int) ((j:Nat):Int)),aj n (dP bs) 106,aj b3 (ints (OpT.mk q ((i:Nat):Int) ((j:Nat):Int) o.key o.n o.change o.mask o.torn o.cut).flat) 30,aj c (fc n D M P) 56]) (λk=>(max o.n 0% ((l.length:Nat):Int)).toNat-k) 0
     (AG _ (by omega)) SB
     (λ_ s=>aD [0,0,0,0,0] rfl s) (λk hinv=>?_)
 obtain hk:=hinv;refine sr λ_ J11=>PS ?_
 refine ap ?_ ?_<;>intro h37;refine nx J11 (aa λ_ J12=>CY (qx J12 (aa λ_ J13=>am (ac (PS ?_)))))
 refine lP (ab rfl) rfl rfl rfl OX rfl (ub (bs.getD (bE ((i:Nat):Int) ((j:Nat):Int)) 0) (List.map (lw (bE ((i:Nat):Int) ((j:Nat):Int))) (jB k l)) (by rw[cm,kV];exact h8) (λx hx=>by
        obtain⟨m,_,rfl⟩:=gN.1 hx
        exact wS _ m)) (λ_ s=>s) (λ_ _ _=>trivial) (λvR HR hR=>?_)
 obtain rfl:=hR;rw[zy];refine au (af (ad J13 (ac (AD ?_))));refine PS ?_;refine au ?_
 exact aL ((k+1):(Nat)) (by omega) (by show(max o.n 0% ((l.length:Nat):Int)).toNat- (k+1)< (max o.n 0% ((l.length:Nat):Int)).toNat-k;omega)
   SB
   (λ_ s=>aD [0,0,0,0,0] rfl s)
 have hkr:k=(max o.n 0% ((l.length:Nat):Int)).toNat:=by omega
 refine cr (H':=[io 169 5 (bs.getD (bE ((i:Nat):Int) ((j:Nat):Int)) 0) (List.map (lw (bE ((i:Nat):Int) ((j:Nat):Int))) (m::l2)),fV 169 5 bs (c9 W) (bE ((i:Nat):Int) ((j:Nat):Int)),aj n (dP bs) 106,aj b3 (ints (OpT.mk q ((i:Nat):Int) ((j:Nat):Int) o.key o.n o.change o.mask o.torn o.cut).flat) 30,aj c (fc n D M P) 56]) (λ_ q=>by rw[hkr,ht]at q;exact q) (nx J11 (aa λ_ J14=>CN (aW (aA (aA (br (ad J9 (aa λ_ J15=>D2 3 4 de ?_))))))));refine PD 0 ?_;refine PD 1 ?_;refine FD 2 0 qg AX ?_;refine LX 3 K8 (.pointer (some ⟨n,0,none⟩)) ?_ (hc:=by exact BM n D M P);refine FD 4 1 eP aP ?_;refine LX 5 Y3 (.int .i64 (((i:Nat):Int))) ?_ (hc:=by exact bT _ rfl);refine FD 6 2 eP aP ?_;refine LX 7 Y3 (.int .i64 (((j:Nat):Int))) ?_ (hc:=by exact iB _ rfl);refine AL 8 ?_;refine cr (H':=[eQ 106 169 5 n (c9 (W.set (bE ((i:Nat):Int) ((j:Nat):Int)) (m::l2))),aj b3 (ints (OpT.mk q ((i:Nat):Int) ((j:Nat):Int) o.key o.n o.change o.mask o.torn o.cut).flat) 30,aj c (fc n D M P) 56]) (λ_ q=>ql (bs:=bs) hv hW (aD [0,0,0] rfl q)) (CR OW (rO n (c9 (W.set (bE ((i:Nat):Int) ((j:Nat):Int)) (m::l2))) ((i:Nat):Int) ((j:Nat):Int) (cY m) (List.map (lw (bE ((i:Nat):Int) ((j:Nat):Int))) l2) hv (qm _) (Gq hv hW) hm0 (by have:=tX m;omega)) ID λvR HR hR=>?_);obtain⟨uv,rfl,rfl⟩:=hR;rw[Cl hv hW];refine EN (PD 9 ?_);refine PD 10 ?_;refine PD 11 ?_;refine PD 12 ?_;refine PD 13 ?_
 refine DN (ad J15 (aa λ_ J16=>sr λ_ J17=>FA 0 eP aP ?_));refine LT 2 Y3 (.int .i64 (q)) ?_ (hc:=by exact cO _ rfl);refine PS ?_;refine ap ?_ ?_<;>intro h55;refine PS ?_;refine UT ?_;refine UT ?_;refine P2 ?_
 iterate 5 refine UT ?_
 refine PS ?_;refine nx J17 (CY (sr λ_ J18=>PS ?_));exact nx J18 (ah (ae (WK [3,0] (aw rfl rfl ⟨rfl,rfl⟩))));refine P2 ?_;refine PS ?_;refine P3 ?_;refine FA 2 eP aP ?_;refine LT 2 Y3 (.int .i64 (((j:Nat):Int))) ?_ (hc:=by exact iB _ rfl);refine CE Dy (s8 c n j D M P hj (hk.resolve_left h55)) (SM [3]) ?_;refine PS ?_;refine PS ?_;refine nx J17 (CY (sr λ_ J19=>PS ?_));exact nx J19 (ah (ae (WK [0,0] (aw rfl rfl ⟨rfl,rfl⟩))))
theorem AO(c n i:Nat)(D M P:Nat→Value)(hi:i<5)(j:Nat)(hj:j<5)(hv:dy ((i:Nat):Int) ((j:Nat):Int)=true)(W:List (List MsgT))(hW:W.length=25)(l:List MsgT)(hl:W.getD (bE ((i:Nat):Int) ((j:Nat):Int)) []=l)(h8:l.length≤8)(hlen: ∀m∈l,0< (cY m).length)(o:OpT)(m:MsgT)(l2:List MsgT)(ht:jB (max o.n 0% ((l.length:Nat):Int)).toNat l=m::l2)(bs:List Nat)(d r:Nat)(s:MS LD)(hD:D j= .pointer (some ⟨d,0,none⟩))(hM:M j= .pointer (some ⟨r,0,none⟩))(ho:s.o=[])(hs:OkR KD s)(hto:((i:Nat):Int)≠s.id)(hrs:s.replies.length≤1000000):
    DT 25 #[(.pointer (some ⟨c,0,none⟩)),(.agg (ints (OpT.mk 5 ((i:Nat):Int) ((j:Nat):Int) o.key o.n o.change o.mask o.torn o.cut).flat).toArray)] T0 [aj n (dP bs) 106,eZ 169 5 bs (c9 W),aj c (fc n D M P) 56,dk d s.e.D,gk s d r] (dD (λv H=>(s.e.D.dn=true∧v= .int .i64 0∧H=[aj c (fc n D M P) 56,dk d s.e.D,eQ 106 169 5 n (c9 ((W.set (bE ((i:Nat):Int) ((j:Nat):Int)) l2))),gk s d r])∨(s.e.D.dn=false∧(ju (cY m)).2≠0∧v= .int .i64 (ju (cY m)).2∧H=[aj c (fc n D M P) 56,dk d s.e.D,eQ 106 169 5 n (c9 ((W.set (bE ((i:Nat):Int) ((j:Nat):Int)) l2))),gk s d r])∨(s.e.D.dn=false∧(ju (cY m)).2=0∧v= .int .i64 0∧H=[aj c (fc n D M P) 56,dk d (fK KD s ((i:Nat):Int) (ju (cY m)).1).hush.e.D,eQ 106 169 5 n (c9 (gT (W.set (bE ((i:Nat):Int) ((j:Nat):Int)) l2) j (fK KD s ((i:Nat):Int) (ju (cY m)).1).o)),gk (fK KD s ((i:Nat):Int) (ju (cY m)).1).hush d r]))):=by
 refine BD 91 Tryz.func25 rfl rfl rfl λw0 F hF=>?_
 have hln:0<l.length:=by
     have:=kV (max o.n 0% ((l.length:Nat):Int)).toNat l;rw[ht]at this;rw[←this];exact Nat.succ_pos _
 have hm0:0< (cY m).length:=hlen m ((pm (max o.n 0% ((l.length:Nat):Int)).toNat l).1 (ht▸oh ..));have hrl:(max o.n 0% ((l.length:Nat):Int))< ((l.length:Nat):Int):=I5 _ (by omega);refine sr λ_ J1=>XY (ints (OpT.mk 5 ((i:Nat):Int) ((j:Nat):Int) o.key o.n o.change o.mask o.torn o.cut).flat) λb3=>?_
 refine PS ?_;refine nx J1 (aa λ_ J2=>D2 0 3 de ?_);refine PD 0 ?_;refine PD 1 ?_;refine FD 2 0 qg AX ?_;refine LX 3 K8 (.pointer (some ⟨n,0,none⟩)) ?_ (hc:=by exact BM n D M P);refine FD 4 1 eP aP ?_;refine LX 5 Y3 (.int .i64 (((i:Nat):Int))) ?_ (hc:=by exact bT _ rfl);refine FD 6 2 eP aP ?_;refine LX 7 Y3 (.int .i64 (((j:Nat):Int))) ?_ (hc:=by exact iB _ rfl);refine AL 8 ?_;refine CR Fs (nB n bs ((i:Nat):Int) ((j:Nat):Int)) (SM [1]) λvR HR hR=>?_
 obtain⟨hw,rfl⟩:=hR;obtain⟨_,rfl⟩:dy ((i:Nat):Int) ((j:Nat):Int)=true∧vR= .pointer (some ⟨(bs.getD (bE ((i:Nat):Int) ((j:Nat):Int)) 0),0,none⟩):=hw.resolve_right (λq=>by rw[hv]at q;cases q.1);refine EN (PD 9 ?_);refine DN (ad J2 (aa λ_ J3=>sr λ_ J4=>PS ?_));refine tp (gy rfl yy rfl rfl) ?_;refine nx J4 (CN (qx J3 (aa λ_ J5=>sr λ_ J6=>cr (H':=[io 169 5 (bs.getD (bE ((i:Nat):Int) ((j:Nat):Int)) 0) (List.map (lw (bE ((i:Nat):Int) ((j:Nat):Int))) l),fV 169 5 bs (c9 W) (bE ((i:Nat):Int) ((j:Nat):Int)),aj n (dP bs) 106,aj b3 (ints (OpT.mk 5 ((i:Nat):Int) ((j:Nat):Int) o.key o.n o.change o.mask o.torn o.cut).flat) 30,aj c (fc n D M P) 56,dk d s.e.D,gk s d r]) (λ_ q=>hl▸oj W (je hv).1▸oP hv (aD [2] rfl q)) (PS ?_))));refine CE Dx (jS (bs.getD (bE ((i:Nat):Int) ((j:Nat):Int)) 0) (List.map (lw (bE ((i:Nat):Int) ((j:Nat):Int))) l)) ID ?_;rw[cm];refine PS ?_;refine ap ?_ ?_<;>intro h23
 · exact absurd h23 (by omega)
 refine nx J6 (CN (qx J5 (aa λ_ J7=>sr λ_ J8=>FA 0 eP aP ?_)));refine LT 3 Y3 (.int .i64 5) ?_ (hc:=by exact cO _ rfl);refine PS ?_;refine nx J8 (CN (qx J7 (aa λ_ J9=>aa λ_ J10=>D1 3 de ?_)));refine FD 0 4 eP aP ?_;refine LX 1 Y3 (.int .i64 (o.n)) ?_ (hc:=by exact q7 _ rfl);refine ta 2 rfl (zk rfl rfl rfl) ?_;refine PD 3 ?_;refine PD 6 ?_;refine AL 4 ?_;refine CE Dx (jS (bs.getD (bE ((i:Nat):Int) ((j:Nat):Int)) 0) (List.map (lw (bE ((i:Nat):Int) ((j:Nat):Int))) l)) ID ?_;rw[cm];refine EN (ta 5 rfl (PV.rem (r:=(max o.n 0% ((l.length:Nat):Int))) rfl rfl rfl (by omega) (um (by omega))) ?_);refine DN (ad J10 (am ?_))
 refine bG (α:=(Nat)) (λk=>((k:Nat):Int)≤(max o.n 0% ((l.length:Nat):Int))) (λk=>[(0,(.pointer (some ⟨c,0,none⟩))),(3,(.pointer (some ⟨b3,0,none⟩))),(4,(.int .i64 0)),(5,(.pointer (some ⟨(bs.getD (bE ((i:Nat):Int) ((j:Nat):Int)) 0),0,none⟩))),(35,(.int .i64 ((max o.n 0% ((l.length:Nat):Int))))),(36,(.int .i64 (((k:Nat):Int))))]) (λk=>[io 169 5 (bs.getD (bE ((i:Nat):Int) ((j:Nat):Int)) 0) (List.map (lw (bE ((i:Nat):Int) ((j:Nat):Int))) (jB k l)),fV 169 5 bs (c9 W) (bE ((i:Nat):Int) ((j:Nat):Int)),aj n (dP bs) 106,aj b3 (ints (OpT.mk 5 ((i:Nat):Int) ((j:Nat):Int) o.key o.n o.change o.mask o.torn o.cut).flat) 30,aj c (fc n D M P) 56,dk d s.e.D,gk s d r]) (λk=>(max o.n 0% ((l.length:Nat):Int)).toNat-k) 0
     (AG _ (by omega)) SB
     (λ_ s=>aD [0,0,0,0,0,0,0] rfl s) (λk hinv=>?_)
 obtain hk:=hinv;refine sr λ_ J11=>PS ?_
 refine ap ?_ ?_<;>intro h37;refine nx J11 (aa λ_ J12=>CY (qx J12 (aa λ_ J13=>am (ac (PS ?_)))))
 refine lP (ab rfl) rfl rfl rfl OX rfl (ub (bs.getD (bE ((i:Nat):Int) ((j:Nat):Int)) 0) (List.map (lw (bE ((i:Nat):Int) ((j:Nat):Int))) (jB k l)) (by rw[cm,kV];exact h8) (λx hx=>by
        obtain⟨m,_,rfl⟩:=gN.1 hx
        exact wS _ m)) (λ_ s=>s) (λ_ _ _=>trivial) (λvR HR hR=>?_)
 obtain rfl:=hR;rw[zy];refine au (af (ad J13 (ac (AD ?_))));refine PS ?_;refine au ?_
 exact aL ((k+1):(Nat)) (by omega) (by show(max o.n 0% ((l.length:Nat):Int)).toNat- (k+1)< (max o.n 0% ((l.length:Nat):Int)).toNat-k;omega)
   SB
   (λ_ s=>aD [0,0,0,0,0,0,0] rfl s)
 have hkr:k=(max o.n 0% ((l.length:Nat):Int)).toNat:=by omega
 refine cr (H':=[io 169 5 (bs.getD (bE ((i:Nat):Int) ((j:Nat):Int)) 0) (List.map (lw (bE ((i:Nat):Int) ((j:Nat):Int))) (m::l2)),fV 169 5 bs (c9 W) (bE ((i:Nat):Int) ((j:Nat):Int)),aj n (dP bs) 106,aj b3 (ints (OpT.mk 5 ((i:Nat):Int) ((j:Nat):Int) o.key o.n o.change o.mask o.torn o.cut).flat) 30,aj c (fc n D M P) 56,dk d s.e.D,gk s d r]) (λ_ q=>by rw[hkr,ht]at q;exact q) (nx J11 (aa λ_ J14=>CN (aW (aA (aA (br (ad J9 (aa λ_ J15=>D2 3 4 de ?_))))))));refine PD 0 ?_;refine PD 1 ?_;refine FD 2 0 qg AX ?_;refine LX 3 K8 (.pointer (some ⟨n,0,none⟩)) ?_ (hc:=by exact BM n D M P);refine FD 4 1 eP aP ?_;refine LX 5 Y3 (.int .i64 (((i:Nat):Int))) ?_ (hc:=by exact bT _ rfl);refine FD 6 2 eP aP ?_;refine LX 7 Y3 (.int .i64 (((j:Nat):Int))) ?_ (hc:=by exact iB _ rfl);refine AL 8 ?_;refine cr (H':=[eQ 106 169 5 n (c9 (W.set (bE ((i:Nat):Int) ((j:Nat):Int)) (m::l2))),aj b3 (ints (OpT.mk 5 ((i:Nat):Int) ((j:Nat):Int) o.key o.n o.change o.mask o.torn o.cut).flat) 30,aj c (fc n D M P) 56,dk d s.e.D,gk s d r]) (λ_ q=>ql (bs:=bs) hv hW (aD [0,0,0] rfl q)) (CR OW (rO n (c9 (W.set (bE ((i:Nat):Int) ((j:Nat):Int)) (m::l2))) ((i:Nat):Int) ((j:Nat):Int) (cY m) (List.map (lw (bE ((i:Nat):Int) ((j:Nat):Int))) l2) hv (qm _) (Gq hv hW) hm0 (by have:=tX m;omega)) ID λvR HR hR=>?_);obtain⟨uv,rfl,rfl⟩:=hR;rw[Cl hv hW];refine EN (PD 9 ?_);refine PD 10 ?_
 refine PD 11 ?_;refine PD 12 ?_;refine PD 13 ?_;refine DN (ad J15 (aa λ_ J16=>sr λ_ J17=>FA 0 eP aP ?_));refine LT 2 Y3 (.int .i64 5) ?_ (hc:=by exact cO _ rfl);refine P3 ?_;refine PS ?_;refine P3 ?_;refine FA 2 eP aP ?_;refine LT 2 Y3 (.int .i64 (((j:Nat):Int))) ?_ (hc:=by exact iB _ rfl);refine CE Dy (sZ c n j D M P hj d r s.e.D hD hM) (SM [3,3]) ?_;refine bg ?_ ?_<;>intro h64;refine PS ?_;refine PS ?_;refine nx J17 (CN (qx J16 (sr λ_ J18=>PS ?_)));refine CF QM (Eg uv (cY m)) ID (By 3 rfl rfl) ?_;refine P3 ?_;refine XZ m9 (ints MsgT.zero.flat) λb8=>?_
 refine SW 0 ct aH ?_;refine PS ?_;refine nx J18 (aa λ_ J19=>sr λ_ J20=>P2 ?_);refine ap ?_ ?_<;>intro h73;refine nx J20 (CY (sK (λw=>Frm F w∧w.heap[b3]?=some (.cells (ints (OpT.mk 5 ((i:Nat):Int) ((j:Nat):Int) o.key o.n o.change o.mask o.torn o.cut).flat).toArray 30 (0,0))∧w.heap[c]?=some (.cells (fc n D M P).toArray 56 (0,0))∧w.heap[b8]?=some (.cells (ints ((ju (cY m)).1).flat).toArray 134 (0,0))∧True) de rfl (λ_ s=>⟨fB s,s.block 5 (lb rfl) rfl,s.block 1 (lb rfl) rfl,s.block 0 (lb rfl) rfl,trivial⟩) (PD 0 ?_)));refine FD 1 2 eP aP ?_;refine LX 2 Y3 (.int .i64 (((j:Nat):Int))) ?_ (hc:=by exact iB _ rfl);refine PD 3 ?_;refine FD 4 6 qg p5 ?_;refine IY 5 (6+j) rE iM ?_;refine LX 6 pi (.pointer (some ⟨r,0,none⟩)) ?_ (hc:=by exact(ym n D M P hj).trans (congrArg some hM));refine PD 7 ?_;refine FD 8 2 eP aP ?_;refine LX 9 Y3 (.int .i64 (((j:Nat):Int))) ?_ (hc:=by exact iB _ rfl);refine ta 10 rfl (kL (cells:=#[(.pointer (some ⟨c,0,none⟩)),(.int .i64 (((j:Nat):Int)))]) rfl rfl (by as_aux_lemma=>kernel_rfl)) ?_;refine ta 11 rfl (qb rfl Of rfl rfl) ?_;refine FD 12 1 eP aP ?_;refine LX 13 Y3 (.int .i64 (((i:Nat):Int))) ?_ (hc:=by exact bT _ rfl);refine LY 14 bi ct aH ?_;refine AL 15 ?_
 refine cr (H':=[cV (yg c n d j D M P hj hD (W.set (bE ((i:Nat):Int) ((j:Nat):Int)) l2) (by rw[fu];exact hW)) r s,aj b8 (ints ((ju (cY m)).1).flat) 134,ie uv (cY m) 5,aj b3 (ints (OpT.mk 5 ((i:Nat):Int) ((j:Nat):Int) o.key o.n o.change o.mask o.torn o.cut).flat) 30]) (λ_ q=>Fx ho (aD [1,1,1,3] rfl q)) (CZ OV (@AW _ (yg c n d j D M P hj hD (W.set (bE ((i:Nat):Int) ((j:Nat):Int)) l2) (by rw[fu];exact hW)) r s ((i:Nat):Int) (ju (cY m)).1 hs (G3 _) hto hrs) ID λvR=>?_);change TL _ _ _ _ _ _ _ _ _ [cV (yg c n d j D M P hj hD (W.set (bE ((i:Nat):Int) ((j:Nat):Int)) l2) (by rw[fu];exact hW)) r (fK KD s ((i:Nat):Int) (ju (cY m)).1),aj b8 (ints ((ju (cY m)).1).flat) 134,ie uv (cY m) 5,aj b3 (ints (OpT.mk 5 ((i:Nat):Int) ((j:Nat):Int) o.key o.n o.change o.mask o.torn o.cut).flat) 30];refine cr (H':=[aj c (fc n D M P) 56,dk d ((fK KD s ((i:Nat):Int) (ju (cY m)).1).e.D),eQ 106 169 5 n (c9 (gT (W.set (bE ((i:Nat):Int) ((j:Nat):Int)) l2) j (fK KD s ((i:Nat):Int) (ju (cY m)).1).o)),gk ((fK KD s ((i:Nat):Int) (ju (cY m)).1).hush) d r,aj b8 (ints ((ju (cY m)).1).flat) 134,ie uv (cY m) 5,aj b3 (ints (OpT.mk 5 ((i:Nat):Int) ((j:Nat):Int) o.key o.n o.change o.mask o.torn o.cut).flat) 30]) (λ_ q=>Bt (s:=(fK KD s ((i:Nat):Int) (ju (cY m)).1)) q) (EN (DN (ad J19 (sr λ_ J21=>P2 ?_))));refine nx J21 (ah (WK [0,0,0,0] (aw rfl rfl ?_)))
 exact .inr (.inr ⟨(by simpa using h64),h73,(by rw[h73]),rfl⟩);refine nx J20 (CN (qx J19 (sr λ_ J22=>P2 ?_)));refine nx J22 (ah (WK [1,1,1,3] (aw rfl rfl ?_)));exact .inr (.inl ⟨(by simpa using h64),h73,rfl,rfl⟩);refine PS ?_;refine PS ?_;refine nx J17 (CY (sr λ_ J23=>PS ?_));refine nx J23 (ah (ae (WK [0,0,0,2] (aw rfl rfl ?_))));exact .inl ⟨(by simpa using h64),rfl,rfl⟩
end Go.Proofs.YtkhjnolhhidecaaGreatDoor
end

section
namespace Api
open Go Leg Codec Dsk Wal
class GdM(m:MsgT):Prop where
 kind:0≤m.kind∧m.kind≤9
class GdL(l:List SaidT):Prop where
 all: ∀x∈l,0≤x.msg.kind∧x.msg.kind≤9
theorem KH(n:Int):0< (p6 n).length:=qP _
theorem D5(n:Int)(l:List Int):0< (bh (n::l)).length:=by
 show 0< (p6 n++bh l).length;rw[ag];have:=KH n;omega
theorem N4{m:MsgT}(h:0≤m.kind∧m.kind≤9):0< (cY m).length:=by
 have p: ∀(l:List Int) (r:List UInt8),0< (bh (m.kind::l)++r).length:=λl r=>by rw[ag];have:=D5 m.kind l;omega
 unfold cY;split
 · exact p _ _
 rename_i h0;split
 · exact D5 _ _
 split
 · exact p _ _
 rename_i h3;split
 · rw[aG,aG];exact p _ _
 split
 · rw[aG];exact p _ _
 split
 · exact p _ _
 split
 · exact p _ _
 · exfalso
   simp only[el,ff,decide_eq_true_eq]at h0 h3;omega
instance (v:Int):GdM (pH v):=⟨(by decide:(0:Int)≤1∧(1:Int)≤9)⟩
instance (i:Int)(y:RowT):GdM (pB i y):=⟨(by decide:(0:Int)≤2∧(2:Int)≤9)⟩
instance (v:ViewT):GdM (jq v):=⟨(by decide:(0:Int)≤7∧(7:Int)≤9)⟩
instance (i:Int)(v:ViewT):GdM (nc i v):=⟨(by decide:(0:Int)≤8∧(8:Int)≤9)⟩
instance (i:Int)(y:RowT):GdM (eT i y):=⟨(by decide:(0:Int)≤9∧(9:Int)≤9)⟩
instance (e:Int)(b:BallotT):GdM (fI e b):=⟨(by decide:(0:Int)≤3∧(3:Int)≤9)⟩
instance (e:Int)(b h:BallotT)(c:ChangeT):GdM (kb e b h c):=⟨(by decide:(0:Int)≤4∧(4:Int)≤9)⟩
instance (e:Int)(b:BallotT)(c:ChangeT):GdM (iT e b c):=⟨(by decide:(0:Int)≤5∧(5:Int)≤9)⟩
instance (e:Int)(b:BallotT):GdM (jf e b):=⟨(by decide:(0:Int)≤6∧(6:Int)≤9)⟩
instance (t:Int)(m:MsgT)[h:GdM m]:GdL [⟨t,m⟩]:=⟨λx hx=>by rw[g9]at hx;subst hx;exact h.kind⟩
instance (i:Int)(m:MsgT)(p:Nat→Bool)(k:Nat)[h:GdM m]:GdL (nO i m p k):=⟨λx hx=>by
 unfold nO at hx;obtain⟨j,_,rfl⟩:=gN.1 hx
 exact h.kind⟩
instance (x:RepT):GdL (ou x):=⟨λs hs=>by
 unfold ou at hs;rw[gN]at hs;obtain⟨w,_,rfl⟩:=hs
 exact(show(0:Int)≤0∧(0:Int)≤9 by decide)⟩
section
variable {δ:Type} {K:Dk δ} {s0 s:MS δ}
class Qt(s0 s:MS δ):Prop where
 id:s.id=s0.id
 replies:s.replies=s0.replies
 ops:s.ops=s0.ops
 waits:s.waits=s0.waits∨s.waits=0
 o: ∃l,s.o=s0.o++l∧∀x∈l,0≤x.msg.kind∧x.msg.kind≤9
instance Qt.rfl':Qt s s:=⟨rfl,rfl,rfl, .inl rfl,[],(aY _).symm,λ_ h=>by cases h⟩
theorem Qt.trans{a b c:MS δ}(h:Qt a b)(g:Qt b c):Qt a c:=by
 obtain⟨l,e,hl⟩:=h.o;obtain⟨l2,e2,hl2⟩:=g.o;exact⟨g.id.trans h.id,g.replies.trans h.replies,g.ops.trans h.ops,g.waits.elim (λq=>h.waits.imp (q.trans ·) (q.trans ·)) .inr,l++l2,by rw[e2,e,aG],λx hx=>(fq.1 hx).elim (hl x) (hl2 x)⟩
theorem Qt.same{t:MS δ}(h:Qt s0 s)(h1:t.id=s.id)(h2:t.replies=s.replies)(h3:t.ops=s.ops)(h4:t.waits=s.waits)(h5:t.o=s.o):Qt s0 t:=
 ⟨h1.trans h.id,h2.trans h.replies,h3.trans h.ops,by rw[h4];exact h.waits,by rw[h5];exact h.o⟩
instance [h:Qt s0 s](l:List SaidT)[g:GdL l]:Qt s0 (iH K s l):=by
 refine h.trans ⟨rfl,rfl,rfl, .inl rfl,?_⟩
 by_cases q:K.dn s.e=true
 · exact⟨[],by rw[iH,if_pos q,aY],λ_ h=>by cases h⟩
 · exact⟨l,by rw[iH,if_neg q],g.all⟩
instance [h:Qt s0 s](t:Int)(m:MsgT)[GdM m]:Qt s0 (yO K s t m):=inferInstanceAs (Qt s0 (iH K s _))
instance [h:Qt s0 s](r:RecT):Qt s0 (dO K s r):=h.same rfl rfl rfl rfl rfl
instance [h:Qt s0 s](f:Int):Qt s0 (keptM s f):=h.same rfl rfl rfl rfl rfl
instance [h:Qt s0 s](w:Int)(x:RowT):Qt s0 (yu s w x):=h.same rfl rfl rfl rfl rfl
instance [h:Qt s0 s]:Qt s0 (gR s):=h.same rfl rfl rfl rfl rfl
instance [h:Qt s0 s](w:Int)(x:RowT):Qt s0 (ig s w x):=h.same rfl rfl rfl rfl rfl
instance [h:Qt s0 s](w:Int):Qt s0 (k9 s w):=h.same rfl rfl rfl rfl rfl
instance [h:Qt s0 s](x:RowT):Qt s0 (pW s x 0):=⟨h.id,h.replies,h.ops, .inr rfl,h.o⟩
instance [Qt s0 s]:Qt s0 (eU K s):=inferInstanceAs (Qt s0 (iH K s _))
instance [Qt s0 s](y:RowT):Qt s0 (j7 K s y):=inferInstanceAs (Qt s0 (iH K s _))
instance [Qt s0 s](v:ViewT):Qt s0 (lh K s v):=inferInstanceAs (Qt s0 (iH K s _))
instance [Qt s0 s](m:MsgT)[GdM m]:Qt s0 (iV K s m):=inferInstanceAs (Qt s0 (iH K s _))
instance [Qt s0 s](x:RowT):Qt s0 (dF K s x 0).1:=by unfold dF;split<;>exact inferInstance
instance [h:Qt s0 s]:Qt s0 (lj K s):=by
 unfold lj;split
 · exact h
 split
 · exact inferInstance
 · exact h
instance [h:Qt s0 s](f:Int)(m:MsgT):Qt s0 (gG K s f m):=by
 unfold gG
 repeat' split
 all_goals exact inferInstance
instance [h:Qt s0 s](w:Int)(x:RowT):Qt s0 (mD s w x):=h.same rfl rfl rfl rfl rfl
instance [h:Qt s0 s](f w:Int)(y:RowT):Qt s0 (toldS s f w y):=h.same rfl rfl rfl rfl rfl
instance [h:Qt s0 s](f:Int)(m:MsgT):Qt s0 (dz K s f m):=by unfold dz;split<;>exact inferInstance
theorem qz[Qt s0 s]{f:MS δ→MS δ}(hf:Qt s0 (f s))(t:Int)(m:MsgT)[GdM m]:Qt s0 (kB K f s t m):=by unfold kB;split;exact hf;exact inferInstance
instance [h:Qt s0 s](f w:Int):Qt s0 (ey K s f w):=by
 unfold ey
 repeat' split
 · exact h
 · exact qz inferInstance _ _
 · exact inferInstance
 · exact qz inferInstance _ _
instance [h:Qt s0 s](i w:Int):Qt s0 (gE K s i w):=by
 unfold gE;split
 · exact h
 · exact qz inferInstance _ _
instance [Qt s0 s](i:Int):Qt s0 (l7 K s i):=by unfold l7;exact inferInstance
theorem Au: ∀(l:List Int) (s:MS δ),Qt s0 s→Qt s0 (gg K l s)
 | [],_,h=>h
 |i::l,s,h=>Au l (l7 K s i) inferInstance
instance [h:Qt s0 s]:Qt s0 (nX K s):=Au _ _ h
instance [h:Qt s0 s](v:ViewT):Qt s0 (lM s v):=h.same rfl rfl rfl rfl rfl
instance [h:Qt s0 s](v:ViewT):Qt s0 (gx K s v):=by
 unfold gx
 repeat' split
 all_goals exact inferInstance
instance [h:Qt s0 s](f:Int)(m:MsgT):Qt s0 (iG K s f m):=by unfold iG;exact inferInstance
instance [h:Qt s0 s](c:ChangeT):Qt s0 (ja K s c):=by
 unfold ja
 repeat' split
 all_goals exact inferInstance
instance [h:Qt s0 s](n:Int):Qt s0 (dA s n):=h.same rfl rfl rfl rfl rfl
instance [h:Qt s0 s](v:VoteT):Qt s0 (lc s v):=h.same rfl rfl rfl rfl rfl
instance [h:Qt s0 s](a:AccT):Qt s0 (uj s a):=h.same rfl rfl rfl rfl rfl
instance [h:Qt s0 s](f:Int)(m:MsgT):Qt s0 (kj K f m s):=by
 unfold kj;split
 · exact h
 · split<;>exact inferInstance
theorem sU[h:Qt s0 s]{f:MS δ→MS δ}(hf: ∀s:MS δ,Qt s0 s→Qt s0 (f s))(w:Int)(m:MsgT):Qt s0 (eu K f s w m):=by
 unfold eu
 repeat' split
 · exact inferInstance
 · exact h
 · exact h
 · exact hf _ inferInstance
instance [Qt s0 s](w:Int)(m:MsgT):Qt s0 (mR K s w m):=sU (λ_ _=>inferInstance) w m
instance [h:Qt s0 s](w:Int)(m:MsgT):Qt s0 (jE K w m s):=by unfold jE;exact qz inferInstance _ _
instance [h:Qt s0 s](w:Int)(m:MsgT):Qt s0 (mq K w m s):=by
 unfold mq
 repeat' split
 all_goals exact inferInstance
instance [Qt s0 s](w:Int)(m:MsgT):Qt s0 (nG K s w m):=sU (λ_ _=>inferInstance) w m
theorem vE[h:Qt s0 s]{f:MS δ→MsgT→MS δ}{m:MsgT}[GdM m](hf: ∀s:MS δ,Qt s0 s→Qt s0 (f s m)):Qt s0 (gX K f s m):=by
 unfold gX;split
 · exact hf _ inferInstance
 · exact inferInstance
instance [h:Qt s0 s](vt:VoteT):Qt s0 (iI K s vt):=vE λ_ _=>inferInstance
instance [h:Qt s0 s](f:Int)(m:MsgT):Qt s0 (od K f m s):=by
 unfold od;split
 · exact h
 · split<;>exact inferInstance
instance [Qt s0 s](w:Int)(m:MsgT):Qt s0 (mS K s w m):=sU (λ_ _=>inferInstance) w m
instance [h:Qt s0 s](w:Int)(m:MsgT)(a:AccT):Qt s0 (jV K w m a s):=by unfold jV;exact qz inferInstance _ _
instance [h:Qt s0 s](w:Int)(m:MsgT):Qt s0 (m8 K w m s):=by
 unfold m8
 repeat' split
 all_goals exact inferInstance
instance [Qt s0 s](w:Int)(m:MsgT):Qt s0 (nH K s w m):=sU (λ_ _=>inferInstance) w m
instance [h:Qt s0 s](vt:VoteT):Qt s0 (jF K s vt):=vE λ_ _=>inferInstance
instance [h:Qt s0 s](vt:VoteT):Qt s0 (lH K s vt):=by unfold lH;split<;>exact inferInstance
instance [h:Qt s0 s](c:ChangeT):Qt s0 (mW K s c):=by unfold mW;exact inferInstance
instance [h:Qt s0 s](c:ChangeT):Qt s0 (bN K s c).1:=by
 unfold bN
 repeat' split
 all_goals exact inferInstance
instance [h:Qt s0 s]:Qt s0 (bO K s):=by unfold bO;split<;>exact inferInstance
instance [h:Qt s0 s]:Qt s0 (ca K s):=by unfold ca;split<;>exact inferInstance
instance [h:Qt s0 s]:Qt s0 (fx K s):=by unfold fx;split<;>exact inferInstance
instance [h:Qt s0 s]:Qt s0 (pS K s):=by
 unfold pS;split
 · exact h
 · repeat' split
   all_goals exact inferInstance
instance [h:Qt s0 s]:Qt s0 (gS K s):=by unfold gS;split<;>exact inferInstance
structure Rp(s0 s:MS δ)(l:List ReplyT):Prop where
 id:s.id=s0.id
 replies:s.replies=s0.replies++l
 o: ∃l,s.o=s0.o++l∧∀x∈l,0≤x.msg.kind∧x.msg.kind≤9
theorem Qt.rp(h:Qt s0 s):Rp s0 s []:=⟨h.id,by rw[h.replies,aY],h.o⟩
theorem Rp.then{l:List ReplyT}{t:MS δ}(h:Rp s0 s l)(g:Qt s t):Rp s0 t l:=by
 obtain⟨l1,e,hl⟩:=h.o;obtain⟨l2,e2,hl2⟩:=g.o;exact⟨g.id.trans h.id,g.replies.trans h.replies,l1++l2,by rw[e2,e,aG],λx hx=>(fq.1 hx).elim (hl x) (hl2 x)⟩
theorem Js(s:MS δ)(f:Int)(m:MsgT):Qt s (dq K s f m)∨(0<s.waits∧Rp s (dq K s f m) [⟨s.waits,0,0⟩]∧(dq K s f m).waits=0∧(dq K s f m).ops=s.ops):=by
 unfold dq;split
 · split
   · by_cases hw:0<s.waits
     · right
       have e:lx (gR (keptM s f))= {du (gR (keptM s f)) s.waits 0 0 with waits:=0}:=zv (s:=gR (keptM s f)) hw;have q:Qt (lx (gR (keptM s f))) (kH K (keptM s f)):=by unfold kH;exact inferInstance
       have hw0:(lx (gR (keptM s f))).waits=0:=by rw[e]
       refine⟨hw,Rp.then (s:=lx (gR (keptM s f))) ?_ q,(q.waits.elim (·.trans hw0) id),q.ops.trans (by rw[e];rfl)⟩;rw[e];exact⟨rfl,rfl,[],(aY _).symm,λ_ h=>by cases h⟩
     · left
       unfold kH;rw[zw (s:=gR (keptM s f)) hw];exact inferInstance
   · left;exact inferInstance
 · left;exact inferInstance
theorem LH(s:MS δ)(f:Int)(m:MsgT):Qt s (fK K s f m)∨(0<s.waits∧Rp s (fK K s f m) [⟨s.waits,0,0⟩]∧(fK K s f m).waits=0∧(fK K s f m).ops=s.ops):=by
 unfold fK
 by_cases h1:m.kind=1
 · rw[if_neg (by omega),if_pos h1];exact Js s f m
 · left
   rw[if_neg h1]
   repeat' split
   all_goals exact inferInstance
theorem Mt(s:MS δ)(x:RowT)(op:Int):((dF K s x op).2≠0∧Qt s (dF K s x op).1)∨((dF K s x op).2=0∧Rp s (dF K s x op).1 []∧(dF K s x op).1.waits=op∧(dF K s x op).1.ops=s.ops):=by
 unfold dF;split
 · rename_i h;exact .inl ⟨h,inferInstance⟩
 · right
   have q:Qt (pW (dO K s (gW x)) x op) (eU K (pW (dO K s (gW x)) x op)):=inferInstance;refine⟨rfl,Rp.then (s:=pW (dO K s (gW x)) x op) ⟨rfl,(aY _).symm,[],(aY _).symm,λ_ h=>by cases h⟩ q,?_,q.ops⟩;show(eU K _).waits=_;rfl
theorem IP(s:MS δ)(o:OpT):(∃e v,Rp s (bI K s o).1 [⟨fw (s.ops+1),e,v⟩]∧(bI K s o).2=e∧(bI K s o).1.ops=fw (s.ops+1)∧((bI K s o).1.waits=s.waits∨(bI K s o).1.waits=0))∨(Rp s (bI K s o).1 []∧(bI K s o).2=0∧(bI K s o).1.ops=fw (s.ops+1)∧(bI K s o).1.waits=fw (s.ops+1)):=by
 have e0:Rp s (opsS s) []:=⟨rfl,(aY _).symm,[],(aY _).symm,λ_ h=>by cases h⟩
 have rep: ∀(t:MS δ) (op e v:Int),Qt (opsS s) t→op=fw (s.ops+1)→Rp s (du t op e v) [⟨fw (s.ops+1),e,v⟩]∧(du t op e v).ops=fw (s.ops+1)∧((du t op e v).waits=s.waits∨(du t op e v).waits=0):=λt op e v h ho=>by
  subst ho;obtain⟨l,e1,hl⟩:=h.o;exact⟨⟨h.id,by show t.replies++_=_;rw[h.replies];rfl,l,e1,hl⟩,h.ops,h.waits⟩
 unfold bI;split
 · left
   unfold dr;split
   · obtain⟨a,b,c⟩:=rep (opsS s) _ (fp (opsS s) o.change) 0 inferInstance rfl
     exact⟨_,_,a,rfl,b,c⟩
   · split
     · obtain⟨a,b,c⟩:=rep (bN K (opsS s) o.change).1 _ (bN K (opsS s) o.change).2 0 inferInstance rfl
       exact⟨_,_,a,rfl,b,c⟩
     · obtain⟨a,b,c⟩:=rep (bN K (opsS s) o.change).1 _ 0 0 inferInstance rfl
       have q:Qt (du (bN K (opsS s) o.change).1 (opsS s).ops 0 0) (lH K (du (bN K (opsS s) o.change).1 (opsS s).ops 0 0) (jr (opsS s).view (cZ (opsS s)) o.change)):=inferInstance;exact⟨_,_,a.then q,rfl,q.ops.trans b,q.waits.elim (λw=>c.imp (w.trans ·) (w.trans ·)) .inr⟩
 · unfold lv
   split
   · left
     obtain⟨a,b,c⟩:=rep (opsS s) _ (cF (opsS s) o).2.2 (cF (opsS s) o).2.1 inferInstance rfl;exact⟨_,_,a,rfl,b,c⟩
   · rcases Mt (K:=K) (opsS s) (cF (opsS s) o).1 (opsS s).ops with⟨h,q⟩| ⟨h,q,hw,ho⟩
     · rw[if_pos h]
       left;obtain⟨a,b,c⟩:=rep _ _ (dF K (opsS s) (cF (opsS s) o).1 (opsS s).ops).2 0 q rfl;exact⟨_,_,a,rfl,b,c⟩
     · rw[if_neg (by omega)]
       right;obtain⟨l,e1,hl⟩:=q.o;exact⟨⟨q.id,q.replies,l,e1,hl⟩,rfl,ho,hw⟩
end
def Slot.pend(x:Slot):Nat:=match x.run with
 |some s=>if 0<s.waits then 1 else 0
 |none=>0
structure SlotOk(i n:Nat)(x:Slot):Prop where
 run: ∀s,x.run=some s→OkR KD s∧s.id=((i:Nat):Int)∧s.o=[]
 D:x.run=none→DkOk x.D
 reps:x.reps.length+x.pend≤n
structure CLOk(n:Nat)(a:CL):Prop where
 ms:a.ms.length=5
 W:a.W.length=25
 at': ∀i,i<5→SlotOk i n (a.at' i)
 way: ∀k,(a.W.getD k []).length≤8∧∀m∈a.W.getD k [],0< (cY m).length
structure OkOp(o:OpT):Prop where
 change:OkCh o.change
 n:o.n≤9223372036854775807
theorem SlotOk.dk{i n:Nat}{x:Slot}(h:SlotOk i n x):DkOk x.dk:=by
 unfold Slot.dk;split
 · rename_i s q;exact(h.run s q).1.e.dk
 · rename_i q;exact h.D q
theorem SlotOk.more{i n k:Nat}{x:Slot}(h:SlotOk i n x)(hk:n≤k):SlotOk i k x:=⟨h.run,h.D,jZ h.reps hk⟩
theorem CLOk.more{n k:Nat}{a:CL}(h:CLOk n a)(hk:n≤k):CLOk k a:=⟨h.ms,h.W,λi hi=>(h.at' i hi).more hk,h.way⟩
theorem vk{ms:List Slot}{W:List (List MsgT)}{i:Nat}{x:Slot}(h:i<ms.length):(CL.mk (ms.set i x) W).at' i=x:=by
 unfold CL.at';rw[List.getD_eq_getElem?_getD,List.getElem?_set_self h];rfl
theorem we{ms:List Slot}{W:List (List MsgT)}{i j:Nat}{x:Slot}(h:j≠i):(CL.mk (ms.set i x) W).at' j=ms.getD j .nil:=by
 unfold CL.at';rw[List.getD_eq_getElem?_getD,List.getElem?_set_ne (λe=>h e.symm),←List.getD_eq_getElem?_getD]
theorem CLOk.put{n k i:Nat}{a:CL}(h:CLOk n a)(hk:n≤k)(hi:i<5){x:Slot}(hx:SlotOk i k x){W:List (List MsgT)}(hW:W.length=25)(hw: ∀k,(W.getD k []).length≤8∧∀m∈W.getD k [],0< (cY m).length):CLOk k ⟨a.ms.set i x,W⟩:=
 ⟨by show(a.ms.set i x).length=5;rw[fu];exact h.ms,hW,λj hj=>by
  by_cases q:j=i
  · subst q;rw[vk (by rw[h.ms];exact hi)];exact hx
  · rw[we q];exact(h.at' j hj).more hk,hw⟩
theorem L7{W:List (List MsgT)}(hw: ∀k,(W.getD k []).length≤8∧∀m∈W.getD k [],0< (cY m).length)(f:Nat)(s:SaidT)(hs:0< (cY s.msg).length): ∀k,((qD W f s).getD k []).length≤8∧∀m∈(qD W f s).getD k [],0< (cY m).length:=λk=>by
 unfold qD;split
 · by_cases q:k=bE ((f:Nat):Int) s.to'
   · subst q
     by_cases hl:bE ((f:Nat):Int) s.to'<W.length
     · rw[List.getD_eq_getElem?_getD,List.getElem?_set_self hl]
       obtain⟨h1,h2⟩:=hw (bE ((f:Nat):Int) s.to');simp only[Option.getD_some];split
       · refine⟨by rw[ag,gZ];omega,λm hm=>?_⟩
         rcases fq.1 hm with hm|hm
         · exact h2 m hm
         · rw[g9]at hm;subst hm;exact hs
       · exact⟨h1,h2⟩
     · rw[Rq (by omega)];exact hw _
   · rw[List.getD_eq_getElem?_getD,List.getElem?_set_ne (λe=>q e.symm),←List.getD_eq_getElem?_getD];exact hw k
 · exact hw k
theorem C5(f:Nat): ∀(l:List SaidT) {W:List (List MsgT)},(∀x∈l,0< (cY x.msg).length)→(∀k,(W.getD k []).length≤8∧∀m∈W.getD k [],0< (cY m).length)→∀k,((gT W f l).getD k []).length≤8∧∀m∈(gT W f l).getD k [],0< (cY m).length
 | [],_,_,hw=>hw
 |s::l,W,hl,hw=>C5 f l (W:=qD W f s) (λx hx=>hl x (List.mem_cons_of_mem _ hx)) (L7 hw f s (hl s (oh ..)))
theorem qC(W:List (List MsgT))(f:Nat)(s:SaidT):(qD W f s).length=W.length:=by unfold qD;split<;>simp
theorem nb(f:Nat): ∀(l:List SaidT) (W:List (List MsgT)),(gT W f l).length=W.length
 | [],_=>rfl
 |s::l,W=>(nb f l _).trans (qC W f s)
theorem Ms{s:MS LD}(h:OkR KD s):OkR KD s.hush:=⟨h.e,h.id,h.view,h.own,h.mir,h.book,h.last,h.acc,h.vote⟩
def owe(s:MS LD):Nat:=if 0<s.waits then 1 else 0
theorem CLOk.did{n i k:Nat}{a:CL}(h:CLOk n a)(hk:n≤k)(hi:i<5){s s':MS LD}(hs:(a.at' i).run=some s)(h':OkR KD s'){l:List ReplyT}(r:Rp s s' l)(hl:l.length+owe s'+n≤k+owe s):CLOk k (a.did i s'):=by
 obtain⟨h1,h2,h3⟩:=(h.at' i hi).run s hs;obtain⟨lo,e,hlo⟩:=r.o;rw[h3,ba]at e;refine h.put hk hi ⟨λt q=>?_,(λq=>by cases q),?_⟩ (by rw[nb];exact h.W) (C5 i _ (λx hx=>N4 (hlo x (by rw[←e];exact hx))) h.way)
 · obtain rfl:=bJ q
   exact⟨Ms h',r.id.trans h2,rfl⟩
 · have:=(h.at' i hi).reps
   unfold Slot.reps Slot.pend at this ⊢;rw[hs]at this;show((a.at' i).past++s'.replies).length+(if 0<s'.waits then 1 else 0)≤k;rw[r.replies];unfold owe at hl;simp only[ag]at this ⊢;omega
theorem Qt.owe{s s':MS LD}(q:Qt s s'):Api.owe s'≤Api.owe s:=by
 unfold Api.owe;rcases q.waits with e|e
 · rw[e];exact aK _
 · rw[e];exact aO _
theorem OK(s:MS LD):owe s≤1:=by unfold owe;split<;>omega
theorem CLOk.quiet{n i:Nat}{a:CL}(h:CLOk n a)(hi:i<5){s s':MS LD}(hs:(a.at' i).run=some s)(h':OkR KD s')(q:Qt s s'):CLOk n (a.did i s'):=
 h.did (aK _) hi hs h' q.rp (by have:=q.owe;show 0+_+n≤_;omega)
theorem CLOk.onway{n k:Nat}{a:CL}(h:CLOk n a){l:List MsgT}(hl:l.length≤8∧∀m∈l,0< (cY m).length):CLOk n (a.way k l):=
 ⟨h.ms,by show(a.W.set k l).length=25;rw[fu];exact h.W,h.at',λj=>by
  show((a.W.set k l).getD j []).length≤8∧_
  by_cases q:j=k
  · subst q
    by_cases hk:j<a.W.length
    · show((a.W.set j l).getD j []).length≤8∧∀m∈(a.W.set j l).getD j [],_
      rw[List.getD_eq_getElem?_getD,List.getElem?_set_self hk];exact hl
    · show((a.W.set j l).getD j []).length≤8∧∀m∈(a.W.set j l).getD j [],_
      rw[Rq (by omega)];exact h.way j
  · show((a.W.set k l).getD j []).length≤8∧∀m∈(a.W.set k l).getD j [],_
    rw[List.getD_eq_getElem?_getD,List.getElem?_set_ne (λe=>q e.symm),←List.getD_eq_getElem?_getD];exact h.way j⟩
theorem mB{w:Int}(h:hO w=true):w.toNat<5∧((w.toNat:Nat):Int)=w:=by
 have:0≤w∧w<5:=of_decide_eq_true h;omega
theorem MB{n f t:Nat}{a:CL}(h:CLOk n a)(ht:t<5)(m:MsgT):CLOk n (o8 a f t m).1:=by
 unfold o8;split
 · exact h
 · rename_i s hs
   split
   · exact h
   · split
     · obtain⟨h1,_,_⟩:=(h.at' t ht).run s hs
       have hm:=G3 (cY m);rcases LH (K:=KD) s ((f:Nat):Int) (ju (cY m)).1 with q| ⟨hw,q,q2,_⟩
       · exact h.quiet ht hs inferInstance q
       · refine h.did (aK _) ht hs inferInstance q ?_
         unfold owe;rw[q2,if_pos hw];show 1+(if(0:Int)<0 then 1 else 0)+n≤n+1;rw[if_neg (by omega)];omega
     · exact h
theorem Nt{n:Nat}{a:CL}(h:CLOk n a)(o:OpT):CLOk n (oc a o).1:=by
 unfold oc;split
 · exact h
 · rename_i hv
   have hv:dy o.at' o.to'=true:=by simpa using hv
   have hw:=h.way (bE o.at' o.to');split
   · exact h
   · rename_i m l hl
     rw[hl]at hw;split
     · split
       · refine h.onway ⟨?_,λx hx=>?_⟩
         · rename_i q
           unfold I6 at q;have q:=of_decide_eq_true q;unfold EH;rw[if_pos q,ag,gZ];omega
         · unfold EH at hx
           split at hx
           · rcases fq.1 hx with hx|hx
             · exact hw.2 x hx
             · rw[g9]at hx;subst hx;exact hw.2 _ (oh ..)
           · exact hw.2 x hx
       · exact h
     · split
       · exact h
       · rename_i m2 l2 hl2
         have hlen:=kV (max o.n 0% ((m::l).length:Int)).toNat (m::l);have hmem:=λx=>(pm (x:=x) (max o.n 0% ((m::l).length:Int)).toNat (m::l)).1
         rw[hl2]at hlen hmem;have g:CLOk n (a.way (bE o.at' o.to') l2):=h.onway ⟨by simp only[av]at hlen hw;omega,λx hx=>hw.2 x (hmem x (List.mem_cons_of_mem _ hx))⟩
         have ht:o.to'.toNat<5:=by
          unfold dy at hv;rw[ao,ao]at hv;exact(mB hv.1.2).1
         split
         · exact g
         · exact MB g ht m2
theorem Cv{n i:Nat}(hi:i<5){x:Slot}(h:SlotOk i n x):SlotOk i n (jC i x).1:=by
 unfold jC;split
 · exact h
 · rename_i hr
   have hD:=h.D hr;refine⟨λs q=>?_,λ_=>hD.open.1,?_⟩
   · obtain⟨h1,f⟩:=zC hi hD q
     exact⟨h1,f.id,f.o⟩
   · have:=h.reps
     unfold Slot.reps Slot.pend at this ⊢;rw[hr,aY]at this;show(x.past++match(dY i x.D).1 with|some s=>s.replies|none=>[]).length+(match(dY i x.D).1 with|some s=>if 0<s.waits then 1 else 0|none=>0)≤n;cases q:(dY i x.D).1 with
     |some s=>
      have f:=(zC hi hD q).2;simp only[f.replies,f.waits,aY]
      simpa using this
     |none=>simpa using this
theorem Ob{n i:Nat}{x:Slot}(h:SlotOk i n x){k:Int}(hk:k≤9223372036854775807):SlotOk i n (zb x k):=by
 unfold zb;split
 · rename_i s hs
   obtain⟨h1,h2,h3⟩:=h.run s hs;refine⟨λt q=>?_,(λq=>by cases q),?_⟩
   · obtain rfl:=bJ q
     exact⟨⟨⟨h1.e.dk.arm k hk,h1.e.used,h1.e.cnt⟩,h1.id,h1.view,h1.own,h1.mir,h1.book,h1.last,h1.acc,h1.vote⟩,h2,h3⟩
   · have:=h.reps
     unfold Slot.reps Slot.pend at this ⊢;rw[hs]at this;exact this
 · rename_i hr
   refine⟨λt q=>?_,λ_=>(h.D hr).arm k hk,?_⟩
   · rw[show x.run=some t from q]at hr;cases hr
   · have:=h.reps
     unfold Slot.reps Slot.pend at this ⊢;rw[hr]at this;simp only[hr];exact this
theorem crash_ok{n i:Nat}{x:Slot}(h:SlotOk i n x)(mask torn cut:Int):SlotOk i n (oJ x mask torn cut):=
 ⟨(λt q=>by cases q),λ_=>h.dk.crash mask torn cut,by
  have:=h.reps;show(x.reps++[]).length+0≤n
  rw[aY];omega⟩
theorem FX{n:Nat}{a:CL}(h:CLOk n a){o:OpT}(ho:OkOp o)(hk: ¬(0≤o.kind∧o.kind≤4)):CLOk n (oN a o).1:=by
 unfold oN;split
 · exact h
 rename_i hm;have hm:hO o.at'=true:=by simpa using hm
 have hi:=(mB hm).1;split
 · exact Nt h o
 split
 · unfold Ck
   split
   · exact h
   · rename_i s hs
     split
     · exact h
     · obtain⟨h1,_,_⟩:=(h.at' _ hi).run s hs
       exact h.quiet hi hs inferInstance inferInstance
 split
 · exact h.put (aK _) hi (Ob (h.at' _ hi) ho.n) h.W h.way
 split
 · exact h.put (aK _) hi (crash_ok (h.at' _ hi) _ _ _) h.W h.way
 split
 · exact h.put (aK _) hi (Cv hi (h.at' _ hi)) h.W h.way
 · exact h
theorem vX{n:Nat}{a:CL}(h:CLOk n a){o:OpT}(ho:OkOp o):CLOk (n+1) (oN a o).1:=by
 by_cases hk:0≤o.kind∧o.kind≤4
 · unfold oN
   split
   · exact h.more (by omega)
   rename_i hm;have hm:hO o.at'=true:=by simpa using hm
   have hi:=(mB hm).1;unfold yl;split
   · exact h.more (by omega)
   · rename_i s hs
     split
     · exact h.more (by omega)
     · obtain⟨h1,_,_⟩:=(h.at' _ hi).run s hs
       have:=ho.change;rcases IP (K:=KD) s o with⟨e,v,q,_,_,w⟩| ⟨q,_⟩
       · refine h.did (by omega) hi hs inferInstance q ?_
         have:owe (bI KD s o).1≤owe s:=by
          unfold owe;rcases w with e|e
          · rw[e];exact aK _
          · rw[e];exact aO _
         show 1+_+n≤_;omega
       · refine h.did (by omega) hi hs inferInstance q ?_
         have:=OK (bI KD s o).1;show 0+_+n≤_;omega
 · exact(FX h ho hk).more (by omega)
theorem new_ok:CLOk 0 CL.new:=by
 refine⟨by simp[CL.new],by simp[CL.new],λi hi=>?_,λk=>?_⟩
 · have e:CL.new.at' i=pC i:=by simp[CL.new,CL.at',List.getD_eq_getElem?_getD,hi]
   rw[e];exact Cv hi ⟨(λs q=>by cases q),λ_=>DkOk.new,aK _⟩
 · have e:CL.new.W.getD k []=[]:=by
    show(List.replicate 25 ([]:List MsgT)).getD k []=[];rw[List.getD_eq_getElem?_getD,List.getElem?_replicate];split<;>rfl
   rw[e];exact⟨aO _,λm hm=>by cases hm⟩
end Api
end

section
namespace Go.Proofs.YtkhjnolhhidecaaGreatDoor
open Go Leg Codec Api Dsk Wal
theorem zU{f:Nat→HP}{k i:Nat}(hi:i<k){H:List HP}{h:Hl}(s:bR (bR ((List.range k).map f)::H) h):bR (f i::bR (((List.range k).map f).eraseIdx i)::H) h:=by
 have s1:bR ((List.range k).map f++H) h:=(ci _ _).2 s;have e:((List.range k).map f).getD i (λ_=>True)=f i:=by simp[List.getD_eq_getElem?_getD,hi]
 have p:=nN (λ_=>True) ((List.range k).map f) i (by simpa using hi);rw[e]at p;exact cR (eI (p.append_right H) s1) (λ_ a=>a) λ_ b=>(ci _ _).1 b
theorem zT{f g:Nat→HP}{k i:Nat}(hi:i<k)(hg: ∀j,j≠i→g j=f j){H:List HP}{h:Hl}(s:bR (g i::bR (((List.range k).map f).eraseIdx i)::H) h):bR (bR ((List.range k).map g)::H) h:=by
 have e0:((List.range k).map g).eraseIdx i=((List.range k).map f).eraseIdx i:=by
  refine List.ext_getElem? λj=>?_
  rw[List.getElem?_eraseIdx,List.getElem?_eraseIdx]
  have: ∀m,m≠i→((List.range k).map g)[m]?=((List.range k).map f)[m]?:=λm hm=>by
   rw[List.getElem?_map,List.getElem?_map]
   by_cases hk:m<k
   · simp[hk,hg m hm]
   · simp[hk]
  split
  · exact this j (by omega)
  · exact this (j+1) (by omega)
 have e:((List.range k).map g).getD i (λ_=>True)=g i:=by simp[List.getD_eq_getElem?_getD,hi]
 have p:=nN (λ_=>True) ((List.range k).map g) i (by simpa using hi);rw[e,e0]at p;have s2:bR ((g i::((List.range k).map f).eraseIdx i)++H) h:=cR s (λ_ a=>a) λ_ b=>(ci _ _).2 b
 exact(ci _ _).1 (eI (p.symm.append_right H) s2)
section
variable {f:FuncId} {args:Array Value} {Q:Value→Prop} {c i:Nat} {a a':CL}
theorem BJ(hi:i<5){Z:Value→CL→Prop}(hne: ∀v a',Z v a'→∀j,j≠i→a'.at' j=a.at' j)
 (core: ∀g:CX,DT f args T0 (aj c (fc g.n (nl g) (kF a g.r) g.p) 56::eQ 106 169 5 g.n (c9 a.W)::lD (a.at' i) (g.d i) (g.r i) (g.p i))
  (dD λv H=>∃a',Z v a'∧∃g':CX,g'.n=g.n∧(∀j,j≠i→g'.d j=g.d j∧g'.r j=g.r j∧g'.p j=g.p j)∧H=aj c (fc g.n (nl g') (kF a' g'.r) g'.p) 56::eQ 106 169 5 g.n (c9 a'.W)::lD (a'.at' i) (g'.d i) (g'.r i) (g'.p i))):
 DT f args T0 [gf c a] (dD λv H=>∃a',Z v a'∧H=[gf c a']):=by
 refine Leg.Does.ex (A':=λg:CX=>(aj c (fc g.n (nl g) (kF a g.r) g.p) 56::eQ 106 169 5 g.n (c9 a.W)::lD (a.at' i) (g.d i) (g.r i) (g.p i))++[bR (((List.range 5).map λi=>lE (a.at' i) (g.d i) (g.r i) (g.p i)).eraseIdx i)]) (λh s=>?_) λg=>?_
 · obtain⟨g,s⟩:=fF s
   have s2:=zU (f:=λi=>lE (a.at' i) (g.d i) (g.r i) (g.p i)) hi (aD [2,0,0] rfl s);have s3:=(ci (lD (a.at' i) (g.d i) (g.r i) (g.p i)) _).2 s2;exact⟨g,aD [4,4,0,0,0,0] rfl s3⟩
 · refine Leg.Does.withinR (core g) (λ_ _ _ _=>trivial) (λh s=>s) λv H hp=>?_
   obtain⟨a',hz,g',hn,hg,rfl⟩:=hp;refine⟨[gf c a'],λh s=>?_,a',hz,rfl⟩;have s1:=aD [2,2,2,2,0,0] rfl s;have s2:=(ci (lD (a'.at' i) (g'.d i) (g'.r i) (g'.p i)) _).1 s1
   have s3:=zT (f:=λi=>lE (a.at' i) (g.d i) (g.r i) (g.p i)) (g:=λi=>lE (a'.at' i) (g'.d i) (g'.r i) (g'.p i)) hi (λj hj=>by
    obtain⟨h1,h2,h3⟩:=hg j hj
    rw[hne v a' hz j hj,h1,h2,h3]) s2
   refine bw (p:=qR c a') g' ?_;rw[←hn]at s3;exact aD [1,1,0] rfl s3
theorem xV(hne: ∀j,j≠i→a'.at' j=a.at' j)(r:Nat→Nat)(hi:yZ (a'.at' i) (r i)=yZ (a.at' i) (r i)):kF a' r=kF a r:=funext λj=>by
 by_cases q:j=i
 · subst q;exact hi
 · show yZ (a'.at' j) (r j)=yZ (a.at' j) (r j)
   rw[hne j q]
theorem F7(hl:a.ms.length=5)(hi:i<5){s:MS LD}(hs:(a.at' i).run=some s){R:Value→MS LD→List (List MsgT)→Prop}
 (core: ∀g:CX,kF a g.r i= .pointer (some ⟨g.r i,0,none⟩)→DT f args T0 [aj c (fc g.n (nl g) (kF a g.r) g.p) 56,dk (g.d i) s.e.D,eQ 106 169 5 g.n (c9 a.W),gk s (g.d i) (g.r i)]
  (dD λv H=>∃s' W',R v s' W'∧H=[aj c (fc g.n (nl g) (kF a g.r) g.p) 56,dk (g.d i) s'.e.D,eQ 106 169 5 g.n (c9 W'),gk s' (g.d i) (g.r i)])):
 DT f args T0 [gf c a] (dD λv H=>∃a',(∃s' W',R v s' W'∧a'=⟨a.ms.set i {a.at' i with run:=some s'},W'⟩)∧H=[gf c a']):=by
 refine BJ hi (λv a' hz j hj=>?_) λg=>?_
 · obtain⟨s',W',_,rfl⟩:=hz
   exact we hj
 · have em:kF a g.r i= .pointer (some ⟨g.r i,0,none⟩):=by show yZ (a.at' i) _=_;unfold yZ;rw[hs]
   have e1:rA (a.at' i) (g.d i) (g.r i)=gk s (g.d i) (g.r i):=by unfold rA;rw[hs]
   have e2:(a.at' i).dk=s.e.D:=by unfold Slot.dk;rw[hs]
   refine Leg.Does.withinR (B:=[lS (g.p i) (a.at' i).past]) (core g em) (λ_ _ _ _=>trivial) (λh q=>?_) λv H hp=>?_
   · unfold lD at q
     rw[e1,e2]at q;exact aD [0,1,0,1,0] rfl q
   · obtain⟨s',W',hR,rfl⟩:=hp
     have ea:(CL.mk (a.ms.set i {a.at' i with run:=some s'}) W').at' i= {a.at' i with run:=some s'}:=vk (by rw[hl];exact hi);have hm:kF ⟨a.ms.set i {a.at' i with run:=some s'},W'⟩ g.r=kF a g.r:=xV (λj hj=>we hj) g.r (by rw[ea];unfold yZ;rw[hs]);refine⟨_,λh q=>?_,_,⟨s',W',hR,rfl⟩,g,rfl,λ_ _=>⟨rfl,rfl,rfl⟩,rfl⟩;rw[hm,ea];exact aD [0,1,0,1,0] rfl q
theorem BI(core: ∀g:CX,DT f args T0 [aj c (fc g.n (nl g) (kF a g.r) g.p) 56] (dD λv H=>Q v∧H=[aj c (fc g.n (nl g) (kF a g.r) g.p) 56])):
 DT f args T0 [gf c a] (dD λv H=>Q v∧H=[gf c a]):=by
 refine Leg.Does.ex (A':=λg:CX=>[aj c (fc g.n (nl g) (kF a g.r) g.p) 56]++[eQ 106 169 5 g.n (c9 a.W),bR ((List.range 5).map λi=>lE (a.at' i) (g.d i) (g.r i) (g.p i))]) (λh s=>fF s) λg=>?_
 refine Leg.Does.withinR (core g) (λ_ _ _ _=>trivial) (λh s=>s) λv H hp=>?_
 obtain⟨hQ,rfl⟩:=hp;exact⟨[gf c a],λh s=>bw (p:=qR c a) g s,hQ,rfl⟩
theorem KM{R:Value→List (List MsgT)→Prop}(core: ∀g:CX,DT f args T0 [aj c (fc g.n (nl g) (kF a g.r) g.p) 56,eQ 106 169 5 g.n (c9 a.W)] (dD λv H=>∃W',R v W'∧H=[aj c (fc g.n (nl g) (kF a g.r) g.p) 56,eQ 106 169 5 g.n (c9 W')])):
 DT f args T0 [gf c a] (dD λv H=>∃W',R v W'∧H=[gf c ⟨a.ms,W'⟩]):=by
 refine Leg.Does.ex (A':=λg:CX=>[aj c (fc g.n (nl g) (kF a g.r) g.p) 56,eQ 106 169 5 g.n (c9 a.W)]++[bR ((List.range 5).map λi=>lE (a.at' i) (g.d i) (g.r i) (g.p i))]) (λh s=>fF s) λg=>?_
 refine Leg.Does.withinR (core g) (λ_ _ _ _=>trivial) (λh s=>s) λv H hp=>?_
 obtain⟨W',hR,rfl⟩:=hp;exact⟨[gf c ⟨a.ms,W'⟩],λh s=>bw (p:=qR c ⟨a.ms,W'⟩) g s,W',hR,rfl⟩
theorem Mx(hl:a.ms.length=5)(hi:i<5){x:Slot}(hm: ∀r,yZ x r=yZ (a.at' i) r)(hr: ∀d r,rA x d r=rA (a.at' i) d r)(hp:x.past=(a.at' i).past)
 (core: ∀g:CX,DT f args T0 [aj c (fc g.n (nl g) (kF a g.r) g.p) 56,dk (g.d i) (a.at' i).dk] (dD λv H=>Q v∧H=[aj c (fc g.n (nl g) (kF a g.r) g.p) 56,dk (g.d i) x.dk])):
 DT f args T0 [gf c a] (dD λv H=>∃a',(Q v∧a'=a.set i x)∧H=[gf c a']):=by
 have ea:(a.set i x).at' i=x:=vk (by rw[hl];exact hi);refine BJ hi (λv a' hz j hj=>by rw[hz.2];exact we hj) λg=>?_
 refine Leg.Does.withinR (B:=[eQ 106 169 5 g.n (c9 a.W),lS (g.p i) (a.at' i).past,rA (a.at' i) (g.d i) (g.r i)]) (core g) (λ_ _ _ _=>trivial) (λh q=>aD [0,1,0,0,0] rfl q) λv H hq=>?_
 obtain⟨hQ,rfl⟩:=hq;have hmm:kF (a.set i x) g.r=kF a g.r:=xV (λj hj=>we hj) g.r (by rw[show(CL.mk (a.ms.set i x) a.W).at' i=x from ea];exact hm _);refine⟨_,λh q=>?_,_,⟨hQ,rfl⟩,g,rfl,λ_ _=>⟨rfl,rfl,rfl⟩,rfl⟩;rw[hmm,ea];unfold lD;rw[hp,hr];exact aD [0,1,0,0,0] rfl q
end
theorem mT{f:FuncId}{args:Array Value}{R:Hl→Prop}{A:List HP}{p q:Value→List HP→Prop}(d:DT f args R A (dD p))(k: ∀v H,p v H→q v H):DT f args R A (dD q):=
 Leg.Does.fold d λe H hp=>by
  cases e with
  |returned v=>exact⟨H,λ_ s=>s,k v H hp⟩
  |panicked c=>exact hp.elim
  |outgrown=>exact hp.elim
theorem xm{H:List HP}{h:Hl}(s:bR H h):bR ((λ_=>True)::H) h:=⟨em,h,EE h,(rS h).symm,trivial,s⟩
theorem xj{α:Type}{l:List α}{k:Nat}{d:α}(h:k<l.length):l.set k (l.getD k d)=l:=by
 refine List.ext_getElem? λj=>?_
 by_cases q:j=k
 · subst q;rw[List.getElem?_set_self h,List.getD_eq_getElem?_getD,List.getElem?_eq_getElem h];rfl
 · rw[List.getElem?_set_ne (λe=>q e.symm)]
section
variable {n c i:Nat} {a:CL} {o:OpT}
theorem C1(h:CLOk n a)(hi:i<5):a.set i (a.at' i)=a:=by
 show CL.mk (a.ms.set i (a.ms.getD i .nil)) a.W=a;rw[xj (by rw[h.ms];exact hi)]
theorem xx(h:CLOk n a)(hi:i<5){s:MS LD}(hs:(a.at' i).run=some s):(CL.mk (a.ms.set i {a.at' i with run:=some s}) a.W)=a:=by
 have e:({a.at' i with run:=some s}:Slot)=a.at' i:=by cases q:a.at' i with|mk r D p=>rw[q]at hs;simp only at hs;rw[hs]
 rw[e];exact C1 h hi
theorem pA{k:Int}(hk:o.kind=k)(hi:o.at'=((i:Nat):Int)):OpT.mk k ((i:Nat):Int) o.to' o.key o.n o.change o.mask o.torn o.cut=o:=by subst hk;rw[←hi]
theorem tJ{k:Int}{j:Nat}(hk:o.kind=k)(hi:o.at'=((i:Nat):Int))(hj:o.to'=((j:Nat):Int)):OpT.mk k ((i:Nat):Int) ((j:Nat):Int) o.key o.n o.change o.mask o.torn o.cut=o:=by subst hk;rw[←hi,←hj]
theorem tP{g:CX}{s:MS LD}(hs:(a.at' i).run=some s):kF a g.r i= .pointer (some ⟨g.r i,0,none⟩):=by show yZ (a.at' i) _=_;unfold yZ;rw[hs]
theorem nV{g:CX}(hs:(a.at' i).run=none):kF a g.r i= .pointer none:=by show yZ (a.at' i) _=_;unfold yZ;rw[hs]
theorem GW{a':CL}{r r':Nat→Nat}{v:Value}(hne: ∀j,j≠i→a'.at' j=a.at' j)(hr: ∀j,j≠i→r' j=r j)(hv:yZ (a'.at' i) (r' i)=v):kF a' r'=oq (kF a r) i v:=funext λj=>by
 by_cases q:j=i
 · subst q;rw[mg];exact hv
 · rw[qp _ _ q]
   show yZ (a'.at' j) (r' j)=yZ (a.at' j) (r j);rw[hne j q,hr j q]
theorem KQ(h:CLOk n a)(hn:n≤100000)(hi:i<5)(hat:o.at'=((i:Nat):Int))(hk:0≤o.kind∧o.kind≤4)(ho:OkOp o):DT 9 #[.pointer (some ⟨c,0,none⟩), .agg (ints o.flat).toArray] T0 [gf c a] (dD λv H=>v= .int .i64 (yl a i o).2∧H=[gf c (yl a i o).1]):=by
 have eo:=pA (o:=o) rfl hat;cases hr:(a.at' i).run with
 |none=>
  refine mT (BI (Q:=λv=>v= .int .i64 4) λg=>?_) λv H hp=>?_
  · have:=Ed c g.n i (nl g) (kF a g.r) g.p hi (nV hr) o o.kind hk
    rw[eo]at this;exact this
  · unfold yl;rw[hr];exact hp
 |some s=>
  obtain⟨hs,_,hso⟩:=(h.at' i hi).run s hr;have hrep:=(h.at' i hi).reps;unfold Slot.reps at hrep;rw[hr,ag]at hrep;simp only at hrep;refine mT (F7 h.ms hi hr (R:=λv s' W'=>(s.e.D.dn=true∧v= .int .i64 4∧s'=s∧W'=a.W)∨(s.e.D.dn=false∧v= .int .i64 (bI KD s o).2∧s'=(bI KD s o).1.hush∧W'=gT a.W i (bI KD s o).1.o)) λg em=>?_) λv H hp=>?_
  · have:=F4 c g.n i (nl g) (kF a g.r) g.p hi (g.d i) (g.r i) s rfl em a.W h.W hso hs o o.kind hk ho.change (by omega)
    rw[eo]at this;refine mT this λv H hp=>?_
    rcases hp with⟨hd,rfl,rfl⟩| ⟨hd,rfl,rfl⟩
    · exact⟨s,a.W, .inl ⟨hd,rfl,rfl,rfl⟩,rfl⟩
    · exact⟨_,_, .inr ⟨hd,rfl,rfl,rfl⟩,rfl⟩
  · obtain⟨a',⟨s',W',hR,rfl⟩,rfl⟩:=hp
    unfold yl;rw[hr];rcases hR with⟨hd,rfl,rfl,rfl⟩| ⟨hd,rfl,rfl,rfl⟩
    · simp only[hd,if_true];exact⟨by first|rfl|trivial,by rw[xx h hi hr]⟩
    · simp only[hd];exact⟨rfl,rfl⟩
theorem Jo(h:CLOk n a)(hi:i<5)(hat:o.at'=((i:Nat):Int))(hk:o.kind=8):DT 9 #[.pointer (some ⟨c,0,none⟩), .agg (ints o.flat).toArray] T0 [gf c a] (dD λv H=>v= .int .i64 (Ck a i).2∧H=[gf c (Ck a i).1]):=by
 have eo:=pA (o:=o) hk hat;cases hr:(a.at' i).run with
 |none=>
  refine mT (BI (Q:=λv=>v= .int .i64 4) λg=>?_) λv H hp=>?_
  · have:=Eb c g.n i (nl g) (kF a g.r) g.p hi (nV hr) o
    rw[eo]at this;exact this
  · unfold Ck;rw[hr];exact hp
 |some s=>
  obtain⟨hs,_,hso⟩:=(h.at' i hi).run s hr;refine mT (F7 h.ms hi hr (R:=λv s' W'=>(s.e.D.dn=true∧v= .int .i64 4∧s'=s∧W'=a.W)∨(s.e.D.dn=false∧v= .int .i64 0∧s'=(gS KD s).hush∧W'=gT a.W i (gS KD s).o)) λg em=>?_) λv H hp=>?_
  · have:=FZ c g.n i (nl g) (kF a g.r) g.p hi (g.d i) (g.r i) s rfl em a.W h.W hso hs o
    rw[eo]at this;refine mT this λv H hp=>?_
    rcases hp with⟨hd,rfl,rfl⟩| ⟨hd,rfl,rfl⟩
    · exact⟨s,a.W, .inl ⟨hd,rfl,rfl,rfl⟩,rfl⟩
    · exact⟨_,_, .inr ⟨hd,rfl,rfl,rfl⟩,rfl⟩
  · obtain⟨a',⟨s',W',hR,rfl⟩,rfl⟩:=hp
    unfold Ck;rw[hr];rcases hR with⟨hd,rfl,rfl,rfl⟩| ⟨hd,rfl,rfl,rfl⟩
    · simp only[hd,if_true];exact⟨by first|rfl|trivial,by rw[xx h hi hr]⟩
    · simp only[hd];exact⟨rfl,rfl⟩
theorem KY(h:CLOk n a)(hi:i<5)(hat:o.at'=((i:Nat):Int))(hk:o.kind=9):DT 9 #[.pointer (some ⟨c,0,none⟩), .agg (ints o.flat).toArray] T0 [gf c a] (dD λv H=>v= .int .i64 0∧H=[gf c (a.set i (zb (a.at' i) o.n))]):=by
 have eo:=pA (o:=o) hk hat
 have ed:(zb (a.at' i) o.n).dk=(a.at' i).dk.arm o.n:=by
  unfold zb Slot.dk;cases hr:(a.at' i).run with
  |none=>simp only[hr]
  |some s=>rfl
 refine mT (Mx (x:=zb (a.at' i) o.n) (Q:=λv=>v= .int .i64 0) h.ms hi (λr=>?_) (λd r=>?_) ?_ λg=>?_) λv H hp=>?_
 · unfold zb yZ
   cases hr:(a.at' i).run with
   |none=>simp only[hr]
   |some s=>rfl
 · unfold zb rA
   cases hr:(a.at' i).run with
   |none=>simp only[hr]
   |some s=>rfl
 · unfold zb;split<;>rfl
 · have:=F6 c g.n i (nl g) (kF a g.r) g.p hi (g.d i) rfl (a.at' i).dk o
   rw[eo]at this;rw[ed];exact this
 · obtain⟨a',⟨rfl,rfl⟩,rfl⟩:=hp
   exact⟨rfl,rfl⟩
theorem F9(h:CLOk n a)(hn:n≤100000)(hi:i<5)(hat:o.at'=((i:Nat):Int))(hk:o.kind=10):DT 9 #[.pointer (some ⟨c,0,none⟩), .agg (ints o.flat).toArray] T0 [gf c a] (dD λv H=>v= .int .i64 0∧H=[gf c (a.set i (oJ (a.at' i) o.mask o.torn o.cut))]):=by
 have eo:=pA (o:=o) hk hat;have so:=h.at' i hi;have hrep:=so.reps;unfold Slot.reps at hrep;rw[ag]at hrep;have ea:(a.set i (oJ (a.at' i) o.mask o.torn o.cut)).at' i=oJ (a.at' i) o.mask o.torn o.cut:=vk (by rw[h.ms];exact hi);have hne: ∀j,j≠i→(a.set i (oJ (a.at' i) o.mask o.torn o.cut)).at' j=a.at' j:=λj hj=>we hj
 refine mT (BJ (Z:=λv a'=>v= .int .i64 0∧a'=a.set i (oJ (a.at' i) o.mask o.torn o.cut)) hi (λv a' hz j hj=>by rw[hz.2];exact hne j hj) λg=>?_) λv H hp=>by obtain⟨_,⟨rfl,rfl⟩,rfl⟩:=hp;exact⟨rfl,rfl⟩
 have fin: ∀u,u.oneCell'=true→∀h,bR ([aj c (fc g.n (nl g) (oq (kF a g.r) i (.pointer none)) (oq g.p i u)) 56,dk (g.d i) ((a.at' i).dk.crash o.mask o.torn o.cut),lS u (a.at' i).reps]++[eQ 106 169 5 g.n (c9 a.W)]) h→
  bR (aj c (fc g.n (nl {g with p:=oq g.p i u}) (kF (a.set i (oJ (a.at' i) o.mask o.torn o.cut)) g.r) (oq g.p i u)) 56::eQ 106 169 5 g.n (c9 (a.set i (oJ (a.at' i) o.mask o.torn o.cut)).W)::lD ((a.set i (oJ (a.at' i) o.mask o.torn o.cut)).at' i) (g.d i) (g.r i) (oq g.p i u i)) h:=λu _ hh q=>by
  rw[GW (a:=a) (i:=i) (v:= .pointer none) (r:=g.r) hne (λ_ _=>rfl) (by rw[ea];rfl),ea,mg];have q2:=xm (aD [0,2,0,0] rfl q);exact aD [1,1,1,1,0] rfl q2
 cases hr:(a.at' i).run with
 |none=>
  have er:(a.at' i).reps=(a.at' i).past:=by unfold Slot.reps;rw[hr,aY]
  have:=F3 c g.n i (nl g) (kF a g.r) g.p hi (g.d i) rfl (nV hr) (a.at' i).past (by omega) (a.at' i).dk so.dk.ok o;rw[eo]at this;refine Leg.Does.withinR (B:=[eQ 106 169 5 g.n (c9 a.W)]) this (λ_ _ _ _=>trivial) (λhh q=>?_) λv H hp=>?_
  · exact ak [0,1,1,0] rfl q
  · obtain⟨u,hu,rfl,rfl⟩:=hp
    refine⟨_,λhh q=>fin u hu hh ?_,_,⟨rfl,rfl⟩,{g with p:=oq g.p i u},rfl,λj hj=>⟨rfl,rfl,qp _ _ hj⟩,rfl⟩;rw[er];exact q
 |some s=>
  rw[hr]at hrep;simp only at hrep;have er:(a.at' i).reps=(a.at' i).past++s.replies:=by unfold Slot.reps;rw[hr]
  have e1:rA (a.at' i) (g.d i) (g.r i)=gk s (g.d i) (g.r i):=by unfold rA;rw[hr]
  have:=F2 c g.n i (nl g) (kF a g.r) g.p hi (g.d i) rfl (g.r i) s (tP hr) (a.at' i).past (by omega) (by omega) (a.at' i).dk so.dk.ok o;rw[eo]at this;refine Leg.Does.withinR (B:=[eQ 106 169 5 g.n (c9 a.W)]) this (λ_ _ _ _=>trivial) (λhh q=>?_) λv H hp=>?_
  · unfold lD at q
    rw[e1]at q;exact aD [0,1,1,1,0] rfl q
  · obtain⟨u,hu,rfl,rfl⟩:=hp
    refine⟨_,λhh q=>fin u hu hh ?_,_,⟨rfl,rfl⟩,{g with p:=oq g.p i u},rfl,λj hj=>⟨rfl,rfl,qp _ _ hj⟩,rfl⟩;rw[er];exact q
end
section
variable {n c i:Nat} {a:CL} {o:OpT}
theorem Cz{i:Nat}{D:DS}{s:MS LD}(h:(dY i D).1=some s):(dY i D).2=0:=by
 obtain⟨h1,h2⟩:=vw h;unfold dY;rw[if_neg (by rw[h1];decide),h2]
theorem CA(h:CLOk n a)(hi:i<5)(hat:o.at'=((i:Nat):Int))(hk:o.kind=11):DT 9 #[.pointer (some ⟨c,0,none⟩), .agg (ints o.flat).toArray] T0 [gf c a] (dD λv H=>v= .int .i64 (jC i (a.at' i)).2∧H=[gf c (a.set i (jC i (a.at' i)).1)]):=by
 have eo:=pA (o:=o) hk hat;have so:=h.at' i hi;cases hr:(a.at' i).run with
 |some s=>
  have e:jC i (a.at' i)=(a.at' i,5):=by unfold jC;rw[hr]
  rw[e,show a.set i (a.at' i,(5:Int)).1=a from C1 h hi];refine BI (Q:=λv=>v= .int .i64 5) λg=>?_
  have:=F0 c g.n i (nl g) (kF a g.r) g.p hi (g.r i) (tP hr) o;rw[eo]at this;exact this
 |none=>
  have e:jC i (a.at' i)=({a.at' i with run:=(dY i (a.at' i).D).1,D:=(bY (a.at' i).D).D},(dY i (a.at' i).D).2):=by unfold jC;rw[hr]
  have hD:=so.D hr;have ed:(a.at' i).dk=(a.at' i).D:=by unfold Slot.dk;rw[hr]
  have e1: ∀d r,rA (a.at' i) d r= λ_=>True:=λd r=>by unfold rA;rw[hr]
  have hst: ∀x:Slot,(a.set i x).at' i=x:=λx=>vk (by rw[h.ms];exact hi)
  have hne: ∀x:Slot,∀j,j≠i→(a.set i x).at' j=a.at' j:=λx j hj=>we hj
  refine mT (BJ (Z:=λv a'=>v= .int .i64 (jC i (a.at' i)).2∧a'=a.set i (jC i (a.at' i)).1) hi (λv a' hz j hj=>by rw[hz.2];exact hne _ j hj) λg=>?_) λv H hp=>by obtain⟨_,⟨rfl,rfl⟩,rfl⟩:=hp;exact⟨rfl,rfl⟩
  have:=F1 c g.n i (nl g) (kF a g.r) g.p hi (g.d i) rfl (nV hr) (a.at' i).D hD o;rw[eo]at this;refine Leg.Does.withinR (B:=[eQ 106 169 5 g.n (c9 a.W),lS (g.p i) (a.at' i).past]) this (λ_ _ _ _=>trivial) (λhh q=>?_) λv H hp=>?_
  · unfold lD at q
    rw[ed]at q;exact ak [0,1,0,0] rfl q
  · rcases hp with⟨hn,rfl,rfl⟩| ⟨s,r,hn,rfl,rfl⟩
    · refine⟨_,λhh q=>?_,_,⟨by rw[e],rfl⟩,g,rfl,λj hj=>⟨rfl,rfl,rfl⟩,rfl⟩
      rw[hst,e];have em:kF (a.set i {a.at' i with run:=(dY i (a.at' i).D).1,D:=(bY (a.at' i).D).D}) g.r=kF a g.r:=xV (hne _) g.r (by rw[hst];unfold yZ;rw[hr];simp only[hn]);rw[em];have q2:=xm (aD [0,1,0,0] rfl q);have q3:=aD [1,1,1,1,0] rfl q2;unfold lD Slot.dk rA;simp only[hn];exact q3
    · refine⟨_,λhh q=>?_,_,⟨by rw[e];simp only[Cz hn],rfl⟩,{g with r:=oq g.r i r},rfl,λj hj=>⟨rfl,qp _ _ hj,rfl⟩,rfl⟩
      rw[hst,e];have em:kF (a.set i {a.at' i with run:=(dY i (a.at' i).D).1,D:=(bY (a.at' i).D).D}) (oq g.r i r)=oq (kF a g.r) i (.pointer (some ⟨r,0,none⟩)):=GW (hne _) (λj hj=>qp _ _ hj) (by rw[hst,mg];unfold yZ;simp only[hn]);rw[em];have q3:=aD [0,2,1,1,0] rfl q;unfold lD Slot.dk rA;simp only[hn,mg];exact q3
theorem Hn(h:CLOk n a)(hn:n≤100000)(hi:i<5)(hat:o.at'=((i:Nat):Int))(hk:o.kind=5∨o.kind=6∨o.kind=7):DT 25 #[.pointer (some ⟨c,0,none⟩), .agg (ints o.flat).toArray] T0 [gf c a] (dD λv H=>v= .int .i64 (oc a o).2∧H=[gf c (oc a o).1]):=by
 cases hv:dy o.at' o.to' with
 |false=>
  have e:oc a o=(a,5):=by unfold oc;rw[if_pos hv]
  rw[e];have eo:=pA (o:=o) rfl hat;refine mT (KM (R:=λv W'=>v= .int .i64 5∧W'=a.W) λg=>?_) λv H hp=>by obtain⟨_,⟨rfl,rfl⟩,rfl⟩:=hp;exact⟨rfl,rfl⟩
  refine Leg.Does.ex (A':=λbs:List Nat=>[aj c (fc g.n (nl g) (kF a g.r) g.p) 56,aj g.n (dP bs) 106]++[eZ 169 5 bs (c9 a.W)]) (λhh q=>?_) λbs=>?_
  · obtain⟨bs,q⟩:=fF (eI (List.Perm.swap _ _ _) q)
    exact⟨bs,aD [2,0,0] rfl q⟩
  · rw[hat]at hv
    have:=Cg c g.n i (nl g) (kF a g.r) g.p hi o.to' o.kind o hv bs;rw[eo]at this;refine Leg.Does.withinR this (λ_ _ _ _=>trivial) (λhh q=>q) λv H hp=>?_
    obtain⟨rfl,rfl⟩:=hp;refine⟨_,λhh q=>?_,a.W,⟨rfl,rfl⟩,rfl⟩;exact eI (List.Perm.swap _ _ _) (bw (p:=λbs:List Nat=>[aj g.n (dP bs) 106,eZ 169 5 bs (c9 a.W)]) bs (aD [1,1,0] rfl q))
 |true=>
  obtain⟨j,hto⟩: ∃j:Nat,o.to'=((j:Nat):Int):=⟨o.to'.toNat,((mB (sY hv).2).2).symm⟩;have hj:j<5:=by have:=(mB (sY hv).2).1;rw[hto]at this;simpa using this
  have hv2:dy ((i:Nat):Int) ((j:Nat):Int)=true:=by rw[←hat,←hto];exact hv
  have eK:bE o.at' o.to'=bE ((i:Nat):Int) ((j:Nat):Int):=by rw[hat,hto]
  have hij:((i:Nat):Int)≠((j:Nat):Int):=λe=>by
   unfold dy at hv2;rw[decide_eq_true e]at hv2;simp at hv2
  obtain⟨h8,hlen⟩:=h.way (bE ((i:Nat):Int) ((j:Nat):Int));have hkl:bE ((i:Nat):Int) ((j:Nat):Int)<a.W.length:=by rw[h.W];exact(je hv2).1
  -- the net alone
  have net: ∀{R:Value→List (List MsgT)→Prop},(∀(g:CX) (bs:List Nat),Leg.Does Tryz.prog 25 #[.pointer (some ⟨c,0,none⟩), .agg (ints o.flat).toArray] (λ_=>True) [aj g.n (dP bs) 106,eZ 169 5 bs (c9 a.W),aj c (fc g.n (nl g) (kF a g.r) g.p) 56] (dD λv H=>∃W',R v W'∧H=[aj c (fc g.n (nl g) (kF a g.r) g.p) 56,eQ 106 169 5 g.n (c9 W')]))→
   Leg.Does Tryz.prog 25 #[.pointer (some ⟨c,0,none⟩), .agg (ints o.flat).toArray] (λ_=>True) [gf c a] (dD λv H=>∃W',R v W'∧H=[gf c ⟨a.ms,W'⟩]):=λcore=>KM λg=>Leg.Does.ex (A':=λbs:List Nat=>[aj g.n (dP bs) 106,eZ 169 5 bs (c9 a.W),aj c (fc g.n (nl g) (kF a g.r) g.p) 56]) (λhh q=>fF (eI (List.Perm.swap _ _ _) q)) (core g)
  cases hl:a.W.getD (bE ((i:Nat):Int) ((j:Nat):Int)) []with
  |nil=>
   have e:oc a o=(a,10):=by unfold oc;rw[if_neg (by rw[hv];decide),eK,hl]
   rw[e];refine mT (net (R:=λv W'=>v= .int .i64 10∧W'=a.W) λg bs=>?_) λv H hp=>by obtain⟨_,⟨rfl,rfl⟩,rfl⟩:=hp;exact⟨rfl,rfl⟩
   have:=AM c g.n i (nl g) (kF a g.r) g.p hi j hj hv2 a.W h.W _ rfl h8 hlen o o.kind hl bs;rw[tJ rfl hat hto,xj hkl]at this;exact mT this λv H hp=>⟨a.W,⟨hp.1,rfl⟩,hp.2⟩
  |cons m0 l0=>
   by_cases h7:o.kind=7
   · have e:oc a o=(a.way (bE ((i:Nat):Int) ((j:Nat):Int)) (EH (m0::l0)),if I6 (m0::l0)then 0 else 3):=by
      unfold oc;rw[if_neg (by rw[hv];decide),eK,hl];simp only[if_pos h7];split
      · rfl
      · rename_i q
        have q2:EH (m0::l0)=m0::l0:=by unfold EH;unfold I6 at q;rw[if_neg (by simpa using q)]
        rw[q2];show(a,(3:Int))=(CL.mk a.ms (a.W.set _ (m0::l0)),3);rw[←hl,xj hkl]
     rw[e];refine mT (net (R:=λv W'=>v= .int .i64 (if I6 (m0::l0)then 0 else 3)∧W'=a.W.set (bE ((i:Nat):Int) ((j:Nat):Int)) (EH (m0::l0))) λg bs=>?_) λv H hp=>by obtain⟨_,⟨rfl,rfl⟩,rfl⟩:=hp;exact⟨rfl,rfl⟩
     have:=yI c g.n i (nl g) (kF a g.r) g.p hi j hj hv2 a.W h.W (m0::l0) hl (by rw[←hl];exact h8) (by rw[←hl];exact hlen) o (by simp) bs;rw[tJ h7 hat hto]at this;exact mT this λv H hp=>⟨_,⟨hp.1,rfl⟩,hp.2⟩
   · cases ht:jB (max o.n 0% ((m0::l0).length:Int)).toNat (m0::l0)with
     |nil=>have:=kV (max o.n 0% ((m0::l0).length:Int)).toNat (m0::l0);rw[ht]at this;simp at this
     |cons m l2=>
      by_cases h6:o.kind=6
      · have e:oc a o=(a.way (bE ((i:Nat):Int) ((j:Nat):Int)) l2,0):=by
         unfold oc;rw[if_neg (by rw[hv];decide),eK,hl];simp only[if_neg h7];rw[ht];simp only[if_pos h6]
        rw[e];refine mT (net (R:=λv W'=>v= .int .i64 0∧W'=a.W.set (bE ((i:Nat):Int) ((j:Nat):Int)) l2) λg bs=>?_) λv H hp=>by obtain⟨_,⟨rfl,rfl⟩,rfl⟩:=hp;exact⟨rfl,rfl⟩
        have:=sT c g.n i (nl g) (kF a g.r) g.p hi j hj hv2 a.W h.W (m0::l0) hl (by rw[←hl];exact h8) (by rw[←hl];exact hlen) o m l2 ht bs 6 (.inr rfl) (.inl rfl);rw[tJ h6 hat hto]at this;exact mT this λv H hp=>⟨_,⟨hp.1,rfl⟩,hp.2⟩
      · have h5:o.kind=5:=by omega
        have e:oc a o=o8 (a.way (bE ((i:Nat):Int) ((j:Nat):Int)) l2) i j m:=by
         unfold oc;rw[if_neg (by rw[hv];decide),eK,hl];simp only[if_neg h7];rw[ht];simp only[if_neg h6];rw[hat,hto];rfl
        rw[e];have ew:(a.way (bE ((i:Nat):Int) ((j:Nat):Int)) l2).at' j=a.at' j:=rfl;cases hr:(a.at' j).run with
        |none=>
         have e2:o8 (a.way (bE ((i:Nat):Int) ((j:Nat):Int)) l2) i j m=(a.way (bE ((i:Nat):Int) ((j:Nat):Int)) l2,0):=by unfold o8;rw[ew,hr]
         rw[e2];refine mT (net (R:=λv W'=>v= .int .i64 0∧W'=a.W.set (bE ((i:Nat):Int) ((j:Nat):Int)) l2) λg bs=>?_) λv H hp=>by obtain⟨_,⟨rfl,rfl⟩,rfl⟩:=hp;exact⟨rfl,rfl⟩
         have:=sT c g.n i (nl g) (kF a g.r) g.p hi j hj hv2 a.W h.W (m0::l0) hl (by rw[←hl];exact h8) (by rw[←hl];exact hlen) o m l2 ht bs 5 (.inl rfl) (.inr (nV hr));rw[tJ h5 hat hto]at this;exact mT this λv H hp=>⟨_,⟨hp.1,rfl⟩,hp.2⟩
        |some s=>
         obtain⟨hs,hid,hso⟩:=(h.at' j hj).run s hr;have hrep:=(h.at' j hj).reps;unfold Slot.reps at hrep;rw[hr,ag]at hrep;simp only at hrep;have W2:(a.W.set (bE ((i:Nat):Int) ((j:Nat):Int)) l2).length=25:=by rw[fu];exact h.W
         refine mT (F7 h.ms hj hr (R:=λv s' W'=>(s.e.D.dn=true∧v= .int .i64 0∧s'=s∧W'=a.W.set (bE ((i:Nat):Int) ((j:Nat):Int)) l2)∨(s.e.D.dn=false∧(ju (cY m)).2≠0∧v= .int .i64 (ju (cY m)).2∧s'=s∧W'=a.W.set (bE ((i:Nat):Int) ((j:Nat):Int)) l2)∨(s.e.D.dn=false∧(ju (cY m)).2=0∧v= .int .i64 0∧s'=(fK KD s ((i:Nat):Int) (ju (cY m)).1).hush∧W'=gT (a.W.set (bE ((i:Nat):Int) ((j:Nat):Int)) l2) j (fK KD s ((i:Nat):Int) (ju (cY m)).1).o)) λg em=>?_) λv H hp=>?_
         · refine Leg.Does.ex (A':=λbs:List Nat=>[aj g.n (dP bs) 106,eZ 169 5 bs (c9 a.W),aj c (fc g.n (nl g) (kF a g.r) g.p) 56,dk (g.d j) s.e.D,gk s (g.d j) (g.r j)]) (λhh q=>fF (aD [2,0,0,0] rfl q)) λbs=>?_
           have:=AO c g.n i (nl g) (kF a g.r) g.p hi j hj hv2 a.W h.W (m0::l0) hl (by rw[←hl];exact h8) (by rw[←hl];exact hlen) o m l2 ht bs (g.d j) (g.r j) s rfl em hso hs (by rw[hid];exact hij) (by omega);rw[tJ h5 hat hto]at this;refine mT this λv H hp=>?_
           rcases hp with⟨hd,rfl,rfl⟩| ⟨hd,h1,rfl,rfl⟩| ⟨hd,h1,rfl,rfl⟩
           · exact⟨_,_, .inl ⟨hd,rfl,rfl,rfl⟩,rfl⟩
           · exact⟨_,_, .inr (.inl ⟨hd,h1,rfl,rfl,rfl⟩),rfl⟩
           · exact⟨_,_, .inr (.inr ⟨hd,h1,rfl,rfl,rfl⟩),rfl⟩
         · obtain⟨a',⟨s',W',hR,rfl⟩,rfl⟩:=hp
           have er: ∀W',CL.mk (a.ms.set j {a.at' j with run:=some s}) W'=CL.mk a.ms W':=λW'=>by
            have:=congrArg CL.ms (xx h hj hr);rw[show a.ms.set j {a.at' j with run:=some s}=a.ms from this]
           unfold o8;rw[ew,hr];rcases hR with⟨hd,rfl,rfl,rfl⟩| ⟨hd,h1,rfl,rfl,rfl⟩| ⟨hd,h1,rfl,rfl,rfl⟩
           · simp only[hd,if_true];exact⟨by first|rfl|trivial,by rw[er];rfl⟩
           · simp only[hd,if_neg h1];exact⟨by first|rfl|trivial,by rw[er];rfl⟩
           · simp only[hd,if_pos h1];exact⟨by first|rfl|trivial,rfl⟩
end
theorem F5(c:Nat)(X:HP)(o:OpT)(hm:hO o.at'=false):
 DT 9 #[(.pointer (some ⟨c,0,none⟩)),(.agg (ints o.flat).toArray)] T0 [X] (RI (.int .i64 5) [X]):=by
 refine BD 114 Tryz.func9 rfl rfl rfl λw0 F hF=>sr λ_ J1=>XY (ints o.flat) λb3=>?_
 refine PS ?_;refine nx J1 (aa λ_ J2=>sr λ_ J3=>PS ?_);refine FA 1 eP aP ?_;refine LU 0 Y3 (bT o rfl) ?_;refine CE rB (xI c o.at') ID ?_;rw[hm];refine PS ?_;refine nx J3 (CY (sr λ_ J4=>PS ?_));exact nx J4 (ah (ae (WK [1] (aw rfl rfl ⟨rfl,rfl⟩))))
theorem FY(c i:Nat)(hi:i<5)(X:HP)(o:OpT)(k:Int)(hk:k=5∨k=6∨k=7)(p:Int→HP→Prop)(hw:DT 25 #[(.pointer (some ⟨c,0,none⟩)),(.agg (ints (OpT.mk k ((i:Nat):Int) o.to' o.key o.n o.change o.mask o.torn o.cut).flat).toArray)] T0 [X] (dD (λv H=>∃e X',v= .int .i64 e∧H=[X']∧p e X'))):
 DT 9 #[(.pointer (some ⟨c,0,none⟩)),(.agg (ints (OpT.mk k ((i:Nat):Int) o.to' o.key o.n o.change o.mask o.torn o.cut).flat).toArray)] T0 [X] (dD (λv H=>∃e X',v= .int .i64 e∧H=[X']∧p e X')):=by
 refine BD 114 Tryz.func9 rfl rfl rfl λw0 F hF=>sr λ_ J1=>XY (ints (OpT.mk k ((i:Nat):Int) o.to' o.key o.n o.change o.mask o.torn o.cut).flat) λb3=>?_
 refine PS ?_;refine nx J1 (aa λ_ J2=>sr λ_ J3=>PS ?_);refine FA 1 eP aP ?_;refine LT 0 Y3 (.int .i64 (((i:Nat):Int))) ?_ (hc:=by exact bT _ rfl);refine CE rB (eL c i hi) ID ?_;refine PS ?_;refine nx J3 (CN (qx J2 (aa λ_ J4=>sr λ_ J5=>FA 0 eP aP ?_)));refine LT 0 Y3 (.int .i64 (k)) ?_ (hc:=by exact cO _ rfl);refine nx J5 (am (aa λ_ J6=>sr λ_ J7=>P2 ?_));refine ap ?_ ?_<;>intro h12
 · exact absurd h12 (by omega)
 refine nx J7 (CN (sr λ_ J8=>P2 ?_));refine ap ?_ ?_<;>intro h12
 · exact absurd h12 (by omega)
 refine nx J8 (CN (sr λ_ J9=>P2 ?_));refine ap ?_ ?_<;>intro h12
 · exact absurd h12 (by omega)
 refine nx J9 (CN (sr λ_ J10=>P2 ?_));refine ap ?_ ?_<;>intro h12
 · exact absurd h12 (by omega)
 refine nx J10 (CN (ac (PS ?_)));refine ap ?_ ?_<;>intro h17
 · exact absurd h17 (by omega)
 refine PS ?_;refine nx J6 (CN (aa λ_ J11=>fy (α:=Unit) (λ_u=>True) (λ_u=>[(0,(.pointer (some ⟨c,0,none⟩))),(3,(.pointer (some ⟨b3,0,none⟩))),(4,(.int .i64 0)),(11,(.int .i64 (k))),(37,(.bool true))]) (λ_u=>[aj b3 (ints (OpT.mk k ((i:Nat):Int) o.to' o.key o.n o.change o.mask o.torn o.cut).flat) 30,X]) (λ_u hinv=>?_) (λtl11=>?_)));have _:=hinv;refine ad J11 (CY (sr λ_ J12=>PS ?_));refine LW 0 eP nJ fg ?_;refine CR Q3 (hw) (SM [1]) λvR HR hR=>?_
 obtain⟨e,X',rfl,rfl,hp⟩:=hR;refine PS ?_;exact nx J12 (ah (aI (ae (WK [0] (aw rfl rfl ⟨e,X',rfl,rfl,hp⟩)))));refine sr λ_ J13=>P2 ?_
 refine ap ?_ ?_<;>intro h37;refine nx J13 (CY (aR ?_))
 exact aE
  SB
  (λ_ s=>ak [0,0] rfl s)
  (tl11 (():Unit) trivial)
 refine nx J13 (CN (sr λ_ J14=>P2 ?_));refine ap ?_ ?_<;>intro h37;refine nx J14 (CY (aR ?_))
 exact aE
  SB
  (λ_ s=>ak [0,0] rfl s)
  (tl11 (():Unit) trivial)
 refine nx J14 (CN (ac (PS ?_)));refine ap ?_ ?_<;>intro h40;refine PS ?_;refine au ?_
 exact aE
  SB
  (λ_ s=>ak [0,0] rfl s)
  (tl11 (():Unit) trivial)
 · exact absurd h40 (by omega)
theorem Ec(c i:Nat)(hi:i<5)(X:HP)(o:OpT)(k:Int)(hk:k<0∨11<k):
 DT 9 #[(.pointer (some ⟨c,0,none⟩)),(.agg (ints (OpT.mk k ((i:Nat):Int) o.to' o.key o.n o.change o.mask o.torn o.cut).flat).toArray)] T0 [X] (RI (.int .i64 5) [X]):=by
 refine BD 114 Tryz.func9 rfl rfl rfl λw0 F hF=>sr λ_ J1=>XY (ints (OpT.mk k ((i:Nat):Int) o.to' o.key o.n o.change o.mask o.torn o.cut).flat) λb3=>?_
 refine PS ?_;refine nx J1 (aa λ_ J2=>sr λ_ J3=>PS ?_);refine FA 1 eP aP ?_;refine LT 0 Y3 (.int .i64 (((i:Nat):Int))) ?_ (hc:=by exact bT _ rfl);refine CE rB (eL c i hi) ID ?_;refine PS ?_;refine nx J3 (CN (qx J2 (aa λ_ J4=>sr λ_ J5=>FA 0 eP aP ?_)));refine LT 0 Y3 (.int .i64 (k)) ?_ (hc:=by exact cO _ rfl);refine nx J5 (am (aa λ_ J6=>sr λ_ J7=>P2 ?_));refine ap ?_ ?_<;>intro h12
 · exact absurd h12 (by omega)
 refine nx J7 (CN (sr λ_ J8=>P2 ?_));refine ap ?_ ?_<;>intro h12
 · exact absurd h12 (by omega)
 refine nx J8 (CN (sr λ_ J9=>P2 ?_));refine ap ?_ ?_<;>intro h12
 · exact absurd h12 (by omega)
 refine nx J9 (CN (sr λ_ J10=>P2 ?_));refine ap ?_ ?_<;>intro h12
 · exact absurd h12 (by omega)
 refine nx J10 (CN (ac (PS ?_)));refine ap ?_ ?_<;>intro h17
 · exact absurd h17 (by omega)
 refine PS ?_;refine nx J6 (CN (aa λ_ J11=>sr λ_ J12=>P2 ?_));refine ap ?_ ?_<;>intro h37
 · exact absurd h37 (by omega)
 refine nx J12 (CN (sr λ_ J13=>P2 ?_));refine ap ?_ ?_<;>intro h37
 · exact absurd h37 (by omega)
 refine nx J13 (CN (ac (PS ?_)));refine ap ?_ ?_<;>intro h40
 · exact absurd h40 (by omega)
 refine PS ?_;refine nx J11 (CN (sr λ_ J14=>PS ?_));refine ap ?_ ?_<;>intro h45
 · exact absurd h45 (by omega)
 refine PS ?_;refine nx J14 (CN (sr λ_ J15=>PS ?_));refine ap ?_ ?_<;>intro h65
 · exact absurd h65 (by omega)
 refine PS ?_;refine nx J15 (CN (sr λ_ J16=>PS ?_));refine ap ?_ ?_<;>intro h77
 · exact absurd h77 (by omega)
 refine PS ?_;refine nx J16 (CN (sr λ_ J17=>PS ?_));refine ap ?_ ?_<;>intro h109
 · exact absurd h109 (by omega)
 refine PS ?_;refine nx J17 (CN (sr λ_ J18=>PS ?_));exact nx J18 (ah (aI (ae (WK [1] (aw rfl rfl ⟨rfl,rfl⟩)))))
section
variable {n c:Nat} {a:CL} {o:OpT}
theorem jQ(h:CLOk n a)(hn:n≤100000)(ho:OkOp o):DT 9 #[.pointer (some ⟨c,0,none⟩), .agg (ints o.flat).toArray] T0 [gf c a] (dD λv H=>v= .int .i64 (oN a o).2∧H=[gf c (oN a o).1]):=by
 unfold oN
 by_cases hm:hO o.at'=false
 · rw[if_pos hm]
   exact F5 c (gf c a) o hm
 · rw[if_neg hm]
   have hm:hO o.at'=true:=by simpa using hm
   obtain⟨hi,hat⟩:=mB hm
   by_cases h1:0≤o.kind∧o.kind≤4
   · rw[if_pos h1];exact KQ h hn hi hat.symm h1 ho
   rw[if_neg h1]
   by_cases h2:o.kind=5∨o.kind=6∨o.kind=7
   · rw[if_pos h2]
     have:=FY c _ hi (gf c a) o o.kind h2 (λe X=>e=(oc a o).2∧X=gf c (oc a o).1) (by
      rw[pA rfl hat.symm]
      exact mT (Hn h hn hi hat.symm h2) λv H hp=>⟨_,_,hp.1,hp.2,rfl,rfl⟩)
     rw[pA rfl hat.symm]at this
     exact mT this λv H hp=>by
      obtain⟨e,X,rfl,rfl,rfl,rfl⟩:=hp;exact⟨rfl,rfl⟩
   rw[if_neg h2]
   by_cases h3:o.kind=8
   · rw[if_pos h3];exact Jo h hi hat.symm h3
   rw[if_neg h3]
   by_cases h4:o.kind=9
   · rw[if_pos h4];exact KY h hi hat.symm h4
   rw[if_neg h4]
   by_cases h5:o.kind=10
   · rw[if_pos h5];exact F9 h hn hi hat.symm h5
   rw[if_neg h5]
   by_cases h6:o.kind=11
   · rw[if_pos h6];exact CA h hi hat.symm h6
   rw[if_neg h6];have:=Ec c _ hi (gf c a) o o.kind (by omega);rw[pA rfl hat.symm]at this;exact this
end
end Go.Proofs.YtkhjnolhhidecaaGreatDoor
end
