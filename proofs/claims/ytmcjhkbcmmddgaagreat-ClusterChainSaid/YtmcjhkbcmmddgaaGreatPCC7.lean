/-
  Joined texts:what a statement's proof reaches.
-/
import Derived.Test.YtmcjhkbcmmddgaaGreatPCC6
set_option maxHeartbeats 8000000
set_option maxRecDepth 100000
set_option linter.unusedSimpArgs false
set_option linter.unusedVariables false
section
namespace Go.Proofs.YtmcjhkbcmmddgaaGreat
open Go Leg Codec Api Dsk Wal
theorem qv{δ:Type}(V:Env δ)(r:Nat)(s:MS δ)(c:ChangeT)[OkR V.toDk s][OkCh c]:
 DT 70 #[(.pointer (some ⟨r,0,none⟩)),(.agg (ints c.flat).toArray)] T0 [cK V r s] (RI (.int .i64 (cD V.toDk s c).2) [cK V r (cD V.toDk s c).1]):=by
 refine BD 66 Tryz.func70 rfl rfl rfl λw0 F hF=>sr λ_ J1=>XY (ints c.flat) λb3=>?_
 refine PS ?_;refine nx J1 (aa λ_ J2=>fo (α:=(Nat)) (λb5=>True) (λb5=>[(0,(.pointer (some ⟨r,0,none⟩))),(3,(.pointer (some ⟨b3,0,none⟩))),(4,(.int .i64 0)),(5,(.pointer (some ⟨b5,0,none⟩)))]) (λb5=>[cK V r s,an b3 (ints c.flat) 33,an b5 (ints (dx s).flat) 87]) (λb5 hinv=>?_) (λtl2=>?_));have _:=hinv;refine af J2 (aa λ_ J3=>fo (α:=(Nat)) (λb6=>True) (λb6=>[(0,(.pointer (some ⟨r,0,none⟩))),(3,(.pointer (some ⟨b3,0,none⟩))),(4,(.int .i64 0)),(5,(.pointer (some ⟨b5,0,none⟩))),(6,(.pointer (some ⟨b6,0,none⟩))),(7,(.bool ((bC s.acc s.view.epoch (dx s)).2)))]) (λb6=>[cK V r s,an b3 (ints c.flat) 33,an b5 (ints (dx s).flat) 87,an b6 (ints ((bC s.acc s.view.epoch (dx s)).1).flat) 89]) (λb6 hinv=>?_) (λtl3=>?_));have _:=hinv;refine af J3 (aa λ_ J4=>sr λ_ J5=>PS ?_);refine bh ?_ ?_<;>intro h33;refine PS ?_;refine nx J5 (CN (qx J4 (aa λ_ J6=>aa λ_ J7=>DC bo (cV 0 rfl rfl) (BL 2) ?_)));refine PD 0 ?_;refine PD 1 ?_;refine PD 2 ?_;refine FD 3 2 db be ?_;refine FD 4 2 eL aQ ?_;refine ta 5 rfl (df (v:=(.int .i64 (s.view.epoch))) rfl Y3 rfl rfl (λ_ h=>h.2.1) (λa_=>(cp (s.rep a_) 0 rfl (by decide) (bf _ rfl)))) ?_;refine LY 6 kB cA ap ?_;refine ta 7 rfl (lu RecT.zero (RecT.mk 3 0 RowT.zero s.view.epoch (dx s) ChangeT.zero ViewT.zero) [(0,[Value.int .i64 3]),(3,[Value.int .i64 s.view.epoch]),(4,ints (dx s).flat)] eC fq (g:=RecT.sg)) ?_;refine AL 8 ?_
 refine CE EG (lD V r s (fk s.view.epoch (dx s))) ID ?_;refine EN (PD 9 ?_);refine DN (af J7 (sr λ_ J8=>P2 ?_));refine aq ?_ ?_<;>intro h45;refine nx J8 (CY (sr λ_ J9=>P2 ?_));refine nx J9 (ak (ae (WK [0] (aw rfl rfl ?_))));have e:cD V.toDk s c=(dE V.toDk s (fk s.view.epoch (dx s)),qS V.toDk s (fk s.view.epoch (dx s))):=by rw[cD,if_neg (by rw[h33];decide),if_pos h45]
 exact jX e;refine L3 (H':=λvo:Value=>vO V r (dE V.toDk s (fk s.view.epoch (dx s))) vo::[an b3 (ints c.flat) 33,an b5 (ints (dx s).flat) 87,an b6 (ints ((bC s.acc s.view.epoch (dx s)).1).flat) 89]) (λ_ q=>F0 q) (λvo=>nx J8 (CN (qx J6 (aa λ_ J10=>D2 3 2 bo ?_))));refine PD 0 ?_;refine PD 1 ?_;refine LY 2 pO fU bd ?_;refine FD 3 0 kB aQ ?_;refine LX 4 Y3 (.int .i64 ((dx s).round)) ?_ (hc:=by exact fx _ rfl);refine PD 5 ?_;refine FD 6 1058 db fU ?_;refine AL 7 ?_;refine iw (vs:=ints ((bC s.acc s.view.epoch (dx s)).1).flat) (i:=0) (ab rfl) rfl rfl rfl rfl rfl (by rw[(bd ((bC s.acc s.view.epoch (dx s)).1))];exact fU) (bB _) rfl rfl (λ_=>LC (cU _) (bd _)) (λa_=>(kP ((dE V.toDk s (fk s.view.epoch (dx s))).rep ⟨(a_:Nat×Value).1,vo,a_.2⟩) 0 rfl (by have h1:=(bd ((bC s.acc s.view.epoch (dx s)).1));omega) (cr ((bd (((dE V.toDk s (fk s.view.epoch (dx s))).rep ⟨(a_:Nat×Value).1,vo,a_.2⟩).acc)).trans (bd ((bC s.acc s.view.epoch (dx s)).1)).symm)))) (EN (PD 8 ?_));refine FD 9 1066 db aQ ?_;refine AL 10 ?_;refine SK 0 aQ (λ_=>cU _) ?_ (hc:=by exact λa_=>(l6 _ rfl _));refine EN (DN (af J10 (aa λ_ J11=>D2 2 1 bo ?_)));refine PD 0 ?_;refine PD 1 ?_;refine PD 2 ?_;refine FD 3 2 db be ?_;refine LY 5 kB cA ap ?_;refine LY 6 nt fR aK ?_;refine AL 4 ?_;refine LZ 0 eL be ai s.view ?_ (hc:=by exact λ_=>cT _);refine EN (AL 7 ?_);refine CR N7 (Ab s.view (dx s) c) ID λvR HR hR=>?_
 obtain⟨vb,rfl,rfl⟩:=hR;refine EN (PD 8 ?_);refine FD 9 1067 db m8 ?_;refine AL 10 ?_;refine SK 1 m8 (λ_=>cU _) ?_ (hc:=by exact λa_=>(PZ _ rfl _));refine EN (DN (af J11 (sr λ_ J12=>PS ?_)));refine nx J12 (ak (aG (H':=[cK V r (qw V.toDk s c)]) (dP _) (λ_ q=>ou (ao [1,0] rfl q)) (aw rfl rfl ?_)));have e:cD V.toDk s c=(qw V.toDk s c,0):=by rw[cD,if_neg (by rw[h33];decide),if_neg h45]
 exact jX e;refine PS ?_;refine nx J5 (CY (sr λ_ J13=>PS ?_));refine nx J13 (ak (ae (WK [0] (aw rfl rfl ?_))));have e:cD V.toDk s c=(s,6):=if_pos h33;exact jX e;refine DC bo (cV 0 rfl rfl) (BL 2) ?_;refine PD 0 ?_;refine PD 1 ?_;refine FD 2 1058 db fU ?_;refine ta 3 rfl (gD (vs:=ints s.acc.flat) rfl pO rfl fU rfl (λ_ h=>h.2.1) (bd s.acc) (λa_=>(yx (s.rep a_) 0 rfl (by decide) (bn (bd ((s.rep a_).acc)))))) ?_;refine PD 4 ?_;refine PD 5 ?_;refine FD 6 2 db be ?_;refine FD 7 2 eL aQ ?_;refine ta 8 rfl (df (v:=(.int .i64 (s.view.epoch))) rfl Y3 rfl rfl (λ_ h=>h.2.1) (λa_=>(cp (s.rep a_) 0 rfl (by decide) (bf _ rfl)))) ?_;refine LY 9 kB cA ap ?_;refine cQ [10,14] (by kernel_rfl) rfl (aH rfl ?_ ?_);refine CE FX (nU s.acc s.view.epoch (dx s)) ID ?_;refine EN (PD 11 ?_);refine PD 12 ?_;refine PD 13 ?_;refine rZ ?_ ?_<;>intro h32;refine AL 14 ?_;refine XZ H3 (ints AccT.zero.flat) λb6=>?_
 refine EN (AL 15 ?_);refine SW 0 fU bd ?_;refine EN (PD 16 ?_);refine DN ?_
 exact aG
  (aW (aW (aW (aW (aW (bJ rfl (by rw[h32]) SB))))))
  (λ_ s=>ao [1,1,1,0] rfl s)
  (tl3 ((b6):(Nat)) trivial)
 refine AL 14 ?_;refine XZ H3 (ints AccT.zero.flat) λb6=>?_
 refine EN (AL 15 ?_);refine SW 0 fU bd ?_;refine EN (PD 16 ?_);refine DN ?_
 exact aG
  (aW (aW (aW (aW (aW (bJ rfl (by rw[h32]) SB))))))
  (λ_ s=>ao [1,1,1,0] rfl s)
  (tl3 ((b6):(Nat)) trivial)
 refine aH rfl ?_ ?_;refine XZ H3 (ints AccT.zero.flat) λb6=>?_
 refine EN (AL 10 ?_);refine CE FX (nU s.acc s.view.epoch (dx s)) ID ?_;refine EN (PD 11 ?_);refine PD 12 ?_;refine PD 13 ?_;refine rZ ?_ ?_<;>intro h32;refine AL 15 ?_;refine SW 0 fU bd ?_;refine EN (PD 16 ?_);refine DN ?_
 exact aG
  (aW (aW (aW (aW (aW (bJ rfl (by rw[h32]) SB))))))
  (λ_ s=>ao [1,1,1,0] rfl s)
  (tl3 ((b6):(Nat)) trivial)
 refine AL 15 ?_;refine SW 0 fU bd ?_;refine EN (PD 16 ?_);refine DN ?_
 exact aG
  (aW (aW (aW (aW (aW (bJ rfl (by rw[h32]) SB))))))
  (λ_ s=>ao [1,1,1,0] rfl s)
  (tl3 ((b6):(Nat)) trivial)
 exact bL;refine DB bo (cV 1 rfl rfl) ?_;refine PD 0 ?_;refine PD 1 ?_;refine FD 2 1066 db aQ ?_;refine ta 3 rfl (df (v:=(.int .i64 (s.round))) rfl Y3 rfl rfl (λ_ h=>h.2.1) (λa_=>(vz _ rfl))) ?_;refine ta 4 rfl (cG (r:=(gX (s.round+1))) rfl rfl rfl rfl) ?_;refine PD 5 ?_;refine PD 6 ?_;refine FD 7 0 db aQ ?_;refine ta 8 rfl (df (v:=(.int .i64 (s.id))) rfl Y3 rfl rfl (λ_ h=>h.2.1) (λa_=>(cF _ rfl))) ?_;refine ta 9 rfl (lu BallotT.zero (BallotT.mk (gX (s.round+1)) s.id) [(0,[Value.int .i64 (gX (s.round+1))]),(1,[Value.int .i64 s.id])] kB OJ (g:=BallotT.sg)) ?_;refine AL 10 ?_;refine XZ ON (ints BallotT.zero.flat) λb5=>?_
 refine EN (AL 11 ?_);refine SW 0 cA ap ?_;refine EN (DN ?_)
 exact aG
  SB
  (λ_ s=>ao [2,1,0] rfl s)
  (tl2 ((b5):(Nat)) trivial)
theorem Bc{δ:Type}(V:Env δ)(r:Nat)(s:MS δ)(op:Int)(c:ChangeT)[OkR V.toDk s][OkCh c](hrs:s.replies.length≤1000000)(hv:s.vote=none):
 DT 52 #[(.pointer (some ⟨r,0,none⟩)),(.iface V.T V.ov),(.int .i64 (op)),(.agg (ints c.flat).toArray)] T0 [cK V r s] (RI (.int .i64 (dR V.toDk s op c).2) [cK V r (dR V.toDk s op c).1]):=by
 refine BD 44 Tryz.func52 rfl rfl rfl λw0 F hF=>sr λ_ J1=>XY (ints c.flat) λb7=>?_
 refine PS ?_;refine nx J1 (aa λ_ J2=>fo (α:=Unit) (λ_u=>True) (λ_u=>[(0,(.pointer (some ⟨r,0,none⟩))),(1,(.iface V.T V.ov)),(2,(.int .i64 (op))),(7,(.pointer (some ⟨b7,0,none⟩))),(8,(.int .i64 0)),(10,(.int .i64 ((cm s.view c).2)))]) (λ_u=>[cK V r s,an b7 (ints c.flat) 33]) (λ_u hinv=>?_) (λtl2=>?_));have _:=hinv;refine af J2 (aa λ_ J3=>sr λ_ J4=>cB (H':=vO V r s (.pointer none)::[an b7 (ints c.flat) 33]) (λ_ q=>sV hv q) (P2 ?_));refine aq ?_ ?_<;>intro h21;refine P3 ?_;refine FA 1067 db m8 ?_;refine LG 0 pI (.pointer none) ?_ (hc:=by exact λa_=>(bZ _ rfl));refine tq (jo rfl pI rfl rfl) ?_;refine PS ?_;refine nx J4 (CN (qx J3 (aa λ_ J5=>sr λ_ J6=>cB (H':=cK V r s::[an b7 (ints c.flat) 33]) (λ_ q=>ox hv (aE [0] rfl q)) (P2 ?_))));refine aq ?_ ?_<;>intro h30;refine nx J6 (CY (ag (PS ?_)));refine LW 1 nt fR aK ?_;refine CE Mp (qv V r s c) ID ?_;refine PS ?_;refine nx J5 (sr λ_ J7=>P3 ?_);refine CZ uj (fi V r ((cD V.toDk s c).1) op ((cD V.toDk s c).2) 0 (by first|exact hrs| (rw[jf];exact hrs))) ID λvR=>?_
 refine nx J7 (aa λ_ J8=>sr λ_ J9=>P2 ?_);refine aq ?_ ?_<;>intro h39;refine nx J9 (CY (ag (P2 ?_)));refine CZ KA (rG V r (dK ((cD V.toDk s c).1) op ((cD V.toDk s c).2) 0) (iA s.view (dx s) c) (rU h39)) ID λvR=>?_
 refine nx J8 (sr λ_ J10=>P2 ?_);refine nx J10 (ak (WK [0] (aw rfl rfl ?_)));have e:dR V.toDk s op c=((nM V.toDk (dK ((cD V.toDk s c).1) op ((cD V.toDk s c).2) 0) (iA s.view (dx s) c)),(cD V.toDk s c).2):=by rw[dR,show gj s c=(cm s.view c).2 by rw[gj,if_neg (λh=>by rw[hv]at h;exact absurd h.2 (by decide))],if_neg (by rw[h30];decide),if_neg (by rw[h39];decide),h39]
 exact jX e;refine nx J9 (CN (qx J8 (sr λ_ J11=>P2 ?_)));refine nx J11 (ak (WK [0] (aw rfl rfl ?_)));have e:dR V.toDk s op c=((dK ((cD V.toDk s c).1) op ((cD V.toDk s c).2) 0),(cD V.toDk s c).2):=by rw[dR,show gj s c=(cm s.view c).2 by rw[gj,if_neg (λh=>by rw[hv]at h;exact absurd h.2 (by decide))],if_neg (by rw[h30];decide),if_pos h39]
 exact jX e;refine nx J6 (CN (qx J5 (sr λ_ J12=>P3 ?_)));refine CZ uj (fi V r s op ((cm s.view c).2) 0 (by first|exact hrs| (rw[jf];exact hrs))) ID λvR=>?_
 refine nx J12 (aa λ_ J13=>sr λ_ J14=>P2 ?_);refine aq ?_ ?_<;>intro h39
 · exact absurd h39 h30
 refine nx J14 (CN (qx J13 (sr λ_ J15=>P2 ?_)));refine nx J15 (ak (WK [0] (aw rfl rfl ?_)));have e:dR V.toDk s op c=((dK s op ((cm s.view c).2) 0),(cm s.view c).2):=by rw[dR,show gj s c=(cm s.view c).2 by rw[gj,if_neg (λh=>h30 h.1)]];exact if_pos (by exact h30)
 exact jX e;refine PS ?_
 iterate 5 refine UF ?_
 refine PS ?_;refine nx J4 (CN (qx J3 (aa λ_ J16=>sr λ_ J17=>cB (H':=cK V r s::[an b7 (ints c.flat) 33]) (λ_ q=>ox hv (aE [0] rfl q)) (P2 ?_))));refine aq ?_ ?_<;>intro h30;refine nx J17 (CY (ag (PS ?_)));refine LW 1 nt fR aK ?_;refine CE Mp (qv V r s c) ID ?_;refine PS ?_;refine nx J16 (sr λ_ J18=>P3 ?_);refine CZ uj (fi V r ((cD V.toDk s c).1) op ((cD V.toDk s c).2) 0 (by first|exact hrs| (rw[jf];exact hrs))) ID λvR=>?_
 refine nx J18 (aa λ_ J19=>sr λ_ J20=>P2 ?_);refine aq ?_ ?_<;>intro h39;refine nx J20 (CY (ag (P2 ?_)));refine CZ KA (rG V r (dK ((cD V.toDk s c).1) op ((cD V.toDk s c).2) 0) (iA s.view (dx s) c) (rU h39)) ID λvR=>?_
 refine nx J19 (sr λ_ J21=>P2 ?_);refine nx J21 (ak (WK [0] (aw rfl rfl ?_)));have e:dR V.toDk s op c=((nM V.toDk (dK ((cD V.toDk s c).1) op ((cD V.toDk s c).2) 0) (iA s.view (dx s) c)),(cD V.toDk s c).2):=by rw[dR,show gj s c=(cm s.view c).2 by rw[gj,if_neg (λh=>by rw[hv]at h;exact absurd h.2 (by decide))],if_neg (by rw[h30];decide),if_neg (by rw[h39];decide),h39]
 exact jX e;refine nx J20 (CN (qx J19 (sr λ_ J22=>P2 ?_)));refine nx J22 (ak (WK [0] (aw rfl rfl ?_)));have e:dR V.toDk s op c=((dK ((cD V.toDk s c).1) op ((cD V.toDk s c).2) 0),(cD V.toDk s c).2):=by rw[dR,show gj s c=(cm s.view c).2 by rw[gj,if_neg (λh=>by rw[hv]at h;exact absurd h.2 (by decide))],if_neg (by rw[h30];decide),if_pos h39]
 exact jX e;refine nx J17 (CN (qx J16 (sr λ_ J23=>P3 ?_)));refine CZ uj (fi V r s op ((cm s.view c).2) 0 (by first|exact hrs| (rw[jf];exact hrs))) ID λvR=>?_
 refine nx J23 (aa λ_ J24=>sr λ_ J25=>P2 ?_);refine aq ?_ ?_<;>intro h39
 · exact absurd h39 h30
 refine nx J25 (CN (qx J24 (sr λ_ J26=>P2 ?_)));refine nx J26 (ak (WK [0] (aw rfl rfl ?_)));have e:dR V.toDk s op c=((dK s op ((cm s.view c).2) 0),(cm s.view c).2):=by rw[dR,show gj s c=(cm s.view c).2 by rw[gj,if_neg (λh=>h30 h.1)]];exact if_pos (by exact h30)
 exact jX e;refine DC bo (cV 1 rfl rfl) (BL 0) ?_;refine PD 0 ?_;refine PD 1 ?_;refine FD 2 2 db be ?_;refine ta 3 rfl (gD (vs:=ints s.view.flat) rfl eL rfl be rfl (λ_ h=>h.2.1) (ai s.view) (λa_=>(gy (s.rep a_) 0 rfl (by decide) (bn (ai ((s.rep a_).view)))))) ?_;refine LY 4 nt fR aK ?_;refine cQ [5,9] (by kernel_rfl) rfl (aH rfl ?_ ?_);refine CE mI (dq s.view c OkVw.rng) ID ?_;refine EN (PD 6 ?_);refine PD 7 ?_;refine PD 8 ?_;refine AL 9 ?_;refine XZ pM (ints ViewT.zero.flat) λb9=>?_
 refine EN (AL 10 ?_);refine SW 0 be ai ?_;refine EN (PD 11 ?_);refine DN ?_
 exact aG
  SB
  (λ_ s=>ao [2,1] rfl s)
  (tl2 (():Unit) trivial)
 refine aH rfl ?_ ?_;refine XZ pM (ints ViewT.zero.flat) λb9=>?_
 refine EN (AL 5 ?_);refine CE mI (dq s.view c OkVw.rng) ID ?_;refine EN (PD 6 ?_);refine PD 7 ?_;refine PD 8 ?_;refine AL 10 ?_;refine SW 0 be ai ?_;refine EN (PD 11 ?_);refine DN ?_
 exact aG
  SB
  (λ_ s=>ao [2,1] rfl s)
  (tl2 (():Unit) trivial)
 exact bL
theorem Bb{δ:Type}(V:Env δ)(r:Nat)(s:MS δ)(vt:VoteT)(op:Int)(c:ChangeT)[OkR V.toDk s][OkCh c](hrs:s.replies.length≤1000000)(hv:s.vote=some vt):
 DT 52 #[(.pointer (some ⟨r,0,none⟩)),(.iface V.T V.ov),(.int .i64 (op)),(.agg (ints c.flat).toArray)] T0 [cK V r s] (RI (.int .i64 (dR V.toDk s op c).2) [cK V r (dR V.toDk s op c).1]):=by
 refine BD 44 Tryz.func52 rfl rfl rfl λw0 F hF=>sr λ_ J1=>XY (ints c.flat) λb7=>?_
 refine PS ?_;refine nx J1 (aa λ_ J2=>fo (α:=Unit) (λ_u=>True) (λ_u=>[(0,(.pointer (some ⟨r,0,none⟩))),(1,(.iface V.T V.ov)),(2,(.int .i64 (op))),(7,(.pointer (some ⟨b7,0,none⟩))),(8,(.int .i64 0)),(10,(.int .i64 ((cm s.view c).2)))]) (λ_u=>[cK V r s,an b7 (ints c.flat) 33]) (λ_u hinv=>?_) (λtl2=>?_));have _:=hinv;refine af J2 (aa λ_ J3=>sr λ_ J4=>L3 (H':=λvb:Nat=>vO V r s (.pointer (some ⟨vb,0,none⟩))::an vb (VoteT.cells vt) 187::[an b7 (ints c.flat) 33]) (λ_ q=>nh hv q) (λvb=>P2 ?_));refine aq ?_ ?_<;>intro h21;refine P3 ?_;refine FA 1067 db m8 ?_;refine LG 0 pI (.pointer (some ⟨vb,0,none⟩)) ?_ (hc:=by exact λa_=>(bZ _ rfl));refine tq (jI rfl pI rfl rfl) ?_;refine PS ?_;refine nx J4 (CY (ag (cB (H':=cK V r s::[an b7 (ints c.flat) 33]) (λ_ q=>ow hv (aE [0,0] rfl q)) (PS ?_))));refine nx J3 (aa λ_ J5=>sr λ_ J6=>P2 ?_);refine nx J6 (CN (qx J5 (sr λ_ J7=>P3 ?_)));refine CZ uj (fi V r s op 8 0 (by first|exact hrs| (rw[jf];exact hrs))) ID λvR=>?_
 refine nx J7 (aa λ_ J8=>sr λ_ J9=>P2 ?_);refine nx J9 (CN (qx J8 (sr λ_ J10=>P2 ?_)));refine nx J10 (ak (WK [0] (aw rfl rfl ?_)));have e:dR V.toDk s op c=((dK s op 8 0),8):=by rw[dR,show gj s c=8 by rw[gj,if_pos ⟨h21,by rw[hv];rfl⟩]];exact if_pos (by decide)
 exact jX e;refine PS ?_
 iterate 5 refine UF ?_
 refine PS ?_;refine nx J4 (CN (qx J3 (aa λ_ J11=>sr λ_ J12=>cB (H':=cK V r s::[an b7 (ints c.flat) 33]) (λ_ q=>ow hv (aE [0,0] rfl q)) (P2 ?_))));refine aq ?_ ?_<;>intro h30
 · exact absurd h30 (by first|decide|exact h21)
 refine nx J12 (CN (qx J11 (sr λ_ J13=>P3 ?_)));refine CZ uj (fi V r s op ((cm s.view c).2) 0 (by first|exact hrs| (rw[jf];exact hrs))) ID λvR=>?_
 refine nx J13 (aa λ_ J14=>sr λ_ J15=>P2 ?_);refine aq ?_ ?_<;>intro h39
 · exact absurd h39 (by first|decide|exact h30)
 refine nx J15 (CN (qx J14 (sr λ_ J16=>P2 ?_)));refine nx J16 (ak (WK [0] (aw rfl rfl ?_)));have e:dR V.toDk s op c=((dK s op ((cm s.view c).2) 0),(cm s.view c).2):=by rw[dR,show gj s c=(cm s.view c).2 by rw[gj,if_neg (λh=>h30 h.1)]];exact if_pos (by exact h30)
 exact jX e;refine DC bo (cV 1 rfl rfl) (BL 0) ?_;refine PD 0 ?_;refine PD 1 ?_;refine FD 2 2 db be ?_;refine ta 3 rfl (gD (vs:=ints s.view.flat) rfl eL rfl be rfl (λ_ h=>h.2.1) (ai s.view) (λa_=>(gy (s.rep a_) 0 rfl (by decide) (bn (ai ((s.rep a_).view)))))) ?_;refine LY 4 nt fR aK ?_;refine cQ [5,9] (by kernel_rfl) rfl (aH rfl ?_ ?_);refine CE mI (dq s.view c OkVw.rng) ID ?_;refine EN (PD 6 ?_);refine PD 7 ?_;refine PD 8 ?_;refine AL 9 ?_;refine XZ pM (ints ViewT.zero.flat) λb9=>?_
 refine EN (AL 10 ?_);refine SW 0 be ai ?_;refine EN (PD 11 ?_);refine DN ?_
 exact aG
  SB
  (λ_ s=>ao [2,1] rfl s)
  (tl2 (():Unit) trivial)
 refine aH rfl ?_ ?_;refine XZ pM (ints ViewT.zero.flat) λb9=>?_
 refine EN (AL 5 ?_);refine CE mI (dq s.view c OkVw.rng) ID ?_;refine EN (PD 6 ?_);refine PD 7 ?_;refine PD 8 ?_;refine AL 10 ?_;refine SW 0 be ai ?_;refine EN (PD 11 ?_);refine DN ?_
 exact aG
  SB
  (λ_ s=>ao [2,1] rfl s)
  (tl2 (():Unit) trivial)
 exact bL
theorem Ba{δ:Type}(V:Env δ)(r:Nat)(s:MS δ)(op:Int)(c:ChangeT)[OkR V.toDk s][OkCh c](hrs:s.replies.length≤1000000):DT 52 #[.pointer (some ⟨r,0,none⟩), .iface V.T V.ov, .int .i64 op, .agg (ints c.flat).toArray] T0 [cK V r s] (RI (.int .i64 (dR V.toDk s op c).2) [cK V r (dR V.toDk s op c).1]):=by
 cases hv:s.vote with
 |none=>exact Bc V r s op c hrs hv
 |some vt=>exact Bb V r s vt op c hrs hv
theorem wU{δ:Type}(V:Env δ)(r:Nat)(s:MS δ)(o:OpT):DT 53 #[.pointer (some ⟨r,0,none⟩), .agg (ints o.flat).toArray] T0 [cK V r s] (RI (.tuple #[.agg (ints (dr s o).1.flat).toArray, .int .i64 (dr s o).2.1, .int .i64 (dr s o).2.2]) [cK V r s]):=Leg.Does.hid (λa=>G2 r (s.rep a) o)
theorem A6{δ:Type}(V:Env δ)(r:Nat)(s:MS δ)(o:OpT)[OkR V.toDk s][OkCh o.change](hrs:s.replies.length≤1000000):
 DT 27 #[(.pointer (some ⟨r,0,none⟩)),(.iface V.T V.ov),(.agg (ints o.flat).toArray)] T0 [cK V r s] (RI (.int .i64 (cb V.toDk s o).2) [cK V r (cb V.toDk s o).1]):=by
 refine BD 74 Tryz.func27 rfl rfl rfl λw0 F hF=>sr λ_ J1=>XY (ints o.flat) λb5=>?_
 refine PS ?_;refine nx J1 (sr λ_ J2=>P2 ?_);refine FA 1941 db aQ ?_;refine LG 1 Y3 (.int .i64 (s.ops)) ?_ (hc:=by exact λa_=>(RepT.at_ops _ rfl));refine tp (cG (r:=(gX (s.ops+1))) rfl rfl rfl rfl) ?_;refine PS ?_;refine FA 1941 db aQ ?_;refine SK 1 aQ (λ_=>cU _) ?_ (hc:=by exact λa_=>(RepT.set_ops _ rfl _));refine nx J2 (sr λ_ J3=>P2 ?_);refine FA 1941 db aQ ?_;refine LG 1 Y3 (.int .i64 ((bP s).ops)) ?_ (hc:=by exact λa_=>(RepT.at_ops _ rfl));refine PS ?_;refine nx J3 (aa λ_ J4=>aa λ_ J5=>DC bo (cV 1 rfl rfl) (BL 0) ?_);refine PD 0 ?_;refine PD 1 ?_;refine FD 2 2 db be ?_;refine ta 3 rfl (gD (vs:=ints ((bP s).view).flat) rfl eL rfl be rfl (λ_ h=>h.2.1) (ai ((bP s).view)) (λa_=>(gy ((bP s).rep a_) 0 rfl (by decide) (bn (ai (((bP s).rep a_).view)))))) ?_;refine PD 4 ?_;refine PD 5 ?_;refine FD 6 0 db aQ ?_;refine ta 7 rfl (df (v:=(.int .i64 ((bP s).id))) rfl Y3 rfl rfl (λ_ h=>h.2.1) (λa_=>(cF _ rfl))) ?_;refine AL 8 ?_;refine CE qh (dH ((bP s).view) ((bP s).id)) ID ?_;refine bh ?_ ?_<;>intro h30;refine EN (PD 9 ?_);refine FD 10 0 fT aQ ?_;refine LR 11 Y3 (c7 o rfl) ?_;refine PD 12 ?_;refine jT ?_ ?_<;>intro h34;refine PD 13 ?_;refine DN (af J5 (CY (sr λ_ J6=>P3 ?_)));refine FA 5 fT fR ?_;refine LV 0 nt fR aK OpT.sp_change (y:=o.change) ?_;refine CE Pv (Ba V r (bP s) ((bP s).ops) o.change hrs) (SM [1]) ?_;refine PS ?_;refine nx J6 (ak (ae (WK [0] (aw rfl rfl ?_))))
 have e:cb V.toDk s o=((dR V.toDk (bP s) ((bP s).ops) o.change).1,(dR V.toDk (bP s) (bP s).ops o.change).2):=by rw[cb,show gA s.view s.id=true from h30,decide_eq_true h34,if_pos (by rfl)]
 exact jX e;refine PD 13 ?_;refine DN (af J5 (CN (qx J4 (sr λ_ J7=>PS ?_))));refine LW 0 fT BM pR ?_;refine CE Nw (wU V r (bP s) o) (SM [1]) ?_;refine P4 ?_;refine XZ vS (ints RowT.zero.flat) λb8=>?_
 refine SW 0 bj am ?_;refine P2 ?_;refine nx J7 (aa λ_ J8=>sr λ_ J9=>P2 ?_);refine aq ?_ ?_<;>intro h50;refine PS ?_
 iterate 3 refine UT ?_
 refine PS ?_;refine nx J9 (CY (sr λ_ J10=>P4 ?_));refine CZ uj (fi V r (bP s) ((bP s).ops) ((dr (bP s) o).2.2) ((dr (bP s) o).2.1) (by first|exact hrs| (rw[jP];exact hrs))) (SM [1]) λvR=>?_
 refine nx J10 (sr λ_ J11=>P2 ?_);refine nx J11 (ak (ae (WK [0] (aw rfl rfl ?_))));have e:cb V.toDk s o=((dK (bP s) ((bP s).ops) ((dr (bP s) o).2.2) ((dr (bP s) o).2.1)),(dr (bP s) o).2.2):=by rw[cb,show gA s.view s.id=true from h30,decide_eq_false h34,if_neg (by decide),od,if_pos (.inl h50)]
 exact jX e;refine PS ?_;refine FA 0 fT aQ ?_;refine LU 2 Y3 (c7 o rfl) ?_;refine PS ?_;refine aq ?_ ?_<;>intro h54;refine PS ?_;refine nx J9 (CY (sr λ_ J12=>P4 ?_));refine CZ uj (fi V r (bP s) ((bP s).ops) ((dr (bP s) o).2.2) ((dr (bP s) o).2.1) (by first|exact hrs| (rw[jP];exact hrs))) (SM [1]) λvR=>?_
 refine nx J12 (sr λ_ J13=>P2 ?_);refine nx J13 (ak (ae (WK [0] (aw rfl rfl ?_))));have e:cb V.toDk s o=((dK (bP s) ((bP s).ops) ((dr (bP s) o).2.2) ((dr (bP s) o).2.1)),(dr (bP s) o).2.2):=by rw[cb,show gA s.view s.id=true from h30,decide_eq_false h34,if_neg (by decide),od,if_pos (.inr h54)]
 exact jX e;refine PS ?_;refine nx J9 (CN (qx J8 (aa λ_ J14=>sr λ_ J15=>P2 ?_)));refine LW 0 ez bj am ?_;refine PS ?_;refine CE Mu (rQ V r (bP s) ((dr (bP s) o).1) ((bP s).ops)) (SM [1]) ?_;refine PS ?_;refine nx J15 (sr λ_ J16=>P2 ?_);refine aq ?_ ?_<;>intro h68;refine nx J16 (CY (ag (P3 ?_)));refine CZ uj (fi V r ((e9 V.toDk (bP s) ((dr (bP s) o).1) ((bP s).ops)).1) ((bP s).ops) ((e9 V.toDk (bP s) ((dr (bP s) o).1) ((bP s).ops)).2) 0 (by first|exact hrs| (rw[jP];exact hrs))) ID λvR=>?_
 refine nx J14 (sr λ_ J17=>P2 ?_);refine nx J17 (ak (WK [0] (aw rfl rfl ?_)));have e:cb V.toDk s o=((dK ((e9 V.toDk (bP s) ((dr (bP s) o).1) ((bP s).ops)).1) ((bP s).ops) ((e9 V.toDk (bP s) ((dr (bP s) o).1) ((bP s).ops)).2) 0),(e9 V.toDk (bP s) (dr (bP s) o).1 (bP s).ops).2):=by rw[cb,show gA s.view s.id=true from h30,decide_eq_false h34,if_neg (by decide),od,if_neg (λh=>h.elim (λh=>h50 h) (λh=>h54 h)),if_pos h68]
 exact jX e;refine nx J16 (CN (qx J14 (sr λ_ J18=>P2 ?_)));refine nx J18 (ak (WK [0] (aw rfl rfl ?_)));have e:cb V.toDk s o=((e9 V.toDk (bP s) ((dr (bP s) o).1) ((bP s).ops)).1,(e9 V.toDk (bP s) (dr (bP s) o).1 (bP s).ops).2):=by rw[cb,show gA s.view s.id=true from h30,decide_eq_false h34,if_neg (by decide),od,if_neg (λh=>h.elim (λh=>h50 h) (λh=>h54 h)),if_neg h68,show(e9 V.toDk (bP s) (dr (bP s) o).1 (bP s).ops).2=0 from Decidable.not_not.1 h68]
 exact jX e;refine EN (PD 9 ?_);refine NT 10 ?_;refine NT 11 ?_;refine NT 12 ?_;refine PD 13 ?_;refine DN (af J5 (CN (qx J4 (sr λ_ J19=>PS ?_))));refine LW 0 fT BM pR ?_;refine CE Nw (wU V r (bP s) o) (SM [1]) ?_;refine P4 ?_;refine XZ vS (ints RowT.zero.flat) λb8=>?_
 refine SW 0 bj am ?_;refine P2 ?_;refine nx J19 (aa λ_ J20=>sr λ_ J21=>P2 ?_);refine aq ?_ ?_<;>intro h50;refine PS ?_
 iterate 3 refine UT ?_
 refine PS ?_;refine nx J21 (CY (sr λ_ J22=>P4 ?_));refine CZ uj (fi V r (bP s) ((bP s).ops) ((dr (bP s) o).2.2) ((dr (bP s) o).2.1) (by first|exact hrs| (rw[jP];exact hrs))) (SM [1]) λvR=>?_
 refine nx J22 (sr λ_ J23=>P2 ?_);refine nx J23 (ak (ae (WK [0] (aw rfl rfl ?_))));have e:cb V.toDk s o=((dK (bP s) ((bP s).ops) ((dr (bP s) o).2.2) ((dr (bP s) o).2.1)),(dr (bP s) o).2.2):=by rw[cb,show gA s.view s.id=false from h30,if_neg (by rw[ik];decide),od,if_pos (.inl h50)]
 exact jX e;refine PS ?_;refine FA 0 fT aQ ?_;refine LU 2 Y3 (c7 o rfl) ?_;refine PS ?_;refine aq ?_ ?_<;>intro h54;refine PS ?_;refine nx J21 (CY (sr λ_ J24=>P4 ?_));refine CZ uj (fi V r (bP s) ((bP s).ops) ((dr (bP s) o).2.2) ((dr (bP s) o).2.1) (by first|exact hrs| (rw[jP];exact hrs))) (SM [1]) λvR=>?_
 refine nx J24 (sr λ_ J25=>P2 ?_);refine nx J25 (ak (ae (WK [0] (aw rfl rfl ?_))));have e:cb V.toDk s o=((dK (bP s) ((bP s).ops) ((dr (bP s) o).2.2) ((dr (bP s) o).2.1)),(dr (bP s) o).2.2):=by rw[cb,show gA s.view s.id=false from h30,if_neg (by rw[ik];decide),od,if_pos (.inr h54)]
 exact jX e;refine PS ?_;refine nx J21 (CN (qx J20 (aa λ_ J26=>sr λ_ J27=>P2 ?_)));refine LW 0 ez bj am ?_;refine PS ?_;refine CE Mu (rQ V r (bP s) ((dr (bP s) o).1) ((bP s).ops)) (SM [1]) ?_;refine PS ?_;refine nx J27 (sr λ_ J28=>P2 ?_);refine aq ?_ ?_<;>intro h68;refine nx J28 (CY (ag (P3 ?_)));refine CZ uj (fi V r ((e9 V.toDk (bP s) ((dr (bP s) o).1) ((bP s).ops)).1) ((bP s).ops) ((e9 V.toDk (bP s) ((dr (bP s) o).1) ((bP s).ops)).2) 0 (by first|exact hrs| (rw[jP];exact hrs))) ID λvR=>?_
 refine nx J26 (sr λ_ J29=>P2 ?_);refine nx J29 (ak (WK [0] (aw rfl rfl ?_)));have e:cb V.toDk s o=((dK ((e9 V.toDk (bP s) ((dr (bP s) o).1) ((bP s).ops)).1) ((bP s).ops) ((e9 V.toDk (bP s) ((dr (bP s) o).1) ((bP s).ops)).2) 0),(e9 V.toDk (bP s) (dr (bP s) o).1 (bP s).ops).2):=by rw[cb,show gA s.view s.id=false from h30,if_neg (by rw[ik];decide),od,if_neg (λh=>h.elim (λh=>h50 h) (λh=>h54 h)),if_pos h68]
 exact jX e;refine nx J28 (CN (qx J26 (sr λ_ J30=>P2 ?_)));refine nx J30 (ak (WK [0] (aw rfl rfl ?_)));have e:cb V.toDk s o=((e9 V.toDk (bP s) ((dr (bP s) o).1) ((bP s).ops)).1,(e9 V.toDk (bP s) (dr (bP s) o).1 (bP s).ops).2):=by rw[cb,show gA s.view s.id=false from h30,if_neg (by rw[ik];decide),od,if_neg (λh=>h.elim (λh=>h50 h) (λh=>h54 h)),if_neg h68,show(e9 V.toDk (bP s) (dr (bP s) o).1 (bP s).ops).2=0 from Decidable.not_not.1 h68]
 exact jX e
theorem Ed{δ:Type}(V:Env δ)(r:Nat)(s:MS δ)[OkR V.toDk s](hv:(gz V.toDk (cg V.toDk (bX V.toDk s))).vote=none):
 DT 29 #[(.pointer (some ⟨r,0,none⟩)),(.iface V.T V.ov)] T0 [cK V r s] (dL (λ_ H=>H=[cK V r (iL V.toDk s)])):=by
 refine BD 89 Tryz.func29 rfl rfl rfl λw0 F hF=>aa λ_ J1=>fo (α:=Unit) (λ_u=>True) (λ_u=>[(0,(.pointer (some ⟨r,0,none⟩))),(1,(.iface V.T V.ov))]) (λ_u=>[cK V r (if s.busy=true then fz V.toDk s else s)]) (λ_u hinv=>?_) (λtl1=>?_)
 have _:=hinv;refine af J1 (sr λ_ J2=>P2 ?_);refine CZ KC (pm V r (if s.busy=true then fz V.toDk s else s)) ID λvR=>?_
 refine nx J2 (sr λ_ J3=>P2 ?_);refine CZ Ms (qq V r (lZ V.toDk (if s.busy=true then fz V.toDk s else s))) ID λvR=>?_
 refine nx J3 (aa λ_ J4=>fo (α:=Unit) (λ_u=>True) (λ_u=>[(0,(.pointer (some ⟨r,0,none⟩))),(1,(.iface V.T V.ov))]) (λ_u=>[cK V r (cg V.toDk (bX V.toDk s))]) (λ_u hinv=>?_) (λtl4=>?_));have _:=hinv;refine af J4 (aa λ_ J5=>aa λ_ J6=>DB bo (cV 0 rfl rfl) ?_);refine PD 0 ?_;refine PD 1 ?_;refine FD 2 2 db be ?_;refine ta 3 rfl (gD (vs:=ints ((cg V.toDk (bX V.toDk s)).view).flat) rfl eL rfl be rfl (λ_ h=>h.2.1) (ai ((cg V.toDk (bX V.toDk s)).view)) (λa_=>(gy ((cg V.toDk (bX V.toDk s)).rep a_) 0 rfl (by decide) (bn (ai (((cg V.toDk (bX V.toDk s)).rep a_).view)))))) ?_;refine PD 4 ?_;refine PD 5 ?_;refine FD 6 0 db aQ ?_;refine ta 7 rfl (df (v:=(.int .i64 ((cg V.toDk (bX V.toDk s)).id))) rfl Y3 rfl rfl (λ_ h=>h.2.1) (λa_=>(cF _ rfl))) ?_;refine AL 8 ?_;refine CE qh (dH ((cg V.toDk (bX V.toDk s)).view) ((cg V.toDk (bX V.toDk s)).id)) ID ?_;refine bh ?_ ?_<;>intro h42;refine EN (PD 9 ?_);refine DN (af J6 (CN (qx J5 (aa λ_ J7=>fo (α:=Unit) (λ_u=>True) (λ_u=>[(0,(.pointer (some ⟨r,0,none⟩))),(1,(.iface V.T V.ov))]) (λ_u=>[cK V r (gz V.toDk (cg V.toDk (bX V.toDk s)))]) (λ_u hinv=>?_) (λtl7=>?_)))));have _:=hinv;refine af J7 (aa λ_ J8=>sr λ_ J9=>cB (H':=vO V r (gz V.toDk (cg V.toDk (bX V.toDk s))) (.pointer none)::[]) (λ_ q=>sV hv q) (P2 ?_));refine FA 1067 db m8 ?_;refine LG 0 pI (.pointer none) ?_ (hc:=by exact λa_=>(bZ _ rfl))
 refine tp (Qs rfl pI rfl rfl) ?_;refine nx J9 (CY (ak (ae (aG (H':=[cK V r (gz V.toDk (cg V.toDk (bX V.toDk s)))]) (dP _) (λ_ q=>ox hv (ao [0] rfl q)) (dM rfl ?_)))));exact MQ (by rw[iL,if_pos h42,p4,hv]);refine aa λ_ J10=>fo (α:=(Nat)) (λb4=>True) (λb4=>[(0,(.pointer (some ⟨r,0,none⟩))),(1,(.iface V.T V.ov)),(4,(.pointer (some ⟨b4,0,none⟩)))]) (λb4=>[cK V r (cg V.toDk (bX V.toDk s)),an b4 (ints (cC (cg V.toDk (bX V.toDk s)).book (cg V.toDk (bX V.toDk s)).id).flat) 51]) (λb4 hinv=>?_) (λtl10=>?_)
 have _:=hinv;refine af J10 (sr λ_ J11=>FA 0 ez aQ ?_);refine LT 1 Y3 (.int .i64 ((cC (cg V.toDk (bX V.toDk s)).book (cg V.toDk (bX V.toDk s)).id).version)) ?_ (hc:=by exact cJ _ rfl);refine PS ?_;refine aq ?_ ?_<;>intro h54;refine nx J11 (CY (ag (P2 ?_)));refine LW 1 ez bj am ?_;refine CZ Mq (m7 V r (cg V.toDk (bX V.toDk s)) (cC (cg V.toDk (bX V.toDk s)).book (cg V.toDk (bX V.toDk s)).id)) ID λvR=>?_
 refine ax ?_
 exact aG
  SB
  (λ_ q=>by
   rw[gz,if_pos h54]
   exact ao [0] rfl q)
  (tl7 (():Unit) trivial)
 refine nx J11 (CN (aT ?_))
 exact aG
  SB
  (λ_ q=>by
   rw[gz,if_neg h54]
   exact ao [0] rfl q)
  (tl7 (():Unit) trivial)
 refine DB bo (cV 0 rfl rfl) ?_;refine PD 0 ?_;refine PD 1 ?_;refine FD 2 1068 db BI ?_;refine PD 3 ?_;refine PD 4 ?_;refine FD 5 0 db aQ ?_;refine ta 6 rfl (df (v:=(.int .i64 ((cg V.toDk (bX V.toDk s)).id))) rfl Y3 rfl rfl (λ_ h=>h.2.1) (λa_=>(cF _ rfl))) ?_;refine cQ [7,8] (by kernel_rfl) rfl (aH rfl ?_ ?_);refine CE KB (Leg.Does.hid (λa_=>mQ r 1068 94 _ (gC ((cg V.toDk (bX V.toDk s)).rep a_)) (cg V.toDk (bX V.toDk s)).book ((cg V.toDk (bX V.toDk s)).id))) ID ?_;refine EN (AL 8 ?_);refine XZ vS (ints RowT.zero.flat) λb4=>?_
 refine EN (AL 9 ?_);refine SW 0 bj am ?_;refine EN (DN ?_)
 exact aG
  SB
  (λ_ s=>ao [1,0] rfl s)
  (tl10 ((b4):(Nat)) trivial)
 refine aH rfl ?_ ?_;refine XZ vS (ints RowT.zero.flat) λb4=>?_
 refine EN (AL 7 ?_);refine CE KB (Leg.Does.hid (λa_=>mQ r 1068 94 _ (gC ((cg V.toDk (bX V.toDk s)).rep a_)) (cg V.toDk (bX V.toDk s)).book ((cg V.toDk (bX V.toDk s)).id))) (SM [1]) ?_;refine EN (AL 9 ?_);refine SW 1 bj am ?_;refine EN (DN ?_)
 exact aG
  SB
  (λ_ s=>ao [0,0] rfl s)
  (tl10 ((b4):(Nat)) trivial)
 exact bL;refine EN (PD 9 ?_);refine DN (af J6 (CY (ak (ae (WK [0] (dM rfl ?_))))));exact MQ (by rw[iL,if_neg (by rw[h42];decide)]);refine sr λ_ J12=>P2 ?_
 refine FA 2 db be ?_;refine FA 2 eL aQ ?_;refine LG 0 Y3 (.int .i64 (((bX V.toDk s).view).epoch)) ?_ (hc:=by exact λa_=>(cp ((bX V.toDk s).rep a_) 0 rfl (by decide) (bf _ rfl)));refine PS ?_;refine aq ?_ ?_<;>intro h26;refine nx J12 (CY (ag (P4 ?_)));refine FA 2 db be ?_;refine LZ 0 eL be ai ((bX V.toDk s).view) ?_ (hc:=by exact λ_=>cT _);refine CZ Mr (m6 V r (bX V.toDk s) ((bX V.toDk s).view)) ID λvR=>?_
 refine ax ?_
 exact aG
  SB
  (λ_ q=>by
   rw[cg,if_pos h26]
   exact ao [0] rfl q)
  (tl4 (():Unit) trivial)
 refine nx J12 (CN (aT ?_))
 exact aG
  SB
  (λ_ q=>by
   rw[cg,if_neg h26]
   exact ao [0] rfl q)
  (tl4 (():Unit) trivial)
 refine sr λ_ J13=>P2 ?_
 refine FA 1938 db lm ?_;refine LG 0 Y4 (.bool (s.busy)) ?_ (hc:=by exact λa_=>(yy _ rfl));refine bh ?_ ?_<;>intro h11;refine nx J13 (CY (ag (P2 ?_)));refine CZ Mt (nZ V r s) ID λvR=>?_
 refine ax ?_
 exact aG
  SB
  (λ_ q=>by
   rw[if_pos h11]
   exact ao [0] rfl q)
  (tl1 (():Unit) trivial)
 refine nx J13 (CN (aT ?_))
 exact aG
  SB
  (λ_ q=>by
   rw[if_neg (by rw[h11];decide)]
   exact ao [0] rfl q)
  (tl1 (():Unit) trivial)
theorem Ec{δ:Type}(V:Env δ)(r:Nat)(s:MS δ)(vt:VoteT)[OkR V.toDk s](hv:(gz V.toDk (cg V.toDk (bX V.toDk s))).vote=some vt):
 DT 29 #[(.pointer (some ⟨r,0,none⟩)),(.iface V.T V.ov)] T0 [cK V r s] (dL (λ_ H=>H=[cK V r (iL V.toDk s)])):=by
 refine BD 89 Tryz.func29 rfl rfl rfl λw0 F hF=>?_
 have hov:OkVt vt:=OkR.vote vt hv;refine aa λ_ J1=>fo (α:=Unit) (λ_u=>True) (λ_u=>[(0,(.pointer (some ⟨r,0,none⟩))),(1,(.iface V.T V.ov))]) (λ_u=>[cK V r (if s.busy=true then fz V.toDk s else s)]) (λ_u hinv=>?_) (λtl1=>?_)
 have _:=hinv;refine af J1 (sr λ_ J2=>P2 ?_);refine CZ KC (pm V r (if s.busy=true then fz V.toDk s else s)) ID λvR=>?_
 refine nx J2 (sr λ_ J3=>P2 ?_);refine CZ Ms (qq V r (lZ V.toDk (if s.busy=true then fz V.toDk s else s))) ID λvR=>?_
 refine nx J3 (aa λ_ J4=>fo (α:=Unit) (λ_u=>True) (λ_u=>[(0,(.pointer (some ⟨r,0,none⟩))),(1,(.iface V.T V.ov))]) (λ_u=>[cK V r (cg V.toDk (bX V.toDk s))]) (λ_u hinv=>?_) (λtl4=>?_));have _:=hinv;refine af J4 (aa λ_ J5=>aa λ_ J6=>DB bo (cV 0 rfl rfl) ?_);refine PD 0 ?_;refine PD 1 ?_;refine FD 2 2 db be ?_;refine ta 3 rfl (gD (vs:=ints ((cg V.toDk (bX V.toDk s)).view).flat) rfl eL rfl be rfl (λ_ h=>h.2.1) (ai ((cg V.toDk (bX V.toDk s)).view)) (λa_=>(gy ((cg V.toDk (bX V.toDk s)).rep a_) 0 rfl (by decide) (bn (ai (((cg V.toDk (bX V.toDk s)).rep a_).view)))))) ?_;refine PD 4 ?_;refine PD 5 ?_;refine FD 6 0 db aQ ?_;refine ta 7 rfl (df (v:=(.int .i64 ((cg V.toDk (bX V.toDk s)).id))) rfl Y3 rfl rfl (λ_ h=>h.2.1) (λa_=>(cF _ rfl))) ?_;refine AL 8 ?_;refine CE qh (dH ((cg V.toDk (bX V.toDk s)).view) ((cg V.toDk (bX V.toDk s)).id)) ID ?_;refine bh ?_ ?_<;>intro h42;refine EN (PD 9 ?_);refine DN (af J6 (CN (qx J5 (aa λ_ J7=>fo (α:=Unit) (λ_u=>True) (λ_u=>[(0,(.pointer (some ⟨r,0,none⟩))),(1,(.iface V.T V.ov))]) (λ_u=>[cK V r (gz V.toDk (cg V.toDk (bX V.toDk s)))]) (λ_u hinv=>?_) (λtl7=>?_)))));have _:=hinv;refine af J7 (aa λ_ J8=>sr λ_ J9=>L3 (H':=λvb:Nat=>vO V r (gz V.toDk (cg V.toDk (bX V.toDk s))) (.pointer (some ⟨vb,0,none⟩))::an vb (VoteT.cells vt) 187::[]) (λ_ q=>nh hv q) (λvb=>P2 ?_));refine FA 1067 db m8 ?_
 refine LG 0 pI (.pointer (some ⟨vb,0,none⟩)) ?_ (hc:=by exact λa_=>(bZ _ rfl));refine tp (km rfl pI rfl rfl) ?_;refine nx J9 (CN (qx J8 (sr λ_ J10=>P2 ?_)));refine FA 1067 db m8 ?_;refine LG 0 pI (.pointer (some ⟨vb,0,none⟩)) ?_ (hc:=by exact λa_=>(bZ _ rfl));refine CE ui (c8 vb vt) (SM [1]) ?_;change TL _ _ _ _ _ _ _ _ _ [an vb (VoteT.cells vt) 187,vO V r (gz V.toDk (cg V.toDk (bX V.toDk s))) (.pointer (some ⟨vb,0,none⟩))];refine cB (H':=cK V r (gz V.toDk (cg V.toDk (bX V.toDk s)))::[]) (λ_ q=>ow hv (aE [1,0] rfl q)) (XZ OO (ints ChangeT.zero.flat) λb5=>?_);refine SW 0 fR aK ?_;refine nx J10 (aa λ_ J11=>fo (α:=Unit) (λ_u=>True) (λ_u=>[(0,(.pointer (some ⟨r,0,none⟩))),(1,(.iface V.T V.ov)),(5,(.pointer (some ⟨b5,0,none⟩))),(7,(.int .i64 ((cm (gz V.toDk (cg V.toDk (bX V.toDk s))).view vt.change).2)))]) (λ_u=>[cK V r (gz V.toDk (cg V.toDk (bX V.toDk s))),an b5 (ints vt.change.flat) 33]) (λ_u hinv=>?_) (λtl11=>?_));have _:=hinv;refine af J11 (sr λ_ J12=>P2 ?_);refine aq ?_ ?_<;>intro h79;refine P2 ?_;refine LW 1 nt fR aK ?_;refine CE Mp (qv V r (gz V.toDk (cg V.toDk (bX V.toDk s))) vt.change) ID ?_;refine PS ?_;refine aq ?_ ?_<;>intro h84;refine PS ?_;refine nx J12 (CY (ag (P2 ?_)))
 refine CZ KA (rG V r ((cD V.toDk (gz V.toDk (cg V.toDk (bX V.toDk s))) vt.change).1) (iA (gz V.toDk (cg V.toDk (bX V.toDk s))).view (dx (gz V.toDk (cg V.toDk (bX V.toDk s)))) vt.change) (rU h84)) ID λvR=>?_
 refine ax (WK [0] (bE rfl ?_));exact MQ (by rw[iL,if_pos h42,p4,hv];simp only[];rw[if_pos h79,if_pos h84]);refine PS ?_;refine nx J12 (CN (aT (WK [0] (bE rfl ?_))));exact MQ (by rw[iL,if_pos h42,p4,hv];simp only[];rw[if_pos h79,if_neg h84]);refine PS ?_
 iterate 4 refine UF ?_
 refine PS ?_;refine nx J12 (CN (aT (WK [0] (bE rfl ?_))));exact MQ (by rw[iL,if_pos h42,p4,hv];simp only[];rw[if_neg h79]);refine DC bo (cV 1 rfl rfl) (BL 0) ?_;refine PD 0 ?_;refine PD 1 ?_;refine FD 2 2 db be ?_;refine ta 3 rfl (gD (vs:=ints ((gz V.toDk (cg V.toDk (bX V.toDk s))).view).flat) rfl eL rfl be rfl (λ_ h=>h.2.1) (ai ((gz V.toDk (cg V.toDk (bX V.toDk s))).view)) (λa_=>(gy ((gz V.toDk (cg V.toDk (bX V.toDk s))).rep a_) 0 rfl (by decide) (bn (ai (((gz V.toDk (cg V.toDk (bX V.toDk s))).rep a_).view)))))) ?_;refine LY 4 nt fR aK ?_;refine cQ [5,9] (by kernel_rfl) rfl (aH rfl ?_ ?_);refine CE mI (dq ((gz V.toDk (cg V.toDk (bX V.toDk s))).view) vt.change OkVw.rng) ID ?_;refine EN (PD 6 ?_);refine PD 7 ?_;refine PD 8 ?_;refine AL 9 ?_;refine XZ pM (ints ViewT.zero.flat) λb6=>?_
 refine EN (AL 10 ?_);refine SW 0 be ai ?_;refine EN (PD 11 ?_);refine DN ?_
 exact aG
  SB
  (λ_ s=>ao [2,1] rfl s)
  (tl11 (():Unit) trivial)
 refine aH rfl ?_ ?_;refine XZ pM (ints ViewT.zero.flat) λb6=>?_
 refine EN (AL 5 ?_);refine CE mI (dq ((gz V.toDk (cg V.toDk (bX V.toDk s))).view) vt.change OkVw.rng) ID ?_;refine EN (PD 6 ?_);refine PD 7 ?_;refine PD 8 ?_;refine AL 10 ?_;refine SW 0 be ai ?_;refine EN (PD 11 ?_);refine DN ?_
 exact aG
  SB
  (λ_ s=>ao [2,1] rfl s)
  (tl11 (():Unit) trivial)
 exact bL;refine aa λ_ J13=>fo (α:=(Nat)) (λb4=>True) (λb4=>[(0,(.pointer (some ⟨r,0,none⟩))),(1,(.iface V.T V.ov)),(4,(.pointer (some ⟨b4,0,none⟩)))]) (λb4=>[cK V r (cg V.toDk (bX V.toDk s)),an b4 (ints (cC (cg V.toDk (bX V.toDk s)).book (cg V.toDk (bX V.toDk s)).id).flat) 51]) (λb4 hinv=>?_) (λtl13=>?_)
 have _:=hinv;refine af J13 (sr λ_ J14=>FA 0 ez aQ ?_);refine LT 1 Y3 (.int .i64 ((cC (cg V.toDk (bX V.toDk s)).book (cg V.toDk (bX V.toDk s)).id).version)) ?_ (hc:=by exact cJ _ rfl);refine PS ?_;refine aq ?_ ?_<;>intro h54;refine nx J14 (CY (ag (P2 ?_)));refine LW 1 ez bj am ?_;refine CZ Mq (m7 V r (cg V.toDk (bX V.toDk s)) (cC (cg V.toDk (bX V.toDk s)).book (cg V.toDk (bX V.toDk s)).id)) ID λvR=>?_
 refine ax ?_
 exact aG
  SB
  (λ_ q=>by
   rw[gz,if_pos h54]
   exact ao [0] rfl q)
  (tl7 (():Unit) trivial)
 refine nx J14 (CN (aT ?_))
 exact aG
  SB
  (λ_ q=>by
   rw[gz,if_neg h54]
   exact ao [0] rfl q)
  (tl7 (():Unit) trivial)
 refine DB bo (cV 0 rfl rfl) ?_;refine PD 0 ?_;refine PD 1 ?_;refine FD 2 1068 db BI ?_;refine PD 3 ?_;refine PD 4 ?_;refine FD 5 0 db aQ ?_;refine ta 6 rfl (df (v:=(.int .i64 ((cg V.toDk (bX V.toDk s)).id))) rfl Y3 rfl rfl (λ_ h=>h.2.1) (λa_=>(cF _ rfl))) ?_;refine cQ [7,8] (by kernel_rfl) rfl (aH rfl ?_ ?_);refine CE KB (Leg.Does.hid (λa_=>mQ r 1068 94 _ (gC ((cg V.toDk (bX V.toDk s)).rep a_)) (cg V.toDk (bX V.toDk s)).book ((cg V.toDk (bX V.toDk s)).id))) ID ?_;refine EN (AL 8 ?_);refine XZ vS (ints RowT.zero.flat) λb4=>?_
 refine EN (AL 9 ?_);refine SW 0 bj am ?_;refine EN (DN ?_)
 exact aG
  SB
  (λ_ s=>ao [1,0] rfl s)
  (tl13 ((b4):(Nat)) trivial)
 refine aH rfl ?_ ?_;refine XZ vS (ints RowT.zero.flat) λb4=>?_
 refine EN (AL 7 ?_);refine CE KB (Leg.Does.hid (λa_=>mQ r 1068 94 _ (gC ((cg V.toDk (bX V.toDk s)).rep a_)) (cg V.toDk (bX V.toDk s)).book ((cg V.toDk (bX V.toDk s)).id))) (SM [1]) ?_;refine EN (AL 9 ?_);refine SW 1 bj am ?_;refine EN (DN ?_)
 exact aG
  SB
  (λ_ s=>ao [0,0] rfl s)
  (tl13 ((b4):(Nat)) trivial)
 exact bL;refine EN (PD 9 ?_);refine DN (af J6 (CY (ak (ae (WK [0] (dM rfl ?_))))));exact MQ (by rw[iL,if_neg (by rw[h42];decide)]);refine sr λ_ J15=>P2 ?_
 refine FA 2 db be ?_;refine FA 2 eL aQ ?_;refine LG 0 Y3 (.int .i64 (((bX V.toDk s).view).epoch)) ?_ (hc:=by exact λa_=>(cp ((bX V.toDk s).rep a_) 0 rfl (by decide) (bf _ rfl)));refine PS ?_;refine aq ?_ ?_<;>intro h26;refine nx J15 (CY (ag (P4 ?_)));refine FA 2 db be ?_;refine LZ 0 eL be ai ((bX V.toDk s).view) ?_ (hc:=by exact λ_=>cT _);refine CZ Mr (m6 V r (bX V.toDk s) ((bX V.toDk s).view)) ID λvR=>?_
 refine ax ?_
 exact aG
  SB
  (λ_ q=>by
   rw[cg,if_pos h26]
   exact ao [0] rfl q)
  (tl4 (():Unit) trivial)
 refine nx J15 (CN (aT ?_))
 exact aG
  SB
  (λ_ q=>by
   rw[cg,if_neg h26]
   exact ao [0] rfl q)
  (tl4 (():Unit) trivial)
 refine sr λ_ J16=>P2 ?_
 refine FA 1938 db lm ?_;refine LG 0 Y4 (.bool (s.busy)) ?_ (hc:=by exact λa_=>(yy _ rfl));refine bh ?_ ?_<;>intro h11;refine nx J16 (CY (ag (P2 ?_)));refine CZ Mt (nZ V r s) ID λvR=>?_
 refine ax ?_
 exact aG
  SB
  (λ_ q=>by
   rw[if_pos h11]
   exact ao [0] rfl q)
  (tl1 (():Unit) trivial)
 refine nx J16 (CN (aT ?_))
 exact aG
  SB
  (λ_ q=>by
   rw[if_neg (by rw[h11];decide)]
   exact ao [0] rfl q)
  (tl1 (():Unit) trivial)
theorem Eb{δ:Type}(V:Env δ)(r:Nat)(s:MS δ)[OkR V.toDk s]:DT 29 #[.pointer (some ⟨r,0,none⟩), .iface V.T V.ov] T0 [cK V r s] (dL (λ_ H=>H=[cK V r (iL V.toDk s)])):=by
 cases hv:(gz V.toDk (cg V.toDk (bX V.toDk s))).vote with
 |none=>exact Ed V r s hv
 |some vt=>exact Ec V r s vt hv
abbrev DX{δ:Type}(lg r:Nat)(s:MS δ):HP:=hid r (λ_:Unit=>RepT.cells (s.rep ⟨lg, .pointer none, .slice none 0 0⟩)) 94 (λ_=>[])
theorem u7{δ:Type}(lg r:Nat)(s:MS δ)(v:ViewT):
 DT 49 #[(.pointer (some ⟨r,0,none⟩)),(.agg (ints v.flat).toArray)] T0 [DX lg r s] (dL (λ_ H=>H=[DX lg r (mi s v)])):=by
 refine BD 20 Tryz.func49 rfl rfl rfl λw0 F hF=>sr λ_ J1=>XY (ints v.flat) λb3=>?_
 refine nx J1 (sr λ_ J2=>PS ?_);refine LW 0 eL be ai ?_;refine PS ?_;refine FA 2 db be ?_;refine iw (vs:=ints v.flat) (i:=1) (ab rfl) rfl rfl rfl rfl rfl (by rw[(ai v)];exact be) (bB _) rfl rfl (λ_=>LC (cU _) (ai _)) (λa_=>(PY (s.rep ⟨lg, .pointer none, .slice none 0 0⟩) 0 rfl (by have h1:=(ai v);omega) (cr ((ai ((s.rep ⟨lg, .pointer none, .slice none 0 0⟩).view)).trans (ai v).symm)))) (nx J2 (sr λ_ J3=>PS ?_));refine FA 0 eL aQ ?_;refine LU 0 Y3 (bf v rfl) ?_;refine tp (lu AccT.zero (AccT.mk v.epoch BallotT.zero BallotT.zero ChangeT.zero) [(0,[Value.int .i64 v.epoch])] pO oL (g:=AccT.sg)) ?_;refine PS ?_;refine FA 1058 db fU ?_;refine iw (vs:=ints (AccT.mk v.epoch BallotT.zero BallotT.zero ChangeT.zero).flat) (i:=1) (ab rfl) rfl rfl rfl rfl rfl (by rw[(bd (AccT.mk v.epoch BallotT.zero BallotT.zero ChangeT.zero))];exact fU) (bB _) rfl rfl (λ_=>LC (cU _) (bd _)) (λa_=>(kP ((MS.setView s v).rep ⟨lg, .pointer none, .slice none 0 0⟩) 0 rfl (by have h1:=(bd (AccT.mk v.epoch BallotT.zero BallotT.zero ChangeT.zero));omega) (cr ((bd (((MS.setView s v).rep ⟨lg, .pointer none, .slice none 0 0⟩).acc)).trans (bd (AccT.mk v.epoch BallotT.zero BallotT.zero ChangeT.zero)).symm)))) (nx J3 (sr λ_ J4=>P2 ?_));refine FA 1067 db m8 ?_;refine SK 1 m8 (λ_=>cU _) ?_ (hc:=by exact λa_=>(PZ _ rfl _));refine nx J4 (ag (P2 ?_));refine FA 1066 db aQ ?_;refine SK 1 aQ (λ_=>cU _) ?_ (hc:=by exact λa_=>(l6 _ rfl _))
 exact ax (WK [1] (bE rfl rfl))
theorem ya{δ:Type}(lg r:Nat)(s:MS δ)(m:RecT)(hw:WF m.row.flat):
 DT 51 #[(.pointer (some ⟨r,0,none⟩)),(.agg (ints m.flat).toArray)] T0 [DX lg r s] (dL (λ_ H=>H=[DX lg r (ig s m)])):=by
 refine BD 93 Tryz.func51 rfl rfl rfl λw0 F hF=>sr λ_ J1=>XY (ints m.flat) λb3=>?_
 refine nx J1 (sr λ_ J2=>FA 0 eC aQ ?_);refine LU 0 Y3 (kQ m rfl) ?_;refine nx J2 (av (sr λ_ J3=>PS ?_));refine aq ?_ ?_<;>intro h7;refine PS ?_;refine nx J3 (CY (ag (P3 ?_)));refine FA 2 eC bj ?_;refine LV 0 ez bj am RecT.sp_row (y:=m.row) ?_;refine PS ?_;refine FA 9 db bj ?_;refine iw (vs:=ints m.row.flat) (i:=1) (ab rfl) rfl rfl rfl rfl rfl (by rw[(am m.row)];exact bj) (bB _) rfl rfl (λ_=>LC (cU _) (am _)) (λa_=>(Qq (s.rep ⟨lg, .pointer none, .slice none 0 0⟩) 0 rfl (by have h1:=(am m.row);omega) (cr ((am ((s.rep ⟨lg, .pointer none, .slice none 0 0⟩).own)).trans (am m.row).symm)))) (PS ?_);refine FA 1938 db lm ?_;refine SK 1 lm (λ_=>cU _) ?_ (hc:=by exact λa_=>(P5 _ rfl _));refine PS ?_;refine FA 1939 db aQ ?_;refine SK 1 aQ (λ_=>cU _) ?_ (hc:=by exact λa_=>(P0 _ rfl _));refine ax (ah (WK [1] (bE rfl ?_)));exact congrArg (λq=>[DX lg r q]) (show(MS.setKept (MS.setBusy (MS.setOwn s m.row) true) 0)=ig s m by rw[ig,if_pos h7]<;>rfl);refine PS ?_;refine nx J3 (CN (sr λ_ J4=>PS ?_));refine aq ?_ ?_<;>intro h20;refine PS ?_;refine nx J4 (CY (D1 0 bo ?_));refine PD 0 ?_;refine PD 1 ?_;refine FD 2 183 db wl ?_;refine FD 3 1 eC aQ ?_;refine LR 4 Y3 (Gm m rfl) ?_;refine FD 5 2 eC bj ?_;refine ta 6 rfl (aL (vs:=ints m.row.flat) rfl ez rfl bj rfl (λ_ h=>h.2.1) (am m.row) (se m 0 rfl (by decide) (bn (am m.row)))) ?_;refine AL 7 ?_
 refine CE No (Leg.Does.hid (λa_=>sX r 183 94 _ (fp (s.rep ⟨lg, .pointer none, .slice none 0 0⟩)) s.mirror m.whose m.row hw)) (SM [1]) ?_;refine EN (DN (ah (WK [0] (bE rfl ?_))));exact congrArg (λq=>[DX lg r q]) (show(iO s m.whose m.row)=ig s m by rw[ig,if_neg h7,if_pos h20]<;>rfl);refine PS ?_;refine nx J4 (CN (sr λ_ J5=>PS ?_));refine aq ?_ ?_<;>intro h30;refine PS ?_;refine nx J5 (CY (D1 0 bo ?_));refine PD 0 ?_;refine PD 1 ?_;refine FD 2 183 db wl ?_;refine FD 3 1 eC aQ ?_;refine LR 4 Y3 (Gm m rfl) ?_;refine AL 5 ?_;refine CE Nn (Leg.Does.hid (λa_=>sW r 183 94 _ (fp (s.rep ⟨lg, .pointer none, .slice none 0 0⟩)) s.mirror m.whose)) (SM [1]) ?_;refine EN (DN (ah (WK [0] (bE rfl ?_))));exact congrArg (λq=>[DX lg r q]) (show(lG s m.whose)=ig s m by rw[ig,if_neg h7,if_neg h20,if_pos h30]<;>rfl);refine PS ?_;refine nx J5 (CN (sr λ_ J6=>PS ?_));refine aq ?_ ?_<;>intro h38;refine PS ?_;refine nx J6 (CY (sr λ_ J7=>PS ?_));refine FA 177 eC cA ?_;refine LV 0 kB cA ap RecT.sp_ballot (y:=m.ballot) ?_;refine PS ?_;refine FA 1058 db fU ?_;refine FA 1059 pO cA ?_
 refine iw (vs:=ints m.ballot.flat) (i:=1) (ab rfl) rfl rfl rfl rfl rfl (by rw[(ap m.ballot)];exact cA) (bB _) rfl rfl (λ_=>LC (cU _) (ap _)) (λa_=>(kP (s.rep ⟨lg, .pointer none, .slice none 0 0⟩) 1 rfl (by have h1:=(ap m.ballot);omega) (QB ((s.rep ⟨lg, .pointer none, .slice none 0 0⟩).acc) 0 rfl (by have h1:=(ap m.ballot);omega) (cr ((ap (((s.rep ⟨lg, .pointer none, .slice none 0 0⟩).acc).vow)).trans (ap m.ballot).symm))))) (nx J7 (D1 0 bo ?_));refine PD 0 ?_;refine PD 1 ?_;refine PD 2 ?_;refine FD 3 1066 db aQ ?_;refine FD 5 177 eC cA ?_;refine FD 6 177 kB aQ ?_;refine LX 7 Y3 (.int .i64 (m.ballot.round)) ?_ (hc:=by exact RecT.pt_ballot m 0 rfl (by decide) (fx m.ballot rfl));refine AL 4 ?_;refine LG 1 Y3 (.int .i64 (s.round)) ?_ (hc:=by exact λa_=>(vz _ rfl));refine EN (ta 8 rfl (yB rfl rfl rfl) ?_);refine PD 9 ?_;refine FD 10 1066 db aQ ?_;refine AL 11 ?_;refine SK 1 aQ (λ_=>cU _) ?_ (hc:=by exact λa_=>(l6 _ rfl _));refine EN (DN (ah (WK [1] (bE rfl ?_))));exact congrArg (λq=>[DX lg r q]) (show(MS.setRound (MS.setAcc s (AccT.mk s.acc.epoch m.ballot s.acc.had s.acc.change)) (max s.round m.ballot.round))=ig s m by rw[ig,if_neg h7,if_neg h20,if_neg h30,if_pos h38]<;>rfl);refine PS ?_;refine nx J6 (CN (sr λ_ J8=>PS ?_));refine aq ?_ ?_<;>intro h57;refine PS ?_;refine nx J8 (CY (aa λ_ J9=>D1 0 bo ?_));refine PD 0 ?_;refine PD 1 ?_;refine PD 2 ?_;refine FD 3 177 eC cA ?_
 refine ta 4 rfl (aL (vs:=ints m.ballot.flat) rfl kB rfl cA rfl (λ_ h=>h.2.1) (ap m.ballot) (qW m 0 rfl (by decide) (bn (ap m.ballot)))) ?_;refine FD 5 177 eC cA ?_;refine ta 6 rfl (aL (vs:=ints m.ballot.flat) rfl kB rfl cA rfl (λ_ h=>h.2.1) (ap m.ballot) (qW m 0 rfl (by decide) (bn (ap m.ballot)))) ?_;refine FD 7 179 eC fR ?_;refine ta 8 rfl (aL (vs:=ints m.change.flat) rfl nt rfl fR rfl (λ_ h=>h.2.1) (aK m.change) (MR m 0 rfl (by decide) (bn (aK m.change)))) ?_;refine PD 9 ?_;refine FD 10 1058 db fU ?_;refine FD 11 1059 pO cA ?_;refine AL 12 ?_;refine iw (vs:=ints m.ballot.flat) (i:=1) (ab rfl) rfl rfl rfl rfl rfl (by rw[(ap m.ballot)];exact cA) (bB _) rfl rfl (λ_=>LC (cU _) (ap _)) (λa_=>(kP (s.rep ⟨lg, .pointer none, .slice none 0 0⟩) 1 rfl (by have h1:=(ap m.ballot);omega) (QB ((s.rep ⟨lg, .pointer none, .slice none 0 0⟩).acc) 0 rfl (by have h1:=(ap m.ballot);omega) (cr ((ap (((s.rep ⟨lg, .pointer none, .slice none 0 0⟩).acc).vow)).trans (ap m.ballot).symm))))) (EN (PD 13 ?_));refine FD 14 1058 db fU ?_;refine FD 15 1061 pO cA ?_;refine AL 16 ?_
 refine iw (vs:=ints m.ballot.flat) (i:=1) (ab rfl) rfl rfl rfl rfl rfl (by rw[(ap m.ballot)];exact cA) (bB _) rfl rfl (λ_=>LC (cU _) (ap _)) (λa_=>(kP ((MS.setAcc s (AccT.mk s.acc.epoch m.ballot s.acc.had s.acc.change)).rep ⟨lg, .pointer none, .slice none 0 0⟩) 3 rfl (by have h1:=(ap m.ballot);omega) (AccT.wr_had_ (((MS.setAcc s (AccT.mk s.acc.epoch m.ballot s.acc.had s.acc.change)).rep ⟨lg, .pointer none, .slice none 0 0⟩).acc) 0 rfl (by have h1:=(ap m.ballot);omega) (cr ((ap ((((MS.setAcc s (AccT.mk s.acc.epoch m.ballot s.acc.had s.acc.change)).rep ⟨lg, .pointer none, .slice none 0 0⟩).acc).had)).trans (ap m.ballot).symm))))) (EN (PD 17 ?_));refine FD 18 1058 db fU ?_;refine FD 19 1063 pO fR ?_;refine AL 20 ?_;refine iw (vs:=ints m.change.flat) (i:=1) (ab rfl) rfl rfl rfl rfl rfl (by rw[(aK m.change)];exact fR) (bB _) rfl rfl (λ_=>LC (cU _) (aK _)) (λa_=>(kP ((MS.setAcc s (AccT.mk s.acc.epoch m.ballot m.ballot s.acc.change)).rep ⟨lg, .pointer none, .slice none 0 0⟩) 5 rfl (by have h1:=(aK m.change);omega) (AccT.wr_change_ (((MS.setAcc s (AccT.mk s.acc.epoch m.ballot m.ballot s.acc.change)).rep ⟨lg, .pointer none, .slice none 0 0⟩).acc) 0 rfl (by have h1:=(aK m.change);omega) (cr ((aK ((((MS.setAcc s (AccT.mk s.acc.epoch m.ballot m.ballot s.acc.change)).rep ⟨lg, .pointer none, .slice none 0 0⟩).acc).change)).trans (aK m.change).symm))))) (EN (DN (af J9 (D1 0 bo ?_))));refine PD 0 ?_;refine PD 1 ?_;refine PD 2 ?_
 refine FD 3 1066 db aQ ?_;refine FD 5 177 eC cA ?_;refine FD 6 177 kB aQ ?_;refine LX 7 Y3 (.int .i64 (m.ballot.round)) ?_ (hc:=by exact RecT.pt_ballot m 0 rfl (by decide) (fx m.ballot rfl));refine AL 4 ?_;refine LG 1 Y3 (.int .i64 (s.round)) ?_ (hc:=by exact λa_=>(vz _ rfl));refine EN (ta 8 rfl (yB rfl rfl rfl) ?_);refine PD 9 ?_;refine FD 10 1066 db aQ ?_;refine AL 11 ?_;refine SK 1 aQ (λ_=>cU _) ?_ (hc:=by exact λa_=>(l6 _ rfl _));refine EN (DN (ah (WK [1] (bE rfl ?_))));exact congrArg (λq=>[DX lg r q]) (show(MS.setRound (MS.setAcc s (AccT.mk s.acc.epoch m.ballot m.ballot m.change)) (max s.round m.ballot.round))=ig s m by rw[ig,if_neg h7,if_neg h20,if_neg h30,if_neg h38,if_pos h57]<;>rfl);refine PS ?_;refine nx J8 (CN (sr λ_ J10=>PS ?_));refine aq ?_ ?_<;>intro h88;refine PS ?_;refine nx J10 (CY (ag (PS ?_)));refine FA 182 eC be ?_;refine LV 0 eL be ai RecT.sp_view (y:=m.view) ?_;refine CZ Mv (u7 lg r s m.view) (SM [1]) λvR=>?_
 refine ax (ah (WK [0] (bE rfl ?_)));exact congrArg (λq=>[DX lg r q]) (show(mi s m.view)=ig s m by rw[ig,if_neg h7,if_neg h20,if_neg h30,if_neg h38,if_neg h57,if_pos h88]<;>rfl);refine PS ?_;refine nx J10 (CN (aT (ah (WK [1] (bE rfl ?_)))));exact congrArg (λq=>[DX lg r q]) (show s=ig s m by rw[ig,if_neg h7,if_neg h20,if_neg h30,if_neg h38,if_neg h57,if_neg h88]<;>rfl)
theorem KS{bs:List UInt8}(h: ¬(dC bs).2≠0):WF (dC bs).1.row.flat:=by
 rcases Jr bs with⟨m,e,_,_,hw⟩|e
 · rw[e];exact hw
 · rw[e]at h;exact absurd (by decide) h
theorem BY{δ:Type}(e0:δ)(i:Int)(d:Nat)(D:DS)(hD:D.Ok)(hI:Wal.DS.In D)(hb:D.ws.length≤1000000):
 DT 25 #[(.int .i64 (i)),(.pointer (some ⟨d,0,none⟩))] T0 [dk d D] (dL (λr' H=>((bI D).err≠0∧r'= .tuple #[.pointer none, .int .i64 (bI D).err]∧H=[dk d (bI D).D])∨((bI D).err=0∧((gS (bI D).recs (w6 i e0)=none∧r'= .tuple #[.pointer none, .int .i64 1]∧H=[dk d (bI D).D])∨∃s r lg,gS (bI D).recs (w6 i e0)=some s∧r'= .tuple #[.pointer (some ⟨r,0,none⟩), .int .i64 0]∧H=[DX lg r s,F6 lg d (((bI D).recs.length:Nat):Int) (bI D).used,dk d (bI D).D])))):=by
 refine BD 50 Tryz.func25 rfl rfl rfl λw0 F hF=>sr λ_ J1=>P2 ?_
 refine nx J1 (aa λ_ J2=>sr λ_ J3=>PS ?_);refine tp (km rfl JG rfl rfl) ?_;refine nx J3 (CN (qx J2 (sr λ_ J4=>PS ?_)));refine CR Py (Ha d D hD hI hb) ID λvR HR hR=>?_
 rcases hR with⟨he,rfl,rfl⟩| ⟨he,lg,vr,rfl,rfl⟩
 refine P4 ?_;refine P3 ?_;refine nx J4 (aa λ_ J5=>sr λ_ J6=>P2 ?_);refine aq ?_ ?_<;>intro h23;refine nx J6 (CY (sr λ_ J7=>P3 ?_));exact nx J7 (ak (ae (WK [0] (jg rfl rfl rfl (.inl ⟨he,rfl,rfl⟩)))))
 · exact absurd he h23
 change TL _ _ _ _ _ _ _ _ _ [an lg [(.pointer (some ⟨d,0,none⟩)),(.int .i64 ((((bI D).recs.length:Nat):Int))),(.int .i64 ((bI D).used))] 162,OP vr (bI D).recs,dk d (bI D).D];refine yu (p:=pB vr (bI D).recs.length∧vr.oneCell'=true) (λw m=>by obtain⟨h,_,_,hs⟩:=m;obtain⟨_,_,_,_,a,_⟩:=e6 1 (lb rfl) hs;exact uJ a) (λ⟨hsl,hvr⟩=>P4 ?_);refine P3 ?_;refine nx J4 (aa λ_ J8=>sr λ_ J9=>P2 ?_);refine nx J9 (CN (qx J8 (sr λ_ J10=>P2 ?_)))
 refine tp (yC (cs:=RepT.cells (RepT.mk i (.pointer (some ⟨lg,0,none⟩)) ViewT.zero RowT.zero MirT.zero AccT.zero 0 (.pointer none) BookT.zero false 0 0 0 (.slice none 0 0) (#v[0,0,0,0,0]) (#v[RowT.zero,RowT.zero,RowT.zero,RowT.zero,RowT.zero]))) (segs:=[[Value.int .i64 0],[(.pointer none)],ints ViewT.zero.flat,ints RowT.zero.flat,MirT.cells MirT.zero,ints AccT.zero.flat,[Value.int .i64 0],[(.pointer none)],ints BookT.zero.flat,[Value.bool false],[Value.int .i64 0],[Value.int .i64 0],[Value.int .i64 0],[(.slice none 0 0)],ints (#v[0,0,0,0,0]).toList,ints ((#v[RowT.zero,RowT.zero,RowT.zero,RowT.zero,RowT.zero]).toList.flatMap RowT.flat)]) (res:=[[Value.int .i64 i],[(.pointer (some ⟨lg,0,none⟩))],ints ViewT.zero.flat,ints RowT.zero.flat,MirT.cells MirT.zero,ints AccT.zero.flat,[Value.int .i64 0],[(.pointer none)],ints BookT.zero.flat,[Value.bool false],[Value.int .i64 0],[Value.int .i64 0],[Value.int .i64 0],[(.slice none 0 0)],ints (#v[0,0,0,0,0]).toList,ints ((#v[RowT.zero,RowT.zero,RowT.zero,RowT.zero,RowT.zero]).toList.flatMap RowT.flat)]) (parts:=[(0,[Value.int .i64 i]),(1,[(.pointer (some ⟨lg,0,none⟩))])]) rfl rfl db (by kernel_rfl) (by kernel_rfl) rfl (fA rfl rfl (fA rfl ((rfl:[(.pointer (some ⟨lg,0,none⟩))].length=1).trans (rfl:[(.pointer none)].length=1).symm) lS)) (eQ (RepT.mk i (.pointer (some ⟨lg,0,none⟩)) ViewT.zero RowT.zero MirT.zero AccT.zero 0 (.pointer none) BookT.zero false 0 0 0 (.slice none 0 0) (#v[0,0,0,0,0]) (#v[RowT.zero,RowT.zero,RowT.zero,RowT.zero,RowT.zero]))).symm) ?_
 refine XY (RepT.cells (RepT.mk i (.pointer (some ⟨lg,0,none⟩)) ViewT.zero RowT.zero MirT.zero AccT.zero 0 (.pointer none) BookT.zero false 0 0 0 (.slice none 0 0) (#v[0,0,0,0,0]) (#v[RowT.zero,RowT.zero,RowT.zero,RowT.zero,RowT.zero]))) λb28=>?_
 refine PS ?_;refine nx J10 (sr λ_ J11=>cB (H':=DX lg b28 (FE i e0)::[an lg [(.pointer (some ⟨d,0,none⟩)),(.int .i64 ((((bI D).recs.length:Nat):Int))),(.int .i64 ((bI D).used))] 162,OP vr (bI D).recs,dk d (bI D).D]) (λ_ q=>br (p:=λ_:Unit=>[an b28 (RepT.cells ((FE i e0).rep ⟨lg, .pointer none, .slice none 0 0⟩)) 94]) () (aE [0] rfl q)) (PS ?_));refine CE Pp (rR) ID ?_;refine CZ Mv (u7 lg b28 (FE i e0) firstV) ID λvR=>?_
 refine nx J11 (aa λ_ J12=>sr λ_ J13=>PS ?_);refine tp (dW rfl vq rfl hsl) ?_;refine PS ?_;refine nx J13 (av ?_)
 refine bG (α:=(Nat)×(MS δ)) (λ⟨k,s⟩=>k≤(bI D).recs.length∧gS (bI D).recs (w6 i e0)=gS ((bI D).recs.drop k) s) (λ⟨k,s⟩=>[(9,(.pointer (some ⟨b28,0,none⟩))),(32,vr),(33,(.int .i64 ((((bI D).recs.length:Nat):Int)))),(34,(.int .i64 (((k:Nat):Int))))]) (λ⟨k,s⟩=>[DX lg b28 s,an lg [(.pointer (some ⟨d,0,none⟩)),(.int .i64 ((((bI D).recs.length:Nat):Int))),(.int .i64 ((bI D).used))] 162,OP vr (bI D).recs,dk d (bI D).D]) (λ⟨k,s⟩=>(bI D).recs.length-k) (0,(w6 i e0))
  ⟨aP _,rfl⟩ SB
  (λ_ s=>ao [0,0,0,0] rfl s) (λ⟨k,s⟩ hinv=>?_)
 obtain⟨hk,hrs⟩:=hinv;refine sr λ_ J14=>PS ?_
 refine aq ?_ ?_<;>intro h35;refine cB (λ_ s=>aE [2] rfl s) (L2 (λus=>?_));change TL _ _ _ _ _ _ _ _ _ [own vr ((bI D).recs.length) (us) 62 1,eR us (bI D).recs 5,DX lg b28 s,an lg [(.pointer (some ⟨d,0,none⟩)),(.int .i64 ((((bI D).recs.length:Nat):Int))),(.int .i64 ((bI D).used))] 162,dk d (bI D).D];refine yu (p:=us.length=(bI D).recs.length*1) (λw m=>m.own_len (i:=0) (lb rfl) rfl) (λhul=>?_);rw[fZ]at hul;have hkl:k< (bI D).recs.length:=by omega
 refine kl 0 rfl rfl (by omega) (λg cap hv hcap=>?_);have hvq:vr= .slice (some ⟨g,0,none⟩) (bI D).recs.length cap:=hv;refine nx J14 (aa λ_ J15=>CY (qx J15 (aa λ_ J16=>av (sr λ_ J17=>tp (ca (r:=k) hv rfl vq n4 rfl rfl (by omega) (by omega) (by omega)) ?_))));refine tp (de (v:=(us.getD k undef)) rfl ia rfl rfl (gO 0 rfl hvq rfl) (by simp[List.getD_eq_getElem?_getD,show k<us.length by omega])) ?_;refine PS ?_;refine nx J17 (sr λ_ J18=>PS ?_);refine CF Px (vk (us.getD k undef) (bI D).recs[k]) ID (λg d s=>um 1 hkl rfl rfl g d s) ?_;refine P3 ?_;refine XZ H4 (ints RecT.zero.flat) λb12=>?_
 refine SW 0 fV bt ?_;refine PS ?_;refine nx J18 (aa λ_ J19=>sr λ_ J20=>P2 ?_);refine aq ?_ ?_<;>intro h44;refine nx J20 (CY (sr λ_ J21=>P2 ?_));exact nx J21 (ak (ae (aI (ae (ae (aI (ae (WK [5] (jg rfl rfl rfl (.inr ⟨he, .inl ⟨hrs.trans (GU hkl h44),rfl,rfl⟩⟩))))))))));refine nx J20 (CN (qx J19 (ag (PS ?_))));refine LW 0 eC fV bt ?_;refine CZ Pw (ya lg b28 s (dC (bI D).recs[k]).1 (KS h44)) (SM [3]) λvR=>?_
 refine ax (ah (af J16 (ag (AD ?_))));refine PS ?_;refine ax ?_
 exact aN ((k+1,(ig s (dC (bI D).recs[k]).1)):(Nat)×(MS δ)) ⟨by omega,hrs.trans (IA hkl h44)⟩ (by show(bI D).recs.length- (k+1)< (bI D).recs.length-k;omega)
  SB
  (λ_ s=>aE [1,1,0,0] rfl (br (p:=λus:List Value=>[own vr (bI D).recs.length us 62 1,eR us (bI D).recs 5]) us (ao [2,2,0,1,1] rfl s)))
 refine nx J14 (aa λ_ J22=>CN (bg (aC (aC (bD (af J12 (sr λ_ J23=>P3 ?_)))))));refine nx J23 (ak (WK [0,0,1] (jg rfl rfl rfl ?_)));exact .inr ⟨he, .inr ⟨s,b28,lg,by rw[hrs,cq (by omega)];rfl,rfl,rfl⟩⟩
def kS(k:Nat)(m:MsgT):List UInt8:=jD ((k / 5:Nat):Int) ((k%5:Nat):Int) (bS m)
def cO(W:List (List MsgT)):List (List (List UInt8)):=(List.range 25).map λk=>(W.getD k []).map (kS k)
theorem pY(W:List (List MsgT)):(cO W).length=25:=by simp[cO]
theorem nG(W:List (List MsgT)){k:Nat}(h:k<25):(cO W).getD k []=(W.getD k []).map (kS k):=by simp[cO,h,List.getD_eq_getElem?_getD]
theorem vZ(W:List (List MsgT)){k:Nat}(h:k<25)(hW:W.length=25)(l:List MsgT):(cO W).set k (l.map (kS k))=cO (W.set k l):=by
 refine List.ext_getElem? λj=>?_
 by_cases hj:j=k
 · subst hj
   rw[List.getElem?_set_self (by rw[pY];exact h)];simp[cO,h,List.getD_eq_getElem?_getD,List.getElem?_set_self (show j<W.length by omega)]
 · rw[List.getElem?_set_ne (λe=>hj e.symm)]
   unfold cO;rw[List.getElem?_map,List.getElem?_map]
   by_cases hk:j<25
   · simp[hk,List.getD_eq_getElem?_getD,List.getElem?_set_ne (λe=>hj e.symm)]
   · simp[hk]
theorem Bw{f t:Int}(hf:iX f=true)(ht:iX t=true)(m:MsgT):kS (bw f t) m=jD f t (bS m):=by
 have h1:0≤f∧f<5:=of_decide_eq_true hf;have h2:0≤t∧t<5:=of_decide_eq_true ht;unfold kS bw;rw[show(((f.toNat*5+t.toNat) / 5:Nat):Int)=f by omega,show(((f.toNat*5+t.toNat)%5:Nat):Int)=t by omega]
theorem sE{f t:Int}(h:dm f t=true):iX f=true∧iX t=true:=by
 unfold dm at h;rw[au,au]at h;exact h.1
theorem H9{W:List (List MsgT)}(hW:W.length=25){f:Nat}(s:SaidT):pa (cO W) ((f:Nat):Int) s.to' (jD ((f:Nat):Int) s.to' (bS s.msg))=cO (qg W f s):=by
 unfold pa qg;cases hv:dm ((f:Nat):Int) s.to'
 · rfl
 · obtain⟨h1,h2⟩:=iT hv
   obtain⟨h3,h4⟩:=sE hv;rw[if_pos rfl,if_pos rfl,nG W h1,←Bw h3 h4,←vZ W h1 hW];unfold AA;rw[bW];split
   · rw[cL];rfl
   · rfl
theorem IG(W:List (List MsgT))(f:Nat)(s:SaidT):(qg W f s).length=W.length:=by unfold qg;split<;>simp
theorem GE(W:List (List MsgT))(f:Nat)(l:List SaidT):(iu W f l).length=W.length:=by
 induction l generalizing W with
 |nil=>rfl
 |cons s l ih=>exact(ih _).trans (IG _ _ _)
theorem GF(W:List (List MsgT))(f:Nat)(l:List SaidT)(s:SaidT):iu W f (l++[s])=qg (iu W f l) f s:=by simp[iu]
theorem vY(k:Nat)(m:MsgT):(kS k m).length≤1000000:=by
 unfold kS;rw[pe];have:=tf m;omega
theorem wV(c:Nat)(w:Int):
 DT 26 #[(.pointer (some ⟨c,0,none⟩)),(.int .i64 (w))] T0 [] (RI (.bool (iX w)) []):=by
 refine BD 15 Tryz.func26 rfl rfl rfl λw0 F hF=>sr λ_ J1=>PS ?_
 refine nx J1 (sr λ_ J2=>PS ?_);refine tp (jI rfl On rfl rfl) ?_;refine P3 ?_;refine aq ?_ ?_<;>intro h9
 iterate 6 refine PS ?_
 refine nx J2 (ak (WK [] (aw rfl rfl ?_)));exact⟨congrArg Value.bool (by unfold iX;simp only[decide_eq_decide];omega),rfl⟩;refine P2 ?_;refine UF ?_;refine UF ?_;refine P2 ?_;refine nx J2 (ak (WK [] (aw rfl rfl ?_)));exact⟨congrArg Value.bool (by unfold iX;symm;exact decide_eq_false (by omega)),rfl⟩
theorem eH(c i:Nat)(hi:i<5):DT 26 #[.pointer (some ⟨c,0,none⟩), .int .i64 ((i:Nat):Int)] T0 [] (RI (.bool true) []):=by
 have:=wV c ((i:Nat):Int)
 rwa [show iX ((i:Nat):Int)=true from decide_eq_true ⟨by omega,by omega⟩]at this
theorem p2(c n i:Nat)(D M P:Nat→Value)(hi:i<5)(hM:M i= .pointer none):
 DT 21 #[(.pointer (some ⟨c,0,none⟩)),(.int .i64 (((i:Nat):Int)))] T0 [an c (e8 n D M P) 71] (RI (.bool false) [an c (e8 n D M P) 71]):=by
 refine BD 27 Tryz.func21 rfl rfl rfl λw0 F hF=>sr λ_ J1=>PS ?_
 refine nx J1 (sr λ_ J2=>P2 ?_);refine CE qT (eH c i hi) ID ?_;refine P4 ?_;refine FA 6 pP rB ?_;refine IX (6+i) Fz oT ?_;refine LT 0 zO (.pointer none) ?_ (hc:=by exact(xz n D M P hi).trans (congrArg some hM));refine tq (jo rfl zO rfl rfl) ?_;refine P2 ?_
 iterate 8 refine UF ?_
 refine P2 ?_;exact nx J2 (ak (WK [0] (aw rfl rfl ⟨rfl,rfl⟩)))
theorem Ni (c i : Nat) : xQ Tryz.prog 77 (Nh c i) "Send" 180 := fun w => by kernel_rfl
theorem p1(c n i:Nat)(D M P:Nat→Value)(hi:i<5)(d r:Nat)(e:DS)(hD:D i= .pointer (some ⟨d,0,none⟩))(hM:M i= .pointer (some ⟨r,0,none⟩)):
 DT 21 #[(.pointer (some ⟨c,0,none⟩)),(.int .i64 (((i:Nat):Int)))] T0 [an c (e8 n D M P) 71,dk d e] (RI (.bool (!e.dn)) [an c (e8 n D M P) 71,dk d e]):=by
 refine BD 27 Tryz.func21 rfl rfl rfl λw0 F hF=>sr λ_ J1=>PS ?_
 refine nx J1 (sr λ_ J2=>P2 ?_);refine CE qT (eH c i hi) ID ?_;refine P4 ?_;refine FA 6 pP rB ?_;refine IX (6+i) Fz oT ?_;refine LT 0 zO (.pointer (some ⟨r,0,none⟩)) ?_ (hc:=by exact(xz n D M P hi).trans (congrArg some hM));refine tq (jI rfl zO rfl rfl) ?_
 iterate 5 refine PS ?_
 refine FA 1 pP BJ ?_;refine IX (1+i) L0 wm ?_;refine LT 0 JG (.pointer (some ⟨d,0,none⟩)) ?_ (hc:=by exact(Fm n D M P hi).trans (congrArg some hD));refine CE Ny (Gd d e) (SM [1]) ?_;refine tq (jm rfl rfl rfl) ?_;refine P2 ?_;exact nx J2 (ak (WK [1,0] (aw rfl rfl ⟨rfl,rfl⟩)))
theorem Ek(c n i:Nat)(D M P:Nat→Value)(hi:i<5)(d:Nat)(e:DS)(hD:D i= .pointer (some ⟨d,0,none⟩))(W:List (List MsgT))(hW:W.length=25)(to':Int)(m:MsgT):
 DT 180 #[(.agg #[(.pointer (some ⟨c,0,none⟩)),(.int .i64 (((i:Nat):Int)))]),(.int .i64 (to')),(.agg (ints m.flat).toArray)] T0 [an c (e8 n D M P) 71,dk d e,eP 110 160 5 n (cO W)] (dL (λ_ H=>H=[an c (e8 n D M P) 71,dk d e,eP 110 160 5 n (cO (if e.dn then W else qg W i ⟨to',m⟩))])):=by
 refine BD 27 Tryz.func180 rfl rfl rfl λw0 F hF=>sr λ_ J1=>XB λb3=>?_
 refine XY (ints m.flat) λb5=>?_
 refine nx J1 (aa λ_ J2=>D2 1 2 el ?_);refine FD 0 0 MP Na ?_;refine LX 1 On (.pointer (some ⟨c,0,none⟩)) ?_ (hc:=by exact rfl);refine FD 2 1 MP aQ ?_;refine LX 3 Y3 (.int .i64 (((i:Nat):Int))) ?_ (hc:=by exact rfl);refine PD 4 ?_;refine FD 5 1 pP BJ ?_;refine IY 6 (1+i) L0 wm ?_;refine LX 7 JG (.pointer (some ⟨d,0,none⟩)) ?_ (hc:=by exact(Fm n D M P hi).trans (congrArg some hD));refine AL 8 ?_;refine CE Ny (Gd d e) (SM [3]) ?_;refine bh ?_ ?_<;>intro h14;refine EN (PD 9 ?_);refine DN (af J2 (CN (aT (WK [3,0,2] (bE rfl ?_)))));exact by rw[show e.dn=true by assumption];rfl
 refine EN (PD 9 ?_);refine DN (af J2 (CY (r9 (λw=>Frm F w∧w.heap[b3]?=some (.cells ([(.pointer (some ⟨c,0,none⟩)),(.int .i64 (((i:Nat):Int)))]).toArray 77 (0,0))∧w.heap[c]?=some (.cells (e8 n D M P).toArray 71 (0,0))∧w.heap[b5]?=some (.cells (ints m.flat).toArray 136 (0,0))∧True) el rfl (λ_ s=>⟨fC s,s.block 2 (lb rfl) rfl,s.block 3 (lb rfl) rfl,s.block 1 (lb rfl) rfl,trivial⟩) (FD 0 0 MP Na ?_))));refine LX 1 On (.pointer (some ⟨c,0,none⟩)) ?_ (hc:=by exact rfl);refine PD 2 ?_;refine FD 3 0 pP Aj ?_;refine LX 4 JH (.pointer (some ⟨n,0,none⟩)) ?_ (hc:=by exact A7 n D M P);refine FD 5 1 MP aQ ?_;refine LX 6 Y3 (.int .i64 (((i:Nat):Int))) ?_ (hc:=by exact rfl);refine PD 7 ?_;refine LY 8 bi ci aJ ?_;refine AL 9 ?_;refine CR NJ (C9 m) ID λvR HR hR=>?_
 obtain⟨_,rfl,rfl⟩:=hR;revert vR;intro ue;refine EN (AL 10 ?_);refine CQ NK (yk n (cO W) ((i:Nat):Int) to' ue (bS m) (tf m) (pY W)) (SM [5]) (λg d s=>L6 (vI 0 rfl rfl g d s)) λvR HR hR=>?_
 obtain⟨_,rfl⟩:=hR;rw[H9 hW ⟨to',m⟩];refine EN (DN (WK [5,2,0] (bE rfl ?_)));exact by rw[show e.dn=false by assumption];rfl
def G8(c n d i:Nat)(D M P:Nat→Value)(W:List (List MsgT))(e:LD)(l:List SaidT):HP:=bN [an c (e8 n D M P) 71,dk d e.D,eP 110 160 5 n (cO (iu W i l))]
section
variable {c n d i:Nat} {D M P:Nat→Value} {W:List (List MsgT)} {e:LD} {l:List SaidT} {H:List HP} {h:Hl}
theorem ug(s:bN (G8 c n d i D M P W e l::H) h):bN (an c (e8 n D M P) 71::dk d e.D::eP 110 160 5 n (cO (iu W i l))::H) h:=(cj [_,_,_] H).2 s
theorem ub(s:bN (an c (e8 n D M P) 71::dk d e.D::eP 110 160 5 n (cO (iu W i l))::H) h):bN (G8 c n d i D M P W e l::H) h:=(cj [_,_,_] H).1 s
end
def xt(c n d i:Nat)(D M P:Nat→Value)(hi:i<5)(hD:D i= .pointer (some ⟨d,0,none⟩))(W:List (List MsgT))(hW:W.length=25):Env LD where
 toDk:=KD
 T:=77
 ov:=Nh c i
 sf:=180
 E:=G8 c n d i D M P W
 lg g e:=F6 g d ((e.cnt:Nat):Int) e.used
 me:=Ni c i
 nm:=NL
 say e l to' m _:=by
  refine Leg.Does.conv (Ek c n i D M P hi d e.D hD (iu W i l) (by rw[GE];exact hW) to' m) (λh s=>ug s) λx H F w hp hs=>?_
  cases x with
  |returned v=>
   obtain rfl:=hp;refine⟨_,hs.mono (λh s=>ub (l:=if KD.dn e then l else l++[SaidT.mk to' m]) ?_),rfl⟩
   have q:iu W i (if KD.dn e then l else l++[SaidT.mk to' m])=if e.D.dn then iu W i l else qg (iu W i l) i ⟨to',m⟩:=by
    show iu W i (if e.D.dn then l else _)=_;split
    · rfl
    · exact GF ..
   rw[q];exact s
  |panicked c=>exact hp.elim
  |outgrown=>exact hp.elim
 put g x bs e l hok hlen:=by
  refine Leg.Does.withinR (A:=[F6 g d ((e.cnt:Nat):Int) e.used,dk d e.D]) (B:=[an c (e8 n D M P) 71,eP 110 160 5 n (cO (iu W i l))]) (By g d e.cnt e.used x bs e.D hok.dk.ok (by have:=hok.dk.ws;omega) hok.used (by have:=hok.cnt;have:=hok.used;omega)) (λF g h dj=>Oz h dj) (λh s=>?_) λv H hp=>?_
  · exact aE [3,1,0,0] rfl (ug (aE [1,0] rfl s))
  · obtain⟨hv,rfl⟩:=hp
    exact⟨[F6 g d (((e.put bs).1.cnt:Nat):Int) (e.put bs).1.used,G8 c n d i D M P W (e.put bs).1 l],λh s=>aE [1,0] rfl (ub (e:=(e.put bs).1) (l:=l) (aE [2,1,1,0] rfl s)),hv,rfl⟩
abbrev mH(v:Value)(l:List ReplyT):HP:=own v l.length (ints (List.flatMap ReplyT.flat l)) 175 3
abbrev GN(s:MS LD)(d r:Nat)(a:Adr):List HP:=[an r (RepT.cells (s.rep a)) 94,F6 a.lg d ((s.e.cnt:Nat):Int) s.e.used,mH a.rs s.replies,FG a.vo s.vote]
abbrev gl(s:MS LD)(d r:Nat):HP:=pack (GN s d r)
def rF(x:Slot)(d r:Nat):HP:=match x.run with
 |some s=>gl s d r
 |none=>λ_=>True
abbrev kI(x:Slot)(d r:Nat)(p:Value):List HP:=[dk d x.dk,mH p x.past,rF x d r]
def kX(x:Slot)(d r:Nat)(p:Value):HP:=bN (kI x d r p)
structure CX where
 n:Nat
 d:Nat→Nat
 r:Nat→Nat
 p:Nat→Value
abbrev mM(g:CX):Nat→Value:=λi=> .pointer (some ⟨g.d i,0,none⟩)
def yi(x:Slot)(r:Nat):Value:=match x.run with
 |some _=> .pointer (some ⟨r,0,none⟩)
 |none=> .pointer none
abbrev kg(a:CL)(r:Nat→Nat):Nat→Value:=λi=>yi (a.at' i) (r i)
abbrev re(c:Nat)(a:CL)(g:CX):List HP:=[an c (e8 g.n (mM g) (kg a g.r) g.p) 71,eP 110 160 5 g.n (cO a.W),bN ((List.range 5).map λi=>kX (a.at' i) (g.d i) (g.r i) (g.p i))]
def fS(c:Nat)(a:CL):HP:=pack (re c a)
section
variable {c n d i r:Nat} {D M P:Nat→Value} {W:List (List MsgT)} {s:MS LD} {H:List HP} {h:Hl} {hi:i<5} {hD:D i= .pointer (some ⟨d,0,none⟩)} {hW:W.length=25}
theorem EJ(ho:s.o=[])(q:bN (an c (e8 n D M P) 71::dk d s.e.D::eP 110 160 5 n (cO W)::gl s d r::H) h):bN (cK (xt c n d i D M P hi hD W hW) r s::H) h:=by
 obtain⟨a,q⟩:=fL (aE [3,0,0,0] rfl q);have q2:=aE [4,4,4,0,0,0,0] rfl q;have q3:=ub (i:=i) (W:=W) (e:=s.e) (l:=[]) q2;refine br (p:=λa:Adr=>[an r (RepT.cells (s.rep a)) 94,F6 a.lg d ((s.e.cnt:Nat):Int) s.e.used,mH a.rs s.replies,FG a.vo s.vote,G8 c n d i D M P W s.e s.o]) a ?_;rw[ho];exact aE [1,1,1,1,0] rfl q3
theorem AN(q:bN (cK (xt c n d i D M P hi hD W hW) r s::H) h):bN (an c (e8 n D M P) 71::dk d s.e.D::eP 110 160 5 n (cO (iu W i s.o))::gl s.hush d r::H) h:=by
 obtain⟨a,q⟩:=fL q;have q1:bN ([an r (RepT.cells (s.rep a)) 94,F6 a.lg d ((s.e.cnt:Nat):Int) s.e.used,mH a.rs s.replies,FG a.vo s.vote,G8 c n d i D M P W s.e s.o]++H) h:=q;have q2:=ug (aE [4,0,0,0,0] rfl q1);have q3:=br (p:=GN s.hush d r) a (aE [3,3,3,3,0,0,0] rfl q2);exact aE [1,1,1,0] rfl q3
end
theorem Fe(c n i:Nat)(D M P:Nat→Value)(hi:i<5)(d r:Nat)(s:MS LD)(hD:D i= .pointer (some ⟨d,0,none⟩))(hM:M i= .pointer (some ⟨r,0,none⟩))(W:List (List MsgT))(hW:W.length=25)(ho:s.o=[])(hs:OkR KD s)(o:OpT)(k:Int)(hk:0≤k∧k≤4)(hch:OkCh o.change)(hrs:s.replies.length≤1000000):
 DT 9 #[(.pointer (some ⟨c,0,none⟩)),(.agg (ints (OpT.mk k ((i:Nat):Int) o.to' o.key o.n o.change o.mask o.torn o.cut).flat).toArray)] T0 [an c (e8 n D M P) 71,dk d s.e.D,eP 110 160 5 n (cO W),gl s d r] (dL (λv H=>(s.e.D.dn=true∧v= .int .i64 4∧H=[an c (e8 n D M P) 71,dk d s.e.D,eP 110 160 5 n (cO (W)),gl s d r])∨(s.e.D.dn=false∧v= .int .i64 (cb KD s ((OpT.mk k ((i:Nat):Int) o.to' o.key o.n o.change o.mask o.torn o.cut))).2∧H=[an c (e8 n D M P) 71,dk d (cb KD s ((OpT.mk k ((i:Nat):Int) o.to' o.key o.n o.change o.mask o.torn o.cut))).1.hush.e.D,eP 110 160 5 n (cO (iu W i (cb KD s ((OpT.mk k ((i:Nat):Int) o.to' o.key o.n o.change o.mask o.torn o.cut))).1.o)),gl (cb KD s ((OpT.mk k ((i:Nat):Int) o.to' o.key o.n o.change o.mask o.torn o.cut))).1.hush d r]))):=by
 refine BD 114 Tryz.func9 rfl rfl rfl λw0 F hF=>sr λ_ J1=>XY (ints (OpT.mk k ((i:Nat):Int) o.to' o.key o.n o.change o.mask o.torn o.cut).flat) λb3=>?_
 refine PS ?_;refine nx J1 (aa λ_ J2=>sr λ_ J3=>PS ?_);refine FA 1 fT aQ ?_;refine LT 0 Y3 (.int .i64 (((i:Nat):Int))) ?_ (hc:=by exact bM _ rfl);refine CE qT (eH c i hi) ID ?_;refine PS ?_;refine nx J3 (CN (qx J2 (aa λ_ J4=>sr λ_ J5=>FA 0 fT aQ ?_)));refine LT 0 Y3 (.int .i64 (k)) ?_ (hc:=by exact c7 _ rfl);refine nx J5 (av (aa λ_ J6=>fo (α:=Unit) (λ_u=>True) (λ_u=>[(0,(.pointer (some ⟨c,0,none⟩))),(3,(.pointer (some ⟨b3,0,none⟩))),(4,(.int .i64 0)),(11,(.int .i64 (k))),(12,(.bool true))]) (λ_u=>[an b3 (ints (OpT.mk k ((i:Nat):Int) o.to' o.key o.n o.change o.mask o.torn o.cut).flat) 35,an c (e8 n D M P) 71,dk d s.e.D,eP 110 160 5 n (cO W),gl s d r]) (λ_u hinv=>?_) (λtl6=>?_)));have _:=hinv;refine af J6 (CY (aa λ_ J7=>sr λ_ J8=>PS ?_));refine FA 1 fT aQ ?_;refine LT 0 Y3 (.int .i64 (((i:Nat):Int))) ?_ (hc:=by exact bM _ rfl);refine CE AJ (p1 c n i D M P hi d r s.e.D hD hM) (SM [1,1]) ?_;refine bh ?_ ?_<;>intro h21;refine PS ?_;refine nx J8 (CN (qx J7 (aa λ_ J9=>D2 2 0 el ?_)));refine PD 0 ?_;refine FD 1 1 fT aQ ?_;refine LX 2 Y3 (.int .i64 (((i:Nat):Int))) ?_ (hc:=by exact bM _ rfl);refine PD 3 ?_;refine FD 4 6 pP rB ?_;refine IY 5 (6+i) Fz oT ?_;refine LX 6 zO (.pointer (some ⟨r,0,none⟩)) ?_ (hc:=by exact(xz n D M P hi).trans (congrArg some hM));refine PD 7 ?_;refine FD 8 1 fT aQ ?_
 refine LX 9 Y3 (.int .i64 (((i:Nat):Int))) ?_ (hc:=by exact bM _ rfl);refine ta 10 rfl (kn (cells:=#[(.pointer (some ⟨c,0,none⟩)),(.int .i64 (((i:Nat):Int)))]) rfl rfl (by as_aux_lemma=>kernel_rfl)) ?_;refine ta 11 rfl (pJ rfl MP rfl rfl) ?_;refine LY 12 fT BM pR ?_;refine AL 13 ?_;refine cB (H':=[cK (xt c n d i D M P hi hD W hW) r s,an b3 (ints (OpT.mk k ((i:Nat):Int) o.to' o.key o.n o.change o.mask o.torn o.cut).flat) 35]) (λ_ q=>EJ ho (aE [0,0,1,1] rfl q)) (CE PG (@A6 _ (xt c n d i D M P hi hD W hW) r s ((OpT.mk k ((i:Nat):Int) o.to' o.key o.n o.change o.mask o.torn o.cut)) hs hch hrs) ID ?_);change TL _ _ _ _ _ _ _ _ _ [cK (xt c n d i D M P hi hD W hW) r ((cb KD s ((OpT.mk k ((i:Nat):Int) o.to' o.key o.n o.change o.mask o.torn o.cut))).1),an b3 (ints (OpT.mk k ((i:Nat):Int) o.to' o.key o.n o.change o.mask o.torn o.cut).flat) 35];refine cB (H':=[an c (e8 n D M P) 71,dk d (((cb KD s ((OpT.mk k ((i:Nat):Int) o.to' o.key o.n o.change o.mask o.torn o.cut))).1).e.D),eP 110 160 5 n (cO (iu W i ((cb KD s ((OpT.mk k ((i:Nat):Int) o.to' o.key o.n o.change o.mask o.torn o.cut))).1).o)),gl (((cb KD s ((OpT.mk k ((i:Nat):Int) o.to' o.key o.n o.change o.mask o.torn o.cut))).1).hush) d r,an b3 (ints (OpT.mk k ((i:Nat):Int) o.to' o.key o.n o.change o.mask o.torn o.cut).flat) 35]) (λ_ q=>AN (s:=(cb KD s ((OpT.mk k ((i:Nat):Int) o.to' o.key o.n o.change o.mask o.torn o.cut))).1) q) (EN (PD 14 ?_))
 refine DN (af J9 (ak (aI (ae (WK [0,0,0,0] (aw rfl rfl ?_))))));exact .inr ⟨(by simpa using h21),rfl,rfl⟩;refine PS ?_;refine nx J8 (CY (sr λ_ J10=>PS ?_));refine nx J10 (ak (ae (aI (ae (WK [0,0,1,1] (aw rfl rfl ?_))))));exact .inl ⟨(by simpa using h21),rfl,rfl⟩;refine sr λ_ J11=>P2 ?_
 refine aq ?_ ?_<;>intro h12;refine nx J11 (CY (aT ?_))
 exact aG
  SB
  (λ_ s=>ao [0,0,0,0,0] rfl s)
  (tl6 (():Unit) trivial)
 refine nx J11 (CN (sr λ_ J12=>P2 ?_));refine aq ?_ ?_<;>intro h12;refine nx J12 (CY (aT ?_))
 exact aG
  SB
  (λ_ s=>ao [0,0,0,0,0] rfl s)
  (tl6 (():Unit) trivial)
 refine nx J12 (CN (sr λ_ J13=>P2 ?_));refine aq ?_ ?_<;>intro h12;refine nx J13 (CY (aT ?_))
 exact aG
  SB
  (λ_ s=>ao [0,0,0,0,0] rfl s)
  (tl6 (():Unit) trivial)
 refine nx J13 (CN (sr λ_ J14=>P2 ?_));refine aq ?_ ?_<;>intro h12;refine nx J14 (CY (aT ?_))
 exact aG
  SB
  (λ_ s=>ao [0,0,0,0,0] rfl s)
  (tl6 (():Unit) trivial)
 refine nx J14 (CN (ag (PS ?_)));refine aq ?_ ?_<;>intro h17;refine PS ?_;refine ax ?_
 exact aG
  SB
  (λ_ s=>ao [0,0,0,0,0] rfl s)
  (tl6 (():Unit) trivial)
 · exact absurd h17 (by omega)
theorem Dh(c n i:Nat)(D M P:Nat→Value)(hi:i<5)(hM:M i= .pointer none)(o:OpT)(k:Int)(hk:0≤k∧k≤4):
 DT 9 #[(.pointer (some ⟨c,0,none⟩)),(.agg (ints (OpT.mk k ((i:Nat):Int) o.to' o.key o.n o.change o.mask o.torn o.cut).flat).toArray)] T0 [an c (e8 n D M P) 71] (RI (.int .i64 4) [an c (e8 n D M P) 71]):=by
 refine BD 114 Tryz.func9 rfl rfl rfl λw0 F hF=>sr λ_ J1=>XY (ints (OpT.mk k ((i:Nat):Int) o.to' o.key o.n o.change o.mask o.torn o.cut).flat) λb3=>?_
 refine PS ?_;refine nx J1 (aa λ_ J2=>sr λ_ J3=>PS ?_);refine FA 1 fT aQ ?_;refine LT 0 Y3 (.int .i64 (((i:Nat):Int))) ?_ (hc:=by exact bM _ rfl);refine CE qT (eH c i hi) ID ?_;refine PS ?_;refine nx J3 (CN (qx J2 (aa λ_ J4=>sr λ_ J5=>FA 0 fT aQ ?_)));refine LT 0 Y3 (.int .i64 (k)) ?_ (hc:=by exact c7 _ rfl);refine nx J5 (av (aa λ_ J6=>fo (α:=Unit) (λ_u=>True) (λ_u=>[(0,(.pointer (some ⟨c,0,none⟩))),(3,(.pointer (some ⟨b3,0,none⟩))),(4,(.int .i64 0)),(11,(.int .i64 (k))),(12,(.bool true))]) (λ_u=>[an b3 (ints (OpT.mk k ((i:Nat):Int) o.to' o.key o.n o.change o.mask o.torn o.cut).flat) 35,an c (e8 n D M P) 71]) (λ_u hinv=>?_) (λtl6=>?_)));have _:=hinv;refine af J6 (CY (aa λ_ J7=>sr λ_ J8=>PS ?_));refine FA 1 fT aQ ?_;refine LT 0 Y3 (.int .i64 (((i:Nat):Int))) ?_ (hc:=by exact bM _ rfl);refine CE AJ (p2 c n i D M P hi hM) (SM [1]) ?_;refine PS ?_;refine nx J8 (CY (sr λ_ J9=>PS ?_));exact nx J9 (ak (ae (aI (ae (WK [0] (aw rfl rfl ⟨rfl,rfl⟩))))));refine sr λ_ J10=>P2 ?_
 refine aq ?_ ?_<;>intro h12;refine nx J10 (CY (aT ?_))
 exact aG
  SB
  (λ_ s=>ao [0,0] rfl s)
  (tl6 (():Unit) trivial)
 refine nx J10 (CN (sr λ_ J11=>P2 ?_));refine aq ?_ ?_<;>intro h12;refine nx J11 (CY (aT ?_))
 exact aG
  SB
  (λ_ s=>ao [0,0] rfl s)
  (tl6 (():Unit) trivial)
 refine nx J11 (CN (sr λ_ J12=>P2 ?_));refine aq ?_ ?_<;>intro h12;refine nx J12 (CY (aT ?_))
 exact aG
  SB
  (λ_ s=>ao [0,0] rfl s)
  (tl6 (():Unit) trivial)
 refine nx J12 (CN (sr λ_ J13=>P2 ?_));refine aq ?_ ?_<;>intro h12;refine nx J13 (CY (aT ?_))
 exact aG
  SB
  (λ_ s=>ao [0,0] rfl s)
  (tl6 (():Unit) trivial)
 refine nx J13 (CN (ag (PS ?_)));refine aq ?_ ?_<;>intro h17;refine PS ?_;refine ax ?_
 exact aG
  SB
  (λ_ s=>ao [0,0] rfl s)
  (tl6 (():Unit) trivial)
 · exact absurd h17 (by omega)
theorem E8(c n i:Nat)(D M P:Nat→Value)(hi:i<5)(d r:Nat)(s:MS LD)(hD:D i= .pointer (some ⟨d,0,none⟩))(hM:M i= .pointer (some ⟨r,0,none⟩))(W:List (List MsgT))(hW:W.length=25)(ho:s.o=[])(hs:OkR KD s)(o:OpT):
 DT 9 #[(.pointer (some ⟨c,0,none⟩)),(.agg (ints (OpT.mk 8 ((i:Nat):Int) o.to' o.key o.n o.change o.mask o.torn o.cut).flat).toArray)] T0 [an c (e8 n D M P) 71,dk d s.e.D,eP 110 160 5 n (cO W),gl s d r] (dL (λv H=>(s.e.D.dn=true∧v= .int .i64 4∧H=[an c (e8 n D M P) 71,dk d s.e.D,eP 110 160 5 n (cO (W)),gl s d r])∨(s.e.D.dn=false∧v= .int .i64 0∧H=[an c (e8 n D M P) 71,dk d (iL KD s).hush.e.D,eP 110 160 5 n (cO (iu W i (iL KD s).o)),gl (iL KD s).hush d r]))):=by
 refine BD 114 Tryz.func9 rfl rfl rfl λw0 F hF=>sr λ_ J1=>XY (ints (OpT.mk 8 ((i:Nat):Int) o.to' o.key o.n o.change o.mask o.torn o.cut).flat) λb3=>?_
 refine PS ?_;refine nx J1 (aa λ_ J2=>sr λ_ J3=>PS ?_);refine FA 1 fT aQ ?_;refine LT 0 Y3 (.int .i64 (((i:Nat):Int))) ?_ (hc:=by exact bM _ rfl);refine CE qT (eH c i hi) ID ?_;refine PS ?_;refine nx J3 (CN (qx J2 (aa λ_ J4=>sr λ_ J5=>FA 0 fT aQ ?_)));refine LT 0 Y3 (.int .i64 8) ?_ (hc:=by exact c7 _ rfl);refine nx J5 (av (aa λ_ J6=>sr λ_ J7=>P2 ?_));refine nx J7 (CN (sr λ_ J8=>P2 ?_));refine nx J8 (CN (sr λ_ J9=>P2 ?_));refine nx J9 (CN (sr λ_ J10=>P2 ?_));refine nx J10 (CN (ag (P2 ?_)));refine nx J6 (CN (aa λ_ J11=>sr λ_ J12=>P2 ?_));refine nx J12 (CN (sr λ_ J13=>P2 ?_));refine nx J13 (CN (ag (P2 ?_)));refine nx J11 (CN (sr λ_ J14=>P2 ?_));refine nx J14 (CY (aa λ_ J15=>sr λ_ J16=>PS ?_));refine FA 1 fT aQ ?_;refine LT 0 Y3 (.int .i64 (((i:Nat):Int))) ?_ (hc:=by exact bM _ rfl);refine CE AJ (p1 c n i D M P hi d r s.e.D hD hM) (SM [1,1]) ?_;refine bh ?_ ?_<;>intro h49;refine PS ?_;refine nx J16 (CN (qx J15 (D2 2 0 el ?_)));refine PD 0 ?_;refine FD 1 1 fT aQ ?_;refine LX 2 Y3 (.int .i64 (((i:Nat):Int))) ?_ (hc:=by exact bM _ rfl);refine PD 3 ?_;refine FD 4 6 pP rB ?_;refine IY 5 (6+i) Fz oT ?_;refine LX 6 zO (.pointer (some ⟨r,0,none⟩)) ?_ (hc:=by exact(xz n D M P hi).trans (congrArg some hM));refine PD 7 ?_;refine FD 8 1 fT aQ ?_;refine LX 9 Y3 (.int .i64 (((i:Nat):Int))) ?_ (hc:=by exact bM _ rfl)
 refine ta 10 rfl (kn (cells:=#[(.pointer (some ⟨c,0,none⟩)),(.int .i64 (((i:Nat):Int)))]) rfl rfl (by as_aux_lemma=>kernel_rfl)) ?_;refine ta 11 rfl (pJ rfl MP rfl rfl) ?_;refine AL 12 ?_;refine cB (H':=[cK (xt c n d i D M P hi hD W hW) r s,an b3 (ints (OpT.mk 8 ((i:Nat):Int) o.to' o.key o.n o.change o.mask o.torn o.cut).flat) 35]) (λ_ q=>EJ ho (aE [0,0,1,1] rfl q)) (CZ PE (@Eb _ (xt c n d i D M P hi hD W hW) r s hs) ID λvR=>?_);change TL _ _ _ _ _ _ _ _ _ [cK (xt c n d i D M P hi hD W hW) r (iL KD s),an b3 (ints (OpT.mk 8 ((i:Nat):Int) o.to' o.key o.n o.change o.mask o.torn o.cut).flat) 35];refine cB (H':=[an c (e8 n D M P) 71,dk d ((iL KD s).e.D),eP 110 160 5 n (cO (iu W i (iL KD s).o)),gl ((iL KD s).hush) d r,an b3 (ints (OpT.mk 8 ((i:Nat):Int) o.to' o.key o.n o.change o.mask o.torn o.cut).flat) 35]) (λ_ q=>AN (s:=(iL KD s)) q) (EN (DN (ah (af J4 (sr λ_ J17=>PS ?_)))));refine nx J17 (ak (WK [0,0,0,0] (aw rfl rfl ?_)));exact .inr ⟨(by simpa using h49),rfl,rfl⟩;refine PS ?_;refine nx J16 (CY (sr λ_ J18=>PS ?_));refine nx J18 (ak (ae (aI (ae (WK [0,0,1,1] (aw rfl rfl ?_))))));exact .inl ⟨(by simpa using h49),rfl,rfl⟩
theorem Df(c n i:Nat)(D M P:Nat→Value)(hi:i<5)(hM:M i= .pointer none)(o:OpT):
 DT 9 #[(.pointer (some ⟨c,0,none⟩)),(.agg (ints (OpT.mk 8 ((i:Nat):Int) o.to' o.key o.n o.change o.mask o.torn o.cut).flat).toArray)] T0 [an c (e8 n D M P) 71] (RI (.int .i64 4) [an c (e8 n D M P) 71]):=by
 refine BD 114 Tryz.func9 rfl rfl rfl λw0 F hF=>sr λ_ J1=>XY (ints (OpT.mk 8 ((i:Nat):Int) o.to' o.key o.n o.change o.mask o.torn o.cut).flat) λb3=>?_
 refine PS ?_;refine nx J1 (aa λ_ J2=>sr λ_ J3=>PS ?_);refine FA 1 fT aQ ?_;refine LT 0 Y3 (.int .i64 (((i:Nat):Int))) ?_ (hc:=by exact bM _ rfl);refine CE qT (eH c i hi) ID ?_;refine PS ?_;refine nx J3 (CN (qx J2 (aa λ_ J4=>sr λ_ J5=>FA 0 fT aQ ?_)));refine LT 0 Y3 (.int .i64 8) ?_ (hc:=by exact c7 _ rfl);refine nx J5 (av (aa λ_ J6=>sr λ_ J7=>P2 ?_));refine nx J7 (CN (sr λ_ J8=>P2 ?_));refine nx J8 (CN (sr λ_ J9=>P2 ?_));refine nx J9 (CN (sr λ_ J10=>P2 ?_));refine nx J10 (CN (ag (P2 ?_)));refine nx J6 (CN (aa λ_ J11=>sr λ_ J12=>P2 ?_));refine nx J12 (CN (sr λ_ J13=>P2 ?_));refine nx J13 (CN (ag (P2 ?_)));refine nx J11 (CN (sr λ_ J14=>P2 ?_));refine nx J14 (CY (aa λ_ J15=>sr λ_ J16=>PS ?_));refine FA 1 fT aQ ?_;refine LT 0 Y3 (.int .i64 (((i:Nat):Int))) ?_ (hc:=by exact bM _ rfl);refine CE AJ (p2 c n i D M P hi hM) (SM [1]) ?_;refine PS ?_;refine nx J16 (CY (sr λ_ J17=>PS ?_));exact nx J17 (ak (ae (aI (ae (WK [0] (aw rfl rfl ⟨rfl,rfl⟩))))))
theorem GR(s:MS LD)(d r:Nat)(h:s.replies.length≤1000000):DT 72 #[.pointer (some ⟨r,0,none⟩)] T0 [gl s d r] (dL λv H=>∃u,v=u∧H=[gl s d r,mH u s.replies]):=
 Leg.Does.pack (B:=[]) λa=>Leg.Does.withinR (A:=[an r (RepT.cells (s.rep a)) 94,mH a.rs s.replies]) (B:=[F6 a.lg d ((s.e.cnt:Nat):Int) s.e.used,FG a.vo s.vote]) (Av r (s.rep a) s.replies h) (λ_ _ _ _=>trivial) (λ_ q=>aE [0,1,0,0] rfl q) λv H hp=>by
  obtain⟨u,rfl,rfl⟩:=hp;exact⟨_,λ_ q=>br (p:=GN s d r) (H:=[mH v s.replies]) a (aE [0,2,0,1,0] rfl q),v,rfl,rfl⟩
theorem Es(c n i:Nat)(D M P:Nat→Value)(hi:i<5)(hM:M i= .pointer none)(pl:List ReplyT)(hpl:pl.length≤100000):
 DT 31 #[(.pointer (some ⟨c,0,none⟩)),(.int .i64 (((i:Nat):Int)))] T0 [an c (e8 n D M P) 71,own (P i) ((pl).length) (ints (List.flatMap ReplyT.flat (pl))) 175 3] (dL (λv H=>∃u,u.oneCell'=true∧v=u∧H=[an c (e8 n D M P) 71,mH (P i) pl,mH u pl])):=by
 refine BD 34 Tryz.func31 rfl rfl rfl λw0 F hF=>sr λ_ J1=>PS ?_
 refine nx J1 (aa λ_ J2=>sr λ_ J3=>P2 ?_);refine CE qT (eH c i hi) ID ?_;refine PS ?_;refine nx J3 (CN (qx J2 (sr λ_ J4=>P3 ?_)));refine FA 11 pP Kl ?_;refine IX (11+i) OS xZ ?_;refine LT 0 JX (P i) ?_ (hc:=by exact Oh n D M P hi);refine Oo 175 3 (λ_=>cM (k:=0) (news:=ints (List.flatMap ReplyT.flat (pl))) (nn':=(pl).length) (xs':=ints (List.flatMap ReplyT.flat (pl))) (ab rfl) rfl rfl rfl JX zw rfl rfl rfl rfl rfl rfl (λ_ s=>Qp 2 rfl rfl s) (bB _) (by simp only[maxLen];omega) (by omega) (by simp) (by simp) (λv16 ov16=>PS ?_));refine nx J4 (aa λ_ J5=>sr λ_ J6=>P3 ?_);refine FA 6 pP rB ?_;refine IX (6+i) Fz oT ?_;refine LT 1 zO (.pointer none) ?_ (hc:=by exact(xz n D M P hi).trans (congrArg some hM));refine tp (jo rfl zO rfl rfl) ?_;refine nx J6 (CN (qx J5 (sr λ_ J7=>P2 ?_)));exact nx J7 (ak (WK [1,1,0] (aw rfl rfl ⟨_,ov16,rfl,rfl⟩)))
theorem Er(c n i:Nat)(D M P:Nat→Value)(hi:i<5)(d:Nat)(r:Nat)(s:MS LD)(hM:M i= .pointer (some ⟨r,0,none⟩))(pl:List ReplyT)(hpl:pl.length≤100000)(hrs:s.replies.length≤100000):
 DT 31 #[(.pointer (some ⟨c,0,none⟩)),(.int .i64 (((i:Nat):Int)))] T0 [an c (e8 n D M P) 71,own (P i) ((pl).length) (ints (List.flatMap ReplyT.flat (pl))) 175 3,gl s d r] (dL (λv H=>∃u,u.oneCell'=true∧v=u∧H=[an c (e8 n D M P) 71,mH (P i) pl,gl s d r,mH u (pl++s.replies)])):=by
 refine BD 34 Tryz.func31 rfl rfl rfl λw0 F hF=>sr λ_ J1=>PS ?_
 refine nx J1 (aa λ_ J2=>sr λ_ J3=>P2 ?_);refine CE qT (eH c i hi) ID ?_;refine PS ?_;refine nx J3 (CN (qx J2 (sr λ_ J4=>P3 ?_)));refine FA 11 pP Kl ?_;refine IX (11+i) OS xZ ?_;refine LT 0 JX (P i) ?_ (hc:=by exact Oh n D M P hi);refine Oo 175 3 (λ_=>cM (k:=0) (news:=ints (List.flatMap ReplyT.flat (pl))) (nn':=(pl).length) (xs':=ints (List.flatMap ReplyT.flat (pl))) (ab rfl) rfl rfl rfl JX zw rfl rfl rfl rfl rfl rfl (λ_ s=>Qp 2 rfl rfl s) (bB _) (by simp only[maxLen];omega) (by omega) (by simp) (by simp) (λv16 ov16=>PS ?_));refine nx J4 (aa λ_ J5=>sr λ_ J6=>P3 ?_);refine FA 6 pP rB ?_;refine IX (6+i) Fz oT ?_;refine LT 1 zO (.pointer (some ⟨r,0,none⟩)) ?_ (hc:=by exact(xz n D M P hi).trans (congrArg some hM));refine tp (jI rfl zO rfl rfl) ?_;refine nx J6 (CY (ag (P4 ?_)));refine FA 6 pP rB ?_;refine IX (6+i) Fz oT ?_;refine LT 1 zO (.pointer (some ⟨r,0,none⟩)) ?_ (hc:=by exact(xz n D M P hi).trans (congrArg some hM));refine CR Pr (GR s d r (by omega)) (SM [3]) λvR HR hR=>?_
 obtain⟨_,rfl,rfl⟩:=hR;revert vR;intro ur;refine cM (k:=2) (news:=ints (List.flatMap ReplyT.flat (s.replies))) (nn':=(pl++s.replies).length) (xs':=ints (List.flatMap ReplyT.flat (pl++s.replies))) (ab rfl) rfl rfl rfl JX zw rfl rfl rfl rfl rfl rfl (λ_ s=>Qp 1 rfl rfl s) (bB _) (by simp only[maxLen];omega) (by omega) (by rw[aj]) (by simp[ints]) (λv32 ov32=>PS ?_);refine nx J5 (sr λ_ J7=>P2 ?_);exact nx J7 (ak (WK [3,3,0,1] (aw rfl rfl ⟨_,ov32,rfl,rfl⟩)))
theorem Fg(c n i:Nat)(D M P:Nat→Value)(hi:i<5)(d:Nat)(hD:D i= .pointer (some ⟨d,0,none⟩))(e:DS)(o:OpT):
 DT 9 #[(.pointer (some ⟨c,0,none⟩)),(.agg (ints (OpT.mk 9 ((i:Nat):Int) o.to' o.key o.n o.change o.mask o.torn o.cut).flat).toArray)] T0 [an c (e8 n D M P) 71,dk d e] (RI (.int .i64 0) [an c (e8 n D M P) 71,dk d (e.arm o.n)]):=by
 refine BD 114 Tryz.func9 rfl rfl rfl λw0 F hF=>sr λ_ J1=>XY (ints (OpT.mk 9 ((i:Nat):Int) o.to' o.key o.n o.change o.mask o.torn o.cut).flat) λb3=>?_
 refine PS ?_;refine nx J1 (aa λ_ J2=>sr λ_ J3=>PS ?_);refine FA 1 fT aQ ?_;refine LT 0 Y3 (.int .i64 (((i:Nat):Int))) ?_ (hc:=by exact bM _ rfl);refine CE qT (eH c i hi) ID ?_;refine PS ?_;refine nx J3 (CN (qx J2 (aa λ_ J4=>sr λ_ J5=>FA 0 fT aQ ?_)));refine LT 0 Y3 (.int .i64 9) ?_ (hc:=by exact c7 _ rfl);refine nx J5 (av (aa λ_ J6=>sr λ_ J7=>P2 ?_));refine nx J7 (CN (sr λ_ J8=>P2 ?_));refine nx J8 (CN (sr λ_ J9=>P2 ?_));refine nx J9 (CN (sr λ_ J10=>P2 ?_));refine nx J10 (CN (ag (P2 ?_)));refine nx J6 (CN (aa λ_ J11=>sr λ_ J12=>P2 ?_));refine nx J12 (CN (sr λ_ J13=>P2 ?_));refine nx J13 (CN (ag (P2 ?_)));refine nx J11 (CN (sr λ_ J14=>P2 ?_));refine nx J14 (CN (sr λ_ J15=>P2 ?_));refine nx J15 (CY (D2 0 1 el ?_));refine PD 0 ?_;refine FD 1 1 fT aQ ?_;refine LX 2 Y3 (.int .i64 (((i:Nat):Int))) ?_ (hc:=by exact bM _ rfl);refine PD 3 ?_;refine FD 4 1 pP BJ ?_;refine IY 5 (1+i) L0 wm ?_;refine LX 6 JG (.pointer (some ⟨d,0,none⟩)) ?_ (hc:=by exact(Fm n D M P hi).trans (congrArg some hD));refine FD 7 4 fT aQ ?_;refine LX 8 Y3 (.int .i64 (o.n)) ?_ (hc:=by exact xP _ rfl);refine AL 9 ?_;refine CR PC (ML d e o.n) (SM [2]) λvR HR hR=>?_
 obtain⟨_,rfl⟩:=hR;refine EN (DN (ah (af J4 (sr λ_ J16=>PS ?_))));exact nx J16 (ak (WK [2,0] (aw rfl rfl ⟨rfl,rfl⟩)))
theorem Fb(c n i:Nat)(D M P:Nat→Value)(hi:i<5)(d:Nat)(hD:D i= .pointer (some ⟨d,0,none⟩))(r:Nat)(s:MS LD)(hM:M i= .pointer (some ⟨r,0,none⟩))(pl:List ReplyT)(hpl:pl.length≤100000)(hrs:s.replies.length≤100000)(e:DS)(hok:e.Ok)(o:OpT):
 DT 9 #[(.pointer (some ⟨c,0,none⟩)),(.agg (ints (OpT.mk 10 ((i:Nat):Int) o.to' o.key o.n o.change o.mask o.torn o.cut).flat).toArray)] T0 [an c (e8 n D M P) 71,dk d e,own (P i) ((pl).length) (ints (List.flatMap ReplyT.flat (pl))) 175 3,gl s d r] (dL (λv H=>∃u,u.oneCell'=true∧v= .int .i64 0∧H=[an c (e8 n D (nI M i (.pointer none)) (nI P i u)) 71,dk d (e.crash o.mask o.torn o.cut),mH u (pl++s.replies)])):=by
 refine BD 114 Tryz.func9 rfl rfl rfl λw0 F hF=>sr λ_ J1=>XY (ints (OpT.mk 10 ((i:Nat):Int) o.to' o.key o.n o.change o.mask o.torn o.cut).flat) λb3=>?_
 refine PS ?_;refine nx J1 (aa λ_ J2=>sr λ_ J3=>PS ?_);refine FA 1 fT aQ ?_;refine LT 0 Y3 (.int .i64 (((i:Nat):Int))) ?_ (hc:=by exact bM _ rfl);refine CE qT (eH c i hi) ID ?_;refine PS ?_;refine nx J3 (CN (qx J2 (aa λ_ J4=>sr λ_ J5=>FA 0 fT aQ ?_)));refine LT 0 Y3 (.int .i64 10) ?_ (hc:=by exact c7 _ rfl);refine nx J5 (av (aa λ_ J6=>sr λ_ J7=>P2 ?_));refine nx J7 (CN (sr λ_ J8=>P2 ?_));refine nx J8 (CN (sr λ_ J9=>P2 ?_));refine nx J9 (CN (sr λ_ J10=>P2 ?_));refine nx J10 (CN (ag (P2 ?_)));refine nx J6 (CN (aa λ_ J11=>sr λ_ J12=>P2 ?_));refine nx J12 (CN (sr λ_ J13=>P2 ?_));refine nx J13 (CN (ag (P2 ?_)));refine nx J11 (CN (sr λ_ J14=>P2 ?_));refine nx J14 (CN (sr λ_ J15=>P2 ?_));refine nx J15 (CN (sr λ_ J16=>P2 ?_));refine nx J16 (CY (aa λ_ J17=>D1 0 el ?_));refine PD 0 ?_;refine FD 1 1 fT aQ ?_;refine LX 2 Y3 (.int .i64 (((i:Nat):Int))) ?_ (hc:=by exact bM _ rfl);refine PD 3 ?_;refine FD 4 1 fT aQ ?_;refine LX 5 Y3 (.int .i64 (((i:Nat):Int))) ?_ (hc:=by exact bM _ rfl);refine PD 7 ?_;refine FD 8 11 pP Kl ?_;refine AL 6 ?_;refine CR NG (Er c n i D M P hi d r s hM pl hpl hrs) (SM [1,2,2]) λvR HR hR=>?_
 obtain⟨_,huc,rfl,rfl⟩:=hR;revert vR;intro uc huc;refine EN (IY 9 (11+i) OS xZ ?_);refine AL 10 ?_;refine cd (i:=0) (ab rfl) rfl rfl rfl rfl huc xZ rfl rfl (by rw[rT];omega) (Gf n D M P uc hi) rfl (EN (DN (af J17 (aa λ_ J18=>D1 4 el ?_))));refine PD 0 ?_;refine FD 1 1 fT aQ ?_;refine LX 2 Y3 (.int .i64 (((i:Nat):Int))) ?_ (hc:=by exact bM _ rfl);refine PD 3 ?_;refine FD 4 6 pP rB ?_;refine IY 5 (6+i) Fz oT ?_;refine AL 6 ?_;refine cd (i:=0) (ab rfl) rfl rfl rfl rfl rfl oT rfl rfl (by rw[rT];omega) (vK n D M (nI P i uc) (.pointer none) hi) rfl (EN (DN (af J18 (D2 4 0 el ?_))));refine PD 0 ?_;refine FD 1 1 fT aQ ?_;refine LX 2 Y3 (.int .i64 (((i:Nat):Int))) ?_ (hc:=by exact bM _ rfl);refine PD 3 ?_;refine FD 4 1 pP BJ ?_;refine IY 5 (1+i) L0 wm ?_;refine LX 6 JG (.pointer (some ⟨d,0,none⟩)) ?_ (hc:=by exact(Fm n D (nI M i (.pointer none)) (nI P i uc) hi).trans (congrArg some hD));refine FD 7 8 fT aQ ?_;refine LX 8 Y3 (.int .i64 (o.mask)) ?_ (hc:=by exact OpT.at_mask _ rfl);refine FD 9 9 fT aQ ?_;refine LX 10 Y3 (.int .i64 (o.torn)) ?_ (hc:=by exact OpT.at_torn _ rfl);refine FD 11 10 fT aQ ?_;refine LX 12 Y3 (.int .i64 (o.cut)) ?_ (hc:=by exact OpT.at_cut _ rfl);refine AL 13 ?_;refine CR NF (Dl d e o.mask o.torn o.cut hok) (SM [5]) λvR HR hR=>?_
 obtain⟨_,rfl⟩:=hR;refine EN (DN (ah (af J4 (sr λ_ J19=>PS ?_))));exact nx J19 (ak (WK [1,0,2] (aw rfl rfl ⟨uc,huc,rfl,rfl⟩)))
theorem Fc(c n i:Nat)(D M P:Nat→Value)(hi:i<5)(d:Nat)(hD:D i= .pointer (some ⟨d,0,none⟩))(hM:M i= .pointer none)(pl:List ReplyT)(hpl:pl.length≤100000)(e:DS)(hok:e.Ok)(o:OpT):
 DT 9 #[(.pointer (some ⟨c,0,none⟩)),(.agg (ints (OpT.mk 10 ((i:Nat):Int) o.to' o.key o.n o.change o.mask o.torn o.cut).flat).toArray)] T0 [an c (e8 n D M P) 71,dk d e,own (P i) ((pl).length) (ints (List.flatMap ReplyT.flat (pl))) 175 3] (dL (λv H=>∃u,u.oneCell'=true∧v= .int .i64 0∧H=[an c (e8 n D (nI M i (.pointer none)) (nI P i u)) 71,dk d (e.crash o.mask o.torn o.cut),mH u pl])):=by
 refine BD 114 Tryz.func9 rfl rfl rfl λw0 F hF=>sr λ_ J1=>XY (ints (OpT.mk 10 ((i:Nat):Int) o.to' o.key o.n o.change o.mask o.torn o.cut).flat) λb3=>?_
 refine PS ?_;refine nx J1 (aa λ_ J2=>sr λ_ J3=>PS ?_);refine FA 1 fT aQ ?_;refine LT 0 Y3 (.int .i64 (((i:Nat):Int))) ?_ (hc:=by exact bM _ rfl);refine CE qT (eH c i hi) ID ?_;refine PS ?_;refine nx J3 (CN (qx J2 (aa λ_ J4=>sr λ_ J5=>FA 0 fT aQ ?_)));refine LT 0 Y3 (.int .i64 10) ?_ (hc:=by exact c7 _ rfl);refine nx J5 (av (aa λ_ J6=>sr λ_ J7=>P2 ?_));refine nx J7 (CN (sr λ_ J8=>P2 ?_));refine nx J8 (CN (sr λ_ J9=>P2 ?_));refine nx J9 (CN (sr λ_ J10=>P2 ?_));refine nx J10 (CN (ag (P2 ?_)));refine nx J6 (CN (aa λ_ J11=>sr λ_ J12=>P2 ?_));refine nx J12 (CN (sr λ_ J13=>P2 ?_));refine nx J13 (CN (ag (P2 ?_)));refine nx J11 (CN (sr λ_ J14=>P2 ?_));refine nx J14 (CN (sr λ_ J15=>P2 ?_));refine nx J15 (CN (sr λ_ J16=>P2 ?_));refine nx J16 (CY (aa λ_ J17=>D1 0 el ?_));refine PD 0 ?_;refine FD 1 1 fT aQ ?_;refine LX 2 Y3 (.int .i64 (((i:Nat):Int))) ?_ (hc:=by exact bM _ rfl);refine PD 3 ?_;refine FD 4 1 fT aQ ?_;refine LX 5 Y3 (.int .i64 (((i:Nat):Int))) ?_ (hc:=by exact bM _ rfl);refine PD 7 ?_;refine FD 8 11 pP Kl ?_;refine AL 6 ?_;refine CR NG (Es c n i D M P hi hM pl hpl) (SM [1,2]) λvR HR hR=>?_
 obtain⟨_,huc,rfl,rfl⟩:=hR;revert vR;intro uc huc;refine EN (IY 9 (11+i) OS xZ ?_);refine AL 10 ?_;refine cd (i:=0) (ab rfl) rfl rfl rfl rfl huc xZ rfl rfl (by rw[rT];omega) (Gf n D M P uc hi) rfl (EN (DN (af J17 (aa λ_ J18=>D1 3 el ?_))));refine PD 0 ?_;refine FD 1 1 fT aQ ?_;refine LX 2 Y3 (.int .i64 (((i:Nat):Int))) ?_ (hc:=by exact bM _ rfl);refine PD 3 ?_;refine FD 4 6 pP rB ?_;refine IY 5 (6+i) Fz oT ?_;refine AL 6 ?_;refine cd (i:=0) (ab rfl) rfl rfl rfl rfl rfl oT rfl rfl (by rw[rT];omega) (vK n D M (nI P i uc) (.pointer none) hi) rfl (EN (DN (af J18 (D2 3 0 el ?_))));refine PD 0 ?_;refine FD 1 1 fT aQ ?_;refine LX 2 Y3 (.int .i64 (((i:Nat):Int))) ?_ (hc:=by exact bM _ rfl);refine PD 3 ?_;refine FD 4 1 pP BJ ?_;refine IY 5 (1+i) L0 wm ?_;refine LX 6 JG (.pointer (some ⟨d,0,none⟩)) ?_ (hc:=by exact(Fm n D (nI M i (.pointer none)) (nI P i uc) hi).trans (congrArg some hD));refine FD 7 8 fT aQ ?_;refine LX 8 Y3 (.int .i64 (o.mask)) ?_ (hc:=by exact OpT.at_mask _ rfl);refine FD 9 9 fT aQ ?_;refine LX 10 Y3 (.int .i64 (o.torn)) ?_ (hc:=by exact OpT.at_torn _ rfl);refine FD 11 10 fT aQ ?_;refine LX 12 Y3 (.int .i64 (o.cut)) ?_ (hc:=by exact OpT.at_cut _ rfl);refine AL 13 ?_;refine CR NF (Dl d e o.mask o.torn o.cut hok) (SM [4]) λvR HR hR=>?_
 obtain⟨_,rfl⟩:=hR;refine EN (DN (ah (af J4 (sr λ_ J19=>PS ?_))));exact nx J19 (ak (WK [1,0,1] (aw rfl rfl ⟨uc,huc,rfl,rfl⟩)))
theorem Kp{s:MS LD}{lg d r:Nat}{e:LD}{i:Int}(f:Fresh i e s){H:List HP}{h:Hl}(q:bN (DX lg r s::F6 lg d ((e.cnt:Nat):Int) e.used::H) h):bN (gl s d r::H) h:=by
 obtain⟨_,q⟩:=fL (p:=λ_:Unit=>[an r (RepT.cells (s.rep ⟨lg, .pointer none, .slice none 0 0⟩)) 94]) q;refine br (p:=GN s d r) ⟨lg, .pointer none, .slice none 0 0⟩ ?_;have q2:=im 175 3 q;have q3:bN (FG (.pointer none) (none:Option VoteT)::own (.slice none 0 0) 0 [] 175 3::an r (RepT.cells (s.rep ⟨lg, .pointer none, .slice none 0 0⟩)) 94::F6 lg d ((e.cnt:Nat):Int) e.used::H) h:=⟨em,h,DO h,(ra h).symm,rfl,q2⟩;have q4:=aE [2,2,1,0] rfl q3;simp only[GN,f.e,f.replies,f.vote];exact q4
theorem uF(i d:Nat)(e:DS)(hok:DkOk e):DT 25 #[.int .i64 ((i:Nat):Int), .pointer (some ⟨d,0,none⟩)] T0 [dk d e] (dL (λv H=>((dB i e).1=none∧(dB i e).2≠0∧v= .tuple #[.pointer none, .int .i64 (dB i e).2]∧H=[dk d (bI e).D])∨∃s r,(dB i e).1=some s∧v= .tuple #[.pointer (some ⟨r,0,none⟩), .int .i64 0]∧H=[gl s d r,dk d s.e.D])):=
 Leg.Does.fold (BY (⟨(bI e).recs.length,(bI e).used,(bI e).D⟩:LD) ((i:Nat):Int) d e hok.ok hok.inn (by have:=hok.ws;omega)) λx H hp=>by
  cases x with
  |returned v=>
   unfold dB;rcases hp with⟨he,rfl,rfl⟩| ⟨he,⟨hn,rfl,rfl⟩| ⟨s,r,lg,hn,rfl,rfl⟩⟩
   · rw[if_pos he];exact⟨_,λ_ q=>q, .inl ⟨rfl,he,rfl,rfl⟩⟩
   · rw[if_neg (by rw[he];decide),hn];exact⟨_,λ_ q=>q, .inl ⟨rfl,(by decide),rfl,rfl⟩⟩
   · rw[if_neg (by rw[he];decide),hn]
     have f:=HZ _ (Qi _ _) hn;refine⟨[gl s d r,dk d s.e.D],λ_ q=>Kp (lg:=lg) f ?_, .inr ⟨s,r,rfl,rfl,rfl⟩⟩;rw[f.e];exact q
  |panicked c=>exact hp.elim
  |outgrown=>exact hp.elim
theorem BU(c n i:Nat)(D M P:Nat→Value)(hi:i<5)(d:Nat)(hD:D i= .pointer (some ⟨d,0,none⟩))(hM:M i= .pointer none)(e:DS)(hok:DkOk e):
 DT 33 #[(.pointer (some ⟨c,0,none⟩)),(.int .i64 (((i:Nat):Int)))] T0 [an c (e8 n D M P) 71,dk d e] (dL (λv H=>((dB i e).1=none∧v= .int .i64 (dB i e).2∧H=[an c (e8 n D M P) 71,dk d (bI e).D])∨∃s r,(dB i e).1=some s∧v= .int .i64 0∧H=[an c (e8 n D (nI M i (.pointer (some ⟨r,0,none⟩))) P) 71,gl s d r,dk d s.e.D])):=by
 refine BD 34 Tryz.func33 rfl rfl rfl λw0 F hF=>sr λ_ J1=>PS ?_
 refine nx J1 (aa λ_ J2=>sr λ_ J3=>P3 ?_);refine FA 6 pP rB ?_;refine IX (6+i) Fz oT ?_;refine LT 0 zO (.pointer none) ?_ (hc:=by exact(xz n D M P hi).trans (congrArg some hM));refine tp (jo rfl zO rfl rfl) ?_;refine nx J3 (CN (qx J2 (sr λ_ J4=>P4 ?_)));refine FA 1 pP BJ ?_;refine IX (1+i) L0 wm ?_;refine LT 0 JG (.pointer (some ⟨d,0,none⟩)) ?_ (hc:=by exact(Fm n D M P hi).trans (congrArg some hD));refine CR NH (uF i d e hok) (SM [1]) λvR HR hR=>?_
 rcases hR with⟨hn,h0,rfl,rfl⟩| ⟨s,r,hn,rfl,rfl⟩
 refine P4 ?_;refine PS ?_;refine nx J4 (aa λ_ J5=>sr λ_ J6=>P2 ?_);refine aq ?_ ?_<;>intro h26
 · exact absurd h26 h0
 refine nx J6 (CN (qx J5 (sr λ_ J7=>P2 ?_)));exact nx J7 (ak (WK [1,0] (aw rfl rfl (.inl ⟨hn,rfl,rfl⟩))));refine P4 ?_;refine PS ?_;refine nx J4 (aa λ_ J8=>sr λ_ J9=>P2 ?_);refine nx J9 (CY (ag (P4 ?_)));refine FA 6 pP rB ?_;refine IX (6+i) Fz oT ?_;refine cd (i:=2) (ab rfl) rfl rfl rfl rfl rfl oT rfl rfl (by rw[rT];omega) (vK n D M P (.pointer (some ⟨r,0,none⟩)) hi) rfl (nx J8 (sr λ_ J10=>P2 ?_));exact nx J10 (ak (WK [2,0,0] (aw rfl rfl (.inr ⟨s,r,hn,rfl,rfl⟩))))
theorem BS(c n i:Nat)(D M P:Nat→Value)(hi:i<5)(r:Nat)(hM:M i= .pointer (some ⟨r,0,none⟩)):
 DT 33 #[(.pointer (some ⟨c,0,none⟩)),(.int .i64 (((i:Nat):Int)))] T0 [an c (e8 n D M P) 71] (RI (.int .i64 5) [an c (e8 n D M P) 71]):=by
 refine BD 34 Tryz.func33 rfl rfl rfl λw0 F hF=>sr λ_ J1=>PS ?_
 refine nx J1 (aa λ_ J2=>sr λ_ J3=>P3 ?_);refine FA 6 pP rB ?_;refine IX (6+i) Fz oT ?_;refine LT 0 zO (.pointer (some ⟨r,0,none⟩)) ?_ (hc:=by exact(xz n D M P hi).trans (congrArg some hM));refine tp (jI rfl zO rfl rfl) ?_;refine nx J3 (CY (sr λ_ J4=>PS ?_));exact nx J4 (ak (ae (WK [0] (aw rfl rfl ⟨rfl,rfl⟩))))
theorem Fa(c n i:Nat)(D M P:Nat→Value)(hi:i<5)(d:Nat)(hD:D i= .pointer (some ⟨d,0,none⟩))(hM:M i= .pointer none)(e:DS)(hok:DkOk e)(o:OpT):
 DT 9 #[(.pointer (some ⟨c,0,none⟩)),(.agg (ints (OpT.mk 11 ((i:Nat):Int) o.to' o.key o.n o.change o.mask o.torn o.cut).flat).toArray)] T0 [an c (e8 n D M P) 71,dk d e] (dL (λv H=>((dB i e).1=none∧v= .int .i64 (dB i e).2∧H=[an c (e8 n D M P) 71,dk d (bI e).D])∨∃s r,(dB i e).1=some s∧v= .int .i64 0∧H=[an c (e8 n D (nI M i (.pointer (some ⟨r,0,none⟩))) P) 71,gl s d r,dk d s.e.D])):=by
 refine BD 114 Tryz.func9 rfl rfl rfl λw0 F hF=>sr λ_ J1=>XY (ints (OpT.mk 11 ((i:Nat):Int) o.to' o.key o.n o.change o.mask o.torn o.cut).flat) λb3=>?_
 refine PS ?_;refine nx J1 (aa λ_ J2=>sr λ_ J3=>PS ?_);refine FA 1 fT aQ ?_;refine LT 0 Y3 (.int .i64 (((i:Nat):Int))) ?_ (hc:=by exact bM _ rfl);refine CE qT (eH c i hi) ID ?_;refine PS ?_;refine nx J3 (CN (qx J2 (aa λ_ J4=>sr λ_ J5=>FA 0 fT aQ ?_)));refine LT 0 Y3 (.int .i64 11) ?_ (hc:=by exact c7 _ rfl);refine nx J5 (av (aa λ_ J6=>sr λ_ J7=>P2 ?_));refine nx J7 (CN (sr λ_ J8=>P2 ?_));refine nx J8 (CN (sr λ_ J9=>P2 ?_));refine nx J9 (CN (sr λ_ J10=>P2 ?_));refine nx J10 (CN (ag (P2 ?_)));refine nx J6 (CN (aa λ_ J11=>sr λ_ J12=>P2 ?_));refine nx J12 (CN (sr λ_ J13=>P2 ?_));refine nx J13 (CN (ag (P2 ?_)));refine nx J11 (CN (sr λ_ J14=>P2 ?_));refine nx J14 (CN (sr λ_ J15=>P2 ?_));refine nx J15 (CN (sr λ_ J16=>P2 ?_));refine nx J16 (CN (sr λ_ J17=>P2 ?_));refine nx J17 (CY (sr λ_ J18=>PS ?_));refine FA 1 fT aQ ?_;refine LT 0 Y3 (.int .i64 (((i:Nat):Int))) ?_ (hc:=by exact bM _ rfl);refine CR NE (BU c n i D M P hi d hD hM e hok) (SM [1,1]) λvR HR hR=>?_
 rcases hR with⟨hn,rfl,rfl⟩| ⟨s,r,hn,rfl,rfl⟩
 refine PS ?_;exact nx J18 (ak (aI (ae (WK [0,0] (aw rfl rfl (.inl ⟨hn,rfl,rfl⟩))))));refine PS ?_;exact nx J18 (ak (aI (ae (WK [0,0,0] (aw rfl rfl (.inr ⟨s,r,hn,rfl,rfl⟩))))))
theorem E9(c n i:Nat)(D M P:Nat→Value)(hi:i<5)(r:Nat)(hM:M i= .pointer (some ⟨r,0,none⟩))(o:OpT):
 DT 9 #[(.pointer (some ⟨c,0,none⟩)),(.agg (ints (OpT.mk 11 ((i:Nat):Int) o.to' o.key o.n o.change o.mask o.torn o.cut).flat).toArray)] T0 [an c (e8 n D M P) 71] (RI (.int .i64 5) [an c (e8 n D M P) 71]):=by
 refine BD 114 Tryz.func9 rfl rfl rfl λw0 F hF=>sr λ_ J1=>XY (ints (OpT.mk 11 ((i:Nat):Int) o.to' o.key o.n o.change o.mask o.torn o.cut).flat) λb3=>?_
 refine PS ?_;refine nx J1 (aa λ_ J2=>sr λ_ J3=>PS ?_);refine FA 1 fT aQ ?_;refine LT 0 Y3 (.int .i64 (((i:Nat):Int))) ?_ (hc:=by exact bM _ rfl);refine CE qT (eH c i hi) ID ?_;refine PS ?_;refine nx J3 (CN (qx J2 (aa λ_ J4=>sr λ_ J5=>FA 0 fT aQ ?_)));refine LT 0 Y3 (.int .i64 11) ?_ (hc:=by exact c7 _ rfl);refine nx J5 (av (aa λ_ J6=>sr λ_ J7=>P2 ?_));refine nx J7 (CN (sr λ_ J8=>P2 ?_));refine nx J8 (CN (sr λ_ J9=>P2 ?_));refine nx J9 (CN (sr λ_ J10=>P2 ?_));refine nx J10 (CN (ag (P2 ?_)));refine nx J6 (CN (aa λ_ J11=>sr λ_ J12=>P2 ?_));refine nx J12 (CN (sr λ_ J13=>P2 ?_));refine nx J13 (CN (ag (P2 ?_)));refine nx J11 (CN (sr λ_ J14=>P2 ?_));refine nx J14 (CN (sr λ_ J15=>P2 ?_));refine nx J15 (CN (sr λ_ J16=>P2 ?_));refine nx J16 (CN (sr λ_ J17=>P2 ?_));refine nx J17 (CY (sr λ_ J18=>PS ?_));refine FA 1 fT aQ ?_;refine LT 0 Y3 (.int .i64 (((i:Nat):Int))) ?_ (hc:=by exact bM _ rfl);refine CE NE (BS c n i D M P hi r hM) (SM [1]) ?_;refine PS ?_;exact nx J18 (ak (aI (ae (WK [0] (aw rfl rfl ⟨rfl,rfl⟩)))))
theorem Bx(c n i:Nat)(D M P:Nat→Value)(hi:i<5)(to' k:Int)(o:OpT)(hv:dm ((i:Nat):Int) to'=false)(bs:List Nat):
 DT 28 #[(.pointer (some ⟨c,0,none⟩)),(.agg (ints (OpT.mk k ((i:Nat):Int) to' o.key o.n o.change o.mask o.torn o.cut).flat).toArray)] T0 [an c (e8 n D M P) 71,an n (dF bs) 110] (RI (.int .i64 5) [an c (e8 n D M P) 71,an n (dF bs) 110]):=by
 refine BD 91 Tryz.func28 rfl rfl rfl λw0 F hF=>sr λ_ J1=>XY (ints (OpT.mk k ((i:Nat):Int) to' o.key o.n o.change o.mask o.torn o.cut).flat) λb3=>?_
 refine PS ?_;refine nx J1 (aa λ_ J2=>D2 0 1 el ?_);refine PD 0 ?_;refine PD 1 ?_;refine FD 2 0 pP Aj ?_;refine LX 3 JH (.pointer (some ⟨n,0,none⟩)) ?_ (hc:=by exact A7 n D M P);refine FD 4 1 fT aQ ?_;refine LX 5 Y3 (.int .i64 (((i:Nat):Int))) ?_ (hc:=by exact bM _ rfl);refine FD 6 2 fT aQ ?_;refine LX 7 Y3 (.int .i64 (to')) ?_ (hc:=by exact ja _ rfl);refine AL 8 ?_;refine CR EH (mZ n bs ((i:Nat):Int) to') (SM [2]) λvR HR hR=>?_
 obtain⟨hw,rfl⟩:=hR;obtain⟨_,rfl⟩:dm ((i:Nat):Int) to'=false∧vR= .pointer none:=hw.resolve_left (λq=>by rw[hv]at q;cases q.1);refine EN (PD 9 ?_);refine DN (af J2 (aa λ_ J3=>sr λ_ J4=>PS ?_));refine tp (Qs rfl xM rfl rfl) ?_;refine nx J4 (CY (sr λ_ J5=>PS ?_));exact nx J5 (ak (ae (WK [2,0] (aw rfl rfl ⟨rfl,rfl⟩))))
theorem pX{n i j:Nat}{bs:List Nat}{W:List (List MsgT)}{l:List MsgT}{H:List HP}{h:Hl}(hv:dm ((i:Nat):Int) ((j:Nat):Int)=true)(hW:W.length=25)(q:bN (iq 160 5 (bs.getD (bw ((i:Nat):Int) ((j:Nat):Int)) 0) (List.map (kS (bw ((i:Nat):Int) ((j:Nat):Int))) l)::fM 160 5 bs (cO W) (bw ((i:Nat):Int) ((j:Nat):Int))::an n (dF bs) 110::H) h):bN (eP 110 160 5 n (cO (W.set (bw ((i:Nat):Int) ((j:Nat):Int)) l))::H) h:=by
 have q2:=tM hv (pY W) q;rw[vZ W (iT hv).1 hW]at q2;exact br (p:=λbs:List Nat=>[an n (dF bs) 110,eY 160 5 bs (cO (W.set (bw ((i:Nat):Int) ((j:Nat):Int)) l))]) bs (eF (List.Perm.swap _ _ _) q2)
theorem zX(c n i:Nat)(D M P:Nat→Value)(hi:i<5)(j:Nat)(hj:j<5)(hv:dm ((i:Nat):Int) ((j:Nat):Int)=true)(W:List (List MsgT))(hW:W.length=25)(l:List MsgT)(hl:W.getD (bw ((i:Nat):Int) ((j:Nat):Int)) []=l)(h8:l.length≤8)(hlen: ∀m∈l,0< (bS m).length)(o:OpT)(k:Int)(hn:l=[])(bs:List Nat):
 DT 28 #[(.pointer (some ⟨c,0,none⟩)),(.agg (ints (OpT.mk k ((i:Nat):Int) ((j:Nat):Int) o.key o.n o.change o.mask o.torn o.cut).flat).toArray)] T0 [an n (dF bs) 110,eY 160 5 bs (cO W),an c (e8 n D M P) 71] (RI (.int .i64 10) [an c (e8 n D M P) 71,eP 110 160 5 n (cO (W.set (bw ((i:Nat):Int) ((j:Nat):Int)) l))]):=by
 refine BD 91 Tryz.func28 rfl rfl rfl λw0 F hF=>sr λ_ J1=>XY (ints (OpT.mk k ((i:Nat):Int) ((j:Nat):Int) o.key o.n o.change o.mask o.torn o.cut).flat) λb3=>?_
 refine PS ?_;refine nx J1 (aa λ_ J2=>D2 0 3 el ?_);refine PD 0 ?_;refine PD 1 ?_;refine FD 2 0 pP Aj ?_;refine LX 3 JH (.pointer (some ⟨n,0,none⟩)) ?_ (hc:=by exact A7 n D M P);refine FD 4 1 fT aQ ?_;refine LX 5 Y3 (.int .i64 (((i:Nat):Int))) ?_ (hc:=by exact bM _ rfl);refine FD 6 2 fT aQ ?_;refine LX 7 Y3 (.int .i64 (((j:Nat):Int))) ?_ (hc:=by exact ja _ rfl);refine AL 8 ?_;refine CR EH (mZ n bs ((i:Nat):Int) ((j:Nat):Int)) (SM [1]) λvR HR hR=>?_
 obtain⟨hw,rfl⟩:=hR;obtain⟨_,rfl⟩:dm ((i:Nat):Int) ((j:Nat):Int)=true∧vR= .pointer (some ⟨(bs.getD (bw ((i:Nat):Int) ((j:Nat):Int)) 0),0,none⟩):=hw.resolve_right (λq=>by rw[hv]at q;cases q.1);refine EN (PD 9 ?_);refine DN (af J2 (aa λ_ J3=>sr λ_ J4=>PS ?_));refine tp (km rfl xM rfl rfl) ?_;refine nx J4 (CN (qx J3 (aa λ_ J5=>sr λ_ J6=>cB (H':=[iq 160 5 (bs.getD (bw ((i:Nat):Int) ((j:Nat):Int)) 0) (List.map (kS (bw ((i:Nat):Int) ((j:Nat):Int))) l),fM 160 5 bs (cO W) (bw ((i:Nat):Int) ((j:Nat):Int)),an n (dF bs) 110,an b3 (ints (OpT.mk k ((i:Nat):Int) ((j:Nat):Int) o.key o.n o.change o.mask o.torn o.cut).flat) 35,an c (e8 n D M P) 71]) (λ_ q=>hl▸nG W (iT hv).1▸og hv (aE [2] rfl q)) (PS ?_))));refine CE Cw (jG (bs.getD (bw ((i:Nat):Int) ((j:Nat):Int)) 0) (List.map (kS (bw ((i:Nat):Int) ((j:Nat):Int))) l)) ID ?_;rw[bW];refine PS ?_;refine aq ?_ ?_<;>intro h23;refine nx J6 (CY (sr λ_ J7=>PS ?_));exact nx J7 (ak (ae (aG (H':=[an c (e8 n D M P) 71,eP 110 160 5 n (cO (W.set (bw ((i:Nat):Int) ((j:Nat):Int)) l))]) (dP _) (λ_ q=>eF (List.Perm.swap _ _ _) (pX (bs:=bs) hv hW (ao [0,0,0,1] rfl q))) (aw rfl rfl ⟨rfl,rfl⟩))))
 · exact absurd (by rw[hn];rfl) h23
theorem xV(c n i:Nat)(D M P:Nat→Value)(hi:i<5)(j:Nat)(hj:j<5)(hv:dm ((i:Nat):Int) ((j:Nat):Int)=true)(W:List (List MsgT))(hW:W.length=25)(l:List MsgT)(hl:W.getD (bw ((i:Nat):Int) ((j:Nat):Int)) []=l)(h8:l.length≤8)(hlen: ∀m∈l,0< (bS m).length)(o:OpT)(hn:l≠[])(bs:List Nat):
    DT 28 #[(.pointer (some ⟨c,0,none⟩)),(.agg (ints (OpT.mk 7 ((i:Nat):Int) ((j:Nat):Int) o.key o.n o.change o.mask o.torn o.cut).flat).toArray)] T0 [an n (dF bs) 110,eY 160 5 bs (cO W),an c (e8 n D M P) 71] (RI (.int .i64 (if Ih l then 0 else 3)) [an c (e8 n D M P) 71,eP 110 160 5 n (cO (W.set (bw ((i:Nat):Int) ((j:Nat):Int)) (DR l)))]):=by
 refine BD 91 Tryz.func28 rfl rfl rfl λw0 F hF=>sr λ_ J1=>XY (ints (OpT.mk 7 ((i:Nat):Int) ((j:Nat):Int) o.key o.n o.change o.mask o.torn o.cut).flat) λb3=>?_
 refine PS ?_;refine nx J1 (aa λ_ J2=>D2 0 3 el ?_);refine PD 0 ?_;refine PD 1 ?_;refine FD 2 0 pP Aj ?_;refine LX 3 JH (.pointer (some ⟨n,0,none⟩)) ?_ (hc:=by exact A7 n D M P);refine FD 4 1 fT aQ ?_;refine LX 5 Y3 (.int .i64 (((i:Nat):Int))) ?_ (hc:=by exact bM _ rfl);refine FD 6 2 fT aQ ?_;refine LX 7 Y3 (.int .i64 (((j:Nat):Int))) ?_ (hc:=by exact ja _ rfl);refine AL 8 ?_;refine CR EH (mZ n bs ((i:Nat):Int) ((j:Nat):Int)) (SM [1]) λvR HR hR=>?_
 obtain⟨hw,rfl⟩:=hR;obtain⟨_,rfl⟩:dm ((i:Nat):Int) ((j:Nat):Int)=true∧vR= .pointer (some ⟨(bs.getD (bw ((i:Nat):Int) ((j:Nat):Int)) 0),0,none⟩):=hw.resolve_right (λq=>by rw[hv]at q;cases q.1);refine EN (PD 9 ?_);refine DN (af J2 (aa λ_ J3=>sr λ_ J4=>PS ?_));refine tp (km rfl xM rfl rfl) ?_;refine nx J4 (CN (qx J3 (aa λ_ J5=>sr λ_ J6=>cB (H':=[iq 160 5 (bs.getD (bw ((i:Nat):Int) ((j:Nat):Int)) 0) (List.map (kS (bw ((i:Nat):Int) ((j:Nat):Int))) l),fM 160 5 bs (cO W) (bw ((i:Nat):Int) ((j:Nat):Int)),an n (dF bs) 110,an b3 (ints (OpT.mk 7 ((i:Nat):Int) ((j:Nat):Int) o.key o.n o.change o.mask o.torn o.cut).flat) 35,an c (e8 n D M P) 71]) (λ_ q=>hl▸nG W (iT hv).1▸og hv (aE [2] rfl q)) (PS ?_))));refine CE Cw (jG (bs.getD (bw ((i:Nat):Int) ((j:Nat):Int)) 0) (List.map (kS (bw ((i:Nat):Int) ((j:Nat):Int))) l)) ID ?_;rw[bW];refine PS ?_;refine aq ?_ ?_<;>intro h23
 · exact absurd (List.eq_nil_of_length_eq_zero (by omega)) hn
 refine nx J6 (CN (qx J5 (aa λ_ J7=>sr λ_ J8=>FA 0 fT aQ ?_)));refine LT 3 Y3 (.int .i64 7) ?_ (hc:=by exact c7 _ rfl);refine PS ?_;refine nx J8 (CY (aa λ_ J9=>sr λ_ J10=>PS ?_))
 refine li (ab rfl) rfl rfl rfl Pu rfl (yr (bs.getD (bw ((i:Nat):Int) ((j:Nat):Int)) 0) (List.map (kS (bw ((i:Nat):Int) ((j:Nat):Int))) l) (by rw[bW];exact h8) (λx hx=>by
        obtain⟨m,_,rfl⟩:=dw.1 hx
        exact vY _ m)) (λ_ s=>s) (λ_ _ _=>trivial) (λvR HR hR=>?_)
 obtain⟨rfl,rfl⟩:=hR;rw[Kg,Kf];refine bh ?_ ?_<;>intro h28;refine PS ?_;refine nx J10 (CN (qx J9 (sr λ_ J11=>PS ?_)));refine nx J11 (ak (ae (aG (H':=[an c (e8 n D M P) 71,eP 110 160 5 n (cO (W.set (bw ((i:Nat):Int) ((j:Nat):Int)) (DR l)))]) (dP _) (λ_ q=>eF (List.Perm.swap _ _ _) (pX (bs:=bs) hv hW (ao [0,0,0,1] rfl q))) (aw rfl rfl ?_))));exact⟨by rw[h28];rfl,rfl⟩;refine PS ?_;refine nx J10 (CY (sr λ_ J12=>PS ?_));refine nx J12 (ak (ae (ae (aG (H':=[an c (e8 n D M P) 71,eP 110 160 5 n (cO (W.set (bw ((i:Nat):Int) ((j:Nat):Int)) (DR l)))]) (dP _) (λ_ q=>eF (List.Perm.swap _ _ _) (pX (bs:=bs) hv hW (ao [0,0,0,1] rfl q))) (aw rfl rfl ?_)))));exact⟨by rw[h28];rfl,rfl⟩
theorem FJ{i j:Nat}{W:List (List MsgT)}{m:MsgT}{l2:List MsgT}(hv:dm ((i:Nat):Int) ((j:Nat):Int)=true)(hW:W.length=25):(cO (W.set (bw ((i:Nat):Int) ((j:Nat):Int)) (m::l2))).getD (bw ((i:Nat):Int) ((j:Nat):Int)) []=jD ((i:Nat):Int) ((j:Nat):Int) (bS m)::List.map (kS (bw ((i:Nat):Int) ((j:Nat):Int))) l2:=by
 rw[nG _ (iT hv).1,List.getD_eq_getElem?_getD,List.getElem?_set_self (by rw[hW];exact(iT hv).1),←Bw (sE hv).1 (sE hv).2];rfl
theorem BC{i j:Nat}{W:List (List MsgT)}{m:MsgT}{l2:List MsgT}(hv:dm ((i:Nat):Int) ((j:Nat):Int)=true)(hW:W.length=25):(cO (W.set (bw ((i:Nat):Int) ((j:Nat):Int)) (m::l2))).set (bw ((i:Nat):Int) ((j:Nat):Int)) (List.map (kS (bw ((i:Nat):Int) ((j:Nat):Int))) l2)=cO (W.set (bw ((i:Nat):Int) ((j:Nat):Int)) l2):=by
 rw[vZ _ (iT hv).1 (by rw[lj];exact hW),mp]
theorem sw(c n i:Nat)(D M P:Nat→Value)(hi:i<5)(j:Nat)(hj:j<5)(hv:dm ((i:Nat):Int) ((j:Nat):Int)=true)(W:List (List MsgT))(hW:W.length=25)(l:List MsgT)(hl:W.getD (bw ((i:Nat):Int) ((j:Nat):Int)) []=l)(h8:l.length≤8)(hlen: ∀m∈l,0< (bS m).length)(o:OpT)(m:MsgT)(l2:List MsgT)(ht:lA (max o.n 0% ((l.length:Nat):Int)).toNat l=m::l2)(bs:List Nat)(q:Int)(hk5:q=5∨q=6)(hk:q=6∨M j= .pointer none):
    DT 28 #[(.pointer (some ⟨c,0,none⟩)),(.agg (ints (OpT.mk q ((i:Nat):Int) ((j:Nat):Int) o.key o.n o.change o.mask o.torn o.cut).flat).toArray)] T0 [an n (dF bs) 110,eY 160 5 bs (cO W),an c (e8 n D M P) 71] (RI (.int .i64 0) [an c (e8 n D M P) 71,eP 110 160 5 n (cO (W.set (bw ((i:Nat):Int) ((j:Nat):Int)) l2))]):=by
 refine BD 91 Tryz.func28 rfl rfl rfl λw0 F hF=>?_
 have hln:0<l.length:=by
     have:=jt (max o.n 0% ((l.length:Nat):Int)).toNat l;rw[ht]at this;rw[←this];exact Nat.succ_pos _
 have hm0:0< (bS m).length:=hlen m ((m5 (max o.n 0% ((l.length:Nat):Int)).toNat l).1 (ht▸cY ..));have hrl:(max o.n 0% ((l.length:Nat):Int))< ((l.length:Nat):Int):=HY _ (by omega);refine sr λ_ J1=>XY (ints (OpT.mk q ((i:Nat):Int) ((j:Nat):Int) o.key o.n o.change o.mask o.torn o.cut).flat) λb3=>?_
 refine PS ?_;refine nx J1 (aa λ_ J2=>D2 0 3 el ?_);refine PD 0 ?_;refine PD 1 ?_;refine FD 2 0 pP Aj ?_;refine LX 3 JH (.pointer (some ⟨n,0,none⟩)) ?_ (hc:=by exact A7 n D M P);refine FD 4 1 fT aQ ?_;refine LX 5 Y3 (.int .i64 (((i:Nat):Int))) ?_ (hc:=by exact bM _ rfl);refine FD 6 2 fT aQ ?_;refine LX 7 Y3 (.int .i64 (((j:Nat):Int))) ?_ (hc:=by exact ja _ rfl);refine AL 8 ?_;refine CR EH (mZ n bs ((i:Nat):Int) ((j:Nat):Int)) (SM [1]) λvR HR hR=>?_
 obtain⟨hw,rfl⟩:=hR;obtain⟨_,rfl⟩:dm ((i:Nat):Int) ((j:Nat):Int)=true∧vR= .pointer (some ⟨(bs.getD (bw ((i:Nat):Int) ((j:Nat):Int)) 0),0,none⟩):=hw.resolve_right (λq=>by rw[hv]at q;cases q.1);refine EN (PD 9 ?_);refine DN (af J2 (aa λ_ J3=>sr λ_ J4=>PS ?_));refine tp (km rfl xM rfl rfl) ?_;refine nx J4 (CN (qx J3 (aa λ_ J5=>sr λ_ J6=>cB (H':=[iq 160 5 (bs.getD (bw ((i:Nat):Int) ((j:Nat):Int)) 0) (List.map (kS (bw ((i:Nat):Int) ((j:Nat):Int))) l),fM 160 5 bs (cO W) (bw ((i:Nat):Int) ((j:Nat):Int)),an n (dF bs) 110,an b3 (ints (OpT.mk q ((i:Nat):Int) ((j:Nat):Int) o.key o.n o.change o.mask o.torn o.cut).flat) 35,an c (e8 n D M P) 71]) (λ_ q=>hl▸nG W (iT hv).1▸og hv (aE [2] rfl q)) (PS ?_))));refine CE Cw (jG (bs.getD (bw ((i:Nat):Int) ((j:Nat):Int)) 0) (List.map (kS (bw ((i:Nat):Int) ((j:Nat):Int))) l)) ID ?_;rw[bW];refine PS ?_;refine aq ?_ ?_<;>intro h23
 · exact absurd h23 (by omega)
 refine nx J6 (CN (qx J5 (aa λ_ J7=>sr λ_ J8=>FA 0 fT aQ ?_)));refine LT 3 Y3 (.int .i64 (q)) ?_ (hc:=by exact c7 _ rfl);refine PS ?_;refine aq ?_ ?_<;>intro h26
 · exact absurd h26 (by omega)
 refine nx J8 (CN (qx J7 (aa λ_ J9=>aa λ_ J10=>D1 3 el ?_)));refine FD 0 4 fT aQ ?_;refine LX 1 Y3 (.int .i64 (o.n)) ?_ (hc:=by exact xP _ rfl);refine ta 2 rfl (yB rfl rfl rfl) ?_;refine PD 3 ?_;refine PD 6 ?_;refine AL 4 ?_;refine CE Cw (jG (bs.getD (bw ((i:Nat):Int) ((j:Nat):Int)) 0) (List.map (kS (bw ((i:Nat):Int) ((j:Nat):Int))) l)) ID ?_;rw[bW];refine EN (ta 5 rfl (PV.rem (r:=(max o.n 0% ((l.length:Nat):Int))) rfl rfl rfl (by omega) (tG (by omega))) ?_);refine DN (af J10 (av ?_))
 refine bG (α:=(Nat)) (λk=>((k:Nat):Int)≤(max o.n 0% ((l.length:Nat):Int))) (λk=>[(0,(.pointer (some ⟨c,0,none⟩))),(3,(.pointer (some ⟨b3,0,none⟩))),(4,(.int .i64 0)),(5,(.pointer (some ⟨(bs.getD (bw ((i:Nat):Int) ((j:Nat):Int)) 0),0,none⟩))),(35,(.int .i64 ((max o.n 0% ((l.length:Nat):Int))))),(36,(.int .i64 (((k:Nat):Int))))]) (λk=>[iq 160 5 (bs.getD (bw ((i:Nat):Int) ((j:Nat):Int)) 0) (List.map (kS (bw ((i:Nat):Int) ((j:Nat):Int))) (lA k l)),fM 160 5 bs (cO W) (bw ((i:Nat):Int) ((j:Nat):Int)),an n (dF bs) 110,an b3 (ints (OpT.mk q ((i:Nat):Int) ((j:Nat):Int) o.key o.n o.change o.mask o.torn o.cut).flat) 35,an c (e8 n D M P) 71]) (λk=>(max o.n 0% ((l.length:Nat):Int)).toNat-k) 0
     (zQ _ (by omega)) SB
     (λ_ s=>aE [0,0,0,0,0] rfl s) (λk hinv=>?_)
 obtain hk:=hinv;refine sr λ_ J11=>PS ?_
 refine aq ?_ ?_<;>intro h37;refine nx J11 (aa λ_ J12=>CY (qx J12 (aa λ_ J13=>av (ag (PS ?_)))))
 refine li (ab rfl) rfl rfl rfl Nv rfl (tr (bs.getD (bw ((i:Nat):Int) ((j:Nat):Int)) 0) (List.map (kS (bw ((i:Nat):Int) ((j:Nat):Int))) (lA k l)) (by rw[bW,jt];exact h8) (λx hx=>by
        obtain⟨m,_,rfl⟩:=dw.1 hx
        exact vY _ m)) (λ_ s=>s) (λ_ _ _=>trivial) (λvR HR hR=>?_)
 obtain rfl:=hR;rw[yP];refine ax (ah (af J13 (ag (AD ?_))));refine PS ?_;refine ax ?_
 exact aN ((k+1):(Nat)) (by omega) (by show(max o.n 0% ((l.length:Nat):Int)).toNat- (k+1)< (max o.n 0% ((l.length:Nat):Int)).toNat-k;omega)
   SB
   (λ_ s=>aE [0,0,0,0,0] rfl s)
 have hkr:k=(max o.n 0% ((l.length:Nat):Int)).toNat:=by omega
 refine cB (H':=[iq 160 5 (bs.getD (bw ((i:Nat):Int) ((j:Nat):Int)) 0) (List.map (kS (bw ((i:Nat):Int) ((j:Nat):Int))) (m::l2)),fM 160 5 bs (cO W) (bw ((i:Nat):Int) ((j:Nat):Int)),an n (dF bs) 110,an b3 (ints (OpT.mk q ((i:Nat):Int) ((j:Nat):Int) o.key o.n o.change o.mask o.torn o.cut).flat) 35,an c (e8 n D M P) 71]) (λ_ q=>by rw[hkr,ht]at q;exact q) (nx J11 (aa λ_ J14=>CN (bg (aC (aC (bD (af J9 (aa λ_ J15=>D2 3 4 el ?_))))))));refine PD 0 ?_;refine PD 1 ?_;refine FD 2 0 pP Aj ?_;refine LX 3 JH (.pointer (some ⟨n,0,none⟩)) ?_ (hc:=by exact A7 n D M P);refine FD 4 1 fT aQ ?_;refine LX 5 Y3 (.int .i64 (((i:Nat):Int))) ?_ (hc:=by exact bM _ rfl);refine FD 6 2 fT aQ ?_;refine LX 7 Y3 (.int .i64 (((j:Nat):Int))) ?_ (hc:=by exact ja _ rfl);refine AL 8 ?_;refine cB (H':=[eP 110 160 5 n (cO (W.set (bw ((i:Nat):Int) ((j:Nat):Int)) (m::l2))),an b3 (ints (OpT.mk q ((i:Nat):Int) ((j:Nat):Int) o.key o.n o.change o.mask o.torn o.cut).flat) 35,an c (e8 n D M P) 71]) (λ_ q=>pX (bs:=bs) hv hW (aE [0,0,0] rfl q)) (CR Nu (q7 n (cO (W.set (bw ((i:Nat):Int) ((j:Nat):Int)) (m::l2))) ((i:Nat):Int) ((j:Nat):Int) (bS m) (List.map (kS (bw ((i:Nat):Int) ((j:Nat):Int))) l2) hv (pY _) (FJ hv hW) hm0 (by have:=tf m;omega)) ID λvR HR hR=>?_);obtain⟨uv,rfl,rfl⟩:=hR;rw[BC hv hW];refine EN (PD 9 ?_);refine PD 10 ?_;refine PD 11 ?_;refine PD 12 ?_;refine PD 13 ?_
 refine DN (af J15 (aa λ_ J16=>sr λ_ J17=>FA 0 fT aQ ?_));refine LT 2 Y3 (.int .i64 (q)) ?_ (hc:=by exact c7 _ rfl);refine PS ?_;refine aq ?_ ?_<;>intro h55;refine PS ?_;refine UT ?_;refine UT ?_;refine P2 ?_
 iterate 5 refine UT ?_
 refine PS ?_;refine nx J17 (CY (sr λ_ J18=>PS ?_));exact nx J18 (ak (ae (WK [3,0] (aw rfl rfl ⟨rfl,rfl⟩))));refine P2 ?_;refine PS ?_;refine P3 ?_;refine FA 2 fT aQ ?_;refine LT 2 Y3 (.int .i64 (((j:Nat):Int))) ?_ (hc:=by exact ja _ rfl);refine CE AJ (p2 c n j D M P hj (hk.resolve_left h55)) (SM [3]) ?_;refine PS ?_;refine PS ?_;refine nx J17 (CY (sr λ_ J19=>PS ?_));exact nx J19 (ak (ae (WK [0,0] (aw rfl rfl ⟨rfl,rfl⟩))))
theorem zY(c n i:Nat)(D M P:Nat→Value)(hi:i<5)(j:Nat)(hj:j<5)(hv:dm ((i:Nat):Int) ((j:Nat):Int)=true)(W:List (List MsgT))(hW:W.length=25)(l:List MsgT)(hl:W.getD (bw ((i:Nat):Int) ((j:Nat):Int)) []=l)(h8:l.length≤8)(hlen: ∀m∈l,0< (bS m).length)(o:OpT)(m:MsgT)(l2:List MsgT)(ht:lA (max o.n 0% ((l.length:Nat):Int)).toNat l=m::l2)(bs:List Nat)(d r:Nat)(s:MS LD)(hD:D j= .pointer (some ⟨d,0,none⟩))(hM:M j= .pointer (some ⟨r,0,none⟩))(ho:s.o=[])(hs:OkR KD s)(hto:((i:Nat):Int)≠s.id)(hrs:s.replies.length≤1000000):
    DT 28 #[(.pointer (some ⟨c,0,none⟩)),(.agg (ints (OpT.mk 5 ((i:Nat):Int) ((j:Nat):Int) o.key o.n o.change o.mask o.torn o.cut).flat).toArray)] T0 [an n (dF bs) 110,eY 160 5 bs (cO W),an c (e8 n D M P) 71,dk d s.e.D,gl s d r] (dL (λv H=>(s.e.D.dn=true∧v= .int .i64 0∧H=[an c (e8 n D M P) 71,dk d s.e.D,eP 110 160 5 n (cO ((W.set (bw ((i:Nat):Int) ((j:Nat):Int)) l2))),gl s d r])∨(s.e.D.dn=false∧(eB (bS m)).2≠0∧v= .int .i64 (eB (bS m)).2∧H=[an c (e8 n D M P) 71,dk d s.e.D,eP 110 160 5 n (cO ((W.set (bw ((i:Nat):Int) ((j:Nat):Int)) l2))),gl s d r])∨(s.e.D.dn=false∧(eB (bS m)).2=0∧v= .int .i64 0∧H=[an c (e8 n D M P) 71,dk d (gI KD s ((i:Nat):Int) (eB (bS m)).1).hush.e.D,eP 110 160 5 n (cO (iu (W.set (bw ((i:Nat):Int) ((j:Nat):Int)) l2) j (gI KD s ((i:Nat):Int) (eB (bS m)).1).o)),gl (gI KD s ((i:Nat):Int) (eB (bS m)).1).hush d r]))):=by
 refine BD 91 Tryz.func28 rfl rfl rfl λw0 F hF=>?_
 have hln:0<l.length:=by
     have:=jt (max o.n 0% ((l.length:Nat):Int)).toNat l;rw[ht]at this;rw[←this];exact Nat.succ_pos _
 have hm0:0< (bS m).length:=hlen m ((m5 (max o.n 0% ((l.length:Nat):Int)).toNat l).1 (ht▸cY ..));have hrl:(max o.n 0% ((l.length:Nat):Int))< ((l.length:Nat):Int):=HY _ (by omega);refine sr λ_ J1=>XY (ints (OpT.mk 5 ((i:Nat):Int) ((j:Nat):Int) o.key o.n o.change o.mask o.torn o.cut).flat) λb3=>?_
 refine PS ?_;refine nx J1 (aa λ_ J2=>D2 0 3 el ?_);refine PD 0 ?_;refine PD 1 ?_;refine FD 2 0 pP Aj ?_;refine LX 3 JH (.pointer (some ⟨n,0,none⟩)) ?_ (hc:=by exact A7 n D M P);refine FD 4 1 fT aQ ?_;refine LX 5 Y3 (.int .i64 (((i:Nat):Int))) ?_ (hc:=by exact bM _ rfl);refine FD 6 2 fT aQ ?_;refine LX 7 Y3 (.int .i64 (((j:Nat):Int))) ?_ (hc:=by exact ja _ rfl);refine AL 8 ?_;refine CR EH (mZ n bs ((i:Nat):Int) ((j:Nat):Int)) (SM [1]) λvR HR hR=>?_
 obtain⟨hw,rfl⟩:=hR;obtain⟨_,rfl⟩:dm ((i:Nat):Int) ((j:Nat):Int)=true∧vR= .pointer (some ⟨(bs.getD (bw ((i:Nat):Int) ((j:Nat):Int)) 0),0,none⟩):=hw.resolve_right (λq=>by rw[hv]at q;cases q.1);refine EN (PD 9 ?_);refine DN (af J2 (aa λ_ J3=>sr λ_ J4=>PS ?_));refine tp (km rfl xM rfl rfl) ?_;refine nx J4 (CN (qx J3 (aa λ_ J5=>sr λ_ J6=>cB (H':=[iq 160 5 (bs.getD (bw ((i:Nat):Int) ((j:Nat):Int)) 0) (List.map (kS (bw ((i:Nat):Int) ((j:Nat):Int))) l),fM 160 5 bs (cO W) (bw ((i:Nat):Int) ((j:Nat):Int)),an n (dF bs) 110,an b3 (ints (OpT.mk 5 ((i:Nat):Int) ((j:Nat):Int) o.key o.n o.change o.mask o.torn o.cut).flat) 35,an c (e8 n D M P) 71,dk d s.e.D,gl s d r]) (λ_ q=>hl▸nG W (iT hv).1▸og hv (aE [2] rfl q)) (PS ?_))));refine CE Cw (jG (bs.getD (bw ((i:Nat):Int) ((j:Nat):Int)) 0) (List.map (kS (bw ((i:Nat):Int) ((j:Nat):Int))) l)) ID ?_;rw[bW];refine PS ?_;refine aq ?_ ?_<;>intro h23
 · exact absurd h23 (by omega)
 refine nx J6 (CN (qx J5 (aa λ_ J7=>sr λ_ J8=>FA 0 fT aQ ?_)));refine LT 3 Y3 (.int .i64 5) ?_ (hc:=by exact c7 _ rfl);refine PS ?_;refine nx J8 (CN (qx J7 (aa λ_ J9=>aa λ_ J10=>D1 3 el ?_)));refine FD 0 4 fT aQ ?_;refine LX 1 Y3 (.int .i64 (o.n)) ?_ (hc:=by exact xP _ rfl);refine ta 2 rfl (yB rfl rfl rfl) ?_;refine PD 3 ?_;refine PD 6 ?_;refine AL 4 ?_;refine CE Cw (jG (bs.getD (bw ((i:Nat):Int) ((j:Nat):Int)) 0) (List.map (kS (bw ((i:Nat):Int) ((j:Nat):Int))) l)) ID ?_;rw[bW];refine EN (ta 5 rfl (PV.rem (r:=(max o.n 0% ((l.length:Nat):Int))) rfl rfl rfl (by omega) (tG (by omega))) ?_);refine DN (af J10 (av ?_))
 refine bG (α:=(Nat)) (λk=>((k:Nat):Int)≤(max o.n 0% ((l.length:Nat):Int))) (λk=>[(0,(.pointer (some ⟨c,0,none⟩))),(3,(.pointer (some ⟨b3,0,none⟩))),(4,(.int .i64 0)),(5,(.pointer (some ⟨(bs.getD (bw ((i:Nat):Int) ((j:Nat):Int)) 0),0,none⟩))),(35,(.int .i64 ((max o.n 0% ((l.length:Nat):Int))))),(36,(.int .i64 (((k:Nat):Int))))]) (λk=>[iq 160 5 (bs.getD (bw ((i:Nat):Int) ((j:Nat):Int)) 0) (List.map (kS (bw ((i:Nat):Int) ((j:Nat):Int))) (lA k l)),fM 160 5 bs (cO W) (bw ((i:Nat):Int) ((j:Nat):Int)),an n (dF bs) 110,an b3 (ints (OpT.mk 5 ((i:Nat):Int) ((j:Nat):Int) o.key o.n o.change o.mask o.torn o.cut).flat) 35,an c (e8 n D M P) 71,dk d s.e.D,gl s d r]) (λk=>(max o.n 0% ((l.length:Nat):Int)).toNat-k) 0
     (zQ _ (by omega)) SB
     (λ_ s=>aE [0,0,0,0,0,0,0] rfl s) (λk hinv=>?_)
 obtain hk:=hinv;refine sr λ_ J11=>PS ?_
 refine aq ?_ ?_<;>intro h37;refine nx J11 (aa λ_ J12=>CY (qx J12 (aa λ_ J13=>av (ag (PS ?_)))))
 refine li (ab rfl) rfl rfl rfl Nv rfl (tr (bs.getD (bw ((i:Nat):Int) ((j:Nat):Int)) 0) (List.map (kS (bw ((i:Nat):Int) ((j:Nat):Int))) (lA k l)) (by rw[bW,jt];exact h8) (λx hx=>by
        obtain⟨m,_,rfl⟩:=dw.1 hx
        exact vY _ m)) (λ_ s=>s) (λ_ _ _=>trivial) (λvR HR hR=>?_)
 obtain rfl:=hR;rw[yP];refine ax (ah (af J13 (ag (AD ?_))));refine PS ?_;refine ax ?_
 exact aN ((k+1):(Nat)) (by omega) (by show(max o.n 0% ((l.length:Nat):Int)).toNat- (k+1)< (max o.n 0% ((l.length:Nat):Int)).toNat-k;omega)
   SB
   (λ_ s=>aE [0,0,0,0,0,0,0] rfl s)
 have hkr:k=(max o.n 0% ((l.length:Nat):Int)).toNat:=by omega
 refine cB (H':=[iq 160 5 (bs.getD (bw ((i:Nat):Int) ((j:Nat):Int)) 0) (List.map (kS (bw ((i:Nat):Int) ((j:Nat):Int))) (m::l2)),fM 160 5 bs (cO W) (bw ((i:Nat):Int) ((j:Nat):Int)),an n (dF bs) 110,an b3 (ints (OpT.mk 5 ((i:Nat):Int) ((j:Nat):Int) o.key o.n o.change o.mask o.torn o.cut).flat) 35,an c (e8 n D M P) 71,dk d s.e.D,gl s d r]) (λ_ q=>by rw[hkr,ht]at q;exact q) (nx J11 (aa λ_ J14=>CN (bg (aC (aC (bD (af J9 (aa λ_ J15=>D2 3 4 el ?_))))))));refine PD 0 ?_;refine PD 1 ?_;refine FD 2 0 pP Aj ?_;refine LX 3 JH (.pointer (some ⟨n,0,none⟩)) ?_ (hc:=by exact A7 n D M P);refine FD 4 1 fT aQ ?_;refine LX 5 Y3 (.int .i64 (((i:Nat):Int))) ?_ (hc:=by exact bM _ rfl);refine FD 6 2 fT aQ ?_;refine LX 7 Y3 (.int .i64 (((j:Nat):Int))) ?_ (hc:=by exact ja _ rfl);refine AL 8 ?_;refine cB (H':=[eP 110 160 5 n (cO (W.set (bw ((i:Nat):Int) ((j:Nat):Int)) (m::l2))),an b3 (ints (OpT.mk 5 ((i:Nat):Int) ((j:Nat):Int) o.key o.n o.change o.mask o.torn o.cut).flat) 35,an c (e8 n D M P) 71,dk d s.e.D,gl s d r]) (λ_ q=>pX (bs:=bs) hv hW (aE [0,0,0] rfl q)) (CR Nu (q7 n (cO (W.set (bw ((i:Nat):Int) ((j:Nat):Int)) (m::l2))) ((i:Nat):Int) ((j:Nat):Int) (bS m) (List.map (kS (bw ((i:Nat):Int) ((j:Nat):Int))) l2) hv (pY _) (FJ hv hW) hm0 (by have:=tf m;omega)) ID λvR HR hR=>?_);obtain⟨uv,rfl,rfl⟩:=hR;rw[BC hv hW];refine EN (PD 9 ?_);refine PD 10 ?_
 refine PD 11 ?_;refine PD 12 ?_;refine PD 13 ?_;refine DN (af J15 (aa λ_ J16=>sr λ_ J17=>FA 0 fT aQ ?_));refine LT 2 Y3 (.int .i64 5) ?_ (hc:=by exact c7 _ rfl);refine P3 ?_;refine PS ?_;refine P3 ?_;refine FA 2 fT aQ ?_;refine LT 2 Y3 (.int .i64 (((j:Nat):Int))) ?_ (hc:=by exact ja _ rfl);refine CE AJ (p1 c n j D M P hj d r s.e.D hD hM) (SM [3,3]) ?_;refine bh ?_ ?_<;>intro h64;refine PS ?_;refine PS ?_;refine nx J17 (CN (qx J16 (sr λ_ J18=>PS ?_)));refine CF Pt (Dm uv (bS m)) ID (AU 3 rfl rfl) ?_;refine P3 ?_;refine XZ mB (ints MsgT.zero.flat) λb8=>?_
 refine SW 0 ci aJ ?_;refine PS ?_;refine nx J18 (aa λ_ J19=>sr λ_ J20=>P2 ?_);refine aq ?_ ?_<;>intro h73;refine nx J20 (CY (r9 (λw=>Frm F w∧w.heap[b3]?=some (.cells (ints (OpT.mk 5 ((i:Nat):Int) ((j:Nat):Int) o.key o.n o.change o.mask o.torn o.cut).flat).toArray 35 (0,0))∧w.heap[c]?=some (.cells (e8 n D M P).toArray 71 (0,0))∧w.heap[b8]?=some (.cells (ints ((eB (bS m)).1).flat).toArray 136 (0,0))∧True) el rfl (λ_ s=>⟨fC s,s.block 5 (lb rfl) rfl,s.block 1 (lb rfl) rfl,s.block 0 (lb rfl) rfl,trivial⟩) (PD 0 ?_)));refine FD 1 2 fT aQ ?_;refine LX 2 Y3 (.int .i64 (((j:Nat):Int))) ?_ (hc:=by exact ja _ rfl);refine PD 3 ?_;refine FD 4 6 pP rB ?_;refine IY 5 (6+j) Fz oT ?_;refine LX 6 zO (.pointer (some ⟨r,0,none⟩)) ?_ (hc:=by exact(xz n D M P hj).trans (congrArg some hM));refine PD 7 ?_;refine FD 8 2 fT aQ ?_;refine LX 9 Y3 (.int .i64 (((j:Nat):Int))) ?_ (hc:=by exact ja _ rfl);refine ta 10 rfl (kn (cells:=#[(.pointer (some ⟨c,0,none⟩)),(.int .i64 (((j:Nat):Int)))]) rfl rfl (by as_aux_lemma=>kernel_rfl)) ?_;refine ta 11 rfl (pJ rfl MP rfl rfl) ?_;refine FD 12 1 fT aQ ?_;refine LX 13 Y3 (.int .i64 (((i:Nat):Int))) ?_ (hc:=by exact bM _ rfl);refine LY 14 bi ci aJ ?_;refine AL 15 ?_
 refine cB (H':=[cK (xt c n d j D M P hj hD (W.set (bw ((i:Nat):Int) ((j:Nat):Int)) l2) (by rw[lj];exact hW)) r s,an b8 (ints ((eB (bS m)).1).flat) 136,ic uv (bS m) 5,an b3 (ints (OpT.mk 5 ((i:Nat):Int) ((j:Nat):Int) o.key o.n o.change o.mask o.torn o.cut).flat) 35]) (λ_ q=>EJ ho (aE [1,1,1,3] rfl q)) (CZ Nt (@Ai _ (xt c n d j D M P hj hD (W.set (bw ((i:Nat):Int) ((j:Nat):Int)) l2) (by rw[lj];exact hW)) r s ((i:Nat):Int) (eB (bS m)).1 hs (nS _) hto hrs) ID λvR=>?_);change TL _ _ _ _ _ _ _ _ _ [cK (xt c n d j D M P hj hD (W.set (bw ((i:Nat):Int) ((j:Nat):Int)) l2) (by rw[lj];exact hW)) r (gI KD s ((i:Nat):Int) (eB (bS m)).1),an b8 (ints ((eB (bS m)).1).flat) 136,ic uv (bS m) 5,an b3 (ints (OpT.mk 5 ((i:Nat):Int) ((j:Nat):Int) o.key o.n o.change o.mask o.torn o.cut).flat) 35];refine cB (H':=[an c (e8 n D M P) 71,dk d ((gI KD s ((i:Nat):Int) (eB (bS m)).1).e.D),eP 110 160 5 n (cO (iu (W.set (bw ((i:Nat):Int) ((j:Nat):Int)) l2) j (gI KD s ((i:Nat):Int) (eB (bS m)).1).o)),gl ((gI KD s ((i:Nat):Int) (eB (bS m)).1).hush) d r,an b8 (ints ((eB (bS m)).1).flat) 136,ic uv (bS m) 5,an b3 (ints (OpT.mk 5 ((i:Nat):Int) ((j:Nat):Int) o.key o.n o.change o.mask o.torn o.cut).flat) 35]) (λ_ q=>AN (s:=(gI KD s ((i:Nat):Int) (eB (bS m)).1)) q) (EN (DN (af J19 (sr λ_ J21=>P2 ?_))));refine nx J21 (ak (WK [0,0,0,0] (aw rfl rfl ?_)))
 exact .inr (.inr ⟨(by simpa using h64),h73,(by rw[h73]),rfl⟩);refine nx J20 (CN (qx J19 (sr λ_ J22=>P2 ?_)));refine nx J22 (ak (WK [1,1,1,3] (aw rfl rfl ?_)));exact .inr (.inl ⟨(by simpa using h64),h73,rfl,rfl⟩);refine PS ?_;refine PS ?_;refine nx J17 (CY (sr λ_ J23=>PS ?_));refine nx J23 (ak (ae (WK [0,0,0,2] (aw rfl rfl ?_))));exact .inl ⟨(by simpa using h64),rfl,rfl⟩
end Go.Proofs.YtmcjhkbcmmddgaaGreat
end

section
namespace Api
open Go Leg Codec Dsk Wal
class GdM(m:MsgT):Prop where
 kind:0≤m.kind∧m.kind≤9
class GdL(l:List SaidT):Prop where
 all: ∀x∈l,0≤x.msg.kind∧x.msg.kind≤9
theorem Jm(n:Int):0< (jQ n).length:=qp _
theorem C8(n:Int)(l:List Int):0< (bb (n::l)).length:=by
 show 0< (jQ n++bb l).length;rw[aj];have:=Jm n;omega
theorem MG{m:MsgT}(h:0≤m.kind∧m.kind≤9):0< (bS m).length:=by
 have p: ∀(l:List Int) (r:List UInt8),0< (bb (m.kind::l)++r).length:=λl r=>by rw[aj];have:=C8 m.kind l;omega
 unfold bS;split
 · exact p _ _
 rename_i h0;split
 · exact C8 _ _
 split
 · exact p _ _
 rename_i h3;split
 · rw[aV,aV];exact p _ _
 split
 · rw[aV];exact p _ _
 split
 · exact p _ _
 split
 · exact p _ _
 · exfalso
   simp only[eA,fe,decide_eq_true_eq]at h0 h3;omega
instance (v:Int):GdM (qO v):=⟨(by decide:(0:Int)≤1∧(1:Int)≤9)⟩
instance (i:Int)(y:RowT):GdM (qM i y):=⟨(by decide:(0:Int)≤2∧(2:Int)≤9)⟩
instance (v:ViewT):GdM (fI v):=⟨(by decide:(0:Int)≤7∧(7:Int)≤9)⟩
instance (i:Int)(v:ViewT):GdM (iz i v):=⟨(by decide:(0:Int)≤8∧(8:Int)≤9)⟩
instance (i:Int)(y:RowT):GdM (hY i y):=⟨(by decide:(0:Int)≤9∧(9:Int)≤9)⟩
instance (e:Int)(b:BallotT):GdM (fm e b):=⟨(by decide:(0:Int)≤3∧(3:Int)≤9)⟩
instance (e:Int)(b h:BallotT)(c:ChangeT):GdM (fc e b h c):=⟨(by decide:(0:Int)≤4∧(4:Int)≤9)⟩
instance (e:Int)(b:BallotT)(c:ChangeT):GdM (ff e b c):=⟨(by decide:(0:Int)≤5∧(5:Int)≤9)⟩
instance (e:Int)(b:BallotT):GdM (eU e b):=⟨(by decide:(0:Int)≤6∧(6:Int)≤9)⟩
instance (t:Int)(m:MsgT)[h:GdM m]:GdL [⟨t,m⟩]:=⟨λx hx=>by rw[aX]at hx;subst hx;exact h.kind⟩
instance (i:Int)(m:MsgT)(p:Nat→Bool)(k:Nat)[h:GdM m]:GdL (nf i m p k):=⟨λx hx=>by
 unfold nf at hx;obtain⟨j,_,rfl⟩:=dw.1 hx
 exact h.kind⟩
instance (x:RepT):GdL (pu x):=⟨λs hs=>by
 unfold pu at hs;rw[dw]at hs;obtain⟨w,_,rfl⟩:=hs
 exact(show(0:Int)≤0∧(0:Int)≤9 by decide)⟩
section
variable {δ:Type} {K:Dk δ} {s0 s:MS δ}
class Qt(s0 s:MS δ):Prop where
 id:s.id=s0.id
 replies:s.replies=s0.replies
 ops:s.ops=s0.ops
 waits:s.waits=s0.waits∨s.waits=0
 o: ∃l,s.o=s0.o++l∧∀x∈l,0≤x.msg.kind∧x.msg.kind≤9
instance Qt.rfl':Qt s s:=⟨rfl,rfl,rfl, .inl rfl,[],(aU _).symm,λ_ h=>by cases h⟩
theorem Qt.trans{a b c:MS δ}(h:Qt a b)(g:Qt b c):Qt a c:=by
 obtain⟨l,e,hl⟩:=h.o;obtain⟨l2,e2,hl2⟩:=g.o;exact⟨g.id.trans h.id,g.replies.trans h.replies,g.ops.trans h.ops,g.waits.elim (λq=>h.waits.imp (q.trans ·) (q.trans ·)) .inr,l++l2,by rw[e2,e,aV],λx hx=>(bA.1 hx).elim (hl x) (hl2 x)⟩
theorem Qt.same{t:MS δ}(h:Qt s0 s)(h1:t.id=s.id)(h2:t.replies=s.replies)(h3:t.ops=s.ops)(h4:t.waits=s.waits)(h5:t.o=s.o):Qt s0 t:=
 ⟨h1.trans h.id,h2.trans h.replies,h3.trans h.ops,by rw[h4];exact h.waits,by rw[h5];exact h.o⟩
instance [h:Qt s0 s](l:List SaidT)[g:GdL l]:Qt s0 (iN K s l):=by
 refine h.trans ⟨rfl,rfl,rfl, .inl rfl,?_⟩
 by_cases q:K.dn s.e=true
 · exact⟨[],by rw[iN,if_pos q,aU],λ_ h=>by cases h⟩
 · exact⟨l,by rw[iN,if_neg q],g.all⟩
instance [h:Qt s0 s](t:Int)(m:MsgT)[GdM m]:Qt s0 (x8 K s t m):=inferInstanceAs (Qt s0 (iN K s _))
instance [h:Qt s0 s](r:RecT):Qt s0 (dE K s r):=h.same rfl rfl rfl rfl rfl
instance [h:Qt s0 s](f:Int):Qt s0 (iY s f):=h.same rfl rfl rfl rfl rfl
instance [h:Qt s0 s](w:Int)(x:RowT):Qt s0 (Dy s w x):=h.same rfl rfl rfl rfl rfl
instance [h:Qt s0 s]:Qt s0 (hJ s):=h.same rfl rfl rfl rfl rfl
instance [h:Qt s0 s](w:Int)(x:RowT):Qt s0 (iO s w x):=h.same rfl rfl rfl rfl rfl
instance [h:Qt s0 s](w:Int):Qt s0 (lG s w):=h.same rfl rfl rfl rfl rfl
instance [h:Qt s0 s](x:RowT):Qt s0 (s6 s x 0):=⟨h.id,h.replies,h.ops, .inr rfl,h.o⟩
instance [Qt s0 s]:Qt s0 (fz K s):=inferInstanceAs (Qt s0 (iN K s _))
instance [Qt s0 s](y:RowT):Qt s0 (lC K s y):=inferInstanceAs (Qt s0 (iN K s _))
instance [Qt s0 s](v:ViewT):Qt s0 (lB K s v):=inferInstanceAs (Qt s0 (iN K s _))
instance [Qt s0 s](m:MsgT)[GdM m]:Qt s0 (iF K s m):=inferInstanceAs (Qt s0 (iN K s _))
instance [Qt s0 s](x:RowT):Qt s0 (e9 K s x 0).1:=by unfold e9;split<;>exact inferInstance
instance [h:Qt s0 s]:Qt s0 (lZ K s):=by
 unfold lZ;split
 · exact h
 split
 · exact inferInstance
 · exact h
instance [h:Qt s0 s](f:Int)(m:MsgT):Qt s0 (iE K s f m):=by
 unfold iE
 repeat' split
 all_goals exact inferInstance
instance [h:Qt s0 s](w:Int)(x:RowT):Qt s0 (lY s w x):=h.same rfl rfl rfl rfl rfl
instance [h:Qt s0 s](f w:Int)(y:RowT):Qt s0 (uC s f w y):=h.same rfl rfl rfl rfl rfl
instance [h:Qt s0 s](f:Int)(m:MsgT):Qt s0 (fD K s f m):=by unfold fD;split<;>exact inferInstance
theorem qa[Qt s0 s]{f:MS δ→MS δ}(hf:Qt s0 (f s))(t:Int)(m:MsgT)[GdM m]:Qt s0 (lw K f s t m):=by unfold lw;split;exact hf;exact inferInstance
instance [h:Qt s0 s](f w:Int):Qt s0 (fh K s f w):=by
 unfold fh
 repeat' split
 · exact h
 · exact qa inferInstance _ _
 · exact inferInstance
 · exact qa inferInstance _ _
instance [h:Qt s0 s](i w:Int):Qt s0 (hO K s i w):=by
 unfold hO;split
 · exact h
 · exact qa inferInstance _ _
instance [Qt s0 s](i:Int):Qt s0 (np K s i):=by unfold np;exact inferInstance
theorem zG: ∀(l:List Int) (s:MS δ),Qt s0 s→Qt s0 (gq K l s)
 | [],_,h=>h
 |i::l,s,h=>zG l (np K s i) inferInstance
instance [h:Qt s0 s]:Qt s0 (qt K s):=zG _ _ h
instance [h:Qt s0 s](v:ViewT):Qt s0 (mi s v):=h.same rfl rfl rfl rfl rfl
instance [h:Qt s0 s](v:ViewT):Qt s0 (gm K s v):=by
 unfold gm
 repeat' split
 all_goals exact inferInstance
instance [h:Qt s0 s](f:Int)(m:MsgT):Qt s0 (kH K s f m):=by unfold kH;exact inferInstance
instance [h:Qt s0 s](c:ChangeT):Qt s0 (ky K s c):=by
 unfold ky
 repeat' split
 all_goals exact inferInstance
instance [h:Qt s0 s](n:Int):Qt s0 (dp s n):=h.same rfl rfl rfl rfl rfl
instance [h:Qt s0 s](v:VoteT):Qt s0 (jr s v):=h.same rfl rfl rfl rfl rfl
instance [h:Qt s0 s](a:AccT):Qt s0 (tC s a):=h.same rfl rfl rfl rfl rfl
instance [h:Qt s0 s](f:Int)(m:MsgT):Qt s0 (kV K f m s):=by
 unfold kV;split
 · exact h
 · split<;>exact inferInstance
theorem sy[h:Qt s0 s]{f:MS δ→MS δ}(hf: ∀s:MS δ,Qt s0 s→Qt s0 (f s))(w:Int)(m:MsgT):Qt s0 (eT K f s w m):=by
 unfold eT
 repeat' split
 · exact inferInstance
 · exact h
 · exact h
 · exact hf _ inferInstance
instance [Qt s0 s](w:Int)(m:MsgT):Qt s0 (p7 K s w m):=sy (λ_ _=>inferInstance) w m
instance [h:Qt s0 s](w:Int)(m:MsgT):Qt s0 (lR K w m s):=by unfold lR;exact qa inferInstance _ _
instance [h:Qt s0 s](w:Int)(m:MsgT):Qt s0 (nL K w m s):=by
 unfold nL
 repeat' split
 all_goals exact inferInstance
instance [Qt s0 s](w:Int)(m:MsgT):Qt s0 (ry K s w m):=sy (λ_ _=>inferInstance) w m
theorem uP[h:Qt s0 s]{f:MS δ→MsgT→MS δ}{m:MsgT}[GdM m](hf: ∀s:MS δ,Qt s0 s→Qt s0 (f s m)):Qt s0 (iV K f s m):=by
 unfold iV;split
 · exact hf _ inferInstance
 · exact inferInstance
instance [h:Qt s0 s](vt:VoteT):Qt s0 (jw K s vt):=uP λ_ _=>inferInstance
instance [h:Qt s0 s](f:Int)(m:MsgT):Qt s0 (oQ K f m s):=by
 unfold oQ;split
 · exact h
 · split<;>exact inferInstance
instance [Qt s0 s](w:Int)(m:MsgT):Qt s0 (p8 K s w m):=sy (λ_ _=>inferInstance) w m
instance [h:Qt s0 s](w:Int)(m:MsgT)(a:AccT):Qt s0 (l3 K w m a s):=by unfold l3;exact qa inferInstance _ _
instance [h:Qt s0 s](w:Int)(m:MsgT):Qt s0 (oH K w m s):=by
 unfold oH
 repeat' split
 all_goals exact inferInstance
instance [Qt s0 s](w:Int)(m:MsgT):Qt s0 (rA K s w m):=sy (λ_ _=>inferInstance) w m
instance [h:Qt s0 s](vt:VoteT):Qt s0 (k9 K s vt):=uP λ_ _=>inferInstance
instance [h:Qt s0 s](vt:VoteT):Qt s0 (nM K s vt):=by unfold nM;split<;>exact inferInstance
instance [h:Qt s0 s](c:ChangeT):Qt s0 (qw K s c):=by unfold qw;exact inferInstance
instance [h:Qt s0 s](c:ChangeT):Qt s0 (cD K s c).1:=by
 unfold cD
 repeat' split
 all_goals exact inferInstance
instance [h:Qt s0 s]:Qt s0 (bX K s):=by unfold bX;split<;>exact inferInstance
instance [h:Qt s0 s]:Qt s0 (cg K s):=by unfold cg;split<;>exact inferInstance
instance [h:Qt s0 s]:Qt s0 (gz K s):=by unfold gz;split<;>exact inferInstance
instance [h:Qt s0 s]:Qt s0 (p4 K s):=by
 unfold p4;split
 · exact h
 · repeat' split
   all_goals exact inferInstance
instance [h:Qt s0 s]:Qt s0 (iL K s):=by unfold iL;split<;>exact inferInstance
structure Rp(s0 s:MS δ)(l:List ReplyT):Prop where
 id:s.id=s0.id
 replies:s.replies=s0.replies++l
 o: ∃l,s.o=s0.o++l∧∀x∈l,0≤x.msg.kind∧x.msg.kind≤9
theorem Qt.rp(h:Qt s0 s):Rp s0 s []:=⟨h.id,by rw[h.replies,aU],h.o⟩
theorem Rp.then{l:List ReplyT}{t:MS δ}(h:Rp s0 s l)(g:Qt s t):Rp s0 t l:=by
 obtain⟨l1,e,hl⟩:=h.o;obtain⟨l2,e2,hl2⟩:=g.o;exact⟨g.id.trans h.id,g.replies.trans h.replies,l1++l2,by rw[e2,e,aV],λx hx=>(bA.1 hx).elim (hl x) (hl2 x)⟩
theorem Ip(s:MS δ)(f:Int)(m:MsgT):Qt s (dy K s f m)∨(0<s.waits∧Rp s (dy K s f m) [⟨s.waits,0,0⟩]∧(dy K s f m).waits=0∧(dy K s f m).ops=s.ops):=by
 unfold dy;split
 · split
   · by_cases hw:0<s.waits
     · right
       have e:lM (hJ (iY s f))= {dK (hJ (iY s f)) s.waits 0 0 with waits:=0}:=yL (s:=hJ (iY s f)) hw;have q:Qt (lM (hJ (iY s f))) (ld K (iY s f)):=by unfold ld;exact inferInstance
       have hw0:(lM (hJ (iY s f))).waits=0:=by rw[e]
       refine⟨hw,Rp.then (s:=lM (hJ (iY s f))) ?_ q,(q.waits.elim (·.trans hw0) id),q.ops.trans (by rw[e];rfl)⟩;rw[e];exact⟨rfl,rfl,[],(aU _).symm,λ_ h=>by cases h⟩
     · left
       unfold ld;rw[yM (s:=hJ (iY s f)) hw];exact inferInstance
   · left;exact inferInstance
 · left;exact inferInstance
theorem Kj(s:MS δ)(f:Int)(m:MsgT):Qt s (gI K s f m)∨(0<s.waits∧Rp s (gI K s f m) [⟨s.waits,0,0⟩]∧(gI K s f m).waits=0∧(gI K s f m).ops=s.ops):=by
 unfold gI
 by_cases h1:m.kind=1
 · rw[if_neg (by omega),if_pos h1];exact Ip s f m
 · left
   rw[if_neg h1]
   repeat' split
   all_goals exact inferInstance
theorem KM(s:MS δ)(x:RowT)(op:Int):((e9 K s x op).2≠0∧Qt s (e9 K s x op).1)∨((e9 K s x op).2=0∧Rp s (e9 K s x op).1 []∧(e9 K s x op).1.waits=op∧(e9 K s x op).1.ops=s.ops):=by
 unfold e9;split
 · rename_i h;exact .inl ⟨h,inferInstance⟩
 · right
   have q:Qt (s6 (dE K s (kC x)) x op) (fz K (s6 (dE K s (kC x)) x op)):=inferInstance;refine⟨rfl,Rp.then (s:=s6 (dE K s (kC x)) x op) ⟨rfl,(aU _).symm,[],(aU _).symm,λ_ h=>by cases h⟩ q,?_,q.ops⟩;show(fz K _).waits=_;rfl
theorem HG(s:MS δ)(o:OpT):(∃e v,Rp s (cb K s o).1 [⟨gX (s.ops+1),e,v⟩]∧(cb K s o).2=e∧(cb K s o).1.ops=gX (s.ops+1)∧((cb K s o).1.waits=s.waits∨(cb K s o).1.waits=0))∨(Rp s (cb K s o).1 []∧(cb K s o).2=0∧(cb K s o).1.ops=gX (s.ops+1)∧(cb K s o).1.waits=gX (s.ops+1)):=by
 have e0:Rp s (bP s) []:=⟨rfl,(aU _).symm,[],(aU _).symm,λ_ h=>by cases h⟩
 have rep: ∀(t:MS δ) (op e v:Int),Qt (bP s) t→op=gX (s.ops+1)→Rp s (dK t op e v) [⟨gX (s.ops+1),e,v⟩]∧(dK t op e v).ops=gX (s.ops+1)∧((dK t op e v).waits=s.waits∨(dK t op e v).waits=0):=λt op e v h ho=>by
  subst ho;obtain⟨l,e1,hl⟩:=h.o;exact⟨⟨h.id,by show t.replies++_=_;rw[h.replies];rfl,l,e1,hl⟩,h.ops,h.waits⟩
 unfold cb;split
 · left
   unfold dR;split
   · obtain⟨a,b,c⟩:=rep (bP s) _ (gj (bP s) o.change) 0 inferInstance rfl
     exact⟨_,_,a,rfl,b,c⟩
   · split
     · obtain⟨a,b,c⟩:=rep (cD K (bP s) o.change).1 _ (cD K (bP s) o.change).2 0 inferInstance rfl
       exact⟨_,_,a,rfl,b,c⟩
     · obtain⟨a,b,c⟩:=rep (cD K (bP s) o.change).1 _ 0 0 inferInstance rfl
       have q:Qt (dK (cD K (bP s) o.change).1 (bP s).ops 0 0) (nM K (dK (cD K (bP s) o.change).1 (bP s).ops 0 0) (iA (bP s).view (dx (bP s)) o.change)):=inferInstance;exact⟨_,_,a.then q,rfl,q.ops.trans b,q.waits.elim (λw=>c.imp (w.trans ·) (w.trans ·)) .inr⟩
 · unfold od
   split
   · left
     obtain⟨a,b,c⟩:=rep (bP s) _ (dr (bP s) o).2.2 (dr (bP s) o).2.1 inferInstance rfl;exact⟨_,_,a,rfl,b,c⟩
   · rcases KM (K:=K) (bP s) (dr (bP s) o).1 (bP s).ops with⟨h,q⟩| ⟨h,q,hw,ho⟩
     · rw[if_pos h]
       left;obtain⟨a,b,c⟩:=rep _ _ (e9 K (bP s) (dr (bP s) o).1 (bP s).ops).2 0 q rfl;exact⟨_,_,a,rfl,b,c⟩
     · rw[if_neg (by omega)]
       right;obtain⟨l,e1,hl⟩:=q.o;exact⟨⟨q.id,q.replies,l,e1,hl⟩,rfl,ho,hw⟩
end
def Slot.pend(x:Slot):Nat:=match x.run with
 |some s=>if 0<s.waits then 1 else 0
 |none=>0
structure SlotOk(i n:Nat)(x:Slot):Prop where
 run: ∀s,x.run=some s→OkR KD s∧s.id=((i:Nat):Int)∧s.o=[]
 D:x.run=none→DkOk x.D
 reps:x.reps.length+x.pend≤n
structure CLOk(n:Nat)(a:CL):Prop where
 ms:a.ms.length=5
 W:a.W.length=25
 at': ∀i,i<5→SlotOk i n (a.at' i)
 way: ∀k,(a.W.getD k []).length≤8∧∀m∈a.W.getD k [],0< (bS m).length
structure OkOp(o:OpT):Prop where
 change:OkCh o.change
 n:o.n≤9223372036854775807
theorem SlotOk.dk{i n:Nat}{x:Slot}(h:SlotOk i n x):DkOk x.dk:=by
 unfold Slot.dk;split
 · rename_i s q;exact(h.run s q).1.e.dk
 · rename_i q;exact h.D q
theorem SlotOk.more{i n k:Nat}{x:Slot}(h:SlotOk i n x)(hk:n≤k):SlotOk i k x:=⟨h.run,h.D,yF h.reps hk⟩
theorem CLOk.more{n k:Nat}{a:CL}(h:CLOk n a)(hk:n≤k):CLOk k a:=⟨h.ms,h.W,λi hi=>(h.at' i hi).more hk,h.way⟩
theorem rW{ms:List Slot}{W:List (List MsgT)}{i:Nat}{x:Slot}(h:i<ms.length):(CL.mk (ms.set i x) W).at' i=x:=by
 unfold CL.at';rw[List.getD_eq_getElem?_getD,List.getElem?_set_self h];rfl
theorem tA{ms:List Slot}{W:List (List MsgT)}{i j:Nat}{x:Slot}(h:j≠i):(CL.mk (ms.set i x) W).at' j=ms.getD j .nil:=by
 unfold CL.at';rw[List.getD_eq_getElem?_getD,List.getElem?_set_ne (λe=>h e.symm),←List.getD_eq_getElem?_getD]
theorem CLOk.put{n k i:Nat}{a:CL}(h:CLOk n a)(hk:n≤k)(hi:i<5){x:Slot}(hx:SlotOk i k x){W:List (List MsgT)}(hW:W.length=25)(hw: ∀k,(W.getD k []).length≤8∧∀m∈W.getD k [],0< (bS m).length):CLOk k ⟨a.ms.set i x,W⟩:=
 ⟨by show(a.ms.set i x).length=5;rw[lj];exact h.ms,hW,λj hj=>by
  by_cases q:j=i
  · subst q;rw[rW (by rw[h.ms];exact hi)];exact hx
  · rw[tA q];exact(h.at' j hj).more hk,hw⟩
theorem Kt{W:List (List MsgT)}(hw: ∀k,(W.getD k []).length≤8∧∀m∈W.getD k [],0< (bS m).length)(f:Nat)(s:SaidT)(hs:0< (bS s.msg).length): ∀k,((qg W f s).getD k []).length≤8∧∀m∈(qg W f s).getD k [],0< (bS m).length:=λk=>by
 unfold qg;split
 · by_cases q:k=bw ((f:Nat):Int) s.to'
   · subst q
     by_cases hl:bw ((f:Nat):Int) s.to'<W.length
     · rw[List.getD_eq_getElem?_getD,List.getElem?_set_self hl]
       obtain⟨h1,h2⟩:=hw (bw ((f:Nat):Int) s.to');simp only[Li];split
       · refine⟨by rw[aj,gW];omega,λm hm=>?_⟩
         rcases bA.1 hm with hm|hm
         · exact h2 m hm
         · rw[aX]at hm;subst hm;exact hs
       · exact⟨h1,h2⟩
     · rw[nw (by omega)];exact hw _
   · rw[List.getD_eq_getElem?_getD,List.getElem?_set_ne (λe=>q e.symm),←List.getD_eq_getElem?_getD];exact hw k
 · exact hw k
theorem B8(f:Nat): ∀(l:List SaidT) {W:List (List MsgT)},(∀x∈l,0< (bS x.msg).length)→(∀k,(W.getD k []).length≤8∧∀m∈W.getD k [],0< (bS m).length)→∀k,((iu W f l).getD k []).length≤8∧∀m∈(iu W f l).getD k [],0< (bS m).length
 | [],_,_,hw=>hw
 |s::l,W,hl,hw=>B8 f l (W:=qg W f s) (λx hx=>hl x (dd _ hx)) (Kt hw f s (hl s (cY ..)))
theorem Cp(W:List (List MsgT))(f:Nat)(s:SaidT):(qg W f s).length=W.length:=by unfold qg;split<;>simp
theorem sI(f:Nat): ∀(l:List SaidT) (W:List (List MsgT)),(iu W f l).length=W.length
 | [],_=>rfl
 |s::l,W=>(sI f l _).trans (Cp W f s)
theorem KL{s:MS LD}(h:OkR KD s):OkR KD s.hush:=⟨h.e,h.id,h.view,h.own,h.mir,h.book,h.last,h.acc,h.vote⟩
def owe(s:MS LD):Nat:=if 0<s.waits then 1 else 0
theorem CLOk.did{n i k:Nat}{a:CL}(h:CLOk n a)(hk:n≤k)(hi:i<5){s s':MS LD}(hs:(a.at' i).run=some s)(h':OkR KD s'){l:List ReplyT}(r:Rp s s' l)(hl:l.length+owe s'+n≤k+owe s):CLOk k (a.did i s'):=by
 obtain⟨h1,h2,h3⟩:=(h.at' i hi).run s hs;obtain⟨lo,e,hlo⟩:=r.o;rw[h3,bu]at e;refine h.put hk hi ⟨λt q=>?_,(λq=>by cases q),?_⟩ (by rw[sI];exact h.W) (B8 i _ (λx hx=>MG (hlo x (by rw[←e];exact hx))) h.way)
 · obtain rfl:=aR q
   exact⟨KL h',r.id.trans h2,rfl⟩
 · have:=(h.at' i hi).reps
   unfold Slot.reps Slot.pend at this ⊢;rw[hs]at this;show((a.at' i).past++s'.replies).length+(if 0<s'.waits then 1 else 0)≤k;rw[r.replies];unfold owe at hl;simp only[aj]at this ⊢;omega
theorem Qt.owe{s s':MS LD}(q:Qt s s'):Api.owe s'≤Api.owe s:=by
 unfold Api.owe;rcases q.waits with e|e
 · rw[e];exact aM _
 · rw[e];exact aP _
theorem Ng(s:MS LD):owe s≤1:=by unfold owe;split<;>omega
theorem CLOk.quiet{n i:Nat}{a:CL}(h:CLOk n a)(hi:i<5){s s':MS LD}(hs:(a.at' i).run=some s)(h':OkR KD s')(q:Qt s s'):CLOk n (a.did i s'):=
 h.did (aM _) hi hs h' q.rp (by have:=q.owe;show 0+_+n≤_;omega)
theorem CLOk.onway{n k:Nat}{a:CL}(h:CLOk n a){l:List MsgT}(hl:l.length≤8∧∀m∈l,0< (bS m).length):CLOk n (a.way k l):=
 ⟨h.ms,by show(a.W.set k l).length=25;rw[lj];exact h.W,h.at',λj=>by
  show((a.W.set k l).getD j []).length≤8∧_
  by_cases q:j=k
  · subst q
    by_cases hk:j<a.W.length
    · show((a.W.set j l).getD j []).length≤8∧∀m∈(a.W.set j l).getD j [],_
      rw[List.getD_eq_getElem?_getD,List.getElem?_set_self hk];exact hl
    · show((a.W.set j l).getD j []).length≤8∧∀m∈(a.W.set j l).getD j [],_
      rw[nw (by omega)];exact h.way j
  · show((a.W.set k l).getD j []).length≤8∧∀m∈(a.W.set k l).getD j [],_
    rw[List.getD_eq_getElem?_getD,List.getElem?_set_ne (λe=>q e.symm),←List.getD_eq_getElem?_getD];exact h.way j⟩
theorem kf{w:Int}(h:iX w=true):w.toNat<5∧((w.toNat:Nat):Int)=w:=by
 have:0≤w∧w<5:=of_decide_eq_true h;omega
theorem KY{n f t:Nat}{a:CL}(h:CLOk n a)(ht:t<5)(m:MsgT):CLOk n (tl a f t m).1:=by
 unfold tl;split
 · exact h
 · rename_i s hs
   split
   · exact h
   · split
     · obtain⟨h1,_,_⟩:=(h.at' t ht).run s hs
       have hm:=nS (bS m);rcases Kj (K:=KD) s ((f:Nat):Int) (eB (bS m)).1 with q| ⟨hw,q,q2,_⟩
       · exact h.quiet ht hs inferInstance q
       · refine h.did (aM _) ht hs inferInstance q ?_
         unfold owe;rw[q2,if_pos hw];show 1+(if(0:Int)<0 then 1 else 0)+n≤n+1;rw[if_neg (by omega)];omega
     · exact h
theorem L8{n:Nat}{a:CL}(h:CLOk n a)(o:OpT):CLOk n (oO a o).1:=by
 unfold oO;split
 · exact h
 · rename_i hv
   have hv:dm o.at' o.to'=true:=by simpa using hv
   have hw:=h.way (bw o.at' o.to');split
   · exact h
   · rename_i m l hl
     rw[hl]at hw;split
     · split
       · refine h.onway ⟨?_,λx hx=>?_⟩
         · rename_i q
           unfold Ih at q;have q:=of_decide_eq_true q;unfold DR;rw[if_pos q,aj,gW];omega
         · unfold DR at hx
           split at hx
           · rcases bA.1 hx with hx|hx
             · exact hw.2 x hx
             · rw[aX]at hx;subst hx;exact hw.2 _ (cY ..)
           · exact hw.2 x hx
       · exact h
     · split
       · exact h
       · rename_i m2 l2 hl2
         have hlen:=jt (max o.n 0% ((m::l).length:Int)).toNat (m::l);have hmem:=λx=>(m5 (x:=x) (max o.n 0% ((m::l).length:Int)).toNat (m::l)).1
         rw[hl2]at hlen hmem;have g:CLOk n (a.way (bw o.at' o.to') l2):=h.onway ⟨by simp only[az]at hlen hw;omega,λx hx=>hw.2 x (hmem x (dd _ hx))⟩
         have ht:o.to'.toNat<5:=by
          unfold dm at hv;rw[au,au]at hv;exact(kf hv.1.2).1
         split
         · exact g
         · exact KY g ht m2
theorem BR{n i:Nat}(hi:i<5){x:Slot}(h:SlotOk i n x):SlotOk i n (il i x).1:=by
 unfold il;split
 · exact h
 · rename_i hr
   have hD:=h.D hr;refine⟨λs q=>?_,λ_=>hD.open.1,?_⟩
   · obtain⟨h1,f⟩:=yT hi hD q
     exact⟨h1,f.id,f.o⟩
   · have:=h.reps
     unfold Slot.reps Slot.pend at this ⊢;rw[hr,aU]at this;show(x.past++match(dB i x.D).1 with|some s=>s.replies|none=>[]).length+(match(dB i x.D).1 with|some s=>if 0<s.waits then 1 else 0|none=>0)≤n;cases q:(dB i x.D).1 with
     |some s=>
      have f:=(yT hi hD q).2;simp only[f.replies,f.waits,aU]
      simpa using this
     |none=>simpa using this
theorem arm_ok{n i:Nat}{x:Slot}(h:SlotOk i n x){k:Int}(hk:k≤9223372036854775807):SlotOk i n (tB x k):=by
 unfold tB;split
 · rename_i s hs
   obtain⟨h1,h2,h3⟩:=h.run s hs;refine⟨λt q=>?_,(λq=>by cases q),?_⟩
   · obtain rfl:=aR q
     exact⟨⟨⟨h1.e.dk.arm k hk,h1.e.used,h1.e.cnt⟩,h1.id,h1.view,h1.own,h1.mir,h1.book,h1.last,h1.acc,h1.vote⟩,h2,h3⟩
   · have:=h.reps
     unfold Slot.reps Slot.pend at this ⊢;rw[hs]at this;exact this
 · rename_i hr
   refine⟨λt q=>?_,λ_=>(h.D hr).arm k hk,?_⟩
   · rw[show x.run=some t from q]at hr;cases hr
   · have:=h.reps
     unfold Slot.reps Slot.pend at this ⊢;rw[hr]at this;simp only[hr];exact this
theorem crash_ok{n i:Nat}{x:Slot}(h:SlotOk i n x)(mask torn cut:Int):SlotOk i n (n7 x mask torn cut):=
 ⟨(λt q=>by cases q),λ_=>h.dk.crash mask torn cut,by
  have:=h.reps;show(x.reps++[]).length+0≤n
  rw[aU];omega⟩
theorem E6{n:Nat}{a:CL}(h:CLOk n a){o:OpT}(ho:OkOp o)(hk: ¬(0≤o.kind∧o.kind≤4)):CLOk n (vn a o).1:=by
 unfold vn;split
 · exact h
 rename_i hm;have hm:iX o.at'=true:=by simpa using hm
 have hi:=(kf hm).1;split
 · exact L8 h o
 split
 · unfold Ea
   split
   · exact h
   · rename_i s hs
     split
     · exact h
     · obtain⟨h1,_,_⟩:=(h.at' _ hi).run s hs
       exact h.quiet hi hs inferInstance inferInstance
 split
 · exact h.put (aM _) hi (arm_ok (h.at' _ hi) ho.n) h.W h.way
 split
 · exact h.put (aM _) hi (crash_ok (h.at' _ hi) _ _ _) h.W h.way
 split
 · exact h.put (aM _) hi (BR hi (h.at' _ hi)) h.W h.way
 · exact h
theorem Jn{n:Nat}{a:CL}(h:CLOk n a){o:OpT}(ho:OkOp o):CLOk (n+1) (vn a o).1:=by
 by_cases hk:0≤o.kind∧o.kind≤4
 · unfold vn
   split
   · exact h.more (by omega)
   rename_i hm;have hm:iX o.at'=true:=by simpa using hm
   have hi:=(kf hm).1;unfold Fl;split
   · exact h.more (by omega)
   · rename_i s hs
     split
     · exact h.more (by omega)
     · obtain⟨h1,_,_⟩:=(h.at' _ hi).run s hs
       have:=ho.change;rcases HG (K:=KD) s o with⟨e,v,q,_,_,w⟩| ⟨q,_⟩
       · refine h.did (by omega) hi hs inferInstance q ?_
         have:owe (cb KD s o).1≤owe s:=by
          unfold owe;rcases w with e|e
          · rw[e];exact aM _
          · rw[e];exact aP _
         show 1+_+n≤_;omega
       · refine h.did (by omega) hi hs inferInstance q ?_
         have:=Ng (cb KD s o).1;show 0+_+n≤_;omega
 · exact(E6 h ho hk).more (by omega)
theorem new_ok:CLOk 0 CL.new:=by
 refine⟨by simp[CL.new],by simp[CL.new],λi hi=>?_,λk=>?_⟩
 · have e:CL.new.at' i=o9 i:=by simp[CL.new,CL.at',List.getD_eq_getElem?_getD,hi]
   rw[e];exact BR hi ⟨(λs q=>by cases q),λ_=>DkOk.new,aM _⟩
 · have e:CL.new.W.getD k []=[]:=by
    show(List.replicate 25 ([]:List MsgT)).getD k []=[];rw[List.getD_eq_getElem?_getD,List.getElem?_replicate];split<;>rfl
   rw[e];exact⟨aP _,λm hm=>by cases hm⟩
theorem Iu: ∀(l:List OpT) {n:Nat} {a:CL},CLOk n a→(∀o∈l,OkOp o)→CLOk (n+l.length) (oX a l)
 | [],_,_,h,_=>h
 |o::l,n,a,h,ho=>by
  have:=Iu l (Jn h (ho o (cY ..))) λx hx=>ho x (dd _ hx)
  rw[az,show n+(l.length+1)=n+1+l.length by omega];exact this
end Api
end

section
namespace Go.Proofs.YtmcjhkbcmmddgaaGreat
open Go Leg Codec Api Dsk Wal
theorem zb{f:Nat→HP}{k i:Nat}(hi:i<k){H:List HP}{h:Hl}(s:bN (bN ((List.range k).map f)::H) h):bN (f i::bN (((List.range k).map f).eraseIdx i)::H) h:=by
 have s1:bN ((List.range k).map f++H) h:=(cj _ _).2 s;have e:((List.range k).map f).getD i (λ_=>True)=f i:=by simp[List.getD_eq_getElem?_getD,hi]
 have p:=nd (λ_=>True) ((List.range k).map f) i (by simpa using hi);rw[e]at p;exact cE (eF (p.append_right H) s1) (λ_ a=>a) λ_ b=>(cj _ _).1 b
theorem za{f g:Nat→HP}{k i:Nat}(hi:i<k)(hg: ∀j,j≠i→g j=f j){H:List HP}{h:Hl}(s:bN (g i::bN (((List.range k).map f).eraseIdx i)::H) h):bN (bN ((List.range k).map g)::H) h:=by
 have e0:((List.range k).map g).eraseIdx i=((List.range k).map f).eraseIdx i:=by
  refine List.ext_getElem? λj=>?_
  rw[List.getElem?_eraseIdx,List.getElem?_eraseIdx]
  have: ∀m,m≠i→((List.range k).map g)[m]?=((List.range k).map f)[m]?:=λm hm=>by
   rw[List.getElem?_map,List.getElem?_map]
   by_cases hk:m<k
   · simp[hk,hg m hm]
   · simp[hk]
  split
  · exact this j (by omega)
  · exact this (j+1) (by omega)
 have e:((List.range k).map g).getD i (λ_=>True)=g i:=by simp[List.getD_eq_getElem?_getD,hi]
 have p:=nd (λ_=>True) ((List.range k).map g) i (by simpa using hi);rw[e,e0]at p;have s2:bN ((g i::((List.range k).map f).eraseIdx i)++H) h:=cE s (λ_ a=>a) λ_ b=>(cj _ _).2 b
 exact(cj _ _).1 (eF (p.symm.append_right H) s2)
section
variable {f:FuncId} {args:Array Value} {Q:Value→Prop} {c i:Nat} {a a':CL}
theorem A5(hi:i<5){Z:Value→CL→Prop}(hne: ∀v a',Z v a'→∀j,j≠i→a'.at' j=a.at' j)
 (core: ∀g:CX,DT f args T0 (an c (e8 g.n (mM g) (kg a g.r) g.p) 71::eP 110 160 5 g.n (cO a.W)::kI (a.at' i) (g.d i) (g.r i) (g.p i))
  (dL λv H=>∃a',Z v a'∧∃g':CX,g'.n=g.n∧(∀j,j≠i→g'.d j=g.d j∧g'.r j=g.r j∧g'.p j=g.p j)∧H=an c (e8 g.n (mM g') (kg a' g'.r) g'.p) 71::eP 110 160 5 g.n (cO a'.W)::kI (a'.at' i) (g'.d i) (g'.r i) (g'.p i))):
 DT f args T0 [fS c a] (dL λv H=>∃a',Z v a'∧H=[fS c a']):=by
 refine Leg.Does.ex (A':=λg:CX=>(an c (e8 g.n (mM g) (kg a g.r) g.p) 71::eP 110 160 5 g.n (cO a.W)::kI (a.at' i) (g.d i) (g.r i) (g.p i))++[bN (((List.range 5).map λi=>kX (a.at' i) (g.d i) (g.r i) (g.p i)).eraseIdx i)]) (λh s=>?_) λg=>?_
 · obtain⟨g,s⟩:=fL s
   have s2:=zb (f:=λi=>kX (a.at' i) (g.d i) (g.r i) (g.p i)) hi (aE [2,0,0] rfl s);have s3:=(cj (kI (a.at' i) (g.d i) (g.r i) (g.p i)) _).2 s2;exact⟨g,aE [4,4,0,0,0,0] rfl s3⟩
 · refine Leg.Does.withinR (core g) (λ_ _ _ _=>trivial) (λh s=>s) λv H hp=>?_
   obtain⟨a',hz,g',hn,hg,rfl⟩:=hp;refine⟨[fS c a'],λh s=>?_,a',hz,rfl⟩;have s1:=aE [2,2,2,2,0,0] rfl s;have s2:=(cj (kI (a'.at' i) (g'.d i) (g'.r i) (g'.p i)) _).1 s1
   have s3:=za (f:=λi=>kX (a.at' i) (g.d i) (g.r i) (g.p i)) (g:=λi=>kX (a'.at' i) (g'.d i) (g'.r i) (g'.p i)) hi (λj hj=>by
    obtain⟨h1,h2,h3⟩:=hg j hj
    rw[hne v a' hz j hj,h1,h2,h3]) s2
   refine br (p:=re c a') g' ?_;rw[←hn]at s3;exact aE [1,1,0] rfl s3
theorem xd(hne: ∀j,j≠i→a'.at' j=a.at' j)(r:Nat→Nat)(hi:yi (a'.at' i) (r i)=yi (a.at' i) (r i)):kg a' r=kg a r:=funext λj=>by
 by_cases q:j=i
 · subst q;exact hi
 · show yi (a'.at' j) (r j)=yi (a.at' j) (r j)
   rw[hne j q]
theorem Fi(hl:a.ms.length=5)(hi:i<5){s:MS LD}(hs:(a.at' i).run=some s){R:Value→MS LD→List (List MsgT)→Prop}
 (core: ∀g:CX,kg a g.r i= .pointer (some ⟨g.r i,0,none⟩)→DT f args T0 [an c (e8 g.n (mM g) (kg a g.r) g.p) 71,dk (g.d i) s.e.D,eP 110 160 5 g.n (cO a.W),gl s (g.d i) (g.r i)]
  (dL λv H=>∃s' W',R v s' W'∧H=[an c (e8 g.n (mM g) (kg a g.r) g.p) 71,dk (g.d i) s'.e.D,eP 110 160 5 g.n (cO W'),gl s' (g.d i) (g.r i)])):
 DT f args T0 [fS c a] (dL λv H=>∃a',(∃s' W',R v s' W'∧a'=⟨a.ms.set i {a.at' i with run:=some s'},W'⟩)∧H=[fS c a']):=by
 refine A5 hi (λv a' hz j hj=>?_) λg=>?_
 · obtain⟨s',W',_,rfl⟩:=hz
   exact tA hj
 · have em:kg a g.r i= .pointer (some ⟨g.r i,0,none⟩):=by show yi (a.at' i) _=_;unfold yi;rw[hs]
   have e1:rF (a.at' i) (g.d i) (g.r i)=gl s (g.d i) (g.r i):=by unfold rF;rw[hs]
   have e2:(a.at' i).dk=s.e.D:=by unfold Slot.dk;rw[hs]
   refine Leg.Does.withinR (B:=[mH (g.p i) (a.at' i).past]) (core g em) (λ_ _ _ _=>trivial) (λh q=>?_) λv H hp=>?_
   · unfold kI at q
     rw[e1,e2]at q;exact aE [0,1,0,1,0] rfl q
   · obtain⟨s',W',hR,rfl⟩:=hp
     have ea:(CL.mk (a.ms.set i {a.at' i with run:=some s'}) W').at' i= {a.at' i with run:=some s'}:=rW (by rw[hl];exact hi);have hm:kg ⟨a.ms.set i {a.at' i with run:=some s'},W'⟩ g.r=kg a g.r:=xd (λj hj=>tA hj) g.r (by rw[ea];unfold yi;rw[hs]);refine⟨_,λh q=>?_,_,⟨s',W',hR,rfl⟩,g,rfl,λ_ _=>⟨rfl,rfl,rfl⟩,rfl⟩;rw[hm,ea];exact aE [0,1,0,1,0] rfl q
theorem A4(core: ∀g:CX,DT f args T0 [an c (e8 g.n (mM g) (kg a g.r) g.p) 71] (dL λv H=>Q v∧H=[an c (e8 g.n (mM g) (kg a g.r) g.p) 71])):
 DT f args T0 [fS c a] (dL λv H=>Q v∧H=[fS c a]):=by
 refine Leg.Does.ex (A':=λg:CX=>[an c (e8 g.n (mM g) (kg a g.r) g.p) 71]++[eP 110 160 5 g.n (cO a.W),bN ((List.range 5).map λi=>kX (a.at' i) (g.d i) (g.r i) (g.p i))]) (λh s=>fL s) λg=>?_
 refine Leg.Does.withinR (core g) (λ_ _ _ _=>trivial) (λh s=>s) λv H hp=>?_
 obtain⟨hQ,rfl⟩:=hp;exact⟨[fS c a],λh s=>br (p:=re c a) g s,hQ,rfl⟩
theorem Jt{R:Value→List (List MsgT)→Prop}(core: ∀g:CX,DT f args T0 [an c (e8 g.n (mM g) (kg a g.r) g.p) 71,eP 110 160 5 g.n (cO a.W)] (dL λv H=>∃W',R v W'∧H=[an c (e8 g.n (mM g) (kg a g.r) g.p) 71,eP 110 160 5 g.n (cO W')])):
 DT f args T0 [fS c a] (dL λv H=>∃W',R v W'∧H=[fS c ⟨a.ms,W'⟩]):=by
 refine Leg.Does.ex (A':=λg:CX=>[an c (e8 g.n (mM g) (kg a g.r) g.p) 71,eP 110 160 5 g.n (cO a.W)]++[bN ((List.range 5).map λi=>kX (a.at' i) (g.d i) (g.r i) (g.p i))]) (λh s=>fL s) λg=>?_
 refine Leg.Does.withinR (core g) (λ_ _ _ _=>trivial) (λh s=>s) λv H hp=>?_
 obtain⟨W',hR,rfl⟩:=hp;exact⟨[fS c ⟨a.ms,W'⟩],λh s=>br (p:=re c ⟨a.ms,W'⟩) g s,W',hR,rfl⟩
theorem KU(hl:a.ms.length=5)(hi:i<5){x:Slot}(hm: ∀r,yi x r=yi (a.at' i) r)(hr: ∀d r,rF x d r=rF (a.at' i) d r)(hp:x.past=(a.at' i).past)
 (core: ∀g:CX,DT f args T0 [an c (e8 g.n (mM g) (kg a g.r) g.p) 71,dk (g.d i) (a.at' i).dk] (dL λv H=>Q v∧H=[an c (e8 g.n (mM g) (kg a g.r) g.p) 71,dk (g.d i) x.dk])):
 DT f args T0 [fS c a] (dL λv H=>∃a',(Q v∧a'=a.set i x)∧H=[fS c a']):=by
 have ea:(a.set i x).at' i=x:=rW (by rw[hl];exact hi);refine A5 hi (λv a' hz j hj=>by rw[hz.2];exact tA hj) λg=>?_
 refine Leg.Does.withinR (B:=[eP 110 160 5 g.n (cO a.W),mH (g.p i) (a.at' i).past,rF (a.at' i) (g.d i) (g.r i)]) (core g) (λ_ _ _ _=>trivial) (λh q=>aE [0,1,0,0,0] rfl q) λv H hq=>?_
 obtain⟨hQ,rfl⟩:=hq;have hmm:kg (a.set i x) g.r=kg a g.r:=xd (λj hj=>tA hj) g.r (by rw[show(CL.mk (a.ms.set i x) a.W).at' i=x from ea];exact hm _);refine⟨_,λh q=>?_,_,⟨hQ,rfl⟩,g,rfl,λ_ _=>⟨rfl,rfl,rfl⟩,rfl⟩;rw[hmm,ea];unfold kI;rw[hp,hr];exact aE [0,1,0,0,0] rfl q
end
theorem mh{f:FuncId}{args:Array Value}{R:Hl→Prop}{A:List HP}{p q:Value→List HP→Prop}(d:DT f args R A (dL p))(k: ∀v H,p v H→q v H):DT f args R A (dL q):=
 Leg.Does.fold d λe H hp=>by
  cases e with
  |returned v=>exact⟨H,λ_ s=>s,k v H hp⟩
  |panicked c=>exact hp.elim
  |outgrown=>exact hp.elim
theorem wy{H:List HP}{h:Hl}(s:bN H h):bN ((λ_=>True)::H) h:=⟨em,h,DO h,(ra h).symm,trivial,s⟩
theorem wu{α:Type}{l:List α}{k:Nat}{d:α}(h:k<l.length):l.set k (l.getD k d)=l:=by
 refine List.ext_getElem? λj=>?_
 by_cases q:j=k
 · subst q;rw[List.getElem?_set_self h,List.getD_eq_getElem?_getD,List.getElem?_eq_getElem h];rfl
 · rw[List.getElem?_set_ne (λe=>q e.symm)]
section
variable {n c i:Nat} {a:CL} {o:OpT}
theorem B4(h:CLOk n a)(hi:i<5):a.set i (a.at' i)=a:=by
 show CL.mk (a.ms.set i (a.ms.getD i .nil)) a.W=a;rw[wu (by rw[h.ms];exact hi)]
theorem wK(h:CLOk n a)(hi:i<5){s:MS LD}(hs:(a.at' i).run=some s):(CL.mk (a.ms.set i {a.at' i with run:=some s}) a.W)=a:=by
 have e:({a.at' i with run:=some s}:Slot)=a.at' i:=by cases q:a.at' i with|mk r D p=>rw[q]at hs;simp only at hs;rw[hs]
 rw[e];exact B4 h hi
theorem o8{k:Int}(hk:o.kind=k)(hi:o.at'=((i:Nat):Int)):OpT.mk k ((i:Nat):Int) o.to' o.key o.n o.change o.mask o.torn o.cut=o:=by subst hk;rw[←hi]
theorem sT{k:Int}{j:Nat}(hk:o.kind=k)(hi:o.at'=((i:Nat):Int))(hj:o.to'=((j:Nat):Int)):OpT.mk k ((i:Nat):Int) ((j:Nat):Int) o.key o.n o.change o.mask o.torn o.cut=o:=by subst hk;rw[←hi,←hj]
theorem sY{g:CX}{s:MS LD}(hs:(a.at' i).run=some s):kg a g.r i= .pointer (some ⟨g.r i,0,none⟩):=by show yi (a.at' i) _=_;unfold yi;rw[hs]
theorem ni{g:CX}(hs:(a.at' i).run=none):kg a g.r i= .pointer none:=by show yi (a.at' i) _=_;unfold yi;rw[hs]
theorem F5{a':CL}{r r':Nat→Nat}{v:Value}(hne: ∀j,j≠i→a'.at' j=a.at' j)(hr: ∀j,j≠i→r' j=r j)(hv:yi (a'.at' i) (r' i)=v):kg a' r'=nI (kg a r) i v:=funext λj=>by
 by_cases q:j=i
 · subst q;rw[lN];exact hv
 · rw[pZ _ _ q]
   show yi (a'.at' j) (r' j)=yi (a.at' j) (r j);rw[hne j q,hr j q]
theorem Ju(h:CLOk n a)(hn:n≤100000)(hi:i<5)(hat:o.at'=((i:Nat):Int))(hk:0≤o.kind∧o.kind≤4)(ho:OkOp o):DT 9 #[.pointer (some ⟨c,0,none⟩), .agg (ints o.flat).toArray] T0 [fS c a] (dL λv H=>v= .int .i64 (Fl a i o).2∧H=[fS c (Fl a i o).1]):=by
 have eo:=o8 (o:=o) rfl hat;cases hr:(a.at' i).run with
 |none=>
  refine mh (A4 (Q:=λv=>v= .int .i64 4) λg=>?_) λv H hp=>?_
  · have:=Dh c g.n i (mM g) (kg a g.r) g.p hi (ni hr) o o.kind hk
    rw[eo]at this;exact this
  · unfold Fl;rw[hr];exact hp
 |some s=>
  obtain⟨hs,_,hso⟩:=(h.at' i hi).run s hr;have hrep:=(h.at' i hi).reps;unfold Slot.reps at hrep;rw[hr,aj]at hrep;simp only at hrep;refine mh (Fi h.ms hi hr (R:=λv s' W'=>(s.e.D.dn=true∧v= .int .i64 4∧s'=s∧W'=a.W)∨(s.e.D.dn=false∧v= .int .i64 (cb KD s o).2∧s'=(cb KD s o).1.hush∧W'=iu a.W i (cb KD s o).1.o)) λg em=>?_) λv H hp=>?_
  · have:=Fe c g.n i (mM g) (kg a g.r) g.p hi (g.d i) (g.r i) s rfl em a.W h.W hso hs o o.kind hk ho.change (by omega)
    rw[eo]at this;refine mh this λv H hp=>?_
    rcases hp with⟨hd,rfl,rfl⟩| ⟨hd,rfl,rfl⟩
    · exact⟨s,a.W, .inl ⟨hd,rfl,rfl,rfl⟩,rfl⟩
    · exact⟨_,_, .inr ⟨hd,rfl,rfl,rfl⟩,rfl⟩
  · obtain⟨a',⟨s',W',hR,rfl⟩,rfl⟩:=hp
    unfold Fl;rw[hr];rcases hR with⟨hd,rfl,rfl,rfl⟩| ⟨hd,rfl,rfl,rfl⟩
    · simp only[hd,if_true];exact⟨by first|rfl|trivial,by rw[wK h hi hr]⟩
    · simp only[hd];exact⟨rfl,rfl⟩
theorem Ik(h:CLOk n a)(hi:i<5)(hat:o.at'=((i:Nat):Int))(hk:o.kind=8):DT 9 #[.pointer (some ⟨c,0,none⟩), .agg (ints o.flat).toArray] T0 [fS c a] (dL λv H=>v= .int .i64 (Ea a i).2∧H=[fS c (Ea a i).1]):=by
 have eo:=o8 (o:=o) hk hat;cases hr:(a.at' i).run with
 |none=>
  refine mh (A4 (Q:=λv=>v= .int .i64 4) λg=>?_) λv H hp=>?_
  · have:=Df c g.n i (mM g) (kg a g.r) g.p hi (ni hr) o
    rw[eo]at this;exact this
  · unfold Ea;rw[hr];exact hp
 |some s=>
  obtain⟨hs,_,hso⟩:=(h.at' i hi).run s hr;refine mh (Fi h.ms hi hr (R:=λv s' W'=>(s.e.D.dn=true∧v= .int .i64 4∧s'=s∧W'=a.W)∨(s.e.D.dn=false∧v= .int .i64 0∧s'=(iL KD s).hush∧W'=iu a.W i (iL KD s).o)) λg em=>?_) λv H hp=>?_
  · have:=E8 c g.n i (mM g) (kg a g.r) g.p hi (g.d i) (g.r i) s rfl em a.W h.W hso hs o
    rw[eo]at this;refine mh this λv H hp=>?_
    rcases hp with⟨hd,rfl,rfl⟩| ⟨hd,rfl,rfl⟩
    · exact⟨s,a.W, .inl ⟨hd,rfl,rfl,rfl⟩,rfl⟩
    · exact⟨_,_, .inr ⟨hd,rfl,rfl,rfl⟩,rfl⟩
  · obtain⟨a',⟨s',W',hR,rfl⟩,rfl⟩:=hp
    unfold Ea;rw[hr];rcases hR with⟨hd,rfl,rfl,rfl⟩| ⟨hd,rfl,rfl,rfl⟩
    · simp only[hd,if_true];exact⟨by first|rfl|trivial,by rw[wK h hi hr]⟩
    · simp only[hd];exact⟨rfl,rfl⟩
theorem JE(h:CLOk n a)(hi:i<5)(hat:o.at'=((i:Nat):Int))(hk:o.kind=9):DT 9 #[.pointer (some ⟨c,0,none⟩), .agg (ints o.flat).toArray] T0 [fS c a] (dL λv H=>v= .int .i64 0∧H=[fS c (a.set i (tB (a.at' i) o.n))]):=by
 have eo:=o8 (o:=o) hk hat
 have ed:(tB (a.at' i) o.n).dk=(a.at' i).dk.arm o.n:=by
  unfold tB Slot.dk;cases hr:(a.at' i).run with
  |none=>simp only[hr]
  |some s=>rfl
 refine mh (KU (x:=tB (a.at' i) o.n) (Q:=λv=>v= .int .i64 0) h.ms hi (λr=>?_) (λd r=>?_) ?_ λg=>?_) λv H hp=>?_
 · unfold tB yi
   cases hr:(a.at' i).run with
   |none=>simp only[hr]
   |some s=>rfl
 · unfold tB rF
   cases hr:(a.at' i).run with
   |none=>simp only[hr]
   |some s=>rfl
 · unfold tB;split<;>rfl
 · have:=Fg c g.n i (mM g) (kg a g.r) g.p hi (g.d i) rfl (a.at' i).dk o
   rw[eo]at this;rw[ed];exact this
 · obtain⟨a',⟨rfl,rfl⟩,rfl⟩:=hp
   exact⟨rfl,rfl⟩
theorem Fk(h:CLOk n a)(hn:n≤100000)(hi:i<5)(hat:o.at'=((i:Nat):Int))(hk:o.kind=10):DT 9 #[.pointer (some ⟨c,0,none⟩), .agg (ints o.flat).toArray] T0 [fS c a] (dL λv H=>v= .int .i64 0∧H=[fS c (a.set i (n7 (a.at' i) o.mask o.torn o.cut))]):=by
 have eo:=o8 (o:=o) hk hat;have so:=h.at' i hi;have hrep:=so.reps;unfold Slot.reps at hrep;rw[aj]at hrep;have ea:(a.set i (n7 (a.at' i) o.mask o.torn o.cut)).at' i=n7 (a.at' i) o.mask o.torn o.cut:=rW (by rw[h.ms];exact hi);have hne: ∀j,j≠i→(a.set i (n7 (a.at' i) o.mask o.torn o.cut)).at' j=a.at' j:=λj hj=>tA hj
 refine mh (A5 (Z:=λv a'=>v= .int .i64 0∧a'=a.set i (n7 (a.at' i) o.mask o.torn o.cut)) hi (λv a' hz j hj=>by rw[hz.2];exact hne j hj) λg=>?_) λv H hp=>by obtain⟨_,⟨rfl,rfl⟩,rfl⟩:=hp;exact⟨rfl,rfl⟩
 have fin: ∀u,u.oneCell'=true→∀h,bN ([an c (e8 g.n (mM g) (nI (kg a g.r) i (.pointer none)) (nI g.p i u)) 71,dk (g.d i) ((a.at' i).dk.crash o.mask o.torn o.cut),mH u (a.at' i).reps]++[eP 110 160 5 g.n (cO a.W)]) h→
  bN (an c (e8 g.n (mM {g with p:=nI g.p i u}) (kg (a.set i (n7 (a.at' i) o.mask o.torn o.cut)) g.r) (nI g.p i u)) 71::eP 110 160 5 g.n (cO (a.set i (n7 (a.at' i) o.mask o.torn o.cut)).W)::kI ((a.set i (n7 (a.at' i) o.mask o.torn o.cut)).at' i) (g.d i) (g.r i) (nI g.p i u i)) h:=λu _ hh q=>by
  rw[F5 (a:=a) (i:=i) (v:= .pointer none) (r:=g.r) hne (λ_ _=>rfl) (by rw[ea];rfl),ea,lN];have q2:=wy (aE [0,2,0,0] rfl q);exact aE [1,1,1,1,0] rfl q2
 cases hr:(a.at' i).run with
 |none=>
  have er:(a.at' i).reps=(a.at' i).past:=by unfold Slot.reps;rw[hr,aU]
  have:=Fc c g.n i (mM g) (kg a g.r) g.p hi (g.d i) rfl (ni hr) (a.at' i).past (by omega) (a.at' i).dk so.dk.ok o;rw[eo]at this;refine Leg.Does.withinR (B:=[eP 110 160 5 g.n (cO a.W)]) this (λ_ _ _ _=>trivial) (λhh q=>?_) λv H hp=>?_
  · exact ao [0,1,1,0] rfl q
  · obtain⟨u,hu,rfl,rfl⟩:=hp
    refine⟨_,λhh q=>fin u hu hh ?_,_,⟨rfl,rfl⟩,{g with p:=nI g.p i u},rfl,λj hj=>⟨rfl,rfl,pZ _ _ hj⟩,rfl⟩;rw[er];exact q
 |some s=>
  rw[hr]at hrep;simp only at hrep;have er:(a.at' i).reps=(a.at' i).past++s.replies:=by unfold Slot.reps;rw[hr]
  have e1:rF (a.at' i) (g.d i) (g.r i)=gl s (g.d i) (g.r i):=by unfold rF;rw[hr]
  have:=Fb c g.n i (mM g) (kg a g.r) g.p hi (g.d i) rfl (g.r i) s (sY hr) (a.at' i).past (by omega) (by omega) (a.at' i).dk so.dk.ok o;rw[eo]at this;refine Leg.Does.withinR (B:=[eP 110 160 5 g.n (cO a.W)]) this (λ_ _ _ _=>trivial) (λhh q=>?_) λv H hp=>?_
  · unfold kI at q
    rw[e1]at q;exact aE [0,1,1,1,0] rfl q
  · obtain⟨u,hu,rfl,rfl⟩:=hp
    refine⟨_,λhh q=>fin u hu hh ?_,_,⟨rfl,rfl⟩,{g with p:=nI g.p i u},rfl,λj hj=>⟨rfl,rfl,pZ _ _ hj⟩,rfl⟩;rw[er];exact q
end
section
variable {n c i:Nat} {a:CL} {o:OpT}
theorem BZ{i:Nat}{D:DS}{s:MS LD}(h:(dB i D).1=some s):(dB i D).2=0:=by
 obtain⟨h1,h2⟩:=nK h;unfold dB;rw[if_neg (by rw[h1];decide),h2]
theorem B1(h:CLOk n a)(hi:i<5)(hat:o.at'=((i:Nat):Int))(hk:o.kind=11):DT 9 #[.pointer (some ⟨c,0,none⟩), .agg (ints o.flat).toArray] T0 [fS c a] (dL λv H=>v= .int .i64 (il i (a.at' i)).2∧H=[fS c (a.set i (il i (a.at' i)).1)]):=by
 have eo:=o8 (o:=o) hk hat;have so:=h.at' i hi;cases hr:(a.at' i).run with
 |some s=>
  have e:il i (a.at' i)=(a.at' i,5):=by unfold il;rw[hr]
  rw[e,show a.set i (a.at' i,(5:Int)).1=a from B4 h hi];refine A4 (Q:=λv=>v= .int .i64 5) λg=>?_
  have:=E9 c g.n i (mM g) (kg a g.r) g.p hi (g.r i) (sY hr) o;rw[eo]at this;exact this
 |none=>
  have e:il i (a.at' i)=({a.at' i with run:=(dB i (a.at' i).D).1,D:=(bI (a.at' i).D).D},(dB i (a.at' i).D).2):=by unfold il;rw[hr]
  have hD:=so.D hr;have ed:(a.at' i).dk=(a.at' i).D:=by unfold Slot.dk;rw[hr]
  have e1: ∀d r,rF (a.at' i) d r= λ_=>True:=λd r=>by unfold rF;rw[hr]
  have hst: ∀x:Slot,(a.set i x).at' i=x:=λx=>rW (by rw[h.ms];exact hi)
  have hne: ∀x:Slot,∀j,j≠i→(a.set i x).at' j=a.at' j:=λx j hj=>tA hj
  refine mh (A5 (Z:=λv a'=>v= .int .i64 (il i (a.at' i)).2∧a'=a.set i (il i (a.at' i)).1) hi (λv a' hz j hj=>by rw[hz.2];exact hne _ j hj) λg=>?_) λv H hp=>by obtain⟨_,⟨rfl,rfl⟩,rfl⟩:=hp;exact⟨rfl,rfl⟩
  have:=Fa c g.n i (mM g) (kg a g.r) g.p hi (g.d i) rfl (ni hr) (a.at' i).D hD o;rw[eo]at this;refine Leg.Does.withinR (B:=[eP 110 160 5 g.n (cO a.W),mH (g.p i) (a.at' i).past]) this (λ_ _ _ _=>trivial) (λhh q=>?_) λv H hp=>?_
  · unfold kI at q
    rw[ed]at q;exact ao [0,1,0,0] rfl q
  · rcases hp with⟨hn,rfl,rfl⟩| ⟨s,r,hn,rfl,rfl⟩
    · refine⟨_,λhh q=>?_,_,⟨by rw[e],rfl⟩,g,rfl,λj hj=>⟨rfl,rfl,rfl⟩,rfl⟩
      rw[hst,e];have em:kg (a.set i {a.at' i with run:=(dB i (a.at' i).D).1,D:=(bI (a.at' i).D).D}) g.r=kg a g.r:=xd (hne _) g.r (by rw[hst];unfold yi;rw[hr];simp only[hn]);rw[em];have q2:=wy (aE [0,1,0,0] rfl q);have q3:=aE [1,1,1,1,0] rfl q2;unfold kI Slot.dk rF;simp only[hn];exact q3
    · refine⟨_,λhh q=>?_,_,⟨by rw[e];simp only[BZ hn],rfl⟩,{g with r:=nI g.r i r},rfl,λj hj=>⟨rfl,pZ _ _ hj,rfl⟩,rfl⟩
      rw[hst,e];have em:kg (a.set i {a.at' i with run:=(dB i (a.at' i).D).1,D:=(bI (a.at' i).D).D}) (nI g.r i r)=nI (kg a g.r) i (.pointer (some ⟨r,0,none⟩)):=F5 (hne _) (λj hj=>pZ _ _ hj) (by rw[hst,lN];unfold yi;simp only[hn]);rw[em];have q3:=aE [0,2,1,1,0] rfl q;unfold kI Slot.dk rF;simp only[hn,lN];exact q3
theorem Gv(h:CLOk n a)(hn:n≤100000)(hi:i<5)(hat:o.at'=((i:Nat):Int))(hk:o.kind=5∨o.kind=6∨o.kind=7):DT 28 #[.pointer (some ⟨c,0,none⟩), .agg (ints o.flat).toArray] T0 [fS c a] (dL λv H=>v= .int .i64 (oO a o).2∧H=[fS c (oO a o).1]):=by
 cases hv:dm o.at' o.to' with
 |false=>
  have e:oO a o=(a,5):=by unfold oO;rw[if_pos hv]
  rw[e];have eo:=o8 (o:=o) rfl hat;refine mh (Jt (R:=λv W'=>v= .int .i64 5∧W'=a.W) λg=>?_) λv H hp=>by obtain⟨_,⟨rfl,rfl⟩,rfl⟩:=hp;exact⟨rfl,rfl⟩
  refine Leg.Does.ex (A':=λbs:List Nat=>[an c (e8 g.n (mM g) (kg a g.r) g.p) 71,an g.n (dF bs) 110]++[eY 160 5 bs (cO a.W)]) (λhh q=>?_) λbs=>?_
  · obtain⟨bs,q⟩:=fL (eF (List.Perm.swap _ _ _) q)
    exact⟨bs,aE [2,0,0] rfl q⟩
  · rw[hat]at hv
    have:=Bx c g.n i (mM g) (kg a g.r) g.p hi o.to' o.kind o hv bs;rw[eo]at this;refine Leg.Does.withinR this (λ_ _ _ _=>trivial) (λhh q=>q) λv H hp=>?_
    obtain⟨rfl,rfl⟩:=hp;refine⟨_,λhh q=>?_,a.W,⟨rfl,rfl⟩,rfl⟩;exact eF (List.Perm.swap _ _ _) (br (p:=λbs:List Nat=>[an g.n (dF bs) 110,eY 160 5 bs (cO a.W)]) bs (aE [1,1,0] rfl q))
 |true=>
  obtain⟨j,hto⟩: ∃j:Nat,o.to'=((j:Nat):Int):=⟨o.to'.toNat,((kf (sE hv).2).2).symm⟩;have hj:j<5:=by have:=(kf (sE hv).2).1;rw[hto]at this;simpa using this
  have hv2:dm ((i:Nat):Int) ((j:Nat):Int)=true:=by rw[←hat,←hto];exact hv
  have eK:bw o.at' o.to'=bw ((i:Nat):Int) ((j:Nat):Int):=by rw[hat,hto]
  have hij:((i:Nat):Int)≠((j:Nat):Int):=λe=>by
   unfold dm at hv2;rw[decide_eq_true e]at hv2;simp at hv2
  obtain⟨h8,hlen⟩:=h.way (bw ((i:Nat):Int) ((j:Nat):Int));have hkl:bw ((i:Nat):Int) ((j:Nat):Int)<a.W.length:=by rw[h.W];exact(iT hv2).1
  -- the net alone
  have net: ∀{R:Value→List (List MsgT)→Prop},(∀(g:CX) (bs:List Nat),Leg.Does Tryz.prog 28 #[.pointer (some ⟨c,0,none⟩), .agg (ints o.flat).toArray] (λ_=>True) [an g.n (dF bs) 110,eY 160 5 bs (cO a.W),an c (e8 g.n (mM g) (kg a g.r) g.p) 71] (dL λv H=>∃W',R v W'∧H=[an c (e8 g.n (mM g) (kg a g.r) g.p) 71,eP 110 160 5 g.n (cO W')]))→
   Leg.Does Tryz.prog 28 #[.pointer (some ⟨c,0,none⟩), .agg (ints o.flat).toArray] (λ_=>True) [fS c a] (dL λv H=>∃W',R v W'∧H=[fS c ⟨a.ms,W'⟩]):=λcore=>Jt λg=>Leg.Does.ex (A':=λbs:List Nat=>[an g.n (dF bs) 110,eY 160 5 bs (cO a.W),an c (e8 g.n (mM g) (kg a g.r) g.p) 71]) (λhh q=>fL (eF (List.Perm.swap _ _ _) q)) (core g)
  cases hl:a.W.getD (bw ((i:Nat):Int) ((j:Nat):Int)) []with
  |nil=>
   have e:oO a o=(a,10):=by unfold oO;rw[if_neg (by rw[hv];decide),eK,hl]
   rw[e];refine mh (net (R:=λv W'=>v= .int .i64 10∧W'=a.W) λg bs=>?_) λv H hp=>by obtain⟨_,⟨rfl,rfl⟩,rfl⟩:=hp;exact⟨rfl,rfl⟩
   have:=zX c g.n i (mM g) (kg a g.r) g.p hi j hj hv2 a.W h.W _ rfl h8 hlen o o.kind hl bs;rw[sT rfl hat hto,wu hkl]at this;exact mh this λv H hp=>⟨a.W,⟨hp.1,rfl⟩,hp.2⟩
  |cons m0 l0=>
   by_cases h7:o.kind=7
   · have e:oO a o=(a.way (bw ((i:Nat):Int) ((j:Nat):Int)) (DR (m0::l0)),if Ih (m0::l0)then 0 else 3):=by
      unfold oO;rw[if_neg (by rw[hv];decide),eK,hl];simp only[if_pos h7];split
      · rfl
      · rename_i q
        have q2:DR (m0::l0)=m0::l0:=by unfold DR;unfold Ih at q;rw[if_neg (by simpa using q)]
        rw[q2];show(a,(3:Int))=(CL.mk a.ms (a.W.set _ (m0::l0)),3);rw[←hl,wu hkl]
     rw[e];refine mh (net (R:=λv W'=>v= .int .i64 (if Ih (m0::l0)then 0 else 3)∧W'=a.W.set (bw ((i:Nat):Int) ((j:Nat):Int)) (DR (m0::l0))) λg bs=>?_) λv H hp=>by obtain⟨_,⟨rfl,rfl⟩,rfl⟩:=hp;exact⟨rfl,rfl⟩
     have:=xV c g.n i (mM g) (kg a g.r) g.p hi j hj hv2 a.W h.W (m0::l0) hl (by rw[←hl];exact h8) (by rw[←hl];exact hlen) o (by simp) bs;rw[sT h7 hat hto]at this;exact mh this λv H hp=>⟨_,⟨hp.1,rfl⟩,hp.2⟩
   · cases ht:lA (max o.n 0% ((m0::l0).length:Int)).toNat (m0::l0)with
     |nil=>have:=jt (max o.n 0% ((m0::l0).length:Int)).toNat (m0::l0);rw[ht]at this;simp at this
     |cons m l2=>
      by_cases h6:o.kind=6
      · have e:oO a o=(a.way (bw ((i:Nat):Int) ((j:Nat):Int)) l2,0):=by
         unfold oO;rw[if_neg (by rw[hv];decide),eK,hl];simp only[if_neg h7];rw[ht];simp only[if_pos h6]
        rw[e];refine mh (net (R:=λv W'=>v= .int .i64 0∧W'=a.W.set (bw ((i:Nat):Int) ((j:Nat):Int)) l2) λg bs=>?_) λv H hp=>by obtain⟨_,⟨rfl,rfl⟩,rfl⟩:=hp;exact⟨rfl,rfl⟩
        have:=sw c g.n i (mM g) (kg a g.r) g.p hi j hj hv2 a.W h.W (m0::l0) hl (by rw[←hl];exact h8) (by rw[←hl];exact hlen) o m l2 ht bs 6 (.inr rfl) (.inl rfl);rw[sT h6 hat hto]at this;exact mh this λv H hp=>⟨_,⟨hp.1,rfl⟩,hp.2⟩
      · have h5:o.kind=5:=by omega
        have e:oO a o=tl (a.way (bw ((i:Nat):Int) ((j:Nat):Int)) l2) i j m:=by
         unfold oO;rw[if_neg (by rw[hv];decide),eK,hl];simp only[if_neg h7];rw[ht];simp only[if_neg h6];rw[hat,hto];rfl
        rw[e];have ew:(a.way (bw ((i:Nat):Int) ((j:Nat):Int)) l2).at' j=a.at' j:=rfl;cases hr:(a.at' j).run with
        |none=>
         have e2:tl (a.way (bw ((i:Nat):Int) ((j:Nat):Int)) l2) i j m=(a.way (bw ((i:Nat):Int) ((j:Nat):Int)) l2,0):=by unfold tl;rw[ew,hr]
         rw[e2];refine mh (net (R:=λv W'=>v= .int .i64 0∧W'=a.W.set (bw ((i:Nat):Int) ((j:Nat):Int)) l2) λg bs=>?_) λv H hp=>by obtain⟨_,⟨rfl,rfl⟩,rfl⟩:=hp;exact⟨rfl,rfl⟩
         have:=sw c g.n i (mM g) (kg a g.r) g.p hi j hj hv2 a.W h.W (m0::l0) hl (by rw[←hl];exact h8) (by rw[←hl];exact hlen) o m l2 ht bs 5 (.inl rfl) (.inr (ni hr));rw[sT h5 hat hto]at this;exact mh this λv H hp=>⟨_,⟨hp.1,rfl⟩,hp.2⟩
        |some s=>
         obtain⟨hs,hid,hso⟩:=(h.at' j hj).run s hr;have hrep:=(h.at' j hj).reps;unfold Slot.reps at hrep;rw[hr,aj]at hrep;simp only at hrep;have W2:(a.W.set (bw ((i:Nat):Int) ((j:Nat):Int)) l2).length=25:=by rw[lj];exact h.W
         refine mh (Fi h.ms hj hr (R:=λv s' W'=>(s.e.D.dn=true∧v= .int .i64 0∧s'=s∧W'=a.W.set (bw ((i:Nat):Int) ((j:Nat):Int)) l2)∨(s.e.D.dn=false∧(eB (bS m)).2≠0∧v= .int .i64 (eB (bS m)).2∧s'=s∧W'=a.W.set (bw ((i:Nat):Int) ((j:Nat):Int)) l2)∨(s.e.D.dn=false∧(eB (bS m)).2=0∧v= .int .i64 0∧s'=(gI KD s ((i:Nat):Int) (eB (bS m)).1).hush∧W'=iu (a.W.set (bw ((i:Nat):Int) ((j:Nat):Int)) l2) j (gI KD s ((i:Nat):Int) (eB (bS m)).1).o)) λg em=>?_) λv H hp=>?_
         · refine Leg.Does.ex (A':=λbs:List Nat=>[an g.n (dF bs) 110,eY 160 5 bs (cO a.W),an c (e8 g.n (mM g) (kg a g.r) g.p) 71,dk (g.d j) s.e.D,gl s (g.d j) (g.r j)]) (λhh q=>fL (aE [2,0,0,0] rfl q)) λbs=>?_
           have:=zY c g.n i (mM g) (kg a g.r) g.p hi j hj hv2 a.W h.W (m0::l0) hl (by rw[←hl];exact h8) (by rw[←hl];exact hlen) o m l2 ht bs (g.d j) (g.r j) s rfl em hso hs (by rw[hid];exact hij) (by omega);rw[sT h5 hat hto]at this;refine mh this λv H hp=>?_
           rcases hp with⟨hd,rfl,rfl⟩| ⟨hd,h1,rfl,rfl⟩| ⟨hd,h1,rfl,rfl⟩
           · exact⟨_,_, .inl ⟨hd,rfl,rfl,rfl⟩,rfl⟩
           · exact⟨_,_, .inr (.inl ⟨hd,h1,rfl,rfl,rfl⟩),rfl⟩
           · exact⟨_,_, .inr (.inr ⟨hd,h1,rfl,rfl,rfl⟩),rfl⟩
         · obtain⟨a',⟨s',W',hR,rfl⟩,rfl⟩:=hp
           have er: ∀W',CL.mk (a.ms.set j {a.at' j with run:=some s}) W'=CL.mk a.ms W':=λW'=>by
            have:=congrArg CL.ms (wK h hj hr);rw[show a.ms.set j {a.at' j with run:=some s}=a.ms from this]
           unfold tl;rw[ew,hr];rcases hR with⟨hd,rfl,rfl,rfl⟩| ⟨hd,h1,rfl,rfl,rfl⟩| ⟨hd,h1,rfl,rfl,rfl⟩
           · simp only[hd,if_true];exact⟨by first|rfl|trivial,by rw[er];rfl⟩
           · simp only[hd,if_neg h1];exact⟨by first|rfl|trivial,by rw[er];rfl⟩
           · simp only[hd,if_pos h1];exact⟨by first|rfl|trivial,rfl⟩
end
theorem Ff(c:Nat)(X:HP)(o:OpT)(hm:iX o.at'=false):
 DT 9 #[(.pointer (some ⟨c,0,none⟩)),(.agg (ints o.flat).toArray)] T0 [X] (RI (.int .i64 5) [X]):=by
 refine BD 114 Tryz.func9 rfl rfl rfl λw0 F hF=>sr λ_ J1=>XY (ints o.flat) λb3=>?_
 refine PS ?_;refine nx J1 (aa λ_ J2=>sr λ_ J3=>PS ?_);refine FA 1 fT aQ ?_;refine LU 0 Y3 (bM o rfl) ?_;refine CE qT (wV c o.at') ID ?_;rw[hm];refine PS ?_;refine nx J3 (CY (sr λ_ J4=>PS ?_));exact nx J4 (ak (ae (WK [1] (aw rfl rfl ⟨rfl,rfl⟩))))
theorem E7(c i:Nat)(hi:i<5)(X:HP)(o:OpT)(k:Int)(hk:k=5∨k=6∨k=7)(p:Int→HP→Prop)(hw:DT 28 #[(.pointer (some ⟨c,0,none⟩)),(.agg (ints (OpT.mk k ((i:Nat):Int) o.to' o.key o.n o.change o.mask o.torn o.cut).flat).toArray)] T0 [X] (dL (λv H=>∃e X',v= .int .i64 e∧H=[X']∧p e X'))):
 DT 9 #[(.pointer (some ⟨c,0,none⟩)),(.agg (ints (OpT.mk k ((i:Nat):Int) o.to' o.key o.n o.change o.mask o.torn o.cut).flat).toArray)] T0 [X] (dL (λv H=>∃e X',v= .int .i64 e∧H=[X']∧p e X')):=by
 refine BD 114 Tryz.func9 rfl rfl rfl λw0 F hF=>sr λ_ J1=>XY (ints (OpT.mk k ((i:Nat):Int) o.to' o.key o.n o.change o.mask o.torn o.cut).flat) λb3=>?_
 refine PS ?_;refine nx J1 (aa λ_ J2=>sr λ_ J3=>PS ?_);refine FA 1 fT aQ ?_;refine LT 0 Y3 (.int .i64 (((i:Nat):Int))) ?_ (hc:=by exact bM _ rfl);refine CE qT (eH c i hi) ID ?_;refine PS ?_;refine nx J3 (CN (qx J2 (aa λ_ J4=>sr λ_ J5=>FA 0 fT aQ ?_)));refine LT 0 Y3 (.int .i64 (k)) ?_ (hc:=by exact c7 _ rfl);refine nx J5 (av (aa λ_ J6=>sr λ_ J7=>P2 ?_));refine aq ?_ ?_<;>intro h12
 · exact absurd h12 (by omega)
 refine nx J7 (CN (sr λ_ J8=>P2 ?_));refine aq ?_ ?_<;>intro h12
 · exact absurd h12 (by omega)
 refine nx J8 (CN (sr λ_ J9=>P2 ?_));refine aq ?_ ?_<;>intro h12
 · exact absurd h12 (by omega)
 refine nx J9 (CN (sr λ_ J10=>P2 ?_));refine aq ?_ ?_<;>intro h12
 · exact absurd h12 (by omega)
 refine nx J10 (CN (ag (PS ?_)));refine aq ?_ ?_<;>intro h17
 · exact absurd h17 (by omega)
 refine PS ?_;refine nx J6 (CN (aa λ_ J11=>fo (α:=Unit) (λ_u=>True) (λ_u=>[(0,(.pointer (some ⟨c,0,none⟩))),(3,(.pointer (some ⟨b3,0,none⟩))),(4,(.int .i64 0)),(11,(.int .i64 (k))),(37,(.bool true))]) (λ_u=>[an b3 (ints (OpT.mk k ((i:Nat):Int) o.to' o.key o.n o.change o.mask o.torn o.cut).flat) 35,X]) (λ_u hinv=>?_) (λtl11=>?_)));have _:=hinv;refine af J11 (CY (sr λ_ J12=>PS ?_));refine LW 0 fT BM pR ?_;refine CR PF (hw) (SM [1]) λvR HR hR=>?_
 obtain⟨e,X',rfl,rfl,hp⟩:=hR;refine PS ?_;exact nx J12 (ak (aI (ae (WK [0] (aw rfl rfl ⟨e,X',rfl,rfl,hp⟩)))));refine sr λ_ J13=>P2 ?_
 refine aq ?_ ?_<;>intro h37;refine nx J13 (CY (aT ?_))
 exact aG
  SB
  (λ_ s=>ao [0,0] rfl s)
  (tl11 (():Unit) trivial)
 refine nx J13 (CN (sr λ_ J14=>P2 ?_));refine aq ?_ ?_<;>intro h37;refine nx J14 (CY (aT ?_))
 exact aG
  SB
  (λ_ s=>ao [0,0] rfl s)
  (tl11 (():Unit) trivial)
 refine nx J14 (CN (ag (PS ?_)));refine aq ?_ ?_<;>intro h40;refine PS ?_;refine ax ?_
 exact aG
  SB
  (λ_ s=>ao [0,0] rfl s)
  (tl11 (():Unit) trivial)
 · exact absurd h40 (by omega)
theorem Dg(c i:Nat)(hi:i<5)(X:HP)(o:OpT)(k:Int)(hk:k<0∨11<k):
 DT 9 #[(.pointer (some ⟨c,0,none⟩)),(.agg (ints (OpT.mk k ((i:Nat):Int) o.to' o.key o.n o.change o.mask o.torn o.cut).flat).toArray)] T0 [X] (RI (.int .i64 5) [X]):=by
 refine BD 114 Tryz.func9 rfl rfl rfl λw0 F hF=>sr λ_ J1=>XY (ints (OpT.mk k ((i:Nat):Int) o.to' o.key o.n o.change o.mask o.torn o.cut).flat) λb3=>?_
 refine PS ?_;refine nx J1 (aa λ_ J2=>sr λ_ J3=>PS ?_);refine FA 1 fT aQ ?_;refine LT 0 Y3 (.int .i64 (((i:Nat):Int))) ?_ (hc:=by exact bM _ rfl);refine CE qT (eH c i hi) ID ?_;refine PS ?_;refine nx J3 (CN (qx J2 (aa λ_ J4=>sr λ_ J5=>FA 0 fT aQ ?_)));refine LT 0 Y3 (.int .i64 (k)) ?_ (hc:=by exact c7 _ rfl);refine nx J5 (av (aa λ_ J6=>sr λ_ J7=>P2 ?_));refine aq ?_ ?_<;>intro h12
 · exact absurd h12 (by omega)
 refine nx J7 (CN (sr λ_ J8=>P2 ?_));refine aq ?_ ?_<;>intro h12
 · exact absurd h12 (by omega)
 refine nx J8 (CN (sr λ_ J9=>P2 ?_));refine aq ?_ ?_<;>intro h12
 · exact absurd h12 (by omega)
 refine nx J9 (CN (sr λ_ J10=>P2 ?_));refine aq ?_ ?_<;>intro h12
 · exact absurd h12 (by omega)
 refine nx J10 (CN (ag (PS ?_)));refine aq ?_ ?_<;>intro h17
 · exact absurd h17 (by omega)
 refine PS ?_;refine nx J6 (CN (aa λ_ J11=>sr λ_ J12=>P2 ?_));refine aq ?_ ?_<;>intro h37
 · exact absurd h37 (by omega)
 refine nx J12 (CN (sr λ_ J13=>P2 ?_));refine aq ?_ ?_<;>intro h37
 · exact absurd h37 (by omega)
 refine nx J13 (CN (ag (PS ?_)));refine aq ?_ ?_<;>intro h40
 · exact absurd h40 (by omega)
 refine PS ?_;refine nx J11 (CN (sr λ_ J14=>PS ?_));refine aq ?_ ?_<;>intro h45
 · exact absurd h45 (by omega)
 refine PS ?_;refine nx J14 (CN (sr λ_ J15=>PS ?_));refine aq ?_ ?_<;>intro h65
 · exact absurd h65 (by omega)
 refine PS ?_;refine nx J15 (CN (sr λ_ J16=>PS ?_));refine aq ?_ ?_<;>intro h77
 · exact absurd h77 (by omega)
 refine PS ?_;refine nx J16 (CN (sr λ_ J17=>PS ?_));refine aq ?_ ?_<;>intro h109
 · exact absurd h109 (by omega)
 refine PS ?_;refine nx J17 (CN (sr λ_ J18=>PS ?_));exact nx J18 (ak (aI (ae (WK [1] (aw rfl rfl ⟨rfl,rfl⟩)))))
section
variable {n c:Nat} {a:CL} {o:OpT}
theorem ti(h:CLOk n a)(hn:n≤100000)(ho:OkOp o):DT 9 #[.pointer (some ⟨c,0,none⟩), .agg (ints o.flat).toArray] T0 [fS c a] (dL λv H=>v= .int .i64 (vn a o).2∧H=[fS c (vn a o).1]):=by
 unfold vn
 by_cases hm:iX o.at'=false
 · rw[if_pos hm]
   exact Ff c (fS c a) o hm
 · rw[if_neg hm]
   have hm:iX o.at'=true:=by simpa using hm
   obtain⟨hi,hat⟩:=kf hm
   by_cases h1:0≤o.kind∧o.kind≤4
   · rw[if_pos h1];exact Ju h hn hi hat.symm h1 ho
   rw[if_neg h1]
   by_cases h2:o.kind=5∨o.kind=6∨o.kind=7
   · rw[if_pos h2]
     have:=E7 c _ hi (fS c a) o o.kind h2 (λe X=>e=(oO a o).2∧X=fS c (oO a o).1) (by
      rw[o8 rfl hat.symm]
      exact mh (Gv h hn hi hat.symm h2) λv H hp=>⟨_,_,hp.1,hp.2,rfl,rfl⟩)
     rw[o8 rfl hat.symm]at this
     exact mh this λv H hp=>by
      obtain⟨e,X,rfl,rfl,rfl,rfl⟩:=hp;exact⟨rfl,rfl⟩
   rw[if_neg h2]
   by_cases h3:o.kind=8
   · rw[if_pos h3];exact Ik h hi hat.symm h3
   rw[if_neg h3]
   by_cases h4:o.kind=9
   · rw[if_pos h4];exact JE h hi hat.symm h4
   rw[if_neg h4]
   by_cases h5:o.kind=10
   · rw[if_pos h5];exact Fk h hn hi hat.symm h5
   rw[if_neg h5]
   by_cases h6:o.kind=11
   · rw[if_pos h6];exact B1 h hi hat.symm h6
   rw[if_neg h6];have:=Dg c _ hi (fS c a) o o.kind (by omega);rw[o8 rfl hat.symm]at this;exact this
end
end Go.Proofs.YtmcjhkbcmmddgaaGreat
end
