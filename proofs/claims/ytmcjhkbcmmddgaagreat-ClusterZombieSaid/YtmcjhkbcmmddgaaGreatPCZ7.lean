/-
  Joined texts:what a statement's proof reaches.
-/
import Derived.Test.YtmcjhkbcmmddgaaGreatPCZ6
set_option maxHeartbeats 8000000
set_option maxRecDepth 100000
set_option linter.unusedSimpArgs false
set_option linter.unusedVariables false
section
namespace Go.Proofs.YtmcjhkbcmmddgaaGreat
open Go Leg Codec Api Dsk Wal
theorem qR{δ:Type}(V:Env δ)(r:Nat)(s:MS δ)(c:ChangeT)[OkR V.toDk s][OkCh c]:
 DT 70 #[(.pointer (some ⟨r,0,none⟩)),(.agg (ints c.flat).toArray)] T0 [cJ V r s] (RI (.int .i64 (bF V.toDk s c).2) [cJ V r (bF V.toDk s c).1]):=by
 refine BD 66 Tryz.func70 rfl rfl rfl λw0 F hF=>sr λ_ J1=>XY (ints c.flat) λb3=>?_
 refine PS ?_;refine nx J1 (aa λ_ J2=>fB (α:=(Nat)) (λb5=>True) (λb5=>[(0,(.pointer (some ⟨r,0,none⟩))),(3,(.pointer (some ⟨b3,0,none⟩))),(4,(.int .i64 0)),(5,(.pointer (some ⟨b5,0,none⟩)))]) (λb5=>[cJ V r s,ah b3 (ints c.flat) 33,ah b5 (ints (cR s).flat) 87]) (λb5 hinv=>?_) (λtl2=>?_));have _:=hinv;refine ac J2 (aa λ_ J3=>fB (α:=(Nat)) (λb6=>True) (λb6=>[(0,(.pointer (some ⟨r,0,none⟩))),(3,(.pointer (some ⟨b3,0,none⟩))),(4,(.int .i64 0)),(5,(.pointer (some ⟨b5,0,none⟩))),(6,(.pointer (some ⟨b6,0,none⟩))),(7,(.bool ((bS s.acc s.view.epoch (cR s)).2)))]) (λb6=>[cJ V r s,ah b3 (ints c.flat) 33,ah b5 (ints (cR s).flat) 87,ah b6 (ints ((bS s.acc s.view.epoch (cR s)).1).flat) 89]) (λb6 hinv=>?_) (λtl3=>?_));have _:=hinv;refine ac J3 (aa λ_ J4=>sr λ_ J5=>PS ?_);refine bb ?_ ?_<;>intro h33;refine PS ?_;refine nx J5 (CN (qx J4 (aa λ_ J6=>aa λ_ J7=>DC bl (cY 0 rfl rfl) (BL 2) ?_)));refine PD 0 ?_;refine PD 1 ?_;refine PD 2 ?_;refine FD 3 2 dq bi ?_;refine FD 4 2 e6 aP ?_;refine ta 5 rfl (dz (v:=(.int .i64 (s.view.epoch))) rfl Y3 rfl rfl (λ_ h=>h.2.1) (λa_=>(cg (s.rep a_) 0 rfl (by decide) (aY _ rfl)))) ?_;refine LY 6 kO cA ao ?_;refine ta 7 rfl (kJ RecT.zero (RecT.mk 3 0 RowT.zero s.view.epoch (cR s) ChangeT.zero ViewT.zero) [(0,[Value.int .i64 3]),(3,[Value.int .i64 s.view.epoch]),(4,ints (cR s).flat)] eC fC (g:=RecT.sg)) ?_;refine AL 8 ?_
 refine CE Fq (lM V r s (fW s.view.epoch (cR s))) ID ?_;refine EN (PD 9 ?_);refine DN (ac J7 (sr λ_ J8=>P2 ?_));refine ap ?_ ?_<;>intro h45;refine nx J8 (CY (sr λ_ J9=>P2 ?_));refine nx J9 (aj (ae (WK [0] (av rfl rfl ?_))));have e:bF V.toDk s c=(dL V.toDk s (fW s.view.epoch (cR s)),l7 V.toDk s (fW s.view.epoch (cR s))):=by rw[bF,if_neg (by rw[h33];decide),if_pos h45]
 exact kf e;refine G9 (H':=λvo:Value=>wt V r (dL V.toDk s (fW s.view.epoch (cR s))) vo::[ah b3 (ints c.flat) 33,ah b5 (ints (cR s).flat) 87,ah b6 (ints ((bS s.acc s.view.epoch (cR s)).1).flat) 89]) (λ_ q=>GP q) (λvo=>nx J8 (CN (qx J6 (aa λ_ J10=>D2 3 2 bl ?_))));refine PD 0 ?_;refine PD 1 ?_;refine LY 2 qc gg ba ?_;refine FD 3 0 kO aP ?_;refine LX 4 Y3 (.int .i64 ((cR s).round)) ?_ (hc:=by exact fF _ rfl);refine PD 5 ?_;refine FD 6 1058 dq gg ?_;refine AL 7 ?_;refine iw (vs:=ints ((bS s.acc s.view.epoch (cR s)).1).flat) (i:=0) (ab rfl) rfl rfl rfl rfl rfl (by rw[(ba ((bS s.acc s.view.epoch (cR s)).1))];exact gg) (bA _) rfl rfl (λ_=>LC (cX _) (ba _)) (λa_=>(k8 ((dL V.toDk s (fW s.view.epoch (cR s))).rep ⟨(a_:Nat×Value).1,vo,a_.2⟩) 0 rfl (by have h1:=(ba ((bS s.acc s.view.epoch (cR s)).1));omega) (ct ((ba (((dL V.toDk s (fW s.view.epoch (cR s))).rep ⟨(a_:Nat×Value).1,vo,a_.2⟩).acc)).trans (ba ((bS s.acc s.view.epoch (cR s)).1)).symm)))) (EN (PD 8 ?_));refine FD 9 1066 dq aP ?_;refine AL 10 ?_;refine SK 0 aP (λ_=>cX _) ?_ (hc:=by exact λa_=>(mn _ rfl _));refine EN (DN (ac J10 (aa λ_ J11=>D2 2 1 bl ?_)));refine PD 0 ?_;refine PD 1 ?_;refine PD 2 ?_;refine FD 3 2 dq bi ?_;refine LY 5 kO cA ao ?_;refine LY 6 nP gf aK ?_;refine AL 4 ?_;refine LZ 0 e6 bi am s.view ?_ (hc:=by exact λ_=>cW _);refine EN (AL 7 ?_);refine CR Pk (AJ s.view (cR s) c) ID λvR HR hR=>?_
 obtain⟨vb,rfl,rfl⟩:=hR;refine EN (PD 8 ?_);refine FD 9 1067 dq nw ?_;refine AL 10 ?_;refine SK 1 nw (λ_=>cX _) ?_ (hc:=by exact λa_=>(Q6 _ rfl _));refine EN (DN (ac J11 (sr λ_ J12=>PS ?_)));refine nx J12 (aj (aF (H':=[cJ V r (mG V.toDk s c)]) (dV _) (λ_ q=>oQ (ak [1,0] rfl q)) (av rfl rfl ?_)));have e:bF V.toDk s c=(mG V.toDk s c,0):=by rw[bF,if_neg (by rw[h33];decide),if_neg h45]
 exact kf e;refine PS ?_;refine nx J5 (CY (sr λ_ J13=>PS ?_));refine nx J13 (aj (ae (WK [0] (av rfl rfl ?_))));have e:bF V.toDk s c=(s,6):=if_pos h33;exact kf e;refine DC bl (cY 0 rfl rfl) (BL 2) ?_;refine PD 0 ?_;refine PD 1 ?_;refine FD 2 1058 dq gg ?_;refine ta 3 rfl (gI (vs:=ints s.acc.flat) rfl qc rfl gg rfl (λ_ h=>h.2.1) (ba s.acc) (λa_=>(yS (s.rep a_) 0 rfl (by decide) (bo (ba ((s.rep a_).acc)))))) ?_;refine PD 4 ?_;refine PD 5 ?_;refine FD 6 2 dq bi ?_;refine FD 7 2 e6 aP ?_;refine ta 8 rfl (dz (v:=(.int .i64 (s.view.epoch))) rfl Y3 rfl rfl (λ_ h=>h.2.1) (λa_=>(cg (s.rep a_) 0 rfl (by decide) (aY _ rfl)))) ?_;refine LY 9 kO cA ao ?_;refine cT [10,14] (by kernel_rfl) rfl (aG rfl ?_ ?_);refine CE GM (oh s.acc s.view.epoch (cR s)) ID ?_;refine EN (PD 11 ?_);refine PD 12 ?_;refine PD 13 ?_;refine sA ?_ ?_<;>intro h32;refine AL 14 ?_;refine XZ I4 (ints AccT.zero.flat) λb6=>?_
 refine EN (AL 15 ?_);refine SW 0 gg ba ?_;refine EN (PD 16 ?_);refine DN ?_
 exact aF
  (aT (aT (aT (aT (aT (bE rfl (by rw[h32]) SB))))))
  (λ_ s=>ak [1,1,1,0] rfl s)
  (tl3 ((b6):(Nat)) trivial)
 refine AL 14 ?_;refine XZ I4 (ints AccT.zero.flat) λb6=>?_
 refine EN (AL 15 ?_);refine SW 0 gg ba ?_;refine EN (PD 16 ?_);refine DN ?_
 exact aF
  (aT (aT (aT (aT (aT (bE rfl (by rw[h32]) SB))))))
  (λ_ s=>ak [1,1,1,0] rfl s)
  (tl3 ((b6):(Nat)) trivial)
 refine aG rfl ?_ ?_;refine XZ I4 (ints AccT.zero.flat) λb6=>?_
 refine EN (AL 10 ?_);refine CE GM (oh s.acc s.view.epoch (cR s)) ID ?_;refine EN (PD 11 ?_);refine PD 12 ?_;refine PD 13 ?_;refine sA ?_ ?_<;>intro h32;refine AL 15 ?_;refine SW 0 gg ba ?_;refine EN (PD 16 ?_);refine DN ?_
 exact aF
  (aT (aT (aT (aT (aT (bE rfl (by rw[h32]) SB))))))
  (λ_ s=>ak [1,1,1,0] rfl s)
  (tl3 ((b6):(Nat)) trivial)
 refine AL 15 ?_;refine SW 0 gg ba ?_;refine EN (PD 16 ?_);refine DN ?_
 exact aF
  (aT (aT (aT (aT (aT (bE rfl (by rw[h32]) SB))))))
  (λ_ s=>ak [1,1,1,0] rfl s)
  (tl3 ((b6):(Nat)) trivial)
 exact bJ;refine DB bl (cY 1 rfl rfl) ?_;refine PD 0 ?_;refine PD 1 ?_;refine FD 2 1066 dq aP ?_;refine ta 3 rfl (dz (v:=(.int .i64 (s.round))) rfl Y3 rfl rfl (λ_ h=>h.2.1) (λa_=>(vZ _ rfl))) ?_;refine ta 4 rfl (cB (r:=(fx (s.round+1))) rfl rfl rfl rfl) ?_;refine PD 5 ?_;refine PD 6 ?_;refine FD 7 0 dq aP ?_;refine ta 8 rfl (dz (v:=(.int .i64 (s.id))) rfl Y3 rfl rfl (λ_ h=>h.2.1) (λa_=>(cH _ rfl))) ?_;refine ta 9 rfl (kJ BallotT.zero (BallotT.mk (fx (s.round+1)) s.id) [(0,[Value.int .i64 (fx (s.round+1))]),(1,[Value.int .i64 s.id])] kO PR (g:=BallotT.sg)) ?_;refine AL 10 ?_;refine XZ PW (ints BallotT.zero.flat) λb5=>?_
 refine EN (AL 11 ?_);refine SW 0 cA ao ?_;refine EN (DN ?_)
 exact aF
  SB
  (λ_ s=>ak [2,1,0] rfl s)
  (tl2 ((b5):(Nat)) trivial)
theorem BO{δ:Type}(V:Env δ)(r:Nat)(s:MS δ)(op:Int)(c:ChangeT)[OkR V.toDk s][OkCh c](hrs:s.replies.length≤1000000)(hv:s.vote=none):
 DT 52 #[(.pointer (some ⟨r,0,none⟩)),(.iface V.T V.ov),(.int .i64 (op)),(.agg (ints c.flat).toArray)] T0 [cJ V r s] (RI (.int .i64 (dm V.toDk s op c).2) [cJ V r (dm V.toDk s op c).1]):=by
 refine BD 44 Tryz.func52 rfl rfl rfl λw0 F hF=>sr λ_ J1=>XY (ints c.flat) λb7=>?_
 refine PS ?_;refine nx J1 (aa λ_ J2=>fB (α:=Unit) (λ_u=>True) (λ_u=>[(0,(.pointer (some ⟨r,0,none⟩))),(1,(.iface V.T V.ov)),(2,(.int .i64 (op))),(7,(.pointer (some ⟨b7,0,none⟩))),(8,(.int .i64 0)),(10,(.int .i64 ((dF s.view c).2)))]) (λ_u=>[cJ V r s,ah b7 (ints c.flat) 33]) (λ_u hinv=>?_) (λtl2=>?_));have _:=hinv;refine ac J2 (aa λ_ J3=>sr λ_ J4=>cr (H':=wt V r s (.pointer none)::[ah b7 (ints c.flat) 33]) (λ_ q=>tx hv q) (P2 ?_));refine ap ?_ ?_<;>intro h21;refine P3 ?_;refine FA 1067 dq nw ?_;refine LG 0 p6 (.pointer none) ?_ (hc:=by exact λa_=>(bX _ rfl));refine tq (gQ rfl p6 rfl rfl) ?_;refine PS ?_;refine nx J4 (CN (qx J3 (aa λ_ J5=>sr λ_ J6=>cr (H':=cJ V r s::[ah b7 (ints c.flat) 33]) (λ_ q=>oS hv (az [0] rfl q)) (P2 ?_))));refine ap ?_ ?_<;>intro h30;refine nx J6 (CY (ad (PS ?_)));refine LW 1 nP gf aK ?_;refine CE Nx (qR V r s c) ID ?_;refine PS ?_;refine nx J5 (sr λ_ J7=>P3 ?_);refine CZ uI (fq V r ((bF V.toDk s c).1) op ((bF V.toDk s c).2) 0 (by first|exact hrs| (rw[jm];exact hrs))) ID λvR=>?_
 refine nx J7 (aa λ_ J8=>sr λ_ J9=>P2 ?_);refine ap ?_ ?_<;>intro h39;refine nx J9 (CY (ad (P2 ?_)));refine CZ LN (rY V r (dp ((bF V.toDk s c).1) op ((bF V.toDk s c).2) 0) (jr s.view (cR s) c) (sx h39)) ID λvR=>?_
 refine nx J8 (sr λ_ J10=>P2 ?_);refine nx J10 (aj (WK [0] (av rfl rfl ?_)));have e:dm V.toDk s op c=((lw V.toDk (dp ((bF V.toDk s c).1) op ((bF V.toDk s c).2) 0) (jr s.view (cR s) c)),(bF V.toDk s c).2):=by rw[dm,show fw s c=(dF s.view c).2 by rw[fw,if_neg (λh=>by rw[hv]at h;exact absurd h.2 (by decide))],if_neg (by rw[h30];decide),if_neg (by rw[h39];decide),h39]
 exact kf e;refine nx J9 (CN (qx J8 (sr λ_ J11=>P2 ?_)));refine nx J11 (aj (WK [0] (av rfl rfl ?_)));have e:dm V.toDk s op c=((dp ((bF V.toDk s c).1) op ((bF V.toDk s c).2) 0),(bF V.toDk s c).2):=by rw[dm,show fw s c=(dF s.view c).2 by rw[fw,if_neg (λh=>by rw[hv]at h;exact absurd h.2 (by decide))],if_neg (by rw[h30];decide),if_pos h39]
 exact kf e;refine nx J6 (CN (qx J5 (sr λ_ J12=>P3 ?_)));refine CZ uI (fq V r s op ((dF s.view c).2) 0 (by first|exact hrs| (rw[jm];exact hrs))) ID λvR=>?_
 refine nx J12 (aa λ_ J13=>sr λ_ J14=>P2 ?_);refine ap ?_ ?_<;>intro h39
 · exact absurd h39 h30
 refine nx J14 (CN (qx J13 (sr λ_ J15=>P2 ?_)));refine nx J15 (aj (WK [0] (av rfl rfl ?_)));have e:dm V.toDk s op c=((dp s op ((dF s.view c).2) 0),(dF s.view c).2):=by rw[dm,show fw s c=(dF s.view c).2 by rw[fw,if_neg (λh=>h30 h.1)]];exact if_pos (by exact h30)
 exact kf e;refine PS ?_
 iterate 5 refine UF ?_
 refine PS ?_;refine nx J4 (CN (qx J3 (aa λ_ J16=>sr λ_ J17=>cr (H':=cJ V r s::[ah b7 (ints c.flat) 33]) (λ_ q=>oS hv (az [0] rfl q)) (P2 ?_))));refine ap ?_ ?_<;>intro h30;refine nx J17 (CY (ad (PS ?_)));refine LW 1 nP gf aK ?_;refine CE Nx (qR V r s c) ID ?_;refine PS ?_;refine nx J16 (sr λ_ J18=>P3 ?_);refine CZ uI (fq V r ((bF V.toDk s c).1) op ((bF V.toDk s c).2) 0 (by first|exact hrs| (rw[jm];exact hrs))) ID λvR=>?_
 refine nx J18 (aa λ_ J19=>sr λ_ J20=>P2 ?_);refine ap ?_ ?_<;>intro h39;refine nx J20 (CY (ad (P2 ?_)));refine CZ LN (rY V r (dp ((bF V.toDk s c).1) op ((bF V.toDk s c).2) 0) (jr s.view (cR s) c) (sx h39)) ID λvR=>?_
 refine nx J19 (sr λ_ J21=>P2 ?_);refine nx J21 (aj (WK [0] (av rfl rfl ?_)));have e:dm V.toDk s op c=((lw V.toDk (dp ((bF V.toDk s c).1) op ((bF V.toDk s c).2) 0) (jr s.view (cR s) c)),(bF V.toDk s c).2):=by rw[dm,show fw s c=(dF s.view c).2 by rw[fw,if_neg (λh=>by rw[hv]at h;exact absurd h.2 (by decide))],if_neg (by rw[h30];decide),if_neg (by rw[h39];decide),h39]
 exact kf e;refine nx J20 (CN (qx J19 (sr λ_ J22=>P2 ?_)));refine nx J22 (aj (WK [0] (av rfl rfl ?_)));have e:dm V.toDk s op c=((dp ((bF V.toDk s c).1) op ((bF V.toDk s c).2) 0),(bF V.toDk s c).2):=by rw[dm,show fw s c=(dF s.view c).2 by rw[fw,if_neg (λh=>by rw[hv]at h;exact absurd h.2 (by decide))],if_neg (by rw[h30];decide),if_pos h39]
 exact kf e;refine nx J17 (CN (qx J16 (sr λ_ J23=>P3 ?_)));refine CZ uI (fq V r s op ((dF s.view c).2) 0 (by first|exact hrs| (rw[jm];exact hrs))) ID λvR=>?_
 refine nx J23 (aa λ_ J24=>sr λ_ J25=>P2 ?_);refine ap ?_ ?_<;>intro h39
 · exact absurd h39 h30
 refine nx J25 (CN (qx J24 (sr λ_ J26=>P2 ?_)));refine nx J26 (aj (WK [0] (av rfl rfl ?_)));have e:dm V.toDk s op c=((dp s op ((dF s.view c).2) 0),(dF s.view c).2):=by rw[dm,show fw s c=(dF s.view c).2 by rw[fw,if_neg (λh=>h30 h.1)]];exact if_pos (by exact h30)
 exact kf e;refine DC bl (cY 1 rfl rfl) (BL 0) ?_;refine PD 0 ?_;refine PD 1 ?_;refine FD 2 2 dq bi ?_;refine ta 3 rfl (gI (vs:=ints s.view.flat) rfl e6 rfl bi rfl (λ_ h=>h.2.1) (am s.view) (λa_=>(gB (s.rep a_) 0 rfl (by decide) (bo (am ((s.rep a_).view)))))) ?_;refine LY 4 nP gf aK ?_;refine cT [5,9] (by kernel_rfl) rfl (aG rfl ?_ ?_);refine CE nG (dE s.view c OkVw.rng) ID ?_;refine EN (PD 6 ?_);refine PD 7 ?_;refine PD 8 ?_;refine AL 9 ?_;refine XZ rN (ints ViewT.zero.flat) λb9=>?_
 refine EN (AL 10 ?_);refine SW 0 bi am ?_;refine EN (PD 11 ?_);refine DN ?_
 exact aF
  SB
  (λ_ s=>ak [2,1] rfl s)
  (tl2 (():Unit) trivial)
 refine aG rfl ?_ ?_;refine XZ rN (ints ViewT.zero.flat) λb9=>?_
 refine EN (AL 5 ?_);refine CE nG (dE s.view c OkVw.rng) ID ?_;refine EN (PD 6 ?_);refine PD 7 ?_;refine PD 8 ?_;refine AL 10 ?_;refine SW 0 bi am ?_;refine EN (PD 11 ?_);refine DN ?_
 exact aF
  SB
  (λ_ s=>ak [2,1] rfl s)
  (tl2 (():Unit) trivial)
 exact bJ
theorem BN{δ:Type}(V:Env δ)(r:Nat)(s:MS δ)(vt:VoteT)(op:Int)(c:ChangeT)[OkR V.toDk s][OkCh c](hrs:s.replies.length≤1000000)(hv:s.vote=some vt):
 DT 52 #[(.pointer (some ⟨r,0,none⟩)),(.iface V.T V.ov),(.int .i64 (op)),(.agg (ints c.flat).toArray)] T0 [cJ V r s] (RI (.int .i64 (dm V.toDk s op c).2) [cJ V r (dm V.toDk s op c).1]):=by
 refine BD 44 Tryz.func52 rfl rfl rfl λw0 F hF=>sr λ_ J1=>XY (ints c.flat) λb7=>?_
 refine PS ?_;refine nx J1 (aa λ_ J2=>fB (α:=Unit) (λ_u=>True) (λ_u=>[(0,(.pointer (some ⟨r,0,none⟩))),(1,(.iface V.T V.ov)),(2,(.int .i64 (op))),(7,(.pointer (some ⟨b7,0,none⟩))),(8,(.int .i64 0)),(10,(.int .i64 ((dF s.view c).2)))]) (λ_u=>[cJ V r s,ah b7 (ints c.flat) 33]) (λ_u hinv=>?_) (λtl2=>?_));have _:=hinv;refine ac J2 (aa λ_ J3=>sr λ_ J4=>G9 (H':=λvb:Nat=>wt V r s (.pointer (some ⟨vb,0,none⟩))::ah vb (VoteT.cells vt) 187::[ah b7 (ints c.flat) 33]) (λ_ q=>nI hv q) (λvb=>P2 ?_));refine ap ?_ ?_<;>intro h21;refine P3 ?_;refine FA 1067 dq nw ?_;refine LG 0 p6 (.pointer (some ⟨vb,0,none⟩)) ?_ (hc:=by exact λa_=>(bX _ rfl));refine tq (gH rfl p6 rfl rfl) ?_;refine PS ?_;refine nx J4 (CY (ad (cr (H':=cJ V r s::[ah b7 (ints c.flat) 33]) (λ_ q=>oR hv (az [0,0] rfl q)) (PS ?_))));refine nx J3 (aa λ_ J5=>sr λ_ J6=>P2 ?_);refine nx J6 (CN (qx J5 (sr λ_ J7=>P3 ?_)));refine CZ uI (fq V r s op 8 0 (by first|exact hrs| (rw[jm];exact hrs))) ID λvR=>?_
 refine nx J7 (aa λ_ J8=>sr λ_ J9=>P2 ?_);refine nx J9 (CN (qx J8 (sr λ_ J10=>P2 ?_)));refine nx J10 (aj (WK [0] (av rfl rfl ?_)));have e:dm V.toDk s op c=((dp s op 8 0),8):=by rw[dm,show fw s c=8 by rw[fw,if_pos ⟨h21,by rw[hv];rfl⟩]];exact if_pos (by decide)
 exact kf e;refine PS ?_
 iterate 5 refine UF ?_
 refine PS ?_;refine nx J4 (CN (qx J3 (aa λ_ J11=>sr λ_ J12=>cr (H':=cJ V r s::[ah b7 (ints c.flat) 33]) (λ_ q=>oR hv (az [0,0] rfl q)) (P2 ?_))));refine ap ?_ ?_<;>intro h30
 · exact absurd h30 (by first|decide|exact h21)
 refine nx J12 (CN (qx J11 (sr λ_ J13=>P3 ?_)));refine CZ uI (fq V r s op ((dF s.view c).2) 0 (by first|exact hrs| (rw[jm];exact hrs))) ID λvR=>?_
 refine nx J13 (aa λ_ J14=>sr λ_ J15=>P2 ?_);refine ap ?_ ?_<;>intro h39
 · exact absurd h39 (by first|decide|exact h30)
 refine nx J15 (CN (qx J14 (sr λ_ J16=>P2 ?_)));refine nx J16 (aj (WK [0] (av rfl rfl ?_)));have e:dm V.toDk s op c=((dp s op ((dF s.view c).2) 0),(dF s.view c).2):=by rw[dm,show fw s c=(dF s.view c).2 by rw[fw,if_neg (λh=>h30 h.1)]];exact if_pos (by exact h30)
 exact kf e;refine DC bl (cY 1 rfl rfl) (BL 0) ?_;refine PD 0 ?_;refine PD 1 ?_;refine FD 2 2 dq bi ?_;refine ta 3 rfl (gI (vs:=ints s.view.flat) rfl e6 rfl bi rfl (λ_ h=>h.2.1) (am s.view) (λa_=>(gB (s.rep a_) 0 rfl (by decide) (bo (am ((s.rep a_).view)))))) ?_;refine LY 4 nP gf aK ?_;refine cT [5,9] (by kernel_rfl) rfl (aG rfl ?_ ?_);refine CE nG (dE s.view c OkVw.rng) ID ?_;refine EN (PD 6 ?_);refine PD 7 ?_;refine PD 8 ?_;refine AL 9 ?_;refine XZ rN (ints ViewT.zero.flat) λb9=>?_
 refine EN (AL 10 ?_);refine SW 0 bi am ?_;refine EN (PD 11 ?_);refine DN ?_
 exact aF
  SB
  (λ_ s=>ak [2,1] rfl s)
  (tl2 (():Unit) trivial)
 refine aG rfl ?_ ?_;refine XZ rN (ints ViewT.zero.flat) λb9=>?_
 refine EN (AL 5 ?_);refine CE nG (dE s.view c OkVw.rng) ID ?_;refine EN (PD 6 ?_);refine PD 7 ?_;refine PD 8 ?_;refine AL 10 ?_;refine SW 0 bi am ?_;refine EN (PD 11 ?_);refine DN ?_
 exact aF
  SB
  (λ_ s=>ak [2,1] rfl s)
  (tl2 (():Unit) trivial)
 exact bJ
theorem BM{δ:Type}(V:Env δ)(r:Nat)(s:MS δ)(op:Int)(c:ChangeT)[OkR V.toDk s][OkCh c](hrs:s.replies.length≤1000000):DT 52 #[.pointer (some ⟨r,0,none⟩), .iface V.T V.ov, .int .i64 op, .agg (ints c.flat).toArray] T0 [cJ V r s] (RI (.int .i64 (dm V.toDk s op c).2) [cJ V r (dm V.toDk s op c).1]):=by
 cases hv:s.vote with
 |none=>exact BO V r s op c hrs hv
 |some vt=>exact BN V r s vt op c hrs hv
theorem xl{δ:Type}(V:Env δ)(r:Nat)(s:MS δ)(o:OpT):DT 53 #[.pointer (some ⟨r,0,none⟩), .agg (ints o.flat).toArray] T0 [cJ V r s] (RI (.tuple #[.agg (ints (cx s o).1.flat).toArray, .int .i64 (cx s o).2.1, .int .i64 (cx s o).2.2]) [cJ V r s]):=Leg.Does.hid (λa=>H5 r (s.rep a) o)
theorem BH{δ:Type}(V:Env δ)(r:Nat)(s:MS δ)(o:OpT)[OkR V.toDk s][OkCh o.change](hrs:s.replies.length≤1000000):
 DT 27 #[(.pointer (some ⟨r,0,none⟩)),(.iface V.T V.ov),(.agg (ints o.flat).toArray)] T0 [cJ V r s] (RI (.int .i64 (bv V.toDk s o).2) [cJ V r (bv V.toDk s o).1]):=by
 refine BD 74 Tryz.func27 rfl rfl rfl λw0 F hF=>sr λ_ J1=>XY (ints o.flat) λb5=>?_
 refine PS ?_;refine nx J1 (sr λ_ J2=>P2 ?_);refine FA 1941 dq aP ?_;refine LG 1 Y3 (.int .i64 (s.ops)) ?_ (hc:=by exact λa_=>(RepT.at_ops _ rfl));refine tp (cB (r:=(fx (s.ops+1))) rfl rfl rfl rfl) ?_;refine PS ?_;refine FA 1941 dq aP ?_;refine SK 1 aP (λ_=>cX _) ?_ (hc:=by exact λa_=>(RepT.set_ops _ rfl _));refine nx J2 (sr λ_ J3=>P2 ?_);refine FA 1941 dq aP ?_;refine LG 1 Y3 (.int .i64 ((opsS s).ops)) ?_ (hc:=by exact λa_=>(RepT.at_ops _ rfl));refine PS ?_;refine nx J3 (aa λ_ J4=>aa λ_ J5=>DC bl (cY 1 rfl rfl) (BL 0) ?_);refine PD 0 ?_;refine PD 1 ?_;refine FD 2 2 dq bi ?_;refine ta 3 rfl (gI (vs:=ints ((opsS s).view).flat) rfl e6 rfl bi rfl (λ_ h=>h.2.1) (am ((opsS s).view)) (λa_=>(gB ((opsS s).rep a_) 0 rfl (by decide) (bo (am (((opsS s).rep a_).view)))))) ?_;refine PD 4 ?_;refine PD 5 ?_;refine FD 6 0 dq aP ?_;refine ta 7 rfl (dz (v:=(.int .i64 ((opsS s).id))) rfl Y3 rfl rfl (λ_ h=>h.2.1) (λa_=>(cH _ rfl))) ?_;refine AL 8 ?_;refine CE pY (dC ((opsS s).view) ((opsS s).id)) ID ?_;refine bb ?_ ?_<;>intro h30;refine EN (PD 9 ?_);refine FD 10 0 fP aP ?_;refine LR 11 Y3 (di o rfl) ?_;refine PD 12 ?_;refine gS ?_ ?_<;>intro h34;refine PD 13 ?_;refine DN (ac J5 (CY (sr λ_ J6=>P3 ?_)));refine FA 5 fP gf ?_;refine LV 0 nP gf aK OpT.sp_change (y:=o.change) ?_;refine CE QG (BM V r (opsS s) ((opsS s).ops) o.change hrs) (SM [1]) ?_;refine PS ?_;refine nx J6 (aj (ae (WK [0] (av rfl rfl ?_))))
 have e:bv V.toDk s o=((dm V.toDk (opsS s) ((opsS s).ops) o.change).1,(dm V.toDk (opsS s) (opsS s).ops o.change).2):=by rw[bv,show iS s.view s.id=true from h30,decide_eq_true h34,if_pos (by rfl)]
 exact kf e;refine PD 13 ?_;refine DN (ac J5 (CN (qx J4 (sr λ_ J7=>PS ?_))));refine LW 0 fP Lj OpT.len ?_;refine CE ON (xl V r (opsS s) o) (SM [1]) ?_;refine P4 ?_;refine XZ u6 (ints RowT.zero.flat) λb8=>?_
 refine SW 0 aX ag ?_;refine P2 ?_;refine nx J7 (aa λ_ J8=>sr λ_ J9=>P2 ?_);refine ap ?_ ?_<;>intro h50;refine PS ?_
 iterate 3 refine UT ?_
 refine PS ?_;refine nx J9 (CY (sr λ_ J10=>P4 ?_));refine CZ uI (fq V r (opsS s) ((opsS s).ops) ((cx (opsS s) o).2.2) ((cx (opsS s) o).2.1) (by first|exact hrs| (rw[j5];exact hrs))) (SM [1]) λvR=>?_
 refine nx J10 (sr λ_ J11=>P2 ?_);refine nx J11 (aj (ae (WK [0] (av rfl rfl ?_))));have e:bv V.toDk s o=((dp (opsS s) ((opsS s).ops) ((cx (opsS s) o).2.2) ((cx (opsS s) o).2.1)),(cx (opsS s) o).2.2):=by rw[bv,show iS s.view s.id=true from h30,decide_eq_false h34,if_neg (by decide),ld,if_pos (.inl h50)]
 exact kf e;refine PS ?_;refine FA 0 fP aP ?_;refine LU 2 Y3 (di o rfl) ?_;refine PS ?_;refine ap ?_ ?_<;>intro h54;refine PS ?_;refine nx J9 (CY (sr λ_ J12=>P4 ?_));refine CZ uI (fq V r (opsS s) ((opsS s).ops) ((cx (opsS s) o).2.2) ((cx (opsS s) o).2.1) (by first|exact hrs| (rw[j5];exact hrs))) (SM [1]) λvR=>?_
 refine nx J12 (sr λ_ J13=>P2 ?_);refine nx J13 (aj (ae (WK [0] (av rfl rfl ?_))));have e:bv V.toDk s o=((dp (opsS s) ((opsS s).ops) ((cx (opsS s) o).2.2) ((cx (opsS s) o).2.1)),(cx (opsS s) o).2.2):=by rw[bv,show iS s.view s.id=true from h30,decide_eq_false h34,if_neg (by decide),ld,if_pos (.inr h54)]
 exact kf e;refine PS ?_;refine nx J9 (CN (qx J8 (aa λ_ J14=>sr λ_ J15=>P2 ?_)));refine LW 0 dT aX ag ?_;refine PS ?_;refine CE NC (st V r (opsS s) ((cx (opsS s) o).1) ((opsS s).ops)) (SM [1]) ?_;refine PS ?_;refine nx J15 (sr λ_ J16=>P2 ?_);refine ap ?_ ?_<;>intro h68;refine nx J16 (CY (ad (P3 ?_)));refine CZ uI (fq V r ((dD V.toDk (opsS s) ((cx (opsS s) o).1) ((opsS s).ops)).1) ((opsS s).ops) ((dD V.toDk (opsS s) ((cx (opsS s) o).1) ((opsS s).ops)).2) 0 (by first|exact hrs| (rw[j5];exact hrs))) ID λvR=>?_
 refine nx J14 (sr λ_ J17=>P2 ?_);refine nx J17 (aj (WK [0] (av rfl rfl ?_)));have e:bv V.toDk s o=((dp ((dD V.toDk (opsS s) ((cx (opsS s) o).1) ((opsS s).ops)).1) ((opsS s).ops) ((dD V.toDk (opsS s) ((cx (opsS s) o).1) ((opsS s).ops)).2) 0),(dD V.toDk (opsS s) (cx (opsS s) o).1 (opsS s).ops).2):=by rw[bv,show iS s.view s.id=true from h30,decide_eq_false h34,if_neg (by decide),ld,if_neg (λh=>h.elim (λh=>h50 h) (λh=>h54 h)),if_pos h68]
 exact kf e;refine nx J16 (CN (qx J14 (sr λ_ J18=>P2 ?_)));refine nx J18 (aj (WK [0] (av rfl rfl ?_)));have e:bv V.toDk s o=((dD V.toDk (opsS s) ((cx (opsS s) o).1) ((opsS s).ops)).1,(dD V.toDk (opsS s) (cx (opsS s) o).1 (opsS s).ops).2):=by rw[bv,show iS s.view s.id=true from h30,decide_eq_false h34,if_neg (by decide),ld,if_neg (λh=>h.elim (λh=>h50 h) (λh=>h54 h)),if_neg h68,show(dD V.toDk (opsS s) (cx (opsS s) o).1 (opsS s).ops).2=0 from Decidable.not_not.1 h68]
 exact kf e;refine EN (PD 9 ?_);refine NT 10 ?_;refine NT 11 ?_;refine NT 12 ?_;refine PD 13 ?_;refine DN (ac J5 (CN (qx J4 (sr λ_ J19=>PS ?_))));refine LW 0 fP Lj OpT.len ?_;refine CE ON (xl V r (opsS s) o) (SM [1]) ?_;refine P4 ?_;refine XZ u6 (ints RowT.zero.flat) λb8=>?_
 refine SW 0 aX ag ?_;refine P2 ?_;refine nx J19 (aa λ_ J20=>sr λ_ J21=>P2 ?_);refine ap ?_ ?_<;>intro h50;refine PS ?_
 iterate 3 refine UT ?_
 refine PS ?_;refine nx J21 (CY (sr λ_ J22=>P4 ?_));refine CZ uI (fq V r (opsS s) ((opsS s).ops) ((cx (opsS s) o).2.2) ((cx (opsS s) o).2.1) (by first|exact hrs| (rw[j5];exact hrs))) (SM [1]) λvR=>?_
 refine nx J22 (sr λ_ J23=>P2 ?_);refine nx J23 (aj (ae (WK [0] (av rfl rfl ?_))));have e:bv V.toDk s o=((dp (opsS s) ((opsS s).ops) ((cx (opsS s) o).2.2) ((cx (opsS s) o).2.1)),(cx (opsS s) o).2.2):=by rw[bv,show iS s.view s.id=false from h30,if_neg (by rw[ij];decide),ld,if_pos (.inl h50)]
 exact kf e;refine PS ?_;refine FA 0 fP aP ?_;refine LU 2 Y3 (di o rfl) ?_;refine PS ?_;refine ap ?_ ?_<;>intro h54;refine PS ?_;refine nx J21 (CY (sr λ_ J24=>P4 ?_));refine CZ uI (fq V r (opsS s) ((opsS s).ops) ((cx (opsS s) o).2.2) ((cx (opsS s) o).2.1) (by first|exact hrs| (rw[j5];exact hrs))) (SM [1]) λvR=>?_
 refine nx J24 (sr λ_ J25=>P2 ?_);refine nx J25 (aj (ae (WK [0] (av rfl rfl ?_))));have e:bv V.toDk s o=((dp (opsS s) ((opsS s).ops) ((cx (opsS s) o).2.2) ((cx (opsS s) o).2.1)),(cx (opsS s) o).2.2):=by rw[bv,show iS s.view s.id=false from h30,if_neg (by rw[ij];decide),ld,if_pos (.inr h54)]
 exact kf e;refine PS ?_;refine nx J21 (CN (qx J20 (aa λ_ J26=>sr λ_ J27=>P2 ?_)));refine LW 0 dT aX ag ?_;refine PS ?_;refine CE NC (st V r (opsS s) ((cx (opsS s) o).1) ((opsS s).ops)) (SM [1]) ?_;refine PS ?_;refine nx J27 (sr λ_ J28=>P2 ?_);refine ap ?_ ?_<;>intro h68;refine nx J28 (CY (ad (P3 ?_)));refine CZ uI (fq V r ((dD V.toDk (opsS s) ((cx (opsS s) o).1) ((opsS s).ops)).1) ((opsS s).ops) ((dD V.toDk (opsS s) ((cx (opsS s) o).1) ((opsS s).ops)).2) 0 (by first|exact hrs| (rw[j5];exact hrs))) ID λvR=>?_
 refine nx J26 (sr λ_ J29=>P2 ?_);refine nx J29 (aj (WK [0] (av rfl rfl ?_)));have e:bv V.toDk s o=((dp ((dD V.toDk (opsS s) ((cx (opsS s) o).1) ((opsS s).ops)).1) ((opsS s).ops) ((dD V.toDk (opsS s) ((cx (opsS s) o).1) ((opsS s).ops)).2) 0),(dD V.toDk (opsS s) (cx (opsS s) o).1 (opsS s).ops).2):=by rw[bv,show iS s.view s.id=false from h30,if_neg (by rw[ij];decide),ld,if_neg (λh=>h.elim (λh=>h50 h) (λh=>h54 h)),if_pos h68]
 exact kf e;refine nx J28 (CN (qx J26 (sr λ_ J30=>P2 ?_)));refine nx J30 (aj (WK [0] (av rfl rfl ?_)));have e:bv V.toDk s o=((dD V.toDk (opsS s) ((cx (opsS s) o).1) ((opsS s).ops)).1,(dD V.toDk (opsS s) (cx (opsS s) o).1 (opsS s).ops).2):=by rw[bv,show iS s.view s.id=false from h30,if_neg (by rw[ij];decide),ld,if_neg (λh=>h.elim (λh=>h50 h) (λh=>h54 h)),if_neg h68,show(dD V.toDk (opsS s) (cx (opsS s) o).1 (opsS s).ops).2=0 from Decidable.not_not.1 h68]
 exact kf e
theorem EQ{δ:Type}(V:Env δ)(r:Nat)(s:MS δ)[OkR V.toDk s](hv:(fz V.toDk (bQ V.toDk (bG V.toDk s))).vote=none):
 DT 29 #[(.pointer (some ⟨r,0,none⟩)),(.iface V.T V.ov)] T0 [cJ V r s] (dH (λ_ H=>H=[cJ V r (gU V.toDk s)])):=by
 refine BD 89 Tryz.func29 rfl rfl rfl λw0 F hF=>aa λ_ J1=>fB (α:=Unit) (λ_u=>True) (λ_u=>[(0,(.pointer (some ⟨r,0,none⟩))),(1,(.iface V.T V.ov))]) (λ_u=>[cJ V r (if s.busy=true then eV V.toDk s else s)]) (λ_u hinv=>?_) (λtl1=>?_)
 have _:=hinv;refine ac J1 (sr λ_ J2=>P2 ?_);refine CZ LP (pH V r (if s.busy=true then eV V.toDk s else s)) ID λvR=>?_
 refine nx J2 (sr λ_ J3=>P2 ?_);refine CZ NA (qO V r (kW V.toDk (if s.busy=true then eV V.toDk s else s))) ID λvR=>?_
 refine nx J3 (aa λ_ J4=>fB (α:=Unit) (λ_u=>True) (λ_u=>[(0,(.pointer (some ⟨r,0,none⟩))),(1,(.iface V.T V.ov))]) (λ_u=>[cJ V r (bQ V.toDk (bG V.toDk s))]) (λ_u hinv=>?_) (λtl4=>?_));have _:=hinv;refine ac J4 (aa λ_ J5=>aa λ_ J6=>DB bl (cY 0 rfl rfl) ?_);refine PD 0 ?_;refine PD 1 ?_;refine FD 2 2 dq bi ?_;refine ta 3 rfl (gI (vs:=ints ((bQ V.toDk (bG V.toDk s)).view).flat) rfl e6 rfl bi rfl (λ_ h=>h.2.1) (am ((bQ V.toDk (bG V.toDk s)).view)) (λa_=>(gB ((bQ V.toDk (bG V.toDk s)).rep a_) 0 rfl (by decide) (bo (am (((bQ V.toDk (bG V.toDk s)).rep a_).view)))))) ?_;refine PD 4 ?_;refine PD 5 ?_;refine FD 6 0 dq aP ?_;refine ta 7 rfl (dz (v:=(.int .i64 ((bQ V.toDk (bG V.toDk s)).id))) rfl Y3 rfl rfl (λ_ h=>h.2.1) (λa_=>(cH _ rfl))) ?_;refine AL 8 ?_;refine CE pY (dC ((bQ V.toDk (bG V.toDk s)).view) ((bQ V.toDk (bG V.toDk s)).id)) ID ?_;refine bb ?_ ?_<;>intro h42;refine EN (PD 9 ?_);refine DN (ac J6 (CN (qx J5 (aa λ_ J7=>fB (α:=Unit) (λ_u=>True) (λ_u=>[(0,(.pointer (some ⟨r,0,none⟩))),(1,(.iface V.T V.ov))]) (λ_u=>[cJ V r (fz V.toDk (bQ V.toDk (bG V.toDk s)))]) (λ_u hinv=>?_) (λtl7=>?_)))));have _:=hinv;refine ac J7 (aa λ_ J8=>sr λ_ J9=>cr (H':=wt V r (fz V.toDk (bQ V.toDk (bG V.toDk s))) (.pointer none)::[]) (λ_ q=>tx hv q) (P2 ?_));refine FA 1067 dq nw ?_;refine LG 0 p6 (.pointer none) ?_ (hc:=by exact λa_=>(bX _ rfl))
 refine tp (Ru rfl p6 rfl rfl) ?_;refine nx J9 (CY (aj (ae (aF (H':=[cJ V r (fz V.toDk (bQ V.toDk (bG V.toDk s)))]) (dV _) (λ_ q=>oS hv (ak [0] rfl q)) (dU rfl ?_)))));exact MQ (by rw[gU,if_pos h42,pM,hv]);refine aa λ_ J10=>fB (α:=(Nat)) (λb4=>True) (λb4=>[(0,(.pointer (some ⟨r,0,none⟩))),(1,(.iface V.T V.ov)),(4,(.pointer (some ⟨b4,0,none⟩)))]) (λb4=>[cJ V r (bQ V.toDk (bG V.toDk s)),ah b4 (ints (cj (bQ V.toDk (bG V.toDk s)).book (bQ V.toDk (bG V.toDk s)).id).flat) 51]) (λb4 hinv=>?_) (λtl10=>?_)
 have _:=hinv;refine ac J10 (sr λ_ J11=>FA 0 dT aP ?_);refine LT 1 Y3 (.int .i64 ((cj (bQ V.toDk (bG V.toDk s)).book (bQ V.toDk (bG V.toDk s)).id).version)) ?_ (hc:=by exact cf _ rfl);refine PS ?_;refine ap ?_ ?_<;>intro h54;refine nx J11 (CY (ad (P2 ?_)));refine LW 1 dT aX ag ?_;refine CZ Ny (nr V r (bQ V.toDk (bG V.toDk s)) (cj (bQ V.toDk (bG V.toDk s)).book (bQ V.toDk (bG V.toDk s)).id)) ID λvR=>?_
 refine aw ?_
 exact aF
  SB
  (λ_ q=>by
   rw[fz,if_pos h54]
   exact ak [0] rfl q)
  (tl7 (():Unit) trivial)
 refine nx J11 (CN (aS ?_))
 exact aF
  SB
  (λ_ q=>by
   rw[fz,if_neg h54]
   exact ak [0] rfl q)
  (tl7 (():Unit) trivial)
 refine DB bl (cY 0 rfl rfl) ?_;refine PD 0 ?_;refine PD 1 ?_;refine FD 2 1068 dq AR ?_;refine PD 3 ?_;refine PD 4 ?_;refine FD 5 0 dq aP ?_;refine ta 6 rfl (dz (v:=(.int .i64 ((bQ V.toDk (bG V.toDk s)).id))) rfl Y3 rfl rfl (λ_ h=>h.2.1) (λa_=>(cH _ rfl))) ?_;refine cT [7,8] (by kernel_rfl) rfl (aG rfl ?_ ?_);refine CE LO (Leg.Does.hid (λa_=>na r 1068 94 _ (fV ((bQ V.toDk (bG V.toDk s)).rep a_)) (bQ V.toDk (bG V.toDk s)).book ((bQ V.toDk (bG V.toDk s)).id))) ID ?_;refine EN (AL 8 ?_);refine XZ u6 (ints RowT.zero.flat) λb4=>?_
 refine EN (AL 9 ?_);refine SW 0 aX ag ?_;refine EN (DN ?_)
 exact aF
  SB
  (λ_ s=>ak [1,0] rfl s)
  (tl10 ((b4):(Nat)) trivial)
 refine aG rfl ?_ ?_;refine XZ u6 (ints RowT.zero.flat) λb4=>?_
 refine EN (AL 7 ?_);refine CE LO (Leg.Does.hid (λa_=>na r 1068 94 _ (fV ((bQ V.toDk (bG V.toDk s)).rep a_)) (bQ V.toDk (bG V.toDk s)).book ((bQ V.toDk (bG V.toDk s)).id))) (SM [1]) ?_;refine EN (AL 9 ?_);refine SW 1 aX ag ?_;refine EN (DN ?_)
 exact aF
  SB
  (λ_ s=>ak [0,0] rfl s)
  (tl10 ((b4):(Nat)) trivial)
 exact bJ;refine EN (PD 9 ?_);refine DN (ac J6 (CY (aj (ae (WK [0] (dU rfl ?_))))));exact MQ (by rw[gU,if_neg (by rw[h42];decide)]);refine sr λ_ J12=>P2 ?_
 refine FA 2 dq bi ?_;refine FA 2 e6 aP ?_;refine LG 0 Y3 (.int .i64 (((bG V.toDk s).view).epoch)) ?_ (hc:=by exact λa_=>(cg ((bG V.toDk s).rep a_) 0 rfl (by decide) (aY _ rfl)));refine PS ?_;refine ap ?_ ?_<;>intro h26;refine nx J12 (CY (ad (P4 ?_)));refine FA 2 dq bi ?_;refine LZ 0 e6 bi am ((bG V.toDk s).view) ?_ (hc:=by exact λ_=>cW _);refine CZ Nz (nq V r (bG V.toDk s) ((bG V.toDk s).view)) ID λvR=>?_
 refine aw ?_
 exact aF
  SB
  (λ_ q=>by
   rw[bQ,if_pos h26]
   exact ak [0] rfl q)
  (tl4 (():Unit) trivial)
 refine nx J12 (CN (aS ?_))
 exact aF
  SB
  (λ_ q=>by
   rw[bQ,if_neg h26]
   exact ak [0] rfl q)
  (tl4 (():Unit) trivial)
 refine sr λ_ J13=>P2 ?_
 refine FA 1938 dq lE ?_;refine LG 0 Y4 (.bool (s.busy)) ?_ (hc:=by exact λa_=>(yT _ rfl));refine bb ?_ ?_<;>intro h11;refine nx J13 (CY (ad (P2 ?_)));refine CZ NB (ou V r s) ID λvR=>?_
 refine aw ?_
 exact aF
  SB
  (λ_ q=>by
   rw[if_pos h11]
   exact ak [0] rfl q)
  (tl1 (():Unit) trivial)
 refine nx J13 (CN (aS ?_))
 exact aF
  SB
  (λ_ q=>by
   rw[if_neg (by rw[h11];decide)]
   exact ak [0] rfl q)
  (tl1 (():Unit) trivial)
theorem EP{δ:Type}(V:Env δ)(r:Nat)(s:MS δ)(vt:VoteT)[OkR V.toDk s](hv:(fz V.toDk (bQ V.toDk (bG V.toDk s))).vote=some vt):
 DT 29 #[(.pointer (some ⟨r,0,none⟩)),(.iface V.T V.ov)] T0 [cJ V r s] (dH (λ_ H=>H=[cJ V r (gU V.toDk s)])):=by
 refine BD 89 Tryz.func29 rfl rfl rfl λw0 F hF=>?_
 have hov:OkVt vt:=OkR.vote vt hv;refine aa λ_ J1=>fB (α:=Unit) (λ_u=>True) (λ_u=>[(0,(.pointer (some ⟨r,0,none⟩))),(1,(.iface V.T V.ov))]) (λ_u=>[cJ V r (if s.busy=true then eV V.toDk s else s)]) (λ_u hinv=>?_) (λtl1=>?_)
 have _:=hinv;refine ac J1 (sr λ_ J2=>P2 ?_);refine CZ LP (pH V r (if s.busy=true then eV V.toDk s else s)) ID λvR=>?_
 refine nx J2 (sr λ_ J3=>P2 ?_);refine CZ NA (qO V r (kW V.toDk (if s.busy=true then eV V.toDk s else s))) ID λvR=>?_
 refine nx J3 (aa λ_ J4=>fB (α:=Unit) (λ_u=>True) (λ_u=>[(0,(.pointer (some ⟨r,0,none⟩))),(1,(.iface V.T V.ov))]) (λ_u=>[cJ V r (bQ V.toDk (bG V.toDk s))]) (λ_u hinv=>?_) (λtl4=>?_));have _:=hinv;refine ac J4 (aa λ_ J5=>aa λ_ J6=>DB bl (cY 0 rfl rfl) ?_);refine PD 0 ?_;refine PD 1 ?_;refine FD 2 2 dq bi ?_;refine ta 3 rfl (gI (vs:=ints ((bQ V.toDk (bG V.toDk s)).view).flat) rfl e6 rfl bi rfl (λ_ h=>h.2.1) (am ((bQ V.toDk (bG V.toDk s)).view)) (λa_=>(gB ((bQ V.toDk (bG V.toDk s)).rep a_) 0 rfl (by decide) (bo (am (((bQ V.toDk (bG V.toDk s)).rep a_).view)))))) ?_;refine PD 4 ?_;refine PD 5 ?_;refine FD 6 0 dq aP ?_;refine ta 7 rfl (dz (v:=(.int .i64 ((bQ V.toDk (bG V.toDk s)).id))) rfl Y3 rfl rfl (λ_ h=>h.2.1) (λa_=>(cH _ rfl))) ?_;refine AL 8 ?_;refine CE pY (dC ((bQ V.toDk (bG V.toDk s)).view) ((bQ V.toDk (bG V.toDk s)).id)) ID ?_;refine bb ?_ ?_<;>intro h42;refine EN (PD 9 ?_);refine DN (ac J6 (CN (qx J5 (aa λ_ J7=>fB (α:=Unit) (λ_u=>True) (λ_u=>[(0,(.pointer (some ⟨r,0,none⟩))),(1,(.iface V.T V.ov))]) (λ_u=>[cJ V r (fz V.toDk (bQ V.toDk (bG V.toDk s)))]) (λ_u hinv=>?_) (λtl7=>?_)))));have _:=hinv;refine ac J7 (aa λ_ J8=>sr λ_ J9=>G9 (H':=λvb:Nat=>wt V r (fz V.toDk (bQ V.toDk (bG V.toDk s))) (.pointer (some ⟨vb,0,none⟩))::ah vb (VoteT.cells vt) 187::[]) (λ_ q=>nI hv q) (λvb=>P2 ?_));refine FA 1067 dq nw ?_
 refine LG 0 p6 (.pointer (some ⟨vb,0,none⟩)) ?_ (hc:=by exact λa_=>(bX _ rfl));refine tp (kE rfl p6 rfl rfl) ?_;refine nx J9 (CN (qx J8 (sr λ_ J10=>P2 ?_)));refine FA 1067 dq nw ?_;refine LG 0 p6 (.pointer (some ⟨vb,0,none⟩)) ?_ (hc:=by exact λa_=>(bX _ rfl));refine CE uH (dr vb vt) (SM [1]) ?_;change TL _ _ _ _ _ _ _ _ _ [ah vb (VoteT.cells vt) 187,wt V r (fz V.toDk (bQ V.toDk (bG V.toDk s))) (.pointer (some ⟨vb,0,none⟩))];refine cr (H':=cJ V r (fz V.toDk (bQ V.toDk (bG V.toDk s)))::[]) (λ_ q=>oR hv (az [1,0] rfl q)) (XZ PZ (ints ChangeT.zero.flat) λb5=>?_);refine SW 0 gf aK ?_;refine nx J10 (aa λ_ J11=>fB (α:=Unit) (λ_u=>True) (λ_u=>[(0,(.pointer (some ⟨r,0,none⟩))),(1,(.iface V.T V.ov)),(5,(.pointer (some ⟨b5,0,none⟩))),(7,(.int .i64 ((dF (fz V.toDk (bQ V.toDk (bG V.toDk s))).view vt.change).2)))]) (λ_u=>[cJ V r (fz V.toDk (bQ V.toDk (bG V.toDk s))),ah b5 (ints vt.change.flat) 33]) (λ_u hinv=>?_) (λtl11=>?_));have _:=hinv;refine ac J11 (sr λ_ J12=>P2 ?_);refine ap ?_ ?_<;>intro h79;refine P2 ?_;refine LW 1 nP gf aK ?_;refine CE Nx (qR V r (fz V.toDk (bQ V.toDk (bG V.toDk s))) vt.change) ID ?_;refine PS ?_;refine ap ?_ ?_<;>intro h84;refine PS ?_;refine nx J12 (CY (ad (P2 ?_)))
 refine CZ LN (rY V r ((bF V.toDk (fz V.toDk (bQ V.toDk (bG V.toDk s))) vt.change).1) (jr (fz V.toDk (bQ V.toDk (bG V.toDk s))).view (cR (fz V.toDk (bQ V.toDk (bG V.toDk s)))) vt.change) (sx h84)) ID λvR=>?_
 refine aw (WK [0] (bw rfl ?_));exact MQ (by rw[gU,if_pos h42,pM,hv];simp only[];rw[if_pos h79,if_pos h84]);refine PS ?_;refine nx J12 (CN (aS (WK [0] (bw rfl ?_))));exact MQ (by rw[gU,if_pos h42,pM,hv];simp only[];rw[if_pos h79,if_neg h84]);refine PS ?_
 iterate 4 refine UF ?_
 refine PS ?_;refine nx J12 (CN (aS (WK [0] (bw rfl ?_))));exact MQ (by rw[gU,if_pos h42,pM,hv];simp only[];rw[if_neg h79]);refine DC bl (cY 1 rfl rfl) (BL 0) ?_;refine PD 0 ?_;refine PD 1 ?_;refine FD 2 2 dq bi ?_;refine ta 3 rfl (gI (vs:=ints ((fz V.toDk (bQ V.toDk (bG V.toDk s))).view).flat) rfl e6 rfl bi rfl (λ_ h=>h.2.1) (am ((fz V.toDk (bQ V.toDk (bG V.toDk s))).view)) (λa_=>(gB ((fz V.toDk (bQ V.toDk (bG V.toDk s))).rep a_) 0 rfl (by decide) (bo (am (((fz V.toDk (bQ V.toDk (bG V.toDk s))).rep a_).view)))))) ?_;refine LY 4 nP gf aK ?_;refine cT [5,9] (by kernel_rfl) rfl (aG rfl ?_ ?_);refine CE nG (dE ((fz V.toDk (bQ V.toDk (bG V.toDk s))).view) vt.change OkVw.rng) ID ?_;refine EN (PD 6 ?_);refine PD 7 ?_;refine PD 8 ?_;refine AL 9 ?_;refine XZ rN (ints ViewT.zero.flat) λb6=>?_
 refine EN (AL 10 ?_);refine SW 0 bi am ?_;refine EN (PD 11 ?_);refine DN ?_
 exact aF
  SB
  (λ_ s=>ak [2,1] rfl s)
  (tl11 (():Unit) trivial)
 refine aG rfl ?_ ?_;refine XZ rN (ints ViewT.zero.flat) λb6=>?_
 refine EN (AL 5 ?_);refine CE nG (dE ((fz V.toDk (bQ V.toDk (bG V.toDk s))).view) vt.change OkVw.rng) ID ?_;refine EN (PD 6 ?_);refine PD 7 ?_;refine PD 8 ?_;refine AL 10 ?_;refine SW 0 bi am ?_;refine EN (PD 11 ?_);refine DN ?_
 exact aF
  SB
  (λ_ s=>ak [2,1] rfl s)
  (tl11 (():Unit) trivial)
 exact bJ;refine aa λ_ J13=>fB (α:=(Nat)) (λb4=>True) (λb4=>[(0,(.pointer (some ⟨r,0,none⟩))),(1,(.iface V.T V.ov)),(4,(.pointer (some ⟨b4,0,none⟩)))]) (λb4=>[cJ V r (bQ V.toDk (bG V.toDk s)),ah b4 (ints (cj (bQ V.toDk (bG V.toDk s)).book (bQ V.toDk (bG V.toDk s)).id).flat) 51]) (λb4 hinv=>?_) (λtl13=>?_)
 have _:=hinv;refine ac J13 (sr λ_ J14=>FA 0 dT aP ?_);refine LT 1 Y3 (.int .i64 ((cj (bQ V.toDk (bG V.toDk s)).book (bQ V.toDk (bG V.toDk s)).id).version)) ?_ (hc:=by exact cf _ rfl);refine PS ?_;refine ap ?_ ?_<;>intro h54;refine nx J14 (CY (ad (P2 ?_)));refine LW 1 dT aX ag ?_;refine CZ Ny (nr V r (bQ V.toDk (bG V.toDk s)) (cj (bQ V.toDk (bG V.toDk s)).book (bQ V.toDk (bG V.toDk s)).id)) ID λvR=>?_
 refine aw ?_
 exact aF
  SB
  (λ_ q=>by
   rw[fz,if_pos h54]
   exact ak [0] rfl q)
  (tl7 (():Unit) trivial)
 refine nx J14 (CN (aS ?_))
 exact aF
  SB
  (λ_ q=>by
   rw[fz,if_neg h54]
   exact ak [0] rfl q)
  (tl7 (():Unit) trivial)
 refine DB bl (cY 0 rfl rfl) ?_;refine PD 0 ?_;refine PD 1 ?_;refine FD 2 1068 dq AR ?_;refine PD 3 ?_;refine PD 4 ?_;refine FD 5 0 dq aP ?_;refine ta 6 rfl (dz (v:=(.int .i64 ((bQ V.toDk (bG V.toDk s)).id))) rfl Y3 rfl rfl (λ_ h=>h.2.1) (λa_=>(cH _ rfl))) ?_;refine cT [7,8] (by kernel_rfl) rfl (aG rfl ?_ ?_);refine CE LO (Leg.Does.hid (λa_=>na r 1068 94 _ (fV ((bQ V.toDk (bG V.toDk s)).rep a_)) (bQ V.toDk (bG V.toDk s)).book ((bQ V.toDk (bG V.toDk s)).id))) ID ?_;refine EN (AL 8 ?_);refine XZ u6 (ints RowT.zero.flat) λb4=>?_
 refine EN (AL 9 ?_);refine SW 0 aX ag ?_;refine EN (DN ?_)
 exact aF
  SB
  (λ_ s=>ak [1,0] rfl s)
  (tl13 ((b4):(Nat)) trivial)
 refine aG rfl ?_ ?_;refine XZ u6 (ints RowT.zero.flat) λb4=>?_
 refine EN (AL 7 ?_);refine CE LO (Leg.Does.hid (λa_=>na r 1068 94 _ (fV ((bQ V.toDk (bG V.toDk s)).rep a_)) (bQ V.toDk (bG V.toDk s)).book ((bQ V.toDk (bG V.toDk s)).id))) (SM [1]) ?_;refine EN (AL 9 ?_);refine SW 1 aX ag ?_;refine EN (DN ?_)
 exact aF
  SB
  (λ_ s=>ak [0,0] rfl s)
  (tl13 ((b4):(Nat)) trivial)
 exact bJ;refine EN (PD 9 ?_);refine DN (ac J6 (CY (aj (ae (WK [0] (dU rfl ?_))))));exact MQ (by rw[gU,if_neg (by rw[h42];decide)]);refine sr λ_ J15=>P2 ?_
 refine FA 2 dq bi ?_;refine FA 2 e6 aP ?_;refine LG 0 Y3 (.int .i64 (((bG V.toDk s).view).epoch)) ?_ (hc:=by exact λa_=>(cg ((bG V.toDk s).rep a_) 0 rfl (by decide) (aY _ rfl)));refine PS ?_;refine ap ?_ ?_<;>intro h26;refine nx J15 (CY (ad (P4 ?_)));refine FA 2 dq bi ?_;refine LZ 0 e6 bi am ((bG V.toDk s).view) ?_ (hc:=by exact λ_=>cW _);refine CZ Nz (nq V r (bG V.toDk s) ((bG V.toDk s).view)) ID λvR=>?_
 refine aw ?_
 exact aF
  SB
  (λ_ q=>by
   rw[bQ,if_pos h26]
   exact ak [0] rfl q)
  (tl4 (():Unit) trivial)
 refine nx J15 (CN (aS ?_))
 exact aF
  SB
  (λ_ q=>by
   rw[bQ,if_neg h26]
   exact ak [0] rfl q)
  (tl4 (():Unit) trivial)
 refine sr λ_ J16=>P2 ?_
 refine FA 1938 dq lE ?_;refine LG 0 Y4 (.bool (s.busy)) ?_ (hc:=by exact λa_=>(yT _ rfl));refine bb ?_ ?_<;>intro h11;refine nx J16 (CY (ad (P2 ?_)));refine CZ NB (ou V r s) ID λvR=>?_
 refine aw ?_
 exact aF
  SB
  (λ_ q=>by
   rw[if_pos h11]
   exact ak [0] rfl q)
  (tl1 (():Unit) trivial)
 refine nx J16 (CN (aS ?_))
 exact aF
  SB
  (λ_ q=>by
   rw[if_neg (by rw[h11];decide)]
   exact ak [0] rfl q)
  (tl1 (():Unit) trivial)
theorem EO{δ:Type}(V:Env δ)(r:Nat)(s:MS δ)[OkR V.toDk s]:DT 29 #[.pointer (some ⟨r,0,none⟩), .iface V.T V.ov] T0 [cJ V r s] (dH (λ_ H=>H=[cJ V r (gU V.toDk s)])):=by
 cases hv:(fz V.toDk (bQ V.toDk (bG V.toDk s))).vote with
 |none=>exact EQ V r s hv
 |some vt=>exact EP V r s vt hv
abbrev ED{δ:Type}(lg r:Nat)(s:MS δ):HP:=hid r (λ_:Unit=>RepT.cells (s.rep ⟨lg, .pointer none, .slice none 0 0⟩)) 94 (λ_=>[])
theorem vC{δ:Type}(lg r:Nat)(s:MS δ)(v:ViewT):
 DT 49 #[(.pointer (some ⟨r,0,none⟩)),(.agg (ints v.flat).toArray)] T0 [ED lg r s] (dH (λ_ H=>H=[ED lg r (lA s v)])):=by
 refine BD 20 Tryz.func49 rfl rfl rfl λw0 F hF=>sr λ_ J1=>XY (ints v.flat) λb3=>?_
 refine nx J1 (sr λ_ J2=>PS ?_);refine LW 0 e6 bi am ?_;refine PS ?_;refine FA 2 dq bi ?_;refine iw (vs:=ints v.flat) (i:=1) (ab rfl) rfl rfl rfl rfl rfl (by rw[(am v)];exact bi) (bA _) rfl rfl (λ_=>LC (cX _) (am _)) (λa_=>(Q5 (s.rep ⟨lg, .pointer none, .slice none 0 0⟩) 0 rfl (by have h1:=(am v);omega) (ct ((am ((s.rep ⟨lg, .pointer none, .slice none 0 0⟩).view)).trans (am v).symm)))) (nx J2 (sr λ_ J3=>PS ?_));refine FA 0 e6 aP ?_;refine LU 0 Y3 (aY v rfl) ?_;refine tp (kJ AccT.zero (AccT.mk v.epoch BallotT.zero BallotT.zero ChangeT.zero) [(0,[Value.int .i64 v.epoch])] qc o9 (g:=AccT.sg)) ?_;refine PS ?_;refine FA 1058 dq gg ?_;refine iw (vs:=ints (AccT.mk v.epoch BallotT.zero BallotT.zero ChangeT.zero).flat) (i:=1) (ab rfl) rfl rfl rfl rfl rfl (by rw[(ba (AccT.mk v.epoch BallotT.zero BallotT.zero ChangeT.zero))];exact gg) (bA _) rfl rfl (λ_=>LC (cX _) (ba _)) (λa_=>(k8 ((MS.setView s v).rep ⟨lg, .pointer none, .slice none 0 0⟩) 0 rfl (by have h1:=(ba (AccT.mk v.epoch BallotT.zero BallotT.zero ChangeT.zero));omega) (ct ((ba (((MS.setView s v).rep ⟨lg, .pointer none, .slice none 0 0⟩).acc)).trans (ba (AccT.mk v.epoch BallotT.zero BallotT.zero ChangeT.zero)).symm)))) (nx J3 (sr λ_ J4=>P2 ?_));refine FA 1067 dq nw ?_;refine SK 1 nw (λ_=>cX _) ?_ (hc:=by exact λa_=>(Q6 _ rfl _));refine nx J4 (ad (P2 ?_));refine FA 1066 dq aP ?_;refine SK 1 aP (λ_=>cX _) ?_ (hc:=by exact λa_=>(mn _ rfl _))
 exact aw (WK [1] (bw rfl rfl))
theorem yu{δ:Type}(lg r:Nat)(s:MS δ)(m:RecT)(hw:WF m.row.flat):
 DT 51 #[(.pointer (some ⟨r,0,none⟩)),(.agg (ints m.flat).toArray)] T0 [ED lg r s] (dH (λ_ H=>H=[ED lg r (ir s m)])):=by
 refine BD 93 Tryz.func51 rfl rfl rfl λw0 F hF=>sr λ_ J1=>XY (ints m.flat) λb3=>?_
 refine nx J1 (sr λ_ J2=>FA 0 eC aP ?_);refine LU 0 Y3 (k9 m rfl) ?_;refine nx J2 (aq (sr λ_ J3=>PS ?_));refine ap ?_ ?_<;>intro h7;refine PS ?_;refine nx J3 (CY (ad (P3 ?_)));refine FA 2 eC aX ?_;refine LV 0 dT aX ag RecT.sp_row (y:=m.row) ?_;refine PS ?_;refine FA 9 dq aX ?_;refine iw (vs:=ints m.row.flat) (i:=1) (ab rfl) rfl rfl rfl rfl rfl (by rw[(ag m.row)];exact aX) (bA _) rfl rfl (λ_=>LC (cX _) (ag _)) (λa_=>(Rs (s.rep ⟨lg, .pointer none, .slice none 0 0⟩) 0 rfl (by have h1:=(ag m.row);omega) (ct ((ag ((s.rep ⟨lg, .pointer none, .slice none 0 0⟩).own)).trans (ag m.row).symm)))) (PS ?_);refine FA 1938 dq lE ?_;refine SK 1 lE (λ_=>cX _) ?_ (hc:=by exact λa_=>(Q8 _ rfl _));refine PS ?_;refine FA 1939 dq aP ?_;refine SK 1 aP (λ_=>cX _) ?_ (hc:=by exact λa_=>(Q7 _ rfl _));refine aw (af (WK [1] (bw rfl ?_)));exact congrArg (λq=>[ED lg r q]) (show(MS.setKept (MS.setBusy (MS.setOwn s m.row) true) 0)=ir s m by rw[ir,if_pos h7]<;>rfl);refine PS ?_;refine nx J3 (CN (sr λ_ J4=>PS ?_));refine ap ?_ ?_<;>intro h20;refine PS ?_;refine nx J4 (CY (D1 0 bl ?_));refine PD 0 ?_;refine PD 1 ?_;refine FD 2 183 dq uj ?_;refine FD 3 1 eC aP ?_;refine LR 4 Y3 (Hd m rfl) ?_;refine FD 5 2 eC aX ?_;refine ta 6 rfl (aM (vs:=ints m.row.flat) rfl dT rfl aX rfl (λ_ h=>h.2.1) (ag m.row) (sD m 0 rfl (by decide) (bo (ag m.row)))) ?_;refine AL 7 ?_
 refine CE OG (Leg.Does.hid (λa_=>tB r 183 94 _ (ei (s.rep ⟨lg, .pointer none, .slice none 0 0⟩)) s.mirror m.whose m.row hw)) (SM [1]) ?_;refine EN (DN (af (WK [0] (bw rfl ?_))));exact congrArg (λq=>[ED lg r q]) (show(gN s m.whose m.row)=ir s m by rw[ir,if_neg h7,if_pos h20]<;>rfl);refine PS ?_;refine nx J4 (CN (sr λ_ J5=>PS ?_));refine ap ?_ ?_<;>intro h30;refine PS ?_;refine nx J5 (CY (D1 0 bl ?_));refine PD 0 ?_;refine PD 1 ?_;refine FD 2 183 dq uj ?_;refine FD 3 1 eC aP ?_;refine LR 4 Y3 (Hd m rfl) ?_;refine AL 5 ?_;refine CE OF (Leg.Does.hid (λa_=>tA r 183 94 _ (ei (s.rep ⟨lg, .pointer none, .slice none 0 0⟩)) s.mirror m.whose)) (SM [1]) ?_;refine EN (DN (af (WK [0] (bw rfl ?_))));exact congrArg (λq=>[ED lg r q]) (show(kQ s m.whose)=ir s m by rw[ir,if_neg h7,if_neg h20,if_pos h30]<;>rfl);refine PS ?_;refine nx J5 (CN (sr λ_ J6=>PS ?_));refine ap ?_ ?_<;>intro h38;refine PS ?_;refine nx J6 (CY (sr λ_ J7=>PS ?_));refine FA 177 eC cA ?_;refine LV 0 kO cA ao RecT.sp_ballot (y:=m.ballot) ?_;refine PS ?_;refine FA 1058 dq gg ?_;refine FA 1059 qc cA ?_
 refine iw (vs:=ints m.ballot.flat) (i:=1) (ab rfl) rfl rfl rfl rfl rfl (by rw[(ao m.ballot)];exact cA) (bA _) rfl rfl (λ_=>LC (cX _) (ao _)) (λa_=>(k8 (s.rep ⟨lg, .pointer none, .slice none 0 0⟩) 1 rfl (by have h1:=(ao m.ballot);omega) (Ry ((s.rep ⟨lg, .pointer none, .slice none 0 0⟩).acc) 0 rfl (by have h1:=(ao m.ballot);omega) (ct ((ao (((s.rep ⟨lg, .pointer none, .slice none 0 0⟩).acc).vow)).trans (ao m.ballot).symm))))) (nx J7 (D1 0 bl ?_));refine PD 0 ?_;refine PD 1 ?_;refine PD 2 ?_;refine FD 3 1066 dq aP ?_;refine FD 5 177 eC cA ?_;refine FD 6 177 kO aP ?_;refine LX 7 Y3 (.int .i64 (m.ballot.round)) ?_ (hc:=by exact RecT.pt_ballot m 0 rfl (by decide) (fF m.ballot rfl));refine AL 4 ?_;refine LG 1 Y3 (.int .i64 (s.round)) ?_ (hc:=by exact λa_=>(vZ _ rfl));refine EN (ta 8 rfl (yW rfl rfl rfl) ?_);refine PD 9 ?_;refine FD 10 1066 dq aP ?_;refine AL 11 ?_;refine SK 1 aP (λ_=>cX _) ?_ (hc:=by exact λa_=>(mn _ rfl _));refine EN (DN (af (WK [1] (bw rfl ?_))));exact congrArg (λq=>[ED lg r q]) (show(MS.setRound (MS.setAcc s (AccT.mk s.acc.epoch m.ballot s.acc.had s.acc.change)) (max s.round m.ballot.round))=ir s m by rw[ir,if_neg h7,if_neg h20,if_neg h30,if_pos h38]<;>rfl);refine PS ?_;refine nx J6 (CN (sr λ_ J8=>PS ?_));refine ap ?_ ?_<;>intro h57;refine PS ?_;refine nx J8 (CY (aa λ_ J9=>D1 0 bl ?_));refine PD 0 ?_;refine PD 1 ?_;refine PD 2 ?_;refine FD 3 177 eC cA ?_
 refine ta 4 rfl (aM (vs:=ints m.ballot.flat) rfl kO rfl cA rfl (λ_ h=>h.2.1) (ao m.ballot) (rm m 0 rfl (by decide) (bo (ao m.ballot)))) ?_;refine FD 5 177 eC cA ?_;refine ta 6 rfl (aM (vs:=ints m.ballot.flat) rfl kO rfl cA rfl (λ_ h=>h.2.1) (ao m.ballot) (rm m 0 rfl (by decide) (bo (ao m.ballot)))) ?_;refine FD 7 179 eC gf ?_;refine ta 8 rfl (aM (vs:=ints m.change.flat) rfl nP rfl gf rfl (λ_ h=>h.2.1) (aK m.change) (NZ m 0 rfl (by decide) (bo (aK m.change)))) ?_;refine PD 9 ?_;refine FD 10 1058 dq gg ?_;refine FD 11 1059 qc cA ?_;refine AL 12 ?_;refine iw (vs:=ints m.ballot.flat) (i:=1) (ab rfl) rfl rfl rfl rfl rfl (by rw[(ao m.ballot)];exact cA) (bA _) rfl rfl (λ_=>LC (cX _) (ao _)) (λa_=>(k8 (s.rep ⟨lg, .pointer none, .slice none 0 0⟩) 1 rfl (by have h1:=(ao m.ballot);omega) (Ry ((s.rep ⟨lg, .pointer none, .slice none 0 0⟩).acc) 0 rfl (by have h1:=(ao m.ballot);omega) (ct ((ao (((s.rep ⟨lg, .pointer none, .slice none 0 0⟩).acc).vow)).trans (ao m.ballot).symm))))) (EN (PD 13 ?_));refine FD 14 1058 dq gg ?_;refine FD 15 1061 qc cA ?_;refine AL 16 ?_
 refine iw (vs:=ints m.ballot.flat) (i:=1) (ab rfl) rfl rfl rfl rfl rfl (by rw[(ao m.ballot)];exact cA) (bA _) rfl rfl (λ_=>LC (cX _) (ao _)) (λa_=>(k8 ((MS.setAcc s (AccT.mk s.acc.epoch m.ballot s.acc.had s.acc.change)).rep ⟨lg, .pointer none, .slice none 0 0⟩) 3 rfl (by have h1:=(ao m.ballot);omega) (AccT.wr_had_ (((MS.setAcc s (AccT.mk s.acc.epoch m.ballot s.acc.had s.acc.change)).rep ⟨lg, .pointer none, .slice none 0 0⟩).acc) 0 rfl (by have h1:=(ao m.ballot);omega) (ct ((ao ((((MS.setAcc s (AccT.mk s.acc.epoch m.ballot s.acc.had s.acc.change)).rep ⟨lg, .pointer none, .slice none 0 0⟩).acc).had)).trans (ao m.ballot).symm))))) (EN (PD 17 ?_));refine FD 18 1058 dq gg ?_;refine FD 19 1063 qc gf ?_;refine AL 20 ?_;refine iw (vs:=ints m.change.flat) (i:=1) (ab rfl) rfl rfl rfl rfl rfl (by rw[(aK m.change)];exact gf) (bA _) rfl rfl (λ_=>LC (cX _) (aK _)) (λa_=>(k8 ((MS.setAcc s (AccT.mk s.acc.epoch m.ballot m.ballot s.acc.change)).rep ⟨lg, .pointer none, .slice none 0 0⟩) 5 rfl (by have h1:=(aK m.change);omega) (AccT.wr_change_ (((MS.setAcc s (AccT.mk s.acc.epoch m.ballot m.ballot s.acc.change)).rep ⟨lg, .pointer none, .slice none 0 0⟩).acc) 0 rfl (by have h1:=(aK m.change);omega) (ct ((aK ((((MS.setAcc s (AccT.mk s.acc.epoch m.ballot m.ballot s.acc.change)).rep ⟨lg, .pointer none, .slice none 0 0⟩).acc).change)).trans (aK m.change).symm))))) (EN (DN (ac J9 (D1 0 bl ?_))));refine PD 0 ?_;refine PD 1 ?_;refine PD 2 ?_
 refine FD 3 1066 dq aP ?_;refine FD 5 177 eC cA ?_;refine FD 6 177 kO aP ?_;refine LX 7 Y3 (.int .i64 (m.ballot.round)) ?_ (hc:=by exact RecT.pt_ballot m 0 rfl (by decide) (fF m.ballot rfl));refine AL 4 ?_;refine LG 1 Y3 (.int .i64 (s.round)) ?_ (hc:=by exact λa_=>(vZ _ rfl));refine EN (ta 8 rfl (yW rfl rfl rfl) ?_);refine PD 9 ?_;refine FD 10 1066 dq aP ?_;refine AL 11 ?_;refine SK 1 aP (λ_=>cX _) ?_ (hc:=by exact λa_=>(mn _ rfl _));refine EN (DN (af (WK [1] (bw rfl ?_))));exact congrArg (λq=>[ED lg r q]) (show(MS.setRound (MS.setAcc s (AccT.mk s.acc.epoch m.ballot m.ballot m.change)) (max s.round m.ballot.round))=ir s m by rw[ir,if_neg h7,if_neg h20,if_neg h30,if_neg h38,if_pos h57]<;>rfl);refine PS ?_;refine nx J8 (CN (sr λ_ J10=>PS ?_));refine ap ?_ ?_<;>intro h88;refine PS ?_;refine nx J10 (CY (ad (PS ?_)));refine FA 182 eC bi ?_;refine LV 0 e6 bi am RecT.sp_view (y:=m.view) ?_;refine CZ ND (vC lg r s m.view) (SM [1]) λvR=>?_
 refine aw (af (WK [0] (bw rfl ?_)));exact congrArg (λq=>[ED lg r q]) (show(lA s m.view)=ir s m by rw[ir,if_neg h7,if_neg h20,if_neg h30,if_neg h38,if_neg h57,if_pos h88]<;>rfl);refine PS ?_;refine nx J10 (CN (aS (af (WK [1] (bw rfl ?_)))));exact congrArg (λq=>[ED lg r q]) (show s=ir s m by rw[ir,if_neg h7,if_neg h20,if_neg h30,if_neg h38,if_neg h57,if_neg h88]<;>rfl)
theorem Me{bs:List UInt8}(h: ¬(io bs).2≠0):WF (io bs).1.row.flat:=by
 rcases Kr bs with⟨m,e,_,_,hw⟩|e
 · rw[e];exact hw
 · rw[e]at h;exact absurd (by decide) h
theorem Cw{δ:Type}(e0:δ)(i:Int)(d:Nat)(D:DS)(hD:D.Ok)(hI:Wal.DS.In D)(hb:D.ws.length≤1000000):
 DT 25 #[(.int .i64 (i)),(.pointer (some ⟨d,0,none⟩))] T0 [dk d D] (dH (λr' H=>((bN D).err≠0∧r'= .tuple #[.pointer none, .int .i64 (bN D).err]∧H=[dk d (bN D).D])∨((bN D).err=0∧((lr (bN D).recs (tv i e0)=none∧r'= .tuple #[.pointer none, .int .i64 1]∧H=[dk d (bN D).D])∨∃s r lg,lr (bN D).recs (tv i e0)=some s∧r'= .tuple #[.pointer (some ⟨r,0,none⟩), .int .i64 0]∧H=[ED lg r s,GT lg d (((bN D).recs.length:Nat):Int) (bN D).used,dk d (bN D).D])))):=by
 refine BD 50 Tryz.func25 rfl rfl rfl λw0 F hF=>sr λ_ J1=>P2 ?_
 refine nx J1 (aa λ_ J2=>sr λ_ J3=>PS ?_);refine tp (kE rfl I3 rfl rfl) ?_;refine nx J3 (CN (qx J2 (sr λ_ J4=>PS ?_)));refine CR QJ (Ic d D hD hI hb) ID λvR HR hR=>?_
 rcases hR with⟨he,rfl,rfl⟩| ⟨he,lg,vr,rfl,rfl⟩
 refine P4 ?_;refine P3 ?_;refine nx J4 (aa λ_ J5=>sr λ_ J6=>P2 ?_);refine ap ?_ ?_<;>intro h23;refine nx J6 (CY (sr λ_ J7=>P3 ?_));exact nx J7 (aj (ae (WK [0] (jo rfl rfl rfl (.inl ⟨he,rfl,rfl⟩)))))
 · exact absurd he h23
 change TL _ _ _ _ _ _ _ _ _ [ah lg [(.pointer (some ⟨d,0,none⟩)),(.int .i64 ((((bN D).recs.length:Nat):Int))),(.int .i64 ((bN D).used))] 162,P0 vr (bN D).recs,dk d (bN D).D];refine yP (p:=pU vr (bN D).recs.length∧vr.oneCell'=true) (λw m=>by obtain⟨h,_,_,hs⟩:=m;obtain⟨_,_,_,_,a,_⟩:=fm 1 (lb rfl) hs;exact vg a) (λ⟨hsl,hvr⟩=>P4 ?_);refine P3 ?_;refine nx J4 (aa λ_ J8=>sr λ_ J9=>P2 ?_);refine nx J9 (CN (qx J8 (sr λ_ J10=>P2 ?_)))
 refine tp (yX (cs:=RepT.cells (RepT.mk i (.pointer (some ⟨lg,0,none⟩)) ViewT.zero RowT.zero MirT.zero AccT.zero 0 (.pointer none) BookT.zero false 0 0 0 (.slice none 0 0) (#v[0,0,0,0,0]) (#v[RowT.zero,RowT.zero,RowT.zero,RowT.zero,RowT.zero]))) (segs:=[[Value.int .i64 0],[(.pointer none)],ints ViewT.zero.flat,ints RowT.zero.flat,MirT.cells MirT.zero,ints AccT.zero.flat,[Value.int .i64 0],[(.pointer none)],ints BookT.zero.flat,[Value.bool false],[Value.int .i64 0],[Value.int .i64 0],[Value.int .i64 0],[(.slice none 0 0)],ints (#v[0,0,0,0,0]).toList,ints ((#v[RowT.zero,RowT.zero,RowT.zero,RowT.zero,RowT.zero]).toList.flatMap RowT.flat)]) (res:=[[Value.int .i64 i],[(.pointer (some ⟨lg,0,none⟩))],ints ViewT.zero.flat,ints RowT.zero.flat,MirT.cells MirT.zero,ints AccT.zero.flat,[Value.int .i64 0],[(.pointer none)],ints BookT.zero.flat,[Value.bool false],[Value.int .i64 0],[Value.int .i64 0],[Value.int .i64 0],[(.slice none 0 0)],ints (#v[0,0,0,0,0]).toList,ints ((#v[RowT.zero,RowT.zero,RowT.zero,RowT.zero,RowT.zero]).toList.flatMap RowT.flat)]) (parts:=[(0,[Value.int .i64 i]),(1,[(.pointer (some ⟨lg,0,none⟩))])]) rfl rfl dq (by kernel_rfl) (by kernel_rfl) rfl (fG rfl rfl (fG rfl ((rfl:[(.pointer (some ⟨lg,0,none⟩))].length=1).trans (rfl:[(.pointer none)].length=1).symm) l5)) (eP (RepT.mk i (.pointer (some ⟨lg,0,none⟩)) ViewT.zero RowT.zero MirT.zero AccT.zero 0 (.pointer none) BookT.zero false 0 0 0 (.slice none 0 0) (#v[0,0,0,0,0]) (#v[RowT.zero,RowT.zero,RowT.zero,RowT.zero,RowT.zero]))).symm) ?_
 refine XY (RepT.cells (RepT.mk i (.pointer (some ⟨lg,0,none⟩)) ViewT.zero RowT.zero MirT.zero AccT.zero 0 (.pointer none) BookT.zero false 0 0 0 (.slice none 0 0) (#v[0,0,0,0,0]) (#v[RowT.zero,RowT.zero,RowT.zero,RowT.zero,RowT.zero]))) λb28=>?_
 refine PS ?_;refine nx J10 (sr λ_ J11=>cr (H':=ED lg b28 (Gf i e0)::[ah lg [(.pointer (some ⟨d,0,none⟩)),(.int .i64 ((((bN D).recs.length:Nat):Int))),(.int .i64 ((bN D).used))] 162,P0 vr (bN D).recs,dk d (bN D).D]) (λ_ q=>bn (p:=λ_:Unit=>[ah b28 (RepT.cells ((Gf i e0).rep ⟨lg, .pointer none, .slice none 0 0⟩)) 94]) () (az [0] rfl q)) (PS ?_));refine CE QB (su) ID ?_;refine CZ ND (vC lg b28 (Gf i e0) firstV) ID λvR=>?_
 refine nx J11 (aa λ_ J12=>sr λ_ J13=>PS ?_);refine tp (eA rfl vW rfl hsl) ?_;refine PS ?_;refine nx J13 (aq ?_)
 refine bD (α:=(Nat)×(MS δ)) (λ⟨k,s⟩=>k≤(bN D).recs.length∧lr (bN D).recs (tv i e0)=lr ((bN D).recs.drop k) s) (λ⟨k,s⟩=>[(9,(.pointer (some ⟨b28,0,none⟩))),(32,vr),(33,(.int .i64 ((((bN D).recs.length:Nat):Int)))),(34,(.int .i64 (((k:Nat):Int))))]) (λ⟨k,s⟩=>[ED lg b28 s,ah lg [(.pointer (some ⟨d,0,none⟩)),(.int .i64 ((((bN D).recs.length:Nat):Int))),(.int .i64 ((bN D).used))] 162,P0 vr (bN D).recs,dk d (bN D).D]) (λ⟨k,s⟩=>(bN D).recs.length-k) (0,(tv i e0))
  ⟨aO _,rfl⟩ SB
  (λ_ s=>ak [0,0,0,0] rfl s) (λ⟨k,s⟩ hinv=>?_)
 obtain⟨hk,hrs⟩:=hinv;refine sr λ_ J14=>PS ?_
 refine ap ?_ ?_<;>intro h35;refine cr (λ_ s=>az [2] rfl s) (MY (λus=>?_));change TL _ _ _ _ _ _ _ _ _ [own vr ((bN D).recs.length) (us) 62 1,eQ us (bN D).recs 5,ED lg b28 s,ah lg [(.pointer (some ⟨d,0,none⟩)),(.int .i64 ((((bN D).recs.length:Nat):Int))),(.int .i64 ((bN D).used))] 162,dk d (bN D).D];refine yP (p:=us.length=(bN D).recs.length*1) (λw m=>m.own_len (i:=0) (lb rfl) rfl) (λhul=>?_);rw[gn]at hul;have hkl:k< (bN D).recs.length:=by omega
 refine jh 0 rfl rfl (by omega) (λg cap hv hcap=>?_);have hvq:vr= .slice (some ⟨g,0,none⟩) (bN D).recs.length cap:=hv;refine nx J14 (aa λ_ J15=>CY (qx J15 (aa λ_ J16=>aq (sr λ_ J17=>tp (bT (r:=k) hv rfl vW ow rfl rfl (by omega) (by omega) (by omega)) ?_))));refine tp (cZ (v:=(us.getD k undef)) rfl ia rfl rfl (gq 0 rfl hvq rfl) (by simp[List.getD_eq_getElem?_getD,show k<us.length by omega])) ?_;refine PS ?_;refine nx J17 (sr λ_ J18=>PS ?_);refine CF QI (vO (us.getD k undef) (bN D).recs[k]) ID (λg d s=>uP 1 hkl rfl rfl g d s) ?_;refine P3 ?_;refine XZ I5 (ints RecT.zero.flat) λb12=>?_
 refine SW 0 gh bp ?_;refine PS ?_;refine nx J18 (aa λ_ J19=>sr λ_ J20=>P2 ?_);refine ap ?_ ?_<;>intro h44;refine nx J20 (CY (sr λ_ J21=>P2 ?_));exact nx J21 (aj (ae (aJ (ae (ae (aJ (ae (WK [5] (jo rfl rfl rfl (.inr ⟨he, .inl ⟨hrs.trans (HV hkl h44),rfl,rfl⟩⟩))))))))));refine nx J20 (CN (qx J19 (ad (PS ?_))));refine LW 0 eC gh bp ?_;refine CZ QH (yu lg b28 s (io (bN D).recs[k]).1 (Me h44)) (SM [3]) λvR=>?_
 refine aw (af (ac J16 (ad (AD ?_))));refine PS ?_;refine aw ?_
 exact aL ((k+1,(ir s (io (bN D).recs[k]).1)):(Nat)×(MS δ)) ⟨by omega,hrs.trans (Jy hkl h44)⟩ (by show(bN D).recs.length- (k+1)< (bN D).recs.length-k;omega)
  SB
  (λ_ s=>az [1,1,0,0] rfl (bn (p:=λus:List Value=>[own vr (bN D).recs.length us 62 1,eQ us (bN D).recs 5]) us (ak [2,2,0,1,1] rfl s)))
 refine nx J14 (aa λ_ J22=>CN (bh (aC (aC (bC (ac J12 (sr λ_ J23=>P3 ?_)))))));refine nx J23 (aj (WK [0,0,1] (jo rfl rfl rfl ?_)));exact .inr ⟨he, .inr ⟨s,b28,lg,by rw[hrs,du (by omega)];rfl,rfl,rfl⟩⟩
def lh(k:Nat)(m:MsgT):List UInt8:=jN ((k / 5:Nat):Int) ((k%5:Nat):Int) (cQ m)
def cM(W:List (List MsgT)):List (List (List UInt8)):=(List.range 25).map λk=>(W.getD k []).map (lh k)
theorem qj(W:List (List MsgT)):(cM W).length=25:=by simp[cM]
theorem n5(W:List (List MsgT)){k:Nat}(h:k<25):(cM W).getD k []=(W.getD k []).map (lh k):=by simp[cM,h,List.getD_eq_getElem?_getD]
theorem wC(W:List (List MsgT)){k:Nat}(h:k<25)(hW:W.length=25)(l:List MsgT):(cM W).set k (l.map (lh k))=cM (W.set k l):=by
 refine List.ext_getElem? λj=>?_
 by_cases hj:j=k
 · subst hj
   rw[List.getElem?_set_self (by rw[qj];exact h)];simp[cM,h,List.getD_eq_getElem?_getD,List.getElem?_set_self (show j<W.length by omega)]
 · rw[List.getElem?_set_ne (λe=>hj e.symm)]
   unfold cM;rw[List.getElem?_map,List.getElem?_map]
   by_cases hk:j<25
   · simp[hk,List.getD_eq_getElem?_getD,List.getElem?_set_ne (λe=>hj e.symm)]
   · simp[hk]
theorem Cc{f t:Int}(hf:gP f=true)(ht:gP t=true)(m:MsgT):lh (bt f t) m=jN f t (cQ m):=by
 have h1:0≤f∧f<5:=of_decide_eq_true hf;have h2:0≤t∧t<5:=of_decide_eq_true ht;unfold lh bt;rw[show(((f.toNat*5+t.toNat) / 5:Nat):Int)=f by omega,show(((f.toNat*5+t.toNat)%5:Nat):Int)=t by omega]
theorem sO{f t:Int}(h:dv f t=true):gP f=true∧gP t=true:=by
 unfold dv at h;rw[an,an]at h;exact h.1
theorem Jb{W:List (List MsgT)}(hW:W.length=25){f:Nat}(s:SaidT):pw (cM W) ((f:Nat):Int) s.to' (jN ((f:Nat):Int) s.to' (cQ s.msg))=cM (qD W f s):=by
 unfold pw qD;cases hv:dv ((f:Nat):Int) s.to'
 · rfl
 · obtain⟨h1,h2⟩:=jb hv
   obtain⟨h3,h4⟩:=sO hv;rw[if_pos rfl,if_pos rfl,n5 W h1,←Cc h3 h4,←wC W h1 hW];unfold Be;rw[bY];split
   · rw[ec];rfl
   · rfl
theorem JB(W:List (List MsgT))(f:Nat)(s:SaidT):(qD W f s).length=W.length:=by unfold qD;split<;>simp
theorem HD(W:List (List MsgT))(f:Nat)(l:List SaidT):(g9 W f l).length=W.length:=by
 induction l generalizing W with
 |nil=>rfl
 |cons s l ih=>exact(ih _).trans (JB _ _ _)
theorem HE(W:List (List MsgT))(f:Nat)(l:List SaidT)(s:SaidT):g9 W f (l++[s])=qD (g9 W f l) f s:=by simp[g9]
theorem wA(k:Nat)(m:MsgT):(lh k m).length≤1000000:=by
 unfold lh;rw[pC];have:=tJ m;omega
theorem xm(c:Nat)(w:Int):
 DT 26 #[(.pointer (some ⟨c,0,none⟩)),(.int .i64 (w))] T0 [] (RI (.bool (gP w)) []):=by
 refine BD 15 Tryz.func26 rfl rfl rfl λw0 F hF=>sr λ_ J1=>PS ?_
 refine nx J1 (sr λ_ J2=>PS ?_);refine tp (gH rfl PC rfl rfl) ?_;refine P3 ?_;refine ap ?_ ?_<;>intro h9
 iterate 6 refine PS ?_
 refine nx J2 (aj (WK [] (av rfl rfl ?_)));exact⟨congrArg Value.bool (by unfold gP;simp only[decide_eq_decide];omega),rfl⟩;refine P2 ?_;refine UF ?_;refine UF ?_;refine P2 ?_;refine nx J2 (aj (WK [] (av rfl rfl ?_)));exact⟨congrArg Value.bool (by unfold gP;symm;exact decide_eq_false (by omega)),rfl⟩
theorem dY(c i:Nat)(hi:i<5):DT 26 #[.pointer (some ⟨c,0,none⟩), .int .i64 ((i:Nat):Int)] T0 [] (RI (.bool true) []):=by
 have:=xm c ((i:Nat):Int)
 rwa [show gP ((i:Nat):Int)=true from decide_eq_true ⟨by omega,by omega⟩]at this
theorem qm(c n i:Nat)(D M P:Nat→Value)(hi:i<5)(hM:M i= .pointer none):
 DT 21 #[(.pointer (some ⟨c,0,none⟩)),(.int .i64 (((i:Nat):Int)))] T0 [ah c (eZ n D M P) 71] (RI (.bool false) [ah c (eZ n D M P) 71]):=by
 refine BD 27 Tryz.func21 rfl rfl rfl λw0 F hF=>sr λ_ J1=>PS ?_
 refine nx J1 (sr λ_ J2=>P2 ?_);refine CE qH (dY c i hi) ID ?_;refine P4 ?_;refine FA 6 p7 oI ?_;refine IX (6+i) rk iN ?_;refine LT 0 qd (.pointer none) ?_ (hc:=by exact(xS n D M P hi).trans (congrArg some hM));refine tq (gQ rfl qd rfl rfl) ?_;refine P2 ?_
 iterate 8 refine UF ?_
 refine P2 ?_;exact nx J2 (aj (WK [0] (av rfl rfl ⟨rfl,rfl⟩)))
theorem Oy (c i : Nat) : yh Tryz.prog 77 (Ox c i) "Send" 180 := fun w => by kernel_rfl
theorem ql(c n i:Nat)(D M P:Nat→Value)(hi:i<5)(d r:Nat)(e:DS)(hD:D i= .pointer (some ⟨d,0,none⟩))(hM:M i= .pointer (some ⟨r,0,none⟩)):
 DT 21 #[(.pointer (some ⟨c,0,none⟩)),(.int .i64 (((i:Nat):Int)))] T0 [ah c (eZ n D M P) 71,dk d e] (RI (.bool (!e.dn)) [ah c (eZ n D M P) 71,dk d e]):=by
 refine BD 27 Tryz.func21 rfl rfl rfl λw0 F hF=>sr λ_ J1=>PS ?_
 refine nx J1 (sr λ_ J2=>P2 ?_);refine CE qH (dY c i hi) ID ?_;refine P4 ?_;refine FA 6 p7 oI ?_;refine IX (6+i) rk iN ?_;refine LT 0 qd (.pointer (some ⟨r,0,none⟩)) ?_ (hc:=by exact(xS n D M P hi).trans (congrArg some hM));refine tq (gH rfl qd rfl rfl) ?_
 iterate 5 refine PS ?_
 refine FA 1 p7 AS ?_;refine IX (1+i) Mt vN ?_;refine LT 0 I3 (.pointer (some ⟨d,0,none⟩)) ?_ (hc:=by exact(Ee n D M P hi).trans (congrArg some hD));refine CE OP (GX d e) (SM [1]) ?_;refine tq (nc rfl rfl rfl) ?_;refine P2 ?_;exact nx J2 (aj (WK [1,0] (av rfl rfl ⟨rfl,rfl⟩)))
theorem E7(c n i:Nat)(D M P:Nat→Value)(hi:i<5)(d:Nat)(e:DS)(hD:D i= .pointer (some ⟨d,0,none⟩))(W:List (List MsgT))(hW:W.length=25)(to':Int)(m:MsgT):
 DT 180 #[(.agg #[(.pointer (some ⟨c,0,none⟩)),(.int .i64 (((i:Nat):Int)))]),(.int .i64 (to')),(.agg (ints m.flat).toArray)] T0 [ah c (eZ n D M P) 71,dk d e,eB 110 160 5 n (cM W)] (dH (λ_ H=>H=[ah c (eZ n D M P) 71,dk d e,eB 110 160 5 n (cM (if e.dn then W else qD W i ⟨to',m⟩))])):=by
 refine BD 27 Tryz.func180 rfl rfl rfl λw0 F hF=>sr λ_ J1=>XB λb3=>?_
 refine XY (ints m.flat) λb5=>?_
 refine nx J1 (aa λ_ J2=>D2 1 2 dA ?_);refine FD 0 0 NY Ol ?_;refine LX 1 PC (.pointer (some ⟨c,0,none⟩)) ?_ (hc:=by exact rfl);refine FD 2 1 NY aP ?_;refine LX 3 Y3 (.int .i64 (((i:Nat):Int))) ?_ (hc:=by exact rfl);refine PD 4 ?_;refine FD 5 1 p7 AS ?_;refine IY 6 (1+i) Mt vN ?_;refine LX 7 I3 (.pointer (some ⟨d,0,none⟩)) ?_ (hc:=by exact(Ee n D M P hi).trans (congrArg some hD));refine AL 8 ?_;refine CE OP (GX d e) (SM [3]) ?_;refine bb ?_ ?_<;>intro h14;refine EN (PD 9 ?_);refine DN (ac J2 (CN (aS (WK [3,0,2] (bw rfl ?_)))));exact by rw[show e.dn=true by assumption];rfl
 refine EN (PD 9 ?_);refine DN (ac J2 (CY (oZ (λw=>Frm F w∧w.heap[b3]?=some (.cells ([(.pointer (some ⟨c,0,none⟩)),(.int .i64 (((i:Nat):Int)))]).toArray 77 (0,0))∧w.heap[c]?=some (.cells (eZ n D M P).toArray 71 (0,0))∧w.heap[b5]?=some (.cells (ints m.flat).toArray 136 (0,0))∧True) dA rfl (λ_ s=>⟨fE s,s.block 2 (lb rfl) rfl,s.block 3 (lb rfl) rfl,s.block 1 (lb rfl) rfl,trivial⟩) (FD 0 0 NY Ol ?_))));refine LX 1 PC (.pointer (some ⟨c,0,none⟩)) ?_ (hc:=by exact rfl);refine PD 2 ?_;refine FD 3 0 p7 AT ?_;refine LX 4 KF (.pointer (some ⟨n,0,none⟩)) ?_ (hc:=by exact BI n D M P);refine FD 5 1 NY aP ?_;refine LX 6 Y3 (.int .i64 (((i:Nat):Int))) ?_ (hc:=by exact rfl);refine PD 7 ?_;refine LY 8 bg ca aI ?_;refine AL 9 ?_;refine CR OX (DW m) ID λvR HR hR=>?_
 obtain⟨_,rfl,rfl⟩:=hR;revert vR;intro ue;refine EN (AL 10 ?_);refine CQ OY (yE n (cM W) ((i:Nat):Int) to' ue (cQ m) (tJ m) (qj W)) (SM [5]) (λg d s=>KQ (wm 0 rfl rfl g d s)) λvR HR hR=>?_
 obtain⟨_,rfl⟩:=hR;rw[Jb hW ⟨to',m⟩];refine EN (DN (WK [5,2,0] (bw rfl ?_)));exact by rw[show e.dn=false by assumption];rfl
def Ia(c n d i:Nat)(D M P:Nat→Value)(W:List (List MsgT))(e:LD)(l:List SaidT):HP:=bz [ah c (eZ n D M P) 71,dk d e.D,eB 110 160 5 n (cM (g9 W i l))]
section
variable {c n d i:Nat} {D M P:Nat→Value} {W:List (List MsgT)} {e:LD} {l:List SaidT} {H:List HP} {h:Hl}
theorem uD(s:bz (Ia c n d i D M P W e l::H) h):bz (ah c (eZ n D M P) 71::dk d e.D::eB 110 160 5 n (cM (g9 W i l))::H) h:=(cb [_,_,_] H).2 s
theorem uC(s:bz (ah c (eZ n D M P) 71::dk d e.D::eB 110 160 5 n (cM (g9 W i l))::H) h):bz (Ia c n d i D M P W e l::H) h:=(cb [_,_,_] H).1 s
end
def xM(c n d i:Nat)(D M P:Nat→Value)(hi:i<5)(hD:D i= .pointer (some ⟨d,0,none⟩))(W:List (List MsgT))(hW:W.length=25):Env LD where
 toDk:=KD
 T:=77
 ov:=Ox c i
 sf:=180
 E:=Ia c n d i D M P W
 lg g e:=GT g d ((e.cnt:Nat):Int) e.used
 me:=Oy c i
 nm:=O0
 say e l to' m _:=by
  refine Leg.Does.conv (E7 c n i D M P hi d e.D hD (g9 W i l) (by rw[HD];exact hW) to' m) (λh s=>uD s) λx H F w hp hs=>?_
  cases x with
  |returned v=>
   obtain rfl:=hp;refine⟨_,hs.mono (λh s=>uC (l:=if KD.dn e then l else l++[SaidT.mk to' m]) ?_),rfl⟩
   have q:g9 W i (if KD.dn e then l else l++[SaidT.mk to' m])=if e.D.dn then g9 W i l else qD (g9 W i l) i ⟨to',m⟩:=by
    show g9 W i (if e.D.dn then l else _)=_;split
    · rfl
    · exact HE ..
   rw[q];exact s
  |panicked c=>exact hp.elim
  |outgrown=>exact hp.elim
 put g x bs e l hok hlen:=by
  refine Leg.Does.withinR (A:=[GT g d ((e.cnt:Nat):Int) e.used,dk d e.D]) (B:=[ah c (eZ n D M P) 71,eB 110 160 5 n (cM (g9 W i l))]) (Cg g d e.cnt e.used x bs e.D hok.dk.ok (by have:=hok.dk.ws;omega) hok.used (by have:=hok.cnt;have:=hok.used;omega)) (λF g h dj=>PJ h dj) (λh s=>?_) λv H hp=>?_
  · exact az [3,1,0,0] rfl (uD (az [1,0] rfl s))
  · obtain⟨hv,rfl⟩:=hp
    exact⟨[GT g d (((e.put bs).1.cnt:Nat):Int) (e.put bs).1.used,Ia c n d i D M P W (e.put bs).1 l],λh s=>az [1,0] rfl (uC (e:=(e.put bs).1) (l:=l) (az [2,1,1,0] rfl s)),hv,rfl⟩
abbrev mD(v:Value)(l:List ReplyT):HP:=own v l.length (ints (List.flatMap ReplyT.flat l)) 175 3
abbrev HL(s:MS LD)(d r:Nat)(a:Adr):List HP:=[ah r (RepT.cells (s.rep a)) 94,GT a.lg d ((s.e.cnt:Nat):Int) s.e.used,mD a.rs s.replies,Gg a.vo s.vote]
abbrev fp(s:MS LD)(d r:Nat):HP:=pack (HL s d r)
def rj(x:Slot)(d r:Nat):HP:=match x.run with
 |some s=>fp s d r
 |none=>λ_=>True
abbrev kq(x:Slot)(d r:Nat)(p:Value):List HP:=[dk d x.dk,mD p x.past,rj x d r]
def lp(x:Slot)(d r:Nat)(p:Value):HP:=bz (kq x d r p)
structure CX where
 n:Nat
 d:Nat→Nat
 r:Nat→Nat
 p:Nat→Value
abbrev my(g:CX):Nat→Value:=λi=> .pointer (some ⟨g.d i,0,none⟩)
def yD(x:Slot)(r:Nat):Value:=match x.run with
 |some _=> .pointer (some ⟨r,0,none⟩)
 |none=> .pointer none
abbrev kh(a:CL)(r:Nat→Nat):Nat→Value:=λi=>yD (a.at' i) (r i)
abbrev rI(c:Nat)(a:CL)(g:CX):List HP:=[ah c (eZ g.n (my g) (kh a g.r) g.p) 71,eB 110 160 5 g.n (cM a.W),bz ((List.range 5).map λi=>lp (a.at' i) (g.d i) (g.r i) (g.p i))]
def gm(c:Nat)(a:CL):HP:=pack (rI c a)
section
variable {c n d i r:Nat} {D M P:Nat→Value} {W:List (List MsgT)} {s:MS LD} {H:List HP} {h:Hl} {hi:i<5} {hD:D i= .pointer (some ⟨d,0,none⟩)} {hW:W.length=25}
theorem Fw(ho:s.o=[])(q:bz (ah c (eZ n D M P) 71::dk d s.e.D::eB 110 160 5 n (cM W)::fp s d r::H) h):bz (cJ (xM c n d i D M P hi hD W hW) r s::H) h:=by
 obtain⟨a,q⟩:=fR (az [3,0,0,0] rfl q);have q2:=az [4,4,4,0,0,0,0] rfl q;have q3:=uC (i:=i) (W:=W) (e:=s.e) (l:=[]) q2;refine bn (p:=λa:Adr=>[ah r (RepT.cells (s.rep a)) 94,GT a.lg d ((s.e.cnt:Nat):Int) s.e.used,mD a.rs s.replies,Gg a.vo s.vote,Ia c n d i D M P W s.e s.o]) a ?_;rw[ho];exact az [1,1,1,1,0] rfl q3
theorem Bn(q:bz (cJ (xM c n d i D M P hi hD W hW) r s::H) h):bz (ah c (eZ n D M P) 71::dk d s.e.D::eB 110 160 5 n (cM (g9 W i s.o))::fp s.hush d r::H) h:=by
 obtain⟨a,q⟩:=fR q;have q1:bz ([ah r (RepT.cells (s.rep a)) 94,GT a.lg d ((s.e.cnt:Nat):Int) s.e.used,mD a.rs s.replies,Gg a.vo s.vote,Ia c n d i D M P W s.e s.o]++H) h:=q;have q2:=uD (az [4,0,0,0,0] rfl q1);have q3:=bn (p:=HL s.hush d r) a (az [3,3,3,3,0,0,0] rfl q2);exact az [1,1,1,0] rfl q3
end
theorem FV(c n i:Nat)(D M P:Nat→Value)(hi:i<5)(d r:Nat)(s:MS LD)(hD:D i= .pointer (some ⟨d,0,none⟩))(hM:M i= .pointer (some ⟨r,0,none⟩))(W:List (List MsgT))(hW:W.length=25)(ho:s.o=[])(hs:OkR KD s)(o:OpT)(k:Int)(hk:0≤k∧k≤4)(hch:OkCh o.change)(hrs:s.replies.length≤1000000):
 DT 9 #[(.pointer (some ⟨c,0,none⟩)),(.agg (ints (OpT.mk k ((i:Nat):Int) o.to' o.key o.n o.change o.mask o.torn o.cut).flat).toArray)] T0 [ah c (eZ n D M P) 71,dk d s.e.D,eB 110 160 5 n (cM W),fp s d r] (dH (λv H=>(s.e.D.dn=true∧v= .int .i64 4∧H=[ah c (eZ n D M P) 71,dk d s.e.D,eB 110 160 5 n (cM (W)),fp s d r])∨(s.e.D.dn=false∧v= .int .i64 (bv KD s ((OpT.mk k ((i:Nat):Int) o.to' o.key o.n o.change o.mask o.torn o.cut))).2∧H=[ah c (eZ n D M P) 71,dk d (bv KD s ((OpT.mk k ((i:Nat):Int) o.to' o.key o.n o.change o.mask o.torn o.cut))).1.hush.e.D,eB 110 160 5 n (cM (g9 W i (bv KD s ((OpT.mk k ((i:Nat):Int) o.to' o.key o.n o.change o.mask o.torn o.cut))).1.o)),fp (bv KD s ((OpT.mk k ((i:Nat):Int) o.to' o.key o.n o.change o.mask o.torn o.cut))).1.hush d r]))):=by
 refine BD 114 Tryz.func9 rfl rfl rfl λw0 F hF=>sr λ_ J1=>XY (ints (OpT.mk k ((i:Nat):Int) o.to' o.key o.n o.change o.mask o.torn o.cut).flat) λb3=>?_
 refine PS ?_;refine nx J1 (aa λ_ J2=>sr λ_ J3=>PS ?_);refine FA 1 fP aP ?_;refine LT 0 Y3 (.int .i64 (((i:Nat):Int))) ?_ (hc:=by exact bM _ rfl);refine CE qH (dY c i hi) ID ?_;refine PS ?_;refine nx J3 (CN (qx J2 (aa λ_ J4=>sr λ_ J5=>FA 0 fP aP ?_)));refine LT 0 Y3 (.int .i64 (k)) ?_ (hc:=by exact di _ rfl);refine nx J5 (aq (aa λ_ J6=>fB (α:=Unit) (λ_u=>True) (λ_u=>[(0,(.pointer (some ⟨c,0,none⟩))),(3,(.pointer (some ⟨b3,0,none⟩))),(4,(.int .i64 0)),(11,(.int .i64 (k))),(12,(.bool true))]) (λ_u=>[ah b3 (ints (OpT.mk k ((i:Nat):Int) o.to' o.key o.n o.change o.mask o.torn o.cut).flat) 35,ah c (eZ n D M P) 71,dk d s.e.D,eB 110 160 5 n (cM W),fp s d r]) (λ_u hinv=>?_) (λtl6=>?_)));have _:=hinv;refine ac J6 (CY (aa λ_ J7=>sr λ_ J8=>PS ?_));refine FA 1 fP aP ?_;refine LT 0 Y3 (.int .i64 (((i:Nat):Int))) ?_ (hc:=by exact bM _ rfl);refine CE Bk (ql c n i D M P hi d r s.e.D hD hM) (SM [1,1]) ?_;refine bb ?_ ?_<;>intro h21;refine PS ?_;refine nx J8 (CN (qx J7 (aa λ_ J9=>D2 2 0 dA ?_)));refine PD 0 ?_;refine FD 1 1 fP aP ?_;refine LX 2 Y3 (.int .i64 (((i:Nat):Int))) ?_ (hc:=by exact bM _ rfl);refine PD 3 ?_;refine FD 4 6 p7 oI ?_;refine IY 5 (6+i) rk iN ?_;refine LX 6 qd (.pointer (some ⟨r,0,none⟩)) ?_ (hc:=by exact(xS n D M P hi).trans (congrArg some hM));refine PD 7 ?_;refine FD 8 1 fP aP ?_
 refine LX 9 Y3 (.int .i64 (((i:Nat):Int))) ?_ (hc:=by exact bM _ rfl);refine ta 10 rfl (kF (cells:=#[(.pointer (some ⟨c,0,none⟩)),(.int .i64 (((i:Nat):Int)))]) rfl rfl (by as_aux_lemma=>kernel_rfl)) ?_;refine ta 11 rfl (p8 rfl NY rfl rfl) ?_;refine LY 12 fP Lj OpT.len ?_;refine AL 13 ?_;refine cr (H':=[cJ (xM c n d i D M P hi hD W hW) r s,ah b3 (ints (OpT.mk k ((i:Nat):Int) o.to' o.key o.n o.change o.mask o.torn o.cut).flat) 35]) (λ_ q=>Fw ho (az [0,0,1,1] rfl q)) (CE QU (@BH _ (xM c n d i D M P hi hD W hW) r s ((OpT.mk k ((i:Nat):Int) o.to' o.key o.n o.change o.mask o.torn o.cut)) hs hch hrs) ID ?_);change TL _ _ _ _ _ _ _ _ _ [cJ (xM c n d i D M P hi hD W hW) r ((bv KD s ((OpT.mk k ((i:Nat):Int) o.to' o.key o.n o.change o.mask o.torn o.cut))).1),ah b3 (ints (OpT.mk k ((i:Nat):Int) o.to' o.key o.n o.change o.mask o.torn o.cut).flat) 35];refine cr (H':=[ah c (eZ n D M P) 71,dk d (((bv KD s ((OpT.mk k ((i:Nat):Int) o.to' o.key o.n o.change o.mask o.torn o.cut))).1).e.D),eB 110 160 5 n (cM (g9 W i ((bv KD s ((OpT.mk k ((i:Nat):Int) o.to' o.key o.n o.change o.mask o.torn o.cut))).1).o)),fp (((bv KD s ((OpT.mk k ((i:Nat):Int) o.to' o.key o.n o.change o.mask o.torn o.cut))).1).hush) d r,ah b3 (ints (OpT.mk k ((i:Nat):Int) o.to' o.key o.n o.change o.mask o.torn o.cut).flat) 35]) (λ_ q=>Bn (s:=(bv KD s ((OpT.mk k ((i:Nat):Int) o.to' o.key o.n o.change o.mask o.torn o.cut))).1) q) (EN (PD 14 ?_))
 refine DN (ac J9 (aj (aJ (ae (WK [0,0,0,0] (av rfl rfl ?_))))));exact .inr ⟨(by simpa using h21),rfl,rfl⟩;refine PS ?_;refine nx J8 (CY (sr λ_ J10=>PS ?_));refine nx J10 (aj (ae (aJ (ae (WK [0,0,1,1] (av rfl rfl ?_))))));exact .inl ⟨(by simpa using h21),rfl,rfl⟩;refine sr λ_ J11=>P2 ?_
 refine ap ?_ ?_<;>intro h12;refine nx J11 (CY (aS ?_))
 exact aF
  SB
  (λ_ s=>ak [0,0,0,0,0] rfl s)
  (tl6 (():Unit) trivial)
 refine nx J11 (CN (sr λ_ J12=>P2 ?_));refine ap ?_ ?_<;>intro h12;refine nx J12 (CY (aS ?_))
 exact aF
  SB
  (λ_ s=>ak [0,0,0,0,0] rfl s)
  (tl6 (():Unit) trivial)
 refine nx J12 (CN (sr λ_ J13=>P2 ?_));refine ap ?_ ?_<;>intro h12;refine nx J13 (CY (aS ?_))
 exact aF
  SB
  (λ_ s=>ak [0,0,0,0,0] rfl s)
  (tl6 (():Unit) trivial)
 refine nx J13 (CN (sr λ_ J14=>P2 ?_));refine ap ?_ ?_<;>intro h12;refine nx J14 (CY (aS ?_))
 exact aF
  SB
  (λ_ s=>ak [0,0,0,0,0] rfl s)
  (tl6 (():Unit) trivial)
 refine nx J14 (CN (ad (PS ?_)));refine ap ?_ ?_<;>intro h17;refine PS ?_;refine aw ?_
 exact aF
  SB
  (λ_ s=>ak [0,0,0,0,0] rfl s)
  (tl6 (():Unit) trivial)
 · exact absurd h17 (by omega)
theorem D7(c n i:Nat)(D M P:Nat→Value)(hi:i<5)(hM:M i= .pointer none)(o:OpT)(k:Int)(hk:0≤k∧k≤4):
 DT 9 #[(.pointer (some ⟨c,0,none⟩)),(.agg (ints (OpT.mk k ((i:Nat):Int) o.to' o.key o.n o.change o.mask o.torn o.cut).flat).toArray)] T0 [ah c (eZ n D M P) 71] (RI (.int .i64 4) [ah c (eZ n D M P) 71]):=by
 refine BD 114 Tryz.func9 rfl rfl rfl λw0 F hF=>sr λ_ J1=>XY (ints (OpT.mk k ((i:Nat):Int) o.to' o.key o.n o.change o.mask o.torn o.cut).flat) λb3=>?_
 refine PS ?_;refine nx J1 (aa λ_ J2=>sr λ_ J3=>PS ?_);refine FA 1 fP aP ?_;refine LT 0 Y3 (.int .i64 (((i:Nat):Int))) ?_ (hc:=by exact bM _ rfl);refine CE qH (dY c i hi) ID ?_;refine PS ?_;refine nx J3 (CN (qx J2 (aa λ_ J4=>sr λ_ J5=>FA 0 fP aP ?_)));refine LT 0 Y3 (.int .i64 (k)) ?_ (hc:=by exact di _ rfl);refine nx J5 (aq (aa λ_ J6=>fB (α:=Unit) (λ_u=>True) (λ_u=>[(0,(.pointer (some ⟨c,0,none⟩))),(3,(.pointer (some ⟨b3,0,none⟩))),(4,(.int .i64 0)),(11,(.int .i64 (k))),(12,(.bool true))]) (λ_u=>[ah b3 (ints (OpT.mk k ((i:Nat):Int) o.to' o.key o.n o.change o.mask o.torn o.cut).flat) 35,ah c (eZ n D M P) 71]) (λ_u hinv=>?_) (λtl6=>?_)));have _:=hinv;refine ac J6 (CY (aa λ_ J7=>sr λ_ J8=>PS ?_));refine FA 1 fP aP ?_;refine LT 0 Y3 (.int .i64 (((i:Nat):Int))) ?_ (hc:=by exact bM _ rfl);refine CE Bk (qm c n i D M P hi hM) (SM [1]) ?_;refine PS ?_;refine nx J8 (CY (sr λ_ J9=>PS ?_));exact nx J9 (aj (ae (aJ (ae (WK [0] (av rfl rfl ⟨rfl,rfl⟩))))));refine sr λ_ J10=>P2 ?_
 refine ap ?_ ?_<;>intro h12;refine nx J10 (CY (aS ?_))
 exact aF
  SB
  (λ_ s=>ak [0,0] rfl s)
  (tl6 (():Unit) trivial)
 refine nx J10 (CN (sr λ_ J11=>P2 ?_));refine ap ?_ ?_<;>intro h12;refine nx J11 (CY (aS ?_))
 exact aF
  SB
  (λ_ s=>ak [0,0] rfl s)
  (tl6 (():Unit) trivial)
 refine nx J11 (CN (sr λ_ J12=>P2 ?_));refine ap ?_ ?_<;>intro h12;refine nx J12 (CY (aS ?_))
 exact aF
  SB
  (λ_ s=>ak [0,0] rfl s)
  (tl6 (():Unit) trivial)
 refine nx J12 (CN (sr λ_ J13=>P2 ?_));refine ap ?_ ?_<;>intro h12;refine nx J13 (CY (aS ?_))
 exact aF
  SB
  (λ_ s=>ak [0,0] rfl s)
  (tl6 (():Unit) trivial)
 refine nx J13 (CN (ad (PS ?_)));refine ap ?_ ?_<;>intro h17;refine PS ?_;refine aw ?_
 exact aF
  SB
  (λ_ s=>ak [0,0] rfl s)
  (tl6 (():Unit) trivial)
 · exact absurd h17 (by omega)
theorem FQ(c n i:Nat)(D M P:Nat→Value)(hi:i<5)(d r:Nat)(s:MS LD)(hD:D i= .pointer (some ⟨d,0,none⟩))(hM:M i= .pointer (some ⟨r,0,none⟩))(W:List (List MsgT))(hW:W.length=25)(ho:s.o=[])(hs:OkR KD s)(o:OpT):
 DT 9 #[(.pointer (some ⟨c,0,none⟩)),(.agg (ints (OpT.mk 8 ((i:Nat):Int) o.to' o.key o.n o.change o.mask o.torn o.cut).flat).toArray)] T0 [ah c (eZ n D M P) 71,dk d s.e.D,eB 110 160 5 n (cM W),fp s d r] (dH (λv H=>(s.e.D.dn=true∧v= .int .i64 4∧H=[ah c (eZ n D M P) 71,dk d s.e.D,eB 110 160 5 n (cM (W)),fp s d r])∨(s.e.D.dn=false∧v= .int .i64 0∧H=[ah c (eZ n D M P) 71,dk d (gU KD s).hush.e.D,eB 110 160 5 n (cM (g9 W i (gU KD s).o)),fp (gU KD s).hush d r]))):=by
 refine BD 114 Tryz.func9 rfl rfl rfl λw0 F hF=>sr λ_ J1=>XY (ints (OpT.mk 8 ((i:Nat):Int) o.to' o.key o.n o.change o.mask o.torn o.cut).flat) λb3=>?_
 refine PS ?_;refine nx J1 (aa λ_ J2=>sr λ_ J3=>PS ?_);refine FA 1 fP aP ?_;refine LT 0 Y3 (.int .i64 (((i:Nat):Int))) ?_ (hc:=by exact bM _ rfl);refine CE qH (dY c i hi) ID ?_;refine PS ?_;refine nx J3 (CN (qx J2 (aa λ_ J4=>sr λ_ J5=>FA 0 fP aP ?_)));refine LT 0 Y3 (.int .i64 8) ?_ (hc:=by exact di _ rfl);refine nx J5 (aq (aa λ_ J6=>sr λ_ J7=>P2 ?_));refine nx J7 (CN (sr λ_ J8=>P2 ?_));refine nx J8 (CN (sr λ_ J9=>P2 ?_));refine nx J9 (CN (sr λ_ J10=>P2 ?_));refine nx J10 (CN (ad (P2 ?_)));refine nx J6 (CN (aa λ_ J11=>sr λ_ J12=>P2 ?_));refine nx J12 (CN (sr λ_ J13=>P2 ?_));refine nx J13 (CN (ad (P2 ?_)));refine nx J11 (CN (sr λ_ J14=>P2 ?_));refine nx J14 (CY (aa λ_ J15=>sr λ_ J16=>PS ?_));refine FA 1 fP aP ?_;refine LT 0 Y3 (.int .i64 (((i:Nat):Int))) ?_ (hc:=by exact bM _ rfl);refine CE Bk (ql c n i D M P hi d r s.e.D hD hM) (SM [1,1]) ?_;refine bb ?_ ?_<;>intro h49;refine PS ?_;refine nx J16 (CN (qx J15 (D2 2 0 dA ?_)));refine PD 0 ?_;refine FD 1 1 fP aP ?_;refine LX 2 Y3 (.int .i64 (((i:Nat):Int))) ?_ (hc:=by exact bM _ rfl);refine PD 3 ?_;refine FD 4 6 p7 oI ?_;refine IY 5 (6+i) rk iN ?_;refine LX 6 qd (.pointer (some ⟨r,0,none⟩)) ?_ (hc:=by exact(xS n D M P hi).trans (congrArg some hM));refine PD 7 ?_;refine FD 8 1 fP aP ?_;refine LX 9 Y3 (.int .i64 (((i:Nat):Int))) ?_ (hc:=by exact bM _ rfl)
 refine ta 10 rfl (kF (cells:=#[(.pointer (some ⟨c,0,none⟩)),(.int .i64 (((i:Nat):Int)))]) rfl rfl (by as_aux_lemma=>kernel_rfl)) ?_;refine ta 11 rfl (p8 rfl NY rfl rfl) ?_;refine AL 12 ?_;refine cr (H':=[cJ (xM c n d i D M P hi hD W hW) r s,ah b3 (ints (OpT.mk 8 ((i:Nat):Int) o.to' o.key o.n o.change o.mask o.torn o.cut).flat) 35]) (λ_ q=>Fw ho (az [0,0,1,1] rfl q)) (CZ QS (@EO _ (xM c n d i D M P hi hD W hW) r s hs) ID λvR=>?_);change TL _ _ _ _ _ _ _ _ _ [cJ (xM c n d i D M P hi hD W hW) r (gU KD s),ah b3 (ints (OpT.mk 8 ((i:Nat):Int) o.to' o.key o.n o.change o.mask o.torn o.cut).flat) 35];refine cr (H':=[ah c (eZ n D M P) 71,dk d ((gU KD s).e.D),eB 110 160 5 n (cM (g9 W i (gU KD s).o)),fp ((gU KD s).hush) d r,ah b3 (ints (OpT.mk 8 ((i:Nat):Int) o.to' o.key o.n o.change o.mask o.torn o.cut).flat) 35]) (λ_ q=>Bn (s:=(gU KD s)) q) (EN (DN (af (ac J4 (sr λ_ J17=>PS ?_)))));refine nx J17 (aj (WK [0,0,0,0] (av rfl rfl ?_)));exact .inr ⟨(by simpa using h49),rfl,rfl⟩;refine PS ?_;refine nx J16 (CY (sr λ_ J18=>PS ?_));refine nx J18 (aj (ae (aJ (ae (WK [0,0,1,1] (av rfl rfl ?_))))));exact .inl ⟨(by simpa using h49),rfl,rfl⟩
theorem D4(c n i:Nat)(D M P:Nat→Value)(hi:i<5)(hM:M i= .pointer none)(o:OpT):
 DT 9 #[(.pointer (some ⟨c,0,none⟩)),(.agg (ints (OpT.mk 8 ((i:Nat):Int) o.to' o.key o.n o.change o.mask o.torn o.cut).flat).toArray)] T0 [ah c (eZ n D M P) 71] (RI (.int .i64 4) [ah c (eZ n D M P) 71]):=by
 refine BD 114 Tryz.func9 rfl rfl rfl λw0 F hF=>sr λ_ J1=>XY (ints (OpT.mk 8 ((i:Nat):Int) o.to' o.key o.n o.change o.mask o.torn o.cut).flat) λb3=>?_
 refine PS ?_;refine nx J1 (aa λ_ J2=>sr λ_ J3=>PS ?_);refine FA 1 fP aP ?_;refine LT 0 Y3 (.int .i64 (((i:Nat):Int))) ?_ (hc:=by exact bM _ rfl);refine CE qH (dY c i hi) ID ?_;refine PS ?_;refine nx J3 (CN (qx J2 (aa λ_ J4=>sr λ_ J5=>FA 0 fP aP ?_)));refine LT 0 Y3 (.int .i64 8) ?_ (hc:=by exact di _ rfl);refine nx J5 (aq (aa λ_ J6=>sr λ_ J7=>P2 ?_));refine nx J7 (CN (sr λ_ J8=>P2 ?_));refine nx J8 (CN (sr λ_ J9=>P2 ?_));refine nx J9 (CN (sr λ_ J10=>P2 ?_));refine nx J10 (CN (ad (P2 ?_)));refine nx J6 (CN (aa λ_ J11=>sr λ_ J12=>P2 ?_));refine nx J12 (CN (sr λ_ J13=>P2 ?_));refine nx J13 (CN (ad (P2 ?_)));refine nx J11 (CN (sr λ_ J14=>P2 ?_));refine nx J14 (CY (aa λ_ J15=>sr λ_ J16=>PS ?_));refine FA 1 fP aP ?_;refine LT 0 Y3 (.int .i64 (((i:Nat):Int))) ?_ (hc:=by exact bM _ rfl);refine CE Bk (qm c n i D M P hi hM) (SM [1]) ?_;refine PS ?_;refine nx J16 (CY (sr λ_ J17=>PS ?_));exact nx J17 (aj (ae (aJ (ae (WK [0] (av rfl rfl ⟨rfl,rfl⟩))))))
theorem HQ(s:MS LD)(d r:Nat)(h:s.replies.length≤1000000):DT 72 #[.pointer (some ⟨r,0,none⟩)] T0 [fp s d r] (dH λv H=>∃u,v=u∧H=[fp s d r,mD u s.replies]):=
 Leg.Does.pack (B:=[]) λa=>Leg.Does.withinR (A:=[ah r (RepT.cells (s.rep a)) 94,mD a.rs s.replies]) (B:=[GT a.lg d ((s.e.cnt:Nat):Int) s.e.used,Gg a.vo s.vote]) (A7 r (s.rep a) s.replies h) (λ_ _ _ _=>trivial) (λ_ q=>az [0,1,0,0] rfl q) λv H hp=>by
  obtain⟨u,rfl,rfl⟩:=hp;exact⟨_,λ_ q=>bn (p:=HL s d r) (H:=[mD v s.replies]) a (az [0,2,0,1,0] rfl q),v,rfl,rfl⟩
theorem Fh(c n i:Nat)(D M P:Nat→Value)(hi:i<5)(hM:M i= .pointer none)(pl:List ReplyT)(hpl:pl.length≤100000):
 DT 31 #[(.pointer (some ⟨c,0,none⟩)),(.int .i64 (((i:Nat):Int)))] T0 [ah c (eZ n D M P) 71,own (P i) ((pl).length) (ints (List.flatMap ReplyT.flat (pl))) 175 3] (dH (λv H=>∃u,u.oneCell'=true∧v=u∧H=[ah c (eZ n D M P) 71,mD (P i) pl,mD u pl])):=by
 refine BD 34 Tryz.func31 rfl rfl rfl λw0 F hF=>sr λ_ J1=>PS ?_
 refine nx J1 (aa λ_ J2=>sr λ_ J3=>P2 ?_);refine CE qH (dY c i hi) ID ?_;refine PS ?_;refine nx J3 (CN (qx J2 (sr λ_ J4=>P3 ?_)));refine FA 11 p7 Li ?_;refine IX (11+i) P6 yr ?_;refine LT 0 KY (P i) ?_ (hc:=by exact Pw n D M P hi);refine PE 175 3 (λ_=>cL (k:=0) (news:=ints (List.flatMap ReplyT.flat (pl))) (nn':=(pl).length) (xs':=ints (List.flatMap ReplyT.flat (pl))) (ab rfl) rfl rfl rfl KY Aa rfl rfl rfl rfl rfl rfl (λ_ s=>Rr 2 rfl rfl s) (bA _) (by simp only[maxLen];omega) (by omega) (by simp) (by simp) (λv16 ov16=>PS ?_));refine nx J4 (aa λ_ J5=>sr λ_ J6=>P3 ?_);refine FA 6 p7 oI ?_;refine IX (6+i) rk iN ?_;refine LT 1 qd (.pointer none) ?_ (hc:=by exact(xS n D M P hi).trans (congrArg some hM));refine tp (gQ rfl qd rfl rfl) ?_;refine nx J6 (CN (qx J5 (sr λ_ J7=>P2 ?_)));exact nx J7 (aj (WK [1,1,0] (av rfl rfl ⟨_,ov16,rfl,rfl⟩)))
theorem Fg(c n i:Nat)(D M P:Nat→Value)(hi:i<5)(d:Nat)(r:Nat)(s:MS LD)(hM:M i= .pointer (some ⟨r,0,none⟩))(pl:List ReplyT)(hpl:pl.length≤100000)(hrs:s.replies.length≤100000):
 DT 31 #[(.pointer (some ⟨c,0,none⟩)),(.int .i64 (((i:Nat):Int)))] T0 [ah c (eZ n D M P) 71,own (P i) ((pl).length) (ints (List.flatMap ReplyT.flat (pl))) 175 3,fp s d r] (dH (λv H=>∃u,u.oneCell'=true∧v=u∧H=[ah c (eZ n D M P) 71,mD (P i) pl,fp s d r,mD u (pl++s.replies)])):=by
 refine BD 34 Tryz.func31 rfl rfl rfl λw0 F hF=>sr λ_ J1=>PS ?_
 refine nx J1 (aa λ_ J2=>sr λ_ J3=>P2 ?_);refine CE qH (dY c i hi) ID ?_;refine PS ?_;refine nx J3 (CN (qx J2 (sr λ_ J4=>P3 ?_)));refine FA 11 p7 Li ?_;refine IX (11+i) P6 yr ?_;refine LT 0 KY (P i) ?_ (hc:=by exact Pw n D M P hi);refine PE 175 3 (λ_=>cL (k:=0) (news:=ints (List.flatMap ReplyT.flat (pl))) (nn':=(pl).length) (xs':=ints (List.flatMap ReplyT.flat (pl))) (ab rfl) rfl rfl rfl KY Aa rfl rfl rfl rfl rfl rfl (λ_ s=>Rr 2 rfl rfl s) (bA _) (by simp only[maxLen];omega) (by omega) (by simp) (by simp) (λv16 ov16=>PS ?_));refine nx J4 (aa λ_ J5=>sr λ_ J6=>P3 ?_);refine FA 6 p7 oI ?_;refine IX (6+i) rk iN ?_;refine LT 1 qd (.pointer (some ⟨r,0,none⟩)) ?_ (hc:=by exact(xS n D M P hi).trans (congrArg some hM));refine tp (gH rfl qd rfl rfl) ?_;refine nx J6 (CY (ad (P4 ?_)));refine FA 6 p7 oI ?_;refine IX (6+i) rk iN ?_;refine LT 1 qd (.pointer (some ⟨r,0,none⟩)) ?_ (hc:=by exact(xS n D M P hi).trans (congrArg some hM));refine CR QD (HQ s d r (by omega)) (SM [3]) λvR HR hR=>?_
 obtain⟨_,rfl,rfl⟩:=hR;revert vR;intro ur;refine cL (k:=2) (news:=ints (List.flatMap ReplyT.flat (s.replies))) (nn':=(pl++s.replies).length) (xs':=ints (List.flatMap ReplyT.flat (pl++s.replies))) (ab rfl) rfl rfl rfl KY Aa rfl rfl rfl rfl rfl rfl (λ_ s=>Rr 1 rfl rfl s) (bA _) (by simp only[maxLen];omega) (by omega) (by rw[ai]) (by simp[ints]) (λv32 ov32=>PS ?_);refine nx J5 (sr λ_ J7=>P2 ?_);exact nx J7 (aj (WK [3,3,0,1] (av rfl rfl ⟨_,ov32,rfl,rfl⟩)))
theorem FX(c n i:Nat)(D M P:Nat→Value)(hi:i<5)(d:Nat)(hD:D i= .pointer (some ⟨d,0,none⟩))(e:DS)(o:OpT):
 DT 9 #[(.pointer (some ⟨c,0,none⟩)),(.agg (ints (OpT.mk 9 ((i:Nat):Int) o.to' o.key o.n o.change o.mask o.torn o.cut).flat).toArray)] T0 [ah c (eZ n D M P) 71,dk d e] (RI (.int .i64 0) [ah c (eZ n D M P) 71,dk d (e.arm o.n)]):=by
 refine BD 114 Tryz.func9 rfl rfl rfl λw0 F hF=>sr λ_ J1=>XY (ints (OpT.mk 9 ((i:Nat):Int) o.to' o.key o.n o.change o.mask o.torn o.cut).flat) λb3=>?_
 refine PS ?_;refine nx J1 (aa λ_ J2=>sr λ_ J3=>PS ?_);refine FA 1 fP aP ?_;refine LT 0 Y3 (.int .i64 (((i:Nat):Int))) ?_ (hc:=by exact bM _ rfl);refine CE qH (dY c i hi) ID ?_;refine PS ?_;refine nx J3 (CN (qx J2 (aa λ_ J4=>sr λ_ J5=>FA 0 fP aP ?_)));refine LT 0 Y3 (.int .i64 9) ?_ (hc:=by exact di _ rfl);refine nx J5 (aq (aa λ_ J6=>sr λ_ J7=>P2 ?_));refine nx J7 (CN (sr λ_ J8=>P2 ?_));refine nx J8 (CN (sr λ_ J9=>P2 ?_));refine nx J9 (CN (sr λ_ J10=>P2 ?_));refine nx J10 (CN (ad (P2 ?_)));refine nx J6 (CN (aa λ_ J11=>sr λ_ J12=>P2 ?_));refine nx J12 (CN (sr λ_ J13=>P2 ?_));refine nx J13 (CN (ad (P2 ?_)));refine nx J11 (CN (sr λ_ J14=>P2 ?_));refine nx J14 (CN (sr λ_ J15=>P2 ?_));refine nx J15 (CY (D2 0 1 dA ?_));refine PD 0 ?_;refine FD 1 1 fP aP ?_;refine LX 2 Y3 (.int .i64 (((i:Nat):Int))) ?_ (hc:=by exact bM _ rfl);refine PD 3 ?_;refine FD 4 1 p7 AS ?_;refine IY 5 (1+i) Mt vN ?_;refine LX 6 I3 (.pointer (some ⟨d,0,none⟩)) ?_ (hc:=by exact(Ee n D M P hi).trans (congrArg some hD));refine FD 7 4 fP aP ?_;refine LX 8 Y3 (.int .i64 (o.n)) ?_ (hc:=by exact yg _ rfl);refine AL 9 ?_;refine CR QR (NS d e o.n) (SM [2]) λvR HR hR=>?_
 obtain⟨_,rfl⟩:=hR;refine EN (DN (af (ac J4 (sr λ_ J16=>PS ?_))));exact nx J16 (aj (WK [2,0] (av rfl rfl ⟨rfl,rfl⟩)))
theorem FT(c n i:Nat)(D M P:Nat→Value)(hi:i<5)(d:Nat)(hD:D i= .pointer (some ⟨d,0,none⟩))(r:Nat)(s:MS LD)(hM:M i= .pointer (some ⟨r,0,none⟩))(pl:List ReplyT)(hpl:pl.length≤100000)(hrs:s.replies.length≤100000)(e:DS)(hok:e.Ok)(o:OpT):
 DT 9 #[(.pointer (some ⟨c,0,none⟩)),(.agg (ints (OpT.mk 10 ((i:Nat):Int) o.to' o.key o.n o.change o.mask o.torn o.cut).flat).toArray)] T0 [ah c (eZ n D M P) 71,dk d e,own (P i) ((pl).length) (ints (List.flatMap ReplyT.flat (pl))) 175 3,fp s d r] (dH (λv H=>∃u,u.oneCell'=true∧v= .int .i64 0∧H=[ah c (eZ n D (kT M i (.pointer none)) (kT P i u)) 71,dk d (e.crash o.mask o.torn o.cut),mD u (pl++s.replies)])):=by
 refine BD 114 Tryz.func9 rfl rfl rfl λw0 F hF=>sr λ_ J1=>XY (ints (OpT.mk 10 ((i:Nat):Int) o.to' o.key o.n o.change o.mask o.torn o.cut).flat) λb3=>?_
 refine PS ?_;refine nx J1 (aa λ_ J2=>sr λ_ J3=>PS ?_);refine FA 1 fP aP ?_;refine LT 0 Y3 (.int .i64 (((i:Nat):Int))) ?_ (hc:=by exact bM _ rfl);refine CE qH (dY c i hi) ID ?_;refine PS ?_;refine nx J3 (CN (qx J2 (aa λ_ J4=>sr λ_ J5=>FA 0 fP aP ?_)));refine LT 0 Y3 (.int .i64 10) ?_ (hc:=by exact di _ rfl);refine nx J5 (aq (aa λ_ J6=>sr λ_ J7=>P2 ?_));refine nx J7 (CN (sr λ_ J8=>P2 ?_));refine nx J8 (CN (sr λ_ J9=>P2 ?_));refine nx J9 (CN (sr λ_ J10=>P2 ?_));refine nx J10 (CN (ad (P2 ?_)));refine nx J6 (CN (aa λ_ J11=>sr λ_ J12=>P2 ?_));refine nx J12 (CN (sr λ_ J13=>P2 ?_));refine nx J13 (CN (ad (P2 ?_)));refine nx J11 (CN (sr λ_ J14=>P2 ?_));refine nx J14 (CN (sr λ_ J15=>P2 ?_));refine nx J15 (CN (sr λ_ J16=>P2 ?_));refine nx J16 (CY (aa λ_ J17=>D1 0 dA ?_));refine PD 0 ?_;refine FD 1 1 fP aP ?_;refine LX 2 Y3 (.int .i64 (((i:Nat):Int))) ?_ (hc:=by exact bM _ rfl);refine PD 3 ?_;refine FD 4 1 fP aP ?_;refine LX 5 Y3 (.int .i64 (((i:Nat):Int))) ?_ (hc:=by exact bM _ rfl);refine PD 7 ?_;refine FD 8 11 p7 Li ?_;refine AL 6 ?_;refine CR OT (Fg c n i D M P hi d r s hM pl hpl hrs) (SM [1,2,2]) λvR HR hR=>?_
 obtain⟨_,huc,rfl,rfl⟩:=hR;revert vR;intro uc huc;refine EN (IY 9 (11+i) P6 yr ?_);refine AL 10 ?_;refine bO (i:=0) (ab rfl) rfl rfl rfl rfl huc yr rfl rfl (by rw[sv];omega) (G4 n D M P uc hi) rfl (EN (DN (ac J17 (aa λ_ J18=>D1 4 dA ?_))));refine PD 0 ?_;refine FD 1 1 fP aP ?_;refine LX 2 Y3 (.int .i64 (((i:Nat):Int))) ?_ (hc:=by exact bM _ rfl);refine PD 3 ?_;refine FD 4 6 p7 oI ?_;refine IY 5 (6+i) rk iN ?_;refine AL 6 ?_;refine bO (i:=0) (ab rfl) rfl rfl rfl rfl rfl iN rfl rfl (by rw[sv];omega) (wn n D M (kT P i uc) (.pointer none) hi) rfl (EN (DN (ac J18 (D2 4 0 dA ?_))));refine PD 0 ?_;refine FD 1 1 fP aP ?_;refine LX 2 Y3 (.int .i64 (((i:Nat):Int))) ?_ (hc:=by exact bM _ rfl);refine PD 3 ?_;refine FD 4 1 p7 AS ?_;refine IY 5 (1+i) Mt vN ?_;refine LX 6 I3 (.pointer (some ⟨d,0,none⟩)) ?_ (hc:=by exact(Ee n D (kT M i (.pointer none)) (kT P i uc) hi).trans (congrArg some hD));refine FD 7 8 fP aP ?_;refine LX 8 Y3 (.int .i64 (o.mask)) ?_ (hc:=by exact OpT.at_mask _ rfl);refine FD 9 9 fP aP ?_;refine LX 10 Y3 (.int .i64 (o.torn)) ?_ (hc:=by exact OpT.at_torn _ rfl);refine FD 11 10 fP aP ?_;refine LX 12 Y3 (.int .i64 (o.cut)) ?_ (hc:=by exact OpT.at_cut _ rfl);refine AL 13 ?_;refine CR OS (D8 d e o.mask o.torn o.cut hok) (SM [5]) λvR HR hR=>?_
 obtain⟨_,rfl⟩:=hR;refine EN (DN (af (ac J4 (sr λ_ J19=>PS ?_))));exact nx J19 (aj (WK [1,0,2] (av rfl rfl ⟨uc,huc,rfl,rfl⟩)))
theorem FU(c n i:Nat)(D M P:Nat→Value)(hi:i<5)(d:Nat)(hD:D i= .pointer (some ⟨d,0,none⟩))(hM:M i= .pointer none)(pl:List ReplyT)(hpl:pl.length≤100000)(e:DS)(hok:e.Ok)(o:OpT):
 DT 9 #[(.pointer (some ⟨c,0,none⟩)),(.agg (ints (OpT.mk 10 ((i:Nat):Int) o.to' o.key o.n o.change o.mask o.torn o.cut).flat).toArray)] T0 [ah c (eZ n D M P) 71,dk d e,own (P i) ((pl).length) (ints (List.flatMap ReplyT.flat (pl))) 175 3] (dH (λv H=>∃u,u.oneCell'=true∧v= .int .i64 0∧H=[ah c (eZ n D (kT M i (.pointer none)) (kT P i u)) 71,dk d (e.crash o.mask o.torn o.cut),mD u pl])):=by
 refine BD 114 Tryz.func9 rfl rfl rfl λw0 F hF=>sr λ_ J1=>XY (ints (OpT.mk 10 ((i:Nat):Int) o.to' o.key o.n o.change o.mask o.torn o.cut).flat) λb3=>?_
 refine PS ?_;refine nx J1 (aa λ_ J2=>sr λ_ J3=>PS ?_);refine FA 1 fP aP ?_;refine LT 0 Y3 (.int .i64 (((i:Nat):Int))) ?_ (hc:=by exact bM _ rfl);refine CE qH (dY c i hi) ID ?_;refine PS ?_;refine nx J3 (CN (qx J2 (aa λ_ J4=>sr λ_ J5=>FA 0 fP aP ?_)));refine LT 0 Y3 (.int .i64 10) ?_ (hc:=by exact di _ rfl);refine nx J5 (aq (aa λ_ J6=>sr λ_ J7=>P2 ?_));refine nx J7 (CN (sr λ_ J8=>P2 ?_));refine nx J8 (CN (sr λ_ J9=>P2 ?_));refine nx J9 (CN (sr λ_ J10=>P2 ?_));refine nx J10 (CN (ad (P2 ?_)));refine nx J6 (CN (aa λ_ J11=>sr λ_ J12=>P2 ?_));refine nx J12 (CN (sr λ_ J13=>P2 ?_));refine nx J13 (CN (ad (P2 ?_)));refine nx J11 (CN (sr λ_ J14=>P2 ?_));refine nx J14 (CN (sr λ_ J15=>P2 ?_));refine nx J15 (CN (sr λ_ J16=>P2 ?_));refine nx J16 (CY (aa λ_ J17=>D1 0 dA ?_));refine PD 0 ?_;refine FD 1 1 fP aP ?_;refine LX 2 Y3 (.int .i64 (((i:Nat):Int))) ?_ (hc:=by exact bM _ rfl);refine PD 3 ?_;refine FD 4 1 fP aP ?_;refine LX 5 Y3 (.int .i64 (((i:Nat):Int))) ?_ (hc:=by exact bM _ rfl);refine PD 7 ?_;refine FD 8 11 p7 Li ?_;refine AL 6 ?_;refine CR OT (Fh c n i D M P hi hM pl hpl) (SM [1,2]) λvR HR hR=>?_
 obtain⟨_,huc,rfl,rfl⟩:=hR;revert vR;intro uc huc;refine EN (IY 9 (11+i) P6 yr ?_);refine AL 10 ?_;refine bO (i:=0) (ab rfl) rfl rfl rfl rfl huc yr rfl rfl (by rw[sv];omega) (G4 n D M P uc hi) rfl (EN (DN (ac J17 (aa λ_ J18=>D1 3 dA ?_))));refine PD 0 ?_;refine FD 1 1 fP aP ?_;refine LX 2 Y3 (.int .i64 (((i:Nat):Int))) ?_ (hc:=by exact bM _ rfl);refine PD 3 ?_;refine FD 4 6 p7 oI ?_;refine IY 5 (6+i) rk iN ?_;refine AL 6 ?_;refine bO (i:=0) (ab rfl) rfl rfl rfl rfl rfl iN rfl rfl (by rw[sv];omega) (wn n D M (kT P i uc) (.pointer none) hi) rfl (EN (DN (ac J18 (D2 3 0 dA ?_))));refine PD 0 ?_;refine FD 1 1 fP aP ?_;refine LX 2 Y3 (.int .i64 (((i:Nat):Int))) ?_ (hc:=by exact bM _ rfl);refine PD 3 ?_;refine FD 4 1 p7 AS ?_;refine IY 5 (1+i) Mt vN ?_;refine LX 6 I3 (.pointer (some ⟨d,0,none⟩)) ?_ (hc:=by exact(Ee n D (kT M i (.pointer none)) (kT P i uc) hi).trans (congrArg some hD));refine FD 7 8 fP aP ?_;refine LX 8 Y3 (.int .i64 (o.mask)) ?_ (hc:=by exact OpT.at_mask _ rfl);refine FD 9 9 fP aP ?_;refine LX 10 Y3 (.int .i64 (o.torn)) ?_ (hc:=by exact OpT.at_torn _ rfl);refine FD 11 10 fP aP ?_;refine LX 12 Y3 (.int .i64 (o.cut)) ?_ (hc:=by exact OpT.at_cut _ rfl);refine AL 13 ?_;refine CR OS (D8 d e o.mask o.torn o.cut hok) (SM [4]) λvR HR hR=>?_
 obtain⟨_,rfl⟩:=hR;refine EN (DN (af (ac J4 (sr λ_ J19=>PS ?_))));exact nx J19 (aj (WK [1,0,1] (av rfl rfl ⟨uc,huc,rfl,rfl⟩)))
theorem Lw{s:MS LD}{lg d r:Nat}{e:LD}{i:Int}(f:Fresh i e s){H:List HP}{h:Hl}(q:bz (ED lg r s::GT lg d ((e.cnt:Nat):Int) e.used::H) h):bz (fp s d r::H) h:=by
 obtain⟨_,q⟩:=fR (p:=λ_:Unit=>[ah r (RepT.cells (s.rep ⟨lg, .pointer none, .slice none 0 0⟩)) 94]) q;refine bn (p:=HL s d r) ⟨lg, .pointer none, .slice none 0 0⟩ ?_;have q2:=ik 175 3 q;have q3:bz (Gg (.pointer none) (none:Option VoteT)::own (.slice none 0 0) 0 [] 175 3::ah r (RepT.cells (s.rep ⟨lg, .pointer none, .slice none 0 0⟩)) 94::GT lg d ((e.cnt:Nat):Int) e.used::H) h:=⟨em,h,Ex h,(rG h).symm,rfl,q2⟩;have q4:=az [2,2,1,0] rfl q3;simp only[HL,f.e,f.replies,f.vote];exact q4
theorem qv(i d:Nat)(e:DS)(hok:DkOk e):DT 25 #[.int .i64 ((i:Nat):Int), .pointer (some ⟨d,0,none⟩)] T0 [dk d e] (dH (λv H=>((cO i e).1=none∧(cO i e).2≠0∧v= .tuple #[.pointer none, .int .i64 (cO i e).2]∧H=[dk d (bN e).D])∨∃s r,(cO i e).1=some s∧v= .tuple #[.pointer (some ⟨r,0,none⟩), .int .i64 0]∧H=[fp s d r,dk d s.e.D])):=
 Leg.Does.fold (Cw (⟨(bN e).recs.length,(bN e).used,(bN e).D⟩:LD) ((i:Nat):Int) d e hok.ok hok.inn (by have:=hok.ws;omega)) λx H hp=>by
  cases x with
  |returned v=>
   unfold cO;rcases hp with⟨he,rfl,rfl⟩| ⟨he,⟨hn,rfl,rfl⟩| ⟨s,r,lg,hn,rfl,rfl⟩⟩
   · rw[if_pos he];exact⟨_,λ_ q=>q, .inl ⟨rfl,he,rfl,rfl⟩⟩
   · rw[if_neg (by rw[he];decide),hn];exact⟨_,λ_ q=>q, .inl ⟨rfl,(by decide),rfl,rfl⟩⟩
   · rw[if_neg (by rw[he];decide),hn]
     have f:=Fresh.read _ (Fresh.new _ _) hn;refine⟨[fp s d r,dk d s.e.D],λ_ q=>Lw (lg:=lg) f ?_, .inr ⟨s,r,rfl,rfl,rfl⟩⟩;rw[f.e];exact q
  |panicked c=>exact hp.elim
  |outgrown=>exact hp.elim
theorem Cu(c n i:Nat)(D M P:Nat→Value)(hi:i<5)(d:Nat)(hD:D i= .pointer (some ⟨d,0,none⟩))(hM:M i= .pointer none)(e:DS)(hok:DkOk e):
 DT 33 #[(.pointer (some ⟨c,0,none⟩)),(.int .i64 (((i:Nat):Int)))] T0 [ah c (eZ n D M P) 71,dk d e] (dH (λv H=>((cO i e).1=none∧v= .int .i64 (cO i e).2∧H=[ah c (eZ n D M P) 71,dk d (bN e).D])∨∃s r,(cO i e).1=some s∧v= .int .i64 0∧H=[ah c (eZ n D (kT M i (.pointer (some ⟨r,0,none⟩))) P) 71,fp s d r,dk d s.e.D])):=by
 refine BD 34 Tryz.func33 rfl rfl rfl λw0 F hF=>sr λ_ J1=>PS ?_
 refine nx J1 (aa λ_ J2=>sr λ_ J3=>P3 ?_);refine FA 6 p7 oI ?_;refine IX (6+i) rk iN ?_;refine LT 0 qd (.pointer none) ?_ (hc:=by exact(xS n D M P hi).trans (congrArg some hM));refine tp (gQ rfl qd rfl rfl) ?_;refine nx J3 (CN (qx J2 (sr λ_ J4=>P4 ?_)));refine FA 1 p7 AS ?_;refine IX (1+i) Mt vN ?_;refine LT 0 I3 (.pointer (some ⟨d,0,none⟩)) ?_ (hc:=by exact(Ee n D M P hi).trans (congrArg some hD));refine CR NH (qv i d e hok) (SM [1]) λvR HR hR=>?_
 rcases hR with⟨hn,h0,rfl,rfl⟩| ⟨s,r,hn,rfl,rfl⟩
 refine P4 ?_;refine PS ?_;refine nx J4 (aa λ_ J5=>sr λ_ J6=>P2 ?_);refine ap ?_ ?_<;>intro h26
 · exact absurd h26 h0
 refine nx J6 (CN (qx J5 (sr λ_ J7=>P2 ?_)));exact nx J7 (aj (WK [1,0] (av rfl rfl (.inl ⟨hn,rfl,rfl⟩))));refine P4 ?_;refine PS ?_;refine nx J4 (aa λ_ J8=>sr λ_ J9=>P2 ?_);refine nx J9 (CY (ad (P4 ?_)));refine FA 6 p7 oI ?_;refine IX (6+i) rk iN ?_;refine bO (i:=2) (ab rfl) rfl rfl rfl rfl rfl iN rfl rfl (by rw[sv];omega) (wn n D M P (.pointer (some ⟨r,0,none⟩)) hi) rfl (nx J8 (sr λ_ J10=>P2 ?_));exact nx J10 (aj (WK [2,0,0] (av rfl rfl (.inr ⟨s,r,hn,rfl,rfl⟩))))
theorem Ct(c n i:Nat)(D M P:Nat→Value)(hi:i<5)(r:Nat)(hM:M i= .pointer (some ⟨r,0,none⟩)):
 DT 33 #[(.pointer (some ⟨c,0,none⟩)),(.int .i64 (((i:Nat):Int)))] T0 [ah c (eZ n D M P) 71] (RI (.int .i64 5) [ah c (eZ n D M P) 71]):=by
 refine BD 34 Tryz.func33 rfl rfl rfl λw0 F hF=>sr λ_ J1=>PS ?_
 refine nx J1 (aa λ_ J2=>sr λ_ J3=>P3 ?_);refine FA 6 p7 oI ?_;refine IX (6+i) rk iN ?_;refine LT 0 qd (.pointer (some ⟨r,0,none⟩)) ?_ (hc:=by exact(xS n D M P hi).trans (congrArg some hM));refine tp (gH rfl qd rfl rfl) ?_;refine nx J3 (CY (sr λ_ J4=>PS ?_));exact nx J4 (aj (ae (WK [0] (av rfl rfl ⟨rfl,rfl⟩))))
theorem FS(c n i:Nat)(D M P:Nat→Value)(hi:i<5)(d:Nat)(hD:D i= .pointer (some ⟨d,0,none⟩))(hM:M i= .pointer none)(e:DS)(hok:DkOk e)(o:OpT):
 DT 9 #[(.pointer (some ⟨c,0,none⟩)),(.agg (ints (OpT.mk 11 ((i:Nat):Int) o.to' o.key o.n o.change o.mask o.torn o.cut).flat).toArray)] T0 [ah c (eZ n D M P) 71,dk d e] (dH (λv H=>((cO i e).1=none∧v= .int .i64 (cO i e).2∧H=[ah c (eZ n D M P) 71,dk d (bN e).D])∨∃s r,(cO i e).1=some s∧v= .int .i64 0∧H=[ah c (eZ n D (kT M i (.pointer (some ⟨r,0,none⟩))) P) 71,fp s d r,dk d s.e.D])):=by
 refine BD 114 Tryz.func9 rfl rfl rfl λw0 F hF=>sr λ_ J1=>XY (ints (OpT.mk 11 ((i:Nat):Int) o.to' o.key o.n o.change o.mask o.torn o.cut).flat) λb3=>?_
 refine PS ?_;refine nx J1 (aa λ_ J2=>sr λ_ J3=>PS ?_);refine FA 1 fP aP ?_;refine LT 0 Y3 (.int .i64 (((i:Nat):Int))) ?_ (hc:=by exact bM _ rfl);refine CE qH (dY c i hi) ID ?_;refine PS ?_;refine nx J3 (CN (qx J2 (aa λ_ J4=>sr λ_ J5=>FA 0 fP aP ?_)));refine LT 0 Y3 (.int .i64 11) ?_ (hc:=by exact di _ rfl);refine nx J5 (aq (aa λ_ J6=>sr λ_ J7=>P2 ?_));refine nx J7 (CN (sr λ_ J8=>P2 ?_));refine nx J8 (CN (sr λ_ J9=>P2 ?_));refine nx J9 (CN (sr λ_ J10=>P2 ?_));refine nx J10 (CN (ad (P2 ?_)));refine nx J6 (CN (aa λ_ J11=>sr λ_ J12=>P2 ?_));refine nx J12 (CN (sr λ_ J13=>P2 ?_));refine nx J13 (CN (ad (P2 ?_)));refine nx J11 (CN (sr λ_ J14=>P2 ?_));refine nx J14 (CN (sr λ_ J15=>P2 ?_));refine nx J15 (CN (sr λ_ J16=>P2 ?_));refine nx J16 (CN (sr λ_ J17=>P2 ?_));refine nx J17 (CY (sr λ_ J18=>PS ?_));refine FA 1 fP aP ?_;refine LT 0 Y3 (.int .i64 (((i:Nat):Int))) ?_ (hc:=by exact bM _ rfl);refine CR OR (Cu c n i D M P hi d hD hM e hok) (SM [1,1]) λvR HR hR=>?_
 rcases hR with⟨hn,rfl,rfl⟩| ⟨s,r,hn,rfl,rfl⟩
 refine PS ?_;exact nx J18 (aj (aJ (ae (WK [0,0] (av rfl rfl (.inl ⟨hn,rfl,rfl⟩))))));refine PS ?_;exact nx J18 (aj (aJ (ae (WK [0,0,0] (av rfl rfl (.inr ⟨s,r,hn,rfl,rfl⟩))))))
theorem FR(c n i:Nat)(D M P:Nat→Value)(hi:i<5)(r:Nat)(hM:M i= .pointer (some ⟨r,0,none⟩))(o:OpT):
 DT 9 #[(.pointer (some ⟨c,0,none⟩)),(.agg (ints (OpT.mk 11 ((i:Nat):Int) o.to' o.key o.n o.change o.mask o.torn o.cut).flat).toArray)] T0 [ah c (eZ n D M P) 71] (RI (.int .i64 5) [ah c (eZ n D M P) 71]):=by
 refine BD 114 Tryz.func9 rfl rfl rfl λw0 F hF=>sr λ_ J1=>XY (ints (OpT.mk 11 ((i:Nat):Int) o.to' o.key o.n o.change o.mask o.torn o.cut).flat) λb3=>?_
 refine PS ?_;refine nx J1 (aa λ_ J2=>sr λ_ J3=>PS ?_);refine FA 1 fP aP ?_;refine LT 0 Y3 (.int .i64 (((i:Nat):Int))) ?_ (hc:=by exact bM _ rfl);refine CE qH (dY c i hi) ID ?_;refine PS ?_;refine nx J3 (CN (qx J2 (aa λ_ J4=>sr λ_ J5=>FA 0 fP aP ?_)));refine LT 0 Y3 (.int .i64 11) ?_ (hc:=by exact di _ rfl);refine nx J5 (aq (aa λ_ J6=>sr λ_ J7=>P2 ?_));refine nx J7 (CN (sr λ_ J8=>P2 ?_));refine nx J8 (CN (sr λ_ J9=>P2 ?_));refine nx J9 (CN (sr λ_ J10=>P2 ?_));refine nx J10 (CN (ad (P2 ?_)));refine nx J6 (CN (aa λ_ J11=>sr λ_ J12=>P2 ?_));refine nx J12 (CN (sr λ_ J13=>P2 ?_));refine nx J13 (CN (ad (P2 ?_)));refine nx J11 (CN (sr λ_ J14=>P2 ?_));refine nx J14 (CN (sr λ_ J15=>P2 ?_));refine nx J15 (CN (sr λ_ J16=>P2 ?_));refine nx J16 (CN (sr λ_ J17=>P2 ?_));refine nx J17 (CY (sr λ_ J18=>PS ?_));refine FA 1 fP aP ?_;refine LT 0 Y3 (.int .i64 (((i:Nat):Int))) ?_ (hc:=by exact bM _ rfl);refine CE OR (Ct c n i D M P hi r hM) (SM [1]) ?_;refine PS ?_;exact nx J18 (aj (aJ (ae (WK [0] (av rfl rfl ⟨rfl,rfl⟩)))))
theorem Cd(c n i:Nat)(D M P:Nat→Value)(hi:i<5)(to' k:Int)(o:OpT)(hv:dv ((i:Nat):Int) to'=false)(bs:List Nat):
 DT 28 #[(.pointer (some ⟨c,0,none⟩)),(.agg (ints (OpT.mk k ((i:Nat):Int) to' o.key o.n o.change o.mask o.torn o.cut).flat).toArray)] T0 [ah c (eZ n D M P) 71,ah n (dM bs) 110] (RI (.int .i64 5) [ah c (eZ n D M P) 71,ah n (dM bs) 110]):=by
 refine BD 91 Tryz.func28 rfl rfl rfl λw0 F hF=>sr λ_ J1=>XY (ints (OpT.mk k ((i:Nat):Int) to' o.key o.n o.change o.mask o.torn o.cut).flat) λb3=>?_
 refine PS ?_;refine nx J1 (aa λ_ J2=>D2 0 1 dA ?_);refine PD 0 ?_;refine PD 1 ?_;refine FD 2 0 p7 AT ?_;refine LX 3 KF (.pointer (some ⟨n,0,none⟩)) ?_ (hc:=by exact BI n D M P);refine FD 4 1 fP aP ?_;refine LX 5 Y3 (.int .i64 (((i:Nat):Int))) ?_ (hc:=by exact bM _ rfl);refine FD 6 2 fP aP ?_;refine LX 7 Y3 (.int .i64 (to')) ?_ (hc:=by exact ji _ rfl);refine AL 8 ?_;refine CR Fs (nl n bs ((i:Nat):Int) to') (SM [2]) λvR HR hR=>?_
 obtain⟨hw,rfl⟩:=hR;obtain⟨_,rfl⟩:dv ((i:Nat):Int) to'=false∧vR= .pointer none:=hw.resolve_left (λq=>by rw[hv]at q;cases q.1);refine EN (PD 9 ?_);refine DN (ac J2 (aa λ_ J3=>sr λ_ J4=>PS ?_));refine tp (Ru rfl yd rfl rfl) ?_;refine nx J4 (CY (sr λ_ J5=>PS ?_));exact nx J5 (aj (ae (WK [2,0] (av rfl rfl ⟨rfl,rfl⟩))))
theorem qi{n i j:Nat}{bs:List Nat}{W:List (List MsgT)}{l:List MsgT}{H:List HP}{h:Hl}(hv:dv ((i:Nat):Int) ((j:Nat):Int)=true)(hW:W.length=25)(q:bz (iq 160 5 (bs.getD (bt ((i:Nat):Int) ((j:Nat):Int)) 0) (List.map (lh (bt ((i:Nat):Int) ((j:Nat):Int))) l)::fT 160 5 bs (cM W) (bt ((i:Nat):Int) ((j:Nat):Int))::ah n (dM bs) 110::H) h):bz (eB 110 160 5 n (cM (W.set (bt ((i:Nat):Int) ((j:Nat):Int)) l))::H) h:=by
 have q2:=ub hv (qj W) q;rw[wC W (jb hv).1 hW]at q2;exact bn (p:=λbs:List Nat=>[ah n (dM bs) 110,e9 160 5 bs (cM (W.set (bt ((i:Nat):Int) ((j:Nat):Int)) l))]) bs (eH (List.Perm.swap _ _ _) q2)
theorem AE(c n i:Nat)(D M P:Nat→Value)(hi:i<5)(j:Nat)(hj:j<5)(hv:dv ((i:Nat):Int) ((j:Nat):Int)=true)(W:List (List MsgT))(hW:W.length=25)(l:List MsgT)(hl:W.getD (bt ((i:Nat):Int) ((j:Nat):Int)) []=l)(h8:l.length≤8)(hlen: ∀m∈l,0< (cQ m).length)(o:OpT)(k:Int)(hn:l=[])(bs:List Nat):
 DT 28 #[(.pointer (some ⟨c,0,none⟩)),(.agg (ints (OpT.mk k ((i:Nat):Int) ((j:Nat):Int) o.key o.n o.change o.mask o.torn o.cut).flat).toArray)] T0 [ah n (dM bs) 110,e9 160 5 bs (cM W),ah c (eZ n D M P) 71] (RI (.int .i64 10) [ah c (eZ n D M P) 71,eB 110 160 5 n (cM (W.set (bt ((i:Nat):Int) ((j:Nat):Int)) l))]):=by
 refine BD 91 Tryz.func28 rfl rfl rfl λw0 F hF=>sr λ_ J1=>XY (ints (OpT.mk k ((i:Nat):Int) ((j:Nat):Int) o.key o.n o.change o.mask o.torn o.cut).flat) λb3=>?_
 refine PS ?_;refine nx J1 (aa λ_ J2=>D2 0 3 dA ?_);refine PD 0 ?_;refine PD 1 ?_;refine FD 2 0 p7 AT ?_;refine LX 3 KF (.pointer (some ⟨n,0,none⟩)) ?_ (hc:=by exact BI n D M P);refine FD 4 1 fP aP ?_;refine LX 5 Y3 (.int .i64 (((i:Nat):Int))) ?_ (hc:=by exact bM _ rfl);refine FD 6 2 fP aP ?_;refine LX 7 Y3 (.int .i64 (((j:Nat):Int))) ?_ (hc:=by exact ji _ rfl);refine AL 8 ?_;refine CR Fs (nl n bs ((i:Nat):Int) ((j:Nat):Int)) (SM [1]) λvR HR hR=>?_
 obtain⟨hw,rfl⟩:=hR;obtain⟨_,rfl⟩:dv ((i:Nat):Int) ((j:Nat):Int)=true∧vR= .pointer (some ⟨(bs.getD (bt ((i:Nat):Int) ((j:Nat):Int)) 0),0,none⟩):=hw.resolve_right (λq=>by rw[hv]at q;cases q.1);refine EN (PD 9 ?_);refine DN (ac J2 (aa λ_ J3=>sr λ_ J4=>PS ?_));refine tp (kE rfl yd rfl rfl) ?_;refine nx J4 (CN (qx J3 (aa λ_ J5=>sr λ_ J6=>cr (H':=[iq 160 5 (bs.getD (bt ((i:Nat):Int) ((j:Nat):Int)) 0) (List.map (lh (bt ((i:Nat):Int) ((j:Nat):Int))) l),fT 160 5 bs (cM W) (bt ((i:Nat):Int) ((j:Nat):Int)),ah n (dM bs) 110,ah b3 (ints (OpT.mk k ((i:Nat):Int) ((j:Nat):Int) o.key o.n o.change o.mask o.torn o.cut).flat) 35,ah c (eZ n D M P) 71]) (λ_ q=>hl▸n5 W (jb hv).1▸oE hv (az [2] rfl q)) (PS ?_))));refine CE Ds (jQ (bs.getD (bt ((i:Nat):Int) ((j:Nat):Int)) 0) (List.map (lh (bt ((i:Nat):Int) ((j:Nat):Int))) l)) ID ?_;rw[bY];refine PS ?_;refine ap ?_ ?_<;>intro h23;refine nx J6 (CY (sr λ_ J7=>PS ?_));exact nx J7 (aj (ae (aF (H':=[ah c (eZ n D M P) 71,eB 110 160 5 n (cM (W.set (bt ((i:Nat):Int) ((j:Nat):Int)) l))]) (dV _) (λ_ q=>eH (List.Perm.swap _ _ _) (qi (bs:=bs) hv hW (ak [0,0,0,1] rfl q))) (av rfl rfl ⟨rfl,rfl⟩))))
 · exact absurd (by rw[hn];rfl) h23
theorem yn(c n i:Nat)(D M P:Nat→Value)(hi:i<5)(j:Nat)(hj:j<5)(hv:dv ((i:Nat):Int) ((j:Nat):Int)=true)(W:List (List MsgT))(hW:W.length=25)(l:List MsgT)(hl:W.getD (bt ((i:Nat):Int) ((j:Nat):Int)) []=l)(h8:l.length≤8)(hlen: ∀m∈l,0< (cQ m).length)(o:OpT)(hn:l≠[])(bs:List Nat):
    DT 28 #[(.pointer (some ⟨c,0,none⟩)),(.agg (ints (OpT.mk 7 ((i:Nat):Int) ((j:Nat):Int) o.key o.n o.change o.mask o.torn o.cut).flat).toArray)] T0 [ah n (dM bs) 110,e9 160 5 bs (cM W),ah c (eZ n D M P) 71] (RI (.int .i64 (if I1 l then 0 else 3)) [ah c (eZ n D M P) 71,eB 110 160 5 n (cM (W.set (bt ((i:Nat):Int) ((j:Nat):Int)) (Ez l)))]):=by
 refine BD 91 Tryz.func28 rfl rfl rfl λw0 F hF=>sr λ_ J1=>XY (ints (OpT.mk 7 ((i:Nat):Int) ((j:Nat):Int) o.key o.n o.change o.mask o.torn o.cut).flat) λb3=>?_
 refine PS ?_;refine nx J1 (aa λ_ J2=>D2 0 3 dA ?_);refine PD 0 ?_;refine PD 1 ?_;refine FD 2 0 p7 AT ?_;refine LX 3 KF (.pointer (some ⟨n,0,none⟩)) ?_ (hc:=by exact BI n D M P);refine FD 4 1 fP aP ?_;refine LX 5 Y3 (.int .i64 (((i:Nat):Int))) ?_ (hc:=by exact bM _ rfl);refine FD 6 2 fP aP ?_;refine LX 7 Y3 (.int .i64 (((j:Nat):Int))) ?_ (hc:=by exact ji _ rfl);refine AL 8 ?_;refine CR Fs (nl n bs ((i:Nat):Int) ((j:Nat):Int)) (SM [1]) λvR HR hR=>?_
 obtain⟨hw,rfl⟩:=hR;obtain⟨_,rfl⟩:dv ((i:Nat):Int) ((j:Nat):Int)=true∧vR= .pointer (some ⟨(bs.getD (bt ((i:Nat):Int) ((j:Nat):Int)) 0),0,none⟩):=hw.resolve_right (λq=>by rw[hv]at q;cases q.1);refine EN (PD 9 ?_);refine DN (ac J2 (aa λ_ J3=>sr λ_ J4=>PS ?_));refine tp (kE rfl yd rfl rfl) ?_;refine nx J4 (CN (qx J3 (aa λ_ J5=>sr λ_ J6=>cr (H':=[iq 160 5 (bs.getD (bt ((i:Nat):Int) ((j:Nat):Int)) 0) (List.map (lh (bt ((i:Nat):Int) ((j:Nat):Int))) l),fT 160 5 bs (cM W) (bt ((i:Nat):Int) ((j:Nat):Int)),ah n (dM bs) 110,ah b3 (ints (OpT.mk 7 ((i:Nat):Int) ((j:Nat):Int) o.key o.n o.change o.mask o.torn o.cut).flat) 35,ah c (eZ n D M P) 71]) (λ_ q=>hl▸n5 W (jb hv).1▸oE hv (az [2] rfl q)) (PS ?_))));refine CE Ds (jQ (bs.getD (bt ((i:Nat):Int) ((j:Nat):Int)) 0) (List.map (lh (bt ((i:Nat):Int) ((j:Nat):Int))) l)) ID ?_;rw[bY];refine PS ?_;refine ap ?_ ?_<;>intro h23
 · exact absurd (List.eq_nil_of_length_eq_zero (by omega)) hn
 refine nx J6 (CN (qx J5 (aa λ_ J7=>sr λ_ J8=>FA 0 fP aP ?_)));refine LT 3 Y3 (.int .i64 7) ?_ (hc:=by exact di _ rfl);refine PS ?_;refine nx J8 (CY (aa λ_ J9=>sr λ_ J10=>PS ?_))
 refine lC (ab rfl) rfl rfl rfl QF rfl (yK (bs.getD (bt ((i:Nat):Int) ((j:Nat):Int)) 0) (List.map (lh (bt ((i:Nat):Int) ((j:Nat):Int))) l) (by rw[bY];exact h8) (λx hx=>by
        obtain⟨m,_,rfl⟩:=gd.1 hx
        exact wA _ m)) (λ_ s=>s) (λ_ _ _=>trivial) (λvR HR hR=>?_)
 obtain⟨rfl,rfl⟩:=hR;rw[Lg,Ld];refine bb ?_ ?_<;>intro h28;refine PS ?_;refine nx J10 (CN (qx J9 (sr λ_ J11=>PS ?_)));refine nx J11 (aj (ae (aF (H':=[ah c (eZ n D M P) 71,eB 110 160 5 n (cM (W.set (bt ((i:Nat):Int) ((j:Nat):Int)) (Ez l)))]) (dV _) (λ_ q=>eH (List.Perm.swap _ _ _) (qi (bs:=bs) hv hW (ak [0,0,0,1] rfl q))) (av rfl rfl ?_))));exact⟨by rw[h28];rfl,rfl⟩;refine PS ?_;refine nx J10 (CY (sr λ_ J12=>PS ?_));refine nx J12 (aj (ae (ae (aF (H':=[ah c (eZ n D M P) 71,eB 110 160 5 n (cM (W.set (bt ((i:Nat):Int) ((j:Nat):Int)) (Ez l)))]) (dV _) (λ_ q=>eH (List.Perm.swap _ _ _) (qi (bs:=bs) hv hW (ak [0,0,0,1] rfl q))) (av rfl rfl ?_)))));exact⟨by rw[h28];rfl,rfl⟩
theorem Gj{i j:Nat}{W:List (List MsgT)}{m:MsgT}{l2:List MsgT}(hv:dv ((i:Nat):Int) ((j:Nat):Int)=true)(hW:W.length=25):(cM (W.set (bt ((i:Nat):Int) ((j:Nat):Int)) (m::l2))).getD (bt ((i:Nat):Int) ((j:Nat):Int)) []=jN ((i:Nat):Int) ((j:Nat):Int) (cQ m)::List.map (lh (bt ((i:Nat):Int) ((j:Nat):Int))) l2:=by
 rw[n5 _ (jb hv).1,List.getD_eq_getElem?_getD,List.getElem?_set_self (by rw[hW];exact(jb hv).1),←Cc (sO hv).1 (sO hv).2];rfl
theorem Ck{i j:Nat}{W:List (List MsgT)}{m:MsgT}{l2:List MsgT}(hv:dv ((i:Nat):Int) ((j:Nat):Int)=true)(hW:W.length=25):(cM (W.set (bt ((i:Nat):Int) ((j:Nat):Int)) (m::l2))).set (bt ((i:Nat):Int) ((j:Nat):Int)) (List.map (lh (bt ((i:Nat):Int) ((j:Nat):Int))) l2)=cM (W.set (bt ((i:Nat):Int) ((j:Nat):Int)) l2):=by
 rw[wC _ (jb hv).1 (by rw[dK];exact hW),fZ]
theorem sJ(c n i:Nat)(D M P:Nat→Value)(hi:i<5)(j:Nat)(hj:j<5)(hv:dv ((i:Nat):Int) ((j:Nat):Int)=true)(W:List (List MsgT))(hW:W.length=25)(l:List MsgT)(hl:W.getD (bt ((i:Nat):Int) ((j:Nat):Int)) []=l)(h8:l.length≤8)(hlen: ∀m∈l,0< (cQ m).length)(o:OpT)(m:MsgT)(l2:List MsgT)(ht:jz (max o.n 0% ((l.length:Nat):Int)).toNat l=m::l2)(bs:List Nat)(q:Int)(hk5:q=5∨q=6)(hk:q=6∨M j= .pointer none):
    DT 28 #[(.pointer (some ⟨c,0,none⟩)),(.agg (ints (OpT.mk q ((i:Nat):Int) ((j:Nat):Int) o.key o.n o.change o.mask o.torn o.cut).flat).toArray)] T0 [ah n (dM bs) 110,e9 160 5 bs (cM W),ah c (eZ n D M P) 71] (RI (.int .i64 0) [ah c (eZ n D M P) 71,eB 110 160 5 n (cM (W.set (bt ((i:Nat):Int) ((j:Nat):Int)) l2))]):=by
 refine BD 91 Tryz.func28 rfl rfl rfl λw0 F hF=>?_
 have hln:0<l.length:=by
     have:=kP (max o.n 0% ((l.length:Nat):Int)).toNat l;rw[ht]at this;rw[←this];exact Nat.succ_pos _
 have hm0:0< (cQ m).length:=hlen m ((pe (max o.n 0% ((l.length:Nat):Int)).toNat l).1 (ht▸la ..));have hrl:(max o.n 0% ((l.length:Nat):Int))< ((l.length:Nat):Int):=IZ _ (by omega);refine sr λ_ J1=>XY (ints (OpT.mk q ((i:Nat):Int) ((j:Nat):Int) o.key o.n o.change o.mask o.torn o.cut).flat) λb3=>?_
 refine PS ?_;refine nx J1 (aa λ_ J2=>D2 0 3 dA ?_);refine PD 0 ?_;refine PD 1 ?_;refine FD 2 0 p7 AT ?_;refine LX 3 KF (.pointer (some ⟨n,0,none⟩)) ?_ (hc:=by exact BI n D M P);refine FD 4 1 fP aP ?_;refine LX 5 Y3 (.int .i64 (((i:Nat):Int))) ?_ (hc:=by exact bM _ rfl);refine FD 6 2 fP aP ?_;refine LX 7 Y3 (.int .i64 (((j:Nat):Int))) ?_ (hc:=by exact ji _ rfl);refine AL 8 ?_;refine CR Fs (nl n bs ((i:Nat):Int) ((j:Nat):Int)) (SM [1]) λvR HR hR=>?_
 obtain⟨hw,rfl⟩:=hR;obtain⟨_,rfl⟩:dv ((i:Nat):Int) ((j:Nat):Int)=true∧vR= .pointer (some ⟨(bs.getD (bt ((i:Nat):Int) ((j:Nat):Int)) 0),0,none⟩):=hw.resolve_right (λq=>by rw[hv]at q;cases q.1);refine EN (PD 9 ?_);refine DN (ac J2 (aa λ_ J3=>sr λ_ J4=>PS ?_));refine tp (kE rfl yd rfl rfl) ?_;refine nx J4 (CN (qx J3 (aa λ_ J5=>sr λ_ J6=>cr (H':=[iq 160 5 (bs.getD (bt ((i:Nat):Int) ((j:Nat):Int)) 0) (List.map (lh (bt ((i:Nat):Int) ((j:Nat):Int))) l),fT 160 5 bs (cM W) (bt ((i:Nat):Int) ((j:Nat):Int)),ah n (dM bs) 110,ah b3 (ints (OpT.mk q ((i:Nat):Int) ((j:Nat):Int) o.key o.n o.change o.mask o.torn o.cut).flat) 35,ah c (eZ n D M P) 71]) (λ_ q=>hl▸n5 W (jb hv).1▸oE hv (az [2] rfl q)) (PS ?_))));refine CE Ds (jQ (bs.getD (bt ((i:Nat):Int) ((j:Nat):Int)) 0) (List.map (lh (bt ((i:Nat):Int) ((j:Nat):Int))) l)) ID ?_;rw[bY];refine PS ?_;refine ap ?_ ?_<;>intro h23
 · exact absurd h23 (by omega)
 refine nx J6 (CN (qx J5 (aa λ_ J7=>sr λ_ J8=>FA 0 fP aP ?_)));refine LT 3 Y3 (.int .i64 (q)) ?_ (hc:=by exact di _ rfl);refine PS ?_;refine ap ?_ ?_<;>intro h26
 · exact absurd h26 (by omega)
 refine nx J8 (CN (qx J7 (aa λ_ J9=>aa λ_ J10=>D1 3 dA ?_)));refine FD 0 4 fP aP ?_;refine LX 1 Y3 (.int .i64 (o.n)) ?_ (hc:=by exact yg _ rfl);refine ta 2 rfl (yW rfl rfl rfl) ?_;refine PD 3 ?_;refine PD 6 ?_;refine AL 4 ?_;refine CE Ds (jQ (bs.getD (bt ((i:Nat):Int) ((j:Nat):Int)) 0) (List.map (lh (bt ((i:Nat):Int) ((j:Nat):Int))) l)) ID ?_;rw[bY];refine EN (ta 5 rfl (PV.rem (r:=(max o.n 0% ((l.length:Nat):Int))) rfl rfl rfl (by omega) (tX (by omega))) ?_);refine DN (ac J10 (aq ?_))
 refine bD (α:=(Nat)) (λk=>((k:Nat):Int)≤(max o.n 0% ((l.length:Nat):Int))) (λk=>[(0,(.pointer (some ⟨c,0,none⟩))),(3,(.pointer (some ⟨b3,0,none⟩))),(4,(.int .i64 0)),(5,(.pointer (some ⟨(bs.getD (bt ((i:Nat):Int) ((j:Nat):Int)) 0),0,none⟩))),(35,(.int .i64 ((max o.n 0% ((l.length:Nat):Int))))),(36,(.int .i64 (((k:Nat):Int))))]) (λk=>[iq 160 5 (bs.getD (bt ((i:Nat):Int) ((j:Nat):Int)) 0) (List.map (lh (bt ((i:Nat):Int) ((j:Nat):Int))) (jz k l)),fT 160 5 bs (cM W) (bt ((i:Nat):Int) ((j:Nat):Int)),ah n (dM bs) 110,ah b3 (ints (OpT.mk q ((i:Nat):Int) ((j:Nat):Int) o.key o.n o.change o.mask o.torn o.cut).flat) 35,ah c (eZ n D M P) 71]) (λk=>(max o.n 0% ((l.length:Nat):Int)).toNat-k) 0
     (Aw _ (by omega)) SB
     (λ_ s=>az [0,0,0,0,0] rfl s) (λk hinv=>?_)
 obtain hk:=hinv;refine sr λ_ J11=>PS ?_
 refine ap ?_ ?_<;>intro h37;refine nx J11 (aa λ_ J12=>CY (qx J12 (aa λ_ J13=>aq (ad (PS ?_)))))
 refine lC (ab rfl) rfl rfl rfl OM rfl (tO (bs.getD (bt ((i:Nat):Int) ((j:Nat):Int)) 0) (List.map (lh (bt ((i:Nat):Int) ((j:Nat):Int))) (jz k l)) (by rw[bY,kP];exact h8) (λx hx=>by
        obtain⟨m,_,rfl⟩:=gd.1 hx
        exact wA _ m)) (λ_ s=>s) (λ_ _ _=>trivial) (λvR HR hR=>?_)
 obtain rfl:=hR;rw[zb];refine aw (af (ac J13 (ad (AD ?_))));refine PS ?_;refine aw ?_
 exact aL ((k+1):(Nat)) (by omega) (by show(max o.n 0% ((l.length:Nat):Int)).toNat- (k+1)< (max o.n 0% ((l.length:Nat):Int)).toNat-k;omega)
   SB
   (λ_ s=>az [0,0,0,0,0] rfl s)
 have hkr:k=(max o.n 0% ((l.length:Nat):Int)).toNat:=by omega
 refine cr (H':=[iq 160 5 (bs.getD (bt ((i:Nat):Int) ((j:Nat):Int)) 0) (List.map (lh (bt ((i:Nat):Int) ((j:Nat):Int))) (m::l2)),fT 160 5 bs (cM W) (bt ((i:Nat):Int) ((j:Nat):Int)),ah n (dM bs) 110,ah b3 (ints (OpT.mk q ((i:Nat):Int) ((j:Nat):Int) o.key o.n o.change o.mask o.torn o.cut).flat) 35,ah c (eZ n D M P) 71]) (λ_ q=>by rw[hkr,ht]at q;exact q) (nx J11 (aa λ_ J14=>CN (bh (aC (aC (bC (ac J9 (aa λ_ J15=>D2 3 4 dA ?_))))))));refine PD 0 ?_;refine PD 1 ?_;refine FD 2 0 p7 AT ?_;refine LX 3 KF (.pointer (some ⟨n,0,none⟩)) ?_ (hc:=by exact BI n D M P);refine FD 4 1 fP aP ?_;refine LX 5 Y3 (.int .i64 (((i:Nat):Int))) ?_ (hc:=by exact bM _ rfl);refine FD 6 2 fP aP ?_;refine LX 7 Y3 (.int .i64 (((j:Nat):Int))) ?_ (hc:=by exact ji _ rfl);refine AL 8 ?_;refine cr (H':=[eB 110 160 5 n (cM (W.set (bt ((i:Nat):Int) ((j:Nat):Int)) (m::l2))),ah b3 (ints (OpT.mk q ((i:Nat):Int) ((j:Nat):Int) o.key o.n o.change o.mask o.torn o.cut).flat) 35,ah c (eZ n D M P) 71]) (λ_ q=>qi (bs:=bs) hv hW (az [0,0,0] rfl q)) (CR OL (rC n (cM (W.set (bt ((i:Nat):Int) ((j:Nat):Int)) (m::l2))) ((i:Nat):Int) ((j:Nat):Int) (cQ m) (List.map (lh (bt ((i:Nat):Int) ((j:Nat):Int))) l2) hv (qj _) (Gj hv hW) hm0 (by have:=tJ m;omega)) ID λvR HR hR=>?_);obtain⟨uv,rfl,rfl⟩:=hR;rw[Ck hv hW];refine EN (PD 9 ?_);refine PD 10 ?_;refine PD 11 ?_;refine PD 12 ?_;refine PD 13 ?_
 refine DN (ac J15 (aa λ_ J16=>sr λ_ J17=>FA 0 fP aP ?_));refine LT 2 Y3 (.int .i64 (q)) ?_ (hc:=by exact di _ rfl);refine PS ?_;refine ap ?_ ?_<;>intro h55;refine PS ?_;refine UT ?_;refine UT ?_;refine P2 ?_
 iterate 5 refine UT ?_
 refine PS ?_;refine nx J17 (CY (sr λ_ J18=>PS ?_));exact nx J18 (aj (ae (WK [3,0] (av rfl rfl ⟨rfl,rfl⟩))));refine P2 ?_;refine PS ?_;refine P3 ?_;refine FA 2 fP aP ?_;refine LT 2 Y3 (.int .i64 (((j:Nat):Int))) ?_ (hc:=by exact ji _ rfl);refine CE Bk (qm c n j D M P hj (hk.resolve_left h55)) (SM [3]) ?_;refine PS ?_;refine PS ?_;refine nx J17 (CY (sr λ_ J19=>PS ?_));exact nx J19 (aj (ae (WK [0,0] (av rfl rfl ⟨rfl,rfl⟩))))
theorem AG(c n i:Nat)(D M P:Nat→Value)(hi:i<5)(j:Nat)(hj:j<5)(hv:dv ((i:Nat):Int) ((j:Nat):Int)=true)(W:List (List MsgT))(hW:W.length=25)(l:List MsgT)(hl:W.getD (bt ((i:Nat):Int) ((j:Nat):Int)) []=l)(h8:l.length≤8)(hlen: ∀m∈l,0< (cQ m).length)(o:OpT)(m:MsgT)(l2:List MsgT)(ht:jz (max o.n 0% ((l.length:Nat):Int)).toNat l=m::l2)(bs:List Nat)(d r:Nat)(s:MS LD)(hD:D j= .pointer (some ⟨d,0,none⟩))(hM:M j= .pointer (some ⟨r,0,none⟩))(ho:s.o=[])(hs:OkR KD s)(hto:((i:Nat):Int)≠s.id)(hrs:s.replies.length≤1000000):
    DT 28 #[(.pointer (some ⟨c,0,none⟩)),(.agg (ints (OpT.mk 5 ((i:Nat):Int) ((j:Nat):Int) o.key o.n o.change o.mask o.torn o.cut).flat).toArray)] T0 [ah n (dM bs) 110,e9 160 5 bs (cM W),ah c (eZ n D M P) 71,dk d s.e.D,fp s d r] (dH (λv H=>(s.e.D.dn=true∧v= .int .i64 0∧H=[ah c (eZ n D M P) 71,dk d s.e.D,eB 110 160 5 n (cM ((W.set (bt ((i:Nat):Int) ((j:Nat):Int)) l2))),fp s d r])∨(s.e.D.dn=false∧(ju (cQ m)).2≠0∧v= .int .i64 (ju (cQ m)).2∧H=[ah c (eZ n D M P) 71,dk d s.e.D,eB 110 160 5 n (cM ((W.set (bt ((i:Nat):Int) ((j:Nat):Int)) l2))),fp s d r])∨(s.e.D.dn=false∧(ju (cQ m)).2=0∧v= .int .i64 0∧H=[ah c (eZ n D M P) 71,dk d (fQ KD s ((i:Nat):Int) (ju (cQ m)).1).hush.e.D,eB 110 160 5 n (cM (g9 (W.set (bt ((i:Nat):Int) ((j:Nat):Int)) l2) j (fQ KD s ((i:Nat):Int) (ju (cQ m)).1).o)),fp (fQ KD s ((i:Nat):Int) (ju (cQ m)).1).hush d r]))):=by
 refine BD 91 Tryz.func28 rfl rfl rfl λw0 F hF=>?_
 have hln:0<l.length:=by
     have:=kP (max o.n 0% ((l.length:Nat):Int)).toNat l;rw[ht]at this;rw[←this];exact Nat.succ_pos _
 have hm0:0< (cQ m).length:=hlen m ((pe (max o.n 0% ((l.length:Nat):Int)).toNat l).1 (ht▸la ..));have hrl:(max o.n 0% ((l.length:Nat):Int))< ((l.length:Nat):Int):=IZ _ (by omega);refine sr λ_ J1=>XY (ints (OpT.mk 5 ((i:Nat):Int) ((j:Nat):Int) o.key o.n o.change o.mask o.torn o.cut).flat) λb3=>?_
 refine PS ?_;refine nx J1 (aa λ_ J2=>D2 0 3 dA ?_);refine PD 0 ?_;refine PD 1 ?_;refine FD 2 0 p7 AT ?_;refine LX 3 KF (.pointer (some ⟨n,0,none⟩)) ?_ (hc:=by exact BI n D M P);refine FD 4 1 fP aP ?_;refine LX 5 Y3 (.int .i64 (((i:Nat):Int))) ?_ (hc:=by exact bM _ rfl);refine FD 6 2 fP aP ?_;refine LX 7 Y3 (.int .i64 (((j:Nat):Int))) ?_ (hc:=by exact ji _ rfl);refine AL 8 ?_;refine CR Fs (nl n bs ((i:Nat):Int) ((j:Nat):Int)) (SM [1]) λvR HR hR=>?_
 obtain⟨hw,rfl⟩:=hR;obtain⟨_,rfl⟩:dv ((i:Nat):Int) ((j:Nat):Int)=true∧vR= .pointer (some ⟨(bs.getD (bt ((i:Nat):Int) ((j:Nat):Int)) 0),0,none⟩):=hw.resolve_right (λq=>by rw[hv]at q;cases q.1);refine EN (PD 9 ?_);refine DN (ac J2 (aa λ_ J3=>sr λ_ J4=>PS ?_));refine tp (kE rfl yd rfl rfl) ?_;refine nx J4 (CN (qx J3 (aa λ_ J5=>sr λ_ J6=>cr (H':=[iq 160 5 (bs.getD (bt ((i:Nat):Int) ((j:Nat):Int)) 0) (List.map (lh (bt ((i:Nat):Int) ((j:Nat):Int))) l),fT 160 5 bs (cM W) (bt ((i:Nat):Int) ((j:Nat):Int)),ah n (dM bs) 110,ah b3 (ints (OpT.mk 5 ((i:Nat):Int) ((j:Nat):Int) o.key o.n o.change o.mask o.torn o.cut).flat) 35,ah c (eZ n D M P) 71,dk d s.e.D,fp s d r]) (λ_ q=>hl▸n5 W (jb hv).1▸oE hv (az [2] rfl q)) (PS ?_))));refine CE Ds (jQ (bs.getD (bt ((i:Nat):Int) ((j:Nat):Int)) 0) (List.map (lh (bt ((i:Nat):Int) ((j:Nat):Int))) l)) ID ?_;rw[bY];refine PS ?_;refine ap ?_ ?_<;>intro h23
 · exact absurd h23 (by omega)
 refine nx J6 (CN (qx J5 (aa λ_ J7=>sr λ_ J8=>FA 0 fP aP ?_)));refine LT 3 Y3 (.int .i64 5) ?_ (hc:=by exact di _ rfl);refine PS ?_;refine nx J8 (CN (qx J7 (aa λ_ J9=>aa λ_ J10=>D1 3 dA ?_)));refine FD 0 4 fP aP ?_;refine LX 1 Y3 (.int .i64 (o.n)) ?_ (hc:=by exact yg _ rfl);refine ta 2 rfl (yW rfl rfl rfl) ?_;refine PD 3 ?_;refine PD 6 ?_;refine AL 4 ?_;refine CE Ds (jQ (bs.getD (bt ((i:Nat):Int) ((j:Nat):Int)) 0) (List.map (lh (bt ((i:Nat):Int) ((j:Nat):Int))) l)) ID ?_;rw[bY];refine EN (ta 5 rfl (PV.rem (r:=(max o.n 0% ((l.length:Nat):Int))) rfl rfl rfl (by omega) (tX (by omega))) ?_);refine DN (ac J10 (aq ?_))
 refine bD (α:=(Nat)) (λk=>((k:Nat):Int)≤(max o.n 0% ((l.length:Nat):Int))) (λk=>[(0,(.pointer (some ⟨c,0,none⟩))),(3,(.pointer (some ⟨b3,0,none⟩))),(4,(.int .i64 0)),(5,(.pointer (some ⟨(bs.getD (bt ((i:Nat):Int) ((j:Nat):Int)) 0),0,none⟩))),(35,(.int .i64 ((max o.n 0% ((l.length:Nat):Int))))),(36,(.int .i64 (((k:Nat):Int))))]) (λk=>[iq 160 5 (bs.getD (bt ((i:Nat):Int) ((j:Nat):Int)) 0) (List.map (lh (bt ((i:Nat):Int) ((j:Nat):Int))) (jz k l)),fT 160 5 bs (cM W) (bt ((i:Nat):Int) ((j:Nat):Int)),ah n (dM bs) 110,ah b3 (ints (OpT.mk 5 ((i:Nat):Int) ((j:Nat):Int) o.key o.n o.change o.mask o.torn o.cut).flat) 35,ah c (eZ n D M P) 71,dk d s.e.D,fp s d r]) (λk=>(max o.n 0% ((l.length:Nat):Int)).toNat-k) 0
     (Aw _ (by omega)) SB
     (λ_ s=>az [0,0,0,0,0,0,0] rfl s) (λk hinv=>?_)
 obtain hk:=hinv;refine sr λ_ J11=>PS ?_
 refine ap ?_ ?_<;>intro h37;refine nx J11 (aa λ_ J12=>CY (qx J12 (aa λ_ J13=>aq (ad (PS ?_)))))
 refine lC (ab rfl) rfl rfl rfl OM rfl (tO (bs.getD (bt ((i:Nat):Int) ((j:Nat):Int)) 0) (List.map (lh (bt ((i:Nat):Int) ((j:Nat):Int))) (jz k l)) (by rw[bY,kP];exact h8) (λx hx=>by
        obtain⟨m,_,rfl⟩:=gd.1 hx
        exact wA _ m)) (λ_ s=>s) (λ_ _ _=>trivial) (λvR HR hR=>?_)
 obtain rfl:=hR;rw[zb];refine aw (af (ac J13 (ad (AD ?_))));refine PS ?_;refine aw ?_
 exact aL ((k+1):(Nat)) (by omega) (by show(max o.n 0% ((l.length:Nat):Int)).toNat- (k+1)< (max o.n 0% ((l.length:Nat):Int)).toNat-k;omega)
   SB
   (λ_ s=>az [0,0,0,0,0,0,0] rfl s)
 have hkr:k=(max o.n 0% ((l.length:Nat):Int)).toNat:=by omega
 refine cr (H':=[iq 160 5 (bs.getD (bt ((i:Nat):Int) ((j:Nat):Int)) 0) (List.map (lh (bt ((i:Nat):Int) ((j:Nat):Int))) (m::l2)),fT 160 5 bs (cM W) (bt ((i:Nat):Int) ((j:Nat):Int)),ah n (dM bs) 110,ah b3 (ints (OpT.mk 5 ((i:Nat):Int) ((j:Nat):Int) o.key o.n o.change o.mask o.torn o.cut).flat) 35,ah c (eZ n D M P) 71,dk d s.e.D,fp s d r]) (λ_ q=>by rw[hkr,ht]at q;exact q) (nx J11 (aa λ_ J14=>CN (bh (aC (aC (bC (ac J9 (aa λ_ J15=>D2 3 4 dA ?_))))))));refine PD 0 ?_;refine PD 1 ?_;refine FD 2 0 p7 AT ?_;refine LX 3 KF (.pointer (some ⟨n,0,none⟩)) ?_ (hc:=by exact BI n D M P);refine FD 4 1 fP aP ?_;refine LX 5 Y3 (.int .i64 (((i:Nat):Int))) ?_ (hc:=by exact bM _ rfl);refine FD 6 2 fP aP ?_;refine LX 7 Y3 (.int .i64 (((j:Nat):Int))) ?_ (hc:=by exact ji _ rfl);refine AL 8 ?_;refine cr (H':=[eB 110 160 5 n (cM (W.set (bt ((i:Nat):Int) ((j:Nat):Int)) (m::l2))),ah b3 (ints (OpT.mk 5 ((i:Nat):Int) ((j:Nat):Int) o.key o.n o.change o.mask o.torn o.cut).flat) 35,ah c (eZ n D M P) 71,dk d s.e.D,fp s d r]) (λ_ q=>qi (bs:=bs) hv hW (az [0,0,0] rfl q)) (CR OL (rC n (cM (W.set (bt ((i:Nat):Int) ((j:Nat):Int)) (m::l2))) ((i:Nat):Int) ((j:Nat):Int) (cQ m) (List.map (lh (bt ((i:Nat):Int) ((j:Nat):Int))) l2) hv (qj _) (Gj hv hW) hm0 (by have:=tJ m;omega)) ID λvR HR hR=>?_);obtain⟨uv,rfl,rfl⟩:=hR;rw[Ck hv hW];refine EN (PD 9 ?_);refine PD 10 ?_
 refine PD 11 ?_;refine PD 12 ?_;refine PD 13 ?_;refine DN (ac J15 (aa λ_ J16=>sr λ_ J17=>FA 0 fP aP ?_));refine LT 2 Y3 (.int .i64 5) ?_ (hc:=by exact di _ rfl);refine P3 ?_;refine PS ?_;refine P3 ?_;refine FA 2 fP aP ?_;refine LT 2 Y3 (.int .i64 (((j:Nat):Int))) ?_ (hc:=by exact ji _ rfl);refine CE Bk (ql c n j D M P hj d r s.e.D hD hM) (SM [3,3]) ?_;refine bb ?_ ?_<;>intro h64;refine PS ?_;refine PS ?_;refine nx J17 (CN (qx J16 (sr λ_ J18=>PS ?_)));refine CF QE (D9 uv (cQ m)) ID (Bs 3 rfl rfl) ?_;refine P3 ?_;refine XZ mT (ints MsgT.zero.flat) λb8=>?_
 refine SW 0 ca aI ?_;refine PS ?_;refine nx J18 (aa λ_ J19=>sr λ_ J20=>P2 ?_);refine ap ?_ ?_<;>intro h73;refine nx J20 (CY (oZ (λw=>Frm F w∧w.heap[b3]?=some (.cells (ints (OpT.mk 5 ((i:Nat):Int) ((j:Nat):Int) o.key o.n o.change o.mask o.torn o.cut).flat).toArray 35 (0,0))∧w.heap[c]?=some (.cells (eZ n D M P).toArray 71 (0,0))∧w.heap[b8]?=some (.cells (ints ((ju (cQ m)).1).flat).toArray 136 (0,0))∧True) dA rfl (λ_ s=>⟨fE s,s.block 5 (lb rfl) rfl,s.block 1 (lb rfl) rfl,s.block 0 (lb rfl) rfl,trivial⟩) (PD 0 ?_)));refine FD 1 2 fP aP ?_;refine LX 2 Y3 (.int .i64 (((j:Nat):Int))) ?_ (hc:=by exact ji _ rfl);refine PD 3 ?_;refine FD 4 6 p7 oI ?_;refine IY 5 (6+j) rk iN ?_;refine LX 6 qd (.pointer (some ⟨r,0,none⟩)) ?_ (hc:=by exact(xS n D M P hj).trans (congrArg some hM));refine PD 7 ?_;refine FD 8 2 fP aP ?_;refine LX 9 Y3 (.int .i64 (((j:Nat):Int))) ?_ (hc:=by exact ji _ rfl);refine ta 10 rfl (kF (cells:=#[(.pointer (some ⟨c,0,none⟩)),(.int .i64 (((j:Nat):Int)))]) rfl rfl (by as_aux_lemma=>kernel_rfl)) ?_;refine ta 11 rfl (p8 rfl NY rfl rfl) ?_;refine FD 12 1 fP aP ?_;refine LX 13 Y3 (.int .i64 (((i:Nat):Int))) ?_ (hc:=by exact bM _ rfl);refine LY 14 bg ca aI ?_;refine AL 15 ?_
 refine cr (H':=[cJ (xM c n d j D M P hj hD (W.set (bt ((i:Nat):Int) ((j:Nat):Int)) l2) (by rw[dK];exact hW)) r s,ah b8 (ints ((ju (cQ m)).1).flat) 136,ic uv (cQ m) 5,ah b3 (ints (OpT.mk 5 ((i:Nat):Int) ((j:Nat):Int) o.key o.n o.change o.mask o.torn o.cut).flat) 35]) (λ_ q=>Fw ho (az [1,1,1,3] rfl q)) (CZ OK (@AQ _ (xM c n d j D M P hj hD (W.set (bt ((i:Nat):Int) ((j:Nat):Int)) l2) (by rw[dK];exact hW)) r s ((i:Nat):Int) (ju (cQ m)).1 hs (G1 _) hto hrs) ID λvR=>?_);change TL _ _ _ _ _ _ _ _ _ [cJ (xM c n d j D M P hj hD (W.set (bt ((i:Nat):Int) ((j:Nat):Int)) l2) (by rw[dK];exact hW)) r (fQ KD s ((i:Nat):Int) (ju (cQ m)).1),ah b8 (ints ((ju (cQ m)).1).flat) 136,ic uv (cQ m) 5,ah b3 (ints (OpT.mk 5 ((i:Nat):Int) ((j:Nat):Int) o.key o.n o.change o.mask o.torn o.cut).flat) 35];refine cr (H':=[ah c (eZ n D M P) 71,dk d ((fQ KD s ((i:Nat):Int) (ju (cQ m)).1).e.D),eB 110 160 5 n (cM (g9 (W.set (bt ((i:Nat):Int) ((j:Nat):Int)) l2) j (fQ KD s ((i:Nat):Int) (ju (cQ m)).1).o)),fp ((fQ KD s ((i:Nat):Int) (ju (cQ m)).1).hush) d r,ah b8 (ints ((ju (cQ m)).1).flat) 136,ic uv (cQ m) 5,ah b3 (ints (OpT.mk 5 ((i:Nat):Int) ((j:Nat):Int) o.key o.n o.change o.mask o.torn o.cut).flat) 35]) (λ_ q=>Bn (s:=(fQ KD s ((i:Nat):Int) (ju (cQ m)).1)) q) (EN (DN (ac J19 (sr λ_ J21=>P2 ?_))));refine nx J21 (aj (WK [0,0,0,0] (av rfl rfl ?_)))
 exact .inr (.inr ⟨(by simpa using h64),h73,(by rw[h73]),rfl⟩);refine nx J20 (CN (qx J19 (sr λ_ J22=>P2 ?_)));refine nx J22 (aj (WK [1,1,1,3] (av rfl rfl ?_)));exact .inr (.inl ⟨(by simpa using h64),h73,rfl,rfl⟩);refine PS ?_;refine PS ?_;refine nx J17 (CY (sr λ_ J23=>PS ?_));refine nx J23 (aj (ae (WK [0,0,0,2] (av rfl rfl ?_))));exact .inl ⟨(by simpa using h64),rfl,rfl⟩
end Go.Proofs.YtmcjhkbcmmddgaaGreat
end

section
namespace Api
open Go Leg Codec Dsk Wal
class GdM(m:MsgT):Prop where
 kind:0≤m.kind∧m.kind≤9
class GdL(l:List SaidT):Prop where
 all: ∀x∈l,0≤x.msg.kind∧x.msg.kind≤9
theorem Ko(n:Int):0< (oz n).length:=qM _
theorem DV(n:Int)(l:List Int):0< (bf (n::l)).length:=by
 show 0< (oz n++bf l).length;rw[ai];have:=Ko n;omega
theorem NO{m:MsgT}(h:0≤m.kind∧m.kind≤9):0< (cQ m).length:=by
 have p: ∀(l:List Int) (r:List UInt8),0< (bf (m.kind::l)++r).length:=λl r=>by rw[ai];have:=DV m.kind l;omega
 unfold cQ;split
 · exact p _ _
 rename_i h0;split
 · exact DV _ _
 split
 · exact p _ _
 rename_i h3;split
 · rw[aE,aE];exact p _ _
 split
 · rw[aE];exact p _ _
 split
 · exact p _ _
 split
 · exact p _ _
 · exfalso
   simp only[ee,fg,decide_eq_true_eq]at h0 h3;omega
instance (v:Int):GdM (pB v):=⟨(by decide:(0:Int)≤1∧(1:Int)≤9)⟩
instance (i:Int)(y:RowT):GdM (pu i y):=⟨(by decide:(0:Int)≤2∧(2:Int)≤9)⟩
instance (v:ViewT):GdM (jp v):=⟨(by decide:(0:Int)≤7∧(7:Int)≤9)⟩
instance (i:Int)(v:ViewT):GdM (mX i v):=⟨(by decide:(0:Int)≤8∧(8:Int)≤9)⟩
instance (i:Int)(y:RowT):GdM (eR i y):=⟨(by decide:(0:Int)≤9∧(9:Int)≤9)⟩
instance (e:Int)(b:BallotT):GdM (fI e b):=⟨(by decide:(0:Int)≤3∧(3:Int)≤9)⟩
instance (e:Int)(b h:BallotT)(c:ChangeT):GdM (j0 e b h c):=⟨(by decide:(0:Int)≤4∧(4:Int)≤9)⟩
instance (e:Int)(b:BallotT)(c:ChangeT):GdM (iO e b c):=⟨(by decide:(0:Int)≤5∧(5:Int)≤9)⟩
instance (e:Int)(b:BallotT):GdM (jc e b):=⟨(by decide:(0:Int)≤6∧(6:Int)≤9)⟩
instance (t:Int)(m:MsgT)[h:GdM m]:GdL [⟨t,m⟩]:=⟨λx hx=>by rw[fu]at hx;subst hx;exact h.kind⟩
instance (i:Int)(m:MsgT)(p:Nat→Bool)(k:Nat)[h:GdM m]:GdL (nF i m p k):=⟨λx hx=>by
 unfold nF at hx;obtain⟨j,_,rfl⟩:=gd.1 hx
 exact h.kind⟩
instance (x:RepT):GdL (oa x):=⟨λs hs=>by
 unfold oa at hs;rw[gd]at hs;obtain⟨w,_,rfl⟩:=hs
 exact(show(0:Int)≤0∧(0:Int)≤9 by decide)⟩
section
variable {δ:Type} {K:Dk δ} {s0 s:MS δ}
class Qt(s0 s:MS δ):Prop where
 id:s.id=s0.id
 replies:s.replies=s0.replies
 ops:s.ops=s0.ops
 waits:s.waits=s0.waits∨s.waits=0
 o: ∃l,s.o=s0.o++l∧∀x∈l,0≤x.msg.kind∧x.msg.kind≤9
instance Qt.rfl':Qt s s:=⟨rfl,rfl,rfl, .inl rfl,[],(aW _).symm,λ_ h=>by cases h⟩
theorem Qt.trans{a b c:MS δ}(h:Qt a b)(g:Qt b c):Qt a c:=by
 obtain⟨l,e,hl⟩:=h.o;obtain⟨l2,e2,hl2⟩:=g.o;exact⟨g.id.trans h.id,g.replies.trans h.replies,g.ops.trans h.ops,g.waits.elim (λq=>h.waits.imp (q.trans ·) (q.trans ·)) .inr,l++l2,by rw[e2,e,aE],λx hx=>(eY.1 hx).elim (hl x) (hl2 x)⟩
theorem Qt.same{t:MS δ}(h:Qt s0 s)(h1:t.id=s.id)(h2:t.replies=s.replies)(h3:t.ops=s.ops)(h4:t.waits=s.waits)(h5:t.o=s.o):Qt s0 t:=
 ⟨h1.trans h.id,h2.trans h.replies,h3.trans h.ops,by rw[h4];exact h.waits,by rw[h5];exact h.o⟩
instance [h:Qt s0 s](l:List SaidT)[g:GdL l]:Qt s0 (iG K s l):=by
 refine h.trans ⟨rfl,rfl,rfl, .inl rfl,?_⟩
 by_cases q:K.dn s.e=true
 · exact⟨[],by rw[iG,if_pos q,aW],λ_ h=>by cases h⟩
 · exact⟨l,by rw[iG,if_neg q],g.all⟩
instance [h:Qt s0 s](t:Int)(m:MsgT)[GdM m]:Qt s0 (yt K s t m):=inferInstanceAs (Qt s0 (iG K s _))
instance [h:Qt s0 s](r:RecT):Qt s0 (dL K s r):=h.same rfl rfl rfl rfl rfl
instance [h:Qt s0 s](f:Int):Qt s0 (keptM s f):=h.same rfl rfl rfl rfl rfl
instance [h:Qt s0 s](w:Int)(x:RowT):Qt s0 (xZ s w x):=h.same rfl rfl rfl rfl rfl
instance [h:Qt s0 s]:Qt s0 (gO s):=h.same rfl rfl rfl rfl rfl
instance [h:Qt s0 s](w:Int)(x:RowT):Qt s0 (gN s w x):=h.same rfl rfl rfl rfl rfl
instance [h:Qt s0 s](w:Int):Qt s0 (kQ s w):=h.same rfl rfl rfl rfl rfl
instance [h:Qt s0 s](x:RowT):Qt s0 (pS s x 0):=⟨h.id,h.replies,h.ops, .inr rfl,h.o⟩
instance [Qt s0 s]:Qt s0 (eV K s):=inferInstanceAs (Qt s0 (iG K s _))
instance [Qt s0 s](y:RowT):Qt s0 (jW K s y):=inferInstanceAs (Qt s0 (iG K s _))
instance [Qt s0 s](v:ViewT):Qt s0 (kU K s v):=inferInstanceAs (Qt s0 (iG K s _))
instance [Qt s0 s](m:MsgT)[GdM m]:Qt s0 (iR K s m):=inferInstanceAs (Qt s0 (iG K s _))
instance [Qt s0 s](x:RowT):Qt s0 (dD K s x 0).1:=by unfold dD;split<;>exact inferInstance
instance [h:Qt s0 s]:Qt s0 (kW K s):=by
 unfold kW;split
 · exact h
 split
 · exact inferInstance
 · exact h
instance [h:Qt s0 s](f:Int)(m:MsgT):Qt s0 (gD K s f m):=by
 unfold gD
 repeat' split
 all_goals exact inferInstance
instance [h:Qt s0 s](w:Int)(x:RowT):Qt s0 (mf s w x):=h.same rfl rfl rfl rfl rfl
instance [h:Qt s0 s](f w:Int)(y:RowT):Qt s0 (toldS s f w y):=h.same rfl rfl rfl rfl rfl
instance [h:Qt s0 s](f:Int)(m:MsgT):Qt s0 (dw K s f m):=by unfold dw;split<;>exact inferInstance
theorem qy[Qt s0 s]{f:MS δ→MS δ}(hf:Qt s0 (f s))(t:Int)(m:MsgT)[GdM m]:Qt s0 (kr K f s t m):=by unfold kr;split;exact hf;exact inferInstance
instance [h:Qt s0 s](f w:Int):Qt s0 (eu K s f w):=by
 unfold eu
 repeat' split
 · exact h
 · exact qy inferInstance _ _
 · exact inferInstance
 · exact qy inferInstance _ _
instance [h:Qt s0 s](i w:Int):Qt s0 (gA K s i w):=by
 unfold gA;split
 · exact h
 · exact qy inferInstance _ _
instance [Qt s0 s](i:Int):Qt s0 (lP K s i):=by unfold lP;exact inferInstance
theorem Al: ∀(l:List Int) (s:MS δ),Qt s0 s→Qt s0 (fY K l s)
 | [],_,h=>h
 |i::l,s,h=>Al l (lP K s i) inferInstance
instance [h:Qt s0 s]:Qt s0 (nN K s):=Al _ _ h
instance [h:Qt s0 s](v:ViewT):Qt s0 (lA s v):=h.same rfl rfl rfl rfl rfl
instance [h:Qt s0 s](v:ViewT):Qt s0 (gl K s v):=by
 unfold gl
 repeat' split
 all_goals exact inferInstance
instance [h:Qt s0 s](f:Int)(m:MsgT):Qt s0 (iD K s f m):=by unfold iD;exact inferInstance
instance [h:Qt s0 s](c:ChangeT):Qt s0 (iX K s c):=by
 unfold iX
 repeat' split
 all_goals exact inferInstance
instance [h:Qt s0 s](n:Int):Qt s0 (dx s n):=h.same rfl rfl rfl rfl rfl
instance [h:Qt s0 s](v:VoteT):Qt s0 (kS s v):=h.same rfl rfl rfl rfl rfl
instance [h:Qt s0 s](a:AccT):Qt s0 (tT s a):=h.same rfl rfl rfl rfl rfl
instance [h:Qt s0 s](f:Int)(m:MsgT):Qt s0 (kc K f m s):=by
 unfold kc;split
 · exact h
 · split<;>exact inferInstance
theorem sK[h:Qt s0 s]{f:MS δ→MS δ}(hf: ∀s:MS δ,Qt s0 s→Qt s0 (f s))(w:Int)(m:MsgT):Qt s0 (el K f s w m):=by
 unfold el
 repeat' split
 · exact inferInstance
 · exact h
 · exact h
 · exact hf _ inferInstance
instance [Qt s0 s](w:Int)(m:MsgT):Qt s0 (mA K s w m):=sK (λ_ _=>inferInstance) w m
instance [h:Qt s0 s](w:Int)(m:MsgT):Qt s0 (jC K w m s):=by unfold jC;exact qy inferInstance _ _
instance [h:Qt s0 s](w:Int)(m:MsgT):Qt s0 (l4 K w m s):=by
 unfold l4
 repeat' split
 all_goals exact inferInstance
instance [Qt s0 s](w:Int)(m:MsgT):Qt s0 (nu K s w m):=sK (λ_ _=>inferInstance) w m
theorem vk[h:Qt s0 s]{f:MS δ→MsgT→MS δ}{m:MsgT}[GdM m](hf: ∀s:MS δ,Qt s0 s→Qt s0 (f s m)):Qt s0 (gW K f s m):=by
 unfold gW;split
 · exact hf _ inferInstance
 · exact inferInstance
instance [h:Qt s0 s](vt:VoteT):Qt s0 (iH K s vt):=vk λ_ _=>inferInstance
instance [h:Qt s0 s](f:Int)(m:MsgT):Qt s0 (nX K f m s):=by
 unfold nX;split
 · exact h
 · split<;>exact inferInstance
instance [Qt s0 s](w:Int)(m:MsgT):Qt s0 (mB K s w m):=sK (λ_ _=>inferInstance) w m
instance [h:Qt s0 s](w:Int)(m:MsgT)(a:AccT):Qt s0 (jS K w m a s):=by unfold jS;exact qy inferInstance _ _
instance [h:Qt s0 s](w:Int)(m:MsgT):Qt s0 (mR K w m s):=by
 unfold mR
 repeat' split
 all_goals exact inferInstance
instance [Qt s0 s](w:Int)(m:MsgT):Qt s0 (nv K s w m):=sK (λ_ _=>inferInstance) w m
instance [h:Qt s0 s](vt:VoteT):Qt s0 (jE K s vt):=vk λ_ _=>inferInstance
instance [h:Qt s0 s](vt:VoteT):Qt s0 (lw K s vt):=by unfold lw;split<;>exact inferInstance
instance [h:Qt s0 s](c:ChangeT):Qt s0 (mG K s c):=by unfold mG;exact inferInstance
instance [h:Qt s0 s](c:ChangeT):Qt s0 (bF K s c).1:=by
 unfold bF
 repeat' split
 all_goals exact inferInstance
instance [h:Qt s0 s]:Qt s0 (bG K s):=by unfold bG;split<;>exact inferInstance
instance [h:Qt s0 s]:Qt s0 (bQ K s):=by unfold bQ;split<;>exact inferInstance
instance [h:Qt s0 s]:Qt s0 (fz K s):=by unfold fz;split<;>exact inferInstance
instance [h:Qt s0 s]:Qt s0 (pM K s):=by
 unfold pM;split
 · exact h
 · repeat' split
   all_goals exact inferInstance
instance [h:Qt s0 s]:Qt s0 (gU K s):=by unfold gU;split<;>exact inferInstance
structure Rp(s0 s:MS δ)(l:List ReplyT):Prop where
 id:s.id=s0.id
 replies:s.replies=s0.replies++l
 o: ∃l,s.o=s0.o++l∧∀x∈l,0≤x.msg.kind∧x.msg.kind≤9
theorem Qt.rp(h:Qt s0 s):Rp s0 s []:=⟨h.id,by rw[h.replies,aW],h.o⟩
theorem Rp.then{l:List ReplyT}{t:MS δ}(h:Rp s0 s l)(g:Qt s t):Rp s0 t l:=by
 obtain⟨l1,e,hl⟩:=h.o;obtain⟨l2,e2,hl2⟩:=g.o;exact⟨g.id.trans h.id,g.replies.trans h.replies,l1++l2,by rw[e2,e,aE],λx hx=>(eY.1 hx).elim (hl x) (hl2 x)⟩
theorem Jl(s:MS δ)(f:Int)(m:MsgT):Qt s (dh K s f m)∨(0<s.waits∧Rp s (dh K s f m) [⟨s.waits,0,0⟩]∧(dh K s f m).waits=0∧(dh K s f m).ops=s.ops):=by
 unfold dh;split
 · split
   · by_cases hw:0<s.waits
     · right
       have e:li (gO (keptM s f))= {dp (gO (keptM s f)) s.waits 0 0 with waits:=0}:=y7 (s:=gO (keptM s f)) hw;have q:Qt (li (gO (keptM s f))) (kC K (keptM s f)):=by unfold kC;exact inferInstance
       have hw0:(li (gO (keptM s f))).waits=0:=by rw[e]
       refine⟨hw,Rp.then (s:=li (gO (keptM s f))) ?_ q,(q.waits.elim (·.trans hw0) id),q.ops.trans (by rw[e];rfl)⟩;rw[e];exact⟨rfl,rfl,[],(aW _).symm,λ_ h=>by cases h⟩
     · left
       unfold kC;rw[y8 (s:=gO (keptM s f)) hw];exact inferInstance
   · left;exact inferInstance
 · left;exact inferInstance
theorem Lh(s:MS δ)(f:Int)(m:MsgT):Qt s (fQ K s f m)∨(0<s.waits∧Rp s (fQ K s f m) [⟨s.waits,0,0⟩]∧(fQ K s f m).waits=0∧(fQ K s f m).ops=s.ops):=by
 unfold fQ
 by_cases h1:m.kind=1
 · rw[if_neg (by omega),if_pos h1];exact Jl s f m
 · left
   rw[if_neg h1]
   repeat' split
   all_goals exact inferInstance
theorem L9(s:MS δ)(x:RowT)(op:Int):((dD K s x op).2≠0∧Qt s (dD K s x op).1)∨((dD K s x op).2=0∧Rp s (dD K s x op).1 []∧(dD K s x op).1.waits=op∧(dD K s x op).1.ops=s.ops):=by
 unfold dD;split
 · rename_i h;exact .inl ⟨h,inferInstance⟩
 · right
   have q:Qt (pS (dL K s (e8 x)) x op) (eV K (pS (dL K s (e8 x)) x op)):=inferInstance;refine⟨rfl,Rp.then (s:=pS (dL K s (e8 x)) x op) ⟨rfl,(aW _).symm,[],(aW _).symm,λ_ h=>by cases h⟩ q,?_,q.ops⟩;show(eV K _).waits=_;rfl
theorem II(s:MS δ)(o:OpT):(∃e v,Rp s (bv K s o).1 [⟨fx (s.ops+1),e,v⟩]∧(bv K s o).2=e∧(bv K s o).1.ops=fx (s.ops+1)∧((bv K s o).1.waits=s.waits∨(bv K s o).1.waits=0))∨(Rp s (bv K s o).1 []∧(bv K s o).2=0∧(bv K s o).1.ops=fx (s.ops+1)∧(bv K s o).1.waits=fx (s.ops+1)):=by
 have e0:Rp s (opsS s) []:=⟨rfl,(aW _).symm,[],(aW _).symm,λ_ h=>by cases h⟩
 have rep: ∀(t:MS δ) (op e v:Int),Qt (opsS s) t→op=fx (s.ops+1)→Rp s (dp t op e v) [⟨fx (s.ops+1),e,v⟩]∧(dp t op e v).ops=fx (s.ops+1)∧((dp t op e v).waits=s.waits∨(dp t op e v).waits=0):=λt op e v h ho=>by
  subst ho;obtain⟨l,e1,hl⟩:=h.o;exact⟨⟨h.id,by show t.replies++_=_;rw[h.replies];rfl,l,e1,hl⟩,h.ops,h.waits⟩
 unfold bv;split
 · left
   unfold dm;split
   · obtain⟨a,b,c⟩:=rep (opsS s) _ (fw (opsS s) o.change) 0 inferInstance rfl
     exact⟨_,_,a,rfl,b,c⟩
   · split
     · obtain⟨a,b,c⟩:=rep (bF K (opsS s) o.change).1 _ (bF K (opsS s) o.change).2 0 inferInstance rfl
       exact⟨_,_,a,rfl,b,c⟩
     · obtain⟨a,b,c⟩:=rep (bF K (opsS s) o.change).1 _ 0 0 inferInstance rfl
       have q:Qt (dp (bF K (opsS s) o.change).1 (opsS s).ops 0 0) (lw K (dp (bF K (opsS s) o.change).1 (opsS s).ops 0 0) (jr (opsS s).view (cR (opsS s)) o.change)):=inferInstance;exact⟨_,_,a.then q,rfl,q.ops.trans b,q.waits.elim (λw=>c.imp (w.trans ·) (w.trans ·)) .inr⟩
 · unfold ld
   split
   · left
     obtain⟨a,b,c⟩:=rep (opsS s) _ (cx (opsS s) o).2.2 (cx (opsS s) o).2.1 inferInstance rfl;exact⟨_,_,a,rfl,b,c⟩
   · rcases L9 (K:=K) (opsS s) (cx (opsS s) o).1 (opsS s).ops with⟨h,q⟩| ⟨h,q,hw,ho⟩
     · rw[if_pos h]
       left;obtain⟨a,b,c⟩:=rep _ _ (dD K (opsS s) (cx (opsS s) o).1 (opsS s).ops).2 0 q rfl;exact⟨_,_,a,rfl,b,c⟩
     · rw[if_neg (by omega)]
       right;obtain⟨l,e1,hl⟩:=q.o;exact⟨⟨q.id,q.replies,l,e1,hl⟩,rfl,ho,hw⟩
end
def Slot.pend(x:Slot):Nat:=match x.run with
 |some s=>if 0<s.waits then 1 else 0
 |none=>0
structure SlotOk(i n:Nat)(x:Slot):Prop where
 run: ∀s,x.run=some s→OkR KD s∧s.id=((i:Nat):Int)∧s.o=[]
 D:x.run=none→DkOk x.D
 reps:x.reps.length+x.pend≤n
structure CLOk(n:Nat)(a:CL):Prop where
 ms:a.ms.length=5
 W:a.W.length=25
 at': ∀i,i<5→SlotOk i n (a.at' i)
 way: ∀k,(a.W.getD k []).length≤8∧∀m∈a.W.getD k [],0< (cQ m).length
structure OkOp(o:OpT):Prop where
 change:OkCh o.change
 n:o.n≤9223372036854775807
theorem SlotOk.dk{i n:Nat}{x:Slot}(h:SlotOk i n x):DkOk x.dk:=by
 unfold Slot.dk;split
 · rename_i s q;exact(h.run s q).1.e.dk
 · rename_i q;exact h.D q
theorem SlotOk.more{i n k:Nat}{x:Slot}(h:SlotOk i n x)(hk:n≤k):SlotOk i k x:=⟨h.run,h.D,jT h.reps hk⟩
theorem CLOk.more{n k:Nat}{a:CL}(h:CLOk n a)(hk:n≤k):CLOk k a:=⟨h.ms,h.W,λi hi=>(h.at' i hi).more hk,h.way⟩
theorem uZ{ms:List Slot}{W:List (List MsgT)}{i:Nat}{x:Slot}(h:i<ms.length):(CL.mk (ms.set i x) W).at' i=x:=by
 unfold CL.at';rw[List.getD_eq_getElem?_getD,List.getElem?_set_self h];rfl
theorem vH{ms:List Slot}{W:List (List MsgT)}{i j:Nat}{x:Slot}(h:j≠i):(CL.mk (ms.set i x) W).at' j=ms.getD j .nil:=by
 unfold CL.at';rw[List.getD_eq_getElem?_getD,List.getElem?_set_ne (λe=>h e.symm),←List.getD_eq_getElem?_getD]
theorem CLOk.put{n k i:Nat}{a:CL}(h:CLOk n a)(hk:n≤k)(hi:i<5){x:Slot}(hx:SlotOk i k x){W:List (List MsgT)}(hW:W.length=25)(hw: ∀k,(W.getD k []).length≤8∧∀m∈W.getD k [],0< (cQ m).length):CLOk k ⟨a.ms.set i x,W⟩:=
 ⟨by show(a.ms.set i x).length=5;rw[dK];exact h.ms,hW,λj hj=>by
  by_cases q:j=i
  · subst q;rw[uZ (by rw[h.ms];exact hi)];exact hx
  · rw[vH q];exact(h.at' j hj).more hk,hw⟩
theorem LH{W:List (List MsgT)}(hw: ∀k,(W.getD k []).length≤8∧∀m∈W.getD k [],0< (cQ m).length)(f:Nat)(s:SaidT)(hs:0< (cQ s.msg).length): ∀k,((qD W f s).getD k []).length≤8∧∀m∈(qD W f s).getD k [],0< (cQ m).length:=λk=>by
 unfold qD;split
 · by_cases q:k=bt ((f:Nat):Int) s.to'
   · subst q
     by_cases hl:bt ((f:Nat):Int) s.to'<W.length
     · rw[List.getD_eq_getElem?_getD,List.getElem?_set_self hl]
       obtain⟨h1,h2⟩:=hw (bt ((f:Nat):Int) s.to');simp only[Option.getD_some];split
       · refine⟨by rw[ai,gZ];omega,λm hm=>?_⟩
         rcases eY.1 hm with hm|hm
         · exact h2 m hm
         · rw[fu]at hm;subst hm;exact hs
       · exact⟨h1,h2⟩
     · rw[Rb (by omega)];exact hw _
   · rw[List.getD_eq_getElem?_getD,List.getElem?_set_ne (λe=>q e.symm),←List.getD_eq_getElem?_getD];exact hw k
 · exact hw k
theorem C2(f:Nat): ∀(l:List SaidT) {W:List (List MsgT)},(∀x∈l,0< (cQ x.msg).length)→(∀k,(W.getD k []).length≤8∧∀m∈W.getD k [],0< (cQ m).length)→∀k,((g9 W f l).getD k []).length≤8∧∀m∈(g9 W f l).getD k [],0< (cQ m).length
 | [],_,_,hw=>hw
 |s::l,W,hl,hw=>C2 f l (W:=qD W f s) (λx hx=>hl x (Ev _ hx)) (LH hw f s (hl s (la ..)))
theorem qC(W:List (List MsgT))(f:Nat)(s:SaidT):(qD W f s).length=W.length:=by unfold qD;split<;>simp
theorem mW(f:Nat): ∀(l:List SaidT) (W:List (List MsgT)),(g9 W f l).length=W.length
 | [],_=>rfl
 |s::l,W=>(mW f l _).trans (qC W f s)
theorem L7{s:MS LD}(h:OkR KD s):OkR KD s.hush:=⟨h.e,h.id,h.view,h.own,h.mir,h.book,h.last,h.acc,h.vote⟩
def owe(s:MS LD):Nat:=if 0<s.waits then 1 else 0
theorem CLOk.did{n i k:Nat}{a:CL}(h:CLOk n a)(hk:n≤k)(hi:i<5){s s':MS LD}(hs:(a.at' i).run=some s)(h':OkR KD s'){l:List ReplyT}(r:Rp s s' l)(hl:l.length+owe s'+n≤k+owe s):CLOk k (a.did i s'):=by
 obtain⟨h1,h2,h3⟩:=(h.at' i hi).run s hs;obtain⟨lo,e,hlo⟩:=r.o;rw[h3,aQ]at e;refine h.put hk hi ⟨λt q=>?_,(λq=>by cases q),?_⟩ (by rw[mW];exact h.W) (C2 i _ (λx hx=>NO (hlo x (by rw[←e];exact hx))) h.way)
 · obtain rfl:=bm q
   exact⟨L7 h',r.id.trans h2,rfl⟩
 · have:=(h.at' i hi).reps
   unfold Slot.reps Slot.pend at this ⊢;rw[hs]at this;show((a.at' i).past++s'.replies).length+(if 0<s'.waits then 1 else 0)≤k;rw[r.replies];unfold owe at hl;simp only[ai]at this ⊢;omega
theorem Qt.owe{s s':MS LD}(q:Qt s s'):Api.owe s'≤Api.owe s:=by
 unfold Api.owe;rcases q.waits with e|e
 · rw[e];exact aH _
 · rw[e];exact aO _
theorem Ow(s:MS LD):owe s≤1:=by unfold owe;split<;>omega
theorem CLOk.quiet{n i:Nat}{a:CL}(h:CLOk n a)(hi:i<5){s s':MS LD}(hs:(a.at' i).run=some s)(h':OkR KD s')(q:Qt s s'):CLOk n (a.did i s'):=
 h.did (aH _) hi hs h' q.rp (by have:=q.owe;show 0+_+n≤_;omega)
theorem CLOk.onway{n k:Nat}{a:CL}(h:CLOk n a){l:List MsgT}(hl:l.length≤8∧∀m∈l,0< (cQ m).length):CLOk n (a.way k l):=
 ⟨h.ms,by show(a.W.set k l).length=25;rw[dK];exact h.W,h.at',λj=>by
  show((a.W.set k l).getD j []).length≤8∧_
  by_cases q:j=k
  · subst q
    by_cases hk:j<a.W.length
    · show((a.W.set j l).getD j []).length≤8∧∀m∈(a.W.set j l).getD j [],_
      rw[List.getD_eq_getElem?_getD,List.getElem?_set_self hk];exact hl
    · show((a.W.set j l).getD j []).length≤8∧∀m∈(a.W.set j l).getD j [],_
      rw[Rb (by omega)];exact h.way j
  · show((a.W.set k l).getD j []).length≤8∧∀m∈(a.W.set k l).getD j [],_
    rw[List.getD_eq_getElem?_getD,List.getElem?_set_ne (λe=>q e.symm),←List.getD_eq_getElem?_getD];exact h.way j⟩
theorem ma{w:Int}(h:gP w=true):w.toNat<5∧((w.toNat:Nat):Int)=w:=by
 have:0≤w∧w<5:=of_decide_eq_true h;omega
theorem Mk{n f t:Nat}{a:CL}(h:CLOk n a)(ht:t<5)(m:MsgT):CLOk n (pT a f t m).1:=by
 unfold pT;split
 · exact h
 · rename_i s hs
   split
   · exact h
   · split
     · obtain⟨h1,_,_⟩:=(h.at' t ht).run s hs
       have hm:=G1 (cQ m);rcases Lh (K:=KD) s ((f:Nat):Int) (ju (cQ m)).1 with q| ⟨hw,q,q2,_⟩
       · exact h.quiet ht hs inferInstance q
       · refine h.did (aH _) ht hs inferInstance q ?_
         unfold owe;rw[q2,if_pos hw];show 1+(if(0:Int)<0 then 1 else 0)+n≤n+1;rw[if_neg (by omega)];omega
     · exact h
theorem M5{n:Nat}{a:CL}(h:CLOk n a)(o:OpT):CLOk n (nW a o).1:=by
 unfold nW;split
 · exact h
 · rename_i hv
   have hv:dv o.at' o.to'=true:=by simpa using hv
   have hw:=h.way (bt o.at' o.to');split
   · exact h
   · rename_i m l hl
     rw[hl]at hw;split
     · split
       · refine h.onway ⟨?_,λx hx=>?_⟩
         · rename_i q
           unfold I1 at q;have q:=of_decide_eq_true q;unfold Ez;rw[if_pos q,ai,gZ];omega
         · unfold Ez at hx
           split at hx
           · rcases eY.1 hx with hx|hx
             · exact hw.2 x hx
             · rw[fu]at hx;subst hx;exact hw.2 _ (la ..)
           · exact hw.2 x hx
       · exact h
     · split
       · exact h
       · rename_i m2 l2 hl2
         have hlen:=kP (max o.n 0% ((m::l).length:Int)).toNat (m::l);have hmem:=λx=>(pe (x:=x) (max o.n 0% ((m::l).length:Int)).toNat (m::l)).1
         rw[hl2]at hlen hmem;have g:CLOk n (a.way (bt o.at' o.to') l2):=h.onway ⟨by simp only[ax]at hlen hw;omega,λx hx=>hw.2 x (hmem x (Ev _ hx))⟩
         have ht:o.to'.toNat<5:=by
          unfold dv at hv;rw[an,an]at hv;exact(ma hv.1.2).1
         split
         · exact g
         · exact Mk g ht m2
theorem Cs{n i:Nat}(hi:i<5){x:Slot}(h:SlotOk i n x):SlotOk i n (iF i x).1:=by
 unfold iF;split
 · exact h
 · rename_i hr
   have hD:=h.D hr;refine⟨λs q=>?_,λ_=>hD.open.1,?_⟩
   · obtain⟨h1,f⟩:=ul hi hD q
     exact⟨h1,f.id,f.o⟩
   · have:=h.reps
     unfold Slot.reps Slot.pend at this ⊢;rw[hr,aW]at this;show(x.past++match(cO i x.D).1 with|some s=>s.replies|none=>[]).length+(match(cO i x.D).1 with|some s=>if 0<s.waits then 1 else 0|none=>0)≤n;cases q:(cO i x.D).1 with
     |some s=>
      have f:=(ul hi hD q).2;simp only[f.replies,f.waits,aW]
      simpa using this
     |none=>simpa using this
theorem NV{n i:Nat}{x:Slot}(h:SlotOk i n x){k:Int}(hk:k≤9223372036854775807):SlotOk i n (yM x k):=by
 unfold yM;split
 · rename_i s hs
   obtain⟨h1,h2,h3⟩:=h.run s hs;refine⟨λt q=>?_,(λq=>by cases q),?_⟩
   · obtain rfl:=bm q
     exact⟨⟨⟨h1.e.dk.arm k hk,h1.e.used,h1.e.cnt⟩,h1.id,h1.view,h1.own,h1.mir,h1.book,h1.last,h1.acc,h1.vote⟩,h2,h3⟩
   · have:=h.reps
     unfold Slot.reps Slot.pend at this ⊢;rw[hs]at this;exact this
 · rename_i hr
   refine⟨λt q=>?_,λ_=>(h.D hr).arm k hk,?_⟩
   · rw[show x.run=some t from q]at hr;cases hr
   · have:=h.reps
     unfold Slot.reps Slot.pend at this ⊢;rw[hr]at this;simp only[hr];exact this
theorem crash_ok{n i:Nat}{x:Slot}(h:SlotOk i n x)(mask torn cut:Int):SlotOk i n (nL x mask torn cut):=
 ⟨(λt q=>by cases q),λ_=>h.dk.crash mask torn cut,by
  have:=h.reps;show(x.reps++[]).length+0≤n
  rw[aW];omega⟩
theorem FO{n:Nat}{a:CL}(h:CLOk n a){o:OpT}(ho:OkOp o)(hk: ¬(0≤o.kind∧o.kind≤4)):CLOk n (pG a o).1:=by
 unfold pG;split
 · exact h
 rename_i hm;have hm:gP o.at'=true:=by simpa using hm
 have hi:=(ma hm).1;split
 · exact M5 h o
 split
 · unfold Cj
   split
   · exact h
   · rename_i s hs
     split
     · exact h
     · obtain⟨h1,_,_⟩:=(h.at' _ hi).run s hs
       exact h.quiet hi hs inferInstance inferInstance
 split
 · exact h.put (aH _) hi (NV (h.at' _ hi) ho.n) h.W h.way
 split
 · exact h.put (aH _) hi (crash_ok (h.at' _ hi) _ _ _) h.W h.way
 split
 · exact h.put (aH _) hi (Cs hi (h.at' _ hi)) h.W h.way
 · exact h
theorem tM{n:Nat}{a:CL}(h:CLOk n a){o:OpT}(ho:OkOp o):CLOk (n+1) (pG a o).1:=by
 by_cases hk:0≤o.kind∧o.kind≤4
 · unfold pG
   split
   · exact h.more (by omega)
   rename_i hm;have hm:gP o.at'=true:=by simpa using hm
   have hi:=(ma hm).1;unfold xR;split
   · exact h.more (by omega)
   · rename_i s hs
     split
     · exact h.more (by omega)
     · obtain⟨h1,_,_⟩:=(h.at' _ hi).run s hs
       have:=ho.change;rcases II (K:=KD) s o with⟨e,v,q,_,_,w⟩| ⟨q,_⟩
       · refine h.did (by omega) hi hs inferInstance q ?_
         have:owe (bv KD s o).1≤owe s:=by
          unfold owe;rcases w with e|e
          · rw[e];exact aH _
          · rw[e];exact aO _
         show 1+_+n≤_;omega
       · refine h.did (by omega) hi hs inferInstance q ?_
         have:=Ow (bv KD s o).1;show 0+_+n≤_;omega
 · exact(FO h ho hk).more (by omega)
theorem new_ok:CLOk 0 CL.new:=by
 refine⟨by simp[CL.new],by simp[CL.new],λi hi=>?_,λk=>?_⟩
 · have e:CL.new.at' i=pv i:=by simp[CL.new,CL.at',List.getD_eq_getElem?_getD,hi]
   rw[e];exact Cs hi ⟨(λs q=>by cases q),λ_=>DkOk.new,aH _⟩
 · have e:CL.new.W.getD k []=[]:=by
    show(List.replicate 25 ([]:List MsgT)).getD k []=[];rw[List.getD_eq_getElem?_getD,List.getElem?_replicate];split<;>rfl
   rw[e];exact⟨aO _,λm hm=>by cases hm⟩
end Api
end

section
namespace Go.Proofs.YtmcjhkbcmmddgaaGreat
open Go Leg Codec Api Dsk Wal
theorem uA{f:Nat→HP}{k i:Nat}(hi:i<k){H:List HP}{h:Hl}(s:bz (bz ((List.range k).map f)::H) h):bz (f i::bz (((List.range k).map f).eraseIdx i)::H) h:=by
 have s1:bz ((List.range k).map f++H) h:=(cb _ _).2 s;have e:((List.range k).map f).getD i (λ_=>True)=f i:=by simp[List.getD_eq_getElem?_getD,hi]
 have p:=nE (λ_=>True) ((List.range k).map f) i (by simpa using hi);rw[e]at p;exact cF (eH (p.append_right H) s1) (λ_ a=>a) λ_ b=>(cb _ _).1 b
theorem uz{f g:Nat→HP}{k i:Nat}(hi:i<k)(hg: ∀j,j≠i→g j=f j){H:List HP}{h:Hl}(s:bz (g i::bz (((List.range k).map f).eraseIdx i)::H) h):bz (bz ((List.range k).map g)::H) h:=by
 have e0:((List.range k).map g).eraseIdx i=((List.range k).map f).eraseIdx i:=by
  refine List.ext_getElem? λj=>?_
  rw[List.getElem?_eraseIdx,List.getElem?_eraseIdx]
  have: ∀m,m≠i→((List.range k).map g)[m]?=((List.range k).map f)[m]?:=λm hm=>by
   rw[List.getElem?_map,List.getElem?_map]
   by_cases hk:m<k
   · simp[hk,hg m hm]
   · simp[hk]
  split
  · exact this j (by omega)
  · exact this (j+1) (by omega)
 have e:((List.range k).map g).getD i (λ_=>True)=g i:=by simp[List.getD_eq_getElem?_getD,hi]
 have p:=nE (λ_=>True) ((List.range k).map g) i (by simpa using hi);rw[e,e0]at p;have s2:bz ((g i::((List.range k).map f).eraseIdx i)++H) h:=cF s (λ_ a=>a) λ_ b=>(cb _ _).2 b
 exact(cb _ _).1 (eH (p.symm.append_right H) s2)
section
variable {f:FuncId} {args:Array Value} {Q:Value→Prop} {c i:Nat} {a a':CL}
theorem BG(hi:i<5){Z:Value→CL→Prop}(hne: ∀v a',Z v a'→∀j,j≠i→a'.at' j=a.at' j)
 (core: ∀g:CX,DT f args T0 (ah c (eZ g.n (my g) (kh a g.r) g.p) 71::eB 110 160 5 g.n (cM a.W)::kq (a.at' i) (g.d i) (g.r i) (g.p i))
  (dH λv H=>∃a',Z v a'∧∃g':CX,g'.n=g.n∧(∀j,j≠i→g'.d j=g.d j∧g'.r j=g.r j∧g'.p j=g.p j)∧H=ah c (eZ g.n (my g') (kh a' g'.r) g'.p) 71::eB 110 160 5 g.n (cM a'.W)::kq (a'.at' i) (g'.d i) (g'.r i) (g'.p i))):
 DT f args T0 [gm c a] (dH λv H=>∃a',Z v a'∧H=[gm c a']):=by
 refine Leg.Does.ex (A':=λg:CX=>(ah c (eZ g.n (my g) (kh a g.r) g.p) 71::eB 110 160 5 g.n (cM a.W)::kq (a.at' i) (g.d i) (g.r i) (g.p i))++[bz (((List.range 5).map λi=>lp (a.at' i) (g.d i) (g.r i) (g.p i)).eraseIdx i)]) (λh s=>?_) λg=>?_
 · obtain⟨g,s⟩:=fR s
   have s2:=uA (f:=λi=>lp (a.at' i) (g.d i) (g.r i) (g.p i)) hi (az [2,0,0] rfl s);have s3:=(cb (kq (a.at' i) (g.d i) (g.r i) (g.p i)) _).2 s2;exact⟨g,az [4,4,0,0,0,0] rfl s3⟩
 · refine Leg.Does.withinR (core g) (λ_ _ _ _=>trivial) (λh s=>s) λv H hp=>?_
   obtain⟨a',hz,g',hn,hg,rfl⟩:=hp;refine⟨[gm c a'],λh s=>?_,a',hz,rfl⟩;have s1:=az [2,2,2,2,0,0] rfl s;have s2:=(cb (kq (a'.at' i) (g'.d i) (g'.r i) (g'.p i)) _).1 s1
   have s3:=uz (f:=λi=>lp (a.at' i) (g.d i) (g.r i) (g.p i)) (g:=λi=>lp (a'.at' i) (g'.d i) (g'.r i) (g'.p i)) hi (λj hj=>by
    obtain⟨h1,h2,h3⟩:=hg j hj
    rw[hne v a' hz j hj,h1,h2,h3]) s2
   refine bn (p:=rI c a') g' ?_;rw[←hn]at s3;exact az [1,1,0] rfl s3
theorem xz(hne: ∀j,j≠i→a'.at' j=a.at' j)(r:Nat→Nat)(hi:yD (a'.at' i) (r i)=yD (a.at' i) (r i)):kh a' r=kh a r:=funext λj=>by
 by_cases q:j=i
 · subst q;exact hi
 · show yD (a'.at' j) (r j)=yD (a.at' j) (r j)
   rw[hne j q]
theorem F0(hl:a.ms.length=5)(hi:i<5){s:MS LD}(hs:(a.at' i).run=some s){R:Value→MS LD→List (List MsgT)→Prop}
 (core: ∀g:CX,kh a g.r i= .pointer (some ⟨g.r i,0,none⟩)→DT f args T0 [ah c (eZ g.n (my g) (kh a g.r) g.p) 71,dk (g.d i) s.e.D,eB 110 160 5 g.n (cM a.W),fp s (g.d i) (g.r i)]
  (dH λv H=>∃s' W',R v s' W'∧H=[ah c (eZ g.n (my g) (kh a g.r) g.p) 71,dk (g.d i) s'.e.D,eB 110 160 5 g.n (cM W'),fp s' (g.d i) (g.r i)])):
 DT f args T0 [gm c a] (dH λv H=>∃a',(∃s' W',R v s' W'∧a'=⟨a.ms.set i {a.at' i with run:=some s'},W'⟩)∧H=[gm c a']):=by
 refine BG hi (λv a' hz j hj=>?_) λg=>?_
 · obtain⟨s',W',_,rfl⟩:=hz
   exact vH hj
 · have em:kh a g.r i= .pointer (some ⟨g.r i,0,none⟩):=by show yD (a.at' i) _=_;unfold yD;rw[hs]
   have e1:rj (a.at' i) (g.d i) (g.r i)=fp s (g.d i) (g.r i):=by unfold rj;rw[hs]
   have e2:(a.at' i).dk=s.e.D:=by unfold Slot.dk;rw[hs]
   refine Leg.Does.withinR (B:=[mD (g.p i) (a.at' i).past]) (core g em) (λ_ _ _ _=>trivial) (λh q=>?_) λv H hp=>?_
   · unfold kq at q
     rw[e1,e2]at q;exact az [0,1,0,1,0] rfl q
   · obtain⟨s',W',hR,rfl⟩:=hp
     have ea:(CL.mk (a.ms.set i {a.at' i with run:=some s'}) W').at' i= {a.at' i with run:=some s'}:=uZ (by rw[hl];exact hi);have hm:kh ⟨a.ms.set i {a.at' i with run:=some s'},W'⟩ g.r=kh a g.r:=xz (λj hj=>vH hj) g.r (by rw[ea];unfold yD;rw[hs]);refine⟨_,λh q=>?_,_,⟨s',W',hR,rfl⟩,g,rfl,λ_ _=>⟨rfl,rfl,rfl⟩,rfl⟩;rw[hm,ea];exact az [0,1,0,1,0] rfl q
theorem BF(core: ∀g:CX,DT f args T0 [ah c (eZ g.n (my g) (kh a g.r) g.p) 71] (dH λv H=>Q v∧H=[ah c (eZ g.n (my g) (kh a g.r) g.p) 71])):
 DT f args T0 [gm c a] (dH λv H=>Q v∧H=[gm c a]):=by
 refine Leg.Does.ex (A':=λg:CX=>[ah c (eZ g.n (my g) (kh a g.r) g.p) 71]++[eB 110 160 5 g.n (cM a.W),bz ((List.range 5).map λi=>lp (a.at' i) (g.d i) (g.r i) (g.p i))]) (λh s=>fR s) λg=>?_
 refine Leg.Does.withinR (core g) (λ_ _ _ _=>trivial) (λh s=>s) λv H hp=>?_
 obtain⟨hQ,rfl⟩:=hp;exact⟨[gm c a],λh s=>bn (p:=rI c a) g s,hQ,rfl⟩
theorem Ku{R:Value→List (List MsgT)→Prop}(core: ∀g:CX,DT f args T0 [ah c (eZ g.n (my g) (kh a g.r) g.p) 71,eB 110 160 5 g.n (cM a.W)] (dH λv H=>∃W',R v W'∧H=[ah c (eZ g.n (my g) (kh a g.r) g.p) 71,eB 110 160 5 g.n (cM W')])):
 DT f args T0 [gm c a] (dH λv H=>∃W',R v W'∧H=[gm c ⟨a.ms,W'⟩]):=by
 refine Leg.Does.ex (A':=λg:CX=>[ah c (eZ g.n (my g) (kh a g.r) g.p) 71,eB 110 160 5 g.n (cM a.W)]++[bz ((List.range 5).map λi=>lp (a.at' i) (g.d i) (g.r i) (g.p i))]) (λh s=>fR s) λg=>?_
 refine Leg.Does.withinR (core g) (λ_ _ _ _=>trivial) (λh s=>s) λv H hp=>?_
 obtain⟨W',hR,rfl⟩:=hp;exact⟨[gm c ⟨a.ms,W'⟩],λh s=>bn (p:=rI c ⟨a.ms,W'⟩) g s,W',hR,rfl⟩
theorem Mg(hl:a.ms.length=5)(hi:i<5){x:Slot}(hm: ∀r,yD x r=yD (a.at' i) r)(hr: ∀d r,rj x d r=rj (a.at' i) d r)(hp:x.past=(a.at' i).past)
 (core: ∀g:CX,DT f args T0 [ah c (eZ g.n (my g) (kh a g.r) g.p) 71,dk (g.d i) (a.at' i).dk] (dH λv H=>Q v∧H=[ah c (eZ g.n (my g) (kh a g.r) g.p) 71,dk (g.d i) x.dk])):
 DT f args T0 [gm c a] (dH λv H=>∃a',(Q v∧a'=a.set i x)∧H=[gm c a']):=by
 have ea:(a.set i x).at' i=x:=uZ (by rw[hl];exact hi);refine BG hi (λv a' hz j hj=>by rw[hz.2];exact vH hj) λg=>?_
 refine Leg.Does.withinR (B:=[eB 110 160 5 g.n (cM a.W),mD (g.p i) (a.at' i).past,rj (a.at' i) (g.d i) (g.r i)]) (core g) (λ_ _ _ _=>trivial) (λh q=>az [0,1,0,0,0] rfl q) λv H hq=>?_
 obtain⟨hQ,rfl⟩:=hq;have hmm:kh (a.set i x) g.r=kh a g.r:=xz (λj hj=>vH hj) g.r (by rw[show(CL.mk (a.ms.set i x) a.W).at' i=x from ea];exact hm _);refine⟨_,λh q=>?_,_,⟨hQ,rfl⟩,g,rfl,λ_ _=>⟨rfl,rfl,rfl⟩,rfl⟩;rw[hmm,ea];unfold kq;rw[hp,hr];exact az [0,1,0,0,0] rfl q
end
theorem l3{f:FuncId}{args:Array Value}{R:Hl→Prop}{A:List HP}{p q:Value→List HP→Prop}(d:DT f args R A (dH p))(k: ∀v H,p v H→q v H):DT f args R A (dH q):=
 Leg.Does.fold d λe H hp=>by
  cases e with
  |returned v=>exact⟨H,λ_ s=>s,k v H hp⟩
  |panicked c=>exact hp.elim
  |outgrown=>exact hp.elim
theorem qw{H:List HP}{h:Hl}(s:bz H h):bz ((λ_=>True)::H) h:=⟨em,h,Ex h,(rG h).symm,trivial,s⟩
theorem wW{α:Type}{l:List α}{k:Nat}{d:α}(h:k<l.length):l.set k (l.getD k d)=l:=by
 refine List.ext_getElem? λj=>?_
 by_cases q:j=k
 · subst q;rw[List.getElem?_set_self h,List.getD_eq_getElem?_getD,List.getElem?_eq_getElem h];rfl
 · rw[List.getElem?_set_ne (λe=>q e.symm)]
section
variable {n c i:Nat} {a:CL} {o:OpT}
theorem CU(h:CLOk n a)(hi:i<5):a.set i (a.at' i)=a:=by
 show CL.mk (a.ms.set i (a.ms.getD i .nil)) a.W=a;rw[wW (by rw[h.ms];exact hi)]
theorem xb(h:CLOk n a)(hi:i<5){s:MS LD}(hs:(a.at' i).run=some s):(CL.mk (a.ms.set i {a.at' i with run:=some s}) a.W)=a:=by
 have e:({a.at' i with run:=some s}:Slot)=a.at' i:=by cases q:a.at' i with|mk r D p=>rw[q]at hs;simp only at hs;rw[hs]
 rw[e];exact CU h hi
theorem pq{k:Int}(hk:o.kind=k)(hi:o.at'=((i:Nat):Int)):OpT.mk k ((i:Nat):Int) o.to' o.key o.n o.change o.mask o.torn o.cut=o:=by subst hk;rw[←hi]
theorem tt{k:Int}{j:Nat}(hk:o.kind=k)(hi:o.at'=((i:Nat):Int))(hj:o.to'=((j:Nat):Int)):OpT.mk k ((i:Nat):Int) ((j:Nat):Int) o.key o.n o.change o.mask o.torn o.cut=o:=by subst hk;rw[←hi,←hj]
theorem tC{g:CX}{s:MS LD}(hs:(a.at' i).run=some s):kh a g.r i= .pointer (some ⟨g.r i,0,none⟩):=by show yD (a.at' i) _=_;unfold yD;rw[hs]
theorem nK{g:CX}(hs:(a.at' i).run=none):kh a g.r i= .pointer none:=by show yD (a.at' i) _=_;unfold yD;rw[hs]
theorem GR{a':CL}{r r':Nat→Nat}{v:Value}(hne: ∀j,j≠i→a'.at' j=a.at' j)(hr: ∀j,j≠i→r' j=r j)(hv:yD (a'.at' i) (r' i)=v):kh a' r'=kT (kh a r) i v:=funext λj=>by
 by_cases q:j=i
 · subst q;rw[jx];exact hv
 · rw[np _ _ q]
   show yD (a'.at' j) (r' j)=yD (a.at' j) (r j);rw[hne j q,hr j q]
theorem Kw(h:CLOk n a)(hn:n≤100000)(hi:i<5)(hat:o.at'=((i:Nat):Int))(hk:0≤o.kind∧o.kind≤4)(ho:OkOp o):DT 9 #[.pointer (some ⟨c,0,none⟩), .agg (ints o.flat).toArray] T0 [gm c a] (dH λv H=>v= .int .i64 (xR a i o).2∧H=[gm c (xR a i o).1]):=by
 have eo:=pq (o:=o) rfl hat;cases hr:(a.at' i).run with
 |none=>
  refine l3 (BF (Q:=λv=>v= .int .i64 4) λg=>?_) λv H hp=>?_
  · have:=D7 c g.n i (my g) (kh a g.r) g.p hi (nK hr) o o.kind hk
    rw[eo]at this;exact this
  · unfold xR;rw[hr];exact hp
 |some s=>
  obtain⟨hs,_,hso⟩:=(h.at' i hi).run s hr;have hrep:=(h.at' i hi).reps;unfold Slot.reps at hrep;rw[hr,ai]at hrep;simp only at hrep;refine l3 (F0 h.ms hi hr (R:=λv s' W'=>(s.e.D.dn=true∧v= .int .i64 4∧s'=s∧W'=a.W)∨(s.e.D.dn=false∧v= .int .i64 (bv KD s o).2∧s'=(bv KD s o).1.hush∧W'=g9 a.W i (bv KD s o).1.o)) λg em=>?_) λv H hp=>?_
  · have:=FV c g.n i (my g) (kh a g.r) g.p hi (g.d i) (g.r i) s rfl em a.W h.W hso hs o o.kind hk ho.change (by omega)
    rw[eo]at this;refine l3 this λv H hp=>?_
    rcases hp with⟨hd,rfl,rfl⟩| ⟨hd,rfl,rfl⟩
    · exact⟨s,a.W, .inl ⟨hd,rfl,rfl,rfl⟩,rfl⟩
    · exact⟨_,_, .inr ⟨hd,rfl,rfl,rfl⟩,rfl⟩
  · obtain⟨a',⟨s',W',hR,rfl⟩,rfl⟩:=hp
    unfold xR;rw[hr];rcases hR with⟨hd,rfl,rfl,rfl⟩| ⟨hd,rfl,rfl,rfl⟩
    · simp only[hd,if_true];exact⟨by first|rfl|trivial,by rw[xb h hi hr]⟩
    · simp only[hd];exact⟨rfl,rfl⟩
theorem Jh(h:CLOk n a)(hi:i<5)(hat:o.at'=((i:Nat):Int))(hk:o.kind=8):DT 9 #[.pointer (some ⟨c,0,none⟩), .agg (ints o.flat).toArray] T0 [gm c a] (dH λv H=>v= .int .i64 (Cj a i).2∧H=[gm c (Cj a i).1]):=by
 have eo:=pq (o:=o) hk hat;cases hr:(a.at' i).run with
 |none=>
  refine l3 (BF (Q:=λv=>v= .int .i64 4) λg=>?_) λv H hp=>?_
  · have:=D4 c g.n i (my g) (kh a g.r) g.p hi (nK hr) o
    rw[eo]at this;exact this
  · unfold Cj;rw[hr];exact hp
 |some s=>
  obtain⟨hs,_,hso⟩:=(h.at' i hi).run s hr;refine l3 (F0 h.ms hi hr (R:=λv s' W'=>(s.e.D.dn=true∧v= .int .i64 4∧s'=s∧W'=a.W)∨(s.e.D.dn=false∧v= .int .i64 0∧s'=(gU KD s).hush∧W'=g9 a.W i (gU KD s).o)) λg em=>?_) λv H hp=>?_
  · have:=FQ c g.n i (my g) (kh a g.r) g.p hi (g.d i) (g.r i) s rfl em a.W h.W hso hs o
    rw[eo]at this;refine l3 this λv H hp=>?_
    rcases hp with⟨hd,rfl,rfl⟩| ⟨hd,rfl,rfl⟩
    · exact⟨s,a.W, .inl ⟨hd,rfl,rfl,rfl⟩,rfl⟩
    · exact⟨_,_, .inr ⟨hd,rfl,rfl,rfl⟩,rfl⟩
  · obtain⟨a',⟨s',W',hR,rfl⟩,rfl⟩:=hp
    unfold Cj;rw[hr];rcases hR with⟨hd,rfl,rfl,rfl⟩| ⟨hd,rfl,rfl,rfl⟩
    · simp only[hd,if_true];exact⟨by first|rfl|trivial,by rw[xb h hi hr]⟩
    · simp only[hd];exact⟨rfl,rfl⟩
theorem KE(h:CLOk n a)(hi:i<5)(hat:o.at'=((i:Nat):Int))(hk:o.kind=9):DT 9 #[.pointer (some ⟨c,0,none⟩), .agg (ints o.flat).toArray] T0 [gm c a] (dH λv H=>v= .int .i64 0∧H=[gm c (a.set i (yM (a.at' i) o.n))]):=by
 have eo:=pq (o:=o) hk hat
 have ed:(yM (a.at' i) o.n).dk=(a.at' i).dk.arm o.n:=by
  unfold yM Slot.dk;cases hr:(a.at' i).run with
  |none=>simp only[hr]
  |some s=>rfl
 refine l3 (Mg (x:=yM (a.at' i) o.n) (Q:=λv=>v= .int .i64 0) h.ms hi (λr=>?_) (λd r=>?_) ?_ λg=>?_) λv H hp=>?_
 · unfold yM yD
   cases hr:(a.at' i).run with
   |none=>simp only[hr]
   |some s=>rfl
 · unfold yM rj
   cases hr:(a.at' i).run with
   |none=>simp only[hr]
   |some s=>rfl
 · unfold yM;split<;>rfl
 · have:=FX c g.n i (my g) (kh a g.r) g.p hi (g.d i) rfl (a.at' i).dk o
   rw[eo]at this;rw[ed];exact this
 · obtain⟨a',⟨rfl,rfl⟩,rfl⟩:=hp
   exact⟨rfl,rfl⟩
theorem F2(h:CLOk n a)(hn:n≤100000)(hi:i<5)(hat:o.at'=((i:Nat):Int))(hk:o.kind=10):DT 9 #[.pointer (some ⟨c,0,none⟩), .agg (ints o.flat).toArray] T0 [gm c a] (dH λv H=>v= .int .i64 0∧H=[gm c (a.set i (nL (a.at' i) o.mask o.torn o.cut))]):=by
 have eo:=pq (o:=o) hk hat;have so:=h.at' i hi;have hrep:=so.reps;unfold Slot.reps at hrep;rw[ai]at hrep;have ea:(a.set i (nL (a.at' i) o.mask o.torn o.cut)).at' i=nL (a.at' i) o.mask o.torn o.cut:=uZ (by rw[h.ms];exact hi);have hne: ∀j,j≠i→(a.set i (nL (a.at' i) o.mask o.torn o.cut)).at' j=a.at' j:=λj hj=>vH hj
 refine l3 (BG (Z:=λv a'=>v= .int .i64 0∧a'=a.set i (nL (a.at' i) o.mask o.torn o.cut)) hi (λv a' hz j hj=>by rw[hz.2];exact hne j hj) λg=>?_) λv H hp=>by obtain⟨_,⟨rfl,rfl⟩,rfl⟩:=hp;exact⟨rfl,rfl⟩
 have fin: ∀u,u.oneCell'=true→∀h,bz ([ah c (eZ g.n (my g) (kT (kh a g.r) i (.pointer none)) (kT g.p i u)) 71,dk (g.d i) ((a.at' i).dk.crash o.mask o.torn o.cut),mD u (a.at' i).reps]++[eB 110 160 5 g.n (cM a.W)]) h→
  bz (ah c (eZ g.n (my {g with p:=kT g.p i u}) (kh (a.set i (nL (a.at' i) o.mask o.torn o.cut)) g.r) (kT g.p i u)) 71::eB 110 160 5 g.n (cM (a.set i (nL (a.at' i) o.mask o.torn o.cut)).W)::kq ((a.set i (nL (a.at' i) o.mask o.torn o.cut)).at' i) (g.d i) (g.r i) (kT g.p i u i)) h:=λu _ hh q=>by
  rw[GR (a:=a) (i:=i) (v:= .pointer none) (r:=g.r) hne (λ_ _=>rfl) (by rw[ea];rfl),ea,jx];have q2:=qw (az [0,2,0,0] rfl q);exact az [1,1,1,1,0] rfl q2
 cases hr:(a.at' i).run with
 |none=>
  have er:(a.at' i).reps=(a.at' i).past:=by unfold Slot.reps;rw[hr,aW]
  have:=FU c g.n i (my g) (kh a g.r) g.p hi (g.d i) rfl (nK hr) (a.at' i).past (by omega) (a.at' i).dk so.dk.ok o;rw[eo]at this;refine Leg.Does.withinR (B:=[eB 110 160 5 g.n (cM a.W)]) this (λ_ _ _ _=>trivial) (λhh q=>?_) λv H hp=>?_
  · exact ak [0,1,1,0] rfl q
  · obtain⟨u,hu,rfl,rfl⟩:=hp
    refine⟨_,λhh q=>fin u hu hh ?_,_,⟨rfl,rfl⟩,{g with p:=kT g.p i u},rfl,λj hj=>⟨rfl,rfl,np _ _ hj⟩,rfl⟩;rw[er];exact q
 |some s=>
  rw[hr]at hrep;simp only at hrep;have er:(a.at' i).reps=(a.at' i).past++s.replies:=by unfold Slot.reps;rw[hr]
  have e1:rj (a.at' i) (g.d i) (g.r i)=fp s (g.d i) (g.r i):=by unfold rj;rw[hr]
  have:=FT c g.n i (my g) (kh a g.r) g.p hi (g.d i) rfl (g.r i) s (tC hr) (a.at' i).past (by omega) (by omega) (a.at' i).dk so.dk.ok o;rw[eo]at this;refine Leg.Does.withinR (B:=[eB 110 160 5 g.n (cM a.W)]) this (λ_ _ _ _=>trivial) (λhh q=>?_) λv H hp=>?_
  · unfold kq at q
    rw[e1]at q;exact az [0,1,1,1,0] rfl q
  · obtain⟨u,hu,rfl,rfl⟩:=hp
    refine⟨_,λhh q=>fin u hu hh ?_,_,⟨rfl,rfl⟩,{g with p:=kT g.p i u},rfl,λj hj=>⟨rfl,rfl,np _ _ hj⟩,rfl⟩;rw[er];exact q
end
section
variable {n c i:Nat} {a:CL} {o:OpT}
theorem Cx{i:Nat}{D:DS}{s:MS LD}(h:(cO i D).1=some s):(cO i D).2=0:=by
 obtain⟨h1,h2⟩:=ve h;unfold cO;rw[if_neg (by rw[h1];decide),h2]
theorem Cy(h:CLOk n a)(hi:i<5)(hat:o.at'=((i:Nat):Int))(hk:o.kind=11):DT 9 #[.pointer (some ⟨c,0,none⟩), .agg (ints o.flat).toArray] T0 [gm c a] (dH λv H=>v= .int .i64 (iF i (a.at' i)).2∧H=[gm c (a.set i (iF i (a.at' i)).1)]):=by
 have eo:=pq (o:=o) hk hat;have so:=h.at' i hi;cases hr:(a.at' i).run with
 |some s=>
  have e:iF i (a.at' i)=(a.at' i,5):=by unfold iF;rw[hr]
  rw[e,show a.set i (a.at' i,(5:Int)).1=a from CU h hi];refine BF (Q:=λv=>v= .int .i64 5) λg=>?_
  have:=FR c g.n i (my g) (kh a g.r) g.p hi (g.r i) (tC hr) o;rw[eo]at this;exact this
 |none=>
  have e:iF i (a.at' i)=({a.at' i with run:=(cO i (a.at' i).D).1,D:=(bN (a.at' i).D).D},(cO i (a.at' i).D).2):=by unfold iF;rw[hr]
  have hD:=so.D hr;have ed:(a.at' i).dk=(a.at' i).D:=by unfold Slot.dk;rw[hr]
  have e1: ∀d r,rj (a.at' i) d r= λ_=>True:=λd r=>by unfold rj;rw[hr]
  have hst: ∀x:Slot,(a.set i x).at' i=x:=λx=>uZ (by rw[h.ms];exact hi)
  have hne: ∀x:Slot,∀j,j≠i→(a.set i x).at' j=a.at' j:=λx j hj=>vH hj
  refine l3 (BG (Z:=λv a'=>v= .int .i64 (iF i (a.at' i)).2∧a'=a.set i (iF i (a.at' i)).1) hi (λv a' hz j hj=>by rw[hz.2];exact hne _ j hj) λg=>?_) λv H hp=>by obtain⟨_,⟨rfl,rfl⟩,rfl⟩:=hp;exact⟨rfl,rfl⟩
  have:=FS c g.n i (my g) (kh a g.r) g.p hi (g.d i) rfl (nK hr) (a.at' i).D hD o;rw[eo]at this;refine Leg.Does.withinR (B:=[eB 110 160 5 g.n (cM a.W),mD (g.p i) (a.at' i).past]) this (λ_ _ _ _=>trivial) (λhh q=>?_) λv H hp=>?_
  · unfold kq at q
    rw[ed]at q;exact ak [0,1,0,0] rfl q
  · rcases hp with⟨hn,rfl,rfl⟩| ⟨s,r,hn,rfl,rfl⟩
    · refine⟨_,λhh q=>?_,_,⟨by rw[e],rfl⟩,g,rfl,λj hj=>⟨rfl,rfl,rfl⟩,rfl⟩
      rw[hst,e];have em:kh (a.set i {a.at' i with run:=(cO i (a.at' i).D).1,D:=(bN (a.at' i).D).D}) g.r=kh a g.r:=xz (hne _) g.r (by rw[hst];unfold yD;rw[hr];simp only[hn]);rw[em];have q2:=qw (az [0,1,0,0] rfl q);have q3:=az [1,1,1,1,0] rfl q2;unfold kq Slot.dk rj;simp only[hn];exact q3
    · refine⟨_,λhh q=>?_,_,⟨by rw[e];simp only[Cx hn],rfl⟩,{g with r:=kT g.r i r},rfl,λj hj=>⟨rfl,np _ _ hj,rfl⟩,rfl⟩
      rw[hst,e];have em:kh (a.set i {a.at' i with run:=(cO i (a.at' i).D).1,D:=(bN (a.at' i).D).D}) (kT g.r i r)=kT (kh a g.r) i (.pointer (some ⟨r,0,none⟩)):=GR (hne _) (λj hj=>np _ _ hj) (by rw[hst,jx];unfold yD;simp only[hn]);rw[em];have q3:=az [0,2,1,1,0] rfl q;unfold kq Slot.dk rj;simp only[hn,jx];exact q3
theorem Hn(h:CLOk n a)(hn:n≤100000)(hi:i<5)(hat:o.at'=((i:Nat):Int))(hk:o.kind=5∨o.kind=6∨o.kind=7):DT 28 #[.pointer (some ⟨c,0,none⟩), .agg (ints o.flat).toArray] T0 [gm c a] (dH λv H=>v= .int .i64 (nW a o).2∧H=[gm c (nW a o).1]):=by
 cases hv:dv o.at' o.to' with
 |false=>
  have e:nW a o=(a,5):=by unfold nW;rw[if_pos hv]
  rw[e];have eo:=pq (o:=o) rfl hat;refine l3 (Ku (R:=λv W'=>v= .int .i64 5∧W'=a.W) λg=>?_) λv H hp=>by obtain⟨_,⟨rfl,rfl⟩,rfl⟩:=hp;exact⟨rfl,rfl⟩
  refine Leg.Does.ex (A':=λbs:List Nat=>[ah c (eZ g.n (my g) (kh a g.r) g.p) 71,ah g.n (dM bs) 110]++[e9 160 5 bs (cM a.W)]) (λhh q=>?_) λbs=>?_
  · obtain⟨bs,q⟩:=fR (eH (List.Perm.swap _ _ _) q)
    exact⟨bs,az [2,0,0] rfl q⟩
  · rw[hat]at hv
    have:=Cd c g.n i (my g) (kh a g.r) g.p hi o.to' o.kind o hv bs;rw[eo]at this;refine Leg.Does.withinR this (λ_ _ _ _=>trivial) (λhh q=>q) λv H hp=>?_
    obtain⟨rfl,rfl⟩:=hp;refine⟨_,λhh q=>?_,a.W,⟨rfl,rfl⟩,rfl⟩;exact eH (List.Perm.swap _ _ _) (bn (p:=λbs:List Nat=>[ah g.n (dM bs) 110,e9 160 5 bs (cM a.W)]) bs (az [1,1,0] rfl q))
 |true=>
  obtain⟨j,hto⟩: ∃j:Nat,o.to'=((j:Nat):Int):=⟨o.to'.toNat,((ma (sO hv).2).2).symm⟩;have hj:j<5:=by have:=(ma (sO hv).2).1;rw[hto]at this;simpa using this
  have hv2:dv ((i:Nat):Int) ((j:Nat):Int)=true:=by rw[←hat,←hto];exact hv
  have eK:bt o.at' o.to'=bt ((i:Nat):Int) ((j:Nat):Int):=by rw[hat,hto]
  have hij:((i:Nat):Int)≠((j:Nat):Int):=λe=>by
   unfold dv at hv2;rw[decide_eq_true e]at hv2;simp at hv2
  obtain⟨h8,hlen⟩:=h.way (bt ((i:Nat):Int) ((j:Nat):Int));have hkl:bt ((i:Nat):Int) ((j:Nat):Int)<a.W.length:=by rw[h.W];exact(jb hv2).1
  -- the net alone
  have net: ∀{R:Value→List (List MsgT)→Prop},(∀(g:CX) (bs:List Nat),Leg.Does Tryz.prog 28 #[.pointer (some ⟨c,0,none⟩), .agg (ints o.flat).toArray] (λ_=>True) [ah g.n (dM bs) 110,e9 160 5 bs (cM a.W),ah c (eZ g.n (my g) (kh a g.r) g.p) 71] (dH λv H=>∃W',R v W'∧H=[ah c (eZ g.n (my g) (kh a g.r) g.p) 71,eB 110 160 5 g.n (cM W')]))→
   Leg.Does Tryz.prog 28 #[.pointer (some ⟨c,0,none⟩), .agg (ints o.flat).toArray] (λ_=>True) [gm c a] (dH λv H=>∃W',R v W'∧H=[gm c ⟨a.ms,W'⟩]):=λcore=>Ku λg=>Leg.Does.ex (A':=λbs:List Nat=>[ah g.n (dM bs) 110,e9 160 5 bs (cM a.W),ah c (eZ g.n (my g) (kh a g.r) g.p) 71]) (λhh q=>fR (eH (List.Perm.swap _ _ _) q)) (core g)
  cases hl:a.W.getD (bt ((i:Nat):Int) ((j:Nat):Int)) []with
  |nil=>
   have e:nW a o=(a,10):=by unfold nW;rw[if_neg (by rw[hv];decide),eK,hl]
   rw[e];refine l3 (net (R:=λv W'=>v= .int .i64 10∧W'=a.W) λg bs=>?_) λv H hp=>by obtain⟨_,⟨rfl,rfl⟩,rfl⟩:=hp;exact⟨rfl,rfl⟩
   have:=AE c g.n i (my g) (kh a g.r) g.p hi j hj hv2 a.W h.W _ rfl h8 hlen o o.kind hl bs;rw[tt rfl hat hto,wW hkl]at this;exact l3 this λv H hp=>⟨a.W,⟨hp.1,rfl⟩,hp.2⟩
  |cons m0 l0=>
   by_cases h7:o.kind=7
   · have e:nW a o=(a.way (bt ((i:Nat):Int) ((j:Nat):Int)) (Ez (m0::l0)),if I1 (m0::l0)then 0 else 3):=by
      unfold nW;rw[if_neg (by rw[hv];decide),eK,hl];simp only[if_pos h7];split
      · rfl
      · rename_i q
        have q2:Ez (m0::l0)=m0::l0:=by unfold Ez;unfold I1 at q;rw[if_neg (by simpa using q)]
        rw[q2];show(a,(3:Int))=(CL.mk a.ms (a.W.set _ (m0::l0)),3);rw[←hl,wW hkl]
     rw[e];refine l3 (net (R:=λv W'=>v= .int .i64 (if I1 (m0::l0)then 0 else 3)∧W'=a.W.set (bt ((i:Nat):Int) ((j:Nat):Int)) (Ez (m0::l0))) λg bs=>?_) λv H hp=>by obtain⟨_,⟨rfl,rfl⟩,rfl⟩:=hp;exact⟨rfl,rfl⟩
     have:=yn c g.n i (my g) (kh a g.r) g.p hi j hj hv2 a.W h.W (m0::l0) hl (by rw[←hl];exact h8) (by rw[←hl];exact hlen) o (by simp) bs;rw[tt h7 hat hto]at this;exact l3 this λv H hp=>⟨_,⟨hp.1,rfl⟩,hp.2⟩
   · cases ht:jz (max o.n 0% ((m0::l0).length:Int)).toNat (m0::l0)with
     |nil=>have:=kP (max o.n 0% ((m0::l0).length:Int)).toNat (m0::l0);rw[ht]at this;simp at this
     |cons m l2=>
      by_cases h6:o.kind=6
      · have e:nW a o=(a.way (bt ((i:Nat):Int) ((j:Nat):Int)) l2,0):=by
         unfold nW;rw[if_neg (by rw[hv];decide),eK,hl];simp only[if_neg h7];rw[ht];simp only[if_pos h6]
        rw[e];refine l3 (net (R:=λv W'=>v= .int .i64 0∧W'=a.W.set (bt ((i:Nat):Int) ((j:Nat):Int)) l2) λg bs=>?_) λv H hp=>by obtain⟨_,⟨rfl,rfl⟩,rfl⟩:=hp;exact⟨rfl,rfl⟩
        have:=sJ c g.n i (my g) (kh a g.r) g.p hi j hj hv2 a.W h.W (m0::l0) hl (by rw[←hl];exact h8) (by rw[←hl];exact hlen) o m l2 ht bs 6 (.inr rfl) (.inl rfl);rw[tt h6 hat hto]at this;exact l3 this λv H hp=>⟨_,⟨hp.1,rfl⟩,hp.2⟩
      · have h5:o.kind=5:=by omega
        have e:nW a o=pT (a.way (bt ((i:Nat):Int) ((j:Nat):Int)) l2) i j m:=by
         unfold nW;rw[if_neg (by rw[hv];decide),eK,hl];simp only[if_neg h7];rw[ht];simp only[if_neg h6];rw[hat,hto];rfl
        rw[e];have ew:(a.way (bt ((i:Nat):Int) ((j:Nat):Int)) l2).at' j=a.at' j:=rfl;cases hr:(a.at' j).run with
        |none=>
         have e2:pT (a.way (bt ((i:Nat):Int) ((j:Nat):Int)) l2) i j m=(a.way (bt ((i:Nat):Int) ((j:Nat):Int)) l2,0):=by unfold pT;rw[ew,hr]
         rw[e2];refine l3 (net (R:=λv W'=>v= .int .i64 0∧W'=a.W.set (bt ((i:Nat):Int) ((j:Nat):Int)) l2) λg bs=>?_) λv H hp=>by obtain⟨_,⟨rfl,rfl⟩,rfl⟩:=hp;exact⟨rfl,rfl⟩
         have:=sJ c g.n i (my g) (kh a g.r) g.p hi j hj hv2 a.W h.W (m0::l0) hl (by rw[←hl];exact h8) (by rw[←hl];exact hlen) o m l2 ht bs 5 (.inl rfl) (.inr (nK hr));rw[tt h5 hat hto]at this;exact l3 this λv H hp=>⟨_,⟨hp.1,rfl⟩,hp.2⟩
        |some s=>
         obtain⟨hs,hid,hso⟩:=(h.at' j hj).run s hr;have hrep:=(h.at' j hj).reps;unfold Slot.reps at hrep;rw[hr,ai]at hrep;simp only at hrep;have W2:(a.W.set (bt ((i:Nat):Int) ((j:Nat):Int)) l2).length=25:=by rw[dK];exact h.W
         refine l3 (F0 h.ms hj hr (R:=λv s' W'=>(s.e.D.dn=true∧v= .int .i64 0∧s'=s∧W'=a.W.set (bt ((i:Nat):Int) ((j:Nat):Int)) l2)∨(s.e.D.dn=false∧(ju (cQ m)).2≠0∧v= .int .i64 (ju (cQ m)).2∧s'=s∧W'=a.W.set (bt ((i:Nat):Int) ((j:Nat):Int)) l2)∨(s.e.D.dn=false∧(ju (cQ m)).2=0∧v= .int .i64 0∧s'=(fQ KD s ((i:Nat):Int) (ju (cQ m)).1).hush∧W'=g9 (a.W.set (bt ((i:Nat):Int) ((j:Nat):Int)) l2) j (fQ KD s ((i:Nat):Int) (ju (cQ m)).1).o)) λg em=>?_) λv H hp=>?_
         · refine Leg.Does.ex (A':=λbs:List Nat=>[ah g.n (dM bs) 110,e9 160 5 bs (cM a.W),ah c (eZ g.n (my g) (kh a g.r) g.p) 71,dk (g.d j) s.e.D,fp s (g.d j) (g.r j)]) (λhh q=>fR (az [2,0,0,0] rfl q)) λbs=>?_
           have:=AG c g.n i (my g) (kh a g.r) g.p hi j hj hv2 a.W h.W (m0::l0) hl (by rw[←hl];exact h8) (by rw[←hl];exact hlen) o m l2 ht bs (g.d j) (g.r j) s rfl em hso hs (by rw[hid];exact hij) (by omega);rw[tt h5 hat hto]at this;refine l3 this λv H hp=>?_
           rcases hp with⟨hd,rfl,rfl⟩| ⟨hd,h1,rfl,rfl⟩| ⟨hd,h1,rfl,rfl⟩
           · exact⟨_,_, .inl ⟨hd,rfl,rfl,rfl⟩,rfl⟩
           · exact⟨_,_, .inr (.inl ⟨hd,h1,rfl,rfl,rfl⟩),rfl⟩
           · exact⟨_,_, .inr (.inr ⟨hd,h1,rfl,rfl,rfl⟩),rfl⟩
         · obtain⟨a',⟨s',W',hR,rfl⟩,rfl⟩:=hp
           have er: ∀W',CL.mk (a.ms.set j {a.at' j with run:=some s}) W'=CL.mk a.ms W':=λW'=>by
            have:=congrArg CL.ms (xb h hj hr);rw[show a.ms.set j {a.at' j with run:=some s}=a.ms from this]
           unfold pT;rw[ew,hr];rcases hR with⟨hd,rfl,rfl,rfl⟩| ⟨hd,h1,rfl,rfl,rfl⟩| ⟨hd,h1,rfl,rfl,rfl⟩
           · simp only[hd,if_true];exact⟨by first|rfl|trivial,by rw[er];rfl⟩
           · simp only[hd,if_neg h1];exact⟨by first|rfl|trivial,by rw[er];rfl⟩
           · simp only[hd,if_pos h1];exact⟨by first|rfl|trivial,rfl⟩
end
theorem FW(c:Nat)(X:HP)(o:OpT)(hm:gP o.at'=false):
 DT 9 #[(.pointer (some ⟨c,0,none⟩)),(.agg (ints o.flat).toArray)] T0 [X] (RI (.int .i64 5) [X]):=by
 refine BD 114 Tryz.func9 rfl rfl rfl λw0 F hF=>sr λ_ J1=>XY (ints o.flat) λb3=>?_
 refine PS ?_;refine nx J1 (aa λ_ J2=>sr λ_ J3=>PS ?_);refine FA 1 fP aP ?_;refine LU 0 Y3 (bM o rfl) ?_;refine CE qH (xm c o.at') ID ?_;rw[hm];refine PS ?_;refine nx J3 (CY (sr λ_ J4=>PS ?_));exact nx J4 (aj (ae (WK [1] (av rfl rfl ⟨rfl,rfl⟩))))
theorem FP(c i:Nat)(hi:i<5)(X:HP)(o:OpT)(k:Int)(hk:k=5∨k=6∨k=7)(p:Int→HP→Prop)(hw:DT 28 #[(.pointer (some ⟨c,0,none⟩)),(.agg (ints (OpT.mk k ((i:Nat):Int) o.to' o.key o.n o.change o.mask o.torn o.cut).flat).toArray)] T0 [X] (dH (λv H=>∃e X',v= .int .i64 e∧H=[X']∧p e X'))):
 DT 9 #[(.pointer (some ⟨c,0,none⟩)),(.agg (ints (OpT.mk k ((i:Nat):Int) o.to' o.key o.n o.change o.mask o.torn o.cut).flat).toArray)] T0 [X] (dH (λv H=>∃e X',v= .int .i64 e∧H=[X']∧p e X')):=by
 refine BD 114 Tryz.func9 rfl rfl rfl λw0 F hF=>sr λ_ J1=>XY (ints (OpT.mk k ((i:Nat):Int) o.to' o.key o.n o.change o.mask o.torn o.cut).flat) λb3=>?_
 refine PS ?_;refine nx J1 (aa λ_ J2=>sr λ_ J3=>PS ?_);refine FA 1 fP aP ?_;refine LT 0 Y3 (.int .i64 (((i:Nat):Int))) ?_ (hc:=by exact bM _ rfl);refine CE qH (dY c i hi) ID ?_;refine PS ?_;refine nx J3 (CN (qx J2 (aa λ_ J4=>sr λ_ J5=>FA 0 fP aP ?_)));refine LT 0 Y3 (.int .i64 (k)) ?_ (hc:=by exact di _ rfl);refine nx J5 (aq (aa λ_ J6=>sr λ_ J7=>P2 ?_));refine ap ?_ ?_<;>intro h12
 · exact absurd h12 (by omega)
 refine nx J7 (CN (sr λ_ J8=>P2 ?_));refine ap ?_ ?_<;>intro h12
 · exact absurd h12 (by omega)
 refine nx J8 (CN (sr λ_ J9=>P2 ?_));refine ap ?_ ?_<;>intro h12
 · exact absurd h12 (by omega)
 refine nx J9 (CN (sr λ_ J10=>P2 ?_));refine ap ?_ ?_<;>intro h12
 · exact absurd h12 (by omega)
 refine nx J10 (CN (ad (PS ?_)));refine ap ?_ ?_<;>intro h17
 · exact absurd h17 (by omega)
 refine PS ?_;refine nx J6 (CN (aa λ_ J11=>fB (α:=Unit) (λ_u=>True) (λ_u=>[(0,(.pointer (some ⟨c,0,none⟩))),(3,(.pointer (some ⟨b3,0,none⟩))),(4,(.int .i64 0)),(11,(.int .i64 (k))),(37,(.bool true))]) (λ_u=>[ah b3 (ints (OpT.mk k ((i:Nat):Int) o.to' o.key o.n o.change o.mask o.torn o.cut).flat) 35,X]) (λ_u hinv=>?_) (λtl11=>?_)));have _:=hinv;refine ac J11 (CY (sr λ_ J12=>PS ?_));refine LW 0 fP Lj OpT.len ?_;refine CR QT (hw) (SM [1]) λvR HR hR=>?_
 obtain⟨e,X',rfl,rfl,hp⟩:=hR;refine PS ?_;exact nx J12 (aj (aJ (ae (WK [0] (av rfl rfl ⟨e,X',rfl,rfl,hp⟩)))));refine sr λ_ J13=>P2 ?_
 refine ap ?_ ?_<;>intro h37;refine nx J13 (CY (aS ?_))
 exact aF
  SB
  (λ_ s=>ak [0,0] rfl s)
  (tl11 (():Unit) trivial)
 refine nx J13 (CN (sr λ_ J14=>P2 ?_));refine ap ?_ ?_<;>intro h37;refine nx J14 (CY (aS ?_))
 exact aF
  SB
  (λ_ s=>ak [0,0] rfl s)
  (tl11 (():Unit) trivial)
 refine nx J14 (CN (ad (PS ?_)));refine ap ?_ ?_<;>intro h40;refine PS ?_;refine aw ?_
 exact aF
  SB
  (λ_ s=>ak [0,0] rfl s)
  (tl11 (():Unit) trivial)
 · exact absurd h40 (by omega)
theorem D6(c i:Nat)(hi:i<5)(X:HP)(o:OpT)(k:Int)(hk:k<0∨11<k):
 DT 9 #[(.pointer (some ⟨c,0,none⟩)),(.agg (ints (OpT.mk k ((i:Nat):Int) o.to' o.key o.n o.change o.mask o.torn o.cut).flat).toArray)] T0 [X] (RI (.int .i64 5) [X]):=by
 refine BD 114 Tryz.func9 rfl rfl rfl λw0 F hF=>sr λ_ J1=>XY (ints (OpT.mk k ((i:Nat):Int) o.to' o.key o.n o.change o.mask o.torn o.cut).flat) λb3=>?_
 refine PS ?_;refine nx J1 (aa λ_ J2=>sr λ_ J3=>PS ?_);refine FA 1 fP aP ?_;refine LT 0 Y3 (.int .i64 (((i:Nat):Int))) ?_ (hc:=by exact bM _ rfl);refine CE qH (dY c i hi) ID ?_;refine PS ?_;refine nx J3 (CN (qx J2 (aa λ_ J4=>sr λ_ J5=>FA 0 fP aP ?_)));refine LT 0 Y3 (.int .i64 (k)) ?_ (hc:=by exact di _ rfl);refine nx J5 (aq (aa λ_ J6=>sr λ_ J7=>P2 ?_));refine ap ?_ ?_<;>intro h12
 · exact absurd h12 (by omega)
 refine nx J7 (CN (sr λ_ J8=>P2 ?_));refine ap ?_ ?_<;>intro h12
 · exact absurd h12 (by omega)
 refine nx J8 (CN (sr λ_ J9=>P2 ?_));refine ap ?_ ?_<;>intro h12
 · exact absurd h12 (by omega)
 refine nx J9 (CN (sr λ_ J10=>P2 ?_));refine ap ?_ ?_<;>intro h12
 · exact absurd h12 (by omega)
 refine nx J10 (CN (ad (PS ?_)));refine ap ?_ ?_<;>intro h17
 · exact absurd h17 (by omega)
 refine PS ?_;refine nx J6 (CN (aa λ_ J11=>sr λ_ J12=>P2 ?_));refine ap ?_ ?_<;>intro h37
 · exact absurd h37 (by omega)
 refine nx J12 (CN (sr λ_ J13=>P2 ?_));refine ap ?_ ?_<;>intro h37
 · exact absurd h37 (by omega)
 refine nx J13 (CN (ad (PS ?_)));refine ap ?_ ?_<;>intro h40
 · exact absurd h40 (by omega)
 refine PS ?_;refine nx J11 (CN (sr λ_ J14=>PS ?_));refine ap ?_ ?_<;>intro h45
 · exact absurd h45 (by omega)
 refine PS ?_;refine nx J14 (CN (sr λ_ J15=>PS ?_));refine ap ?_ ?_<;>intro h65
 · exact absurd h65 (by omega)
 refine PS ?_;refine nx J15 (CN (sr λ_ J16=>PS ?_));refine ap ?_ ?_<;>intro h77
 · exact absurd h77 (by omega)
 refine PS ?_;refine nx J16 (CN (sr λ_ J17=>PS ?_));refine ap ?_ ?_<;>intro h109
 · exact absurd h109 (by omega)
 refine PS ?_;refine nx J17 (CN (sr λ_ J18=>PS ?_));exact nx J18 (aj (aJ (ae (WK [1] (av rfl rfl ⟨rfl,rfl⟩)))))
section
variable {n c:Nat} {a:CL} {o:OpT}
theorem jP(h:CLOk n a)(hn:n≤100000)(ho:OkOp o):DT 9 #[.pointer (some ⟨c,0,none⟩), .agg (ints o.flat).toArray] T0 [gm c a] (dH λv H=>v= .int .i64 (pG a o).2∧H=[gm c (pG a o).1]):=by
 unfold pG
 by_cases hm:gP o.at'=false
 · rw[if_pos hm]
   exact FW c (gm c a) o hm
 · rw[if_neg hm]
   have hm:gP o.at'=true:=by simpa using hm
   obtain⟨hi,hat⟩:=ma hm
   by_cases h1:0≤o.kind∧o.kind≤4
   · rw[if_pos h1];exact Kw h hn hi hat.symm h1 ho
   rw[if_neg h1]
   by_cases h2:o.kind=5∨o.kind=6∨o.kind=7
   · rw[if_pos h2]
     have:=FP c _ hi (gm c a) o o.kind h2 (λe X=>e=(nW a o).2∧X=gm c (nW a o).1) (by
      rw[pq rfl hat.symm]
      exact l3 (Hn h hn hi hat.symm h2) λv H hp=>⟨_,_,hp.1,hp.2,rfl,rfl⟩)
     rw[pq rfl hat.symm]at this
     exact l3 this λv H hp=>by
      obtain⟨e,X,rfl,rfl,rfl,rfl⟩:=hp;exact⟨rfl,rfl⟩
   rw[if_neg h2]
   by_cases h3:o.kind=8
   · rw[if_pos h3];exact Jh h hi hat.symm h3
   rw[if_neg h3]
   by_cases h4:o.kind=9
   · rw[if_pos h4];exact KE h hi hat.symm h4
   rw[if_neg h4]
   by_cases h5:o.kind=10
   · rw[if_pos h5];exact F2 h hn hi hat.symm h5
   rw[if_neg h5]
   by_cases h6:o.kind=11
   · rw[if_pos h6];exact Cy h hi hat.symm h6
   rw[if_neg h6];have:=D6 c _ hi (gm c a) o o.kind (by omega);rw[pq rfl hat.symm]at this;exact this
end
end Go.Proofs.YtmcjhkbcmmddgaaGreat
end
