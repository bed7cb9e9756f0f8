/-
  Joined texts:what a statement's proof reaches.
-/
import Derived.Test.YtjblgopghhgflaaGreatPAO6
set_option maxHeartbeats 8000000
set_option maxRecDepth 100000
set_option linter.unusedSimpArgs false
set_option linter.unusedVariables false
section
namespace Go.Proofs.YtjblgopghhgflaaGreat
open Go Leg Codec Api Dsk Wal
theorem pU{δ:Type}(V:Env δ)(r:Nat)(s:MS δ)(c:ChangeT)[OkR V.toDk s][OkCh c]:
 DT 112 #[(.pointer (some ⟨r,0,none⟩)),(.agg (ints c.flat).toArray)] T0 [cD V r s] (RI (.int .i64 (cA V.toDk s c).2) [cD V r (cA V.toDk s c).1]):=by
 refine BD 66 Tryz.func112 rfl rfl rfl λw0 F hF=>sr λ_ J1=>XY (ints c.flat) λb3=>?_
 refine PS ?_;refine nx J1 (ab λ_ J2=>e7 (α:=(Nat)) (λb5=>True) (λb5=>[(0,(.pointer (some ⟨r,0,none⟩))),(3,(.pointer (some ⟨b3,0,none⟩))),(4,(.int .i64 0)),(5,(.pointer (some ⟨b5,0,none⟩)))]) (λb5=>[cD V r s,ah b3 (ints c.flat) 28,ah b5 (ints (eJ s).flat) 88]) (λb5 hinv=>?_) (λtl2=>?_));have _:=hinv;refine ac J2 (ab λ_ J3=>e7 (α:=(Nat)) (λb6=>True) (λb6=>[(0,(.pointer (some ⟨r,0,none⟩))),(3,(.pointer (some ⟨b3,0,none⟩))),(4,(.int .i64 0)),(5,(.pointer (some ⟨b5,0,none⟩))),(6,(.pointer (some ⟨b6,0,none⟩))),(7,(.bool ((bQ s.acc s.view.epoch (eJ s)).2)))]) (λb6=>[cD V r s,ah b3 (ints c.flat) 28,ah b5 (ints (eJ s).flat) 88,ah b6 (ints ((bQ s.acc s.view.epoch (eJ s)).1).flat) 118]) (λb6 hinv=>?_) (λtl3=>?_));have _:=hinv;refine ac J3 (ab λ_ J4=>sr λ_ J5=>PS ?_);refine aX ?_ ?_<;>intro h33;refine PS ?_;refine nx J5 (CN (qx J4 (ab λ_ J6=>ab λ_ J7=>DC bh (cO 0 rfl rfl) (BL 2) ?_)));refine PD 0 ?_;refine PD 1 ?_;refine PD 2 ?_;refine FD 3 2 bi bc ?_;refine FD 4 2 eD aQ ?_;refine ta 5 rfl (c8 (v:=(.int .i64 (s.view.epoch))) rfl Y3 rfl rfl (λ_ h=>h.2.1) (λa_=>(ca (s.rep a_) 0 rfl (by decide) (bd _ rfl)))) ?_;refine LY 6 jY cq ao ?_;refine ta 7 rfl (kI RecT.zero (RecT.mk 3 0 RowT.zero s.view.epoch (eJ s) ChangeT.zero ViewT.zero) [(0,[Value.int .i64 3]),(3,[Value.int .i64 s.view.epoch]),(4,ints (eJ s).flat)] iv eF (g:=RecT.sg)) ?_
 refine AL 8 ?_;refine CE wc (kT V r s (gN s.view.epoch (eJ s))) ID ?_;refine EN (PD 9 ?_);refine DN (ac J7 (sr λ_ J8=>P2 ?_));refine an ?_ ?_<;>intro h45;refine nx J8 (CY (sr λ_ J9=>P2 ?_));refine nx J9 (ai (ae (WK [0] (au rfl rfl ?_))));have e:cA V.toDk s c=(eh V.toDk s (gN s.view.epoch (eJ s)),sa V.toDk s (gN s.view.epoch (eJ s))):=by rw[cA,if_neg (by rw[h33];decide),if_pos h45]
 exact jA e;refine Kt (H':=λvo:Value=>uU V r (eh V.toDk s (gN s.view.epoch (eJ s))) vo::[ah b3 (ints c.flat) 28,ah b5 (ints (eJ s).flat) 88,ah b6 (ints ((bQ s.acc s.view.epoch (eJ s)).1).flat) 118]) (λ_ q=>EH q) (λvo=>nx J8 (CN (qx J6 (ab λ_ J10=>D2 3 2 bh ?_))));refine PD 0 ?_;refine PD 1 ?_;refine LY 2 iM du a9 ?_;refine FD 3 0 jY aQ ?_;refine LX 4 Y3 (.int .i64 ((eJ s).round)) ?_ (hc:=by exact e8 _ rfl);refine PD 5 ?_;refine FD 6 1058 bi du ?_;refine AL 7 ?_;refine gH (vs:=ints ((bQ s.acc s.view.epoch (eJ s)).1).flat) (i:=0) (aa rfl) rfl rfl rfl rfl rfl (by rw[(a9 ((bQ s.acc s.view.epoch (eJ s)).1))];exact du) (bw _) rfl rfl (λ_=>LC (cN _) (a9 _)) (λa_=>(kg ((eh V.toDk s (gN s.view.epoch (eJ s))).rep ⟨(a_:Nat×Value).1,vo,a_.2⟩) 0 rfl (by have h1:=(a9 ((bQ s.acc s.view.epoch (eJ s)).1));omega) (cn ((a9 (((eh V.toDk s (gN s.view.epoch (eJ s))).rep ⟨(a_:Nat×Value).1,vo,a_.2⟩).acc)).trans (a9 ((bQ s.acc s.view.epoch (eJ s)).1)).symm)))) (EN (PD 8 ?_));refine FD 9 1066 bi aQ ?_;refine AL 10 ?_;refine SK 0 aQ (λ_=>cN _) ?_ (hc:=by exact λa_=>(lI _ rfl _));refine EN (DN (ac J10 (ab λ_ J11=>D2 2 1 bh ?_)));refine PD 0 ?_;refine PD 1 ?_;refine PD 2 ?_;refine FD 3 2 bi bc ?_;refine LY 5 jY cq ao ?_;refine LY 6 mX fB aJ ?_;refine AL 4 ?_;refine LZ 0 eD bc am s.view ?_ (hc:=by exact λ_=>cM _);refine EN (AL 7 ?_);refine CR Mw (yX s.view (eJ s) c) ID λvR HR hR=>?_
 obtain⟨vb,rfl,rfl⟩:=hR;refine EN (PD 8 ?_);refine FD 9 1067 bi iV ?_;refine AL 10 ?_;refine SK 1 iV (λ_=>cN _) ?_ (hc:=by exact λa_=>(Om _ rfl _));refine EN (DN (ac J11 (sr λ_ J12=>PS ?_)));refine nx J12 (ai (aF (H':=[cD V r (re V.toDk s c)]) (di _) (λ_ q=>nQ (ak [1,0] rfl q)) (au rfl rfl ?_)));have e:cA V.toDk s c=(re V.toDk s c,0):=by rw[cA,if_neg (by rw[h33];decide),if_neg h45]
 exact jA e;refine PS ?_;refine nx J5 (CY (sr λ_ J13=>PS ?_));refine nx J13 (ai (ae (WK [0] (au rfl rfl ?_))));have e:cA V.toDk s c=(s,6):=if_pos h33;exact jA e;refine DC bh (cO 0 rfl rfl) (BL 2) ?_;refine PD 0 ?_;refine PD 1 ?_;refine FD 2 1058 bi du ?_;refine ta 3 rfl (fT (vs:=ints s.acc.flat) rfl iM rfl du rfl (λ_ h=>h.2.1) (a9 s.acc) (λa_=>(xI (s.rep a_) 0 rfl (by decide) (whole (a9 ((s.rep a_).acc)))))) ?_;refine PD 4 ?_;refine PD 5 ?_;refine FD 6 2 bi bc ?_;refine FD 7 2 eD aQ ?_;refine ta 8 rfl (c8 (v:=(.int .i64 (s.view.epoch))) rfl Y3 rfl rfl (λ_ h=>h.2.1) (λa_=>(ca (s.rep a_) 0 rfl (by decide) (bd _ rfl)))) ?_;refine LY 9 jY cq ao ?_;refine cx [10,14] (by kernel_rfl) rfl (aE rfl ?_ ?_);refine CE Ey (nh s.acc s.view.epoch (eJ s)) ID ?_;refine EN (PD 11 ?_);refine PD 12 ?_;refine PD 13 ?_;refine n7 ?_ ?_<;>intro h32;refine AL 14 ?_;refine XZ uW (ints AccT.zero.flat) λb6=>?_
 refine EN (AL 15 ?_);refine SW 0 du a9 ?_;refine EN (PD 16 ?_);refine DN ?_
 exact aF
  (aM (aM (aM (aM (aM (bg rfl (by rw[h32]) SB))))))
  (λ_ s=>ak [1,1,1,0] rfl s)
  (tl3 ((b6):(Nat)) trivial)
 refine AL 14 ?_;refine XZ uW (ints AccT.zero.flat) λb6=>?_
 refine EN (AL 15 ?_);refine SW 0 du a9 ?_;refine EN (PD 16 ?_);refine DN ?_
 exact aF
  (aM (aM (aM (aM (aM (bg rfl (by rw[h32]) SB))))))
  (λ_ s=>ak [1,1,1,0] rfl s)
  (tl3 ((b6):(Nat)) trivial)
 refine aE rfl ?_ ?_;refine XZ uW (ints AccT.zero.flat) λb6=>?_
 refine EN (AL 10 ?_);refine CE Ey (nh s.acc s.view.epoch (eJ s)) ID ?_;refine EN (PD 11 ?_);refine PD 12 ?_;refine PD 13 ?_;refine n7 ?_ ?_<;>intro h32;refine AL 15 ?_;refine SW 0 du a9 ?_;refine EN (PD 16 ?_);refine DN ?_
 exact aF
  (aM (aM (aM (aM (aM (bg rfl (by rw[h32]) SB))))))
  (λ_ s=>ak [1,1,1,0] rfl s)
  (tl3 ((b6):(Nat)) trivial)
 refine AL 15 ?_;refine SW 0 du a9 ?_;refine EN (PD 16 ?_);refine DN ?_
 exact aF
  (aM (aM (aM (aM (aM (bg rfl (by rw[h32]) SB))))))
  (λ_ s=>ak [1,1,1,0] rfl s)
  (tl3 ((b6):(Nat)) trivial)
 exact bz;refine DB bh (cO 1 rfl rfl) ?_;refine PD 0 ?_;refine PD 1 ?_;refine FD 2 1066 bi aQ ?_;refine ta 3 rfl (c8 (v:=(.int .i64 (s.round))) rfl Y3 rfl rfl (λ_ h=>h.2.1) (λa_=>(uJ _ rfl))) ?_;refine ta 4 rfl (ci (r:=(fP (s.round+1))) rfl rfl rfl rfl) ?_;refine PD 5 ?_;refine PD 6 ?_;refine FD 7 0 bi aQ ?_;refine ta 8 rfl (c8 (v:=(.int .i64 (s.id))) rfl Y3 rfl rfl (λ_ h=>h.2.1) (λa_=>(cy _ rfl))) ?_;refine ta 9 rfl (kI BallotT.zero (BallotT.mk (fP (s.round+1)) s.id) [(0,[Value.int .i64 (fP (s.round+1))]),(1,[Value.int .i64 s.id])] jY No (g:=BallotT.sg)) ?_;refine AL 10 ?_;refine XZ Nq (ints BallotT.zero.flat) λb5=>?_
 refine EN (AL 11 ?_);refine SW 0 cq ao ?_;refine EN (DN ?_)
 exact aF
  SB
  (λ_ s=>ak [2,1,0] rfl s)
  (tl2 ((b5):(Nat)) trivial)
theorem Ab{δ:Type}(V:Env δ)(r:Nat)(s:MS δ)(op:Int)(c:ChangeT)[OkR V.toDk s][OkCh c](hrs:s.replies.length≤1000000)(hv:s.vote=none):
 DT 95 #[(.pointer (some ⟨r,0,none⟩)),(.iface V.T V.ov),(.int .i64 (op)),(.agg (ints c.flat).toArray)] T0 [cD V r s] (RI (.int .i64 (ee V.toDk s op c).2) [cD V r (ee V.toDk s op c).1]):=by
 refine BD 44 Tryz.func95 rfl rfl rfl λw0 F hF=>sr λ_ J1=>XY (ints c.flat) λb7=>?_
 refine PS ?_;refine nx J1 (ab λ_ J2=>e7 (α:=Unit) (λ_u=>True) (λ_u=>[(0,(.pointer (some ⟨r,0,none⟩))),(1,(.iface V.T V.ov)),(2,(.int .i64 (op))),(7,(.pointer (some ⟨b7,0,none⟩))),(8,(.int .i64 0)),(10,(.int .i64 ((dT s.view c).2)))]) (λ_u=>[cD V r s,ah b7 (ints c.flat) 28]) (λ_u hinv=>?_) (λtl2=>?_));have _:=hinv;refine ac J2 (ab λ_ J3=>sr λ_ J4=>cr (H':=uU V r s (.pointer none)::[ah b7 (ints c.flat) 28]) (λ_ q=>sn hv q) (P2 ?_));refine an ?_ ?_<;>intro h21;refine P3 ?_;refine FA 1067 bi iV ?_;refine LG 0 iA (.pointer none) ?_ (hc:=by exact λa_=>(bR _ rfl));refine tq (gJ rfl iA rfl rfl) ?_;refine PS ?_;refine nx J4 (CN (qx J3 (ab λ_ J5=>sr λ_ J6=>cr (H':=cD V r s::[ah b7 (ints c.flat) 28]) (λ_ q=>nS hv (aC [0] rfl q)) (P2 ?_))));refine an ?_ ?_<;>intro h30;refine nx J6 (CY (ad (PS ?_)));refine LW 1 mX fB aJ ?_;refine CE HD (pU V r s c) ID ?_;refine PS ?_;refine nx J5 (sr λ_ J7=>P3 ?_);refine CZ tn (eX V r ((cA V.toDk s c).1) op ((cA V.toDk s c).2) 0 (by first|exact hrs| (rw[iu];exact hrs))) ID λvR=>?_
 refine nx J7 (ab λ_ J8=>sr λ_ J9=>P2 ?_);refine an ?_ ?_<;>intro h39;refine nx J9 (CY (ad (P2 ?_)));refine CZ EE (qN V r (dH ((cA V.toDk s c).1) op ((cA V.toDk s c).2) 0) (jW s.view (eJ s) c) (rc h39)) ID λvR=>?_
 refine nx J8 (sr λ_ J10=>P2 ?_);refine nx J10 (ai (WK [0] (au rfl rfl ?_)));have e:ee V.toDk s op c=((oR V.toDk (dH ((cA V.toDk s c).1) op ((cA V.toDk s c).2) 0) (jW s.view (eJ s) c)),(cA V.toDk s c).2):=by rw[ee,show fK s c=(dT s.view c).2 by rw[fK,if_neg (λh=>by rw[hv]at h;exact absurd h.2 (by decide))],if_neg (by rw[h30];decide),if_neg (by rw[h39];decide),h39]
 exact jA e;refine nx J9 (CN (qx J8 (sr λ_ J11=>P2 ?_)));refine nx J11 (ai (WK [0] (au rfl rfl ?_)));have e:ee V.toDk s op c=((dH ((cA V.toDk s c).1) op ((cA V.toDk s c).2) 0),(cA V.toDk s c).2):=by rw[ee,show fK s c=(dT s.view c).2 by rw[fK,if_neg (λh=>by rw[hv]at h;exact absurd h.2 (by decide))],if_neg (by rw[h30];decide),if_pos h39]
 exact jA e;refine nx J6 (CN (qx J5 (sr λ_ J12=>P3 ?_)));refine CZ tn (eX V r s op ((dT s.view c).2) 0 (by first|exact hrs| (rw[iu];exact hrs))) ID λvR=>?_
 refine nx J12 (ab λ_ J13=>sr λ_ J14=>P2 ?_);refine an ?_ ?_<;>intro h39
 · exact absurd h39 h30
 refine nx J14 (CN (qx J13 (sr λ_ J15=>P2 ?_)));refine nx J15 (ai (WK [0] (au rfl rfl ?_)));have e:ee V.toDk s op c=((dH s op ((dT s.view c).2) 0),(dT s.view c).2):=by rw[ee,show fK s c=(dT s.view c).2 by rw[fK,if_neg (λh=>h30 h.1)]];exact if_pos (by exact h30)
 exact jA e;refine PS ?_
 iterate 5 refine UF ?_
 refine PS ?_;refine nx J4 (CN (qx J3 (ab λ_ J16=>sr λ_ J17=>cr (H':=cD V r s::[ah b7 (ints c.flat) 28]) (λ_ q=>nS hv (aC [0] rfl q)) (P2 ?_))));refine an ?_ ?_<;>intro h30;refine nx J17 (CY (ad (PS ?_)));refine LW 1 mX fB aJ ?_;refine CE HD (pU V r s c) ID ?_;refine PS ?_;refine nx J16 (sr λ_ J18=>P3 ?_);refine CZ tn (eX V r ((cA V.toDk s c).1) op ((cA V.toDk s c).2) 0 (by first|exact hrs| (rw[iu];exact hrs))) ID λvR=>?_
 refine nx J18 (ab λ_ J19=>sr λ_ J20=>P2 ?_);refine an ?_ ?_<;>intro h39;refine nx J20 (CY (ad (P2 ?_)));refine CZ EE (qN V r (dH ((cA V.toDk s c).1) op ((cA V.toDk s c).2) 0) (jW s.view (eJ s) c) (rc h39)) ID λvR=>?_
 refine nx J19 (sr λ_ J21=>P2 ?_);refine nx J21 (ai (WK [0] (au rfl rfl ?_)));have e:ee V.toDk s op c=((oR V.toDk (dH ((cA V.toDk s c).1) op ((cA V.toDk s c).2) 0) (jW s.view (eJ s) c)),(cA V.toDk s c).2):=by rw[ee,show fK s c=(dT s.view c).2 by rw[fK,if_neg (λh=>by rw[hv]at h;exact absurd h.2 (by decide))],if_neg (by rw[h30];decide),if_neg (by rw[h39];decide),h39]
 exact jA e;refine nx J20 (CN (qx J19 (sr λ_ J22=>P2 ?_)));refine nx J22 (ai (WK [0] (au rfl rfl ?_)));have e:ee V.toDk s op c=((dH ((cA V.toDk s c).1) op ((cA V.toDk s c).2) 0),(cA V.toDk s c).2):=by rw[ee,show fK s c=(dT s.view c).2 by rw[fK,if_neg (λh=>by rw[hv]at h;exact absurd h.2 (by decide))],if_neg (by rw[h30];decide),if_pos h39]
 exact jA e;refine nx J17 (CN (qx J16 (sr λ_ J23=>P3 ?_)));refine CZ tn (eX V r s op ((dT s.view c).2) 0 (by first|exact hrs| (rw[iu];exact hrs))) ID λvR=>?_
 refine nx J23 (ab λ_ J24=>sr λ_ J25=>P2 ?_);refine an ?_ ?_<;>intro h39
 · exact absurd h39 h30
 refine nx J25 (CN (qx J24 (sr λ_ J26=>P2 ?_)));refine nx J26 (ai (WK [0] (au rfl rfl ?_)));have e:ee V.toDk s op c=((dH s op ((dT s.view c).2) 0),(dT s.view c).2):=by rw[ee,show fK s c=(dT s.view c).2 by rw[fK,if_neg (λh=>h30 h.1)]];exact if_pos (by exact h30)
 exact jA e;refine DC bh (cO 1 rfl rfl) (BL 0) ?_;refine PD 0 ?_;refine PD 1 ?_;refine FD 2 2 bi bc ?_;refine ta 3 rfl (fT (vs:=ints s.view.flat) rfl eD rfl bc rfl (λ_ h=>h.2.1) (am s.view) (λa_=>(fO (s.rep a_) 0 rfl (by decide) (whole (am ((s.rep a_).view)))))) ?_;refine LY 4 mX fB aJ ?_;refine cx [5,9] (by kernel_rfl) rfl (aE rfl ?_ ?_);refine CE mO (dh s.view c OkVw.rng) ID ?_;refine EN (PD 6 ?_);refine PD 7 ?_;refine PD 8 ?_;refine AL 9 ?_;refine XZ rr (ints ViewT.zero.flat) λb9=>?_
 refine EN (AL 10 ?_);refine SW 0 bc am ?_;refine EN (PD 11 ?_);refine DN ?_
 exact aF
  SB
  (λ_ s=>ak [2,1] rfl s)
  (tl2 (():Unit) trivial)
 refine aE rfl ?_ ?_;refine XZ rr (ints ViewT.zero.flat) λb9=>?_
 refine EN (AL 5 ?_);refine CE mO (dh s.view c OkVw.rng) ID ?_;refine EN (PD 6 ?_);refine PD 7 ?_;refine PD 8 ?_;refine AL 10 ?_;refine SW 0 bc am ?_;refine EN (PD 11 ?_);refine DN ?_
 exact aF
  SB
  (λ_ s=>ak [2,1] rfl s)
  (tl2 (():Unit) trivial)
 exact bz
theorem Aa{δ:Type}(V:Env δ)(r:Nat)(s:MS δ)(vt:VoteT)(op:Int)(c:ChangeT)[OkR V.toDk s][OkCh c](hrs:s.replies.length≤1000000)(hv:s.vote=some vt):
 DT 95 #[(.pointer (some ⟨r,0,none⟩)),(.iface V.T V.ov),(.int .i64 (op)),(.agg (ints c.flat).toArray)] T0 [cD V r s] (RI (.int .i64 (ee V.toDk s op c).2) [cD V r (ee V.toDk s op c).1]):=by
 refine BD 44 Tryz.func95 rfl rfl rfl λw0 F hF=>sr λ_ J1=>XY (ints c.flat) λb7=>?_
 refine PS ?_;refine nx J1 (ab λ_ J2=>e7 (α:=Unit) (λ_u=>True) (λ_u=>[(0,(.pointer (some ⟨r,0,none⟩))),(1,(.iface V.T V.ov)),(2,(.int .i64 (op))),(7,(.pointer (some ⟨b7,0,none⟩))),(8,(.int .i64 0)),(10,(.int .i64 ((dT s.view c).2)))]) (λ_u=>[cD V r s,ah b7 (ints c.flat) 28]) (λ_u hinv=>?_) (λtl2=>?_));have _:=hinv;refine ac J2 (ab λ_ J3=>sr λ_ J4=>Kt (H':=λvb:Nat=>uU V r s (.pointer (some ⟨vb,0,none⟩))::ah vb (VoteT.cells vt) 227::[ah b7 (ints c.flat) 28]) (λ_ q=>mP hv q) (λvb=>P2 ?_));refine an ?_ ?_<;>intro h21;refine P3 ?_;refine FA 1067 bi iV ?_;refine LG 0 iA (.pointer (some ⟨vb,0,none⟩)) ?_ (hc:=by exact λa_=>(bR _ rfl));refine tq (fS rfl iA rfl rfl) ?_;refine PS ?_;refine nx J4 (CY (ad (cr (H':=cD V r s::[ah b7 (ints c.flat) 28]) (λ_ q=>nR hv (aC [0,0] rfl q)) (PS ?_))));refine nx J3 (ab λ_ J5=>sr λ_ J6=>P2 ?_);refine nx J6 (CN (qx J5 (sr λ_ J7=>P3 ?_)));refine CZ tn (eX V r s op 8 0 (by first|exact hrs| (rw[iu];exact hrs))) ID λvR=>?_
 refine nx J7 (ab λ_ J8=>sr λ_ J9=>P2 ?_);refine nx J9 (CN (qx J8 (sr λ_ J10=>P2 ?_)));refine nx J10 (ai (WK [0] (au rfl rfl ?_)));have e:ee V.toDk s op c=((dH s op 8 0),8):=by rw[ee,show fK s c=8 by rw[fK,if_pos ⟨h21,by rw[hv];rfl⟩]];exact if_pos (by decide)
 exact jA e;refine PS ?_
 iterate 5 refine UF ?_
 refine PS ?_;refine nx J4 (CN (qx J3 (ab λ_ J11=>sr λ_ J12=>cr (H':=cD V r s::[ah b7 (ints c.flat) 28]) (λ_ q=>nR hv (aC [0,0] rfl q)) (P2 ?_))));refine an ?_ ?_<;>intro h30
 · exact absurd h30 (by first|decide|exact h21)
 refine nx J12 (CN (qx J11 (sr λ_ J13=>P3 ?_)));refine CZ tn (eX V r s op ((dT s.view c).2) 0 (by first|exact hrs| (rw[iu];exact hrs))) ID λvR=>?_
 refine nx J13 (ab λ_ J14=>sr λ_ J15=>P2 ?_);refine an ?_ ?_<;>intro h39
 · exact absurd h39 (by first|decide|exact h30)
 refine nx J15 (CN (qx J14 (sr λ_ J16=>P2 ?_)));refine nx J16 (ai (WK [0] (au rfl rfl ?_)));have e:ee V.toDk s op c=((dH s op ((dT s.view c).2) 0),(dT s.view c).2):=by rw[ee,show fK s c=(dT s.view c).2 by rw[fK,if_neg (λh=>h30 h.1)]];exact if_pos (by exact h30)
 exact jA e;refine DC bh (cO 1 rfl rfl) (BL 0) ?_;refine PD 0 ?_;refine PD 1 ?_;refine FD 2 2 bi bc ?_;refine ta 3 rfl (fT (vs:=ints s.view.flat) rfl eD rfl bc rfl (λ_ h=>h.2.1) (am s.view) (λa_=>(fO (s.rep a_) 0 rfl (by decide) (whole (am ((s.rep a_).view)))))) ?_;refine LY 4 mX fB aJ ?_;refine cx [5,9] (by kernel_rfl) rfl (aE rfl ?_ ?_);refine CE mO (dh s.view c OkVw.rng) ID ?_;refine EN (PD 6 ?_);refine PD 7 ?_;refine PD 8 ?_;refine AL 9 ?_;refine XZ rr (ints ViewT.zero.flat) λb9=>?_
 refine EN (AL 10 ?_);refine SW 0 bc am ?_;refine EN (PD 11 ?_);refine DN ?_
 exact aF
  SB
  (λ_ s=>ak [2,1] rfl s)
  (tl2 (():Unit) trivial)
 refine aE rfl ?_ ?_;refine XZ rr (ints ViewT.zero.flat) λb9=>?_
 refine EN (AL 5 ?_);refine CE mO (dh s.view c OkVw.rng) ID ?_;refine EN (PD 6 ?_);refine PD 7 ?_;refine PD 8 ?_;refine AL 10 ?_;refine SW 0 bc am ?_;refine EN (PD 11 ?_);refine DN ?_
 exact aF
  SB
  (λ_ s=>ak [2,1] rfl s)
  (tl2 (():Unit) trivial)
 exact bz
theorem z0{δ:Type}(V:Env δ)(r:Nat)(s:MS δ)(op:Int)(c:ChangeT)[OkR V.toDk s][OkCh c](hrs:s.replies.length≤1000000):DT 95 #[.pointer (some ⟨r,0,none⟩), .iface V.T V.ov, .int .i64 op, .agg (ints c.flat).toArray] T0 [cD V r s] (RI (.int .i64 (ee V.toDk s op c).2) [cD V r (ee V.toDk s op c).1]):=by
 cases hv:s.vote with
 |none=>exact Ab V r s op c hrs hv
 |some vt=>exact Aa V r s vt op c hrs hv
theorem vQ{δ:Type}(V:Env δ)(r:Nat)(s:MS δ)(o:OpT):DT 96 #[.pointer (some ⟨r,0,none⟩), .agg (ints o.flat).toArray] T0 [cD V r s] (RI (.tuple #[.agg (ints (db s o).1.flat).toArray, .int .i64 (db s o).2.1, .int .i64 (db s o).2.2]) [cD V r s]):=Leg.Does.hid (λa=>FS r (s.rep a) o)
theorem zW{δ:Type}(V:Env δ)(r:Nat)(s:MS δ)(o:OpT)[OkR V.toDk s][OkCh o.change](hrs:s.replies.length≤1000000):
 DT 58 #[(.pointer (some ⟨r,0,none⟩)),(.iface V.T V.ov),(.agg (ints o.flat).toArray)] T0 [cD V r s] (RI (.int .i64 (bY V.toDk s o).2) [cD V r (bY V.toDk s o).1]):=by
 refine BD 74 Tryz.func58 rfl rfl rfl λw0 F hF=>sr λ_ J1=>XY (ints o.flat) λb5=>?_
 refine PS ?_;refine nx J1 (sr λ_ J2=>P2 ?_);refine FA 1941 bi aQ ?_;refine LG 1 Y3 (.int .i64 (s.ops)) ?_ (hc:=by exact λa_=>(RepT.at_ops _ rfl));refine tp (ci (r:=(fP (s.ops+1))) rfl rfl rfl rfl) ?_;refine PS ?_;refine FA 1941 bi aQ ?_;refine SK 1 aQ (λ_=>cN _) ?_ (hc:=by exact λa_=>(RepT.set_ops _ rfl _));refine nx J2 (sr λ_ J3=>P2 ?_);refine FA 1941 bi aQ ?_;refine LG 1 Y3 (.int .i64 ((bM s).ops)) ?_ (hc:=by exact λa_=>(RepT.at_ops _ rfl));refine PS ?_;refine nx J3 (ab λ_ J4=>ab λ_ J5=>DC bh (cO 1 rfl rfl) (BL 0) ?_);refine PD 0 ?_;refine PD 1 ?_;refine FD 2 2 bi bc ?_;refine ta 3 rfl (fT (vs:=ints ((bM s).view).flat) rfl eD rfl bc rfl (λ_ h=>h.2.1) (am ((bM s).view)) (λa_=>(fO ((bM s).rep a_) 0 rfl (by decide) (whole (am (((bM s).rep a_).view)))))) ?_;refine PD 4 ?_;refine PD 5 ?_;refine FD 6 0 bi aQ ?_;refine ta 7 rfl (c8 (v:=(.int .i64 ((bM s).id))) rfl Y3 rfl rfl (λ_ h=>h.2.1) (λa_=>(cy _ rfl))) ?_;refine AL 8 ?_;refine CE pI (dx ((bM s).view) ((bM s).id)) ID ?_;refine aX ?_ ?_<;>intro h30;refine EN (PD 9 ?_);refine FD 10 0 fC aQ ?_;refine LR 11 Y3 (cU o rfl) ?_;refine PD 12 ?_;refine iN ?_ ?_<;>intro h34;refine PD 13 ?_;refine DN (ac J5 (CY (sr λ_ J6=>P3 ?_)));refine FA 5 fC fB ?_;refine LV 0 mX fB aJ OpT.sp_change (y:=o.change) ?_;refine CE NL (z0 V r (bM s) ((bM s).ops) o.change hrs) (SM [1]) ?_;refine PS ?_;refine nx J6 (ai (ae (WK [0] (au rfl rfl ?_))))
 have e:bY V.toDk s o=((ee V.toDk (bM s) ((bM s).ops) o.change).1,(ee V.toDk (bM s) (bM s).ops o.change).2):=by rw[bY,show iK s.view s.id=true from h30,decide_eq_true h34,if_pos (by rfl)]
 exact jA e;refine PD 13 ?_;refine DN (ac J5 (CN (qx J4 (sr λ_ J7=>PS ?_))));refine LW 0 fC AA It ?_;refine CE L0 (vQ V r (bM s) o) (SM [1]) ?_;refine P4 ?_;refine XZ uz (ints RowT.zero.flat) λb8=>?_
 refine SW 0 aZ ag ?_;refine P2 ?_;refine nx J7 (ab λ_ J8=>sr λ_ J9=>P2 ?_);refine an ?_ ?_<;>intro h50;refine PS ?_
 iterate 3 refine UT ?_
 refine PS ?_;refine nx J9 (CY (sr λ_ J10=>P4 ?_));refine CZ tn (eX V r (bM s) ((bM s).ops) ((db (bM s) o).2.2) ((db (bM s) o).2.1) (by first|exact hrs| (rw[js];exact hrs))) (SM [1]) λvR=>?_
 refine nx J10 (sr λ_ J11=>P2 ?_);refine nx J11 (ai (ae (WK [0] (au rfl rfl ?_))));have e:bY V.toDk s o=((dH (bM s) ((bM s).ops) ((db (bM s) o).2.2) ((db (bM s) o).2.1)),(db (bM s) o).2.2):=by rw[bY,show iK s.view s.id=true from h30,decide_eq_false h34,if_neg (by decide),oL,if_pos (.inl h50)]
 exact jA e;refine PS ?_;refine FA 0 fC aQ ?_;refine LU 2 Y3 (cU o rfl) ?_;refine PS ?_;refine an ?_ ?_<;>intro h54;refine PS ?_;refine nx J9 (CY (sr λ_ J12=>P4 ?_));refine CZ tn (eX V r (bM s) ((bM s).ops) ((db (bM s) o).2.2) ((db (bM s) o).2.1) (by first|exact hrs| (rw[js];exact hrs))) (SM [1]) λvR=>?_
 refine nx J12 (sr λ_ J13=>P2 ?_);refine nx J13 (ai (ae (WK [0] (au rfl rfl ?_))));have e:bY V.toDk s o=((dH (bM s) ((bM s).ops) ((db (bM s) o).2.2) ((db (bM s) o).2.1)),(db (bM s) o).2.2):=by rw[bY,show iK s.view s.id=true from h30,decide_eq_false h34,if_neg (by decide),oL,if_pos (.inr h54)]
 exact jA e;refine PS ?_;refine nx J9 (CN (qx J8 (ab λ_ J14=>sr λ_ J15=>P2 ?_)));refine LW 0 dD aZ ag ?_;refine PS ?_;refine CE KI (qZ V r (bM s) ((db (bM s) o).1) ((bM s).ops)) (SM [1]) ?_;refine PS ?_;refine nx J15 (sr λ_ J16=>P2 ?_);refine an ?_ ?_<;>intro h68;refine nx J16 (CY (ad (P3 ?_)));refine CZ tn (eX V r ((e5 V.toDk (bM s) ((db (bM s) o).1) ((bM s).ops)).1) ((bM s).ops) ((e5 V.toDk (bM s) ((db (bM s) o).1) ((bM s).ops)).2) 0 (by first|exact hrs| (rw[js];exact hrs))) ID λvR=>?_
 refine nx J14 (sr λ_ J17=>P2 ?_);refine nx J17 (ai (WK [0] (au rfl rfl ?_)));have e:bY V.toDk s o=((dH ((e5 V.toDk (bM s) ((db (bM s) o).1) ((bM s).ops)).1) ((bM s).ops) ((e5 V.toDk (bM s) ((db (bM s) o).1) ((bM s).ops)).2) 0),(e5 V.toDk (bM s) (db (bM s) o).1 (bM s).ops).2):=by rw[bY,show iK s.view s.id=true from h30,decide_eq_false h34,if_neg (by decide),oL,if_neg (λh=>h.elim (λh=>h50 h) (λh=>h54 h)),if_pos h68]
 exact jA e;refine nx J16 (CN (qx J14 (sr λ_ J18=>P2 ?_)));refine nx J18 (ai (WK [0] (au rfl rfl ?_)));have e:bY V.toDk s o=((e5 V.toDk (bM s) ((db (bM s) o).1) ((bM s).ops)).1,(e5 V.toDk (bM s) (db (bM s) o).1 (bM s).ops).2):=by rw[bY,show iK s.view s.id=true from h30,decide_eq_false h34,if_neg (by decide),oL,if_neg (λh=>h.elim (λh=>h50 h) (λh=>h54 h)),if_neg h68,show(e5 V.toDk (bM s) (db (bM s) o).1 (bM s).ops).2=0 from Decidable.not_not.1 h68]
 exact jA e;refine EN (PD 9 ?_);refine NT 10 ?_;refine NT 11 ?_;refine NT 12 ?_;refine PD 13 ?_;refine DN (ac J5 (CN (qx J4 (sr λ_ J19=>PS ?_))));refine LW 0 fC AA It ?_;refine CE L0 (vQ V r (bM s) o) (SM [1]) ?_;refine P4 ?_;refine XZ uz (ints RowT.zero.flat) λb8=>?_
 refine SW 0 aZ ag ?_;refine P2 ?_;refine nx J19 (ab λ_ J20=>sr λ_ J21=>P2 ?_);refine an ?_ ?_<;>intro h50;refine PS ?_
 iterate 3 refine UT ?_
 refine PS ?_;refine nx J21 (CY (sr λ_ J22=>P4 ?_));refine CZ tn (eX V r (bM s) ((bM s).ops) ((db (bM s) o).2.2) ((db (bM s) o).2.1) (by first|exact hrs| (rw[js];exact hrs))) (SM [1]) λvR=>?_
 refine nx J22 (sr λ_ J23=>P2 ?_);refine nx J23 (ai (ae (WK [0] (au rfl rfl ?_))));have e:bY V.toDk s o=((dH (bM s) ((bM s).ops) ((db (bM s) o).2.2) ((db (bM s) o).2.1)),(db (bM s) o).2.2):=by rw[bY,show iK s.view s.id=false from h30,if_neg (by rw[gB];decide),oL,if_pos (.inl h50)]
 exact jA e;refine PS ?_;refine FA 0 fC aQ ?_;refine LU 2 Y3 (cU o rfl) ?_;refine PS ?_;refine an ?_ ?_<;>intro h54;refine PS ?_;refine nx J21 (CY (sr λ_ J24=>P4 ?_));refine CZ tn (eX V r (bM s) ((bM s).ops) ((db (bM s) o).2.2) ((db (bM s) o).2.1) (by first|exact hrs| (rw[js];exact hrs))) (SM [1]) λvR=>?_
 refine nx J24 (sr λ_ J25=>P2 ?_);refine nx J25 (ai (ae (WK [0] (au rfl rfl ?_))));have e:bY V.toDk s o=((dH (bM s) ((bM s).ops) ((db (bM s) o).2.2) ((db (bM s) o).2.1)),(db (bM s) o).2.2):=by rw[bY,show iK s.view s.id=false from h30,if_neg (by rw[gB];decide),oL,if_pos (.inr h54)]
 exact jA e;refine PS ?_;refine nx J21 (CN (qx J20 (ab λ_ J26=>sr λ_ J27=>P2 ?_)));refine LW 0 dD aZ ag ?_;refine PS ?_;refine CE KI (qZ V r (bM s) ((db (bM s) o).1) ((bM s).ops)) (SM [1]) ?_;refine PS ?_;refine nx J27 (sr λ_ J28=>P2 ?_);refine an ?_ ?_<;>intro h68;refine nx J28 (CY (ad (P3 ?_)));refine CZ tn (eX V r ((e5 V.toDk (bM s) ((db (bM s) o).1) ((bM s).ops)).1) ((bM s).ops) ((e5 V.toDk (bM s) ((db (bM s) o).1) ((bM s).ops)).2) 0 (by first|exact hrs| (rw[js];exact hrs))) ID λvR=>?_
 refine nx J26 (sr λ_ J29=>P2 ?_);refine nx J29 (ai (WK [0] (au rfl rfl ?_)));have e:bY V.toDk s o=((dH ((e5 V.toDk (bM s) ((db (bM s) o).1) ((bM s).ops)).1) ((bM s).ops) ((e5 V.toDk (bM s) ((db (bM s) o).1) ((bM s).ops)).2) 0),(e5 V.toDk (bM s) (db (bM s) o).1 (bM s).ops).2):=by rw[bY,show iK s.view s.id=false from h30,if_neg (by rw[gB];decide),oL,if_neg (λh=>h.elim (λh=>h50 h) (λh=>h54 h)),if_pos h68]
 exact jA e;refine nx J28 (CN (qx J26 (sr λ_ J30=>P2 ?_)));refine nx J30 (ai (WK [0] (au rfl rfl ?_)));have e:bY V.toDk s o=((e5 V.toDk (bM s) ((db (bM s) o).1) ((bM s).ops)).1,(e5 V.toDk (bM s) (db (bM s) o).1 (bM s).ops).2):=by rw[bY,show iK s.view s.id=false from h30,if_neg (by rw[gB];decide),oL,if_neg (λh=>h.elim (λh=>h50 h) (λh=>h54 h)),if_neg h68,show(e5 V.toDk (bM s) (db (bM s) o).1 (bM s).ops).2=0 from Decidable.not_not.1 h68]
 exact jA e
theorem CH{δ:Type}(V:Env δ)(r:Nat)(s:MS δ)[OkR V.toDk s](hv:(gd V.toDk (bZ V.toDk (bS V.toDk s))).vote=none):
 DT 60 #[(.pointer (some ⟨r,0,none⟩)),(.iface V.T V.ov)] T0 [cD V r s] (dm (λ_ H=>H=[cD V r (iD V.toDk s)])):=by
 refine BD 89 Tryz.func60 rfl rfl rfl λw0 F hF=>ab λ_ J1=>e7 (α:=Unit) (λ_u=>True) (λ_u=>[(0,(.pointer (some ⟨r,0,none⟩))),(1,(.iface V.T V.ov))]) (λ_u=>[cD V r (if s.busy=true then fm V.toDk s else s)]) (λ_u hinv=>?_) (λtl1=>?_)
 have _:=hinv;refine ac J1 (sr λ_ J2=>P2 ?_);refine CZ EG (oH V r (if s.busy=true then fm V.toDk s else s)) ID λvR=>?_
 refine nx J2 (sr λ_ J3=>P2 ?_);refine CZ HG (pR V r (mU V.toDk (if s.busy=true then fm V.toDk s else s))) ID λvR=>?_
 refine nx J3 (ab λ_ J4=>e7 (α:=Unit) (λ_u=>True) (λ_u=>[(0,(.pointer (some ⟨r,0,none⟩))),(1,(.iface V.T V.ov))]) (λ_u=>[cD V r (bZ V.toDk (bS V.toDk s))]) (λ_u hinv=>?_) (λtl4=>?_));have _:=hinv;refine ac J4 (ab λ_ J5=>ab λ_ J6=>DB bh (cO 0 rfl rfl) ?_);refine PD 0 ?_;refine PD 1 ?_;refine FD 2 2 bi bc ?_;refine ta 3 rfl (fT (vs:=ints ((bZ V.toDk (bS V.toDk s)).view).flat) rfl eD rfl bc rfl (λ_ h=>h.2.1) (am ((bZ V.toDk (bS V.toDk s)).view)) (λa_=>(fO ((bZ V.toDk (bS V.toDk s)).rep a_) 0 rfl (by decide) (whole (am (((bZ V.toDk (bS V.toDk s)).rep a_).view)))))) ?_;refine PD 4 ?_;refine PD 5 ?_;refine FD 6 0 bi aQ ?_;refine ta 7 rfl (c8 (v:=(.int .i64 ((bZ V.toDk (bS V.toDk s)).id))) rfl Y3 rfl rfl (λ_ h=>h.2.1) (λa_=>(cy _ rfl))) ?_;refine AL 8 ?_;refine CE pI (dx ((bZ V.toDk (bS V.toDk s)).view) ((bZ V.toDk (bS V.toDk s)).id)) ID ?_;refine aX ?_ ?_<;>intro h42;refine EN (PD 9 ?_);refine DN (ac J6 (CN (qx J5 (ab λ_ J7=>e7 (α:=Unit) (λ_u=>True) (λ_u=>[(0,(.pointer (some ⟨r,0,none⟩))),(1,(.iface V.T V.ov))]) (λ_u=>[cD V r (gd V.toDk (bZ V.toDk (bS V.toDk s)))]) (λ_u hinv=>?_) (λtl7=>?_)))));have _:=hinv;refine ac J7 (ab λ_ J8=>sr λ_ J9=>cr (H':=uU V r (gd V.toDk (bZ V.toDk (bS V.toDk s))) (.pointer none)::[]) (λ_ q=>sn hv q) (P2 ?_));refine FA 1067 bi iV ?_;refine LG 0 iA (.pointer none) ?_ (hc:=by exact λa_=>(bR _ rfl))
 refine tp (Is rfl iA rfl rfl) ?_;refine nx J9 (CY (ai (ae (aF (H':=[cD V r (gd V.toDk (bZ V.toDk (bS V.toDk s)))]) (di _) (λ_ q=>nS hv (ak [0] rfl q)) (dE rfl ?_)))));exact MQ (by rw[iD,if_pos h42,rO,hv]);refine ab λ_ J10=>e7 (α:=(Nat)) (λb4=>True) (λb4=>[(0,(.pointer (some ⟨r,0,none⟩))),(1,(.iface V.T V.ov)),(4,(.pointer (some ⟨b4,0,none⟩)))]) (λb4=>[cD V r (bZ V.toDk (bS V.toDk s)),ah b4 (ints (cw (bZ V.toDk (bS V.toDk s)).book (bZ V.toDk (bS V.toDk s)).id).flat) 60]) (λb4 hinv=>?_) (λtl10=>?_)
 have _:=hinv;refine ac J10 (sr λ_ J11=>FA 0 dD aQ ?_);refine LT 1 Y3 (.int .i64 ((cw (bZ V.toDk (bS V.toDk s)).book (bZ V.toDk (bS V.toDk s)).id).version)) ?_ (hc:=by exact cC _ rfl);refine PS ?_;refine an ?_ ?_<;>intro h54;refine nx J11 (CY (ad (P2 ?_)));refine LW 1 dD aZ ag ?_;refine CZ HE (mH V r (bZ V.toDk (bS V.toDk s)) (cw (bZ V.toDk (bS V.toDk s)).book (bZ V.toDk (bS V.toDk s)).id)) ID λvR=>?_
 refine ap ?_
 exact aF
  SB
  (λ_ q=>by
   rw[gd,if_pos h54]
   exact ak [0] rfl q)
  (tl7 (():Unit) trivial)
 refine nx J11 (CN (aR ?_))
 exact aF
  SB
  (λ_ q=>by
   rw[gd,if_neg h54]
   exact ak [0] rfl q)
  (tl7 (():Unit) trivial)
 refine DB bh (cO 0 rfl rfl) ?_;refine PD 0 ?_;refine PD 1 ?_;refine FD 2 1068 bi vj ?_;refine PD 3 ?_;refine PD 4 ?_;refine FD 5 0 bi aQ ?_;refine ta 6 rfl (c8 (v:=(.int .i64 ((bZ V.toDk (bS V.toDk s)).id))) rfl Y3 rfl rfl (λ_ h=>h.2.1) (λa_=>(cy _ rfl))) ?_;refine cx [7,8] (by kernel_rfl) rfl (aE rfl ?_ ?_);refine CE Ja (Leg.Does.hid (λa_=>mq r 1068 123 _ (gA ((bZ V.toDk (bS V.toDk s)).rep a_)) (bZ V.toDk (bS V.toDk s)).book ((bZ V.toDk (bS V.toDk s)).id))) ID ?_;refine EN (AL 8 ?_);refine XZ uz (ints RowT.zero.flat) λb4=>?_
 refine EN (AL 9 ?_);refine SW 0 aZ ag ?_;refine EN (DN ?_)
 exact aF
  SB
  (λ_ s=>ak [1,0] rfl s)
  (tl10 ((b4):(Nat)) trivial)
 refine aE rfl ?_ ?_;refine XZ uz (ints RowT.zero.flat) λb4=>?_
 refine EN (AL 7 ?_);refine CE Ja (Leg.Does.hid (λa_=>mq r 1068 123 _ (gA ((bZ V.toDk (bS V.toDk s)).rep a_)) (bZ V.toDk (bS V.toDk s)).book ((bZ V.toDk (bS V.toDk s)).id))) (SM [1]) ?_;refine EN (AL 9 ?_);refine SW 1 aZ ag ?_;refine EN (DN ?_)
 exact aF
  SB
  (λ_ s=>ak [0,0] rfl s)
  (tl10 ((b4):(Nat)) trivial)
 exact bz;refine EN (PD 9 ?_);refine DN (ac J6 (CY (ai (ae (WK [0] (dE rfl ?_))))));exact MQ (by rw[iD,if_neg (by rw[h42];decide)]);refine sr λ_ J12=>P2 ?_
 refine FA 2 bi bc ?_;refine FA 2 eD aQ ?_;refine LG 0 Y3 (.int .i64 (((bS V.toDk s).view).epoch)) ?_ (hc:=by exact λa_=>(ca ((bS V.toDk s).rep a_) 0 rfl (by decide) (bd _ rfl)));refine PS ?_;refine an ?_ ?_<;>intro h26;refine nx J12 (CY (ad (P4 ?_)));refine FA 2 bi bc ?_;refine LZ 0 eD bc am ((bS V.toDk s).view) ?_ (hc:=by exact λ_=>cM _);refine CZ HF (mG V r (bS V.toDk s) ((bS V.toDk s).view)) ID λvR=>?_
 refine ap ?_
 exact aF
  SB
  (λ_ q=>by
   rw[bZ,if_pos h26]
   exact ak [0] rfl q)
  (tl4 (():Unit) trivial)
 refine nx J12 (CN (aR ?_))
 exact aF
  SB
  (λ_ q=>by
   rw[bZ,if_neg h26]
   exact ak [0] rfl q)
  (tl4 (():Unit) trivial)
 refine sr λ_ J13=>P2 ?_
 refine FA 1938 bi kM ?_;refine LG 0 Y4 (.bool (s.busy)) ?_ (hc:=by exact λa_=>(xJ _ rfl));refine aX ?_ ?_<;>intro h11;refine nx J13 (CY (ad (P2 ?_)));refine CZ HH (nq V r s) ID λvR=>?_
 refine ap ?_
 exact aF
  SB
  (λ_ q=>by
   rw[if_pos h11]
   exact ak [0] rfl q)
  (tl1 (():Unit) trivial)
 refine nx J13 (CN (aR ?_))
 exact aF
  SB
  (λ_ q=>by
   rw[if_neg (by rw[h11];decide)]
   exact ak [0] rfl q)
  (tl1 (():Unit) trivial)
theorem CG{δ:Type}(V:Env δ)(r:Nat)(s:MS δ)(vt:VoteT)[OkR V.toDk s](hv:(gd V.toDk (bZ V.toDk (bS V.toDk s))).vote=some vt):
 DT 60 #[(.pointer (some ⟨r,0,none⟩)),(.iface V.T V.ov)] T0 [cD V r s] (dm (λ_ H=>H=[cD V r (iD V.toDk s)])):=by
 refine BD 89 Tryz.func60 rfl rfl rfl λw0 F hF=>?_
 have hov:OkVt vt:=OkR.vote vt hv;refine ab λ_ J1=>e7 (α:=Unit) (λ_u=>True) (λ_u=>[(0,(.pointer (some ⟨r,0,none⟩))),(1,(.iface V.T V.ov))]) (λ_u=>[cD V r (if s.busy=true then fm V.toDk s else s)]) (λ_u hinv=>?_) (λtl1=>?_)
 have _:=hinv;refine ac J1 (sr λ_ J2=>P2 ?_);refine CZ EG (oH V r (if s.busy=true then fm V.toDk s else s)) ID λvR=>?_
 refine nx J2 (sr λ_ J3=>P2 ?_);refine CZ HG (pR V r (mU V.toDk (if s.busy=true then fm V.toDk s else s))) ID λvR=>?_
 refine nx J3 (ab λ_ J4=>e7 (α:=Unit) (λ_u=>True) (λ_u=>[(0,(.pointer (some ⟨r,0,none⟩))),(1,(.iface V.T V.ov))]) (λ_u=>[cD V r (bZ V.toDk (bS V.toDk s))]) (λ_u hinv=>?_) (λtl4=>?_));have _:=hinv;refine ac J4 (ab λ_ J5=>ab λ_ J6=>DB bh (cO 0 rfl rfl) ?_);refine PD 0 ?_;refine PD 1 ?_;refine FD 2 2 bi bc ?_;refine ta 3 rfl (fT (vs:=ints ((bZ V.toDk (bS V.toDk s)).view).flat) rfl eD rfl bc rfl (λ_ h=>h.2.1) (am ((bZ V.toDk (bS V.toDk s)).view)) (λa_=>(fO ((bZ V.toDk (bS V.toDk s)).rep a_) 0 rfl (by decide) (whole (am (((bZ V.toDk (bS V.toDk s)).rep a_).view)))))) ?_;refine PD 4 ?_;refine PD 5 ?_;refine FD 6 0 bi aQ ?_;refine ta 7 rfl (c8 (v:=(.int .i64 ((bZ V.toDk (bS V.toDk s)).id))) rfl Y3 rfl rfl (λ_ h=>h.2.1) (λa_=>(cy _ rfl))) ?_;refine AL 8 ?_;refine CE pI (dx ((bZ V.toDk (bS V.toDk s)).view) ((bZ V.toDk (bS V.toDk s)).id)) ID ?_;refine aX ?_ ?_<;>intro h42;refine EN (PD 9 ?_);refine DN (ac J6 (CN (qx J5 (ab λ_ J7=>e7 (α:=Unit) (λ_u=>True) (λ_u=>[(0,(.pointer (some ⟨r,0,none⟩))),(1,(.iface V.T V.ov))]) (λ_u=>[cD V r (gd V.toDk (bZ V.toDk (bS V.toDk s)))]) (λ_u hinv=>?_) (λtl7=>?_)))));have _:=hinv;refine ac J7 (ab λ_ J8=>sr λ_ J9=>Kt (H':=λvb:Nat=>uU V r (gd V.toDk (bZ V.toDk (bS V.toDk s))) (.pointer (some ⟨vb,0,none⟩))::ah vb (VoteT.cells vt) 227::[]) (λ_ q=>mP hv q) (λvb=>P2 ?_));refine FA 1067 bi iV ?_
 refine LG 0 iA (.pointer (some ⟨vb,0,none⟩)) ?_ (hc:=by exact λa_=>(bR _ rfl));refine tp (iQ rfl iA rfl rfl) ?_;refine nx J9 (CN (qx J8 (sr λ_ J10=>P2 ?_)));refine FA 1067 bi iV ?_;refine LG 0 iA (.pointer (some ⟨vb,0,none⟩)) ?_ (hc:=by exact λa_=>(bR _ rfl));refine CE nP (cX vb vt) (SM [1]) ?_;change TL _ _ _ _ _ _ _ _ _ [ah vb (VoteT.cells vt) 227,uU V r (gd V.toDk (bZ V.toDk (bS V.toDk s))) (.pointer (some ⟨vb,0,none⟩))];refine cr (H':=cD V r (gd V.toDk (bZ V.toDk (bS V.toDk s)))::[]) (λ_ q=>nR hv (aC [1,0] rfl q)) (XZ Nr (ints ChangeT.zero.flat) λb5=>?_);refine SW 0 fB aJ ?_;refine nx J10 (ab λ_ J11=>e7 (α:=Unit) (λ_u=>True) (λ_u=>[(0,(.pointer (some ⟨r,0,none⟩))),(1,(.iface V.T V.ov)),(5,(.pointer (some ⟨b5,0,none⟩))),(7,(.int .i64 ((dT (gd V.toDk (bZ V.toDk (bS V.toDk s))).view vt.change).2)))]) (λ_u=>[cD V r (gd V.toDk (bZ V.toDk (bS V.toDk s))),ah b5 (ints vt.change.flat) 28]) (λ_u hinv=>?_) (λtl11=>?_));have _:=hinv;refine ac J11 (sr λ_ J12=>P2 ?_);refine an ?_ ?_<;>intro h79;refine P2 ?_;refine LW 1 mX fB aJ ?_;refine CE HD (pU V r (gd V.toDk (bZ V.toDk (bS V.toDk s))) vt.change) ID ?_;refine PS ?_;refine an ?_ ?_<;>intro h84;refine PS ?_;refine nx J12 (CY (ad (P2 ?_)))
 refine CZ EE (qN V r ((cA V.toDk (gd V.toDk (bZ V.toDk (bS V.toDk s))) vt.change).1) (jW (gd V.toDk (bZ V.toDk (bS V.toDk s))).view (eJ (gd V.toDk (bZ V.toDk (bS V.toDk s)))) vt.change) (rc h84)) ID λvR=>?_
 refine ap (WK [0] (bA rfl ?_));exact MQ (by rw[iD,if_pos h42,rO,hv];simp only[];rw[if_pos h79,if_pos h84]);refine PS ?_;refine nx J12 (CN (aR (WK [0] (bA rfl ?_))));exact MQ (by rw[iD,if_pos h42,rO,hv];simp only[];rw[if_pos h79,if_neg h84]);refine PS ?_
 iterate 4 refine UF ?_
 refine PS ?_;refine nx J12 (CN (aR (WK [0] (bA rfl ?_))));exact MQ (by rw[iD,if_pos h42,rO,hv];simp only[];rw[if_neg h79]);refine DC bh (cO 1 rfl rfl) (BL 0) ?_;refine PD 0 ?_;refine PD 1 ?_;refine FD 2 2 bi bc ?_;refine ta 3 rfl (fT (vs:=ints ((gd V.toDk (bZ V.toDk (bS V.toDk s))).view).flat) rfl eD rfl bc rfl (λ_ h=>h.2.1) (am ((gd V.toDk (bZ V.toDk (bS V.toDk s))).view)) (λa_=>(fO ((gd V.toDk (bZ V.toDk (bS V.toDk s))).rep a_) 0 rfl (by decide) (whole (am (((gd V.toDk (bZ V.toDk (bS V.toDk s))).rep a_).view)))))) ?_;refine LY 4 mX fB aJ ?_;refine cx [5,9] (by kernel_rfl) rfl (aE rfl ?_ ?_);refine CE mO (dh ((gd V.toDk (bZ V.toDk (bS V.toDk s))).view) vt.change OkVw.rng) ID ?_;refine EN (PD 6 ?_);refine PD 7 ?_;refine PD 8 ?_;refine AL 9 ?_;refine XZ rr (ints ViewT.zero.flat) λb6=>?_
 refine EN (AL 10 ?_);refine SW 0 bc am ?_;refine EN (PD 11 ?_);refine DN ?_
 exact aF
  SB
  (λ_ s=>ak [2,1] rfl s)
  (tl11 (():Unit) trivial)
 refine aE rfl ?_ ?_;refine XZ rr (ints ViewT.zero.flat) λb6=>?_
 refine EN (AL 5 ?_);refine CE mO (dh ((gd V.toDk (bZ V.toDk (bS V.toDk s))).view) vt.change OkVw.rng) ID ?_;refine EN (PD 6 ?_);refine PD 7 ?_;refine PD 8 ?_;refine AL 10 ?_;refine SW 0 bc am ?_;refine EN (PD 11 ?_);refine DN ?_
 exact aF
  SB
  (λ_ s=>ak [2,1] rfl s)
  (tl11 (():Unit) trivial)
 exact bz;refine ab λ_ J13=>e7 (α:=(Nat)) (λb4=>True) (λb4=>[(0,(.pointer (some ⟨r,0,none⟩))),(1,(.iface V.T V.ov)),(4,(.pointer (some ⟨b4,0,none⟩)))]) (λb4=>[cD V r (bZ V.toDk (bS V.toDk s)),ah b4 (ints (cw (bZ V.toDk (bS V.toDk s)).book (bZ V.toDk (bS V.toDk s)).id).flat) 60]) (λb4 hinv=>?_) (λtl13=>?_)
 have _:=hinv;refine ac J13 (sr λ_ J14=>FA 0 dD aQ ?_);refine LT 1 Y3 (.int .i64 ((cw (bZ V.toDk (bS V.toDk s)).book (bZ V.toDk (bS V.toDk s)).id).version)) ?_ (hc:=by exact cC _ rfl);refine PS ?_;refine an ?_ ?_<;>intro h54;refine nx J14 (CY (ad (P2 ?_)));refine LW 1 dD aZ ag ?_;refine CZ HE (mH V r (bZ V.toDk (bS V.toDk s)) (cw (bZ V.toDk (bS V.toDk s)).book (bZ V.toDk (bS V.toDk s)).id)) ID λvR=>?_
 refine ap ?_
 exact aF
  SB
  (λ_ q=>by
   rw[gd,if_pos h54]
   exact ak [0] rfl q)
  (tl7 (():Unit) trivial)
 refine nx J14 (CN (aR ?_))
 exact aF
  SB
  (λ_ q=>by
   rw[gd,if_neg h54]
   exact ak [0] rfl q)
  (tl7 (():Unit) trivial)
 refine DB bh (cO 0 rfl rfl) ?_;refine PD 0 ?_;refine PD 1 ?_;refine FD 2 1068 bi vj ?_;refine PD 3 ?_;refine PD 4 ?_;refine FD 5 0 bi aQ ?_;refine ta 6 rfl (c8 (v:=(.int .i64 ((bZ V.toDk (bS V.toDk s)).id))) rfl Y3 rfl rfl (λ_ h=>h.2.1) (λa_=>(cy _ rfl))) ?_;refine cx [7,8] (by kernel_rfl) rfl (aE rfl ?_ ?_);refine CE Ja (Leg.Does.hid (λa_=>mq r 1068 123 _ (gA ((bZ V.toDk (bS V.toDk s)).rep a_)) (bZ V.toDk (bS V.toDk s)).book ((bZ V.toDk (bS V.toDk s)).id))) ID ?_;refine EN (AL 8 ?_);refine XZ uz (ints RowT.zero.flat) λb4=>?_
 refine EN (AL 9 ?_);refine SW 0 aZ ag ?_;refine EN (DN ?_)
 exact aF
  SB
  (λ_ s=>ak [1,0] rfl s)
  (tl13 ((b4):(Nat)) trivial)
 refine aE rfl ?_ ?_;refine XZ uz (ints RowT.zero.flat) λb4=>?_
 refine EN (AL 7 ?_);refine CE Ja (Leg.Does.hid (λa_=>mq r 1068 123 _ (gA ((bZ V.toDk (bS V.toDk s)).rep a_)) (bZ V.toDk (bS V.toDk s)).book ((bZ V.toDk (bS V.toDk s)).id))) (SM [1]) ?_;refine EN (AL 9 ?_);refine SW 1 aZ ag ?_;refine EN (DN ?_)
 exact aF
  SB
  (λ_ s=>ak [0,0] rfl s)
  (tl13 ((b4):(Nat)) trivial)
 exact bz;refine EN (PD 9 ?_);refine DN (ac J6 (CY (ai (ae (WK [0] (dE rfl ?_))))));exact MQ (by rw[iD,if_neg (by rw[h42];decide)]);refine sr λ_ J15=>P2 ?_
 refine FA 2 bi bc ?_;refine FA 2 eD aQ ?_;refine LG 0 Y3 (.int .i64 (((bS V.toDk s).view).epoch)) ?_ (hc:=by exact λa_=>(ca ((bS V.toDk s).rep a_) 0 rfl (by decide) (bd _ rfl)));refine PS ?_;refine an ?_ ?_<;>intro h26;refine nx J15 (CY (ad (P4 ?_)));refine FA 2 bi bc ?_;refine LZ 0 eD bc am ((bS V.toDk s).view) ?_ (hc:=by exact λ_=>cM _);refine CZ HF (mG V r (bS V.toDk s) ((bS V.toDk s).view)) ID λvR=>?_
 refine ap ?_
 exact aF
  SB
  (λ_ q=>by
   rw[bZ,if_pos h26]
   exact ak [0] rfl q)
  (tl4 (():Unit) trivial)
 refine nx J15 (CN (aR ?_))
 exact aF
  SB
  (λ_ q=>by
   rw[bZ,if_neg h26]
   exact ak [0] rfl q)
  (tl4 (():Unit) trivial)
 refine sr λ_ J16=>P2 ?_
 refine FA 1938 bi kM ?_;refine LG 0 Y4 (.bool (s.busy)) ?_ (hc:=by exact λa_=>(xJ _ rfl));refine aX ?_ ?_<;>intro h11;refine nx J16 (CY (ad (P2 ?_)));refine CZ HH (nq V r s) ID λvR=>?_
 refine ap ?_
 exact aF
  SB
  (λ_ q=>by
   rw[if_pos h11]
   exact ak [0] rfl q)
  (tl1 (():Unit) trivial)
 refine nx J16 (CN (aR ?_))
 exact aF
  SB
  (λ_ q=>by
   rw[if_neg (by rw[h11];decide)]
   exact ak [0] rfl q)
  (tl1 (():Unit) trivial)
theorem CD{δ:Type}(V:Env δ)(r:Nat)(s:MS δ)[OkR V.toDk s]:DT 60 #[.pointer (some ⟨r,0,none⟩), .iface V.T V.ov] T0 [cD V r s] (dm (λ_ H=>H=[cD V r (iD V.toDk s)])):=by
 cases hv:(gd V.toDk (bZ V.toDk (bS V.toDk s))).vote with
 |none=>exact CH V r s hv
 |some vt=>exact CG V r s vt hv
abbrev Cs{δ:Type}(lg r:Nat)(s:MS δ):HP:=hid r (λ_:Unit=>RepT.cells (s.rep ⟨lg, .pointer none, .slice none 0 0⟩)) 123 (λ_=>[])
theorem uk{δ:Type}(lg r:Nat)(s:MS δ)(v:ViewT):
 DT 93 #[(.pointer (some ⟨r,0,none⟩)),(.agg (ints v.flat).toArray)] T0 [Cs lg r s] (dm (λ_ H=>H=[Cs lg r (mS s v)])):=by
 refine BD 20 Tryz.func93 rfl rfl rfl λw0 F hF=>sr λ_ J1=>XY (ints v.flat) λb3=>?_
 refine nx J1 (sr λ_ J2=>PS ?_);refine LW 0 eD bc am ?_;refine PS ?_;refine FA 2 bi bc ?_;refine gH (vs:=ints v.flat) (i:=1) (aa rfl) rfl rfl rfl rfl rfl (by rw[(am v)];exact bc) (bw _) rfl rfl (λ_=>LC (cN _) (am _)) (λa_=>(Ol (s.rep ⟨lg, .pointer none, .slice none 0 0⟩) 0 rfl (by have h1:=(am v);omega) (cn ((am ((s.rep ⟨lg, .pointer none, .slice none 0 0⟩).view)).trans (am v).symm)))) (nx J2 (sr λ_ J3=>PS ?_));refine FA 0 eD aQ ?_;refine LU 0 Y3 (bd v rfl) ?_;refine tp (kI AccT.zero (AccT.mk v.epoch BallotT.zero BallotT.zero ChangeT.zero) [(0,[Value.int .i64 v.epoch])] iM og (g:=AccT.sg)) ?_;refine PS ?_;refine FA 1058 bi du ?_;refine gH (vs:=ints (AccT.mk v.epoch BallotT.zero BallotT.zero ChangeT.zero).flat) (i:=1) (aa rfl) rfl rfl rfl rfl rfl (by rw[(a9 (AccT.mk v.epoch BallotT.zero BallotT.zero ChangeT.zero))];exact du) (bw _) rfl rfl (λ_=>LC (cN _) (a9 _)) (λa_=>(kg ((MS.setView s v).rep ⟨lg, .pointer none, .slice none 0 0⟩) 0 rfl (by have h1:=(a9 (AccT.mk v.epoch BallotT.zero BallotT.zero ChangeT.zero));omega) (cn ((a9 (((MS.setView s v).rep ⟨lg, .pointer none, .slice none 0 0⟩).acc)).trans (a9 (AccT.mk v.epoch BallotT.zero BallotT.zero ChangeT.zero)).symm)))) (nx J3 (sr λ_ J4=>P2 ?_));refine FA 1067 bi iV ?_;refine SK 1 iV (λ_=>cN _) ?_ (hc:=by exact λa_=>(Om _ rfl _));refine nx J4 (ad (P2 ?_));refine FA 1066 bi aQ ?_;refine SK 1 aQ (λ_=>cN _) ?_ (hc:=by exact λa_=>(lI _ rfl _))
 exact ap (WK [1] (bA rfl rfl))
theorem xj{δ:Type}(lg r:Nat)(s:MS δ)(m:RecT)(hw:WF m.row.flat):
 DT 94 #[(.pointer (some ⟨r,0,none⟩)),(.agg (ints m.flat).toArray)] T0 [Cs lg r s] (dm (λ_ H=>H=[Cs lg r (jz s m)])):=by
 refine BD 93 Tryz.func94 rfl rfl rfl λw0 F hF=>sr λ_ J1=>XY (ints m.flat) λb3=>?_
 refine nx J1 (sr λ_ J2=>FA 0 iv aQ ?_);refine LU 0 Y3 (kh m rfl) ?_;refine nx J2 (aq (sr λ_ J3=>PS ?_));refine an ?_ ?_<;>intro h7;refine PS ?_;refine nx J3 (CY (ad (P3 ?_)));refine FA 2 iv aZ ?_;refine LV 0 dD aZ ag RecT.sp_row (y:=m.row) ?_;refine PS ?_;refine FA 9 bi aZ ?_;refine gH (vs:=ints m.row.flat) (i:=1) (aa rfl) rfl rfl rfl rfl rfl (by rw[(ag m.row)];exact aZ) (bw _) rfl rfl (λ_=>LC (cN _) (ag _)) (λa_=>(OG (s.rep ⟨lg, .pointer none, .slice none 0 0⟩) 0 rfl (by have h1:=(ag m.row);omega) (cn ((ag ((s.rep ⟨lg, .pointer none, .slice none 0 0⟩).own)).trans (ag m.row).symm)))) (PS ?_);refine FA 1938 bi kM ?_;refine SK 1 kM (λ_=>cN _) ?_ (hc:=by exact λa_=>(Oo _ rfl _));refine PS ?_;refine FA 1939 bi aQ ?_;refine SK 1 aQ (λ_=>cN _) ?_ (hc:=by exact λa_=>(On _ rfl _));refine ap (af (WK [1] (bA rfl ?_)));exact congrArg (λq=>[Cs lg r q]) (show(MS.setKept (MS.setBusy (MS.setOwn s m.row) true) 0)=jz s m by rw[jz,if_pos h7]<;>rfl);refine PS ?_;refine nx J3 (CN (sr λ_ J4=>PS ?_));refine an ?_ ?_<;>intro h20;refine PS ?_;refine nx J4 (CY (D1 0 bh ?_));refine PD 0 ?_;refine PD 1 ?_;refine FD 2 183 bi nI ?_;refine FD 3 1 iv aQ ?_;refine LR 4 Y3 (E4 m rfl) ?_;refine FD 5 2 iv aZ ?_;refine ta 6 rfl (aN (vs:=ints m.row.flat) rfl dD rfl aZ rfl (λ_ h=>h.2.1) (ag m.row) (rk m 0 rfl (by decide) (whole (ag m.row)))) ?_;refine AL 7 ?_
 refine CE Kf (Leg.Does.hid (λa_=>st r 183 123 _ (dV (s.rep ⟨lg, .pointer none, .slice none 0 0⟩)) s.mirror m.whose m.row hw)) (SM [1]) ?_;refine EN (DN (af (WK [0] (bA rfl ?_))));exact congrArg (λq=>[Cs lg r q]) (show(iE s m.whose m.row)=jz s m by rw[jz,if_neg h7,if_pos h20]<;>rfl);refine PS ?_;refine nx J4 (CN (sr λ_ J5=>PS ?_));refine an ?_ ?_<;>intro h30;refine PS ?_;refine nx J5 (CY (D1 0 bh ?_));refine PD 0 ?_;refine PD 1 ?_;refine FD 2 183 bi nI ?_;refine FD 3 1 iv aQ ?_;refine LR 4 Y3 (E4 m rfl) ?_;refine AL 5 ?_;refine CE Ke (Leg.Does.hid (λa_=>sq r 183 123 _ (dV (s.rep ⟨lg, .pointer none, .slice none 0 0⟩)) s.mirror m.whose)) (SM [1]) ?_;refine EN (DN (af (WK [0] (bA rfl ?_))));exact congrArg (λq=>[Cs lg r q]) (show(lT s m.whose)=jz s m by rw[jz,if_neg h7,if_neg h20,if_pos h30]<;>rfl);refine PS ?_;refine nx J5 (CN (sr λ_ J6=>PS ?_));refine an ?_ ?_<;>intro h38;refine PS ?_;refine nx J6 (CY (sr λ_ J7=>PS ?_));refine FA 177 iv cq ?_;refine LV 0 jY cq ao RecT.sp_ballot (y:=m.ballot) ?_;refine PS ?_;refine FA 1058 bi du ?_;refine FA 1059 iM cq ?_
 refine gH (vs:=ints m.ballot.flat) (i:=1) (aa rfl) rfl rfl rfl rfl rfl (by rw[(ao m.ballot)];exact cq) (bw _) rfl rfl (λ_=>LC (cN _) (ao _)) (λa_=>(kg (s.rep ⟨lg, .pointer none, .slice none 0 0⟩) 1 rfl (by have h1:=(ao m.ballot);omega) (OL ((s.rep ⟨lg, .pointer none, .slice none 0 0⟩).acc) 0 rfl (by have h1:=(ao m.ballot);omega) (cn ((ao (((s.rep ⟨lg, .pointer none, .slice none 0 0⟩).acc).vow)).trans (ao m.ballot).symm))))) (nx J7 (D1 0 bh ?_));refine PD 0 ?_;refine PD 1 ?_;refine PD 2 ?_;refine FD 3 1066 bi aQ ?_;refine FD 5 177 iv cq ?_;refine FD 6 177 jY aQ ?_;refine LX 7 Y3 (.int .i64 (m.ballot.round)) ?_ (hc:=by exact RecT.pt_ballot m 0 rfl (by decide) (e8 m.ballot rfl));refine AL 4 ?_;refine LG 1 Y3 (.int .i64 (s.round)) ?_ (hc:=by exact λa_=>(uJ _ rfl));refine EN (ta 8 rfl (xL rfl rfl rfl) ?_);refine PD 9 ?_;refine FD 10 1066 bi aQ ?_;refine AL 11 ?_;refine SK 1 aQ (λ_=>cN _) ?_ (hc:=by exact λa_=>(lI _ rfl _));refine EN (DN (af (WK [1] (bA rfl ?_))));exact congrArg (λq=>[Cs lg r q]) (show(MS.setRound (MS.setAcc s (AccT.mk s.acc.epoch m.ballot s.acc.had s.acc.change)) (max s.round m.ballot.round))=jz s m by rw[jz,if_neg h7,if_neg h20,if_neg h30,if_pos h38]<;>rfl);refine PS ?_;refine nx J6 (CN (sr λ_ J8=>PS ?_));refine an ?_ ?_<;>intro h57;refine PS ?_;refine nx J8 (CY (ab λ_ J9=>D1 0 bh ?_));refine PD 0 ?_;refine PD 1 ?_;refine PD 2 ?_;refine FD 3 177 iv cq ?_
 refine ta 4 rfl (aN (vs:=ints m.ballot.flat) rfl jY rfl cq rfl (λ_ h=>h.2.1) (ao m.ballot) (qh m 0 rfl (by decide) (whole (ao m.ballot)))) ?_;refine FD 5 177 iv cq ?_;refine ta 6 rfl (aN (vs:=ints m.ballot.flat) rfl jY rfl cq rfl (λ_ h=>h.2.1) (ao m.ballot) (qh m 0 rfl (by decide) (whole (ao m.ballot)))) ?_;refine FD 7 179 iv fB ?_;refine ta 8 rfl (aN (vs:=ints m.change.flat) rfl mX rfl fB rfl (λ_ h=>h.2.1) (aJ m.change) (Lm m 0 rfl (by decide) (whole (aJ m.change)))) ?_;refine PD 9 ?_;refine FD 10 1058 bi du ?_;refine FD 11 1059 iM cq ?_;refine AL 12 ?_;refine gH (vs:=ints m.ballot.flat) (i:=1) (aa rfl) rfl rfl rfl rfl rfl (by rw[(ao m.ballot)];exact cq) (bw _) rfl rfl (λ_=>LC (cN _) (ao _)) (λa_=>(kg (s.rep ⟨lg, .pointer none, .slice none 0 0⟩) 1 rfl (by have h1:=(ao m.ballot);omega) (OL ((s.rep ⟨lg, .pointer none, .slice none 0 0⟩).acc) 0 rfl (by have h1:=(ao m.ballot);omega) (cn ((ao (((s.rep ⟨lg, .pointer none, .slice none 0 0⟩).acc).vow)).trans (ao m.ballot).symm))))) (EN (PD 13 ?_));refine FD 14 1058 bi du ?_;refine FD 15 1061 iM cq ?_;refine AL 16 ?_
 refine gH (vs:=ints m.ballot.flat) (i:=1) (aa rfl) rfl rfl rfl rfl rfl (by rw[(ao m.ballot)];exact cq) (bw _) rfl rfl (λ_=>LC (cN _) (ao _)) (λa_=>(kg ((MS.setAcc s (AccT.mk s.acc.epoch m.ballot s.acc.had s.acc.change)).rep ⟨lg, .pointer none, .slice none 0 0⟩) 3 rfl (by have h1:=(ao m.ballot);omega) (AccT.wr_had_ (((MS.setAcc s (AccT.mk s.acc.epoch m.ballot s.acc.had s.acc.change)).rep ⟨lg, .pointer none, .slice none 0 0⟩).acc) 0 rfl (by have h1:=(ao m.ballot);omega) (cn ((ao ((((MS.setAcc s (AccT.mk s.acc.epoch m.ballot s.acc.had s.acc.change)).rep ⟨lg, .pointer none, .slice none 0 0⟩).acc).had)).trans (ao m.ballot).symm))))) (EN (PD 17 ?_));refine FD 18 1058 bi du ?_;refine FD 19 1063 iM fB ?_;refine AL 20 ?_;refine gH (vs:=ints m.change.flat) (i:=1) (aa rfl) rfl rfl rfl rfl rfl (by rw[(aJ m.change)];exact fB) (bw _) rfl rfl (λ_=>LC (cN _) (aJ _)) (λa_=>(kg ((MS.setAcc s (AccT.mk s.acc.epoch m.ballot m.ballot s.acc.change)).rep ⟨lg, .pointer none, .slice none 0 0⟩) 5 rfl (by have h1:=(aJ m.change);omega) (AccT.wr_change_ (((MS.setAcc s (AccT.mk s.acc.epoch m.ballot m.ballot s.acc.change)).rep ⟨lg, .pointer none, .slice none 0 0⟩).acc) 0 rfl (by have h1:=(aJ m.change);omega) (cn ((aJ ((((MS.setAcc s (AccT.mk s.acc.epoch m.ballot m.ballot s.acc.change)).rep ⟨lg, .pointer none, .slice none 0 0⟩).acc).change)).trans (aJ m.change).symm))))) (EN (DN (ac J9 (D1 0 bh ?_))));refine PD 0 ?_;refine PD 1 ?_;refine PD 2 ?_
 refine FD 3 1066 bi aQ ?_;refine FD 5 177 iv cq ?_;refine FD 6 177 jY aQ ?_;refine LX 7 Y3 (.int .i64 (m.ballot.round)) ?_ (hc:=by exact RecT.pt_ballot m 0 rfl (by decide) (e8 m.ballot rfl));refine AL 4 ?_;refine LG 1 Y3 (.int .i64 (s.round)) ?_ (hc:=by exact λa_=>(uJ _ rfl));refine EN (ta 8 rfl (xL rfl rfl rfl) ?_);refine PD 9 ?_;refine FD 10 1066 bi aQ ?_;refine AL 11 ?_;refine SK 1 aQ (λ_=>cN _) ?_ (hc:=by exact λa_=>(lI _ rfl _));refine EN (DN (af (WK [1] (bA rfl ?_))));exact congrArg (λq=>[Cs lg r q]) (show(MS.setRound (MS.setAcc s (AccT.mk s.acc.epoch m.ballot m.ballot m.change)) (max s.round m.ballot.round))=jz s m by rw[jz,if_neg h7,if_neg h20,if_neg h30,if_neg h38,if_pos h57]<;>rfl);refine PS ?_;refine nx J8 (CN (sr λ_ J10=>PS ?_));refine an ?_ ?_<;>intro h88;refine PS ?_;refine nx J10 (CY (ad (PS ?_)));refine FA 182 iv bc ?_;refine LV 0 eD bc am RecT.sp_view (y:=m.view) ?_;refine CZ KJ (uk lg r s m.view) (SM [1]) λvR=>?_
 refine ap (af (WK [0] (bA rfl ?_)));exact congrArg (λq=>[Cs lg r q]) (show(mS s m.view)=jz s m by rw[jz,if_neg h7,if_neg h20,if_neg h30,if_neg h38,if_neg h57,if_pos h88]<;>rfl);refine PS ?_;refine nx J10 (CN (aR (af (WK [1] (bA rfl ?_)))));exact congrArg (λq=>[Cs lg r q]) (show s=jz s m by rw[jz,if_neg h7,if_neg h20,if_neg h30,if_neg h38,if_neg h57,if_neg h88]<;>rfl)
theorem Jm{bs:List UInt8}(h: ¬(mn bs).2≠0):WF (mn bs).1.row.flat:=by
 rcases H4 bs with⟨m,e,_,_,hw⟩|e
 · rw[e];exact hw
 · rw[e]at h;exact absurd (by decide) h
theorem AN{δ:Type}(e0:δ)(i:Int)(d:Nat)(D:DS)(hD:D.Ok)(hI:Wal.DS.In D)(hb:D.ws.length≤1000000):
 DT 55 #[(.int .i64 (i)),(.pointer (some ⟨d,0,none⟩))] T0 [dk d D] (dm (λr' H=>((bL D).err≠0∧r'= .tuple #[.pointer none, .int .i64 (bL D).err]∧H=[dk d (bL D).D])∨((bL D).err=0∧((lq (bL D).recs (Bl i e0)=none∧r'= .tuple #[.pointer none, .int .i64 1]∧H=[dk d (bL D).D])∨∃s r lg,lq (bL D).recs (Bl i e0)=some s∧r'= .tuple #[.pointer (some ⟨r,0,none⟩), .int .i64 0]∧H=[Cs lg r s,EO lg d (((bL D).recs.length:Nat):Int) (bL D).used,dk d (bL D).D])))):=by
 refine BD 50 Tryz.func55 rfl rfl rfl λw0 F hF=>sr λ_ J1=>P2 ?_
 refine nx J1 (ab λ_ J2=>sr λ_ J3=>PS ?_);refine tp (iQ rfl sM rfl rfl) ?_;refine nx J3 (CN (qx J2 (sr λ_ J4=>PS ?_)));refine CR NO (FZ d D hD hI hb) ID λvR HR hR=>?_
 rcases hR with⟨he,rfl,rfl⟩| ⟨he,lg,vr,rfl,rfl⟩
 refine P4 ?_;refine P3 ?_;refine nx J4 (ab λ_ J5=>sr λ_ J6=>P2 ?_);refine an ?_ ?_<;>intro h23;refine nx J6 (CY (sr λ_ J7=>P3 ?_));exact nx J7 (ai (ae (WK [0] (iw rfl rfl rfl (.inl ⟨he,rfl,rfl⟩)))))
 · exact absurd he h23
 change TL _ _ _ _ _ _ _ _ _ [ah lg [(.pointer (some ⟨d,0,none⟩)),(.int .i64 ((((bL D).recs.length:Nat):Int))),(.int .i64 ((bL D).used))] 210,Ns vr (bL D).recs,dk d (bL D).D];refine xE (p:=oU vr (bL D).recs.length∧vr.oneCell'=true) (λw m=>by obtain⟨h,_,_,hs⟩:=m;obtain⟨_,_,_,_,a,_⟩:=eW 1 (lb rfl) hs;exact tM a) (λ⟨hsl,hvr⟩=>P4 ?_);refine P3 ?_;refine nx J4 (ab λ_ J8=>sr λ_ J9=>P2 ?_);refine nx J9 (CN (qx J8 (sr λ_ J10=>P2 ?_)))
 refine tp (xM (cs:=RepT.cells (RepT.mk i (.pointer (some ⟨lg,0,none⟩)) ViewT.zero RowT.zero MirT.zero AccT.zero 0 (.pointer none) BookT.zero false 0 0 0 (.slice none 0 0) (#v[0,0,0,0,0]) (#v[RowT.zero,RowT.zero,RowT.zero,RowT.zero,RowT.zero]))) (segs:=[[Value.int .i64 0],[(.pointer none)],ints ViewT.zero.flat,ints RowT.zero.flat,MirT.cells MirT.zero,ints AccT.zero.flat,[Value.int .i64 0],[(.pointer none)],ints BookT.zero.flat,[Value.bool false],[Value.int .i64 0],[Value.int .i64 0],[Value.int .i64 0],[(.slice none 0 0)],ints (#v[0,0,0,0,0]).toList,ints ((#v[RowT.zero,RowT.zero,RowT.zero,RowT.zero,RowT.zero]).toList.flatMap RowT.flat)]) (res:=[[Value.int .i64 i],[(.pointer (some ⟨lg,0,none⟩))],ints ViewT.zero.flat,ints RowT.zero.flat,MirT.cells MirT.zero,ints AccT.zero.flat,[Value.int .i64 0],[(.pointer none)],ints BookT.zero.flat,[Value.bool false],[Value.int .i64 0],[Value.int .i64 0],[Value.int .i64 0],[(.slice none 0 0)],ints (#v[0,0,0,0,0]).toList,ints ((#v[RowT.zero,RowT.zero,RowT.zero,RowT.zero,RowT.zero]).toList.flatMap RowT.flat)]) (parts:=[(0,[Value.int .i64 i]),(1,[(.pointer (some ⟨lg,0,none⟩))])]) rfl rfl bi (by kernel_rfl) (by kernel_rfl) rfl (e9 rfl rfl (e9 rfl ((rfl:[(.pointer (some ⟨lg,0,none⟩))].length=1).trans (rfl:[(.pointer none)].length=1).symm) lr)) (ey (RepT.mk i (.pointer (some ⟨lg,0,none⟩)) ViewT.zero RowT.zero MirT.zero AccT.zero 0 (.pointer none) BookT.zero false 0 0 0 (.slice none 0 0) (#v[0,0,0,0,0]) (#v[RowT.zero,RowT.zero,RowT.zero,RowT.zero,RowT.zero]))).symm) ?_
 refine XY (RepT.cells (RepT.mk i (.pointer (some ⟨lg,0,none⟩)) ViewT.zero RowT.zero MirT.zero AccT.zero 0 (.pointer none) BookT.zero false 0 0 0 (.slice none 0 0) (#v[0,0,0,0,0]) (#v[RowT.zero,RowT.zero,RowT.zero,RowT.zero,RowT.zero]))) λb28=>?_
 refine PS ?_;refine nx J10 (sr λ_ J11=>cr (H':=Cs lg b28 (Ec i e0)::[ah lg [(.pointer (some ⟨d,0,none⟩)),(.int .i64 ((((bL D).recs.length:Nat):Int))),(.int .i64 ((bL D).used))] 210,Ns vr (bL D).recs,dk d (bL D).D]) (λ_ q=>bj (p:=λ_:Unit=>[ah b28 (RepT.cells ((Ec i e0).rep ⟨lg, .pointer none, .slice none 0 0⟩)) 123]) () (aC [0] rfl q)) (PS ?_));refine CE KX (q7) ID ?_;refine CZ KJ (uk lg b28 (Ec i e0) firstV) ID λvR=>?_
 refine nx J11 (ab λ_ J12=>sr λ_ J13=>PS ?_);refine tp (dF rfl uG rfl hsl) ?_;refine PS ?_;refine nx J13 (aq ?_)
 refine bp (α:=(Nat)×(MS δ)) (λ⟨k,s⟩=>k≤(bL D).recs.length∧lq (bL D).recs (Bl i e0)=lq ((bL D).recs.drop k) s) (λ⟨k,s⟩=>[(9,(.pointer (some ⟨b28,0,none⟩))),(32,vr),(33,(.int .i64 ((((bL D).recs.length:Nat):Int)))),(34,(.int .i64 (((k:Nat):Int))))]) (λ⟨k,s⟩=>[Cs lg b28 s,ah lg [(.pointer (some ⟨d,0,none⟩)),(.int .i64 ((((bL D).recs.length:Nat):Int))),(.int .i64 ((bL D).used))] 210,Ns vr (bL D).recs,dk d (bL D).D]) (λ⟨k,s⟩=>(bL D).recs.length-k) (0,(Bl i e0))
  ⟨aO _,rfl⟩ SB
  (λ_ s=>ak [0,0,0,0] rfl s) (λ⟨k,s⟩ hinv=>?_)
 obtain⟨hk,hrs⟩:=hinv;refine sr λ_ J14=>PS ?_
 refine an ?_ ?_<;>intro h35;refine cr (λ_ s=>aC [2] rfl s) (Ks (λus=>?_));change TL _ _ _ _ _ _ _ _ _ [own vr ((bL D).recs.length) (us) 93 1,eA us (bL D).recs 5,Cs lg b28 s,ah lg [(.pointer (some ⟨d,0,none⟩)),(.int .i64 ((((bL D).recs.length:Nat):Int))),(.int .i64 ((bL D).used))] 210,dk d (bL D).D];refine xE (p:=us.length=(bL D).recs.length*1) (λw m=>m.own_len (i:=0) (lb rfl) rfl) (λhul=>?_);rw[fH]at hul;have hkl:k< (bL D).recs.length:=by omega
 refine jO 0 rfl rfl (by omega) (λg cap hv hcap=>?_);have hvq:vr= .slice (some ⟨g,0,none⟩) (bL D).recs.length cap:=hv;refine nx J14 (ab λ_ J15=>CY (qx J15 (ab λ_ J16=>aq (sr λ_ J17=>tp (bT (r:=k) hv rfl uG nr rfl rfl (by omega) (by omega) (by omega)) ?_))));refine tp (c7 (v:=(us.getD k undef)) rfl gp rfl rfl (fZ 0 rfl hvq rfl) (by simp[List.getD_eq_getElem?_getD,show k<us.length by omega])) ?_;refine PS ?_;refine nx J17 (sr λ_ J18=>PS ?_);refine CF L9 (oP (us.getD k undef) (bL D).recs[k]) ID (λg d s=>tw 1 hkl rfl rfl g d s) ?_;refine P3 ?_;refine XZ Lq (ints RecT.zero.flat) λb12=>?_
 refine SW 0 iI bk ?_;refine PS ?_;refine nx J18 (ab λ_ J19=>sr λ_ J20=>P2 ?_);refine an ?_ ?_<;>intro h44;refine nx J20 (CY (sr λ_ J21=>P2 ?_));exact nx J21 (ai (ae (aH (ae (ae (aH (ae (WK [5] (iw rfl rfl rfl (.inr ⟨he, .inl ⟨hrs.trans (FJ hkl h44),rfl,rfl⟩⟩))))))))));refine nx J20 (CN (qx J19 (ad (PS ?_))));refine LW 0 iv iI bk ?_;refine CZ NN (xj lg b28 s (mn (bL D).recs[k]).1 (Jm h44)) (SM [3]) λvR=>?_
 refine ap (af (ac J16 (ad (AD ?_))));refine PS ?_;refine ap ?_
 exact aI ((k+1,(jz s (mn (bL D).recs[k]).1)):(Nat)×(MS δ)) ⟨by omega,hrs.trans (Hb hkl h44)⟩ (by show(bL D).recs.length- (k+1)< (bL D).recs.length-k;omega)
  SB
  (λ_ s=>aC [1,1,0,0] rfl (bj (p:=λus:List Value=>[own vr (bL D).recs.length us 93 1,eA us (bL D).recs 5]) us (ak [2,2,0,1,1] rfl s)))
 refine nx J14 (ab λ_ J22=>CN (aW (az (az (bm (ac J12 (sr λ_ J23=>P3 ?_)))))));refine nx J23 (ai (WK [0,0,1] (iw rfl rfl rfl ?_)));exact .inr ⟨he, .inr ⟨s,b28,lg,by rw[hrs,cF (by omega)];rfl,rfl,rfl⟩⟩
def kl(k:Nat)(m:MsgT):List UInt8:=jg ((k / 5:Nat):Int) ((k%5:Nat):Int) (dX m)
def cJ(W:List (List MsgT)):List (List (List UInt8)):=(List.range 25).map λk=>(W.getD k []).map (kl k)
theorem pm(W:List (List MsgT)):(cJ W).length=25:=by simp[cJ]
theorem m7(W:List (List MsgT)){k:Nat}(h:k<25):(cJ W).getD k []=(W.getD k []).map (kl k):=by simp[cJ,h,List.getD_eq_getElem?_getD]
theorem u7(W:List (List MsgT)){k:Nat}(h:k<25)(hW:W.length=25)(l:List MsgT):(cJ W).set k (l.map (kl k))=cJ (W.set k l):=by
 refine List.ext_getElem? λj=>?_
 by_cases hj:j=k
 · subst hj
   rw[List.getElem?_set_self (by rw[pm];exact h)];simp[cJ,h,List.getD_eq_getElem?_getD,List.getElem?_set_self (show j<W.length by omega)]
 · rw[List.getElem?_set_ne (λe=>hj e.symm)]
   unfold cJ;rw[List.getElem?_map,List.getElem?_map]
   by_cases hk:j<25
   · simp[hk,List.getD_eq_getElem?_getD,List.getElem?_set_ne (λe=>hj e.symm)]
   · simp[hk]
theorem Au{f t:Int}(hf:iF f=true)(ht:iF t=true)(m:MsgT):kl (bB f t) m=jg f t (dX m):=by
 have h1:0≤f∧f<5:=of_decide_eq_true hf;have h2:0≤t∧t<5:=of_decide_eq_true ht;unfold kl bB;rw[show(((f.toNat*5+t.toNat) / 5:Nat):Int)=f by omega,show(((f.toNat*5+t.toNat)%5:Nat):Int)=t by omega]
theorem rI{f t:Int}(h:dG f t=true):iF f=true∧iF t=true:=by
 unfold dG at h;rw[av,av]at h;exact h.1
theorem GO{W:List (List MsgT)}(hW:W.length=25){f:Nat}(s:SaidT):oB (cJ W) ((f:Nat):Int) s.to' (jg ((f:Nat):Int) s.to' (dX s.msg))=cJ (r9 W f s):=by
 unfold oB r9;cases hv:dG ((f:Nat):Int) s.to'
 · rfl
 · obtain⟨h1,h2⟩:=ig hv
   obtain⟨h3,h4⟩:=rI hv;rw[if_pos rfl,if_pos rfl,m7 W h1,←Au h3 h4,←u7 W h1 hW];unfold zr;rw[bU];split
   · rw[cS];rfl
   · rfl
theorem He(W:List (List MsgT))(f:Nat)(s:SaidT):(r9 W f s).length=W.length:=by unfold r9;split<;>simp
theorem Fp(W:List (List MsgT))(f:Nat)(l:List SaidT):(gO W f l).length=W.length:=by
 induction l generalizing W with
 |nil=>rfl
 |cons s l ih=>exact(ih _).trans (He _ _ _)
theorem Fq(W:List (List MsgT))(f:Nat)(l:List SaidT)(s:SaidT):gO W f (l++[s])=r9 (gO W f l) f s:=by simp[gO]
theorem u6(k:Nat)(m:MsgT):(kl k m).length≤1000000:=by
 unfold kl;rw[q6];have:=sD m;omega
theorem vS(c:Nat)(w:Int):
 DT 56 #[(.pointer (some ⟨c,0,none⟩)),(.int .i64 (w))] T0 [] (RI (.bool (iF w)) []):=by
 refine BD 15 Tryz.func56 rfl rfl rfl λw0 F hF=>sr λ_ J1=>PS ?_
 refine nx J1 (sr λ_ J2=>PS ?_);refine tp (fS rfl M7 rfl rfl) ?_;refine P3 ?_;refine an ?_ ?_<;>intro h9
 iterate 6 refine PS ?_
 refine nx J2 (ai (WK [] (au rfl rfl ?_)));exact⟨congrArg Value.bool (by unfold iF;simp only[decide_eq_decide];omega),rfl⟩;refine P2 ?_;refine UF ?_;refine UF ?_;refine P2 ?_;refine nx J2 (ai (WK [] (au rfl rfl ?_)));exact⟨congrArg Value.bool (by unfold iF;symm;exact decide_eq_false (by omega)),rfl⟩
theorem dO(c i:Nat)(hi:i<5):DT 56 #[.pointer (some ⟨c,0,none⟩), .int .i64 ((i:Nat):Int)] T0 [] (RI (.bool true) []):=by
 have:=vS c ((i:Nat):Int)
 rwa [show iF ((i:Nat):Int)=true from decide_eq_true ⟨by omega,by omega⟩]at this
theorem rK(c n i:Nat)(D M P:Nat→Value)(hi:i<5)(hM:M i= .pointer none):
 DT 16 #[(.pointer (some ⟨c,0,none⟩)),(.int .i64 (((i:Nat):Int)))] T0 [ah c (eG n D M P) 104] (RI (.bool false) [ah c (eG n D M P) 104]):=by
 refine BD 27 Tryz.func16 rfl rfl rfl λw0 F hF=>sr λ_ J1=>PS ?_
 refine nx J1 (sr λ_ J2=>P2 ?_);refine CE pH (dO c i hi) ID ?_;refine P4 ?_;refine FA 6 iB oW ?_;refine IX (6+i) uD j0 ?_;refine LT 0 uE (.pointer none) ?_ (hc:=by exact(wM n D M P hi).trans (congrArg some hM));refine tq (gJ rfl uE rfl rfl) ?_;refine P2 ?_
 iterate 8 refine UF ?_
 refine P2 ?_;exact nx J2 (ai (WK [0] (au rfl rfl ⟨rfl,rfl⟩)))
theorem LQ (c i : Nat) : w8 Tryz.prog 110 (LP c i) "Send" 203 := fun w => by kernel_rfl
theorem rJ(c n i:Nat)(D M P:Nat→Value)(hi:i<5)(d r:Nat)(e:DS)(hD:D i= .pointer (some ⟨d,0,none⟩))(hM:M i= .pointer (some ⟨r,0,none⟩)):
 DT 16 #[(.pointer (some ⟨c,0,none⟩)),(.int .i64 (((i:Nat):Int)))] T0 [ah c (eG n D M P) 104,dk d e] (RI (.bool (!e.dn)) [ah c (eG n D M P) 104,dk d e]):=by
 refine BD 27 Tryz.func16 rfl rfl rfl λw0 F hF=>sr λ_ J1=>PS ?_
 refine nx J1 (sr λ_ J2=>P2 ?_);refine CE pH (dO c i hi) ID ?_;refine P4 ?_;refine FA 6 iB oW ?_;refine IX (6+i) uD j0 ?_;refine LT 0 uE (.pointer (some ⟨r,0,none⟩)) ?_ (hc:=by exact(wM n D M P hi).trans (congrArg some hM));refine tq (fS rfl uE rfl rfl) ?_
 iterate 5 refine PS ?_
 refine FA 1 iB rP ?_;refine IX (1+i) Ai oM ?_;refine LT 0 sM (.pointer (some ⟨d,0,none⟩)) ?_ (hc:=by exact(B5 n D M P hi).trans (congrArg some hD));refine CE L8 (ES d e) (SM [1]) ?_;refine tq (n9 rfl rfl rfl) ?_;refine P2 ?_;exact nx J2 (ai (WK [1,0] (au rfl rfl ⟨rfl,rfl⟩)))
theorem CV(c n i:Nat)(D M P:Nat→Value)(hi:i<5)(d:Nat)(e:DS)(hD:D i= .pointer (some ⟨d,0,none⟩))(W:List (List MsgT))(hW:W.length=25)(to':Int)(m:MsgT):
 DT 203 #[(.agg #[(.pointer (some ⟨c,0,none⟩)),(.int .i64 (((i:Nat):Int)))]),(.int .i64 (to')),(.agg (ints m.flat).toArray)] T0 [ah c (eG n D M P) 104,dk d e,eu 156 208 5 n (cJ W)] (dm (λ_ H=>H=[ah c (eG n D M P) 104,dk d e,eu 156 208 5 n (cJ (if e.dn then W else r9 W i ⟨to',m⟩))])):=by
 refine BD 27 Tryz.func203 rfl rfl rfl λw0 F hF=>sr λ_ J1=>XB λb3=>?_
 refine XY (ints m.flat) λb5=>?_
 refine nx J1 (ab λ_ J2=>D2 1 2 dB ?_);refine FD 0 0 Eb LI ?_;refine LX 1 M7 (.pointer (some ⟨c,0,none⟩)) ?_ (hc:=by exact rfl);refine FD 2 1 Eb aQ ?_;refine LX 3 Y3 (.int .i64 (((i:Nat):Int))) ?_ (hc:=by exact rfl);refine PD 4 ?_;refine FD 5 1 iB rP ?_;refine IY 6 (1+i) Ai oM ?_;refine LX 7 sM (.pointer (some ⟨d,0,none⟩)) ?_ (hc:=by exact(B5 n D M P hi).trans (congrArg some hD));refine AL 8 ?_;refine CE L8 (ES d e) (SM [3]) ?_;refine aX ?_ ?_<;>intro h14;refine EN (PD 9 ?_);refine DN (ac J2 (CN (aR (WK [3,0,2] (bA rfl ?_)))));exact by rw[show e.dn=true by assumption];rfl
 refine EN (PD 9 ?_);refine DN (ac J2 (CY (n8 (λw=>Frm F w∧w.heap[b3]?=some (.cells ([(.pointer (some ⟨c,0,none⟩)),(.int .i64 (((i:Nat):Int)))]).toArray 110 (0,0))∧w.heap[c]?=some (.cells (eG n D M P).toArray 104 (0,0))∧w.heap[b5]?=some (.cells (ints m.flat).toArray 178 (0,0))∧True) dB rfl (λ_ s=>⟨ez s,s.block 2 (lb rfl) rfl,s.block 3 (lb rfl) rfl,s.block 1 (lb rfl) rfl,trivial⟩) (FD 0 0 Eb LI ?_))));refine LX 1 M7 (.pointer (some ⟨c,0,none⟩)) ?_ (hc:=by exact rfl);refine PD 2 ?_;refine FD 3 0 iB y8 ?_;refine LX 4 Im (.pointer (some ⟨n,0,none⟩)) ?_ (hc:=by exact zX n D M P);refine FD 5 1 Eb aQ ?_;refine LX 6 Y3 (.int .i64 (((i:Nat):Int))) ?_ (hc:=by exact rfl);refine PD 7 ?_;refine LY 8 bb bW aG ?_;refine AL 9 ?_;refine CR Me (BN m) ID λvR HR hR=>?_
 obtain⟨_,rfl,rfl⟩:=hR;revert vR;intro ue;refine EN (AL 10 ?_);refine CQ Mf (xr n (cJ W) ((i:Nat):Int) to' ue (dX m) (sD m) (pm W)) (SM [5]) (λg d s=>Iy (sx 0 rfl rfl g d s)) λvR HR hR=>?_
 obtain⟨_,rfl⟩:=hR;rw[GO hW ⟨to',m⟩];refine EN (DN (WK [5,2,0] (bA rfl ?_)));exact by rw[show e.dn=false by assumption];rfl
def FX(c n d i:Nat)(D M P:Nat→Value)(W:List (List MsgT))(e:LD)(l:List SaidT):HP:=bE [ah c (eG n D M P) 104,dk d e.D,eu 156 208 5 n (cJ (gO W i l))]
section
variable {c n d i:Nat} {D M P:Nat→Value} {W:List (List MsgT)} {e:LD} {l:List SaidT} {H:List HP} {h:Hl}
theorem tk(s:bE (FX c n d i D M P W e l::H) h):bE (ah c (eG n D M P) 104::dk d e.D::eu 156 208 5 n (cJ (gO W i l))::H) h:=(bX [_,_,_] H).2 s
theorem tj(s:bE (ah c (eG n D M P) 104::dk d e.D::eu 156 208 5 n (cJ (gO W i l))::H) h):bE (FX c n d i D M P W e l::H) h:=(bX [_,_,_] H).1 s
end
def wF(c n d i:Nat)(D M P:Nat→Value)(hi:i<5)(hD:D i= .pointer (some ⟨d,0,none⟩))(W:List (List MsgT))(hW:W.length=25):Env LD where
 toDk:=KD
 T:=110
 ov:=LP c i
 sf:=203
 E:=FX c n d i D M P W
 lg g e:=EO g d ((e.cnt:Nat):Int) e.used
 me:=LQ c i
 nm:=Mg
 say e l to' m _:=by
  refine Leg.Does.conv (CV c n i D M P hi d e.D hD (gO W i l) (by rw[Fp];exact hW) to' m) (λh s=>tk s) λx H F w hp hs=>?_
  cases x with
  |returned v=>
   obtain rfl:=hp;refine⟨_,hs.mono (λh s=>tj (l:=if KD.dn e then l else l++[SaidT.mk to' m]) ?_),rfl⟩
   have q:gO W i (if KD.dn e then l else l++[SaidT.mk to' m])=if e.D.dn then gO W i l else r9 (gO W i l) i ⟨to',m⟩:=by
    show gO W i (if e.D.dn then l else _)=_;split
    · rfl
    · exact Fq ..
   rw[q];exact s
  |panicked c=>exact hp.elim
  |outgrown=>exact hp.elim
 put g x bs e l hok hlen:=by
  refine Leg.Does.withinR (A:=[EO g d ((e.cnt:Nat):Int) e.used,dk d e.D]) (B:=[ah c (eG n D M P) 104,eu 156 208 5 n (cJ (gO W i l))]) (Aw g d e.cnt e.used x bs e.D hok.dk.ok (by have:=hok.dk.ws;omega) hok.used (by have:=hok.cnt;have:=hok.used;omega)) (λF g h dj=>Nd h dj) (λh s=>?_) λv H hp=>?_
  · exact aC [3,1,0,0] rfl (tk (aC [1,0] rfl s))
  · obtain⟨hv,rfl⟩:=hp
    exact⟨[EO g d (((e.put bs).1.cnt:Nat):Int) (e.put bs).1.used,FX c n d i D M P W (e.put bs).1 l],λh s=>aC [1,0] rfl (tj (e:=(e.put bs).1) (l:=l) (aC [2,1,1,0] rfl s)),hv,rfl⟩
abbrev mi(v:Value)(l:List ReplyT):HP:=own v l.length (ints (List.flatMap ReplyT.flat l)) 37 3
abbrev Fz(s:MS LD)(d r:Nat)(a:Adr):List HP:=[ah r (RepT.cells (s.rep a)) 123,EO a.lg d ((s.e.cnt:Nat):Int) s.e.used,mi a.rs s.replies,Ed a.vo s.vote]
abbrev e6(s:MS LD)(d r:Nat):HP:=pack (Fz s d r)
def qf(x:Slot)(d r:Nat):HP:=match x.run with
 |some s=>e6 s d r
 |none=>λ_=>True
abbrev kb(x:Slot)(d r:Nat)(p:Value):List HP:=[dk d x.dk,mi p x.past,qf x d r]
def kq(x:Slot)(d r:Nat)(p:Value):HP:=bE (kb x d r p)
structure CX where
 n:Nat
 d:Nat→Nat
 r:Nat→Nat
 p:Nat→Value
abbrev mo(g:CX):Nat→Value:=λi=> .pointer (some ⟨g.d i,0,none⟩)
def xq(x:Slot)(r:Nat):Value:=match x.run with
 |some _=> .pointer (some ⟨r,0,none⟩)
 |none=> .pointer none
abbrev jK(a:CL)(r:Nat→Nat):Nat→Value:=λi=>xq (a.at' i) (r i)
abbrev qu(c:Nat)(a:CL)(g:CX):List HP:=[ah c (eG g.n (mo g) (jK a g.r) g.p) 104,eu 156 208 5 g.n (cJ a.W),bE ((List.range 5).map λi=>kq (a.at' i) (g.d i) (g.r i) (g.p i))]
def fG(c:Nat)(a:CL):HP:=pack (qu c a)
section
variable {c n d i r:Nat} {D M P:Nat→Value} {W:List (List MsgT)} {s:MS LD} {H:List HP} {h:Hl} {hi:i<5} {hD:D i= .pointer (some ⟨d,0,none⟩)} {hW:W.length=25}
theorem Dg(ho:s.o=[])(q:bE (ah c (eG n D M P) 104::dk d s.e.D::eu 156 208 5 n (cJ W)::e6 s d r::H) h):bE (cD (wF c n d i D M P hi hD W hW) r s::H) h:=by
 obtain⟨a,q⟩:=fo (aC [3,0,0,0] rfl q);have q2:=aC [4,4,4,0,0,0,0] rfl q;have q3:=tj (i:=i) (W:=W) (e:=s.e) (l:=[]) q2;refine bj (p:=λa:Adr=>[ah r (RepT.cells (s.rep a)) 123,EO a.lg d ((s.e.cnt:Nat):Int) s.e.used,mi a.rs s.replies,Ed a.vo s.vote,FX c n d i D M P W s.e s.o]) a ?_;rw[ho];exact aC [1,1,1,1,0] rfl q3
theorem zD(q:bE (cD (wF c n d i D M P hi hD W hW) r s::H) h):bE (ah c (eG n D M P) 104::dk d s.e.D::eu 156 208 5 n (cJ (gO W i s.o))::e6 s.hush d r::H) h:=by
 obtain⟨a,q⟩:=fo q;have q1:bE ([ah r (RepT.cells (s.rep a)) 123,EO a.lg d ((s.e.cnt:Nat):Int) s.e.used,mi a.rs s.replies,Ed a.vo s.vote,FX c n d i D M P W s.e s.o]++H) h:=q;have q2:=tk (aC [4,0,0,0,0] rfl q1);have q3:=bj (p:=Fz s.hush d r) a (aC [3,3,3,3,0,0,0] rfl q2);exact aC [1,1,1,0] rfl q3
end
theorem DK(c n i:Nat)(D M P:Nat→Value)(hi:i<5)(d r:Nat)(s:MS LD)(hD:D i= .pointer (some ⟨d,0,none⟩))(hM:M i= .pointer (some ⟨r,0,none⟩))(W:List (List MsgT))(hW:W.length=25)(ho:s.o=[])(hs:OkR KD s)(o:OpT)(k:Int)(hk:0≤k∧k≤4)(hch:OkCh o.change)(hrs:s.replies.length≤1000000):
 DT 17 #[(.pointer (some ⟨c,0,none⟩)),(.agg (ints (OpT.mk k ((i:Nat):Int) o.to' o.key o.n o.change o.mask o.torn o.cut).flat).toArray)] T0 [ah c (eG n D M P) 104,dk d s.e.D,eu 156 208 5 n (cJ W),e6 s d r] (dm (λv H=>(s.e.D.dn=true∧v= .int .i64 4∧H=[ah c (eG n D M P) 104,dk d s.e.D,eu 156 208 5 n (cJ (W)),e6 s d r])∨(s.e.D.dn=false∧v= .int .i64 (bY KD s ((OpT.mk k ((i:Nat):Int) o.to' o.key o.n o.change o.mask o.torn o.cut))).2∧H=[ah c (eG n D M P) 104,dk d (bY KD s ((OpT.mk k ((i:Nat):Int) o.to' o.key o.n o.change o.mask o.torn o.cut))).1.hush.e.D,eu 156 208 5 n (cJ (gO W i (bY KD s ((OpT.mk k ((i:Nat):Int) o.to' o.key o.n o.change o.mask o.torn o.cut))).1.o)),e6 (bY KD s ((OpT.mk k ((i:Nat):Int) o.to' o.key o.n o.change o.mask o.torn o.cut))).1.hush d r]))):=by
 refine BD 114 Tryz.func17 rfl rfl rfl λw0 F hF=>sr λ_ J1=>XY (ints (OpT.mk k ((i:Nat):Int) o.to' o.key o.n o.change o.mask o.torn o.cut).flat) λb3=>?_
 refine PS ?_;refine nx J1 (ab λ_ J2=>sr λ_ J3=>PS ?_);refine FA 1 fC aQ ?_;refine LT 0 Y3 (.int .i64 (((i:Nat):Int))) ?_ (hc:=by exact bK _ rfl);refine CE pH (dO c i hi) ID ?_;refine PS ?_;refine nx J3 (CN (qx J2 (ab λ_ J4=>sr λ_ J5=>FA 0 fC aQ ?_)));refine LT 0 Y3 (.int .i64 (k)) ?_ (hc:=by exact cU _ rfl);refine nx J5 (aq (ab λ_ J6=>e7 (α:=Unit) (λ_u=>True) (λ_u=>[(0,(.pointer (some ⟨c,0,none⟩))),(3,(.pointer (some ⟨b3,0,none⟩))),(4,(.int .i64 0)),(11,(.int .i64 (k))),(12,(.bool true))]) (λ_u=>[ah b3 (ints (OpT.mk k ((i:Nat):Int) o.to' o.key o.n o.change o.mask o.torn o.cut).flat) 30,ah c (eG n D M P) 104,dk d s.e.D,eu 156 208 5 n (cJ W),e6 s d r]) (λ_u hinv=>?_) (λtl6=>?_)));have _:=hinv;refine ac J6 (CY (ab λ_ J7=>sr λ_ J8=>PS ?_));refine FA 1 fC aQ ?_;refine LT 0 Y3 (.int .i64 (((i:Nat):Int))) ?_ (hc:=by exact bK _ rfl);refine CE Bk (rJ c n i D M P hi d r s.e.D hD hM) (SM [1,1]) ?_;refine aX ?_ ?_<;>intro h21;refine PS ?_;refine nx J8 (CN (qx J7 (ab λ_ J9=>D2 2 0 dB ?_)));refine PD 0 ?_;refine FD 1 1 fC aQ ?_;refine LX 2 Y3 (.int .i64 (((i:Nat):Int))) ?_ (hc:=by exact bK _ rfl);refine PD 3 ?_;refine FD 4 6 iB oW ?_;refine IY 5 (6+i) uD j0 ?_;refine LX 6 uE (.pointer (some ⟨r,0,none⟩)) ?_ (hc:=by exact(wM n D M P hi).trans (congrArg some hM));refine PD 7 ?_;refine FD 8 1 fC aQ ?_
 refine LX 9 Y3 (.int .i64 (((i:Nat):Int))) ?_ (hc:=by exact bK _ rfl);refine ta 10 rfl (jR (cells:=#[(.pointer (some ⟨c,0,none⟩)),(.int .i64 (((i:Nat):Int)))]) rfl rfl (by as_aux_lemma=>kernel_rfl)) ?_;refine ta 11 rfl (o6 rfl Eb rfl rfl) ?_;refine LY 12 fC AA It ?_;refine AL 13 ?_;refine cr (H':=[cD (wF c n d i D M P hi hD W hW) r s,ah b3 (ints (OpT.mk k ((i:Nat):Int) o.to' o.key o.n o.change o.mask o.torn o.cut).flat) 30]) (λ_ q=>Dg ho (aC [0,0,1,1] rfl q)) (CE N0 (@zW _ (wF c n d i D M P hi hD W hW) r s ((OpT.mk k ((i:Nat):Int) o.to' o.key o.n o.change o.mask o.torn o.cut)) hs hch hrs) ID ?_);change TL _ _ _ _ _ _ _ _ _ [cD (wF c n d i D M P hi hD W hW) r ((bY KD s ((OpT.mk k ((i:Nat):Int) o.to' o.key o.n o.change o.mask o.torn o.cut))).1),ah b3 (ints (OpT.mk k ((i:Nat):Int) o.to' o.key o.n o.change o.mask o.torn o.cut).flat) 30];refine cr (H':=[ah c (eG n D M P) 104,dk d (((bY KD s ((OpT.mk k ((i:Nat):Int) o.to' o.key o.n o.change o.mask o.torn o.cut))).1).e.D),eu 156 208 5 n (cJ (gO W i ((bY KD s ((OpT.mk k ((i:Nat):Int) o.to' o.key o.n o.change o.mask o.torn o.cut))).1).o)),e6 (((bY KD s ((OpT.mk k ((i:Nat):Int) o.to' o.key o.n o.change o.mask o.torn o.cut))).1).hush) d r,ah b3 (ints (OpT.mk k ((i:Nat):Int) o.to' o.key o.n o.change o.mask o.torn o.cut).flat) 30]) (λ_ q=>zD (s:=(bY KD s ((OpT.mk k ((i:Nat):Int) o.to' o.key o.n o.change o.mask o.torn o.cut))).1) q) (EN (PD 14 ?_))
 refine DN (ac J9 (ai (aH (ae (WK [0,0,0,0] (au rfl rfl ?_))))));exact .inr ⟨(by simpa using h21),rfl,rfl⟩;refine PS ?_;refine nx J8 (CY (sr λ_ J10=>PS ?_));refine nx J10 (ai (ae (aH (ae (WK [0,0,1,1] (au rfl rfl ?_))))));exact .inl ⟨(by simpa using h21),rfl,rfl⟩;refine sr λ_ J11=>P2 ?_
 refine an ?_ ?_<;>intro h12;refine nx J11 (CY (aR ?_))
 exact aF
  SB
  (λ_ s=>ak [0,0,0,0,0] rfl s)
  (tl6 (():Unit) trivial)
 refine nx J11 (CN (sr λ_ J12=>P2 ?_));refine an ?_ ?_<;>intro h12;refine nx J12 (CY (aR ?_))
 exact aF
  SB
  (λ_ s=>ak [0,0,0,0,0] rfl s)
  (tl6 (():Unit) trivial)
 refine nx J12 (CN (sr λ_ J13=>P2 ?_));refine an ?_ ?_<;>intro h12;refine nx J13 (CY (aR ?_))
 exact aF
  SB
  (λ_ s=>ak [0,0,0,0,0] rfl s)
  (tl6 (():Unit) trivial)
 refine nx J13 (CN (sr λ_ J14=>P2 ?_));refine an ?_ ?_<;>intro h12;refine nx J14 (CY (aR ?_))
 exact aF
  SB
  (λ_ s=>ak [0,0,0,0,0] rfl s)
  (tl6 (():Unit) trivial)
 refine nx J14 (CN (ad (PS ?_)));refine an ?_ ?_<;>intro h17;refine PS ?_;refine ap ?_
 exact aF
  SB
  (λ_ s=>ak [0,0,0,0,0] rfl s)
  (tl6 (():Unit) trivial)
 · exact absurd h17 (by omega)
theorem BX(c n i:Nat)(D M P:Nat→Value)(hi:i<5)(hM:M i= .pointer none)(o:OpT)(k:Int)(hk:0≤k∧k≤4):
 DT 17 #[(.pointer (some ⟨c,0,none⟩)),(.agg (ints (OpT.mk k ((i:Nat):Int) o.to' o.key o.n o.change o.mask o.torn o.cut).flat).toArray)] T0 [ah c (eG n D M P) 104] (RI (.int .i64 4) [ah c (eG n D M P) 104]):=by
 refine BD 114 Tryz.func17 rfl rfl rfl λw0 F hF=>sr λ_ J1=>XY (ints (OpT.mk k ((i:Nat):Int) o.to' o.key o.n o.change o.mask o.torn o.cut).flat) λb3=>?_
 refine PS ?_;refine nx J1 (ab λ_ J2=>sr λ_ J3=>PS ?_);refine FA 1 fC aQ ?_;refine LT 0 Y3 (.int .i64 (((i:Nat):Int))) ?_ (hc:=by exact bK _ rfl);refine CE pH (dO c i hi) ID ?_;refine PS ?_;refine nx J3 (CN (qx J2 (ab λ_ J4=>sr λ_ J5=>FA 0 fC aQ ?_)));refine LT 0 Y3 (.int .i64 (k)) ?_ (hc:=by exact cU _ rfl);refine nx J5 (aq (ab λ_ J6=>e7 (α:=Unit) (λ_u=>True) (λ_u=>[(0,(.pointer (some ⟨c,0,none⟩))),(3,(.pointer (some ⟨b3,0,none⟩))),(4,(.int .i64 0)),(11,(.int .i64 (k))),(12,(.bool true))]) (λ_u=>[ah b3 (ints (OpT.mk k ((i:Nat):Int) o.to' o.key o.n o.change o.mask o.torn o.cut).flat) 30,ah c (eG n D M P) 104]) (λ_u hinv=>?_) (λtl6=>?_)));have _:=hinv;refine ac J6 (CY (ab λ_ J7=>sr λ_ J8=>PS ?_));refine FA 1 fC aQ ?_;refine LT 0 Y3 (.int .i64 (((i:Nat):Int))) ?_ (hc:=by exact bK _ rfl);refine CE Bk (rK c n i D M P hi hM) (SM [1]) ?_;refine PS ?_;refine nx J8 (CY (sr λ_ J9=>PS ?_));exact nx J9 (ai (ae (aH (ae (WK [0] (au rfl rfl ⟨rfl,rfl⟩))))));refine sr λ_ J10=>P2 ?_
 refine an ?_ ?_<;>intro h12;refine nx J10 (CY (aR ?_))
 exact aF
  SB
  (λ_ s=>ak [0,0] rfl s)
  (tl6 (():Unit) trivial)
 refine nx J10 (CN (sr λ_ J11=>P2 ?_));refine an ?_ ?_<;>intro h12;refine nx J11 (CY (aR ?_))
 exact aF
  SB
  (λ_ s=>ak [0,0] rfl s)
  (tl6 (():Unit) trivial)
 refine nx J11 (CN (sr λ_ J12=>P2 ?_));refine an ?_ ?_<;>intro h12;refine nx J12 (CY (aR ?_))
 exact aF
  SB
  (λ_ s=>ak [0,0] rfl s)
  (tl6 (():Unit) trivial)
 refine nx J12 (CN (sr λ_ J13=>P2 ?_));refine an ?_ ?_<;>intro h12;refine nx J13 (CY (aR ?_))
 exact aF
  SB
  (λ_ s=>ak [0,0] rfl s)
  (tl6 (():Unit) trivial)
 refine nx J13 (CN (ad (PS ?_)));refine an ?_ ?_<;>intro h17;refine PS ?_;refine ap ?_
 exact aF
  SB
  (λ_ s=>ak [0,0] rfl s)
  (tl6 (():Unit) trivial)
 · exact absurd h17 (by omega)
theorem DF(c n i:Nat)(D M P:Nat→Value)(hi:i<5)(d r:Nat)(s:MS LD)(hD:D i= .pointer (some ⟨d,0,none⟩))(hM:M i= .pointer (some ⟨r,0,none⟩))(W:List (List MsgT))(hW:W.length=25)(ho:s.o=[])(hs:OkR KD s)(o:OpT):
 DT 17 #[(.pointer (some ⟨c,0,none⟩)),(.agg (ints (OpT.mk 8 ((i:Nat):Int) o.to' o.key o.n o.change o.mask o.torn o.cut).flat).toArray)] T0 [ah c (eG n D M P) 104,dk d s.e.D,eu 156 208 5 n (cJ W),e6 s d r] (dm (λv H=>(s.e.D.dn=true∧v= .int .i64 4∧H=[ah c (eG n D M P) 104,dk d s.e.D,eu 156 208 5 n (cJ (W)),e6 s d r])∨(s.e.D.dn=false∧v= .int .i64 0∧H=[ah c (eG n D M P) 104,dk d (iD KD s).hush.e.D,eu 156 208 5 n (cJ (gO W i (iD KD s).o)),e6 (iD KD s).hush d r]))):=by
 refine BD 114 Tryz.func17 rfl rfl rfl λw0 F hF=>sr λ_ J1=>XY (ints (OpT.mk 8 ((i:Nat):Int) o.to' o.key o.n o.change o.mask o.torn o.cut).flat) λb3=>?_
 refine PS ?_;refine nx J1 (ab λ_ J2=>sr λ_ J3=>PS ?_);refine FA 1 fC aQ ?_;refine LT 0 Y3 (.int .i64 (((i:Nat):Int))) ?_ (hc:=by exact bK _ rfl);refine CE pH (dO c i hi) ID ?_;refine PS ?_;refine nx J3 (CN (qx J2 (ab λ_ J4=>sr λ_ J5=>FA 0 fC aQ ?_)));refine LT 0 Y3 (.int .i64 8) ?_ (hc:=by exact cU _ rfl);refine nx J5 (aq (ab λ_ J6=>sr λ_ J7=>P2 ?_));refine nx J7 (CN (sr λ_ J8=>P2 ?_));refine nx J8 (CN (sr λ_ J9=>P2 ?_));refine nx J9 (CN (sr λ_ J10=>P2 ?_));refine nx J10 (CN (ad (P2 ?_)));refine nx J6 (CN (ab λ_ J11=>sr λ_ J12=>P2 ?_));refine nx J12 (CN (sr λ_ J13=>P2 ?_));refine nx J13 (CN (ad (P2 ?_)));refine nx J11 (CN (sr λ_ J14=>P2 ?_));refine nx J14 (CY (ab λ_ J15=>sr λ_ J16=>PS ?_));refine FA 1 fC aQ ?_;refine LT 0 Y3 (.int .i64 (((i:Nat):Int))) ?_ (hc:=by exact bK _ rfl);refine CE Bk (rJ c n i D M P hi d r s.e.D hD hM) (SM [1,1]) ?_;refine aX ?_ ?_<;>intro h49;refine PS ?_;refine nx J16 (CN (qx J15 (D2 2 0 dB ?_)));refine PD 0 ?_;refine FD 1 1 fC aQ ?_;refine LX 2 Y3 (.int .i64 (((i:Nat):Int))) ?_ (hc:=by exact bK _ rfl);refine PD 3 ?_;refine FD 4 6 iB oW ?_;refine IY 5 (6+i) uD j0 ?_;refine LX 6 uE (.pointer (some ⟨r,0,none⟩)) ?_ (hc:=by exact(wM n D M P hi).trans (congrArg some hM));refine PD 7 ?_;refine FD 8 1 fC aQ ?_;refine LX 9 Y3 (.int .i64 (((i:Nat):Int))) ?_ (hc:=by exact bK _ rfl)
 refine ta 10 rfl (jR (cells:=#[(.pointer (some ⟨c,0,none⟩)),(.int .i64 (((i:Nat):Int)))]) rfl rfl (by as_aux_lemma=>kernel_rfl)) ?_;refine ta 11 rfl (o6 rfl Eb rfl rfl) ?_;refine AL 12 ?_;refine cr (H':=[cD (wF c n d i D M P hi hD W hW) r s,ah b3 (ints (OpT.mk 8 ((i:Nat):Int) o.to' o.key o.n o.change o.mask o.torn o.cut).flat) 30]) (λ_ q=>Dg ho (aC [0,0,1,1] rfl q)) (CZ NY (@CD _ (wF c n d i D M P hi hD W hW) r s hs) ID λvR=>?_);change TL _ _ _ _ _ _ _ _ _ [cD (wF c n d i D M P hi hD W hW) r (iD KD s),ah b3 (ints (OpT.mk 8 ((i:Nat):Int) o.to' o.key o.n o.change o.mask o.torn o.cut).flat) 30];refine cr (H':=[ah c (eG n D M P) 104,dk d ((iD KD s).e.D),eu 156 208 5 n (cJ (gO W i (iD KD s).o)),e6 ((iD KD s).hush) d r,ah b3 (ints (OpT.mk 8 ((i:Nat):Int) o.to' o.key o.n o.change o.mask o.torn o.cut).flat) 30]) (λ_ q=>zD (s:=(iD KD s)) q) (EN (DN (af (ac J4 (sr λ_ J17=>PS ?_)))));refine nx J17 (ai (WK [0,0,0,0] (au rfl rfl ?_)));exact .inr ⟨(by simpa using h49),rfl,rfl⟩;refine PS ?_;refine nx J16 (CY (sr λ_ J18=>PS ?_));refine nx J18 (ai (ae (aH (ae (WK [0,0,1,1] (au rfl rfl ?_))))));exact .inl ⟨(by simpa using h49),rfl,rfl⟩
theorem BU(c n i:Nat)(D M P:Nat→Value)(hi:i<5)(hM:M i= .pointer none)(o:OpT):
 DT 17 #[(.pointer (some ⟨c,0,none⟩)),(.agg (ints (OpT.mk 8 ((i:Nat):Int) o.to' o.key o.n o.change o.mask o.torn o.cut).flat).toArray)] T0 [ah c (eG n D M P) 104] (RI (.int .i64 4) [ah c (eG n D M P) 104]):=by
 refine BD 114 Tryz.func17 rfl rfl rfl λw0 F hF=>sr λ_ J1=>XY (ints (OpT.mk 8 ((i:Nat):Int) o.to' o.key o.n o.change o.mask o.torn o.cut).flat) λb3=>?_
 refine PS ?_;refine nx J1 (ab λ_ J2=>sr λ_ J3=>PS ?_);refine FA 1 fC aQ ?_;refine LT 0 Y3 (.int .i64 (((i:Nat):Int))) ?_ (hc:=by exact bK _ rfl);refine CE pH (dO c i hi) ID ?_;refine PS ?_;refine nx J3 (CN (qx J2 (ab λ_ J4=>sr λ_ J5=>FA 0 fC aQ ?_)));refine LT 0 Y3 (.int .i64 8) ?_ (hc:=by exact cU _ rfl);refine nx J5 (aq (ab λ_ J6=>sr λ_ J7=>P2 ?_));refine nx J7 (CN (sr λ_ J8=>P2 ?_));refine nx J8 (CN (sr λ_ J9=>P2 ?_));refine nx J9 (CN (sr λ_ J10=>P2 ?_));refine nx J10 (CN (ad (P2 ?_)));refine nx J6 (CN (ab λ_ J11=>sr λ_ J12=>P2 ?_));refine nx J12 (CN (sr λ_ J13=>P2 ?_));refine nx J13 (CN (ad (P2 ?_)));refine nx J11 (CN (sr λ_ J14=>P2 ?_));refine nx J14 (CY (ab λ_ J15=>sr λ_ J16=>PS ?_));refine FA 1 fC aQ ?_;refine LT 0 Y3 (.int .i64 (((i:Nat):Int))) ?_ (hc:=by exact bK _ rfl);refine CE Bk (rK c n i D M P hi hM) (SM [1]) ?_;refine PS ?_;refine nx J16 (CY (sr λ_ J17=>PS ?_));exact nx J17 (ai (ae (aH (ae (WK [0] (au rfl rfl ⟨rfl,rfl⟩))))))
theorem FG(s:MS LD)(d r:Nat)(h:s.replies.length≤1000000):DT 19 #[.pointer (some ⟨r,0,none⟩)] T0 [e6 s d r] (dm λv H=>∃u,v=u∧H=[e6 s d r,mi u s.replies]):=
 Leg.Does.pack (B:=[]) λa=>Leg.Does.withinR (A:=[ah r (RepT.cells (s.rep a)) 123,mi a.rs s.replies]) (B:=[EO a.lg d ((s.e.cnt:Nat):Int) s.e.used,Ed a.vo s.vote]) (zl r (s.rep a) s.replies h) (λ_ _ _ _=>trivial) (λ_ q=>aC [0,1,0,0] rfl q) λv H hp=>by
  obtain⟨u,rfl,rfl⟩:=hp;exact⟨_,λ_ q=>bj (p:=Fz s d r) (H:=[mi v s.replies]) a (aC [0,2,0,1,0] rfl q),v,rfl,rfl⟩
theorem C8(c n i:Nat)(D M P:Nat→Value)(hi:i<5)(hM:M i= .pointer none)(pl:List ReplyT)(hpl:pl.length≤100000):
 DT 15 #[(.pointer (some ⟨c,0,none⟩)),(.int .i64 (((i:Nat):Int)))] T0 [ah c (eG n D M P) 104,own (P i) ((pl).length) (ints (List.flatMap ReplyT.flat (pl))) 37 3] (dm (λv H=>∃u,u.oneCell'=true∧v=u∧H=[ah c (eG n D M P) 104,mi (P i) pl,mi u pl])):=by
 refine BD 34 Tryz.func15 rfl rfl rfl λw0 F hF=>sr λ_ J1=>PS ?_
 refine nx J1 (ab λ_ J2=>sr λ_ J3=>P2 ?_);refine CE pH (dO c i hi) ID ?_;refine PS ?_;refine nx J3 (CN (qx J2 (sr λ_ J4=>P3 ?_)));refine FA 11 iB Ei ?_;refine IX (11+i) Jz xh ?_;refine LT 0 IG (P i) ?_ (hc:=by exact M1 n D M P hi);refine M8 37 3 (λ_=>cH (k:=0) (news:=ints (List.flatMap ReplyT.flat (pl))) (nn':=(pl).length) (xs':=ints (List.flatMap ReplyT.flat (pl))) (aa rfl) rfl rfl rfl IG Gj rfl rfl rfl rfl rfl rfl (λ_ s=>OF 2 rfl rfl s) (bw _) (by simp only[maxLen];omega) (by omega) (by simp) (by simp) (λv16 ov16=>PS ?_));refine nx J4 (ab λ_ J5=>sr λ_ J6=>P3 ?_);refine FA 6 iB oW ?_;refine IX (6+i) uD j0 ?_;refine LT 1 uE (.pointer none) ?_ (hc:=by exact(wM n D M P hi).trans (congrArg some hM));refine tp (gJ rfl uE rfl rfl) ?_;refine nx J6 (CN (qx J5 (sr λ_ J7=>P2 ?_)));exact nx J7 (ai (WK [1,1,0] (au rfl rfl ⟨_,ov16,rfl,rfl⟩)))
theorem C7(c n i:Nat)(D M P:Nat→Value)(hi:i<5)(d:Nat)(r:Nat)(s:MS LD)(hM:M i= .pointer (some ⟨r,0,none⟩))(pl:List ReplyT)(hpl:pl.length≤100000)(hrs:s.replies.length≤100000):
 DT 15 #[(.pointer (some ⟨c,0,none⟩)),(.int .i64 (((i:Nat):Int)))] T0 [ah c (eG n D M P) 104,own (P i) ((pl).length) (ints (List.flatMap ReplyT.flat (pl))) 37 3,e6 s d r] (dm (λv H=>∃u,u.oneCell'=true∧v=u∧H=[ah c (eG n D M P) 104,mi (P i) pl,e6 s d r,mi u (pl++s.replies)])):=by
 refine BD 34 Tryz.func15 rfl rfl rfl λw0 F hF=>sr λ_ J1=>PS ?_
 refine nx J1 (ab λ_ J2=>sr λ_ J3=>P2 ?_);refine CE pH (dO c i hi) ID ?_;refine PS ?_;refine nx J3 (CN (qx J2 (sr λ_ J4=>P3 ?_)));refine FA 11 iB Ei ?_;refine IX (11+i) Jz xh ?_;refine LT 0 IG (P i) ?_ (hc:=by exact M1 n D M P hi);refine M8 37 3 (λ_=>cH (k:=0) (news:=ints (List.flatMap ReplyT.flat (pl))) (nn':=(pl).length) (xs':=ints (List.flatMap ReplyT.flat (pl))) (aa rfl) rfl rfl rfl IG Gj rfl rfl rfl rfl rfl rfl (λ_ s=>OF 2 rfl rfl s) (bw _) (by simp only[maxLen];omega) (by omega) (by simp) (by simp) (λv16 ov16=>PS ?_));refine nx J4 (ab λ_ J5=>sr λ_ J6=>P3 ?_);refine FA 6 iB oW ?_;refine IX (6+i) uD j0 ?_;refine LT 1 uE (.pointer (some ⟨r,0,none⟩)) ?_ (hc:=by exact(wM n D M P hi).trans (congrArg some hM));refine tp (fS rfl uE rfl rfl) ?_;refine nx J6 (CY (ad (P4 ?_)));refine FA 6 iB oW ?_;refine IX (6+i) uD j0 ?_;refine LT 1 uE (.pointer (some ⟨r,0,none⟩)) ?_ (hc:=by exact(wM n D M P hi).trans (congrArg some hM));refine CR N9 (FG s d r (by omega)) (SM [3]) λvR HR hR=>?_
 obtain⟨_,rfl,rfl⟩:=hR;revert vR;intro ur;refine cH (k:=2) (news:=ints (List.flatMap ReplyT.flat (s.replies))) (nn':=(pl++s.replies).length) (xs':=ints (List.flatMap ReplyT.flat (pl++s.replies))) (aa rfl) rfl rfl rfl IG Gj rfl rfl rfl rfl rfl rfl (λ_ s=>OF 1 rfl rfl s) (bw _) (by simp only[maxLen];omega) (by omega) (by rw[aj]) (by simp[ints]) (λv32 ov32=>PS ?_);refine nx J5 (sr λ_ J7=>P2 ?_);exact nx J7 (ai (WK [3,3,0,1] (au rfl rfl ⟨_,ov32,rfl,rfl⟩)))
theorem DM(c n i:Nat)(D M P:Nat→Value)(hi:i<5)(d:Nat)(hD:D i= .pointer (some ⟨d,0,none⟩))(e:DS)(o:OpT):
 DT 17 #[(.pointer (some ⟨c,0,none⟩)),(.agg (ints (OpT.mk 9 ((i:Nat):Int) o.to' o.key o.n o.change o.mask o.torn o.cut).flat).toArray)] T0 [ah c (eG n D M P) 104,dk d e] (RI (.int .i64 0) [ah c (eG n D M P) 104,dk d (e.arm o.n)]):=by
 refine BD 114 Tryz.func17 rfl rfl rfl λw0 F hF=>sr λ_ J1=>XY (ints (OpT.mk 9 ((i:Nat):Int) o.to' o.key o.n o.change o.mask o.torn o.cut).flat) λb3=>?_
 refine PS ?_;refine nx J1 (ab λ_ J2=>sr λ_ J3=>PS ?_);refine FA 1 fC aQ ?_;refine LT 0 Y3 (.int .i64 (((i:Nat):Int))) ?_ (hc:=by exact bK _ rfl);refine CE pH (dO c i hi) ID ?_;refine PS ?_;refine nx J3 (CN (qx J2 (ab λ_ J4=>sr λ_ J5=>FA 0 fC aQ ?_)));refine LT 0 Y3 (.int .i64 9) ?_ (hc:=by exact cU _ rfl);refine nx J5 (aq (ab λ_ J6=>sr λ_ J7=>P2 ?_));refine nx J7 (CN (sr λ_ J8=>P2 ?_));refine nx J8 (CN (sr λ_ J9=>P2 ?_));refine nx J9 (CN (sr λ_ J10=>P2 ?_));refine nx J10 (CN (ad (P2 ?_)));refine nx J6 (CN (ab λ_ J11=>sr λ_ J12=>P2 ?_));refine nx J12 (CN (sr λ_ J13=>P2 ?_));refine nx J13 (CN (ad (P2 ?_)));refine nx J11 (CN (sr λ_ J14=>P2 ?_));refine nx J14 (CN (sr λ_ J15=>P2 ?_));refine nx J15 (CY (D2 0 1 dB ?_));refine PD 0 ?_;refine FD 1 1 fC aQ ?_;refine LX 2 Y3 (.int .i64 (((i:Nat):Int))) ?_ (hc:=by exact bK _ rfl);refine PD 3 ?_;refine FD 4 1 iB rP ?_;refine IY 5 (1+i) Ai oM ?_;refine LX 6 sM (.pointer (some ⟨d,0,none⟩)) ?_ (hc:=by exact(B5 n D M P hi).trans (congrArg some hD));refine FD 7 4 fC aQ ?_;refine LX 8 Y3 (.int .i64 (o.n)) ?_ (hc:=by exact w7 _ rfl);refine AL 9 ?_;refine CR NX (Lh d e o.n) (SM [2]) λvR HR hR=>?_
 obtain⟨_,rfl⟩:=hR;refine EN (DN (af (ac J4 (sr λ_ J16=>PS ?_))));exact nx J16 (ai (WK [2,0] (au rfl rfl ⟨rfl,rfl⟩)))
theorem DI(c n i:Nat)(D M P:Nat→Value)(hi:i<5)(d:Nat)(hD:D i= .pointer (some ⟨d,0,none⟩))(r:Nat)(s:MS LD)(hM:M i= .pointer (some ⟨r,0,none⟩))(pl:List ReplyT)(hpl:pl.length≤100000)(hrs:s.replies.length≤100000)(e:DS)(hok:e.Ok)(o:OpT):
 DT 17 #[(.pointer (some ⟨c,0,none⟩)),(.agg (ints (OpT.mk 10 ((i:Nat):Int) o.to' o.key o.n o.change o.mask o.torn o.cut).flat).toArray)] T0 [ah c (eG n D M P) 104,dk d e,own (P i) ((pl).length) (ints (List.flatMap ReplyT.flat (pl))) 37 3,e6 s d r] (dm (λv H=>∃u,u.oneCell'=true∧v= .int .i64 0∧H=[ah c (eG n D (kL M i (.pointer none)) (kL P i u)) 104,dk d (e.crash o.mask o.torn o.cut),mi u (pl++s.replies)])):=by
 refine BD 114 Tryz.func17 rfl rfl rfl λw0 F hF=>sr λ_ J1=>XY (ints (OpT.mk 10 ((i:Nat):Int) o.to' o.key o.n o.change o.mask o.torn o.cut).flat) λb3=>?_
 refine PS ?_;refine nx J1 (ab λ_ J2=>sr λ_ J3=>PS ?_);refine FA 1 fC aQ ?_;refine LT 0 Y3 (.int .i64 (((i:Nat):Int))) ?_ (hc:=by exact bK _ rfl);refine CE pH (dO c i hi) ID ?_;refine PS ?_;refine nx J3 (CN (qx J2 (ab λ_ J4=>sr λ_ J5=>FA 0 fC aQ ?_)));refine LT 0 Y3 (.int .i64 10) ?_ (hc:=by exact cU _ rfl);refine nx J5 (aq (ab λ_ J6=>sr λ_ J7=>P2 ?_));refine nx J7 (CN (sr λ_ J8=>P2 ?_));refine nx J8 (CN (sr λ_ J9=>P2 ?_));refine nx J9 (CN (sr λ_ J10=>P2 ?_));refine nx J10 (CN (ad (P2 ?_)));refine nx J6 (CN (ab λ_ J11=>sr λ_ J12=>P2 ?_));refine nx J12 (CN (sr λ_ J13=>P2 ?_));refine nx J13 (CN (ad (P2 ?_)));refine nx J11 (CN (sr λ_ J14=>P2 ?_));refine nx J14 (CN (sr λ_ J15=>P2 ?_));refine nx J15 (CN (sr λ_ J16=>P2 ?_));refine nx J16 (CY (ab λ_ J17=>D1 0 dB ?_));refine PD 0 ?_;refine FD 1 1 fC aQ ?_;refine LX 2 Y3 (.int .i64 (((i:Nat):Int))) ?_ (hc:=by exact bK _ rfl);refine PD 3 ?_;refine FD 4 1 fC aQ ?_;refine LX 5 Y3 (.int .i64 (((i:Nat):Int))) ?_ (hc:=by exact bK _ rfl);refine PD 7 ?_;refine FD 8 11 iB Ei ?_;refine AL 6 ?_;refine CR Mx (C7 c n i D M P hi d r s hM pl hpl hrs) (SM [1,2,2]) λvR HR hR=>?_
 obtain⟨_,huc,rfl,rfl⟩:=hR;revert vR;intro uc huc;refine EN (IY 9 (11+i) Jz xh ?_);refine AL 10 ?_;refine bD (i:=0) (aa rfl) rfl rfl rfl rfl huc xh rfl rfl (by rw[ra];omega) (EX n D M P uc hi) rfl (EN (DN (ac J17 (ab λ_ J18=>D1 4 dB ?_))));refine PD 0 ?_;refine FD 1 1 fC aQ ?_;refine LX 2 Y3 (.int .i64 (((i:Nat):Int))) ?_ (hc:=by exact bK _ rfl);refine PD 3 ?_;refine FD 4 6 iB oW ?_;refine IY 5 (6+i) uD j0 ?_;refine AL 6 ?_;refine bD (i:=0) (aa rfl) rfl rfl rfl rfl rfl j0 rfl rfl (by rw[ra];omega) (uQ n D M (kL P i uc) (.pointer none) hi) rfl (EN (DN (ac J18 (D2 4 0 dB ?_))));refine PD 0 ?_;refine FD 1 1 fC aQ ?_;refine LX 2 Y3 (.int .i64 (((i:Nat):Int))) ?_ (hc:=by exact bK _ rfl);refine PD 3 ?_;refine FD 4 1 iB rP ?_;refine IY 5 (1+i) Ai oM ?_;refine LX 6 sM (.pointer (some ⟨d,0,none⟩)) ?_ (hc:=by exact(B5 n D (kL M i (.pointer none)) (kL P i uc) hi).trans (congrArg some hD));refine FD 7 8 fC aQ ?_;refine LX 8 Y3 (.int .i64 (o.mask)) ?_ (hc:=by exact OpT.at_mask _ rfl);refine FD 9 9 fC aQ ?_;refine LX 10 Y3 (.int .i64 (o.torn)) ?_ (hc:=by exact OpT.at_torn _ rfl);refine FD 11 10 fC aQ ?_;refine LX 12 Y3 (.int .i64 (o.cut)) ?_ (hc:=by exact OpT.at_cut _ rfl);refine AL 13 ?_;refine CR L7 (BY d e o.mask o.torn o.cut hok) (SM [5]) λvR HR hR=>?_
 obtain⟨_,rfl⟩:=hR;refine EN (DN (af (ac J4 (sr λ_ J19=>PS ?_))));exact nx J19 (ai (WK [1,0,2] (au rfl rfl ⟨uc,huc,rfl,rfl⟩)))
theorem DJ(c n i:Nat)(D M P:Nat→Value)(hi:i<5)(d:Nat)(hD:D i= .pointer (some ⟨d,0,none⟩))(hM:M i= .pointer none)(pl:List ReplyT)(hpl:pl.length≤100000)(e:DS)(hok:e.Ok)(o:OpT):
 DT 17 #[(.pointer (some ⟨c,0,none⟩)),(.agg (ints (OpT.mk 10 ((i:Nat):Int) o.to' o.key o.n o.change o.mask o.torn o.cut).flat).toArray)] T0 [ah c (eG n D M P) 104,dk d e,own (P i) ((pl).length) (ints (List.flatMap ReplyT.flat (pl))) 37 3] (dm (λv H=>∃u,u.oneCell'=true∧v= .int .i64 0∧H=[ah c (eG n D (kL M i (.pointer none)) (kL P i u)) 104,dk d (e.crash o.mask o.torn o.cut),mi u pl])):=by
 refine BD 114 Tryz.func17 rfl rfl rfl λw0 F hF=>sr λ_ J1=>XY (ints (OpT.mk 10 ((i:Nat):Int) o.to' o.key o.n o.change o.mask o.torn o.cut).flat) λb3=>?_
 refine PS ?_;refine nx J1 (ab λ_ J2=>sr λ_ J3=>PS ?_);refine FA 1 fC aQ ?_;refine LT 0 Y3 (.int .i64 (((i:Nat):Int))) ?_ (hc:=by exact bK _ rfl);refine CE pH (dO c i hi) ID ?_;refine PS ?_;refine nx J3 (CN (qx J2 (ab λ_ J4=>sr λ_ J5=>FA 0 fC aQ ?_)));refine LT 0 Y3 (.int .i64 10) ?_ (hc:=by exact cU _ rfl);refine nx J5 (aq (ab λ_ J6=>sr λ_ J7=>P2 ?_));refine nx J7 (CN (sr λ_ J8=>P2 ?_));refine nx J8 (CN (sr λ_ J9=>P2 ?_));refine nx J9 (CN (sr λ_ J10=>P2 ?_));refine nx J10 (CN (ad (P2 ?_)));refine nx J6 (CN (ab λ_ J11=>sr λ_ J12=>P2 ?_));refine nx J12 (CN (sr λ_ J13=>P2 ?_));refine nx J13 (CN (ad (P2 ?_)));refine nx J11 (CN (sr λ_ J14=>P2 ?_));refine nx J14 (CN (sr λ_ J15=>P2 ?_));refine nx J15 (CN (sr λ_ J16=>P2 ?_));refine nx J16 (CY (ab λ_ J17=>D1 0 dB ?_));refine PD 0 ?_;refine FD 1 1 fC aQ ?_;refine LX 2 Y3 (.int .i64 (((i:Nat):Int))) ?_ (hc:=by exact bK _ rfl);refine PD 3 ?_;refine FD 4 1 fC aQ ?_;refine LX 5 Y3 (.int .i64 (((i:Nat):Int))) ?_ (hc:=by exact bK _ rfl);refine PD 7 ?_;refine FD 8 11 iB Ei ?_;refine AL 6 ?_;refine CR Mx (C8 c n i D M P hi hM pl hpl) (SM [1,2]) λvR HR hR=>?_
 obtain⟨_,huc,rfl,rfl⟩:=hR;revert vR;intro uc huc;refine EN (IY 9 (11+i) Jz xh ?_);refine AL 10 ?_;refine bD (i:=0) (aa rfl) rfl rfl rfl rfl huc xh rfl rfl (by rw[ra];omega) (EX n D M P uc hi) rfl (EN (DN (ac J17 (ab λ_ J18=>D1 3 dB ?_))));refine PD 0 ?_;refine FD 1 1 fC aQ ?_;refine LX 2 Y3 (.int .i64 (((i:Nat):Int))) ?_ (hc:=by exact bK _ rfl);refine PD 3 ?_;refine FD 4 6 iB oW ?_;refine IY 5 (6+i) uD j0 ?_;refine AL 6 ?_;refine bD (i:=0) (aa rfl) rfl rfl rfl rfl rfl j0 rfl rfl (by rw[ra];omega) (uQ n D M (kL P i uc) (.pointer none) hi) rfl (EN (DN (ac J18 (D2 3 0 dB ?_))));refine PD 0 ?_;refine FD 1 1 fC aQ ?_;refine LX 2 Y3 (.int .i64 (((i:Nat):Int))) ?_ (hc:=by exact bK _ rfl);refine PD 3 ?_;refine FD 4 1 iB rP ?_;refine IY 5 (1+i) Ai oM ?_;refine LX 6 sM (.pointer (some ⟨d,0,none⟩)) ?_ (hc:=by exact(B5 n D (kL M i (.pointer none)) (kL P i uc) hi).trans (congrArg some hD));refine FD 7 8 fC aQ ?_;refine LX 8 Y3 (.int .i64 (o.mask)) ?_ (hc:=by exact OpT.at_mask _ rfl);refine FD 9 9 fC aQ ?_;refine LX 10 Y3 (.int .i64 (o.torn)) ?_ (hc:=by exact OpT.at_torn _ rfl);refine FD 11 10 fC aQ ?_;refine LX 12 Y3 (.int .i64 (o.cut)) ?_ (hc:=by exact OpT.at_cut _ rfl);refine AL 13 ?_;refine CR L7 (BY d e o.mask o.torn o.cut hok) (SM [4]) λvR HR hR=>?_
 obtain⟨_,rfl⟩:=hR;refine EN (DN (af (ac J4 (sr λ_ J19=>PS ?_))));exact nx J19 (ai (WK [1,0,1] (au rfl rfl ⟨uc,huc,rfl,rfl⟩)))
theorem IW{s:MS LD}{lg d r:Nat}{e:LD}{i:Int}(f:Fresh i e s){H:List HP}{h:Hl}(q:bE (Cs lg r s::EO lg d ((e.cnt:Nat):Int) e.used::H) h):bE (e6 s d r::H) h:=by
 obtain⟨_,q⟩:=fo (p:=λ_:Unit=>[ah r (RepT.cells (s.rep ⟨lg, .pointer none, .slice none 0 0⟩)) 123]) q;refine bj (p:=Fz s d r) ⟨lg, .pointer none, .slice none 0 0⟩ ?_;have q2:=gC 37 3 q;have q3:bE (Ed (.pointer none) (none:Option VoteT)::own (.slice none 0 0) 0 [] 37 3::ah r (RepT.cells (s.rep ⟨lg, .pointer none, .slice none 0 0⟩)) 123::EO lg d ((e.cnt:Nat):Int) e.used::H) h:=⟨em,h,Cn h,(qq h).symm,rfl,q2⟩;have q4:=aC [2,2,1,0] rfl q3;simp only[Fz,f.e,f.replies,f.vote];exact q4
theorem pw(i d:Nat)(e:DS)(hok:DkOk e):DT 55 #[.int .i64 ((i:Nat):Int), .pointer (some ⟨d,0,none⟩)] T0 [dk d e] (dm (λv H=>((cY i e).1=none∧(cY i e).2≠0∧v= .tuple #[.pointer none, .int .i64 (cY i e).2]∧H=[dk d (bL e).D])∨∃s r,(cY i e).1=some s∧v= .tuple #[.pointer (some ⟨r,0,none⟩), .int .i64 0]∧H=[e6 s d r,dk d s.e.D])):=
 Leg.Does.fold (AN (⟨(bL e).recs.length,(bL e).used,(bL e).D⟩:LD) ((i:Nat):Int) d e hok.ok hok.inn (by have:=hok.ws;omega)) λx H hp=>by
  cases x with
  |returned v=>
   unfold cY;rcases hp with⟨he,rfl,rfl⟩| ⟨he,⟨hn,rfl,rfl⟩| ⟨s,r,lg,hn,rfl,rfl⟩⟩
   · rw[if_pos he];exact⟨_,λ_ q=>q, .inl ⟨rfl,he,rfl,rfl⟩⟩
   · rw[if_neg (by rw[he];decide),hn];exact⟨_,λ_ q=>q, .inl ⟨rfl,(by decide),rfl,rfl⟩⟩
   · rw[if_neg (by rw[he];decide),hn]
     have f:=Fresh.read _ (Fresh.new _ _) hn;refine⟨[e6 s d r,dk d s.e.D],λ_ q=>IW (lg:=lg) f ?_, .inr ⟨s,r,rfl,rfl,rfl⟩⟩;rw[f.e];exact q
  |panicked c=>exact hp.elim
  |outgrown=>exact hp.elim
theorem AM(c n i:Nat)(D M P:Nat→Value)(hi:i<5)(d:Nat)(hD:D i= .pointer (some ⟨d,0,none⟩))(hM:M i= .pointer none)(e:DS)(hok:DkOk e):
 DT 63 #[(.pointer (some ⟨c,0,none⟩)),(.int .i64 (((i:Nat):Int)))] T0 [ah c (eG n D M P) 104,dk d e] (dm (λv H=>((cY i e).1=none∧v= .int .i64 (cY i e).2∧H=[ah c (eG n D M P) 104,dk d (bL e).D])∨∃s r,(cY i e).1=some s∧v= .int .i64 0∧H=[ah c (eG n D (kL M i (.pointer (some ⟨r,0,none⟩))) P) 104,e6 s d r,dk d s.e.D])):=by
 refine BD 34 Tryz.func63 rfl rfl rfl λw0 F hF=>sr λ_ J1=>PS ?_
 refine nx J1 (ab λ_ J2=>sr λ_ J3=>P3 ?_);refine FA 6 iB oW ?_;refine IX (6+i) uD j0 ?_;refine LT 0 uE (.pointer none) ?_ (hc:=by exact(wM n D M P hi).trans (congrArg some hM));refine tp (gJ rfl uE rfl rfl) ?_;refine nx J3 (CN (qx J2 (sr λ_ J4=>P4 ?_)));refine FA 1 iB rP ?_;refine IX (1+i) Ai oM ?_;refine LT 0 sM (.pointer (some ⟨d,0,none⟩)) ?_ (hc:=by exact(B5 n D M P hi).trans (congrArg some hD));refine CR KS (pw i d e hok) (SM [1]) λvR HR hR=>?_
 rcases hR with⟨hn,h0,rfl,rfl⟩| ⟨s,r,hn,rfl,rfl⟩
 refine P4 ?_;refine PS ?_;refine nx J4 (ab λ_ J5=>sr λ_ J6=>P2 ?_);refine an ?_ ?_<;>intro h26
 · exact absurd h26 h0
 refine nx J6 (CN (qx J5 (sr λ_ J7=>P2 ?_)));exact nx J7 (ai (WK [1,0] (au rfl rfl (.inl ⟨hn,rfl,rfl⟩))));refine P4 ?_;refine PS ?_;refine nx J4 (ab λ_ J8=>sr λ_ J9=>P2 ?_);refine nx J9 (CY (ad (P4 ?_)));refine FA 6 iB oW ?_;refine IX (6+i) uD j0 ?_;refine bD (i:=2) (aa rfl) rfl rfl rfl rfl rfl j0 rfl rfl (by rw[ra];omega) (uQ n D M P (.pointer (some ⟨r,0,none⟩)) hi) rfl (nx J8 (sr λ_ J10=>P2 ?_));exact nx J10 (ai (WK [2,0,0] (au rfl rfl (.inr ⟨s,r,hn,rfl,rfl⟩))))
theorem AK(c n i:Nat)(D M P:Nat→Value)(hi:i<5)(r:Nat)(hM:M i= .pointer (some ⟨r,0,none⟩)):
 DT 63 #[(.pointer (some ⟨c,0,none⟩)),(.int .i64 (((i:Nat):Int)))] T0 [ah c (eG n D M P) 104] (RI (.int .i64 5) [ah c (eG n D M P) 104]):=by
 refine BD 34 Tryz.func63 rfl rfl rfl λw0 F hF=>sr λ_ J1=>PS ?_
 refine nx J1 (ab λ_ J2=>sr λ_ J3=>P3 ?_);refine FA 6 iB oW ?_;refine IX (6+i) uD j0 ?_;refine LT 0 uE (.pointer (some ⟨r,0,none⟩)) ?_ (hc:=by exact(wM n D M P hi).trans (congrArg some hM));refine tp (fS rfl uE rfl rfl) ?_;refine nx J3 (CY (sr λ_ J4=>PS ?_));exact nx J4 (ai (ae (WK [0] (au rfl rfl ⟨rfl,rfl⟩))))
theorem DH(c n i:Nat)(D M P:Nat→Value)(hi:i<5)(d:Nat)(hD:D i= .pointer (some ⟨d,0,none⟩))(hM:M i= .pointer none)(e:DS)(hok:DkOk e)(o:OpT):
 DT 17 #[(.pointer (some ⟨c,0,none⟩)),(.agg (ints (OpT.mk 11 ((i:Nat):Int) o.to' o.key o.n o.change o.mask o.torn o.cut).flat).toArray)] T0 [ah c (eG n D M P) 104,dk d e] (dm (λv H=>((cY i e).1=none∧v= .int .i64 (cY i e).2∧H=[ah c (eG n D M P) 104,dk d (bL e).D])∨∃s r,(cY i e).1=some s∧v= .int .i64 0∧H=[ah c (eG n D (kL M i (.pointer (some ⟨r,0,none⟩))) P) 104,e6 s d r,dk d s.e.D])):=by
 refine BD 114 Tryz.func17 rfl rfl rfl λw0 F hF=>sr λ_ J1=>XY (ints (OpT.mk 11 ((i:Nat):Int) o.to' o.key o.n o.change o.mask o.torn o.cut).flat) λb3=>?_
 refine PS ?_;refine nx J1 (ab λ_ J2=>sr λ_ J3=>PS ?_);refine FA 1 fC aQ ?_;refine LT 0 Y3 (.int .i64 (((i:Nat):Int))) ?_ (hc:=by exact bK _ rfl);refine CE pH (dO c i hi) ID ?_;refine PS ?_;refine nx J3 (CN (qx J2 (ab λ_ J4=>sr λ_ J5=>FA 0 fC aQ ?_)));refine LT 0 Y3 (.int .i64 11) ?_ (hc:=by exact cU _ rfl);refine nx J5 (aq (ab λ_ J6=>sr λ_ J7=>P2 ?_));refine nx J7 (CN (sr λ_ J8=>P2 ?_));refine nx J8 (CN (sr λ_ J9=>P2 ?_));refine nx J9 (CN (sr λ_ J10=>P2 ?_));refine nx J10 (CN (ad (P2 ?_)));refine nx J6 (CN (ab λ_ J11=>sr λ_ J12=>P2 ?_));refine nx J12 (CN (sr λ_ J13=>P2 ?_));refine nx J13 (CN (ad (P2 ?_)));refine nx J11 (CN (sr λ_ J14=>P2 ?_));refine nx J14 (CN (sr λ_ J15=>P2 ?_));refine nx J15 (CN (sr λ_ J16=>P2 ?_));refine nx J16 (CN (sr λ_ J17=>P2 ?_));refine nx J17 (CY (sr λ_ J18=>PS ?_));refine FA 1 fC aQ ?_;refine LT 0 Y3 (.int .i64 (((i:Nat):Int))) ?_ (hc:=by exact bK _ rfl);refine CR L6 (AM c n i D M P hi d hD hM e hok) (SM [1,1]) λvR HR hR=>?_
 rcases hR with⟨hn,rfl,rfl⟩| ⟨s,r,hn,rfl,rfl⟩
 refine PS ?_;exact nx J18 (ai (aH (ae (WK [0,0] (au rfl rfl (.inl ⟨hn,rfl,rfl⟩))))));refine PS ?_;exact nx J18 (ai (aH (ae (WK [0,0,0] (au rfl rfl (.inr ⟨s,r,hn,rfl,rfl⟩))))))
theorem DG(c n i:Nat)(D M P:Nat→Value)(hi:i<5)(r:Nat)(hM:M i= .pointer (some ⟨r,0,none⟩))(o:OpT):
 DT 17 #[(.pointer (some ⟨c,0,none⟩)),(.agg (ints (OpT.mk 11 ((i:Nat):Int) o.to' o.key o.n o.change o.mask o.torn o.cut).flat).toArray)] T0 [ah c (eG n D M P) 104] (RI (.int .i64 5) [ah c (eG n D M P) 104]):=by
 refine BD 114 Tryz.func17 rfl rfl rfl λw0 F hF=>sr λ_ J1=>XY (ints (OpT.mk 11 ((i:Nat):Int) o.to' o.key o.n o.change o.mask o.torn o.cut).flat) λb3=>?_
 refine PS ?_;refine nx J1 (ab λ_ J2=>sr λ_ J3=>PS ?_);refine FA 1 fC aQ ?_;refine LT 0 Y3 (.int .i64 (((i:Nat):Int))) ?_ (hc:=by exact bK _ rfl);refine CE pH (dO c i hi) ID ?_;refine PS ?_;refine nx J3 (CN (qx J2 (ab λ_ J4=>sr λ_ J5=>FA 0 fC aQ ?_)));refine LT 0 Y3 (.int .i64 11) ?_ (hc:=by exact cU _ rfl);refine nx J5 (aq (ab λ_ J6=>sr λ_ J7=>P2 ?_));refine nx J7 (CN (sr λ_ J8=>P2 ?_));refine nx J8 (CN (sr λ_ J9=>P2 ?_));refine nx J9 (CN (sr λ_ J10=>P2 ?_));refine nx J10 (CN (ad (P2 ?_)));refine nx J6 (CN (ab λ_ J11=>sr λ_ J12=>P2 ?_));refine nx J12 (CN (sr λ_ J13=>P2 ?_));refine nx J13 (CN (ad (P2 ?_)));refine nx J11 (CN (sr λ_ J14=>P2 ?_));refine nx J14 (CN (sr λ_ J15=>P2 ?_));refine nx J15 (CN (sr λ_ J16=>P2 ?_));refine nx J16 (CN (sr λ_ J17=>P2 ?_));refine nx J17 (CY (sr λ_ J18=>PS ?_));refine FA 1 fC aQ ?_;refine LT 0 Y3 (.int .i64 (((i:Nat):Int))) ?_ (hc:=by exact bK _ rfl);refine CE L6 (AK c n i D M P hi r hM) (SM [1]) ?_;refine PS ?_;exact nx J18 (ai (aH (ae (WK [0] (au rfl rfl ⟨rfl,rfl⟩)))))
theorem Av(c n i:Nat)(D M P:Nat→Value)(hi:i<5)(to' k:Int)(o:OpT)(hv:dG ((i:Nat):Int) to'=false)(bs:List Nat):
 DT 59 #[(.pointer (some ⟨c,0,none⟩)),(.agg (ints (OpT.mk k ((i:Nat):Int) to' o.key o.n o.change o.mask o.torn o.cut).flat).toArray)] T0 [ah c (eG n D M P) 104,ah n (dv bs) 156] (RI (.int .i64 5) [ah c (eG n D M P) 104,ah n (dv bs) 156]):=by
 refine BD 91 Tryz.func59 rfl rfl rfl λw0 F hF=>sr λ_ J1=>XY (ints (OpT.mk k ((i:Nat):Int) to' o.key o.n o.change o.mask o.torn o.cut).flat) λb3=>?_
 refine PS ?_;refine nx J1 (ab λ_ J2=>D2 0 1 dB ?_);refine PD 0 ?_;refine PD 1 ?_;refine FD 2 0 iB y8 ?_;refine LX 3 Im (.pointer (some ⟨n,0,none⟩)) ?_ (hc:=by exact zX n D M P);refine FD 4 1 fC aQ ?_;refine LX 5 Y3 (.int .i64 (((i:Nat):Int))) ?_ (hc:=by exact bK _ rfl);refine FD 6 2 fC aQ ?_;refine LX 7 Y3 (.int .i64 (to')) ?_ (hc:=by exact il _ rfl);refine AL 8 ?_;refine CR Df (mD n bs ((i:Nat):Int) to') (SM [2]) λvR HR hR=>?_
 obtain⟨hw,rfl⟩:=hR;obtain⟨_,rfl⟩:dG ((i:Nat):Int) to'=false∧vR= .pointer none:=hw.resolve_left (λq=>by rw[hv]at q;cases q.1);refine EN (PD 9 ?_);refine DN (ac J2 (ab λ_ J3=>sr λ_ J4=>PS ?_));refine tp (Is rfl w4 rfl rfl) ?_;refine nx J4 (CY (sr λ_ J5=>PS ?_));exact nx J5 (ai (ae (WK [2,0] (au rfl rfl ⟨rfl,rfl⟩))))
theorem pj{n i j:Nat}{bs:List Nat}{W:List (List MsgT)}{l:List MsgT}{H:List HP}{h:Hl}(hv:dG ((i:Nat):Int) ((j:Nat):Int)=true)(hW:W.length=25)(q:bE (gF 208 5 (bs.getD (bB ((i:Nat):Int) ((j:Nat):Int)) 0) (List.map (kl (bB ((i:Nat):Int) ((j:Nat):Int))) l)::fp 208 5 bs (cJ W) (bB ((i:Nat):Int) ((j:Nat):Int))::ah n (dv bs) 156::H) h):bE (eu 156 208 5 n (cJ (W.set (bB ((i:Nat):Int) ((j:Nat):Int)) l))::H) h:=by
 have q2:=sV hv (pm W) q;rw[u7 W (ig hv).1 hW]at q2;exact bj (p:=λbs:List Nat=>[ah n (dv bs) 156,eH 208 5 bs (cJ (W.set (bB ((i:Nat):Int) ((j:Nat):Int)) l))]) bs (eg (List.Perm.swap _ _ _) q2)
theorem yT(c n i:Nat)(D M P:Nat→Value)(hi:i<5)(j:Nat)(hj:j<5)(hv:dG ((i:Nat):Int) ((j:Nat):Int)=true)(W:List (List MsgT))(hW:W.length=25)(l:List MsgT)(hl:W.getD (bB ((i:Nat):Int) ((j:Nat):Int)) []=l)(h8:l.length≤8)(hlen: ∀m∈l,0< (dX m).length)(o:OpT)(k:Int)(hn:l=[])(bs:List Nat):
 DT 59 #[(.pointer (some ⟨c,0,none⟩)),(.agg (ints (OpT.mk k ((i:Nat):Int) ((j:Nat):Int) o.key o.n o.change o.mask o.torn o.cut).flat).toArray)] T0 [ah n (dv bs) 156,eH 208 5 bs (cJ W),ah c (eG n D M P) 104] (RI (.int .i64 10) [ah c (eG n D M P) 104,eu 156 208 5 n (cJ (W.set (bB ((i:Nat):Int) ((j:Nat):Int)) l))]):=by
 refine BD 91 Tryz.func59 rfl rfl rfl λw0 F hF=>sr λ_ J1=>XY (ints (OpT.mk k ((i:Nat):Int) ((j:Nat):Int) o.key o.n o.change o.mask o.torn o.cut).flat) λb3=>?_
 refine PS ?_;refine nx J1 (ab λ_ J2=>D2 0 3 dB ?_);refine PD 0 ?_;refine PD 1 ?_;refine FD 2 0 iB y8 ?_;refine LX 3 Im (.pointer (some ⟨n,0,none⟩)) ?_ (hc:=by exact zX n D M P);refine FD 4 1 fC aQ ?_;refine LX 5 Y3 (.int .i64 (((i:Nat):Int))) ?_ (hc:=by exact bK _ rfl);refine FD 6 2 fC aQ ?_;refine LX 7 Y3 (.int .i64 (((j:Nat):Int))) ?_ (hc:=by exact il _ rfl);refine AL 8 ?_;refine CR Df (mD n bs ((i:Nat):Int) ((j:Nat):Int)) (SM [1]) λvR HR hR=>?_
 obtain⟨hw,rfl⟩:=hR;obtain⟨_,rfl⟩:dG ((i:Nat):Int) ((j:Nat):Int)=true∧vR= .pointer (some ⟨(bs.getD (bB ((i:Nat):Int) ((j:Nat):Int)) 0),0,none⟩):=hw.resolve_right (λq=>by rw[hv]at q;cases q.1);refine EN (PD 9 ?_);refine DN (ac J2 (ab λ_ J3=>sr λ_ J4=>PS ?_));refine tp (iQ rfl w4 rfl rfl) ?_;refine nx J4 (CN (qx J3 (ab λ_ J5=>sr λ_ J6=>cr (H':=[gF 208 5 (bs.getD (bB ((i:Nat):Int) ((j:Nat):Int)) 0) (List.map (kl (bB ((i:Nat):Int) ((j:Nat):Int))) l),fp 208 5 bs (cJ W) (bB ((i:Nat):Int) ((j:Nat):Int)),ah n (dv bs) 156,ah b3 (ints (OpT.mk k ((i:Nat):Int) ((j:Nat):Int) o.key o.n o.change o.mask o.torn o.cut).flat) 30,ah c (eG n D M P) 104]) (λ_ q=>hl▸m7 W (ig hv).1▸nD hv (aC [2] rfl q)) (PS ?_))));refine CE tV (jj (bs.getD (bB ((i:Nat):Int) ((j:Nat):Int)) 0) (List.map (kl (bB ((i:Nat):Int) ((j:Nat):Int))) l)) ID ?_;rw[bU];refine PS ?_;refine an ?_ ?_<;>intro h23;refine nx J6 (CY (sr λ_ J7=>PS ?_));exact nx J7 (ai (ae (aF (H':=[ah c (eG n D M P) 104,eu 156 208 5 n (cJ (W.set (bB ((i:Nat):Int) ((j:Nat):Int)) l))]) (di _) (λ_ q=>eg (List.Perm.swap _ _ _) (pj (bs:=bs) hv hW (ak [0,0,0,1] rfl q))) (au rfl rfl ⟨rfl,rfl⟩))))
 · exact absurd (by rw[hn];rfl) h23
theorem xd(c n i:Nat)(D M P:Nat→Value)(hi:i<5)(j:Nat)(hj:j<5)(hv:dG ((i:Nat):Int) ((j:Nat):Int)=true)(W:List (List MsgT))(hW:W.length=25)(l:List MsgT)(hl:W.getD (bB ((i:Nat):Int) ((j:Nat):Int)) []=l)(h8:l.length≤8)(hlen: ∀m∈l,0< (dX m).length)(o:OpT)(hn:l≠[])(bs:List Nat):
    DT 59 #[(.pointer (some ⟨c,0,none⟩)),(.agg (ints (OpT.mk 7 ((i:Nat):Int) ((j:Nat):Int) o.key o.n o.change o.mask o.torn o.cut).flat).toArray)] T0 [ah n (dv bs) 156,eH 208 5 bs (cJ W),ah c (eG n D M P) 104] (RI (.int .i64 (if GS l then 0 else 3)) [ah c (eG n D M P) 104,eu 156 208 5 n (cJ (W.set (bB ((i:Nat):Int) ((j:Nat):Int)) (CB l)))]):=by
 refine BD 91 Tryz.func59 rfl rfl rfl λw0 F hF=>sr λ_ J1=>XY (ints (OpT.mk 7 ((i:Nat):Int) ((j:Nat):Int) o.key o.n o.change o.mask o.torn o.cut).flat) λb3=>?_
 refine PS ?_;refine nx J1 (ab λ_ J2=>D2 0 3 dB ?_);refine PD 0 ?_;refine PD 1 ?_;refine FD 2 0 iB y8 ?_;refine LX 3 Im (.pointer (some ⟨n,0,none⟩)) ?_ (hc:=by exact zX n D M P);refine FD 4 1 fC aQ ?_;refine LX 5 Y3 (.int .i64 (((i:Nat):Int))) ?_ (hc:=by exact bK _ rfl);refine FD 6 2 fC aQ ?_;refine LX 7 Y3 (.int .i64 (((j:Nat):Int))) ?_ (hc:=by exact il _ rfl);refine AL 8 ?_;refine CR Df (mD n bs ((i:Nat):Int) ((j:Nat):Int)) (SM [1]) λvR HR hR=>?_
 obtain⟨hw,rfl⟩:=hR;obtain⟨_,rfl⟩:dG ((i:Nat):Int) ((j:Nat):Int)=true∧vR= .pointer (some ⟨(bs.getD (bB ((i:Nat):Int) ((j:Nat):Int)) 0),0,none⟩):=hw.resolve_right (λq=>by rw[hv]at q;cases q.1);refine EN (PD 9 ?_);refine DN (ac J2 (ab λ_ J3=>sr λ_ J4=>PS ?_));refine tp (iQ rfl w4 rfl rfl) ?_;refine nx J4 (CN (qx J3 (ab λ_ J5=>sr λ_ J6=>cr (H':=[gF 208 5 (bs.getD (bB ((i:Nat):Int) ((j:Nat):Int)) 0) (List.map (kl (bB ((i:Nat):Int) ((j:Nat):Int))) l),fp 208 5 bs (cJ W) (bB ((i:Nat):Int) ((j:Nat):Int)),ah n (dv bs) 156,ah b3 (ints (OpT.mk 7 ((i:Nat):Int) ((j:Nat):Int) o.key o.n o.change o.mask o.torn o.cut).flat) 30,ah c (eG n D M P) 104]) (λ_ q=>hl▸m7 W (ig hv).1▸nD hv (aC [2] rfl q)) (PS ?_))));refine CE tV (jj (bs.getD (bB ((i:Nat):Int) ((j:Nat):Int)) 0) (List.map (kl (bB ((i:Nat):Int) ((j:Nat):Int))) l)) ID ?_;rw[bU];refine PS ?_;refine an ?_ ?_<;>intro h23
 · exact absurd (List.eq_nil_of_length_eq_zero (by omega)) hn
 refine nx J6 (CN (qx J5 (ab λ_ J7=>sr λ_ J8=>FA 0 fC aQ ?_)));refine LT 3 Y3 (.int .i64 7) ?_ (hc:=by exact cU _ rfl);refine PS ?_;refine nx J8 (CY (ab λ_ J9=>sr λ_ J10=>PS ?_))
 refine gV (aa rfl) rfl rfl rfl MO rfl (xy (bs.getD (bB ((i:Nat):Int) ((j:Nat):Int)) 0) (List.map (kl (bB ((i:Nat):Int) ((j:Nat):Int))) l) (by rw[bU];exact h8) (λx hx=>by
        obtain⟨m,_,rfl⟩:=eS.1 hx
        exact u6 _ m)) (λ_ s=>s) (λ_ _ _=>trivial) (λvR HR hR=>?_)
 obtain⟨rfl,rfl⟩:=hR;rw[IR,IQ];refine aX ?_ ?_<;>intro h28;refine PS ?_;refine nx J10 (CN (qx J9 (sr λ_ J11=>PS ?_)));refine nx J11 (ai (ae (aF (H':=[ah c (eG n D M P) 104,eu 156 208 5 n (cJ (W.set (bB ((i:Nat):Int) ((j:Nat):Int)) (CB l)))]) (di _) (λ_ q=>eg (List.Perm.swap _ _ _) (pj (bs:=bs) hv hW (ak [0,0,0,1] rfl q))) (au rfl rfl ?_))));exact⟨by rw[h28];rfl,rfl⟩;refine PS ?_;refine nx J10 (CY (sr λ_ J12=>PS ?_));refine nx J12 (ai (ae (ae (aF (H':=[ah c (eG n D M P) 104,eu 156 208 5 n (cJ (W.set (bB ((i:Nat):Int) ((j:Nat):Int)) (CB l)))]) (di _) (λ_ q=>eg (List.Perm.swap _ _ _) (pj (bs:=bs) hv hW (ak [0,0,0,1] rfl q))) (au rfl rfl ?_)))));exact⟨by rw[h28];rfl,rfl⟩
theorem Ef{i j:Nat}{W:List (List MsgT)}{m:MsgT}{l2:List MsgT}(hv:dG ((i:Nat):Int) ((j:Nat):Int)=true)(hW:W.length=25):(cJ (W.set (bB ((i:Nat):Int) ((j:Nat):Int)) (m::l2))).getD (bB ((i:Nat):Int) ((j:Nat):Int)) []=jg ((i:Nat):Int) ((j:Nat):Int) (dX m)::List.map (kl (bB ((i:Nat):Int) ((j:Nat):Int))) l2:=by
 rw[m7 _ (ig hv).1,List.getD_eq_getElem?_getD,List.getElem?_set_self (by rw[hW];exact(ig hv).1),←Au (rI hv).1 (rI hv).2];rfl
theorem Ay{i j:Nat}{W:List (List MsgT)}{m:MsgT}{l2:List MsgT}(hv:dG ((i:Nat):Int) ((j:Nat):Int)=true)(hW:W.length=25):(cJ (W.set (bB ((i:Nat):Int) ((j:Nat):Int)) (m::l2))).set (bB ((i:Nat):Int) ((j:Nat):Int)) (List.map (kl (bB ((i:Nat):Int) ((j:Nat):Int))) l2)=cJ (W.set (bB ((i:Nat):Int) ((j:Nat):Int)) l2):=by
 rw[u7 _ (ig hv).1 (by rw[cu];exact hW),gY]
theorem rC(c n i:Nat)(D M P:Nat→Value)(hi:i<5)(j:Nat)(hj:j<5)(hv:dG ((i:Nat):Int) ((j:Nat):Int)=true)(W:List (List MsgT))(hW:W.length=25)(l:List MsgT)(hl:W.getD (bB ((i:Nat):Int) ((j:Nat):Int)) []=l)(h8:l.length≤8)(hlen: ∀m∈l,0< (dX m).length)(o:OpT)(m:MsgT)(l2:List MsgT)(ht:kR (max o.n 0% ((l.length:Nat):Int)).toNat l=m::l2)(bs:List Nat)(q:Int)(hk5:q=5∨q=6)(hk:q=6∨M j= .pointer none):
    DT 59 #[(.pointer (some ⟨c,0,none⟩)),(.agg (ints (OpT.mk q ((i:Nat):Int) ((j:Nat):Int) o.key o.n o.change o.mask o.torn o.cut).flat).toArray)] T0 [ah n (dv bs) 156,eH 208 5 bs (cJ W),ah c (eG n D M P) 104] (RI (.int .i64 0) [ah c (eG n D M P) 104,eu 156 208 5 n (cJ (W.set (bB ((i:Nat):Int) ((j:Nat):Int)) l2))]):=by
 refine BD 91 Tryz.func59 rfl rfl rfl λw0 F hF=>?_
 have hln:0<l.length:=by
     have:=jZ (max o.n 0% ((l.length:Nat):Int)).toNat l;rw[ht]at this;rw[←this];exact Nat.succ_pos _
 have hm0:0< (dX m).length:=hlen m ((oj (max o.n 0% ((l.length:Nat):Int)).toNat l).1 (ht▸ki ..));have hrl:(max o.n 0% ((l.length:Nat):Int))< ((l.length:Nat):Int):=GJ _ (by omega);refine sr λ_ J1=>XY (ints (OpT.mk q ((i:Nat):Int) ((j:Nat):Int) o.key o.n o.change o.mask o.torn o.cut).flat) λb3=>?_
 refine PS ?_;refine nx J1 (ab λ_ J2=>D2 0 3 dB ?_);refine PD 0 ?_;refine PD 1 ?_;refine FD 2 0 iB y8 ?_;refine LX 3 Im (.pointer (some ⟨n,0,none⟩)) ?_ (hc:=by exact zX n D M P);refine FD 4 1 fC aQ ?_;refine LX 5 Y3 (.int .i64 (((i:Nat):Int))) ?_ (hc:=by exact bK _ rfl);refine FD 6 2 fC aQ ?_;refine LX 7 Y3 (.int .i64 (((j:Nat):Int))) ?_ (hc:=by exact il _ rfl);refine AL 8 ?_;refine CR Df (mD n bs ((i:Nat):Int) ((j:Nat):Int)) (SM [1]) λvR HR hR=>?_
 obtain⟨hw,rfl⟩:=hR;obtain⟨_,rfl⟩:dG ((i:Nat):Int) ((j:Nat):Int)=true∧vR= .pointer (some ⟨(bs.getD (bB ((i:Nat):Int) ((j:Nat):Int)) 0),0,none⟩):=hw.resolve_right (λq=>by rw[hv]at q;cases q.1);refine EN (PD 9 ?_);refine DN (ac J2 (ab λ_ J3=>sr λ_ J4=>PS ?_));refine tp (iQ rfl w4 rfl rfl) ?_;refine nx J4 (CN (qx J3 (ab λ_ J5=>sr λ_ J6=>cr (H':=[gF 208 5 (bs.getD (bB ((i:Nat):Int) ((j:Nat):Int)) 0) (List.map (kl (bB ((i:Nat):Int) ((j:Nat):Int))) l),fp 208 5 bs (cJ W) (bB ((i:Nat):Int) ((j:Nat):Int)),ah n (dv bs) 156,ah b3 (ints (OpT.mk q ((i:Nat):Int) ((j:Nat):Int) o.key o.n o.change o.mask o.torn o.cut).flat) 30,ah c (eG n D M P) 104]) (λ_ q=>hl▸m7 W (ig hv).1▸nD hv (aC [2] rfl q)) (PS ?_))));refine CE tV (jj (bs.getD (bB ((i:Nat):Int) ((j:Nat):Int)) 0) (List.map (kl (bB ((i:Nat):Int) ((j:Nat):Int))) l)) ID ?_;rw[bU];refine PS ?_;refine an ?_ ?_<;>intro h23
 · exact absurd h23 (by omega)
 refine nx J6 (CN (qx J5 (ab λ_ J7=>sr λ_ J8=>FA 0 fC aQ ?_)));refine LT 3 Y3 (.int .i64 (q)) ?_ (hc:=by exact cU _ rfl);refine PS ?_;refine an ?_ ?_<;>intro h26
 · exact absurd h26 (by omega)
 refine nx J8 (CN (qx J7 (ab λ_ J9=>ab λ_ J10=>D1 3 dB ?_)));refine FD 0 4 fC aQ ?_;refine LX 1 Y3 (.int .i64 (o.n)) ?_ (hc:=by exact w7 _ rfl);refine ta 2 rfl (xL rfl rfl rfl) ?_;refine PD 3 ?_;refine PD 6 ?_;refine AL 4 ?_;refine CE tV (jj (bs.getD (bB ((i:Nat):Int) ((j:Nat):Int)) 0) (List.map (kl (bB ((i:Nat):Int) ((j:Nat):Int))) l)) ID ?_;rw[bU];refine EN (ta 5 rfl (PV.rem (r:=(max o.n 0% ((l.length:Nat):Int))) rfl rfl rfl (by omega) (sR (by omega))) ?_);refine DN (ac J10 (aq ?_))
 refine bp (α:=(Nat)) (λk=>((k:Nat):Int)≤(max o.n 0% ((l.length:Nat):Int))) (λk=>[(0,(.pointer (some ⟨c,0,none⟩))),(3,(.pointer (some ⟨b3,0,none⟩))),(4,(.int .i64 0)),(5,(.pointer (some ⟨(bs.getD (bB ((i:Nat):Int) ((j:Nat):Int)) 0),0,none⟩))),(35,(.int .i64 ((max o.n 0% ((l.length:Nat):Int))))),(36,(.int .i64 (((k:Nat):Int))))]) (λk=>[gF 208 5 (bs.getD (bB ((i:Nat):Int) ((j:Nat):Int)) 0) (List.map (kl (bB ((i:Nat):Int) ((j:Nat):Int))) (kR k l)),fp 208 5 bs (cJ W) (bB ((i:Nat):Int) ((j:Nat):Int)),ah n (dv bs) 156,ah b3 (ints (OpT.mk q ((i:Nat):Int) ((j:Nat):Int) o.key o.n o.change o.mask o.torn o.cut).flat) 30,ah c (eG n D M P) 104]) (λk=>(max o.n 0% ((l.length:Nat):Int)).toNat-k) 0
     (yN _ (by omega)) SB
     (λ_ s=>aC [0,0,0,0,0] rfl s) (λk hinv=>?_)
 obtain hk:=hinv;refine sr λ_ J11=>PS ?_
 refine an ?_ ?_<;>intro h37;refine nx J11 (ab λ_ J12=>CY (qx J12 (ab λ_ J13=>aq (ad (PS ?_)))))
 refine gV (aa rfl) rfl rfl rfl Kk rfl (sH (bs.getD (bB ((i:Nat):Int) ((j:Nat):Int)) 0) (List.map (kl (bB ((i:Nat):Int) ((j:Nat):Int))) (kR k l)) (by rw[bU,jZ];exact h8) (λx hx=>by
        obtain⟨m,_,rfl⟩:=eS.1 hx
        exact u6 _ m)) (λ_ s=>s) (λ_ _ _=>trivial) (λvR HR hR=>?_)
 obtain rfl:=hR;rw[xX];refine ap (af (ac J13 (ad (AD ?_))));refine PS ?_;refine ap ?_
 exact aI ((k+1):(Nat)) (by omega) (by show(max o.n 0% ((l.length:Nat):Int)).toNat- (k+1)< (max o.n 0% ((l.length:Nat):Int)).toNat-k;omega)
   SB
   (λ_ s=>aC [0,0,0,0,0] rfl s)
 have hkr:k=(max o.n 0% ((l.length:Nat):Int)).toNat:=by omega
 refine cr (H':=[gF 208 5 (bs.getD (bB ((i:Nat):Int) ((j:Nat):Int)) 0) (List.map (kl (bB ((i:Nat):Int) ((j:Nat):Int))) (m::l2)),fp 208 5 bs (cJ W) (bB ((i:Nat):Int) ((j:Nat):Int)),ah n (dv bs) 156,ah b3 (ints (OpT.mk q ((i:Nat):Int) ((j:Nat):Int) o.key o.n o.change o.mask o.torn o.cut).flat) 30,ah c (eG n D M P) 104]) (λ_ q=>by rw[hkr,ht]at q;exact q) (nx J11 (ab λ_ J14=>CN (aW (az (az (bm (ac J9 (ab λ_ J15=>D2 3 4 dB ?_))))))));refine PD 0 ?_;refine PD 1 ?_;refine FD 2 0 iB y8 ?_;refine LX 3 Im (.pointer (some ⟨n,0,none⟩)) ?_ (hc:=by exact zX n D M P);refine FD 4 1 fC aQ ?_;refine LX 5 Y3 (.int .i64 (((i:Nat):Int))) ?_ (hc:=by exact bK _ rfl);refine FD 6 2 fC aQ ?_;refine LX 7 Y3 (.int .i64 (((j:Nat):Int))) ?_ (hc:=by exact il _ rfl);refine AL 8 ?_;refine cr (H':=[eu 156 208 5 n (cJ (W.set (bB ((i:Nat):Int) ((j:Nat):Int)) (m::l2))),ah b3 (ints (OpT.mk q ((i:Nat):Int) ((j:Nat):Int) o.key o.n o.change o.mask o.torn o.cut).flat) 30,ah c (eG n D M P) 104]) (λ_ q=>pj (bs:=bs) hv hW (aC [0,0,0] rfl q)) (CR Kj (qn n (cJ (W.set (bB ((i:Nat):Int) ((j:Nat):Int)) (m::l2))) ((i:Nat):Int) ((j:Nat):Int) (dX m) (List.map (kl (bB ((i:Nat):Int) ((j:Nat):Int))) l2) hv (pm _) (Ef hv hW) hm0 (by have:=sD m;omega)) ID λvR HR hR=>?_);obtain⟨uv,rfl,rfl⟩:=hR;rw[Ay hv hW];refine EN (PD 9 ?_);refine PD 10 ?_;refine PD 11 ?_;refine PD 12 ?_;refine PD 13 ?_
 refine DN (ac J15 (ab λ_ J16=>sr λ_ J17=>FA 0 fC aQ ?_));refine LT 2 Y3 (.int .i64 (q)) ?_ (hc:=by exact cU _ rfl);refine PS ?_;refine an ?_ ?_<;>intro h55;refine PS ?_;refine UT ?_;refine UT ?_;refine P2 ?_
 iterate 5 refine UT ?_
 refine PS ?_;refine nx J17 (CY (sr λ_ J18=>PS ?_));exact nx J18 (ai (ae (WK [3,0] (au rfl rfl ⟨rfl,rfl⟩))));refine P2 ?_;refine PS ?_;refine P3 ?_;refine FA 2 fC aQ ?_;refine LT 2 Y3 (.int .i64 (((j:Nat):Int))) ?_ (hc:=by exact il _ rfl);refine CE Bk (rK c n j D M P hj (hk.resolve_left h55)) (SM [3]) ?_;refine PS ?_;refine PS ?_;refine nx J17 (CY (sr λ_ J19=>PS ?_));exact nx J19 (ai (ae (WK [0,0] (au rfl rfl ⟨rfl,rfl⟩))))
theorem yU(c n i:Nat)(D M P:Nat→Value)(hi:i<5)(j:Nat)(hj:j<5)(hv:dG ((i:Nat):Int) ((j:Nat):Int)=true)(W:List (List MsgT))(hW:W.length=25)(l:List MsgT)(hl:W.getD (bB ((i:Nat):Int) ((j:Nat):Int)) []=l)(h8:l.length≤8)(hlen: ∀m∈l,0< (dX m).length)(o:OpT)(m:MsgT)(l2:List MsgT)(ht:kR (max o.n 0% ((l.length:Nat):Int)).toNat l=m::l2)(bs:List Nat)(d r:Nat)(s:MS LD)(hD:D j= .pointer (some ⟨d,0,none⟩))(hM:M j= .pointer (some ⟨r,0,none⟩))(ho:s.o=[])(hs:OkR KD s)(hto:((i:Nat):Int)≠s.id)(hrs:s.replies.length≤1000000):
    DT 59 #[(.pointer (some ⟨c,0,none⟩)),(.agg (ints (OpT.mk 5 ((i:Nat):Int) ((j:Nat):Int) o.key o.n o.change o.mask o.torn o.cut).flat).toArray)] T0 [ah n (dv bs) 156,eH 208 5 bs (cJ W),ah c (eG n D M P) 104,dk d s.e.D,e6 s d r] (dm (λv H=>(s.e.D.dn=true∧v= .int .i64 0∧H=[ah c (eG n D M P) 104,dk d s.e.D,eu 156 208 5 n (cJ ((W.set (bB ((i:Nat):Int) ((j:Nat):Int)) l2))),e6 s d r])∨(s.e.D.dn=false∧(jF (dX m)).2≠0∧v= .int .i64 (jF (dX m)).2∧H=[ah c (eG n D M P) 104,dk d s.e.D,eu 156 208 5 n (cJ ((W.set (bB ((i:Nat):Int) ((j:Nat):Int)) l2))),e6 s d r])∨(s.e.D.dn=false∧(jF (dX m)).2=0∧v= .int .i64 0∧H=[ah c (eG n D M P) 104,dk d (gk KD s ((i:Nat):Int) (jF (dX m)).1).hush.e.D,eu 156 208 5 n (cJ (gO (W.set (bB ((i:Nat):Int) ((j:Nat):Int)) l2) j (gk KD s ((i:Nat):Int) (jF (dX m)).1).o)),e6 (gk KD s ((i:Nat):Int) (jF (dX m)).1).hush d r]))):=by
 refine BD 91 Tryz.func59 rfl rfl rfl λw0 F hF=>?_
 have hln:0<l.length:=by
     have:=jZ (max o.n 0% ((l.length:Nat):Int)).toNat l;rw[ht]at this;rw[←this];exact Nat.succ_pos _
 have hm0:0< (dX m).length:=hlen m ((oj (max o.n 0% ((l.length:Nat):Int)).toNat l).1 (ht▸ki ..));have hrl:(max o.n 0% ((l.length:Nat):Int))< ((l.length:Nat):Int):=GJ _ (by omega);refine sr λ_ J1=>XY (ints (OpT.mk 5 ((i:Nat):Int) ((j:Nat):Int) o.key o.n o.change o.mask o.torn o.cut).flat) λb3=>?_
 refine PS ?_;refine nx J1 (ab λ_ J2=>D2 0 3 dB ?_);refine PD 0 ?_;refine PD 1 ?_;refine FD 2 0 iB y8 ?_;refine LX 3 Im (.pointer (some ⟨n,0,none⟩)) ?_ (hc:=by exact zX n D M P);refine FD 4 1 fC aQ ?_;refine LX 5 Y3 (.int .i64 (((i:Nat):Int))) ?_ (hc:=by exact bK _ rfl);refine FD 6 2 fC aQ ?_;refine LX 7 Y3 (.int .i64 (((j:Nat):Int))) ?_ (hc:=by exact il _ rfl);refine AL 8 ?_;refine CR Df (mD n bs ((i:Nat):Int) ((j:Nat):Int)) (SM [1]) λvR HR hR=>?_
 obtain⟨hw,rfl⟩:=hR;obtain⟨_,rfl⟩:dG ((i:Nat):Int) ((j:Nat):Int)=true∧vR= .pointer (some ⟨(bs.getD (bB ((i:Nat):Int) ((j:Nat):Int)) 0),0,none⟩):=hw.resolve_right (λq=>by rw[hv]at q;cases q.1);refine EN (PD 9 ?_);refine DN (ac J2 (ab λ_ J3=>sr λ_ J4=>PS ?_));refine tp (iQ rfl w4 rfl rfl) ?_;refine nx J4 (CN (qx J3 (ab λ_ J5=>sr λ_ J6=>cr (H':=[gF 208 5 (bs.getD (bB ((i:Nat):Int) ((j:Nat):Int)) 0) (List.map (kl (bB ((i:Nat):Int) ((j:Nat):Int))) l),fp 208 5 bs (cJ W) (bB ((i:Nat):Int) ((j:Nat):Int)),ah n (dv bs) 156,ah b3 (ints (OpT.mk 5 ((i:Nat):Int) ((j:Nat):Int) o.key o.n o.change o.mask o.torn o.cut).flat) 30,ah c (eG n D M P) 104,dk d s.e.D,e6 s d r]) (λ_ q=>hl▸m7 W (ig hv).1▸nD hv (aC [2] rfl q)) (PS ?_))));refine CE tV (jj (bs.getD (bB ((i:Nat):Int) ((j:Nat):Int)) 0) (List.map (kl (bB ((i:Nat):Int) ((j:Nat):Int))) l)) ID ?_;rw[bU];refine PS ?_;refine an ?_ ?_<;>intro h23
 · exact absurd h23 (by omega)
 refine nx J6 (CN (qx J5 (ab λ_ J7=>sr λ_ J8=>FA 0 fC aQ ?_)));refine LT 3 Y3 (.int .i64 5) ?_ (hc:=by exact cU _ rfl);refine PS ?_;refine nx J8 (CN (qx J7 (ab λ_ J9=>ab λ_ J10=>D1 3 dB ?_)));refine FD 0 4 fC aQ ?_;refine LX 1 Y3 (.int .i64 (o.n)) ?_ (hc:=by exact w7 _ rfl);refine ta 2 rfl (xL rfl rfl rfl) ?_;refine PD 3 ?_;refine PD 6 ?_;refine AL 4 ?_;refine CE tV (jj (bs.getD (bB ((i:Nat):Int) ((j:Nat):Int)) 0) (List.map (kl (bB ((i:Nat):Int) ((j:Nat):Int))) l)) ID ?_;rw[bU];refine EN (ta 5 rfl (PV.rem (r:=(max o.n 0% ((l.length:Nat):Int))) rfl rfl rfl (by omega) (sR (by omega))) ?_);refine DN (ac J10 (aq ?_))
 refine bp (α:=(Nat)) (λk=>((k:Nat):Int)≤(max o.n 0% ((l.length:Nat):Int))) (λk=>[(0,(.pointer (some ⟨c,0,none⟩))),(3,(.pointer (some ⟨b3,0,none⟩))),(4,(.int .i64 0)),(5,(.pointer (some ⟨(bs.getD (bB ((i:Nat):Int) ((j:Nat):Int)) 0),0,none⟩))),(35,(.int .i64 ((max o.n 0% ((l.length:Nat):Int))))),(36,(.int .i64 (((k:Nat):Int))))]) (λk=>[gF 208 5 (bs.getD (bB ((i:Nat):Int) ((j:Nat):Int)) 0) (List.map (kl (bB ((i:Nat):Int) ((j:Nat):Int))) (kR k l)),fp 208 5 bs (cJ W) (bB ((i:Nat):Int) ((j:Nat):Int)),ah n (dv bs) 156,ah b3 (ints (OpT.mk 5 ((i:Nat):Int) ((j:Nat):Int) o.key o.n o.change o.mask o.torn o.cut).flat) 30,ah c (eG n D M P) 104,dk d s.e.D,e6 s d r]) (λk=>(max o.n 0% ((l.length:Nat):Int)).toNat-k) 0
     (yN _ (by omega)) SB
     (λ_ s=>aC [0,0,0,0,0,0,0] rfl s) (λk hinv=>?_)
 obtain hk:=hinv;refine sr λ_ J11=>PS ?_
 refine an ?_ ?_<;>intro h37;refine nx J11 (ab λ_ J12=>CY (qx J12 (ab λ_ J13=>aq (ad (PS ?_)))))
 refine gV (aa rfl) rfl rfl rfl Kk rfl (sH (bs.getD (bB ((i:Nat):Int) ((j:Nat):Int)) 0) (List.map (kl (bB ((i:Nat):Int) ((j:Nat):Int))) (kR k l)) (by rw[bU,jZ];exact h8) (λx hx=>by
        obtain⟨m,_,rfl⟩:=eS.1 hx
        exact u6 _ m)) (λ_ s=>s) (λ_ _ _=>trivial) (λvR HR hR=>?_)
 obtain rfl:=hR;rw[xX];refine ap (af (ac J13 (ad (AD ?_))));refine PS ?_;refine ap ?_
 exact aI ((k+1):(Nat)) (by omega) (by show(max o.n 0% ((l.length:Nat):Int)).toNat- (k+1)< (max o.n 0% ((l.length:Nat):Int)).toNat-k;omega)
   SB
   (λ_ s=>aC [0,0,0,0,0,0,0] rfl s)
 have hkr:k=(max o.n 0% ((l.length:Nat):Int)).toNat:=by omega
 refine cr (H':=[gF 208 5 (bs.getD (bB ((i:Nat):Int) ((j:Nat):Int)) 0) (List.map (kl (bB ((i:Nat):Int) ((j:Nat):Int))) (m::l2)),fp 208 5 bs (cJ W) (bB ((i:Nat):Int) ((j:Nat):Int)),ah n (dv bs) 156,ah b3 (ints (OpT.mk 5 ((i:Nat):Int) ((j:Nat):Int) o.key o.n o.change o.mask o.torn o.cut).flat) 30,ah c (eG n D M P) 104,dk d s.e.D,e6 s d r]) (λ_ q=>by rw[hkr,ht]at q;exact q) (nx J11 (ab λ_ J14=>CN (aW (az (az (bm (ac J9 (ab λ_ J15=>D2 3 4 dB ?_))))))));refine PD 0 ?_;refine PD 1 ?_;refine FD 2 0 iB y8 ?_;refine LX 3 Im (.pointer (some ⟨n,0,none⟩)) ?_ (hc:=by exact zX n D M P);refine FD 4 1 fC aQ ?_;refine LX 5 Y3 (.int .i64 (((i:Nat):Int))) ?_ (hc:=by exact bK _ rfl);refine FD 6 2 fC aQ ?_;refine LX 7 Y3 (.int .i64 (((j:Nat):Int))) ?_ (hc:=by exact il _ rfl);refine AL 8 ?_;refine cr (H':=[eu 156 208 5 n (cJ (W.set (bB ((i:Nat):Int) ((j:Nat):Int)) (m::l2))),ah b3 (ints (OpT.mk 5 ((i:Nat):Int) ((j:Nat):Int) o.key o.n o.change o.mask o.torn o.cut).flat) 30,ah c (eG n D M P) 104,dk d s.e.D,e6 s d r]) (λ_ q=>pj (bs:=bs) hv hW (aC [0,0,0] rfl q)) (CR Kj (qn n (cJ (W.set (bB ((i:Nat):Int) ((j:Nat):Int)) (m::l2))) ((i:Nat):Int) ((j:Nat):Int) (dX m) (List.map (kl (bB ((i:Nat):Int) ((j:Nat):Int))) l2) hv (pm _) (Ef hv hW) hm0 (by have:=sD m;omega)) ID λvR HR hR=>?_);obtain⟨uv,rfl,rfl⟩:=hR;rw[Ay hv hW];refine EN (PD 9 ?_);refine PD 10 ?_
 refine PD 11 ?_;refine PD 12 ?_;refine PD 13 ?_;refine DN (ac J15 (ab λ_ J16=>sr λ_ J17=>FA 0 fC aQ ?_));refine LT 2 Y3 (.int .i64 5) ?_ (hc:=by exact cU _ rfl);refine P3 ?_;refine PS ?_;refine P3 ?_;refine FA 2 fC aQ ?_;refine LT 2 Y3 (.int .i64 (((j:Nat):Int))) ?_ (hc:=by exact il _ rfl);refine CE Bk (rJ c n j D M P hj d r s.e.D hD hM) (SM [3,3]) ?_;refine aX ?_ ?_<;>intro h64;refine PS ?_;refine PS ?_;refine nx J17 (CN (qx J16 (sr λ_ J18=>PS ?_)));refine CF MN (BZ uv (dX m)) ID (zJ 3 rfl rfl) ?_;refine P3 ?_;refine XZ l9 (ints MsgT.zero.flat) λb8=>?_
 refine SW 0 bW aG ?_;refine PS ?_;refine nx J18 (ab λ_ J19=>sr λ_ J20=>P2 ?_);refine an ?_ ?_<;>intro h73;refine nx J20 (CY (n8 (λw=>Frm F w∧w.heap[b3]?=some (.cells (ints (OpT.mk 5 ((i:Nat):Int) ((j:Nat):Int) o.key o.n o.change o.mask o.torn o.cut).flat).toArray 30 (0,0))∧w.heap[c]?=some (.cells (eG n D M P).toArray 104 (0,0))∧w.heap[b8]?=some (.cells (ints ((jF (dX m)).1).flat).toArray 178 (0,0))∧True) dB rfl (λ_ s=>⟨ez s,s.block 5 (lb rfl) rfl,s.block 1 (lb rfl) rfl,s.block 0 (lb rfl) rfl,trivial⟩) (PD 0 ?_)));refine FD 1 2 fC aQ ?_;refine LX 2 Y3 (.int .i64 (((j:Nat):Int))) ?_ (hc:=by exact il _ rfl);refine PD 3 ?_;refine FD 4 6 iB oW ?_;refine IY 5 (6+j) uD j0 ?_;refine LX 6 uE (.pointer (some ⟨r,0,none⟩)) ?_ (hc:=by exact(wM n D M P hj).trans (congrArg some hM));refine PD 7 ?_;refine FD 8 2 fC aQ ?_;refine LX 9 Y3 (.int .i64 (((j:Nat):Int))) ?_ (hc:=by exact il _ rfl);refine ta 10 rfl (jR (cells:=#[(.pointer (some ⟨c,0,none⟩)),(.int .i64 (((j:Nat):Int)))]) rfl rfl (by as_aux_lemma=>kernel_rfl)) ?_;refine ta 11 rfl (o6 rfl Eb rfl rfl) ?_;refine FD 12 1 fC aQ ?_;refine LX 13 Y3 (.int .i64 (((i:Nat):Int))) ?_ (hc:=by exact bK _ rfl);refine LY 14 bb bW aG ?_;refine AL 15 ?_
 refine cr (H':=[cD (wF c n d j D M P hj hD (W.set (bB ((i:Nat):Int) ((j:Nat):Int)) l2) (by rw[cu];exact hW)) r s,ah b8 (ints ((jF (dX m)).1).flat) 178,gx uv (dX m) 5,ah b3 (ints (OpT.mk 5 ((i:Nat):Int) ((j:Nat):Int) o.key o.n o.change o.mask o.torn o.cut).flat) 30]) (λ_ q=>Dg ho (aC [1,1,1,3] rfl q)) (CZ Ki (@y7 _ (wF c n d j D M P hj hD (W.set (bB ((i:Nat):Int) ((j:Nat):Int)) l2) (by rw[cu];exact hW)) r s ((i:Nat):Int) (jF (dX m)).1 hs (ET _) hto hrs) ID λvR=>?_);change TL _ _ _ _ _ _ _ _ _ [cD (wF c n d j D M P hj hD (W.set (bB ((i:Nat):Int) ((j:Nat):Int)) l2) (by rw[cu];exact hW)) r (gk KD s ((i:Nat):Int) (jF (dX m)).1),ah b8 (ints ((jF (dX m)).1).flat) 178,gx uv (dX m) 5,ah b3 (ints (OpT.mk 5 ((i:Nat):Int) ((j:Nat):Int) o.key o.n o.change o.mask o.torn o.cut).flat) 30];refine cr (H':=[ah c (eG n D M P) 104,dk d ((gk KD s ((i:Nat):Int) (jF (dX m)).1).e.D),eu 156 208 5 n (cJ (gO (W.set (bB ((i:Nat):Int) ((j:Nat):Int)) l2) j (gk KD s ((i:Nat):Int) (jF (dX m)).1).o)),e6 ((gk KD s ((i:Nat):Int) (jF (dX m)).1).hush) d r,ah b8 (ints ((jF (dX m)).1).flat) 178,gx uv (dX m) 5,ah b3 (ints (OpT.mk 5 ((i:Nat):Int) ((j:Nat):Int) o.key o.n o.change o.mask o.torn o.cut).flat) 30]) (λ_ q=>zD (s:=(gk KD s ((i:Nat):Int) (jF (dX m)).1)) q) (EN (DN (ac J19 (sr λ_ J21=>P2 ?_))));refine nx J21 (ai (WK [0,0,0,0] (au rfl rfl ?_)))
 exact .inr (.inr ⟨(by simpa using h64),h73,(by rw[h73]),rfl⟩);refine nx J20 (CN (qx J19 (sr λ_ J22=>P2 ?_)));refine nx J22 (ai (WK [1,1,1,3] (au rfl rfl ?_)));exact .inr (.inl ⟨(by simpa using h64),h73,rfl,rfl⟩);refine PS ?_;refine PS ?_;refine nx J17 (CY (sr λ_ J23=>PS ?_));refine nx J23 (ai (ae (WK [0,0,0,2] (au rfl rfl ?_))));exact .inl ⟨(by simpa using h64),rfl,rfl⟩
end Go.Proofs.YtjblgopghhgflaaGreat
end

section
namespace Api
open Go Leg Codec Dsk Wal
class GdM(m:MsgT):Prop where
 kind:0≤m.kind∧m.kind≤9
class GdL(l:List SaidT):Prop where
 all: ∀x∈l,0≤x.msg.kind∧x.msg.kind≤9
theorem H0(n:Int):0< (q8 n).length:=pP _
theorem BM(n:Int)(l:List Int):0< (bf (n::l)).length:=by
 show 0< (q8 n++bf l).length;rw[aj];have:=H0 n;omega
theorem Lc{m:MsgT}(h:0≤m.kind∧m.kind≤9):0< (dX m).length:=by
 have p: ∀(l:List Int) (r:List UInt8),0< (bf (m.kind::l)++r).length:=λl r=>by rw[aj];have:=BM m.kind l;omega
 unfold dX;split
 · exact p _ _
 rename_i h0;split
 · exact BM _ _
 split
 · exact p _ _
 rename_i h3;split
 · rw[aL,aL];exact p _ _
 split
 · rw[aL];exact p _ _
 split
 · exact p _ _
 split
 · exact p _ _
 · exfalso
   simp only[fa,fj,decide_eq_true_eq]at h0 h3;omega
instance (v:Int):GdM (sw v):=⟨(by decide:(0:Int)≤1∧(1:Int)≤9)⟩
instance (i:Int)(y:RowT):GdM (sh i y):=⟨(by decide:(0:Int)≤2∧(2:Int)≤9)⟩
instance (v:ViewT):GdM (jT v):=⟨(by decide:(0:Int)≤7∧(7:Int)≤9)⟩
instance (i:Int)(v:ViewT):GdM (ot i v):=⟨(by decide:(0:Int)≤8∧(8:Int)≤9)⟩
instance (i:Int)(y:RowT):GdM (gP i y):=⟨(by decide:(0:Int)≤9∧(9:Int)≤9)⟩
instance (e:Int)(b:BallotT):GdM (fz e b):=⟨(by decide:(0:Int)≤3∧(3:Int)≤9)⟩
instance (e:Int)(b h:BallotT)(c:ChangeT):GdM (kA e b h c):=⟨(by decide:(0:Int)≤4∧(4:Int)≤9)⟩
instance (e:Int)(b:BallotT)(c:ChangeT):GdM (iY e b c):=⟨(by decide:(0:Int)≤5∧(5:Int)≤9)⟩
instance (e:Int)(b:BallotT):GdM (jH e b):=⟨(by decide:(0:Int)≤6∧(6:Int)≤9)⟩
instance (t:Int)(m:MsgT)[h:GdM m]:GdL [⟨t,m⟩]:=⟨λx hx=>by rw[im]at hx;subst hx;exact h.kind⟩
instance (i:Int)(m:MsgT)(p:Nat→Bool)(k:Nat)[h:GdM m]:GdL (nO i m p k):=⟨λx hx=>by
 unfold nO at hx;obtain⟨j,_,rfl⟩:=eS.1 hx
 exact h.kind⟩
instance (x:RepT):GdL (pp x):=⟨λs hs=>by
 unfold pp at hs;rw[eS]at hs;obtain⟨w,_,rfl⟩:=hs
 exact(show(0:Int)≤0∧(0:Int)≤9 by decide)⟩
section
variable {δ:Type} {K:Dk δ} {s0 s:MS δ}
class Qt(s0 s:MS δ):Prop where
 id:s.id=s0.id
 replies:s.replies=s0.replies
 ops:s.ops=s0.ops
 waits:s.waits=s0.waits∨s.waits=0
 o: ∃l,s.o=s0.o++l∧∀x∈l,0≤x.msg.kind∧x.msg.kind≤9
instance Qt.rfl':Qt s s:=⟨rfl,rfl,rfl, .inl rfl,[],(ba _).symm,λ_ h=>by cases h⟩
theorem Qt.trans{a b c:MS δ}(h:Qt a b)(g:Qt b c):Qt a c:=by
 obtain⟨l,e,hl⟩:=h.o;obtain⟨l2,e2,hl2⟩:=g.o;exact⟨g.id.trans h.id,g.replies.trans h.replies,g.ops.trans h.ops,g.waits.elim (λq=>h.waits.imp (q.trans ·) (q.trans ·)) .inr,l++l2,by rw[e2,e,aL],λx hx=>(eC.1 hx).elim (hl x) (hl2 x)⟩
theorem Qt.same{t:MS δ}(h:Qt s0 s)(h1:t.id=s.id)(h2:t.replies=s.replies)(h3:t.ops=s.ops)(h4:t.waits=s.waits)(h5:t.o=s.o):Qt s0 t:=
 ⟨h1.trans h.id,h2.trans h.replies,h3.trans h.ops,by rw[h4];exact h.waits,by rw[h5];exact h.o⟩
instance [h:Qt s0 s](l:List SaidT)[g:GdL l]:Qt s0 (iJ K s l):=by
 refine h.trans ⟨rfl,rfl,rfl, .inl rfl,?_⟩
 by_cases q:K.dn s.e=true
 · exact⟨[],by rw[iJ,if_pos q,ba],λ_ h=>by cases h⟩
 · exact⟨l,by rw[iJ,if_neg q],g.all⟩
instance [h:Qt s0 s](t:Int)(m:MsgT)[GdM m]:Qt s0 (C2 K s t m):=inferInstanceAs (Qt s0 (iJ K s _))
instance [h:Qt s0 s](r:RecT):Qt s0 (eh K s r):=h.same rfl rfl rfl rfl rfl
instance [h:Qt s0 s](f:Int):Qt s0 (iG s f):=h.same rfl rfl rfl rfl rfl
instance [h:Qt s0 s](w:Int)(x:RowT):Qt s0 (EY s w x):=h.same rfl rfl rfl rfl rfl
instance [h:Qt s0 s]:Qt s0 (gE s):=h.same rfl rfl rfl rfl rfl
instance [h:Qt s0 s](w:Int)(x:RowT):Qt s0 (iE s w x):=h.same rfl rfl rfl rfl rfl
instance [h:Qt s0 s](w:Int):Qt s0 (lT s w):=h.same rfl rfl rfl rfl rfl
instance [h:Qt s0 s](x:RowT):Qt s0 (uh s x 0):=⟨h.id,h.replies,h.ops, .inr rfl,h.o⟩
instance [Qt s0 s]:Qt s0 (fm K s):=inferInstanceAs (Qt s0 (iJ K s _))
instance [Qt s0 s](y:RowT):Qt s0 (mw K s y):=inferInstanceAs (Qt s0 (iJ K s _))
instance [Qt s0 s](v:ViewT):Qt s0 (nG K s v):=inferInstanceAs (Qt s0 (iJ K s _))
instance [Qt s0 s](m:MsgT)[GdM m]:Qt s0 (jE K s m):=inferInstanceAs (Qt s0 (iJ K s _))
instance [Qt s0 s](x:RowT):Qt s0 (e5 K s x 0).1:=by unfold e5;split<;>exact inferInstance
instance [h:Qt s0 s]:Qt s0 (mU K s):=by
 unfold mU;split
 · exact h
 split
 · exact inferInstance
 · exact h
instance [h:Qt s0 s](f:Int)(m:MsgT):Qt s0 (iU K s f m):=by
 unfold iU
 repeat' split
 all_goals exact inferInstance
instance [h:Qt s0 s](w:Int)(x:RowT):Qt s0 (lC s w x):=h.same rfl rfl rfl rfl rfl
instance [h:Qt s0 s](f w:Int)(y:RowT):Qt s0 (vc s f w y):=h.same rfl rfl rfl rfl rfl
instance [h:Qt s0 s](f:Int)(m:MsgT):Qt s0 (fV K s f m):=by unfold fV;split<;>exact inferInstance
theorem pz[Qt s0 s]{f:MS δ→MS δ}(hf:Qt s0 (f s))(t:Int)(m:MsgT)[GdM m]:Qt s0 (nb K f s t m):=by unfold nb;split;exact hf;exact inferInstance
instance [h:Qt s0 s](f w:Int):Qt s0 (fx K s f w):=by
 unfold fx
 repeat' split
 · exact h
 · exact pz inferInstance _ _
 · exact inferInstance
 · exact pz inferInstance _ _
instance [h:Qt s0 s](i w:Int):Qt s0 (gU K s i w):=by
 unfold gU;split
 · exact h
 · exact pz inferInstance _ _
instance [Qt s0 s](i:Int):Qt s0 (pS K s i):=by unfold pS;exact inferInstance
theorem yE: ∀(l:List Int) (s:MS δ),Qt s0 s→Qt s0 (fU K l s)
 | [],_,h=>h
 |i::l,s,h=>yE l (pS K s i) inferInstance
instance [h:Qt s0 s]:Qt s0 (q9 K s):=yE _ _ h
instance [h:Qt s0 s](v:ViewT):Qt s0 (mS s v):=h.same rfl rfl rfl rfl rfl
instance [h:Qt s0 s](v:ViewT):Qt s0 (hX K s v):=by
 unfold hX
 repeat' split
 all_goals exact inferInstance
instance [h:Qt s0 s](f:Int)(m:MsgT):Qt s0 (mx K s f m):=by unfold mx;exact inferInstance
instance [h:Qt s0 s](c:ChangeT):Qt s0 (ld K s c):=by
 unfold ld
 repeat' split
 all_goals exact inferInstance
instance [h:Qt s0 s](n:Int):Qt s0 (df s n):=h.same rfl rfl rfl rfl rfl
instance [h:Qt s0 s](v:VoteT):Qt s0 (lh s v):=h.same rfl rfl rfl rfl rfl
instance [h:Qt s0 s](a:AccT):Qt s0 (w3 s a):=h.same rfl rfl rfl rfl rfl
instance [h:Qt s0 s](f:Int)(m:MsgT):Qt s0 (li K f m s):=by
 unfold li;split
 · exact h
 · split<;>exact inferInstance
theorem rD[h:Qt s0 s]{f:MS δ→MS δ}(hf: ∀s:MS δ,Qt s0 s→Qt s0 (f s))(w:Int)(m:MsgT):Qt s0 (eQ K f s w m):=by
 unfold eQ
 repeat' split
 · exact inferInstance
 · exact h
 · exact h
 · exact hf _ inferInstance
instance [Qt s0 s](w:Int)(m:MsgT):Qt s0 (qG K s w m):=rD (λ_ _=>inferInstance) w m
instance [h:Qt s0 s](w:Int)(m:MsgT):Qt s0 (nN K w m s):=by unfold nN;exact pz inferInstance _ _
instance [h:Qt s0 s](w:Int)(m:MsgT):Qt s0 (oQ K w m s):=by
 unfold oQ
 repeat' split
 all_goals exact inferInstance
instance [Qt s0 s](w:Int)(m:MsgT):Qt s0 (s5 K s w m):=rD (λ_ _=>inferInstance) w m
theorem tR[h:Qt s0 s]{f:MS δ→MsgT→MS δ}{m:MsgT}[GdM m](hf: ∀s:MS δ,Qt s0 s→Qt s0 (f s m)):Qt s0 (jI K f s m):=by
 unfold jI;split
 · exact hf _ inferInstance
 · exact inferInstance
instance [h:Qt s0 s](vt:VoteT):Qt s0 (kB K s vt):=tR λ_ _=>inferInstance
instance [h:Qt s0 s](f:Int)(m:MsgT):Qt s0 (pn K f m s):=by
 unfold pn;split
 · exact h
 · split<;>exact inferInstance
instance [Qt s0 s](w:Int)(m:MsgT):Qt s0 (qI K s w m):=rD (λ_ _=>inferInstance) w m
instance [h:Qt s0 s](w:Int)(m:MsgT)(a:AccT):Qt s0 (n6 K w m a s):=by unfold n6;exact pz inferInstance _ _
instance [h:Qt s0 s](w:Int)(m:MsgT):Qt s0 (pW K w m s):=by
 unfold pW
 repeat' split
 all_goals exact inferInstance
instance [Qt s0 s](w:Int)(m:MsgT):Qt s0 (s6 K s w m):=rD (λ_ _=>inferInstance) w m
instance [h:Qt s0 s](vt:VoteT):Qt s0 (mM K s vt):=tR λ_ _=>inferInstance
instance [h:Qt s0 s](vt:VoteT):Qt s0 (oR K s vt):=by unfold oR;split<;>exact inferInstance
instance [h:Qt s0 s](c:ChangeT):Qt s0 (re K s c):=by unfold re;exact inferInstance
instance [h:Qt s0 s](c:ChangeT):Qt s0 (cA K s c).1:=by
 unfold cA
 repeat' split
 all_goals exact inferInstance
instance [h:Qt s0 s]:Qt s0 (bS K s):=by unfold bS;split<;>exact inferInstance
instance [h:Qt s0 s]:Qt s0 (bZ K s):=by unfold bZ;split<;>exact inferInstance
instance [h:Qt s0 s]:Qt s0 (gd K s):=by unfold gd;split<;>exact inferInstance
instance [h:Qt s0 s]:Qt s0 (rO K s):=by
 unfold rO;split
 · exact h
 · repeat' split
   all_goals exact inferInstance
instance [h:Qt s0 s]:Qt s0 (iD K s):=by unfold iD;split<;>exact inferInstance
structure Rp(s0 s:MS δ)(l:List ReplyT):Prop where
 id:s.id=s0.id
 replies:s.replies=s0.replies++l
 o: ∃l,s.o=s0.o++l∧∀x∈l,0≤x.msg.kind∧x.msg.kind≤9
theorem Qt.rp(h:Qt s0 s):Rp s0 s []:=⟨h.id,by rw[h.replies,ba],h.o⟩
theorem Rp.then{l:List ReplyT}{t:MS δ}(h:Rp s0 s l)(g:Qt s t):Rp s0 t l:=by
 obtain⟨l1,e,hl⟩:=h.o;obtain⟨l2,e2,hl2⟩:=g.o;exact⟨g.id.trans h.id,g.replies.trans h.replies,l1++l2,by rw[e2,e,aL],λx hx=>(eC.1 hx).elim (hl x) (hl2 x)⟩
theorem GX(s:MS δ)(f:Int)(m:MsgT):Qt s (dM K s f m)∨(0<s.waits∧Rp s (dM K s f m) [⟨s.waits,0,0⟩]∧(dM K s f m).waits=0∧(dM K s f m).ops=s.ops):=by
 unfold dM;split
 · split
   · by_cases hw:0<s.waits
     · right
       have e:l5 (gE (iG s f))= {dH (gE (iG s f)) s.waits 0 0 with waits:=0}:=xT (s:=gE (iG s f)) hw;have q:Qt (l5 (gE (iG s f))) (lE K (iG s f)):=by unfold lE;exact inferInstance
       have hw0:(l5 (gE (iG s f))).waits=0:=by rw[e]
       refine⟨hw,Rp.then (s:=l5 (gE (iG s f))) ?_ q,(q.waits.elim (·.trans hw0) id),q.ops.trans (by rw[e];rfl)⟩;rw[e];exact⟨rfl,rfl,[],(ba _).symm,λ_ h=>by cases h⟩
     · left
       unfold lE;rw[xU (s:=gE (iG s f)) hw];exact inferInstance
   · left;exact inferInstance
 · left;exact inferInstance
theorem IS(s:MS δ)(f:Int)(m:MsgT):Qt s (gk K s f m)∨(0<s.waits∧Rp s (gk K s f m) [⟨s.waits,0,0⟩]∧(gk K s f m).waits=0∧(gk K s f m).ops=s.ops):=by
 unfold gk
 by_cases h1:m.kind=1
 · rw[if_neg (by omega),if_pos h1];exact GX s f m
 · left
   rw[if_neg h1]
   repeat' split
   all_goals exact inferInstance
theorem Ji(s:MS δ)(x:RowT)(op:Int):((e5 K s x op).2≠0∧Qt s (e5 K s x op).1)∨((e5 K s x op).2=0∧Rp s (e5 K s x op).1 []∧(e5 K s x op).1.waits=op∧(e5 K s x op).1.ops=s.ops):=by
 unfold e5;split
 · rename_i h;exact .inl ⟨h,inferInstance⟩
 · right
   have q:Qt (uh (eh K s (fF x)) x op) (fm K (uh (eh K s (fF x)) x op)):=inferInstance;refine⟨rfl,Rp.then (s:=uh (eh K s (fF x)) x op) ⟨rfl,(ba _).symm,[],(ba _).symm,λ_ h=>by cases h⟩ q,?_,q.ops⟩;show(fm K _).waits=_;rfl
theorem Gx(s:MS δ)(o:OpT):(∃e v,Rp s (bY K s o).1 [⟨fP (s.ops+1),e,v⟩]∧(bY K s o).2=e∧(bY K s o).1.ops=fP (s.ops+1)∧((bY K s o).1.waits=s.waits∨(bY K s o).1.waits=0))∨(Rp s (bY K s o).1 []∧(bY K s o).2=0∧(bY K s o).1.ops=fP (s.ops+1)∧(bY K s o).1.waits=fP (s.ops+1)):=by
 have e0:Rp s (bM s) []:=⟨rfl,(ba _).symm,[],(ba _).symm,λ_ h=>by cases h⟩
 have rep: ∀(t:MS δ) (op e v:Int),Qt (bM s) t→op=fP (s.ops+1)→Rp s (dH t op e v) [⟨fP (s.ops+1),e,v⟩]∧(dH t op e v).ops=fP (s.ops+1)∧((dH t op e v).waits=s.waits∨(dH t op e v).waits=0):=λt op e v h ho=>by
  subst ho;obtain⟨l,e1,hl⟩:=h.o;exact⟨⟨h.id,by show t.replies++_=_;rw[h.replies];rfl,l,e1,hl⟩,h.ops,h.waits⟩
 unfold bY;split
 · left
   unfold ee;split
   · obtain⟨a,b,c⟩:=rep (bM s) _ (fK (bM s) o.change) 0 inferInstance rfl
     exact⟨_,_,a,rfl,b,c⟩
   · split
     · obtain⟨a,b,c⟩:=rep (cA K (bM s) o.change).1 _ (cA K (bM s) o.change).2 0 inferInstance rfl
       exact⟨_,_,a,rfl,b,c⟩
     · obtain⟨a,b,c⟩:=rep (cA K (bM s) o.change).1 _ 0 0 inferInstance rfl
       have q:Qt (dH (cA K (bM s) o.change).1 (bM s).ops 0 0) (oR K (dH (cA K (bM s) o.change).1 (bM s).ops 0 0) (jW (bM s).view (eJ (bM s)) o.change)):=inferInstance;exact⟨_,_,a.then q,rfl,q.ops.trans b,q.waits.elim (λw=>c.imp (w.trans ·) (w.trans ·)) .inr⟩
 · unfold oL
   split
   · left
     obtain⟨a,b,c⟩:=rep (bM s) _ (db (bM s) o).2.2 (db (bM s) o).2.1 inferInstance rfl;exact⟨_,_,a,rfl,b,c⟩
   · rcases Ji (K:=K) (bM s) (db (bM s) o).1 (bM s).ops with⟨h,q⟩| ⟨h,q,hw,ho⟩
     · rw[if_pos h]
       left;obtain⟨a,b,c⟩:=rep _ _ (e5 K (bM s) (db (bM s) o).1 (bM s).ops).2 0 q rfl;exact⟨_,_,a,rfl,b,c⟩
     · rw[if_neg (by omega)]
       right;obtain⟨l,e1,hl⟩:=q.o;exact⟨⟨q.id,q.replies,l,e1,hl⟩,rfl,ho,hw⟩
end
def Slot.pend(x:Slot):Nat:=match x.run with
 |some s=>if 0<s.waits then 1 else 0
 |none=>0
structure SlotOk(i n:Nat)(x:Slot):Prop where
 run: ∀s,x.run=some s→OkR KD s∧s.id=((i:Nat):Int)∧s.o=[]
 D:x.run=none→DkOk x.D
 reps:x.reps.length+x.pend≤n
structure CLOk(n:Nat)(a:CL):Prop where
 ms:a.ms.length=5
 W:a.W.length=25
 at': ∀i,i<5→SlotOk i n (a.at' i)
 way: ∀k,(a.W.getD k []).length≤8∧∀m∈a.W.getD k [],0< (dX m).length
structure OkOp(o:OpT):Prop where
 change:OkCh o.change
 n:o.n≤9223372036854775807
theorem SlotOk.dk{i n:Nat}{x:Slot}(h:SlotOk i n x):DkOk x.dk:=by
 unfold Slot.dk;split
 · rename_i s q;exact(h.run s q).1.e.dk
 · rename_i q;exact h.D q
theorem SlotOk.more{i n k:Nat}{x:Slot}(h:SlotOk i n x)(hk:n≤k):SlotOk i k x:=⟨h.run,h.D,xP h.reps hk⟩
theorem CLOk.more{n k:Nat}{a:CL}(h:CLOk n a)(hk:n≤k):CLOk k a:=⟨h.ms,h.W,λi hi=>(h.at' i hi).more hk,h.way⟩
theorem wV{ms:List Slot}{W:List (List MsgT)}{i:Nat}{x:Slot}(h:i<ms.length):(CL.mk (ms.set i x) W).at' i=x:=by
 unfold CL.at';rw[List.getD_eq_getElem?_getD,List.getElem?_set_self h];rfl
theorem wW{ms:List Slot}{W:List (List MsgT)}{i j:Nat}{x:Slot}(h:j≠i):(CL.mk (ms.set i x) W).at' j=ms.getD j .nil:=by
 unfold CL.at';rw[List.getD_eq_getElem?_getD,List.getElem?_set_ne (λe=>h e.symm),←List.getD_eq_getElem?_getD]
theorem CLOk.put{n k i:Nat}{a:CL}(h:CLOk n a)(hk:n≤k)(hi:i<5){x:Slot}(hx:SlotOk i k x){W:List (List MsgT)}(hW:W.length=25)(hw: ∀k,(W.getD k []).length≤8∧∀m∈W.getD k [],0< (dX m).length):CLOk k ⟨a.ms.set i x,W⟩:=
 ⟨by show(a.ms.set i x).length=5;rw[cu];exact h.ms,hW,λj hj=>by
  by_cases q:j=i
  · subst q;rw[wV (by rw[h.ms];exact hi)];exact hx
  · rw[wW q];exact(h.at' j hj).more hk,hw⟩
theorem I2{W:List (List MsgT)}(hw: ∀k,(W.getD k []).length≤8∧∀m∈W.getD k [],0< (dX m).length)(f:Nat)(s:SaidT)(hs:0< (dX s.msg).length): ∀k,((r9 W f s).getD k []).length≤8∧∀m∈(r9 W f s).getD k [],0< (dX m).length:=λk=>by
 unfold r9;split
 · by_cases q:k=bB ((f:Nat):Int) s.to'
   · subst q
     by_cases hl:bB ((f:Nat):Int) s.to'<W.length
     · rw[List.getD_eq_getElem?_getD,List.getElem?_set_self hl]
       obtain⟨h1,h2⟩:=hw (bB ((f:Nat):Int) s.to');simp only[Option.getD_some];split
       · refine⟨by rw[aj,gi];omega,λm hm=>?_⟩
         rcases eC.1 hm with hm|hm
         · exact h2 m hm
         · rw[im]at hm;subst hm;exact hs
       · exact⟨h1,h2⟩
     · rw[Ou (by omega)];exact hw _
   · rw[List.getD_eq_getElem?_getD,List.getElem?_set_ne (λe=>q e.symm),←List.getD_eq_getElem?_getD];exact hw k
 · exact hw k
theorem AY(f:Nat): ∀(l:List SaidT) {W:List (List MsgT)},(∀x∈l,0< (dX x.msg).length)→(∀k,(W.getD k []).length≤8∧∀m∈W.getD k [],0< (dX m).length)→∀k,((gO W f l).getD k []).length≤8∧∀m∈(gO W f l).getD k [],0< (dX m).length
 | [],_,_,hw=>hw
 |s::l,W,hl,hw=>AY f l (W:=r9 W f s) (λx hx=>hl x (Cl _ hx)) (I2 hw f s (hl s (ki ..)))
theorem Bb(W:List (List MsgT))(f:Nat)(s:SaidT):(r9 W f s).length=W.length:=by unfold r9;split<;>simp
theorem rS(f:Nat): ∀(l:List SaidT) (W:List (List MsgT)),(gO W f l).length=W.length
 | [],_=>rfl
 |s::l,W=>(rS f l _).trans (Bb W f s)
theorem Jh{s:MS LD}(h:OkR KD s):OkR KD s.hush:=⟨h.e,h.id,h.view,h.own,h.mir,h.book,h.last,h.acc,h.vote⟩
def owe(s:MS LD):Nat:=if 0<s.waits then 1 else 0
theorem CLOk.did{n i k:Nat}{a:CL}(h:CLOk n a)(hk:n≤k)(hi:i<5){s s':MS LD}(hs:(a.at' i).run=some s)(h':OkR KD s'){l:List ReplyT}(r:Rp s s' l)(hl:l.length+owe s'+n≤k+owe s):CLOk k (a.did i s'):=by
 obtain⟨h1,h2,h3⟩:=(h.at' i hi).run s hs;obtain⟨lo,e,hlo⟩:=r.o;rw[h3,be]at e;refine h.put hk hi ⟨λt q=>?_,(λq=>by cases q),?_⟩ (by rw[rS];exact h.W) (AY i _ (λx hx=>Lc (hlo x (by rw[←e];exact hx))) h.way)
 · obtain rfl:=dR q
   exact⟨Jh h',r.id.trans h2,rfl⟩
 · have:=(h.at' i hi).reps
   unfold Slot.reps Slot.pend at this ⊢;rw[hs]at this;show((a.at' i).past++s'.replies).length+(if 0<s'.waits then 1 else 0)≤k;rw[r.replies];unfold owe at hl;simp only[aj]at this ⊢;omega
theorem Qt.owe{s s':MS LD}(q:Qt s s'):Api.owe s'≤Api.owe s:=by
 unfold Api.owe;rcases q.waits with e|e
 · rw[e];exact aK _
 · rw[e];exact aO _
theorem LO(s:MS LD):owe s≤1:=by unfold owe;split<;>omega
theorem CLOk.quiet{n i:Nat}{a:CL}(h:CLOk n a)(hi:i<5){s s':MS LD}(hs:(a.at' i).run=some s)(h':OkR KD s')(q:Qt s s'):CLOk n (a.did i s'):=
 h.did (aK _) hi hs h' q.rp (by have:=q.owe;show 0+_+n≤_;omega)
theorem CLOk.onway{n k:Nat}{a:CL}(h:CLOk n a){l:List MsgT}(hl:l.length≤8∧∀m∈l,0< (dX m).length):CLOk n (a.way k l):=
 ⟨h.ms,by show(a.W.set k l).length=25;rw[cu];exact h.W,h.at',λj=>by
  show((a.W.set k l).getD j []).length≤8∧_
  by_cases q:j=k
  · subst q
    by_cases hk:j<a.W.length
    · show((a.W.set j l).getD j []).length≤8∧∀m∈(a.W.set j l).getD j [],_
      rw[List.getD_eq_getElem?_getD,List.getElem?_set_self hk];exact hl
    · show((a.W.set j l).getD j []).length≤8∧∀m∈(a.W.set j l).getD j [],_
      rw[Ou (by omega)];exact h.way j
  · show((a.W.set k l).getD j []).length≤8∧∀m∈(a.W.set k l).getD j [],_
    rw[List.getD_eq_getElem?_getD,List.getElem?_set_ne (λe=>q e.symm),←List.getD_eq_getElem?_getD];exact h.way j⟩
theorem nU{w:Int}(h:iF w=true):w.toNat<5∧((w.toNat:Nat):Int)=w:=by
 have:0≤w∧w<5:=of_decide_eq_true h;omega
theorem Js{n f t:Nat}{a:CL}(h:CLOk n a)(ht:t<5)(m:MsgT):CLOk n (wL a f t m).1:=by
 unfold wL;split
 · exact h
 · rename_i s hs
   split
   · exact h
   · split
     · obtain⟨h1,_,_⟩:=(h.at' t ht).run s hs
       have hm:=ET (dX m);rcases IS (K:=KD) s ((f:Nat):Int) (jF (dX m)).1 with q| ⟨hw,q,q2,_⟩
       · exact h.quiet ht hs inferInstance q
       · refine h.did (aK _) ht hs inferInstance q ?_
         unfold owe;rw[q2,if_pos hw];show 1+(if(0:Int)<0 then 1 else 0)+n≤n+1;rw[if_neg (by omega)];omega
     · exact h
theorem Ky{n:Nat}{a:CL}(h:CLOk n a)(o:OpT):CLOk n (pk a o).1:=by
 unfold pk;split
 · exact h
 · rename_i hv
   have hv:dG o.at' o.to'=true:=by simpa using hv
   have hw:=h.way (bB o.at' o.to');split
   · exact h
   · rename_i m l hl
     rw[hl]at hw;split
     · split
       · refine h.onway ⟨?_,λx hx=>?_⟩
         · rename_i q
           unfold GS at q;have q:=of_decide_eq_true q;unfold CB;rw[if_pos q,aj,gi];omega
         · unfold CB at hx
           split at hx
           · rcases eC.1 hx with hx|hx
             · exact hw.2 x hx
             · rw[im]at hx;subst hx;exact hw.2 _ (ki ..)
           · exact hw.2 x hx
       · exact h
     · split
       · exact h
       · rename_i m2 l2 hl2
         have hlen:=jZ (max o.n 0% ((m::l).length:Int)).toNat (m::l);have hmem:=λx=>(oj (x:=x) (max o.n 0% ((m::l).length:Int)).toNat (m::l)).1
         rw[hl2]at hlen hmem;have g:CLOk n (a.way (bB o.at' o.to') l2):=h.onway ⟨by simp only[ay]at hlen hw;omega,λx hx=>hw.2 x (hmem x (Cl _ hx))⟩
         have ht:o.to'.toNat<5:=by
          unfold dG at hv;rw[av,av]at hv;exact(nU hv.1.2).1
         split
         · exact g
         · exact Js g ht m2
theorem AJ{n i:Nat}(hi:i<5){x:Slot}(h:SlotOk i n x):SlotOk i n (j5 i x).1:=by
 unfold j5;split
 · exact h
 · rename_i hr
   have hD:=h.D hr;refine⟨λs q=>?_,λ_=>hD.open.1,?_⟩
   · obtain⟨h1,f⟩:=s9 hi hD q
     exact⟨h1,f.id,f.o⟩
   · have:=h.reps
     unfold Slot.reps Slot.pend at this ⊢;rw[hr,ba]at this;show(x.past++match(cY i x.D).1 with|some s=>s.replies|none=>[]).length+(match(cY i x.D).1 with|some s=>if 0<s.waits then 1 else 0|none=>0)≤n;cases q:(cY i x.D).1 with
     |some s=>
      have f:=(s9 hi hD q).2;simp only[f.replies,f.waits,ba]
      simpa using this
     |none=>simpa using this
theorem Lj{n i:Nat}{x:Slot}(h:SlotOk i n x){k:Int}(hk:k≤9223372036854775807):SlotOk i n (xB x k):=by
 unfold xB;split
 · rename_i s hs
   obtain⟨h1,h2,h3⟩:=h.run s hs;refine⟨λt q=>?_,(λq=>by cases q),?_⟩
   · obtain rfl:=dR q
     exact⟨⟨⟨h1.e.dk.arm k hk,h1.e.used,h1.e.cnt⟩,h1.id,h1.view,h1.own,h1.mir,h1.book,h1.last,h1.acc,h1.vote⟩,h2,h3⟩
   · have:=h.reps
     unfold Slot.reps Slot.pend at this ⊢;rw[hs]at this;exact this
 · rename_i hr
   refine⟨λt q=>?_,λ_=>(h.D hr).arm k hk,?_⟩
   · rw[show x.run=some t from q]at hr;cases hr
   · have:=h.reps
     unfold Slot.reps Slot.pend at this ⊢;rw[hr]at this;simp only[hr];exact this
theorem crash_ok{n i:Nat}{x:Slot}(h:SlotOk i n x)(mask torn cut:Int):SlotOk i n (nw x mask torn cut):=
 ⟨(λt q=>by cases q),λ_=>h.dk.crash mask torn cut,by
  have:=h.reps;show(x.reps++[]).length+0≤n
  rw[ba];omega⟩
theorem DD{n:Nat}{a:CL}(h:CLOk n a){o:OpT}(ho:OkOp o)(hk: ¬(0≤o.kind∧o.kind≤4)):CLOk n (Cp a o).1:=by
 unfold Cp;split
 · exact h
 rename_i hm;have hm:iF o.at'=true:=by simpa using hm
 have hi:=(nU hm).1;split
 · exact Ky h o
 split
 · unfold Fh
   split
   · exact h
   · rename_i s hs
     split
     · exact h
     · obtain⟨h1,_,_⟩:=(h.at' _ hi).run s hs
       exact h.quiet hi hs inferInstance inferInstance
 split
 · exact h.put (aK _) hi (Lj (h.at' _ hi) ho.n) h.W h.way
 split
 · exact h.put (aK _) hi (crash_ok (h.at' _ hi) _ _ _) h.W h.way
 split
 · exact h.put (aK _) hi (AJ hi (h.at' _ hi)) h.W h.way
 · exact h
theorem Kp{n:Nat}{a:CL}(h:CLOk n a){o:OpT}(ho:OkOp o):CLOk (n+1) (Cp a o).1:=by
 by_cases hk:0≤o.kind∧o.kind≤4
 · unfold Cp
   split
   · exact h.more (by omega)
   rename_i hm;have hm:iF o.at'=true:=by simpa using hm
   have hi:=(nU hm).1;unfold Gy;split
   · exact h.more (by omega)
   · rename_i s hs
     split
     · exact h.more (by omega)
     · obtain⟨h1,_,_⟩:=(h.at' _ hi).run s hs
       have:=ho.change;rcases Gx (K:=KD) s o with⟨e,v,q,_,_,w⟩| ⟨q,_⟩
       · refine h.did (by omega) hi hs inferInstance q ?_
         have:owe (bY KD s o).1≤owe s:=by
          unfold owe;rcases w with e|e
          · rw[e];exact aK _
          · rw[e];exact aO _
         show 1+_+n≤_;omega
       · refine h.did (by omega) hi hs inferInstance q ?_
         have:=LO (bY KD s o).1;show 0+_+n≤_;omega
 · exact(DD h ho hk).more (by omega)
theorem new_ok:CLOk 0 CL.new:=by
 refine⟨by simp[CL.new],by simp[CL.new],λi hi=>?_,λk=>?_⟩
 · have e:CL.new.at' i=si i:=by simp[CL.new,CL.at',List.getD_eq_getElem?_getD,hi]
   rw[e];exact AJ hi ⟨(λs q=>by cases q),λ_=>DkOk.new,aK _⟩
 · have e:CL.new.W.getD k []=[]:=by
    show(List.replicate 25 ([]:List MsgT)).getD k []=[];rw[List.getD_eq_getElem?_getD,List.getElem?_replicate];split<;>rfl
   rw[e];exact⟨aO _,λm hm=>by cases hm⟩
theorem C3: ∀(l:List OpT) {n:Nat} {a:CL},CLOk n a→(∀o∈l,OkOp o)→CLOk (n+l.length) (ln a l)
 | [],_,_,h,_=>h
 |o::l,n,a,h,ho=>by
  have:=C3 l (Kp h (ho o (ki ..))) λx hx=>ho x (Cl _ hx)
  rw[ay,show n+(l.length+1)=n+1+l.length by omega];exact this
end Api
end

section
namespace Go.Proofs.YtjblgopghhgflaaGreat
open Go Leg Codec Api Dsk Wal
theorem th{f:Nat→HP}{k i:Nat}(hi:i<k){H:List HP}{h:Hl}(s:bE (bE ((List.range k).map f)::H) h):bE (f i::bE (((List.range k).map f).eraseIdx i)::H) h:=by
 have s1:bE ((List.range k).map f++H) h:=(bX _ _).2 s;have e:((List.range k).map f).getD i (λ_=>True)=f i:=by simp[List.getD_eq_getElem?_getD,hi]
 have p:=mN (λ_=>True) ((List.range k).map f) i (by simpa using hi);rw[e]at p;exact cB (eg (p.append_right H) s1) (λ_ a=>a) λ_ b=>(bX _ _).1 b
theorem tg{f g:Nat→HP}{k i:Nat}(hi:i<k)(hg: ∀j,j≠i→g j=f j){H:List HP}{h:Hl}(s:bE (g i::bE (((List.range k).map f).eraseIdx i)::H) h):bE (bE ((List.range k).map g)::H) h:=by
 have e0:((List.range k).map g).eraseIdx i=((List.range k).map f).eraseIdx i:=by
  refine List.ext_getElem? λj=>?_
  rw[List.getElem?_eraseIdx,List.getElem?_eraseIdx]
  have: ∀m,m≠i→((List.range k).map g)[m]?=((List.range k).map f)[m]?:=λm hm=>by
   rw[List.getElem?_map,List.getElem?_map]
   by_cases hk:m<k
   · simp[hk,hg m hm]
   · simp[hk]
  split
  · exact this j (by omega)
  · exact this (j+1) (by omega)
 have e:((List.range k).map g).getD i (λ_=>True)=g i:=by simp[List.getD_eq_getElem?_getD,hi]
 have p:=mN (λ_=>True) ((List.range k).map g) i (by simpa using hi);rw[e,e0]at p;have s2:bE ((g i::((List.range k).map f).eraseIdx i)++H) h:=cB s (λ_ a=>a) λ_ b=>(bX _ _).2 b
 exact(bX _ _).1 (eg (p.symm.append_right H) s2)
section
variable {f:FuncId} {args:Array Value} {Q:Value→Prop} {c i:Nat} {a a':CL}
theorem zV(hi:i<5){Z:Value→CL→Prop}(hne: ∀v a',Z v a'→∀j,j≠i→a'.at' j=a.at' j)
 (core: ∀g:CX,DT f args T0 (ah c (eG g.n (mo g) (jK a g.r) g.p) 104::eu 156 208 5 g.n (cJ a.W)::kb (a.at' i) (g.d i) (g.r i) (g.p i))
  (dm λv H=>∃a',Z v a'∧∃g':CX,g'.n=g.n∧(∀j,j≠i→g'.d j=g.d j∧g'.r j=g.r j∧g'.p j=g.p j)∧H=ah c (eG g.n (mo g') (jK a' g'.r) g'.p) 104::eu 156 208 5 g.n (cJ a'.W)::kb (a'.at' i) (g'.d i) (g'.r i) (g'.p i))):
 DT f args T0 [fG c a] (dm λv H=>∃a',Z v a'∧H=[fG c a']):=by
 refine Leg.Does.ex (A':=λg:CX=>(ah c (eG g.n (mo g) (jK a g.r) g.p) 104::eu 156 208 5 g.n (cJ a.W)::kb (a.at' i) (g.d i) (g.r i) (g.p i))++[bE (((List.range 5).map λi=>kq (a.at' i) (g.d i) (g.r i) (g.p i)).eraseIdx i)]) (λh s=>?_) λg=>?_
 · obtain⟨g,s⟩:=fo s
   have s2:=th (f:=λi=>kq (a.at' i) (g.d i) (g.r i) (g.p i)) hi (aC [2,0,0] rfl s);have s3:=(bX (kb (a.at' i) (g.d i) (g.r i) (g.p i)) _).2 s2;exact⟨g,aC [4,4,0,0,0,0] rfl s3⟩
 · refine Leg.Does.withinR (core g) (λ_ _ _ _=>trivial) (λh s=>s) λv H hp=>?_
   obtain⟨a',hz,g',hn,hg,rfl⟩:=hp;refine⟨[fG c a'],λh s=>?_,a',hz,rfl⟩;have s1:=aC [2,2,2,2,0,0] rfl s;have s2:=(bX (kb (a'.at' i) (g'.d i) (g'.r i) (g'.p i)) _).1 s1
   have s3:=tg (f:=λi=>kq (a.at' i) (g.d i) (g.r i) (g.p i)) (g:=λi=>kq (a'.at' i) (g'.d i) (g'.r i) (g'.p i)) hi (λj hj=>by
    obtain⟨h1,h2,h3⟩:=hg j hj
    rw[hne v a' hz j hj,h1,h2,h3]) s2
   refine bj (p:=qu c a') g' ?_;rw[←hn]at s3;exact aC [1,1,0] rfl s3
theorem wl(hne: ∀j,j≠i→a'.at' j=a.at' j)(r:Nat→Nat)(hi:xq (a'.at' i) (r i)=xq (a.at' i) (r i)):jK a' r=jK a r:=funext λj=>by
 by_cases q:j=i
 · subst q;exact hi
 · show xq (a'.at' j) (r j)=xq (a.at' j) (r j)
   rw[hne j q]
theorem DR(hl:a.ms.length=5)(hi:i<5){s:MS LD}(hs:(a.at' i).run=some s){R:Value→MS LD→List (List MsgT)→Prop}
 (core: ∀g:CX,jK a g.r i= .pointer (some ⟨g.r i,0,none⟩)→DT f args T0 [ah c (eG g.n (mo g) (jK a g.r) g.p) 104,dk (g.d i) s.e.D,eu 156 208 5 g.n (cJ a.W),e6 s (g.d i) (g.r i)]
  (dm λv H=>∃s' W',R v s' W'∧H=[ah c (eG g.n (mo g) (jK a g.r) g.p) 104,dk (g.d i) s'.e.D,eu 156 208 5 g.n (cJ W'),e6 s' (g.d i) (g.r i)])):
 DT f args T0 [fG c a] (dm λv H=>∃a',(∃s' W',R v s' W'∧a'=⟨a.ms.set i {a.at' i with run:=some s'},W'⟩)∧H=[fG c a']):=by
 refine zV hi (λv a' hz j hj=>?_) λg=>?_
 · obtain⟨s',W',_,rfl⟩:=hz
   exact wW hj
 · have em:jK a g.r i= .pointer (some ⟨g.r i,0,none⟩):=by show xq (a.at' i) _=_;unfold xq;rw[hs]
   have e1:qf (a.at' i) (g.d i) (g.r i)=e6 s (g.d i) (g.r i):=by unfold qf;rw[hs]
   have e2:(a.at' i).dk=s.e.D:=by unfold Slot.dk;rw[hs]
   refine Leg.Does.withinR (B:=[mi (g.p i) (a.at' i).past]) (core g em) (λ_ _ _ _=>trivial) (λh q=>?_) λv H hp=>?_
   · unfold kb at q
     rw[e1,e2]at q;exact aC [0,1,0,1,0] rfl q
   · obtain⟨s',W',hR,rfl⟩:=hp
     have ea:(CL.mk (a.ms.set i {a.at' i with run:=some s'}) W').at' i= {a.at' i with run:=some s'}:=wV (by rw[hl];exact hi);have hm:jK ⟨a.ms.set i {a.at' i with run:=some s'},W'⟩ g.r=jK a g.r:=wl (λj hj=>wW hj) g.r (by rw[ea];unfold xq;rw[hs]);refine⟨_,λh q=>?_,_,⟨s',W',hR,rfl⟩,g,rfl,λ_ _=>⟨rfl,rfl,rfl⟩,rfl⟩;rw[hm,ea];exact aC [0,1,0,1,0] rfl q
theorem zU(core: ∀g:CX,DT f args T0 [ah c (eG g.n (mo g) (jK a g.r) g.p) 104] (dm λv H=>Q v∧H=[ah c (eG g.n (mo g) (jK a g.r) g.p) 104])):
 DT f args T0 [fG c a] (dm λv H=>Q v∧H=[fG c a]):=by
 refine Leg.Does.ex (A':=λg:CX=>[ah c (eG g.n (mo g) (jK a g.r) g.p) 104]++[eu 156 208 5 g.n (cJ a.W),bE ((List.range 5).map λi=>kq (a.at' i) (g.d i) (g.r i) (g.p i))]) (λh s=>fo s) λg=>?_
 refine Leg.Does.withinR (core g) (λ_ _ _ _=>trivial) (λh s=>s) λv H hp=>?_
 obtain⟨hQ,rfl⟩:=hp;exact⟨[fG c a],λh s=>bj (p:=qu c a) g s,hQ,rfl⟩
theorem H6{R:Value→List (List MsgT)→Prop}(core: ∀g:CX,DT f args T0 [ah c (eG g.n (mo g) (jK a g.r) g.p) 104,eu 156 208 5 g.n (cJ a.W)] (dm λv H=>∃W',R v W'∧H=[ah c (eG g.n (mo g) (jK a g.r) g.p) 104,eu 156 208 5 g.n (cJ W')])):
 DT f args T0 [fG c a] (dm λv H=>∃W',R v W'∧H=[fG c ⟨a.ms,W'⟩]):=by
 refine Leg.Does.ex (A':=λg:CX=>[ah c (eG g.n (mo g) (jK a g.r) g.p) 104,eu 156 208 5 g.n (cJ a.W)]++[bE ((List.range 5).map λi=>kq (a.at' i) (g.d i) (g.r i) (g.p i))]) (λh s=>fo s) λg=>?_
 refine Leg.Does.withinR (core g) (λ_ _ _ _=>trivial) (λh s=>s) λv H hp=>?_
 obtain⟨W',hR,rfl⟩:=hp;exact⟨[fG c ⟨a.ms,W'⟩],λh s=>bj (p:=qu c ⟨a.ms,W'⟩) g s,W',hR,rfl⟩
theorem Jo(hl:a.ms.length=5)(hi:i<5){x:Slot}(hm: ∀r,xq x r=xq (a.at' i) r)(hr: ∀d r,qf x d r=qf (a.at' i) d r)(hp:x.past=(a.at' i).past)
 (core: ∀g:CX,DT f args T0 [ah c (eG g.n (mo g) (jK a g.r) g.p) 104,dk (g.d i) (a.at' i).dk] (dm λv H=>Q v∧H=[ah c (eG g.n (mo g) (jK a g.r) g.p) 104,dk (g.d i) x.dk])):
 DT f args T0 [fG c a] (dm λv H=>∃a',(Q v∧a'=a.set i x)∧H=[fG c a']):=by
 have ea:(a.set i x).at' i=x:=wV (by rw[hl];exact hi);refine zV hi (λv a' hz j hj=>by rw[hz.2];exact wW hj) λg=>?_
 refine Leg.Does.withinR (B:=[eu 156 208 5 g.n (cJ a.W),mi (g.p i) (a.at' i).past,qf (a.at' i) (g.d i) (g.r i)]) (core g) (λ_ _ _ _=>trivial) (λh q=>aC [0,1,0,0,0] rfl q) λv H hq=>?_
 obtain⟨hQ,rfl⟩:=hq;have hmm:jK (a.set i x) g.r=jK a g.r:=wl (λj hj=>wW hj) g.r (by rw[show(CL.mk (a.ms.set i x) a.W).at' i=x from ea];exact hm _);refine⟨_,λh q=>?_,_,⟨hQ,rfl⟩,g,rfl,λ_ _=>⟨rfl,rfl,rfl⟩,rfl⟩;rw[hmm,ea];unfold kb;rw[hp,hr];exact aC [0,1,0,0,0] rfl q
end
theorem lp{f:FuncId}{args:Array Value}{R:Hl→Prop}{A:List HP}{p q:Value→List HP→Prop}(d:DT f args R A (dm p))(k: ∀v H,p v H→q v H):DT f args R A (dm q):=
 Leg.Does.fold d λe H hp=>by
  cases e with
  |returned v=>exact⟨H,λ_ s=>s,k v H hp⟩
  |panicked c=>exact hp.elim
  |outgrown=>exact hp.elim
theorem py{H:List HP}{h:Hl}(s:bE H h):bE ((λ_=>True)::H) h:=⟨em,h,Cn h,(qq h).symm,trivial,s⟩
theorem vn{α:Type}{l:List α}{k:Nat}{d:α}(h:k<l.length):l.set k (l.getD k d)=l:=by
 refine List.ext_getElem? λj=>?_
 by_cases q:j=k
 · subst q;rw[List.getElem?_set_self h,List.getD_eq_getElem?_getD,List.getElem?_eq_getElem h];rfl
 · rw[List.getElem?_set_ne (λe=>q e.symm)]
section
variable {n c i:Nat} {a:CL} {o:OpT}
theorem AU(h:CLOk n a)(hi:i<5):a.set i (a.at' i)=a:=by
 show CL.mk (a.ms.set i (a.ms.getD i .nil)) a.W=a;rw[vn (by rw[h.ms];exact hi)]
theorem vG(h:CLOk n a)(hi:i<5){s:MS LD}(hs:(a.at' i).run=some s):(CL.mk (a.ms.set i {a.at' i with run:=some s}) a.W)=a:=by
 have e:({a.at' i with run:=some s}:Slot)=a.at' i:=by cases q:a.at' i with|mk r D p=>rw[q]at hs;simp only at hs;rw[hs]
 rw[e];exact AU h hi
theorem oA{k:Int}(hk:o.kind=k)(hi:o.at'=((i:Nat):Int)):OpT.mk k ((i:Nat):Int) o.to' o.key o.n o.change o.mask o.torn o.cut=o:=by subst hk;rw[←hi]
theorem se{k:Int}{j:Nat}(hk:o.kind=k)(hi:o.at'=((i:Nat):Int))(hj:o.to'=((j:Nat):Int)):OpT.mk k ((i:Nat):Int) ((j:Nat):Int) o.key o.n o.change o.mask o.torn o.cut=o:=by subst hk;rw[←hi,←hj]
theorem wk{g:CX}{s:MS LD}(hs:(a.at' i).run=some s):jK a g.r i= .pointer (some ⟨g.r i,0,none⟩):=by show xq (a.at' i) _=_;unfold xq;rw[hs]
theorem nV{g:CX}(hs:(a.at' i).run=none):jK a g.r i= .pointer none:=by show xq (a.at' i) _=_;unfold xq;rw[hs]
theorem EL{a':CL}{r r':Nat→Nat}{v:Value}(hne: ∀j,j≠i→a'.at' j=a.at' j)(hr: ∀j,j≠i→r' j=r j)(hv:xq (a'.at' i) (r' i)=v):jK a' r'=kL (jK a r) i v:=funext λj=>by
 by_cases q:j=i
 · subst q;rw[iS];exact hv
 · rw[mF _ _ q]
   show xq (a'.at' j) (r' j)=xq (a.at' j) (r j);rw[hne j q,hr j q]
theorem H7(h:CLOk n a)(hn:n≤100000)(hi:i<5)(hat:o.at'=((i:Nat):Int))(hk:0≤o.kind∧o.kind≤4)(ho:OkOp o):DT 17 #[.pointer (some ⟨c,0,none⟩), .agg (ints o.flat).toArray] T0 [fG c a] (dm λv H=>v= .int .i64 (Gy a i o).2∧H=[fG c (Gy a i o).1]):=by
 have eo:=oA (o:=o) rfl hat;cases hr:(a.at' i).run with
 |none=>
  refine lp (zU (Q:=λv=>v= .int .i64 4) λg=>?_) λv H hp=>?_
  · have:=BX c g.n i (mo g) (jK a g.r) g.p hi (nV hr) o o.kind hk
    rw[eo]at this;exact this
  · unfold Gy;rw[hr];exact hp
 |some s=>
  obtain⟨hs,_,hso⟩:=(h.at' i hi).run s hr;have hrep:=(h.at' i hi).reps;unfold Slot.reps at hrep;rw[hr,aj]at hrep;simp only at hrep;refine lp (DR h.ms hi hr (R:=λv s' W'=>(s.e.D.dn=true∧v= .int .i64 4∧s'=s∧W'=a.W)∨(s.e.D.dn=false∧v= .int .i64 (bY KD s o).2∧s'=(bY KD s o).1.hush∧W'=gO a.W i (bY KD s o).1.o)) λg em=>?_) λv H hp=>?_
  · have:=DK c g.n i (mo g) (jK a g.r) g.p hi (g.d i) (g.r i) s rfl em a.W h.W hso hs o o.kind hk ho.change (by omega)
    rw[eo]at this;refine lp this λv H hp=>?_
    rcases hp with⟨hd,rfl,rfl⟩| ⟨hd,rfl,rfl⟩
    · exact⟨s,a.W, .inl ⟨hd,rfl,rfl,rfl⟩,rfl⟩
    · exact⟨_,_, .inr ⟨hd,rfl,rfl,rfl⟩,rfl⟩
  · obtain⟨a',⟨s',W',hR,rfl⟩,rfl⟩:=hp
    unfold Gy;rw[hr];rcases hR with⟨hd,rfl,rfl,rfl⟩| ⟨hd,rfl,rfl,rfl⟩
    · simp only[hd,if_true];exact⟨by first|rfl|trivial,by rw[vG h hi hr]⟩
    · simp only[hd];exact⟨rfl,rfl⟩
theorem GU(h:CLOk n a)(hi:i<5)(hat:o.at'=((i:Nat):Int))(hk:o.kind=8):DT 17 #[.pointer (some ⟨c,0,none⟩), .agg (ints o.flat).toArray] T0 [fG c a] (dm λv H=>v= .int .i64 (Fh a i).2∧H=[fG c (Fh a i).1]):=by
 have eo:=oA (o:=o) hk hat;cases hr:(a.at' i).run with
 |none=>
  refine lp (zU (Q:=λv=>v= .int .i64 4) λg=>?_) λv H hp=>?_
  · have:=BU c g.n i (mo g) (jK a g.r) g.p hi (nV hr) o
    rw[eo]at this;exact this
  · unfold Fh;rw[hr];exact hp
 |some s=>
  obtain⟨hs,_,hso⟩:=(h.at' i hi).run s hr;refine lp (DR h.ms hi hr (R:=λv s' W'=>(s.e.D.dn=true∧v= .int .i64 4∧s'=s∧W'=a.W)∨(s.e.D.dn=false∧v= .int .i64 0∧s'=(iD KD s).hush∧W'=gO a.W i (iD KD s).o)) λg em=>?_) λv H hp=>?_
  · have:=DF c g.n i (mo g) (jK a g.r) g.p hi (g.d i) (g.r i) s rfl em a.W h.W hso hs o
    rw[eo]at this;refine lp this λv H hp=>?_
    rcases hp with⟨hd,rfl,rfl⟩| ⟨hd,rfl,rfl⟩
    · exact⟨s,a.W, .inl ⟨hd,rfl,rfl,rfl⟩,rfl⟩
    · exact⟨_,_, .inr ⟨hd,rfl,rfl,rfl⟩,rfl⟩
  · obtain⟨a',⟨s',W',hR,rfl⟩,rfl⟩:=hp
    unfold Fh;rw[hr];rcases hR with⟨hd,rfl,rfl,rfl⟩| ⟨hd,rfl,rfl,rfl⟩
    · simp only[hd,if_true];exact⟨by first|rfl|trivial,by rw[vG h hi hr]⟩
    · simp only[hd];exact⟨rfl,rfl⟩
theorem Ik(h:CLOk n a)(hi:i<5)(hat:o.at'=((i:Nat):Int))(hk:o.kind=9):DT 17 #[.pointer (some ⟨c,0,none⟩), .agg (ints o.flat).toArray] T0 [fG c a] (dm λv H=>v= .int .i64 0∧H=[fG c (a.set i (xB (a.at' i) o.n))]):=by
 have eo:=oA (o:=o) hk hat
 have ed:(xB (a.at' i) o.n).dk=(a.at' i).dk.arm o.n:=by
  unfold xB Slot.dk;cases hr:(a.at' i).run with
  |none=>simp only[hr]
  |some s=>rfl
 refine lp (Jo (x:=xB (a.at' i) o.n) (Q:=λv=>v= .int .i64 0) h.ms hi (λr=>?_) (λd r=>?_) ?_ λg=>?_) λv H hp=>?_
 · unfold xB xq
   cases hr:(a.at' i).run with
   |none=>simp only[hr]
   |some s=>rfl
 · unfold xB qf
   cases hr:(a.at' i).run with
   |none=>simp only[hr]
   |some s=>rfl
 · unfold xB;split<;>rfl
 · have:=DM c g.n i (mo g) (jK a g.r) g.p hi (g.d i) rfl (a.at' i).dk o
   rw[eo]at this;rw[ed];exact this
 · obtain⟨a',⟨rfl,rfl⟩,rfl⟩:=hp
   exact⟨rfl,rfl⟩
theorem DV(h:CLOk n a)(hn:n≤100000)(hi:i<5)(hat:o.at'=((i:Nat):Int))(hk:o.kind=10):DT 17 #[.pointer (some ⟨c,0,none⟩), .agg (ints o.flat).toArray] T0 [fG c a] (dm λv H=>v= .int .i64 0∧H=[fG c (a.set i (nw (a.at' i) o.mask o.torn o.cut))]):=by
 have eo:=oA (o:=o) hk hat;have so:=h.at' i hi;have hrep:=so.reps;unfold Slot.reps at hrep;rw[aj]at hrep;have ea:(a.set i (nw (a.at' i) o.mask o.torn o.cut)).at' i=nw (a.at' i) o.mask o.torn o.cut:=wV (by rw[h.ms];exact hi);have hne: ∀j,j≠i→(a.set i (nw (a.at' i) o.mask o.torn o.cut)).at' j=a.at' j:=λj hj=>wW hj
 refine lp (zV (Z:=λv a'=>v= .int .i64 0∧a'=a.set i (nw (a.at' i) o.mask o.torn o.cut)) hi (λv a' hz j hj=>by rw[hz.2];exact hne j hj) λg=>?_) λv H hp=>by obtain⟨_,⟨rfl,rfl⟩,rfl⟩:=hp;exact⟨rfl,rfl⟩
 have fin: ∀u,u.oneCell'=true→∀h,bE ([ah c (eG g.n (mo g) (kL (jK a g.r) i (.pointer none)) (kL g.p i u)) 104,dk (g.d i) ((a.at' i).dk.crash o.mask o.torn o.cut),mi u (a.at' i).reps]++[eu 156 208 5 g.n (cJ a.W)]) h→
  bE (ah c (eG g.n (mo {g with p:=kL g.p i u}) (jK (a.set i (nw (a.at' i) o.mask o.torn o.cut)) g.r) (kL g.p i u)) 104::eu 156 208 5 g.n (cJ (a.set i (nw (a.at' i) o.mask o.torn o.cut)).W)::kb ((a.set i (nw (a.at' i) o.mask o.torn o.cut)).at' i) (g.d i) (g.r i) (kL g.p i u i)) h:=λu _ hh q=>by
  rw[EL (a:=a) (i:=i) (v:= .pointer none) (r:=g.r) hne (λ_ _=>rfl) (by rw[ea];rfl),ea,iS];have q2:=py (aC [0,2,0,0] rfl q);exact aC [1,1,1,1,0] rfl q2
 cases hr:(a.at' i).run with
 |none=>
  have er:(a.at' i).reps=(a.at' i).past:=by unfold Slot.reps;rw[hr,ba]
  have:=DJ c g.n i (mo g) (jK a g.r) g.p hi (g.d i) rfl (nV hr) (a.at' i).past (by omega) (a.at' i).dk so.dk.ok o;rw[eo]at this;refine Leg.Does.withinR (B:=[eu 156 208 5 g.n (cJ a.W)]) this (λ_ _ _ _=>trivial) (λhh q=>?_) λv H hp=>?_
  · exact ak [0,1,1,0] rfl q
  · obtain⟨u,hu,rfl,rfl⟩:=hp
    refine⟨_,λhh q=>fin u hu hh ?_,_,⟨rfl,rfl⟩,{g with p:=kL g.p i u},rfl,λj hj=>⟨rfl,rfl,mF _ _ hj⟩,rfl⟩;rw[er];exact q
 |some s=>
  rw[hr]at hrep;simp only at hrep;have er:(a.at' i).reps=(a.at' i).past++s.replies:=by unfold Slot.reps;rw[hr]
  have e1:qf (a.at' i) (g.d i) (g.r i)=e6 s (g.d i) (g.r i):=by unfold qf;rw[hr]
  have:=DI c g.n i (mo g) (jK a g.r) g.p hi (g.d i) rfl (g.r i) s (wk hr) (a.at' i).past (by omega) (by omega) (a.at' i).dk so.dk.ok o;rw[eo]at this;refine Leg.Does.withinR (B:=[eu 156 208 5 g.n (cJ a.W)]) this (λ_ _ _ _=>trivial) (λhh q=>?_) λv H hp=>?_
  · unfold kb at q
    rw[e1]at q;exact aC [0,1,1,1,0] rfl q
  · obtain⟨u,hu,rfl,rfl⟩:=hp
    refine⟨_,λhh q=>fin u hu hh ?_,_,⟨rfl,rfl⟩,{g with p:=kL g.p i u},rfl,λj hj=>⟨rfl,rfl,mF _ _ hj⟩,rfl⟩;rw[er];exact q
end
section
variable {n c i:Nat} {a:CL} {o:OpT}
theorem AO{i:Nat}{D:DS}{s:MS LD}(h:(cY i D).1=some s):(cY i D).2=0:=by
 obtain⟨h1,h2⟩:=tK h;unfold cY;rw[if_neg (by rw[h1];decide),h2]
theorem AP(h:CLOk n a)(hi:i<5)(hat:o.at'=((i:Nat):Int))(hk:o.kind=11):DT 17 #[.pointer (some ⟨c,0,none⟩), .agg (ints o.flat).toArray] T0 [fG c a] (dm λv H=>v= .int .i64 (j5 i (a.at' i)).2∧H=[fG c (a.set i (j5 i (a.at' i)).1)]):=by
 have eo:=oA (o:=o) hk hat;have so:=h.at' i hi;cases hr:(a.at' i).run with
 |some s=>
  have e:j5 i (a.at' i)=(a.at' i,5):=by unfold j5;rw[hr]
  rw[e,show a.set i (a.at' i,(5:Int)).1=a from AU h hi];refine zU (Q:=λv=>v= .int .i64 5) λg=>?_
  have:=DG c g.n i (mo g) (jK a g.r) g.p hi (g.r i) (wk hr) o;rw[eo]at this;exact this
 |none=>
  have e:j5 i (a.at' i)=({a.at' i with run:=(cY i (a.at' i).D).1,D:=(bL (a.at' i).D).D},(cY i (a.at' i).D).2):=by unfold j5;rw[hr]
  have hD:=so.D hr;have ed:(a.at' i).dk=(a.at' i).D:=by unfold Slot.dk;rw[hr]
  have e1: ∀d r,qf (a.at' i) d r= λ_=>True:=λd r=>by unfold qf;rw[hr]
  have hst: ∀x:Slot,(a.set i x).at' i=x:=λx=>wV (by rw[h.ms];exact hi)
  have hne: ∀x:Slot,∀j,j≠i→(a.set i x).at' j=a.at' j:=λx j hj=>wW hj
  refine lp (zV (Z:=λv a'=>v= .int .i64 (j5 i (a.at' i)).2∧a'=a.set i (j5 i (a.at' i)).1) hi (λv a' hz j hj=>by rw[hz.2];exact hne _ j hj) λg=>?_) λv H hp=>by obtain⟨_,⟨rfl,rfl⟩,rfl⟩:=hp;exact⟨rfl,rfl⟩
  have:=DH c g.n i (mo g) (jK a g.r) g.p hi (g.d i) rfl (nV hr) (a.at' i).D hD o;rw[eo]at this;refine Leg.Does.withinR (B:=[eu 156 208 5 g.n (cJ a.W),mi (g.p i) (a.at' i).past]) this (λ_ _ _ _=>trivial) (λhh q=>?_) λv H hp=>?_
  · unfold kb at q
    rw[ed]at q;exact ak [0,1,0,0] rfl q
  · rcases hp with⟨hn,rfl,rfl⟩| ⟨s,r,hn,rfl,rfl⟩
    · refine⟨_,λhh q=>?_,_,⟨by rw[e],rfl⟩,g,rfl,λj hj=>⟨rfl,rfl,rfl⟩,rfl⟩
      rw[hst,e];have em:jK (a.set i {a.at' i with run:=(cY i (a.at' i).D).1,D:=(bL (a.at' i).D).D}) g.r=jK a g.r:=wl (hne _) g.r (by rw[hst];unfold xq;rw[hr];simp only[hn]);rw[em];have q2:=py (aC [0,1,0,0] rfl q);have q3:=aC [1,1,1,1,0] rfl q2;unfold kb Slot.dk qf;simp only[hn];exact q3
    · refine⟨_,λhh q=>?_,_,⟨by rw[e];simp only[AO hn],rfl⟩,{g with r:=kL g.r i r},rfl,λj hj=>⟨rfl,mF _ _ hj,rfl⟩,rfl⟩
      rw[hst,e];have em:jK (a.set i {a.at' i with run:=(cY i (a.at' i).D).1,D:=(bL (a.at' i).D).D}) (kL g.r i r)=kL (jK a g.r) i (.pointer (some ⟨r,0,none⟩)):=EL (hne _) (λj hj=>mF _ _ hj) (by rw[hst,iS];unfold xq;simp only[hn]);rw[em];have q3:=aC [0,2,1,1,0] rfl q;unfold kb Slot.dk qf;simp only[hn,iS];exact q3
theorem Fb(h:CLOk n a)(hn:n≤100000)(hi:i<5)(hat:o.at'=((i:Nat):Int))(hk:o.kind=5∨o.kind=6∨o.kind=7):DT 59 #[.pointer (some ⟨c,0,none⟩), .agg (ints o.flat).toArray] T0 [fG c a] (dm λv H=>v= .int .i64 (pk a o).2∧H=[fG c (pk a o).1]):=by
 cases hv:dG o.at' o.to' with
 |false=>
  have e:pk a o=(a,5):=by unfold pk;rw[if_pos hv]
  rw[e];have eo:=oA (o:=o) rfl hat;refine lp (H6 (R:=λv W'=>v= .int .i64 5∧W'=a.W) λg=>?_) λv H hp=>by obtain⟨_,⟨rfl,rfl⟩,rfl⟩:=hp;exact⟨rfl,rfl⟩
  refine Leg.Does.ex (A':=λbs:List Nat=>[ah c (eG g.n (mo g) (jK a g.r) g.p) 104,ah g.n (dv bs) 156]++[eH 208 5 bs (cJ a.W)]) (λhh q=>?_) λbs=>?_
  · obtain⟨bs,q⟩:=fo (eg (List.Perm.swap _ _ _) q)
    exact⟨bs,aC [2,0,0] rfl q⟩
  · rw[hat]at hv
    have:=Av c g.n i (mo g) (jK a g.r) g.p hi o.to' o.kind o hv bs;rw[eo]at this;refine Leg.Does.withinR this (λ_ _ _ _=>trivial) (λhh q=>q) λv H hp=>?_
    obtain⟨rfl,rfl⟩:=hp;refine⟨_,λhh q=>?_,a.W,⟨rfl,rfl⟩,rfl⟩;exact eg (List.Perm.swap _ _ _) (bj (p:=λbs:List Nat=>[ah g.n (dv bs) 156,eH 208 5 bs (cJ a.W)]) bs (aC [1,1,0] rfl q))
 |true=>
  obtain⟨j,hto⟩: ∃j:Nat,o.to'=((j:Nat):Int):=⟨o.to'.toNat,((nU (rI hv).2).2).symm⟩;have hj:j<5:=by have:=(nU (rI hv).2).1;rw[hto]at this;simpa using this
  have hv2:dG ((i:Nat):Int) ((j:Nat):Int)=true:=by rw[←hat,←hto];exact hv
  have eK:bB o.at' o.to'=bB ((i:Nat):Int) ((j:Nat):Int):=by rw[hat,hto]
  have hij:((i:Nat):Int)≠((j:Nat):Int):=λe=>by
   unfold dG at hv2;rw[decide_eq_true e]at hv2;simp at hv2
  obtain⟨h8,hlen⟩:=h.way (bB ((i:Nat):Int) ((j:Nat):Int));have hkl:bB ((i:Nat):Int) ((j:Nat):Int)<a.W.length:=by rw[h.W];exact(ig hv2).1
  -- the net alone
  have net: ∀{R:Value→List (List MsgT)→Prop},(∀(g:CX) (bs:List Nat),Leg.Does Tryz.prog 59 #[.pointer (some ⟨c,0,none⟩), .agg (ints o.flat).toArray] (λ_=>True) [ah g.n (dv bs) 156,eH 208 5 bs (cJ a.W),ah c (eG g.n (mo g) (jK a g.r) g.p) 104] (dm λv H=>∃W',R v W'∧H=[ah c (eG g.n (mo g) (jK a g.r) g.p) 104,eu 156 208 5 g.n (cJ W')]))→
   Leg.Does Tryz.prog 59 #[.pointer (some ⟨c,0,none⟩), .agg (ints o.flat).toArray] (λ_=>True) [fG c a] (dm λv H=>∃W',R v W'∧H=[fG c ⟨a.ms,W'⟩]):=λcore=>H6 λg=>Leg.Does.ex (A':=λbs:List Nat=>[ah g.n (dv bs) 156,eH 208 5 bs (cJ a.W),ah c (eG g.n (mo g) (jK a g.r) g.p) 104]) (λhh q=>fo (eg (List.Perm.swap _ _ _) q)) (core g)
  cases hl:a.W.getD (bB ((i:Nat):Int) ((j:Nat):Int)) []with
  |nil=>
   have e:pk a o=(a,10):=by unfold pk;rw[if_neg (by rw[hv];decide),eK,hl]
   rw[e];refine lp (net (R:=λv W'=>v= .int .i64 10∧W'=a.W) λg bs=>?_) λv H hp=>by obtain⟨_,⟨rfl,rfl⟩,rfl⟩:=hp;exact⟨rfl,rfl⟩
   have:=yT c g.n i (mo g) (jK a g.r) g.p hi j hj hv2 a.W h.W _ rfl h8 hlen o o.kind hl bs;rw[se rfl hat hto,vn hkl]at this;exact lp this λv H hp=>⟨a.W,⟨hp.1,rfl⟩,hp.2⟩
  |cons m0 l0=>
   by_cases h7:o.kind=7
   · have e:pk a o=(a.way (bB ((i:Nat):Int) ((j:Nat):Int)) (CB (m0::l0)),if GS (m0::l0)then 0 else 3):=by
      unfold pk;rw[if_neg (by rw[hv];decide),eK,hl];simp only[if_pos h7];split
      · rfl
      · rename_i q
        have q2:CB (m0::l0)=m0::l0:=by unfold CB;unfold GS at q;rw[if_neg (by simpa using q)]
        rw[q2];show(a,(3:Int))=(CL.mk a.ms (a.W.set _ (m0::l0)),3);rw[←hl,vn hkl]
     rw[e];refine lp (net (R:=λv W'=>v= .int .i64 (if GS (m0::l0)then 0 else 3)∧W'=a.W.set (bB ((i:Nat):Int) ((j:Nat):Int)) (CB (m0::l0))) λg bs=>?_) λv H hp=>by obtain⟨_,⟨rfl,rfl⟩,rfl⟩:=hp;exact⟨rfl,rfl⟩
     have:=xd c g.n i (mo g) (jK a g.r) g.p hi j hj hv2 a.W h.W (m0::l0) hl (by rw[←hl];exact h8) (by rw[←hl];exact hlen) o (by simp) bs;rw[se h7 hat hto]at this;exact lp this λv H hp=>⟨_,⟨hp.1,rfl⟩,hp.2⟩
   · cases ht:kR (max o.n 0% ((m0::l0).length:Int)).toNat (m0::l0)with
     |nil=>have:=jZ (max o.n 0% ((m0::l0).length:Int)).toNat (m0::l0);rw[ht]at this;simp at this
     |cons m l2=>
      by_cases h6:o.kind=6
      · have e:pk a o=(a.way (bB ((i:Nat):Int) ((j:Nat):Int)) l2,0):=by
         unfold pk;rw[if_neg (by rw[hv];decide),eK,hl];simp only[if_neg h7];rw[ht];simp only[if_pos h6]
        rw[e];refine lp (net (R:=λv W'=>v= .int .i64 0∧W'=a.W.set (bB ((i:Nat):Int) ((j:Nat):Int)) l2) λg bs=>?_) λv H hp=>by obtain⟨_,⟨rfl,rfl⟩,rfl⟩:=hp;exact⟨rfl,rfl⟩
        have:=rC c g.n i (mo g) (jK a g.r) g.p hi j hj hv2 a.W h.W (m0::l0) hl (by rw[←hl];exact h8) (by rw[←hl];exact hlen) o m l2 ht bs 6 (.inr rfl) (.inl rfl);rw[se h6 hat hto]at this;exact lp this λv H hp=>⟨_,⟨hp.1,rfl⟩,hp.2⟩
      · have h5:o.kind=5:=by omega
        have e:pk a o=wL (a.way (bB ((i:Nat):Int) ((j:Nat):Int)) l2) i j m:=by
         unfold pk;rw[if_neg (by rw[hv];decide),eK,hl];simp only[if_neg h7];rw[ht];simp only[if_neg h6];rw[hat,hto];rfl
        rw[e];have ew:(a.way (bB ((i:Nat):Int) ((j:Nat):Int)) l2).at' j=a.at' j:=rfl;cases hr:(a.at' j).run with
        |none=>
         have e2:wL (a.way (bB ((i:Nat):Int) ((j:Nat):Int)) l2) i j m=(a.way (bB ((i:Nat):Int) ((j:Nat):Int)) l2,0):=by unfold wL;rw[ew,hr]
         rw[e2];refine lp (net (R:=λv W'=>v= .int .i64 0∧W'=a.W.set (bB ((i:Nat):Int) ((j:Nat):Int)) l2) λg bs=>?_) λv H hp=>by obtain⟨_,⟨rfl,rfl⟩,rfl⟩:=hp;exact⟨rfl,rfl⟩
         have:=rC c g.n i (mo g) (jK a g.r) g.p hi j hj hv2 a.W h.W (m0::l0) hl (by rw[←hl];exact h8) (by rw[←hl];exact hlen) o m l2 ht bs 5 (.inl rfl) (.inr (nV hr));rw[se h5 hat hto]at this;exact lp this λv H hp=>⟨_,⟨hp.1,rfl⟩,hp.2⟩
        |some s=>
         obtain⟨hs,hid,hso⟩:=(h.at' j hj).run s hr;have hrep:=(h.at' j hj).reps;unfold Slot.reps at hrep;rw[hr,aj]at hrep;simp only at hrep;have W2:(a.W.set (bB ((i:Nat):Int) ((j:Nat):Int)) l2).length=25:=by rw[cu];exact h.W
         refine lp (DR h.ms hj hr (R:=λv s' W'=>(s.e.D.dn=true∧v= .int .i64 0∧s'=s∧W'=a.W.set (bB ((i:Nat):Int) ((j:Nat):Int)) l2)∨(s.e.D.dn=false∧(jF (dX m)).2≠0∧v= .int .i64 (jF (dX m)).2∧s'=s∧W'=a.W.set (bB ((i:Nat):Int) ((j:Nat):Int)) l2)∨(s.e.D.dn=false∧(jF (dX m)).2=0∧v= .int .i64 0∧s'=(gk KD s ((i:Nat):Int) (jF (dX m)).1).hush∧W'=gO (a.W.set (bB ((i:Nat):Int) ((j:Nat):Int)) l2) j (gk KD s ((i:Nat):Int) (jF (dX m)).1).o)) λg em=>?_) λv H hp=>?_
         · refine Leg.Does.ex (A':=λbs:List Nat=>[ah g.n (dv bs) 156,eH 208 5 bs (cJ a.W),ah c (eG g.n (mo g) (jK a g.r) g.p) 104,dk (g.d j) s.e.D,e6 s (g.d j) (g.r j)]) (λhh q=>fo (aC [2,0,0,0] rfl q)) λbs=>?_
           have:=yU c g.n i (mo g) (jK a g.r) g.p hi j hj hv2 a.W h.W (m0::l0) hl (by rw[←hl];exact h8) (by rw[←hl];exact hlen) o m l2 ht bs (g.d j) (g.r j) s rfl em hso hs (by rw[hid];exact hij) (by omega);rw[se h5 hat hto]at this;refine lp this λv H hp=>?_
           rcases hp with⟨hd,rfl,rfl⟩| ⟨hd,h1,rfl,rfl⟩| ⟨hd,h1,rfl,rfl⟩
           · exact⟨_,_, .inl ⟨hd,rfl,rfl,rfl⟩,rfl⟩
           · exact⟨_,_, .inr (.inl ⟨hd,h1,rfl,rfl,rfl⟩),rfl⟩
           · exact⟨_,_, .inr (.inr ⟨hd,h1,rfl,rfl,rfl⟩),rfl⟩
         · obtain⟨a',⟨s',W',hR,rfl⟩,rfl⟩:=hp
           have er: ∀W',CL.mk (a.ms.set j {a.at' j with run:=some s}) W'=CL.mk a.ms W':=λW'=>by
            have:=congrArg CL.ms (vG h hj hr);rw[show a.ms.set j {a.at' j with run:=some s}=a.ms from this]
           unfold wL;rw[ew,hr];rcases hR with⟨hd,rfl,rfl,rfl⟩| ⟨hd,h1,rfl,rfl,rfl⟩| ⟨hd,h1,rfl,rfl,rfl⟩
           · simp only[hd,if_true];exact⟨by first|rfl|trivial,by rw[er];rfl⟩
           · simp only[hd,if_neg h1];exact⟨by first|rfl|trivial,by rw[er];rfl⟩
           · simp only[hd,if_pos h1];exact⟨by first|rfl|trivial,rfl⟩
end
theorem DL(c:Nat)(X:HP)(o:OpT)(hm:iF o.at'=false):
 DT 17 #[(.pointer (some ⟨c,0,none⟩)),(.agg (ints o.flat).toArray)] T0 [X] (RI (.int .i64 5) [X]):=by
 refine BD 114 Tryz.func17 rfl rfl rfl λw0 F hF=>sr λ_ J1=>XY (ints o.flat) λb3=>?_
 refine PS ?_;refine nx J1 (ab λ_ J2=>sr λ_ J3=>PS ?_);refine FA 1 fC aQ ?_;refine LU 0 Y3 (bK o rfl) ?_;refine CE pH (vS c o.at') ID ?_;rw[hm];refine PS ?_;refine nx J3 (CY (sr λ_ J4=>PS ?_));exact nx J4 (ai (ae (WK [1] (au rfl rfl ⟨rfl,rfl⟩))))
theorem DE(c i:Nat)(hi:i<5)(X:HP)(o:OpT)(k:Int)(hk:k=5∨k=6∨k=7)(p:Int→HP→Prop)(hw:DT 59 #[(.pointer (some ⟨c,0,none⟩)),(.agg (ints (OpT.mk k ((i:Nat):Int) o.to' o.key o.n o.change o.mask o.torn o.cut).flat).toArray)] T0 [X] (dm (λv H=>∃e X',v= .int .i64 e∧H=[X']∧p e X'))):
 DT 17 #[(.pointer (some ⟨c,0,none⟩)),(.agg (ints (OpT.mk k ((i:Nat):Int) o.to' o.key o.n o.change o.mask o.torn o.cut).flat).toArray)] T0 [X] (dm (λv H=>∃e X',v= .int .i64 e∧H=[X']∧p e X')):=by
 refine BD 114 Tryz.func17 rfl rfl rfl λw0 F hF=>sr λ_ J1=>XY (ints (OpT.mk k ((i:Nat):Int) o.to' o.key o.n o.change o.mask o.torn o.cut).flat) λb3=>?_
 refine PS ?_;refine nx J1 (ab λ_ J2=>sr λ_ J3=>PS ?_);refine FA 1 fC aQ ?_;refine LT 0 Y3 (.int .i64 (((i:Nat):Int))) ?_ (hc:=by exact bK _ rfl);refine CE pH (dO c i hi) ID ?_;refine PS ?_;refine nx J3 (CN (qx J2 (ab λ_ J4=>sr λ_ J5=>FA 0 fC aQ ?_)));refine LT 0 Y3 (.int .i64 (k)) ?_ (hc:=by exact cU _ rfl);refine nx J5 (aq (ab λ_ J6=>sr λ_ J7=>P2 ?_));refine an ?_ ?_<;>intro h12
 · exact absurd h12 (by omega)
 refine nx J7 (CN (sr λ_ J8=>P2 ?_));refine an ?_ ?_<;>intro h12
 · exact absurd h12 (by omega)
 refine nx J8 (CN (sr λ_ J9=>P2 ?_));refine an ?_ ?_<;>intro h12
 · exact absurd h12 (by omega)
 refine nx J9 (CN (sr λ_ J10=>P2 ?_));refine an ?_ ?_<;>intro h12
 · exact absurd h12 (by omega)
 refine nx J10 (CN (ad (PS ?_)));refine an ?_ ?_<;>intro h17
 · exact absurd h17 (by omega)
 refine PS ?_;refine nx J6 (CN (ab λ_ J11=>e7 (α:=Unit) (λ_u=>True) (λ_u=>[(0,(.pointer (some ⟨c,0,none⟩))),(3,(.pointer (some ⟨b3,0,none⟩))),(4,(.int .i64 0)),(11,(.int .i64 (k))),(37,(.bool true))]) (λ_u=>[ah b3 (ints (OpT.mk k ((i:Nat):Int) o.to' o.key o.n o.change o.mask o.torn o.cut).flat) 30,X]) (λ_u hinv=>?_) (λtl11=>?_)));have _:=hinv;refine ac J11 (CY (sr λ_ J12=>PS ?_));refine LW 0 fC AA It ?_;refine CR NZ (hw) (SM [1]) λvR HR hR=>?_
 obtain⟨e,X',rfl,rfl,hp⟩:=hR;refine PS ?_;exact nx J12 (ai (aH (ae (WK [0] (au rfl rfl ⟨e,X',rfl,rfl,hp⟩)))));refine sr λ_ J13=>P2 ?_
 refine an ?_ ?_<;>intro h37;refine nx J13 (CY (aR ?_))
 exact aF
  SB
  (λ_ s=>ak [0,0] rfl s)
  (tl11 (():Unit) trivial)
 refine nx J13 (CN (sr λ_ J14=>P2 ?_));refine an ?_ ?_<;>intro h37;refine nx J14 (CY (aR ?_))
 exact aF
  SB
  (λ_ s=>ak [0,0] rfl s)
  (tl11 (():Unit) trivial)
 refine nx J14 (CN (ad (PS ?_)));refine an ?_ ?_<;>intro h40;refine PS ?_;refine ap ?_
 exact aF
  SB
  (λ_ s=>ak [0,0] rfl s)
  (tl11 (():Unit) trivial)
 · exact absurd h40 (by omega)
theorem BW(c i:Nat)(hi:i<5)(X:HP)(o:OpT)(k:Int)(hk:k<0∨11<k):
 DT 17 #[(.pointer (some ⟨c,0,none⟩)),(.agg (ints (OpT.mk k ((i:Nat):Int) o.to' o.key o.n o.change o.mask o.torn o.cut).flat).toArray)] T0 [X] (RI (.int .i64 5) [X]):=by
 refine BD 114 Tryz.func17 rfl rfl rfl λw0 F hF=>sr λ_ J1=>XY (ints (OpT.mk k ((i:Nat):Int) o.to' o.key o.n o.change o.mask o.torn o.cut).flat) λb3=>?_
 refine PS ?_;refine nx J1 (ab λ_ J2=>sr λ_ J3=>PS ?_);refine FA 1 fC aQ ?_;refine LT 0 Y3 (.int .i64 (((i:Nat):Int))) ?_ (hc:=by exact bK _ rfl);refine CE pH (dO c i hi) ID ?_;refine PS ?_;refine nx J3 (CN (qx J2 (ab λ_ J4=>sr λ_ J5=>FA 0 fC aQ ?_)));refine LT 0 Y3 (.int .i64 (k)) ?_ (hc:=by exact cU _ rfl);refine nx J5 (aq (ab λ_ J6=>sr λ_ J7=>P2 ?_));refine an ?_ ?_<;>intro h12
 · exact absurd h12 (by omega)
 refine nx J7 (CN (sr λ_ J8=>P2 ?_));refine an ?_ ?_<;>intro h12
 · exact absurd h12 (by omega)
 refine nx J8 (CN (sr λ_ J9=>P2 ?_));refine an ?_ ?_<;>intro h12
 · exact absurd h12 (by omega)
 refine nx J9 (CN (sr λ_ J10=>P2 ?_));refine an ?_ ?_<;>intro h12
 · exact absurd h12 (by omega)
 refine nx J10 (CN (ad (PS ?_)));refine an ?_ ?_<;>intro h17
 · exact absurd h17 (by omega)
 refine PS ?_;refine nx J6 (CN (ab λ_ J11=>sr λ_ J12=>P2 ?_));refine an ?_ ?_<;>intro h37
 · exact absurd h37 (by omega)
 refine nx J12 (CN (sr λ_ J13=>P2 ?_));refine an ?_ ?_<;>intro h37
 · exact absurd h37 (by omega)
 refine nx J13 (CN (ad (PS ?_)));refine an ?_ ?_<;>intro h40
 · exact absurd h40 (by omega)
 refine PS ?_;refine nx J11 (CN (sr λ_ J14=>PS ?_));refine an ?_ ?_<;>intro h45
 · exact absurd h45 (by omega)
 refine PS ?_;refine nx J14 (CN (sr λ_ J15=>PS ?_));refine an ?_ ?_<;>intro h65
 · exact absurd h65 (by omega)
 refine PS ?_;refine nx J15 (CN (sr λ_ J16=>PS ?_));refine an ?_ ?_<;>intro h77
 · exact absurd h77 (by omega)
 refine PS ?_;refine nx J16 (CN (sr λ_ J17=>PS ?_));refine an ?_ ?_<;>intro h109
 · exact absurd h109 (by omega)
 refine PS ?_;refine nx J17 (CN (sr λ_ J18=>PS ?_));exact nx J18 (ai (aH (ae (WK [1] (au rfl rfl ⟨rfl,rfl⟩)))))
section
variable {n c:Nat} {a:CL} {o:OpT}
theorem sF(h:CLOk n a)(hn:n≤100000)(ho:OkOp o):DT 17 #[.pointer (some ⟨c,0,none⟩), .agg (ints o.flat).toArray] T0 [fG c a] (dm λv H=>v= .int .i64 (Cp a o).2∧H=[fG c (Cp a o).1]):=by
 unfold Cp
 by_cases hm:iF o.at'=false
 · rw[if_pos hm]
   exact DL c (fG c a) o hm
 · rw[if_neg hm]
   have hm:iF o.at'=true:=by simpa using hm
   obtain⟨hi,hat⟩:=nU hm
   by_cases h1:0≤o.kind∧o.kind≤4
   · rw[if_pos h1];exact H7 h hn hi hat.symm h1 ho
   rw[if_neg h1]
   by_cases h2:o.kind=5∨o.kind=6∨o.kind=7
   · rw[if_pos h2]
     have:=DE c _ hi (fG c a) o o.kind h2 (λe X=>e=(pk a o).2∧X=fG c (pk a o).1) (by
      rw[oA rfl hat.symm]
      exact lp (Fb h hn hi hat.symm h2) λv H hp=>⟨_,_,hp.1,hp.2,rfl,rfl⟩)
     rw[oA rfl hat.symm]at this
     exact lp this λv H hp=>by
      obtain⟨e,X,rfl,rfl,rfl,rfl⟩:=hp;exact⟨rfl,rfl⟩
   rw[if_neg h2]
   by_cases h3:o.kind=8
   · rw[if_pos h3];exact GU h hi hat.symm h3
   rw[if_neg h3]
   by_cases h4:o.kind=9
   · rw[if_pos h4];exact Ik h hi hat.symm h4
   rw[if_neg h4]
   by_cases h5:o.kind=10
   · rw[if_pos h5];exact DV h hn hi hat.symm h5
   rw[if_neg h5]
   by_cases h6:o.kind=11
   · rw[if_pos h6];exact AP h hi hat.symm h6
   rw[if_neg h6];have:=BW c _ hi (fG c a) o o.kind (by omega);rw[oA rfl hat.symm]at this;exact this
end
end Go.Proofs.YtjblgopghhgflaaGreat
end
