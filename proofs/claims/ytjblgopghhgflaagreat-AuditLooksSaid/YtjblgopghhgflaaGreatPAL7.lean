/-
  Joined texts:what a statement's proof reaches.
-/
import Derived.Test.YtjblgopghhgflaaGreatPAL6
set_option maxHeartbeats 8000000
set_option maxRecDepth 100000
set_option linter.unusedSimpArgs false
set_option linter.unusedVariables false
section
namespace Go.Proofs.YtjblgopghhgflaaGreat
open Go Leg Codec Api Dsk Wal
theorem Ck{δ:Type}(V:Env δ)(r:Nat)(s:MS δ)[OkR V.toDk s](hv:(fV V.toDk (bZ V.toDk (bR V.toDk s))).vote=none):
 DT 60 #[(.pointer (some ⟨r,0,none⟩)),(.iface V.T V.ov)] T0 [cC V r s] (c9 (λ_ H=>H=[cC V r (iy V.toDk s)])):=by
 refine BD 89 Tryz.func60 rfl rfl rfl λw0 F hF=>ab λ_ J1=>eV (α:=Unit) (λ_u=>True) (λ_u=>[(0,(.pointer (some ⟨r,0,none⟩))),(1,(.iface V.T V.ov))]) (λ_u=>[cC V r (if s.busy=true then fj V.toDk s else s)]) (λ_u hinv=>?_) (λtl1=>?_)
 have _:=hinv;refine ac J1 (sr λ_ J2=>P2 ?_);refine CZ Ei (oA V r (if s.busy=true then fj V.toDk s else s)) ID λvR=>?_
 refine nx J2 (sr λ_ J3=>P2 ?_);refine CZ Hk (pM V r (mO V.toDk (if s.busy=true then fj V.toDk s else s))) ID λvR=>?_
 refine nx J3 (ab λ_ J4=>eV (α:=Unit) (λ_u=>True) (λ_u=>[(0,(.pointer (some ⟨r,0,none⟩))),(1,(.iface V.T V.ov))]) (λ_u=>[cC V r (bZ V.toDk (bR V.toDk s))]) (λ_u hinv=>?_) (λtl4=>?_));have _:=hinv;refine ac J4 (ab λ_ J5=>ab λ_ J6=>DB bh (cL 0 rfl rfl) ?_);refine PD 0 ?_;refine PD 1 ?_;refine FD 2 2 bg bc ?_;refine ta 3 rfl (fQ (vs:=ints ((bZ V.toDk (bR V.toDk s)).view).flat) rfl eE rfl bc rfl (λ_ h=>h.2.1) (am ((bZ V.toDk (bR V.toDk s)).view)) (λa_=>(fL ((bZ V.toDk (bR V.toDk s)).rep a_) 0 rfl (by decide) (whole (am (((bZ V.toDk (bR V.toDk s)).rep a_).view)))))) ?_;refine PD 4 ?_;refine PD 5 ?_;refine FD 6 0 bg aP ?_;refine ta 7 rfl (cY (v:=(.int .i64 ((bZ V.toDk (bR V.toDk s)).id))) rfl Y3 rfl rfl (λ_ h=>h.2.1) (λa_=>(cx _ rfl))) ?_;refine AL 8 ?_;refine CE pD (dv ((bZ V.toDk (bR V.toDk s)).view) ((bZ V.toDk (bR V.toDk s)).id)) ID ?_;refine aW ?_ ?_<;>intro h42;refine EN (PD 9 ?_);refine DN (ac J6 (CN (qx J5 (ab λ_ J7=>eV (α:=Unit) (λ_u=>True) (λ_u=>[(0,(.pointer (some ⟨r,0,none⟩))),(1,(.iface V.T V.ov))]) (λ_u=>[cC V r (fV V.toDk (bZ V.toDk (bR V.toDk s)))]) (λ_u hinv=>?_) (λtl7=>?_)))));have _:=hinv;refine ac J7 (ab λ_ J8=>sr λ_ J9=>cq (H':=uG V r (fV V.toDk (bZ V.toDk (bR V.toDk s))) (.pointer none)::[]) (λ_ q=>rT hv q) (P2 ?_));refine FA 1067 bg iO ?_;refine LG 0 iw (.pointer none) ?_ (hc:=by exact λa_=>(bQ _ rfl))
 refine tp (H5 rfl iw rfl rfl) ?_;refine nx J9 (CY (ai (ae (aF (H':=[cC V r (fV V.toDk (bZ V.toDk (bR V.toDk s)))]) (dh _) (λ_ q=>nQ hv (ak [0] rfl q)) (dz rfl ?_)))));exact MQ (by rw[iy,if_pos h42,rA,hv]);refine ab λ_ J10=>eV (α:=(Nat)) (λb4=>True) (λb4=>[(0,(.pointer (some ⟨r,0,none⟩))),(1,(.iface V.T V.ov)),(4,(.pointer (some ⟨b4,0,none⟩)))]) (λb4=>[cC V r (bZ V.toDk (bR V.toDk s)),ag b4 (ints (cu (bZ V.toDk (bR V.toDk s)).book (bZ V.toDk (bR V.toDk s)).id).flat) 60]) (λb4 hinv=>?_) (λtl10=>?_)
 have _:=hinv;refine ac J10 (sr λ_ J11=>FA 0 dN aP ?_);refine LT 1 Y3 (.int .i64 ((cu (bZ V.toDk (bR V.toDk s)).book (bZ V.toDk (bR V.toDk s)).id).version)) ?_ (hc:=by exact cB _ rfl);refine PS ?_;refine an ?_ ?_<;>intro h54;refine nx J11 (CY (ad (P2 ?_)));refine LW 1 dN aZ ah ?_;refine CZ Hi (mz V r (bZ V.toDk (bR V.toDk s)) (cu (bZ V.toDk (bR V.toDk s)).book (bZ V.toDk (bR V.toDk s)).id)) ID λvR=>?_
 refine ap ?_
 exact aF
  SB
  (λ_ q=>by
   rw[fV,if_pos h54]
   exact ak [0] rfl q)
  (tl7 (():Unit) trivial)
 refine nx J11 (CN (aQ ?_))
 exact aF
  SB
  (λ_ q=>by
   rw[fV,if_neg h54]
   exact ak [0] rfl q)
  (tl7 (():Unit) trivial)
 refine DB bh (cL 0 rfl rfl) ?_;refine PD 0 ?_;refine PD 1 ?_;refine FD 2 1068 bg u6 ?_;refine PD 3 ?_;refine PD 4 ?_;refine FD 5 0 bg aP ?_;refine ta 6 rfl (cY (v:=(.int .i64 ((bZ V.toDk (bR V.toDk s)).id))) rfl Y3 rfl rfl (λ_ h=>h.2.1) (λa_=>(cx _ rfl))) ?_;refine cw [7,8] (by kernel_rfl) rfl (aE rfl ?_ ?_);refine CE II (Leg.Does.hid (λa_=>mg r 1068 123 _ (gv ((bZ V.toDk (bR V.toDk s)).rep a_)) (bZ V.toDk (bR V.toDk s)).book ((bZ V.toDk (bR V.toDk s)).id))) ID ?_;refine EN (AL 8 ?_);refine XZ tk (ints RowT.zero.flat) λb4=>?_
 refine EN (AL 9 ?_);refine SW 0 aZ ah ?_;refine EN (DN ?_)
 exact aF
  SB
  (λ_ s=>ak [1,0] rfl s)
  (tl10 ((b4):(Nat)) trivial)
 refine aE rfl ?_ ?_;refine XZ tk (ints RowT.zero.flat) λb4=>?_
 refine EN (AL 7 ?_);refine CE II (Leg.Does.hid (λa_=>mg r 1068 123 _ (gv ((bZ V.toDk (bR V.toDk s)).rep a_)) (bZ V.toDk (bR V.toDk s)).book ((bZ V.toDk (bR V.toDk s)).id))) (SM [1]) ?_;refine EN (AL 9 ?_);refine SW 1 aZ ah ?_;refine EN (DN ?_)
 exact aF
  SB
  (λ_ s=>ak [0,0] rfl s)
  (tl10 ((b4):(Nat)) trivial)
 exact bw;refine EN (PD 9 ?_);refine DN (ac J6 (CY (ai (ae (WK [0] (dz rfl ?_))))));exact MQ (by rw[iy,if_neg (by rw[h42];decide)]);refine sr λ_ J12=>P2 ?_
 refine FA 2 bg bc ?_;refine FA 2 eE aP ?_;refine LG 0 Y3 (.int .i64 (((bR V.toDk s).view).epoch)) ?_ (hc:=by exact λa_=>(ca ((bR V.toDk s).rep a_) 0 rfl (by decide) (ba _ rfl)));refine PS ?_;refine an ?_ ?_<;>intro h26;refine nx J12 (CY (ad (P4 ?_)));refine FA 2 bg bc ?_;refine LZ 0 eE bc am ((bR V.toDk s).view) ?_ (hc:=by exact λ_=>cJ _);refine CZ Hj (my V r (bR V.toDk s) ((bR V.toDk s).view)) ID λvR=>?_
 refine ap ?_
 exact aF
  SB
  (λ_ q=>by
   rw[bZ,if_pos h26]
   exact ak [0] rfl q)
  (tl4 (():Unit) trivial)
 refine nx J12 (CN (aQ ?_))
 exact aF
  SB
  (λ_ q=>by
   rw[bZ,if_neg h26]
   exact ak [0] rfl q)
  (tl4 (():Unit) trivial)
 refine sr λ_ J13=>P2 ?_
 refine FA 1938 bg ka ?_;refine LG 0 Y4 (.bool (s.busy)) ?_ (hc:=by exact λa_=>(xB _ rfl));refine aW ?_ ?_<;>intro h11;refine nx J13 (CY (ad (P2 ?_)));refine CZ Hn (nh V r s) ID λvR=>?_
 refine ap ?_
 exact aF
  SB
  (λ_ q=>by
   rw[if_pos h11]
   exact ak [0] rfl q)
  (tl1 (():Unit) trivial)
 refine nx J13 (CN (aQ ?_))
 exact aF
  SB
  (λ_ q=>by
   rw[if_neg (by rw[h11];decide)]
   exact ak [0] rfl q)
  (tl1 (():Unit) trivial)
theorem Cj{δ:Type}(V:Env δ)(r:Nat)(s:MS δ)(vt:VoteT)[OkR V.toDk s](hv:(fV V.toDk (bZ V.toDk (bR V.toDk s))).vote=some vt):
 DT 60 #[(.pointer (some ⟨r,0,none⟩)),(.iface V.T V.ov)] T0 [cC V r s] (c9 (λ_ H=>H=[cC V r (iy V.toDk s)])):=by
 refine BD 89 Tryz.func60 rfl rfl rfl λw0 F hF=>?_
 have hov:OkVt vt:=OkR.vote vt hv;refine ab λ_ J1=>eV (α:=Unit) (λ_u=>True) (λ_u=>[(0,(.pointer (some ⟨r,0,none⟩))),(1,(.iface V.T V.ov))]) (λ_u=>[cC V r (if s.busy=true then fj V.toDk s else s)]) (λ_u hinv=>?_) (λtl1=>?_)
 have _:=hinv;refine ac J1 (sr λ_ J2=>P2 ?_);refine CZ Ei (oA V r (if s.busy=true then fj V.toDk s else s)) ID λvR=>?_
 refine nx J2 (sr λ_ J3=>P2 ?_);refine CZ Hk (pM V r (mO V.toDk (if s.busy=true then fj V.toDk s else s))) ID λvR=>?_
 refine nx J3 (ab λ_ J4=>eV (α:=Unit) (λ_u=>True) (λ_u=>[(0,(.pointer (some ⟨r,0,none⟩))),(1,(.iface V.T V.ov))]) (λ_u=>[cC V r (bZ V.toDk (bR V.toDk s))]) (λ_u hinv=>?_) (λtl4=>?_));have _:=hinv;refine ac J4 (ab λ_ J5=>ab λ_ J6=>DB bh (cL 0 rfl rfl) ?_);refine PD 0 ?_;refine PD 1 ?_;refine FD 2 2 bg bc ?_;refine ta 3 rfl (fQ (vs:=ints ((bZ V.toDk (bR V.toDk s)).view).flat) rfl eE rfl bc rfl (λ_ h=>h.2.1) (am ((bZ V.toDk (bR V.toDk s)).view)) (λa_=>(fL ((bZ V.toDk (bR V.toDk s)).rep a_) 0 rfl (by decide) (whole (am (((bZ V.toDk (bR V.toDk s)).rep a_).view)))))) ?_;refine PD 4 ?_;refine PD 5 ?_;refine FD 6 0 bg aP ?_;refine ta 7 rfl (cY (v:=(.int .i64 ((bZ V.toDk (bR V.toDk s)).id))) rfl Y3 rfl rfl (λ_ h=>h.2.1) (λa_=>(cx _ rfl))) ?_;refine AL 8 ?_;refine CE pD (dv ((bZ V.toDk (bR V.toDk s)).view) ((bZ V.toDk (bR V.toDk s)).id)) ID ?_;refine aW ?_ ?_<;>intro h42;refine EN (PD 9 ?_);refine DN (ac J6 (CN (qx J5 (ab λ_ J7=>eV (α:=Unit) (λ_u=>True) (λ_u=>[(0,(.pointer (some ⟨r,0,none⟩))),(1,(.iface V.T V.ov))]) (λ_u=>[cC V r (fV V.toDk (bZ V.toDk (bR V.toDk s)))]) (λ_u hinv=>?_) (λtl7=>?_)))));have _:=hinv;refine ac J7 (ab λ_ J8=>sr λ_ J9=>JV (H':=λvb:Nat=>uG V r (fV V.toDk (bZ V.toDk (bR V.toDk s))) (.pointer (some ⟨vb,0,none⟩))::ag vb (VoteT.cells vt) 227::[]) (λ_ q=>mI hv q) (λvb=>P2 ?_));refine FA 1067 bg iO ?_
 refine LG 0 iw (.pointer (some ⟨vb,0,none⟩)) ?_ (hc:=by exact λa_=>(bQ _ rfl));refine tp (hJ rfl iw rfl rfl) ?_;refine nx J9 (CN (qx J8 (sr λ_ J10=>P2 ?_)));refine FA 1067 bg iO ?_;refine LG 0 iw (.pointer (some ⟨vb,0,none⟩)) ?_ (hc:=by exact λa_=>(bQ _ rfl));refine CE nN (cV vb vt) (SM [1]) ?_;change TL _ _ _ _ _ _ _ _ _ [ag vb (VoteT.cells vt) 227,uG V r (fV V.toDk (bZ V.toDk (bR V.toDk s))) (.pointer (some ⟨vb,0,none⟩))];refine cq (H':=cC V r (fV V.toDk (bZ V.toDk (bR V.toDk s)))::[]) (λ_ q=>nP hv (az [1,0] rfl q)) (XZ M7 (ints ChangeT.zero.flat) λb5=>?_);refine SW 0 fy aJ ?_;refine nx J10 (ab λ_ J11=>eV (α:=Unit) (λ_u=>True) (λ_u=>[(0,(.pointer (some ⟨r,0,none⟩))),(1,(.iface V.T V.ov)),(5,(.pointer (some ⟨b5,0,none⟩))),(7,(.int .i64 ((dQ (fV V.toDk (bZ V.toDk (bR V.toDk s))).view vt.change).2)))]) (λ_u=>[cC V r (fV V.toDk (bZ V.toDk (bR V.toDk s))),ag b5 (ints vt.change.flat) 28]) (λ_u hinv=>?_) (λtl11=>?_));have _:=hinv;refine ac J11 (sr λ_ J12=>P2 ?_);refine an ?_ ?_<;>intro h79;refine P2 ?_;refine LW 1 mR fy aJ ?_;refine CE Hh (pP V r (fV V.toDk (bZ V.toDk (bR V.toDk s))) vt.change) ID ?_;refine PS ?_;refine an ?_ ?_<;>intro h84;refine PS ?_;refine nx J12 (CY (ad (P2 ?_)))
 refine CZ Eh (qG V r ((cz V.toDk (fV V.toDk (bZ V.toDk (bR V.toDk s))) vt.change).1) (jR (fV V.toDk (bZ V.toDk (bR V.toDk s))).view (eD (fV V.toDk (bZ V.toDk (bR V.toDk s)))) vt.change) (qV h84)) ID λvR=>?_
 refine ap (WK [0] (bz rfl ?_));exact MQ (by rw[iy,if_pos h42,rA,hv];simp only[];rw[if_pos h79,if_pos h84]);refine PS ?_;refine nx J12 (CN (aQ (WK [0] (bz rfl ?_))));exact MQ (by rw[iy,if_pos h42,rA,hv];simp only[];rw[if_pos h79,if_neg h84]);refine PS ?_
 iterate 4 refine UF ?_
 refine PS ?_;refine nx J12 (CN (aQ (WK [0] (bz rfl ?_))));exact MQ (by rw[iy,if_pos h42,rA,hv];simp only[];rw[if_neg h79]);refine DC bh (cL 1 rfl rfl) (BL 0) ?_;refine PD 0 ?_;refine PD 1 ?_;refine FD 2 2 bg bc ?_;refine ta 3 rfl (fQ (vs:=ints ((fV V.toDk (bZ V.toDk (bR V.toDk s))).view).flat) rfl eE rfl bc rfl (λ_ h=>h.2.1) (am ((fV V.toDk (bZ V.toDk (bR V.toDk s))).view)) (λa_=>(fL ((fV V.toDk (bZ V.toDk (bR V.toDk s))).rep a_) 0 rfl (by decide) (whole (am (((fV V.toDk (bZ V.toDk (bR V.toDk s))).rep a_).view)))))) ?_;refine LY 4 mR fy aJ ?_;refine cw [5,9] (by kernel_rfl) rfl (aE rfl ?_ ?_);refine CE mH (de ((fV V.toDk (bZ V.toDk (bR V.toDk s))).view) vt.change OkVw.rng) ID ?_;refine EN (PD 6 ?_);refine PD 7 ?_;refine PD 8 ?_;refine AL 9 ?_;refine XZ re (ints ViewT.zero.flat) λb6=>?_
 refine EN (AL 10 ?_);refine SW 0 bc am ?_;refine EN (PD 11 ?_);refine DN ?_
 exact aF
  SB
  (λ_ s=>ak [2,1] rfl s)
  (tl11 (():Unit) trivial)
 refine aE rfl ?_ ?_;refine XZ re (ints ViewT.zero.flat) λb6=>?_
 refine EN (AL 5 ?_);refine CE mH (de ((fV V.toDk (bZ V.toDk (bR V.toDk s))).view) vt.change OkVw.rng) ID ?_;refine EN (PD 6 ?_);refine PD 7 ?_;refine PD 8 ?_;refine AL 10 ?_;refine SW 0 bc am ?_;refine EN (PD 11 ?_);refine DN ?_
 exact aF
  SB
  (λ_ s=>ak [2,1] rfl s)
  (tl11 (():Unit) trivial)
 exact bw;refine ab λ_ J13=>eV (α:=(Nat)) (λb4=>True) (λb4=>[(0,(.pointer (some ⟨r,0,none⟩))),(1,(.iface V.T V.ov)),(4,(.pointer (some ⟨b4,0,none⟩)))]) (λb4=>[cC V r (bZ V.toDk (bR V.toDk s)),ag b4 (ints (cu (bZ V.toDk (bR V.toDk s)).book (bZ V.toDk (bR V.toDk s)).id).flat) 60]) (λb4 hinv=>?_) (λtl13=>?_)
 have _:=hinv;refine ac J13 (sr λ_ J14=>FA 0 dN aP ?_);refine LT 1 Y3 (.int .i64 ((cu (bZ V.toDk (bR V.toDk s)).book (bZ V.toDk (bR V.toDk s)).id).version)) ?_ (hc:=by exact cB _ rfl);refine PS ?_;refine an ?_ ?_<;>intro h54;refine nx J14 (CY (ad (P2 ?_)));refine LW 1 dN aZ ah ?_;refine CZ Hi (mz V r (bZ V.toDk (bR V.toDk s)) (cu (bZ V.toDk (bR V.toDk s)).book (bZ V.toDk (bR V.toDk s)).id)) ID λvR=>?_
 refine ap ?_
 exact aF
  SB
  (λ_ q=>by
   rw[fV,if_pos h54]
   exact ak [0] rfl q)
  (tl7 (():Unit) trivial)
 refine nx J14 (CN (aQ ?_))
 exact aF
  SB
  (λ_ q=>by
   rw[fV,if_neg h54]
   exact ak [0] rfl q)
  (tl7 (():Unit) trivial)
 refine DB bh (cL 0 rfl rfl) ?_;refine PD 0 ?_;refine PD 1 ?_;refine FD 2 1068 bg u6 ?_;refine PD 3 ?_;refine PD 4 ?_;refine FD 5 0 bg aP ?_;refine ta 6 rfl (cY (v:=(.int .i64 ((bZ V.toDk (bR V.toDk s)).id))) rfl Y3 rfl rfl (λ_ h=>h.2.1) (λa_=>(cx _ rfl))) ?_;refine cw [7,8] (by kernel_rfl) rfl (aE rfl ?_ ?_);refine CE II (Leg.Does.hid (λa_=>mg r 1068 123 _ (gv ((bZ V.toDk (bR V.toDk s)).rep a_)) (bZ V.toDk (bR V.toDk s)).book ((bZ V.toDk (bR V.toDk s)).id))) ID ?_;refine EN (AL 8 ?_);refine XZ tk (ints RowT.zero.flat) λb4=>?_
 refine EN (AL 9 ?_);refine SW 0 aZ ah ?_;refine EN (DN ?_)
 exact aF
  SB
  (λ_ s=>ak [1,0] rfl s)
  (tl13 ((b4):(Nat)) trivial)
 refine aE rfl ?_ ?_;refine XZ tk (ints RowT.zero.flat) λb4=>?_
 refine EN (AL 7 ?_);refine CE II (Leg.Does.hid (λa_=>mg r 1068 123 _ (gv ((bZ V.toDk (bR V.toDk s)).rep a_)) (bZ V.toDk (bR V.toDk s)).book ((bZ V.toDk (bR V.toDk s)).id))) (SM [1]) ?_;refine EN (AL 9 ?_);refine SW 1 aZ ah ?_;refine EN (DN ?_)
 exact aF
  SB
  (λ_ s=>ak [0,0] rfl s)
  (tl13 ((b4):(Nat)) trivial)
 exact bw;refine EN (PD 9 ?_);refine DN (ac J6 (CY (ai (ae (WK [0] (dz rfl ?_))))));exact MQ (by rw[iy,if_neg (by rw[h42];decide)]);refine sr λ_ J15=>P2 ?_
 refine FA 2 bg bc ?_;refine FA 2 eE aP ?_;refine LG 0 Y3 (.int .i64 (((bR V.toDk s).view).epoch)) ?_ (hc:=by exact λa_=>(ca ((bR V.toDk s).rep a_) 0 rfl (by decide) (ba _ rfl)));refine PS ?_;refine an ?_ ?_<;>intro h26;refine nx J15 (CY (ad (P4 ?_)));refine FA 2 bg bc ?_;refine LZ 0 eE bc am ((bR V.toDk s).view) ?_ (hc:=by exact λ_=>cJ _);refine CZ Hj (my V r (bR V.toDk s) ((bR V.toDk s).view)) ID λvR=>?_
 refine ap ?_
 exact aF
  SB
  (λ_ q=>by
   rw[bZ,if_pos h26]
   exact ak [0] rfl q)
  (tl4 (():Unit) trivial)
 refine nx J15 (CN (aQ ?_))
 exact aF
  SB
  (λ_ q=>by
   rw[bZ,if_neg h26]
   exact ak [0] rfl q)
  (tl4 (():Unit) trivial)
 refine sr λ_ J16=>P2 ?_
 refine FA 1938 bg ka ?_;refine LG 0 Y4 (.bool (s.busy)) ?_ (hc:=by exact λa_=>(xB _ rfl));refine aW ?_ ?_<;>intro h11;refine nx J16 (CY (ad (P2 ?_)));refine CZ Hn (nh V r s) ID λvR=>?_
 refine ap ?_
 exact aF
  SB
  (λ_ q=>by
   rw[if_pos h11]
   exact ak [0] rfl q)
  (tl1 (():Unit) trivial)
 refine nx J16 (CN (aQ ?_))
 exact aF
  SB
  (λ_ q=>by
   rw[if_neg (by rw[h11];decide)]
   exact ak [0] rfl q)
  (tl1 (():Unit) trivial)
theorem Ci{δ:Type}(V:Env δ)(r:Nat)(s:MS δ)[OkR V.toDk s]:DT 60 #[.pointer (some ⟨r,0,none⟩), .iface V.T V.ov] T0 [cC V r s] (c9 (λ_ H=>H=[cC V r (iy V.toDk s)])):=by
 cases hv:(fV V.toDk (bZ V.toDk (bR V.toDk s))).vote with
 |none=>exact Ck V r s hv
 |some vt=>exact Cj V r s vt hv
abbrev B8{δ:Type}(lg r:Nat)(s:MS δ):HP:=hid r (λ_:Unit=>RepT.cells (s.rep ⟨lg, .pointer none, .slice none 0 0⟩)) 123 (λ_=>[])
theorem tS{δ:Type}(lg r:Nat)(s:MS δ)(v:ViewT):
 DT 93 #[(.pointer (some ⟨r,0,none⟩)),(.agg (ints v.flat).toArray)] T0 [B8 lg r s] (c9 (λ_ H=>H=[B8 lg r (mM s v)])):=by
 refine BD 20 Tryz.func93 rfl rfl rfl λw0 F hF=>sr λ_ J1=>XY (ints v.flat) λb3=>?_
 refine nx J1 (sr λ_ J2=>PS ?_);refine LW 0 eE bc am ?_;refine PS ?_;refine FA 2 bg bc ?_;refine gD (vs:=ints v.flat) (i:=1) (aa rfl) rfl rfl rfl rfl rfl (by rw[(am v)];exact bc) (bu _) rfl rfl (λ_=>LC (cK _) (am _)) (λa_=>(NU (s.rep ⟨lg, .pointer none, .slice none 0 0⟩) 0 rfl (by have h1:=(am v);omega) (cm ((am ((s.rep ⟨lg, .pointer none, .slice none 0 0⟩).view)).trans (am v).symm)))) (nx J2 (sr λ_ J3=>PS ?_));refine FA 0 eE aP ?_;refine LU 0 Y3 (ba v rfl) ?_;refine tp (kO AccT.zero (AccT.mk v.epoch BallotT.zero BallotT.zero ChangeT.zero) [(0,[Value.int .i64 v.epoch])] iF n5 (g:=AccT.sg)) ?_;refine PS ?_;refine FA 1058 bg dq ?_;refine gD (vs:=ints (AccT.mk v.epoch BallotT.zero BallotT.zero ChangeT.zero).flat) (i:=1) (aa rfl) rfl rfl rfl rfl rfl (by rw[(aY (AccT.mk v.epoch BallotT.zero BallotT.zero ChangeT.zero))];exact dq) (bu _) rfl rfl (λ_=>LC (cK _) (aY _)) (λa_=>(kb ((MS.setView s v).rep ⟨lg, .pointer none, .slice none 0 0⟩) 0 rfl (by have h1:=(aY (AccT.mk v.epoch BallotT.zero BallotT.zero ChangeT.zero));omega) (cm ((aY (((MS.setView s v).rep ⟨lg, .pointer none, .slice none 0 0⟩).acc)).trans (aY (AccT.mk v.epoch BallotT.zero BallotT.zero ChangeT.zero)).symm)))) (nx J3 (sr λ_ J4=>P2 ?_));refine FA 1067 bg iO ?_;refine SK 1 iO (λ_=>cK _) ?_ (hc:=by exact λa_=>(NV _ rfl _));refine nx J4 (ad (P2 ?_));refine FA 1066 bg aP ?_;refine SK 1 aP (λ_=>cK _) ?_ (hc:=by exact λa_=>(lC _ rfl _))
 exact ap (WK [1] (bz rfl rfl))
theorem w9{δ:Type}(lg r:Nat)(s:MS δ)(m:RecT)(hw:WF m.row.flat):
 DT 94 #[(.pointer (some ⟨r,0,none⟩)),(.agg (ints m.flat).toArray)] T0 [B8 lg r s] (c9 (λ_ H=>H=[B8 lg r (js s m)])):=by
 refine BD 93 Tryz.func94 rfl rfl rfl λw0 F hF=>sr λ_ J1=>XY (ints m.flat) λb3=>?_
 refine nx J1 (sr λ_ J2=>FA 0 iI aP ?_);refine LU 0 Y3 (kc m rfl) ?_;refine nx J2 (aq (sr λ_ J3=>PS ?_));refine an ?_ ?_<;>intro h7;refine PS ?_;refine nx J3 (CY (ad (P3 ?_)));refine FA 2 iI aZ ?_;refine LV 0 dN aZ ah RecT.sp_row (y:=m.row) ?_;refine PS ?_;refine FA 9 bg aZ ?_;refine gD (vs:=ints m.row.flat) (i:=1) (aa rfl) rfl rfl rfl rfl rfl (by rw[(ah m.row)];exact aZ) (bu _) rfl rfl (λ_=>LC (cK _) (ah _)) (λa_=>(Od (s.rep ⟨lg, .pointer none, .slice none 0 0⟩) 0 rfl (by have h1:=(ah m.row);omega) (cm ((ah ((s.rep ⟨lg, .pointer none, .slice none 0 0⟩).own)).trans (ah m.row).symm)))) (PS ?_);refine FA 1938 bg ka ?_;refine SK 1 ka (λ_=>cK _) ?_ (hc:=by exact λa_=>(NX _ rfl _));refine PS ?_;refine FA 1939 bg aP ?_;refine SK 1 aP (λ_=>cK _) ?_ (hc:=by exact λa_=>(NW _ rfl _));refine ap (af (WK [1] (bz rfl ?_)));exact congrArg (λq=>[B8 lg r q]) (show(MS.setKept (MS.setBusy (MS.setOwn s m.row) true) 0)=js s m by rw[js,if_pos h7]<;>rfl);refine PS ?_;refine nx J3 (CN (sr λ_ J4=>PS ?_));refine an ?_ ?_<;>intro h20;refine PS ?_;refine nx J4 (CY (D1 0 bh ?_));refine PD 0 ?_;refine PD 1 ?_;refine FD 2 183 bg nF ?_;refine FD 3 1 iI aP ?_;refine LR 4 Y3 (EC m rfl) ?_;refine FD 5 2 iI aZ ?_;refine ta 6 rfl (aM (vs:=ints m.row.flat) rfl dN rfl aZ rfl (λ_ h=>h.2.1) (ah m.row) (q6 m 0 rfl (by decide) (whole (ah m.row)))) ?_;refine AL 7 ?_
 refine CE JH (Leg.Does.hid (λa_=>rV r 183 123 _ (dR (s.rep ⟨lg, .pointer none, .slice none 0 0⟩)) s.mirror m.whose m.row hw)) (SM [1]) ?_;refine EN (DN (af (WK [0] (bz rfl ?_))));exact congrArg (λq=>[B8 lg r q]) (show(iz s m.whose m.row)=js s m by rw[js,if_neg h7,if_pos h20]<;>rfl);refine PS ?_;refine nx J4 (CN (sr λ_ J5=>PS ?_));refine an ?_ ?_<;>intro h30;refine PS ?_;refine nx J5 (CY (D1 0 bh ?_));refine PD 0 ?_;refine PD 1 ?_;refine FD 2 183 bg nF ?_;refine FD 3 1 iI aP ?_;refine LR 4 Y3 (EC m rfl) ?_;refine AL 5 ?_;refine CE JG (Leg.Does.hid (λa_=>rU r 183 123 _ (dR (s.rep ⟨lg, .pointer none, .slice none 0 0⟩)) s.mirror m.whose)) (SM [1]) ?_;refine EN (DN (af (WK [0] (bz rfl ?_))));exact congrArg (λq=>[B8 lg r q]) (show(lN s m.whose)=js s m by rw[js,if_neg h7,if_neg h20,if_pos h30]<;>rfl);refine PS ?_;refine nx J5 (CN (sr λ_ J6=>PS ?_));refine an ?_ ?_<;>intro h38;refine PS ?_;refine nx J6 (CY (sr λ_ J7=>PS ?_));refine FA 177 iI cp ?_;refine LV 0 jT cp ao RecT.sp_ballot (y:=m.ballot) ?_;refine PS ?_;refine FA 1058 bg dq ?_;refine FA 1059 iF cp ?_
 refine gD (vs:=ints m.ballot.flat) (i:=1) (aa rfl) rfl rfl rfl rfl rfl (by rw[(ao m.ballot)];exact cp) (bu _) rfl rfl (λ_=>LC (cK _) (ao _)) (λa_=>(kb (s.rep ⟨lg, .pointer none, .slice none 0 0⟩) 1 rfl (by have h1:=(ao m.ballot);omega) (Oj ((s.rep ⟨lg, .pointer none, .slice none 0 0⟩).acc) 0 rfl (by have h1:=(ao m.ballot);omega) (cm ((ao (((s.rep ⟨lg, .pointer none, .slice none 0 0⟩).acc).vow)).trans (ao m.ballot).symm))))) (nx J7 (D1 0 bh ?_));refine PD 0 ?_;refine PD 1 ?_;refine PD 2 ?_;refine FD 3 1066 bg aP ?_;refine FD 5 177 iI cp ?_;refine FD 6 177 jT aP ?_;refine LX 7 Y3 (.int .i64 (m.ballot.round)) ?_ (hc:=by exact RecT.pt_ballot m 0 rfl (by decide) (e4 m.ballot rfl));refine AL 4 ?_;refine LG 1 Y3 (.int .i64 (s.round)) ?_ (hc:=by exact λa_=>(ut _ rfl));refine EN (ta 8 rfl (xD rfl rfl rfl) ?_);refine PD 9 ?_;refine FD 10 1066 bg aP ?_;refine AL 11 ?_;refine SK 1 aP (λ_=>cK _) ?_ (hc:=by exact λa_=>(lC _ rfl _));refine EN (DN (af (WK [1] (bz rfl ?_))));exact congrArg (λq=>[B8 lg r q]) (show(MS.setRound (MS.setAcc s (AccT.mk s.acc.epoch m.ballot s.acc.had s.acc.change)) (max s.round m.ballot.round))=js s m by rw[js,if_neg h7,if_neg h20,if_neg h30,if_pos h38]<;>rfl);refine PS ?_;refine nx J6 (CN (sr λ_ J8=>PS ?_));refine an ?_ ?_<;>intro h57;refine PS ?_;refine nx J8 (CY (ab λ_ J9=>D1 0 bh ?_));refine PD 0 ?_;refine PD 1 ?_;refine PD 2 ?_;refine FD 3 177 iI cp ?_
 refine ta 4 rfl (aM (vs:=ints m.ballot.flat) rfl jT rfl cp rfl (λ_ h=>h.2.1) (ao m.ballot) (qc m 0 rfl (by decide) (whole (ao m.ballot)))) ?_;refine FD 5 177 iI cp ?_;refine ta 6 rfl (aM (vs:=ints m.ballot.flat) rfl jT rfl cp rfl (λ_ h=>h.2.1) (ao m.ballot) (qc m 0 rfl (by decide) (whole (ao m.ballot)))) ?_;refine FD 7 179 iI fy ?_;refine ta 8 rfl (aM (vs:=ints m.change.flat) rfl mR rfl fy rfl (λ_ h=>h.2.1) (aJ m.change) (KK m 0 rfl (by decide) (whole (aJ m.change)))) ?_;refine PD 9 ?_;refine FD 10 1058 bg dq ?_;refine FD 11 1059 iF cp ?_;refine AL 12 ?_;refine gD (vs:=ints m.ballot.flat) (i:=1) (aa rfl) rfl rfl rfl rfl rfl (by rw[(ao m.ballot)];exact cp) (bu _) rfl rfl (λ_=>LC (cK _) (ao _)) (λa_=>(kb (s.rep ⟨lg, .pointer none, .slice none 0 0⟩) 1 rfl (by have h1:=(ao m.ballot);omega) (Oj ((s.rep ⟨lg, .pointer none, .slice none 0 0⟩).acc) 0 rfl (by have h1:=(ao m.ballot);omega) (cm ((ao (((s.rep ⟨lg, .pointer none, .slice none 0 0⟩).acc).vow)).trans (ao m.ballot).symm))))) (EN (PD 13 ?_));refine FD 14 1058 bg dq ?_;refine FD 15 1061 iF cp ?_;refine AL 16 ?_
 refine gD (vs:=ints m.ballot.flat) (i:=1) (aa rfl) rfl rfl rfl rfl rfl (by rw[(ao m.ballot)];exact cp) (bu _) rfl rfl (λ_=>LC (cK _) (ao _)) (λa_=>(kb ((MS.setAcc s (AccT.mk s.acc.epoch m.ballot s.acc.had s.acc.change)).rep ⟨lg, .pointer none, .slice none 0 0⟩) 3 rfl (by have h1:=(ao m.ballot);omega) (AccT.wr_had_ (((MS.setAcc s (AccT.mk s.acc.epoch m.ballot s.acc.had s.acc.change)).rep ⟨lg, .pointer none, .slice none 0 0⟩).acc) 0 rfl (by have h1:=(ao m.ballot);omega) (cm ((ao ((((MS.setAcc s (AccT.mk s.acc.epoch m.ballot s.acc.had s.acc.change)).rep ⟨lg, .pointer none, .slice none 0 0⟩).acc).had)).trans (ao m.ballot).symm))))) (EN (PD 17 ?_));refine FD 18 1058 bg dq ?_;refine FD 19 1063 iF fy ?_;refine AL 20 ?_;refine gD (vs:=ints m.change.flat) (i:=1) (aa rfl) rfl rfl rfl rfl rfl (by rw[(aJ m.change)];exact fy) (bu _) rfl rfl (λ_=>LC (cK _) (aJ _)) (λa_=>(kb ((MS.setAcc s (AccT.mk s.acc.epoch m.ballot m.ballot s.acc.change)).rep ⟨lg, .pointer none, .slice none 0 0⟩) 5 rfl (by have h1:=(aJ m.change);omega) (AccT.wr_change_ (((MS.setAcc s (AccT.mk s.acc.epoch m.ballot m.ballot s.acc.change)).rep ⟨lg, .pointer none, .slice none 0 0⟩).acc) 0 rfl (by have h1:=(aJ m.change);omega) (cm ((aJ ((((MS.setAcc s (AccT.mk s.acc.epoch m.ballot m.ballot s.acc.change)).rep ⟨lg, .pointer none, .slice none 0 0⟩).acc).change)).trans (aJ m.change).symm))))) (EN (DN (ac J9 (D1 0 bh ?_))));refine PD 0 ?_;refine PD 1 ?_;refine PD 2 ?_
 refine FD 3 1066 bg aP ?_;refine FD 5 177 iI cp ?_;refine FD 6 177 jT aP ?_;refine LX 7 Y3 (.int .i64 (m.ballot.round)) ?_ (hc:=by exact RecT.pt_ballot m 0 rfl (by decide) (e4 m.ballot rfl));refine AL 4 ?_;refine LG 1 Y3 (.int .i64 (s.round)) ?_ (hc:=by exact λa_=>(ut _ rfl));refine EN (ta 8 rfl (xD rfl rfl rfl) ?_);refine PD 9 ?_;refine FD 10 1066 bg aP ?_;refine AL 11 ?_;refine SK 1 aP (λ_=>cK _) ?_ (hc:=by exact λa_=>(lC _ rfl _));refine EN (DN (af (WK [1] (bz rfl ?_))));exact congrArg (λq=>[B8 lg r q]) (show(MS.setRound (MS.setAcc s (AccT.mk s.acc.epoch m.ballot m.ballot m.change)) (max s.round m.ballot.round))=js s m by rw[js,if_neg h7,if_neg h20,if_neg h30,if_neg h38,if_pos h57]<;>rfl);refine PS ?_;refine nx J8 (CN (sr λ_ J10=>PS ?_));refine an ?_ ?_<;>intro h88;refine PS ?_;refine nx J10 (CY (ad (PS ?_)));refine FA 182 iI bc ?_;refine LV 0 eE bc am RecT.sp_view (y:=m.view) ?_;refine CZ Kj (tS lg r s m.view) (SM [1]) λvR=>?_
 refine ap (af (WK [0] (bz rfl ?_)));exact congrArg (λq=>[B8 lg r q]) (show(mM s m.view)=js s m by rw[js,if_neg h7,if_neg h20,if_neg h30,if_neg h38,if_neg h57,if_pos h88]<;>rfl);refine PS ?_;refine nx J10 (CN (aQ (af (WK [1] (bz rfl ?_)))));exact congrArg (λq=>[B8 lg r q]) (show s=js s m by rw[js,if_neg h7,if_neg h20,if_neg h30,if_neg h38,if_neg h57,if_neg h88]<;>rfl)
theorem IZ{bs:List UInt8}(h: ¬(nq bs).2≠0):WF (nq bs).1.row.flat:=by
 rcases HG bs with⟨m,e,_,_,hw⟩|e
 · rw[e];exact hw
 · rw[e]at h;exact absurd (by decide) h
theorem Az{δ:Type}(e0:δ)(i:Int)(d:Nat)(D:DS)(hD:D.Ok)(hI:Wal.DS.In D)(hb:D.ws.length≤1000000):
 DT 55 #[(.int .i64 (i)),(.pointer (some ⟨d,0,none⟩))] T0 [dk d D] (c9 (λr' H=>((bJ D).err≠0∧r'= .tuple #[.pointer none, .int .i64 (bJ D).err]∧H=[dk d (bJ D).D])∨((bJ D).err=0∧((lj (bJ D).recs (A6 i e0)=none∧r'= .tuple #[.pointer none, .int .i64 1]∧H=[dk d (bJ D).D])∨∃s r lg,lj (bJ D).recs (A6 i e0)=some s∧r'= .tuple #[.pointer (some ⟨r,0,none⟩), .int .i64 0]∧H=[B8 lg r s,Eo lg d (((bJ D).recs.length:Nat):Int) (bJ D).used,dk d (bJ D).D])))):=by
 refine BD 50 Tryz.func55 rfl rfl rfl λw0 F hF=>sr λ_ J1=>P2 ?_
 refine nx J1 (ab λ_ J2=>sr λ_ J3=>PS ?_);refine tp (hJ rfl sx rfl rfl) ?_;refine nx J3 (CN (qx J2 (sr λ_ J4=>PS ?_)));refine CR Np (FE d D hD hI hb) ID λvR HR hR=>?_
 rcases hR with⟨he,rfl,rfl⟩| ⟨he,lg,vr,rfl,rfl⟩
 refine P4 ?_;refine P3 ?_;refine nx J4 (ab λ_ J5=>sr λ_ J6=>P2 ?_);refine an ?_ ?_<;>intro h23;refine nx J6 (CY (sr λ_ J7=>P3 ?_));exact nx J7 (ai (ae (WK [0] (iq rfl rfl rfl (.inl ⟨he,rfl,rfl⟩)))))
 · exact absurd he h23
 change TL _ _ _ _ _ _ _ _ _ [ag lg [(.pointer (some ⟨d,0,none⟩)),(.int .i64 ((((bJ D).recs.length:Nat):Int))),(.int .i64 ((bJ D).used))] 210,M8 vr (bJ D).recs,dk d (bJ D).D];refine xw (p:=oM vr (bJ D).recs.length∧vr.oneCell'=true) (λw m=>by obtain⟨h,_,_,hs⟩:=m;obtain⟨_,_,_,_,a,_⟩:=eO 1 (lb rfl) hs;exact tv a) (λ⟨hsl,hvr⟩=>P4 ?_);refine P3 ?_;refine nx J4 (ab λ_ J8=>sr λ_ J9=>P2 ?_);refine nx J9 (CN (qx J8 (sr λ_ J10=>P2 ?_)))
 refine tp (xE (cs:=RepT.cells (RepT.mk i (.pointer (some ⟨lg,0,none⟩)) ViewT.zero RowT.zero MirT.zero AccT.zero 0 (.pointer none) BookT.zero false 0 0 0 (.slice none 0 0) (#v[0,0,0,0,0]) (#v[RowT.zero,RowT.zero,RowT.zero,RowT.zero,RowT.zero]))) (segs:=[[Value.int .i64 0],[(.pointer none)],ints ViewT.zero.flat,ints RowT.zero.flat,MirT.cells MirT.zero,ints AccT.zero.flat,[Value.int .i64 0],[(.pointer none)],ints BookT.zero.flat,[Value.bool false],[Value.int .i64 0],[Value.int .i64 0],[Value.int .i64 0],[(.slice none 0 0)],ints (#v[0,0,0,0,0]).toList,ints ((#v[RowT.zero,RowT.zero,RowT.zero,RowT.zero,RowT.zero]).toList.flatMap RowT.flat)]) (res:=[[Value.int .i64 i],[(.pointer (some ⟨lg,0,none⟩))],ints ViewT.zero.flat,ints RowT.zero.flat,MirT.cells MirT.zero,ints AccT.zero.flat,[Value.int .i64 0],[(.pointer none)],ints BookT.zero.flat,[Value.bool false],[Value.int .i64 0],[Value.int .i64 0],[Value.int .i64 0],[(.slice none 0 0)],ints (#v[0,0,0,0,0]).toList,ints ((#v[RowT.zero,RowT.zero,RowT.zero,RowT.zero,RowT.zero]).toList.flatMap RowT.flat)]) (parts:=[(0,[Value.int .i64 i]),(1,[(.pointer (some ⟨lg,0,none⟩))])]) rfl rfl bg (by kernel_rfl) (by kernel_rfl) rfl (e5 rfl rfl (e5 rfl ((rfl:[(.pointer (some ⟨lg,0,none⟩))].length=1).trans (rfl:[(.pointer none)].length=1).symm) ll)) (el (RepT.mk i (.pointer (some ⟨lg,0,none⟩)) ViewT.zero RowT.zero MirT.zero AccT.zero 0 (.pointer none) BookT.zero false 0 0 0 (.slice none 0 0) (#v[0,0,0,0,0]) (#v[RowT.zero,RowT.zero,RowT.zero,RowT.zero,RowT.zero]))).symm) ?_
 refine XY (RepT.cells (RepT.mk i (.pointer (some ⟨lg,0,none⟩)) ViewT.zero RowT.zero MirT.zero AccT.zero 0 (.pointer none) BookT.zero false 0 0 0 (.slice none 0 0) (#v[0,0,0,0,0]) (#v[RowT.zero,RowT.zero,RowT.zero,RowT.zero,RowT.zero]))) λb28=>?_
 refine PS ?_;refine nx J10 (sr λ_ J11=>cq (H':=B8 lg b28 (DM i e0)::[ag lg [(.pointer (some ⟨d,0,none⟩)),(.int .i64 ((((bJ D).recs.length:Nat):Int))),(.int .i64 ((bJ D).used))] 210,M8 vr (bJ D).recs,dk d (bJ D).D]) (λ_ q=>bi (p:=λ_:Unit=>[ag b28 (RepT.cells ((DM i e0).rep ⟨lg, .pointer none, .slice none 0 0⟩)) 123]) () (az [0] rfl q)) (PS ?_));refine CE Kv (qS) ID ?_;refine CZ Kj (tS lg b28 (DM i e0) firstV) ID λvR=>?_
 refine nx J11 (ab λ_ J12=>sr λ_ J13=>PS ?_);refine tp (dX rfl um rfl hsl) ?_;refine PS ?_;refine nx J13 (aq ?_)
 refine bn (α:=(Nat)×(MS δ)) (λ⟨k,s⟩=>k≤(bJ D).recs.length∧lj (bJ D).recs (A6 i e0)=lj ((bJ D).recs.drop k) s) (λ⟨k,s⟩=>[(9,(.pointer (some ⟨b28,0,none⟩))),(32,vr),(33,(.int .i64 ((((bJ D).recs.length:Nat):Int)))),(34,(.int .i64 (((k:Nat):Int))))]) (λ⟨k,s⟩=>[B8 lg b28 s,ag lg [(.pointer (some ⟨d,0,none⟩)),(.int .i64 ((((bJ D).recs.length:Nat):Int))),(.int .i64 ((bJ D).used))] 210,M8 vr (bJ D).recs,dk d (bJ D).D]) (λ⟨k,s⟩=>(bJ D).recs.length-k) (0,(A6 i e0))
  ⟨aN _,rfl⟩ SB
  (λ_ s=>ak [0,0,0,0] rfl s) (λ⟨k,s⟩ hinv=>?_)
 obtain⟨hk,hrs⟩:=hinv;refine sr λ_ J14=>PS ?_
 refine an ?_ ?_<;>intro h35;refine cq (λ_ s=>az [2] rfl s) (JU (λus=>?_));change TL _ _ _ _ _ _ _ _ _ [own vr ((bJ D).recs.length) (us) 93 1,en us (bJ D).recs 5,B8 lg b28 s,ag lg [(.pointer (some ⟨d,0,none⟩)),(.int .i64 ((((bJ D).recs.length:Nat):Int))),(.int .i64 ((bJ D).used))] 210,dk d (bJ D).D];refine xw (p:=us.length=(bJ D).recs.length*1) (λw m=>m.own_len (i:=0) (lb rfl) rfl) (λhul=>?_);rw[fC]at hul;have hkl:k< (bJ D).recs.length:=by omega
 refine jJ 0 rfl rfl (by omega) (λg cap hv hcap=>?_);have hvq:vr= .slice (some ⟨g,0,none⟩) (bJ D).recs.length cap:=hv;refine nx J14 (ab λ_ J15=>CY (qx J15 (ab λ_ J16=>aq (sr λ_ J17=>tp (bS (r:=k) hv rfl um ni rfl rfl (by omega) (by omega) (by omega)) ?_))));refine tp (cX (v:=(us.getD k undef)) rfl gq rfl rfl (fU 0 rfl hvq rfl) (by simp[List.getD_eq_getElem?_getD,show k<us.length by omega])) ?_;refine PS ?_;refine nx J17 (sr λ_ J18=>PS ?_);refine CF ND (ug (us.getD k undef) (bJ D).recs[k]) ID (λg d s=>tc 1 hkl rfl rfl g d s) ?_;refine P3 ?_;refine XZ KV (ints RecT.zero.flat) λb12=>?_
 refine SW 0 iN bl ?_;refine PS ?_;refine nx J18 (ab λ_ J19=>sr λ_ J20=>P2 ?_);refine an ?_ ?_<;>intro h44;refine nx J20 (CY (sr λ_ J21=>P2 ?_));exact nx J21 (ai (ae (aH (ae (ae (aH (ae (WK [5] (iq rfl rfl rfl (.inr ⟨he, .inl ⟨hrs.trans (Fj hkl h44),rfl,rfl⟩⟩))))))))));refine nx J20 (CN (qx J19 (ad (PS ?_))));refine LW 0 iI iN bl ?_;refine CZ No (w9 lg b28 s (nq (bJ D).recs[k]).1 (IZ h44)) (SM [3]) λvR=>?_
 refine ap (af (ac J16 (ad (AD ?_))));refine PS ?_;refine ap ?_
 exact aI ((k+1,(js s (nq (bJ D).recs[k]).1)):(Nat)×(MS δ)) ⟨by omega,hrs.trans (GS hkl h44)⟩ (by show(bJ D).recs.length- (k+1)< (bJ D).recs.length-k;omega)
  SB
  (λ_ s=>az [1,1,0,0] rfl (bi (p:=λus:List Value=>[own vr (bJ D).recs.length us 93 1,en us (bJ D).recs 5]) us (ak [2,2,0,1,1] rfl s)))
 refine nx J14 (ab λ_ J22=>CN (aS (ay (ay (bj (ac J12 (sr λ_ J23=>P3 ?_)))))));refine nx J23 (ai (WK [0,0,1] (iq rfl rfl rfl ?_)));exact .inr ⟨he, .inr ⟨s,b28,lg,by rw[hrs,cD (by omega)];rfl,rfl,rfl⟩⟩
def kf(k:Nat)(m:MsgT):List UInt8:=iY ((k / 5:Nat):Int) ((k%5:Nat):Int) (dU m)
def cv(W:List (List MsgT)):List (List (List UInt8)):=(List.range 25).map λk=>(W.getD k []).map (kf k)
theorem pa(W:List (List MsgT)):(cv W).length=25:=by simp[cv]
theorem mZ(W:List (List MsgT)){k:Nat}(h:k<25):(cv W).getD k []=(W.getD k []).map (kf k):=by simp[cv,h,List.getD_eq_getElem?_getD]
theorem uP(W:List (List MsgT)){k:Nat}(h:k<25)(hW:W.length=25)(l:List MsgT):(cv W).set k (l.map (kf k))=cv (W.set k l):=by
 refine List.ext_getElem? λj=>?_
 by_cases hj:j=k
 · subst hj
   rw[List.getElem?_set_self (by rw[pa];exact h)];simp[cv,h,List.getD_eq_getElem?_getD,List.getElem?_set_self (show j<W.length by omega)]
 · rw[List.getElem?_set_ne (λe=>hj e.symm)]
   unfold cv;rw[List.getElem?_map,List.getElem?_map]
   by_cases hk:j<25
   · simp[hk,List.getD_eq_getElem?_getD,List.getElem?_set_ne (λe=>hj e.symm)]
   · simp[hk]
theorem Ag{f t:Int}(hf:iA f=true)(ht:iA t=true)(m:MsgT):kf (bA f t) m=iY f t (dU m):=by
 have h1:0≤f∧f<5:=of_decide_eq_true hf;have h2:0≤t∧t<5:=of_decide_eq_true ht;unfold kf bA;rw[show(((f.toNat*5+t.toNat) / 5:Nat):Int)=f by omega,show(((f.toNat*5+t.toNat)%5:Nat):Int)=t by omega]
theorem ru{f t:Int}(h:dA f t=true):iA f=true∧iA t=true:=by
 unfold dA at h;rw[av,av]at h;exact h.1
theorem Gt{W:List (List MsgT)}(hW:W.length=25){f:Nat}(s:SaidT):om (cv W) ((f:Nat):Int) s.to' (iY ((f:Nat):Int) s.to' (dU s.msg))=cv (rM W f s):=by
 unfold om rM;cases hv:dA ((f:Nat):Int) s.to'
 · rfl
 · obtain⟨h1,h2⟩:=hY hv
   obtain⟨h3,h4⟩:=ru hv;rw[if_pos rfl,if_pos rfl,mZ W h1,←Ag h3 h4,←uP W h1 hW];unfold zd;rw[bU];split
   · rw[cQ];rfl
   · rfl
theorem GV(W:List (List MsgT))(f:Nat)(s:SaidT):(rM W f s).length=W.length:=by unfold rM;split<;>simp
theorem EY(W:List (List MsgT))(f:Nat)(l:List SaidT):(gK W f l).length=W.length:=by
 induction l generalizing W with
 |nil=>rfl
 |cons s l ih=>exact(ih _).trans (GV _ _ _)
theorem EZ(W:List (List MsgT))(f:Nat)(l:List SaidT)(s:SaidT):gK W f (l++[s])=rM (gK W f l) f s:=by simp[gK]
theorem uN(k:Nat)(m:MsgT):(kf k m).length≤1000000:=by
 unfold kf;rw[qR];have:=sh m;omega
theorem vF(c:Nat)(w:Int):
 DT 56 #[(.pointer (some ⟨c,0,none⟩)),(.int .i64 (w))] T0 [] (RI (.bool (iA w)) []):=by
 refine BD 15 Tryz.func56 rfl rfl rfl λw0 F hF=>sr λ_ J1=>PS ?_
 refine nx J1 (sr λ_ J2=>PS ?_);refine tp (fP rfl KR rfl rfl) ?_;refine P3 ?_;refine an ?_ ?_<;>intro h9
 iterate 6 refine PS ?_
 refine nx J2 (ai (WK [] (au rfl rfl ?_)));exact⟨congrArg Value.bool (by unfold iA;simp only[decide_eq_decide];omega),rfl⟩;refine P2 ?_;refine UF ?_;refine UF ?_;refine P2 ?_;refine nx J2 (ai (WK [] (au rfl rfl ?_)));exact⟨congrArg Value.bool (by unfold iA;symm;exact decide_eq_false (by omega)),rfl⟩
theorem dH(c i:Nat)(hi:i<5):DT 56 #[.pointer (some ⟨c,0,none⟩), .int .i64 ((i:Nat):Int)] T0 [] (RI (.bool true) []):=by
 have:=vF c ((i:Nat):Int)
 rwa [show iA ((i:Nat):Int)=true from decide_eq_true ⟨by omega,by omega⟩]at this
theorem pg(c n i:Nat)(D M P:Nat→Value)(hi:i<5)(hM:M i= .pointer none):
 DT 16 #[(.pointer (some ⟨c,0,none⟩)),(.int .i64 (((i:Nat):Int)))] T0 [ag c (ey n D M P) 104] (RI (.bool false) [ag c (ey n D M P) 104]):=by
 refine BD 27 Tryz.func16 rfl rfl rfl λw0 F hF=>sr λ_ J1=>PS ?_
 refine nx J1 (sr λ_ J2=>P2 ?_);refine CE pC (dH c i hi) ID ?_;refine P4 ?_;refine FA 6 ie nE ?_;refine IX (6+i) qa gV ?_;refine LT 0 oQ (.pointer none) ?_ (hc:=by exact(wB n D M P hi).trans (congrArg some hM));refine tq (gF rfl oQ rfl rfl) ?_;refine P2 ?_
 iterate 8 refine UF ?_
 refine P2 ?_;exact nx J2 (ai (WK [0] (au rfl rfl ⟨rfl,rfl⟩)))
theorem Lp (c i : Nat) : wU Tryz.prog 110 (Lo c i) "Send" 203 := fun w => by kernel_rfl
theorem pe(c n i:Nat)(D M P:Nat→Value)(hi:i<5)(d r:Nat)(e:DS)(hD:D i= .pointer (some ⟨d,0,none⟩))(hM:M i= .pointer (some ⟨r,0,none⟩)):
 DT 16 #[(.pointer (some ⟨c,0,none⟩)),(.int .i64 (((i:Nat):Int)))] T0 [ag c (ey n D M P) 104,dk d e] (RI (.bool (!e.dn)) [ag c (ey n D M P) 104,dk d e]):=by
 refine BD 27 Tryz.func16 rfl rfl rfl λw0 F hF=>sr λ_ J1=>PS ?_
 refine nx J1 (sr λ_ J2=>P2 ?_);refine CE pC (dH c i hi) ID ?_;refine P4 ?_;refine FA 6 ie nE ?_;refine IX (6+i) qa gV ?_;refine LT 0 oQ (.pointer (some ⟨r,0,none⟩)) ?_ (hc:=by exact(wB n D M P hi).trans (congrArg some hM));refine tq (fP rfl oQ rfl rfl) ?_
 iterate 5 refine PS ?_
 refine FA 1 ie rB ?_;refine IX (1+i) zU oF ?_;refine LT 0 sx (.pointer (some ⟨d,0,none⟩)) ?_ (hc:=by exact(BI n D M P hi).trans (congrArg some hD));refine CE LF (Et d e) (SM [1]) ?_;refine tq (nY rfl rfl rfl) ?_;refine P2 ?_;exact nx J2 (ai (WK [1,0] (au rfl rfl ⟨rfl,rfl⟩)))
theorem Cs(c n i:Nat)(D M P:Nat→Value)(hi:i<5)(d:Nat)(e:DS)(hD:D i= .pointer (some ⟨d,0,none⟩))(W:List (List MsgT))(hW:W.length=25)(to':Int)(m:MsgT):
 DT 203 #[(.agg #[(.pointer (some ⟨c,0,none⟩)),(.int .i64 (((i:Nat):Int)))]),(.int .i64 (to')),(.agg (ints m.flat).toArray)] T0 [ag c (ey n D M P) 104,dk d e,dL 156 208 5 n (cv W)] (c9 (λ_ H=>H=[ag c (ey n D M P) 104,dk d e,dL 156 208 5 n (cv (if e.dn then W else rM W i ⟨to',m⟩))])):=by
 refine BD 27 Tryz.func203 rfl rfl rfl λw0 F hF=>sr λ_ J1=>XB λb3=>?_
 refine XY (ints m.flat) λb5=>?_
 refine nx J1 (ab λ_ J2=>D2 1 2 df ?_);refine FD 0 0 DL Lc ?_;refine LX 1 KR (.pointer (some ⟨c,0,none⟩)) ?_ (hc:=by exact rfl);refine FD 2 1 DL aP ?_;refine LX 3 Y3 (.int .i64 (((i:Nat):Int))) ?_ (hc:=by exact rfl);refine PD 4 ?_;refine FD 5 1 ie rB ?_;refine IY 6 (1+i) zU oF ?_;refine LX 7 sx (.pointer (some ⟨d,0,none⟩)) ?_ (hc:=by exact(BI n D M P hi).trans (congrArg some hD));refine AL 8 ?_;refine CE LF (Et d e) (SM [3]) ?_;refine aW ?_ ?_<;>intro h14;refine EN (PD 9 ?_);refine DN (ac J2 (CN (aQ (WK [3,0,2] (bz rfl ?_)))));exact by rw[show e.dn=true by assumption];rfl
 refine EN (PD 9 ?_);refine DN (ac J2 (CY (lR (λw=>Frm F w∧w.heap[b3]?=some (.cells ([(.pointer (some ⟨c,0,none⟩)),(.int .i64 (((i:Nat):Int)))]).toArray 110 (0,0))∧w.heap[c]?=some (.cells (ey n D M P).toArray 104 (0,0))∧w.heap[b5]?=some (.cells (ints m.flat).toArray 178 (0,0))∧True) df rfl (λ_ s=>⟨dT s,s.block 2 (lb rfl) rfl,s.block 3 (lb rfl) rfl,s.block 1 (lb rfl) rfl,trivial⟩) (FD 0 0 DL Lc ?_))));refine LX 1 KR (.pointer (some ⟨c,0,none⟩)) ?_ (hc:=by exact rfl);refine PD 2 ?_;refine FD 3 0 ie w6 ?_;refine LX 4 Gn (.pointer (some ⟨n,0,none⟩)) ?_ (hc:=by exact xo n D M P);refine FD 5 1 DL aP ?_;refine LX 6 Y3 (.int .i64 (((i:Nat):Int))) ?_ (hc:=by exact rfl);refine PD 7 ?_;refine LY 8 a9 bW aG ?_;refine AL 9 ?_;refine CR LM (Bs m) ID λvR HR hR=>?_
 obtain⟨_,rfl,rfl⟩:=hR;revert vR;intro ue;refine EN (AL 10 ?_);refine CQ LN (xi n (cv W) ((i:Nat):Int) to' ue (dU m) (sh m) (pa W)) (SM [5]) (λg d s=>H9 (uB 0 rfl rfl g d s)) λvR HR hR=>?_
 obtain⟨_,rfl⟩:=hR;rw[Gt hW ⟨to',m⟩];refine EN (DN (WK [5,2,0] (bz rfl ?_)));exact by rw[show e.dn=false by assumption];rfl
def FB(c n d i:Nat)(D M P:Nat→Value)(W:List (List MsgT))(e:LD)(l:List SaidT):HP:=bC [ag c (ey n D M P) 104,dk d e.D,dL 156 208 5 n (cv (gK W i l))]
section
variable {c n d i:Nat} {D M P:Nat→Value} {W:List (List MsgT)} {e:LD} {l:List SaidT} {H:List HP} {h:Hl}
theorem s4(s:bC (FB c n d i D M P W e l::H) h):bC (ag c (ey n D M P) 104::dk d e.D::dL 156 208 5 n (cv (gK W i l))::H) h:=(bX [_,_,_] H).2 s
theorem sZ(s:bC (ag c (ey n D M P) 104::dk d e.D::dL 156 208 5 n (cv (gK W i l))::H) h):bC (FB c n d i D M P W e l::H) h:=(bX [_,_,_] H).1 s
end
def wo(c n d i:Nat)(D M P:Nat→Value)(hi:i<5)(hD:D i= .pointer (some ⟨d,0,none⟩))(W:List (List MsgT))(hW:W.length=25):Env LD where
 toDk:=KD
 T:=110
 ov:=Lo c i
 sf:=203
 E:=FB c n d i D M P W
 lg g e:=Eo g d ((e.cnt:Nat):Int) e.used
 me:=Lp c i
 nm:=LO
 say e l to' m _:=by
  refine Leg.Does.conv (Cs c n i D M P hi d e.D hD (gK W i l) (by rw[EY];exact hW) to' m) (λh s=>s4 s) λx H F w hp hs=>?_
  cases x with
  |returned v=>
   obtain rfl:=hp;refine⟨_,hs.mono (λh s=>sZ (l:=if KD.dn e then l else l++[SaidT.mk to' m]) ?_),rfl⟩
   have q:gK W i (if KD.dn e then l else l++[SaidT.mk to' m])=if e.D.dn then gK W i l else rM (gK W i l) i ⟨to',m⟩:=by
    show gK W i (if e.D.dn then l else _)=_;split
    · rfl
    · exact EZ ..
   rw[q];exact s
  |panicked c=>exact hp.elim
  |outgrown=>exact hp.elim
 put g x bs e l hok hlen:=by
  refine Leg.Does.withinR (A:=[Eo g d ((e.cnt:Nat):Int) e.used,dk d e.D]) (B:=[ag c (ey n D M P) 104,dL 156 208 5 n (cv (gK W i l))]) (Ai g d e.cnt e.used x bs e.D hok.dk.ok (by have:=hok.dk.ws;omega) hok.used (by have:=hok.cnt;have:=hok.used;omega)) (λF g h dj=>MT h dj) (λh s=>?_) λv H hp=>?_
  · exact az [3,1,0,0] rfl (s4 (az [1,0] rfl s))
  · obtain⟨hv,rfl⟩:=hp
    exact⟨[Eo g d (((e.put bs).1.cnt:Nat):Int) (e.put bs).1.used,FB c n d i D M P W (e.put bs).1 l],λh s=>az [1,0] rfl (sZ (e:=(e.put bs).1) (l:=l) (az [2,1,1,0] rfl s)),hv,rfl⟩
abbrev lM(v:Value)(l:List ReplyT):HP:=own v l.length (ints (List.flatMap ReplyT.flat l)) 37 3
abbrev Fa(s:MS LD)(d r:Nat)(a:Adr):List HP:=[ag r (RepT.cells (s.rep a)) 123,Eo a.lg d ((s.e.cnt:Nat):Int) s.e.used,lM a.rs s.replies,DO a.vo s.vote]
abbrev eP(s:MS LD)(d r:Nat):HP:=pack (Fa s d r)
def p9(x:Slot)(d r:Nat):HP:=match x.run with
 |some s=>eP s d r
 |none=>λ_=>True
abbrev jr(x:Slot)(d r:Nat)(p:Value):List HP:=[dk d x.dk,lM p x.past,p9 x d r]
def kl(x:Slot)(d r:Nat)(p:Value):HP:=bC (jr x d r p)
structure CX where
 n:Nat
 d:Nat→Nat
 r:Nat→Nat
 p:Nat→Value
abbrev k0(g:CX):Nat→Value:=λi=> .pointer (some ⟨g.d i,0,none⟩)
def xh(x:Slot)(r:Nat):Value:=match x.run with
 |some _=> .pointer (some ⟨r,0,none⟩)
 |none=> .pointer none
abbrev jb(a:CL)(r:Nat→Nat):Nat→Value:=λi=>xh (a.at' i) (r i)
abbrev qn(c:Nat)(a:CL)(g:CX):List HP:=[ag c (ey g.n (k0 g) (jb a g.r) g.p) 104,dL 156 208 5 g.n (cv a.W),bC ((List.range 5).map λi=>kl (a.at' i) (g.d i) (g.r i) (g.p i))]
def fE(c:Nat)(a:CL):HP:=pack (qn c a)
section
variable {c n d i r:Nat} {D M P:Nat→Value} {W:List (List MsgT)} {s:MS LD} {H:List HP} {h:Hl} {hi:i<5} {hD:D i= .pointer (some ⟨d,0,none⟩)} {hW:W.length=25}
theorem CS(ho:s.o=[])(q:bC (ag c (ey n D M P) 104::dk d s.e.D::dL 156 208 5 n (cv W)::eP s d r::H) h):bC (cC (wo c n d i D M P hi hD W hW) r s::H) h:=by
 obtain⟨a,q⟩:=fk (az [3,0,0,0] rfl q);have q2:=az [4,4,4,0,0,0,0] rfl q;have q3:=sZ (i:=i) (W:=W) (e:=s.e) (l:=[]) q2;refine bi (p:=λa:Adr=>[ag r (RepT.cells (s.rep a)) 123,Eo a.lg d ((s.e.cnt:Nat):Int) s.e.used,lM a.rs s.replies,DO a.vo s.vote,FB c n d i D M P W s.e s.o]) a ?_;rw[ho];exact az [1,1,1,1,0] rfl q3
theorem zn(q:bC (cC (wo c n d i D M P hi hD W hW) r s::H) h):bC (ag c (ey n D M P) 104::dk d s.e.D::dL 156 208 5 n (cv (gK W i s.o))::eP s.hush d r::H) h:=by
 obtain⟨a,q⟩:=fk q;have q1:bC ([ag r (RepT.cells (s.rep a)) 123,Eo a.lg d ((s.e.cnt:Nat):Int) s.e.used,lM a.rs s.replies,DO a.vo s.vote,FB c n d i D M P W s.e s.o]++H) h:=q;have q2:=s4 (az [4,0,0,0,0] rfl q1);have q3:=bi (p:=Fa s.hush d r) a (az [3,3,3,3,0,0,0] rfl q2);exact az [1,1,1,0] rfl q3
end
theorem Dp(c n i:Nat)(D M P:Nat→Value)(hi:i<5)(d r:Nat)(s:MS LD)(hD:D i= .pointer (some ⟨d,0,none⟩))(hM:M i= .pointer (some ⟨r,0,none⟩))(W:List (List MsgT))(hW:W.length=25)(ho:s.o=[])(hs:OkR KD s)(o:OpT)(k:Int)(hk:0≤k∧k≤4)(hch:OkCh o.change)(hrs:s.replies.length≤1000000):
 DT 17 #[(.pointer (some ⟨c,0,none⟩)),(.agg (ints (OpT.mk k ((i:Nat):Int) o.to' o.key o.n o.change o.mask o.torn o.cut).flat).toArray)] T0 [ag c (ey n D M P) 104,dk d s.e.D,dL 156 208 5 n (cv W),eP s d r] (c9 (λv H=>(s.e.D.dn=true∧v= .int .i64 4∧H=[ag c (ey n D M P) 104,dk d s.e.D,dL 156 208 5 n (cv (W)),eP s d r])∨(s.e.D.dn=false∧v= .int .i64 (bY KD s ((OpT.mk k ((i:Nat):Int) o.to' o.key o.n o.change o.mask o.torn o.cut))).2∧H=[ag c (ey n D M P) 104,dk d (bY KD s ((OpT.mk k ((i:Nat):Int) o.to' o.key o.n o.change o.mask o.torn o.cut))).1.hush.e.D,dL 156 208 5 n (cv (gK W i (bY KD s ((OpT.mk k ((i:Nat):Int) o.to' o.key o.n o.change o.mask o.torn o.cut))).1.o)),eP (bY KD s ((OpT.mk k ((i:Nat):Int) o.to' o.key o.n o.change o.mask o.torn o.cut))).1.hush d r]))):=by
 refine BD 114 Tryz.func17 rfl rfl rfl λw0 F hF=>sr λ_ J1=>XY (ints (OpT.mk k ((i:Nat):Int) o.to' o.key o.n o.change o.mask o.torn o.cut).flat) λb3=>?_
 refine PS ?_;refine nx J1 (ab λ_ J2=>sr λ_ J3=>PS ?_);refine FA 1 fz aP ?_;refine LT 0 Y3 (.int .i64 (((i:Nat):Int))) ?_ (hc:=by exact bI _ rfl);refine CE pC (dH c i hi) ID ?_;refine PS ?_;refine nx J3 (CN (qx J2 (ab λ_ J4=>sr λ_ J5=>FA 0 fz aP ?_)));refine LT 0 Y3 (.int .i64 (k)) ?_ (hc:=by exact cS _ rfl);refine nx J5 (aq (ab λ_ J6=>eV (α:=Unit) (λ_u=>True) (λ_u=>[(0,(.pointer (some ⟨c,0,none⟩))),(3,(.pointer (some ⟨b3,0,none⟩))),(4,(.int .i64 0)),(11,(.int .i64 (k))),(12,(.bool true))]) (λ_u=>[ag b3 (ints (OpT.mk k ((i:Nat):Int) o.to' o.key o.n o.change o.mask o.torn o.cut).flat) 30,ag c (ey n D M P) 104,dk d s.e.D,dL 156 208 5 n (cv W),eP s d r]) (λ_u hinv=>?_) (λtl6=>?_)));have _:=hinv;refine ac J6 (CY (ab λ_ J7=>sr λ_ J8=>PS ?_));refine FA 1 fz aP ?_;refine LT 0 Y3 (.int .i64 (((i:Nat):Int))) ?_ (hc:=by exact bI _ rfl);refine CE xd (pe c n i D M P hi d r s.e.D hD hM) (SM [1,1]) ?_;refine aW ?_ ?_<;>intro h21;refine PS ?_;refine nx J8 (CN (qx J7 (ab λ_ J9=>D2 2 0 df ?_)));refine PD 0 ?_;refine FD 1 1 fz aP ?_;refine LX 2 Y3 (.int .i64 (((i:Nat):Int))) ?_ (hc:=by exact bI _ rfl);refine PD 3 ?_;refine FD 4 6 ie nE ?_;refine IY 5 (6+i) qa gV ?_;refine LX 6 oQ (.pointer (some ⟨r,0,none⟩)) ?_ (hc:=by exact(wB n D M P hi).trans (congrArg some hM));refine PD 7 ?_;refine FD 8 1 fz aP ?_
 refine LX 9 Y3 (.int .i64 (((i:Nat):Int))) ?_ (hc:=by exact bI _ rfl);refine ta 10 rfl (jL (cells:=#[(.pointer (some ⟨c,0,none⟩)),(.int .i64 (((i:Nat):Int)))]) rfl rfl (by as_aux_lemma=>kernel_rfl)) ?_;refine ta 11 rfl (oS rfl DL rfl rfl) ?_;refine LY 12 fz Ap H6 ?_;refine AL 13 ?_;refine cq (H':=[cC (wo c n d i D M P hi hD W hW) r s,ag b3 (ints (OpT.mk k ((i:Nat):Int) o.to' o.key o.n o.change o.mask o.torn o.cut).flat) 30]) (λ_ q=>CS ho (az [0,0,1,1] rfl q)) (CE Nz (@zI _ (wo c n d i D M P hi hD W hW) r s ((OpT.mk k ((i:Nat):Int) o.to' o.key o.n o.change o.mask o.torn o.cut)) hs hch hrs) ID ?_);change TL _ _ _ _ _ _ _ _ _ [cC (wo c n d i D M P hi hD W hW) r ((bY KD s ((OpT.mk k ((i:Nat):Int) o.to' o.key o.n o.change o.mask o.torn o.cut))).1),ag b3 (ints (OpT.mk k ((i:Nat):Int) o.to' o.key o.n o.change o.mask o.torn o.cut).flat) 30];refine cq (H':=[ag c (ey n D M P) 104,dk d (((bY KD s ((OpT.mk k ((i:Nat):Int) o.to' o.key o.n o.change o.mask o.torn o.cut))).1).e.D),dL 156 208 5 n (cv (gK W i ((bY KD s ((OpT.mk k ((i:Nat):Int) o.to' o.key o.n o.change o.mask o.torn o.cut))).1).o)),eP (((bY KD s ((OpT.mk k ((i:Nat):Int) o.to' o.key o.n o.change o.mask o.torn o.cut))).1).hush) d r,ag b3 (ints (OpT.mk k ((i:Nat):Int) o.to' o.key o.n o.change o.mask o.torn o.cut).flat) 30]) (λ_ q=>zn (s:=(bY KD s ((OpT.mk k ((i:Nat):Int) o.to' o.key o.n o.change o.mask o.torn o.cut))).1) q) (EN (PD 14 ?_))
 refine DN (ac J9 (ai (aH (ae (WK [0,0,0,0] (au rfl rfl ?_))))));exact .inr ⟨(by simpa using h21),rfl,rfl⟩;refine PS ?_;refine nx J8 (CY (sr λ_ J10=>PS ?_));refine nx J10 (ai (ae (aH (ae (WK [0,0,1,1] (au rfl rfl ?_))))));exact .inl ⟨(by simpa using h21),rfl,rfl⟩;refine sr λ_ J11=>P2 ?_
 refine an ?_ ?_<;>intro h12;refine nx J11 (CY (aQ ?_))
 exact aF
  SB
  (λ_ s=>ak [0,0,0,0,0] rfl s)
  (tl6 (():Unit) trivial)
 refine nx J11 (CN (sr λ_ J12=>P2 ?_));refine an ?_ ?_<;>intro h12;refine nx J12 (CY (aQ ?_))
 exact aF
  SB
  (λ_ s=>ak [0,0,0,0,0] rfl s)
  (tl6 (():Unit) trivial)
 refine nx J12 (CN (sr λ_ J13=>P2 ?_));refine an ?_ ?_<;>intro h12;refine nx J13 (CY (aQ ?_))
 exact aF
  SB
  (λ_ s=>ak [0,0,0,0,0] rfl s)
  (tl6 (():Unit) trivial)
 refine nx J13 (CN (sr λ_ J14=>P2 ?_));refine an ?_ ?_<;>intro h12;refine nx J14 (CY (aQ ?_))
 exact aF
  SB
  (λ_ s=>ak [0,0,0,0,0] rfl s)
  (tl6 (():Unit) trivial)
 refine nx J14 (CN (ad (PS ?_)));refine an ?_ ?_<;>intro h17;refine PS ?_;refine ap ?_
 exact aF
  SB
  (λ_ s=>ak [0,0,0,0,0] rfl s)
  (tl6 (():Unit) trivial)
 · exact absurd h17 (by omega)
theorem BA(c n i:Nat)(D M P:Nat→Value)(hi:i<5)(hM:M i= .pointer none)(o:OpT)(k:Int)(hk:0≤k∧k≤4):
 DT 17 #[(.pointer (some ⟨c,0,none⟩)),(.agg (ints (OpT.mk k ((i:Nat):Int) o.to' o.key o.n o.change o.mask o.torn o.cut).flat).toArray)] T0 [ag c (ey n D M P) 104] (RI (.int .i64 4) [ag c (ey n D M P) 104]):=by
 refine BD 114 Tryz.func17 rfl rfl rfl λw0 F hF=>sr λ_ J1=>XY (ints (OpT.mk k ((i:Nat):Int) o.to' o.key o.n o.change o.mask o.torn o.cut).flat) λb3=>?_
 refine PS ?_;refine nx J1 (ab λ_ J2=>sr λ_ J3=>PS ?_);refine FA 1 fz aP ?_;refine LT 0 Y3 (.int .i64 (((i:Nat):Int))) ?_ (hc:=by exact bI _ rfl);refine CE pC (dH c i hi) ID ?_;refine PS ?_;refine nx J3 (CN (qx J2 (ab λ_ J4=>sr λ_ J5=>FA 0 fz aP ?_)));refine LT 0 Y3 (.int .i64 (k)) ?_ (hc:=by exact cS _ rfl);refine nx J5 (aq (ab λ_ J6=>eV (α:=Unit) (λ_u=>True) (λ_u=>[(0,(.pointer (some ⟨c,0,none⟩))),(3,(.pointer (some ⟨b3,0,none⟩))),(4,(.int .i64 0)),(11,(.int .i64 (k))),(12,(.bool true))]) (λ_u=>[ag b3 (ints (OpT.mk k ((i:Nat):Int) o.to' o.key o.n o.change o.mask o.torn o.cut).flat) 30,ag c (ey n D M P) 104]) (λ_u hinv=>?_) (λtl6=>?_)));have _:=hinv;refine ac J6 (CY (ab λ_ J7=>sr λ_ J8=>PS ?_));refine FA 1 fz aP ?_;refine LT 0 Y3 (.int .i64 (((i:Nat):Int))) ?_ (hc:=by exact bI _ rfl);refine CE xd (pg c n i D M P hi hM) (SM [1]) ?_;refine PS ?_;refine nx J8 (CY (sr λ_ J9=>PS ?_));exact nx J9 (ai (ae (aH (ae (WK [0] (au rfl rfl ⟨rfl,rfl⟩))))));refine sr λ_ J10=>P2 ?_
 refine an ?_ ?_<;>intro h12;refine nx J10 (CY (aQ ?_))
 exact aF
  SB
  (λ_ s=>ak [0,0] rfl s)
  (tl6 (():Unit) trivial)
 refine nx J10 (CN (sr λ_ J11=>P2 ?_));refine an ?_ ?_<;>intro h12;refine nx J11 (CY (aQ ?_))
 exact aF
  SB
  (λ_ s=>ak [0,0] rfl s)
  (tl6 (():Unit) trivial)
 refine nx J11 (CN (sr λ_ J12=>P2 ?_));refine an ?_ ?_<;>intro h12;refine nx J12 (CY (aQ ?_))
 exact aF
  SB
  (λ_ s=>ak [0,0] rfl s)
  (tl6 (():Unit) trivial)
 refine nx J12 (CN (sr λ_ J13=>P2 ?_));refine an ?_ ?_<;>intro h12;refine nx J13 (CY (aQ ?_))
 exact aF
  SB
  (λ_ s=>ak [0,0] rfl s)
  (tl6 (():Unit) trivial)
 refine nx J13 (CN (ad (PS ?_)));refine an ?_ ?_<;>intro h17;refine PS ?_;refine ap ?_
 exact aF
  SB
  (λ_ s=>ak [0,0] rfl s)
  (tl6 (():Unit) trivial)
 · exact absurd h17 (by omega)
theorem Di(c n i:Nat)(D M P:Nat→Value)(hi:i<5)(d r:Nat)(s:MS LD)(hD:D i= .pointer (some ⟨d,0,none⟩))(hM:M i= .pointer (some ⟨r,0,none⟩))(W:List (List MsgT))(hW:W.length=25)(ho:s.o=[])(hs:OkR KD s)(o:OpT):
 DT 17 #[(.pointer (some ⟨c,0,none⟩)),(.agg (ints (OpT.mk 8 ((i:Nat):Int) o.to' o.key o.n o.change o.mask o.torn o.cut).flat).toArray)] T0 [ag c (ey n D M P) 104,dk d s.e.D,dL 156 208 5 n (cv W),eP s d r] (c9 (λv H=>(s.e.D.dn=true∧v= .int .i64 4∧H=[ag c (ey n D M P) 104,dk d s.e.D,dL 156 208 5 n (cv (W)),eP s d r])∨(s.e.D.dn=false∧v= .int .i64 0∧H=[ag c (ey n D M P) 104,dk d (iy KD s).hush.e.D,dL 156 208 5 n (cv (gK W i (iy KD s).o)),eP (iy KD s).hush d r]))):=by
 refine BD 114 Tryz.func17 rfl rfl rfl λw0 F hF=>sr λ_ J1=>XY (ints (OpT.mk 8 ((i:Nat):Int) o.to' o.key o.n o.change o.mask o.torn o.cut).flat) λb3=>?_
 refine PS ?_;refine nx J1 (ab λ_ J2=>sr λ_ J3=>PS ?_);refine FA 1 fz aP ?_;refine LT 0 Y3 (.int .i64 (((i:Nat):Int))) ?_ (hc:=by exact bI _ rfl);refine CE pC (dH c i hi) ID ?_;refine PS ?_;refine nx J3 (CN (qx J2 (ab λ_ J4=>sr λ_ J5=>FA 0 fz aP ?_)));refine LT 0 Y3 (.int .i64 8) ?_ (hc:=by exact cS _ rfl);refine nx J5 (aq (ab λ_ J6=>sr λ_ J7=>P2 ?_));refine nx J7 (CN (sr λ_ J8=>P2 ?_));refine nx J8 (CN (sr λ_ J9=>P2 ?_));refine nx J9 (CN (sr λ_ J10=>P2 ?_));refine nx J10 (CN (ad (P2 ?_)));refine nx J6 (CN (ab λ_ J11=>sr λ_ J12=>P2 ?_));refine nx J12 (CN (sr λ_ J13=>P2 ?_));refine nx J13 (CN (ad (P2 ?_)));refine nx J11 (CN (sr λ_ J14=>P2 ?_));refine nx J14 (CY (ab λ_ J15=>sr λ_ J16=>PS ?_));refine FA 1 fz aP ?_;refine LT 0 Y3 (.int .i64 (((i:Nat):Int))) ?_ (hc:=by exact bI _ rfl);refine CE xd (pe c n i D M P hi d r s.e.D hD hM) (SM [1,1]) ?_;refine aW ?_ ?_<;>intro h49;refine PS ?_;refine nx J16 (CN (qx J15 (D2 2 0 df ?_)));refine PD 0 ?_;refine FD 1 1 fz aP ?_;refine LX 2 Y3 (.int .i64 (((i:Nat):Int))) ?_ (hc:=by exact bI _ rfl);refine PD 3 ?_;refine FD 4 6 ie nE ?_;refine IY 5 (6+i) qa gV ?_;refine LX 6 oQ (.pointer (some ⟨r,0,none⟩)) ?_ (hc:=by exact(wB n D M P hi).trans (congrArg some hM));refine PD 7 ?_;refine FD 8 1 fz aP ?_;refine LX 9 Y3 (.int .i64 (((i:Nat):Int))) ?_ (hc:=by exact bI _ rfl)
 refine ta 10 rfl (jL (cells:=#[(.pointer (some ⟨c,0,none⟩)),(.int .i64 (((i:Nat):Int)))]) rfl rfl (by as_aux_lemma=>kernel_rfl)) ?_;refine ta 11 rfl (oS rfl DL rfl rfl) ?_;refine AL 12 ?_;refine cq (H':=[cC (wo c n d i D M P hi hD W hW) r s,ag b3 (ints (OpT.mk 8 ((i:Nat):Int) o.to' o.key o.n o.change o.mask o.torn o.cut).flat) 30]) (λ_ q=>CS ho (az [0,0,1,1] rfl q)) (CZ Nx (@Ci _ (wo c n d i D M P hi hD W hW) r s hs) ID λvR=>?_);change TL _ _ _ _ _ _ _ _ _ [cC (wo c n d i D M P hi hD W hW) r (iy KD s),ag b3 (ints (OpT.mk 8 ((i:Nat):Int) o.to' o.key o.n o.change o.mask o.torn o.cut).flat) 30];refine cq (H':=[ag c (ey n D M P) 104,dk d ((iy KD s).e.D),dL 156 208 5 n (cv (gK W i (iy KD s).o)),eP ((iy KD s).hush) d r,ag b3 (ints (OpT.mk 8 ((i:Nat):Int) o.to' o.key o.n o.change o.mask o.torn o.cut).flat) 30]) (λ_ q=>zn (s:=(iy KD s)) q) (EN (DN (af (ac J4 (sr λ_ J17=>PS ?_)))));refine nx J17 (ai (WK [0,0,0,0] (au rfl rfl ?_)));exact .inr ⟨(by simpa using h49),rfl,rfl⟩;refine PS ?_;refine nx J16 (CY (sr λ_ J18=>PS ?_));refine nx J18 (ai (ae (aH (ae (WK [0,0,1,1] (au rfl rfl ?_))))));exact .inl ⟨(by simpa using h49),rfl,rfl⟩
theorem By(c n i:Nat)(D M P:Nat→Value)(hi:i<5)(hM:M i= .pointer none)(o:OpT):
 DT 17 #[(.pointer (some ⟨c,0,none⟩)),(.agg (ints (OpT.mk 8 ((i:Nat):Int) o.to' o.key o.n o.change o.mask o.torn o.cut).flat).toArray)] T0 [ag c (ey n D M P) 104] (RI (.int .i64 4) [ag c (ey n D M P) 104]):=by
 refine BD 114 Tryz.func17 rfl rfl rfl λw0 F hF=>sr λ_ J1=>XY (ints (OpT.mk 8 ((i:Nat):Int) o.to' o.key o.n o.change o.mask o.torn o.cut).flat) λb3=>?_
 refine PS ?_;refine nx J1 (ab λ_ J2=>sr λ_ J3=>PS ?_);refine FA 1 fz aP ?_;refine LT 0 Y3 (.int .i64 (((i:Nat):Int))) ?_ (hc:=by exact bI _ rfl);refine CE pC (dH c i hi) ID ?_;refine PS ?_;refine nx J3 (CN (qx J2 (ab λ_ J4=>sr λ_ J5=>FA 0 fz aP ?_)));refine LT 0 Y3 (.int .i64 8) ?_ (hc:=by exact cS _ rfl);refine nx J5 (aq (ab λ_ J6=>sr λ_ J7=>P2 ?_));refine nx J7 (CN (sr λ_ J8=>P2 ?_));refine nx J8 (CN (sr λ_ J9=>P2 ?_));refine nx J9 (CN (sr λ_ J10=>P2 ?_));refine nx J10 (CN (ad (P2 ?_)));refine nx J6 (CN (ab λ_ J11=>sr λ_ J12=>P2 ?_));refine nx J12 (CN (sr λ_ J13=>P2 ?_));refine nx J13 (CN (ad (P2 ?_)));refine nx J11 (CN (sr λ_ J14=>P2 ?_));refine nx J14 (CY (ab λ_ J15=>sr λ_ J16=>PS ?_));refine FA 1 fz aP ?_;refine LT 0 Y3 (.int .i64 (((i:Nat):Int))) ?_ (hc:=by exact bI _ rfl);refine CE xd (pg c n i D M P hi hM) (SM [1]) ?_;refine PS ?_;refine nx J16 (CY (sr λ_ J17=>PS ?_));exact nx J17 (ai (ae (aH (ae (WK [0] (au rfl rfl ⟨rfl,rfl⟩))))))
theorem Fg(s:MS LD)(d r:Nat)(h:s.replies.length≤1000000):DT 19 #[.pointer (some ⟨r,0,none⟩)] T0 [eP s d r] (c9 λv H=>∃u,v=u∧H=[eP s d r,lM u s.replies]):=
 Leg.Does.pack (B:=[]) λa=>Leg.Does.withinR (A:=[ag r (RepT.cells (s.rep a)) 123,lM a.rs s.replies]) (B:=[Eo a.lg d ((s.e.cnt:Nat):Int) s.e.used,DO a.vo s.vote]) (y7 r (s.rep a) s.replies h) (λ_ _ _ _=>trivial) (λ_ q=>az [0,1,0,0] rfl q) λv H hp=>by
  obtain⟨u,rfl,rfl⟩:=hp;exact⟨_,λ_ q=>bi (p:=Fa s d r) (H:=[lM v s.replies]) a (az [0,2,0,1,0] rfl q),v,rfl,rfl⟩
theorem CB(c n i:Nat)(D M P:Nat→Value)(hi:i<5)(hM:M i= .pointer none)(pl:List ReplyT)(hpl:pl.length≤100000):
 DT 15 #[(.pointer (some ⟨c,0,none⟩)),(.int .i64 (((i:Nat):Int)))] T0 [ag c (ey n D M P) 104,own (P i) ((pl).length) (ints (List.flatMap ReplyT.flat (pl))) 37 3] (c9 (λv H=>∃u,u.oneCell'=true∧v=u∧H=[ag c (ey n D M P) 104,lM (P i) pl,lM u pl])):=by
 refine BD 34 Tryz.func15 rfl rfl rfl λw0 F hF=>sr λ_ J1=>PS ?_
 refine nx J1 (ab λ_ J2=>sr λ_ J3=>P2 ?_);refine CE pC (dH c i hi) ID ?_;refine PS ?_;refine nx J3 (CN (qx J2 (sr λ_ J4=>P3 ?_)));refine FA 11 ie DV ?_;refine IX (11+i) Jd w7 ?_;refine LT 0 Ih (P i) ?_ (hc:=by exact MG n D M P hi);refine ML 37 3 (λ_=>cE (k:=0) (news:=ints (List.flatMap ReplyT.flat (pl))) (nn':=(pl).length) (xs':=ints (List.flatMap ReplyT.flat (pl))) (aa rfl) rfl rfl rfl Ih FZ rfl rfl rfl rfl rfl rfl (λ_ s=>Oc 2 rfl rfl s) (bu _) (by simp only[maxLen];omega) (by omega) (by simp) (by simp) (λv16 ov16=>PS ?_));refine nx J4 (ab λ_ J5=>sr λ_ J6=>P3 ?_);refine FA 6 ie nE ?_;refine IX (6+i) qa gV ?_;refine LT 1 oQ (.pointer none) ?_ (hc:=by exact(wB n D M P hi).trans (congrArg some hM));refine tp (gF rfl oQ rfl rfl) ?_;refine nx J6 (CN (qx J5 (sr λ_ J7=>P2 ?_)));exact nx J7 (ai (WK [1,1,0] (au rfl rfl ⟨_,ov16,rfl,rfl⟩)))
theorem CA(c n i:Nat)(D M P:Nat→Value)(hi:i<5)(d:Nat)(r:Nat)(s:MS LD)(hM:M i= .pointer (some ⟨r,0,none⟩))(pl:List ReplyT)(hpl:pl.length≤100000)(hrs:s.replies.length≤100000):
 DT 15 #[(.pointer (some ⟨c,0,none⟩)),(.int .i64 (((i:Nat):Int)))] T0 [ag c (ey n D M P) 104,own (P i) ((pl).length) (ints (List.flatMap ReplyT.flat (pl))) 37 3,eP s d r] (c9 (λv H=>∃u,u.oneCell'=true∧v=u∧H=[ag c (ey n D M P) 104,lM (P i) pl,eP s d r,lM u (pl++s.replies)])):=by
 refine BD 34 Tryz.func15 rfl rfl rfl λw0 F hF=>sr λ_ J1=>PS ?_
 refine nx J1 (ab λ_ J2=>sr λ_ J3=>P2 ?_);refine CE pC (dH c i hi) ID ?_;refine PS ?_;refine nx J3 (CN (qx J2 (sr λ_ J4=>P3 ?_)));refine FA 11 ie DV ?_;refine IX (11+i) Jd w7 ?_;refine LT 0 Ih (P i) ?_ (hc:=by exact MG n D M P hi);refine ML 37 3 (λ_=>cE (k:=0) (news:=ints (List.flatMap ReplyT.flat (pl))) (nn':=(pl).length) (xs':=ints (List.flatMap ReplyT.flat (pl))) (aa rfl) rfl rfl rfl Ih FZ rfl rfl rfl rfl rfl rfl (λ_ s=>Oc 2 rfl rfl s) (bu _) (by simp only[maxLen];omega) (by omega) (by simp) (by simp) (λv16 ov16=>PS ?_));refine nx J4 (ab λ_ J5=>sr λ_ J6=>P3 ?_);refine FA 6 ie nE ?_;refine IX (6+i) qa gV ?_;refine LT 1 oQ (.pointer (some ⟨r,0,none⟩)) ?_ (hc:=by exact(wB n D M P hi).trans (congrArg some hM));refine tp (fP rfl oQ rfl rfl) ?_;refine nx J6 (CY (ad (P4 ?_)));refine FA 6 ie nE ?_;refine IX (6+i) qa gV ?_;refine LT 1 oQ (.pointer (some ⟨r,0,none⟩)) ?_ (hc:=by exact(wB n D M P hi).trans (congrArg some hM));refine CR NK (Fg s d r (by omega)) (SM [3]) λvR HR hR=>?_
 obtain⟨_,rfl,rfl⟩:=hR;revert vR;intro ur;refine cE (k:=2) (news:=ints (List.flatMap ReplyT.flat (s.replies))) (nn':=(pl++s.replies).length) (xs':=ints (List.flatMap ReplyT.flat (pl++s.replies))) (aa rfl) rfl rfl rfl Ih FZ rfl rfl rfl rfl rfl rfl (λ_ s=>Oc 1 rfl rfl s) (bu _) (by simp only[maxLen];omega) (by omega) (by rw[aj]) (by simp[ints]) (λv32 ov32=>PS ?_);refine nx J5 (sr λ_ J7=>P2 ?_);exact nx J7 (ai (WK [3,3,0,1] (au rfl rfl ⟨_,ov32,rfl,rfl⟩)))
theorem Dr(c n i:Nat)(D M P:Nat→Value)(hi:i<5)(d:Nat)(hD:D i= .pointer (some ⟨d,0,none⟩))(e:DS)(o:OpT):
 DT 17 #[(.pointer (some ⟨c,0,none⟩)),(.agg (ints (OpT.mk 9 ((i:Nat):Int) o.to' o.key o.n o.change o.mask o.torn o.cut).flat).toArray)] T0 [ag c (ey n D M P) 104,dk d e] (RI (.int .i64 0) [ag c (ey n D M P) 104,dk d (e.arm o.n)]):=by
 refine BD 114 Tryz.func17 rfl rfl rfl λw0 F hF=>sr λ_ J1=>XY (ints (OpT.mk 9 ((i:Nat):Int) o.to' o.key o.n o.change o.mask o.torn o.cut).flat) λb3=>?_
 refine PS ?_;refine nx J1 (ab λ_ J2=>sr λ_ J3=>PS ?_);refine FA 1 fz aP ?_;refine LT 0 Y3 (.int .i64 (((i:Nat):Int))) ?_ (hc:=by exact bI _ rfl);refine CE pC (dH c i hi) ID ?_;refine PS ?_;refine nx J3 (CN (qx J2 (ab λ_ J4=>sr λ_ J5=>FA 0 fz aP ?_)));refine LT 0 Y3 (.int .i64 9) ?_ (hc:=by exact cS _ rfl);refine nx J5 (aq (ab λ_ J6=>sr λ_ J7=>P2 ?_));refine nx J7 (CN (sr λ_ J8=>P2 ?_));refine nx J8 (CN (sr λ_ J9=>P2 ?_));refine nx J9 (CN (sr λ_ J10=>P2 ?_));refine nx J10 (CN (ad (P2 ?_)));refine nx J6 (CN (ab λ_ J11=>sr λ_ J12=>P2 ?_));refine nx J12 (CN (sr λ_ J13=>P2 ?_));refine nx J13 (CN (ad (P2 ?_)));refine nx J11 (CN (sr λ_ J14=>P2 ?_));refine nx J14 (CN (sr λ_ J15=>P2 ?_));refine nx J15 (CY (D2 0 1 df ?_));refine PD 0 ?_;refine FD 1 1 fz aP ?_;refine LX 2 Y3 (.int .i64 (((i:Nat):Int))) ?_ (hc:=by exact bI _ rfl);refine PD 3 ?_;refine FD 4 1 ie rB ?_;refine IY 5 (1+i) zU oF ?_;refine LX 6 sx (.pointer (some ⟨d,0,none⟩)) ?_ (hc:=by exact(BI n D M P hi).trans (congrArg some hD));refine FD 7 4 fz aP ?_;refine LX 8 Y3 (.int .i64 (o.n)) ?_ (hc:=by exact wS _ rfl);refine AL 9 ?_;refine CR Nw (KF d e o.n) (SM [2]) λvR HR hR=>?_
 obtain⟨_,rfl⟩:=hR;refine EN (DN (af (ac J4 (sr λ_ J16=>PS ?_))));exact nx J16 (ai (WK [2,0] (au rfl rfl ⟨rfl,rfl⟩)))
theorem Dn(c n i:Nat)(D M P:Nat→Value)(hi:i<5)(d:Nat)(hD:D i= .pointer (some ⟨d,0,none⟩))(r:Nat)(s:MS LD)(hM:M i= .pointer (some ⟨r,0,none⟩))(pl:List ReplyT)(hpl:pl.length≤100000)(hrs:s.replies.length≤100000)(e:DS)(hok:e.Ok)(o:OpT):
 DT 17 #[(.pointer (some ⟨c,0,none⟩)),(.agg (ints (OpT.mk 10 ((i:Nat):Int) o.to' o.key o.n o.change o.mask o.torn o.cut).flat).toArray)] T0 [ag c (ey n D M P) 104,dk d e,own (P i) ((pl).length) (ints (List.flatMap ReplyT.flat (pl))) 37 3,eP s d r] (c9 (λv H=>∃u,u.oneCell'=true∧v= .int .i64 0∧H=[ag c (ey n D (kG M i (.pointer none)) (kG P i u)) 104,dk d (e.crash o.mask o.torn o.cut),lM u (pl++s.replies)])):=by
 refine BD 114 Tryz.func17 rfl rfl rfl λw0 F hF=>sr λ_ J1=>XY (ints (OpT.mk 10 ((i:Nat):Int) o.to' o.key o.n o.change o.mask o.torn o.cut).flat) λb3=>?_
 refine PS ?_;refine nx J1 (ab λ_ J2=>sr λ_ J3=>PS ?_);refine FA 1 fz aP ?_;refine LT 0 Y3 (.int .i64 (((i:Nat):Int))) ?_ (hc:=by exact bI _ rfl);refine CE pC (dH c i hi) ID ?_;refine PS ?_;refine nx J3 (CN (qx J2 (ab λ_ J4=>sr λ_ J5=>FA 0 fz aP ?_)));refine LT 0 Y3 (.int .i64 10) ?_ (hc:=by exact cS _ rfl);refine nx J5 (aq (ab λ_ J6=>sr λ_ J7=>P2 ?_));refine nx J7 (CN (sr λ_ J8=>P2 ?_));refine nx J8 (CN (sr λ_ J9=>P2 ?_));refine nx J9 (CN (sr λ_ J10=>P2 ?_));refine nx J10 (CN (ad (P2 ?_)));refine nx J6 (CN (ab λ_ J11=>sr λ_ J12=>P2 ?_));refine nx J12 (CN (sr λ_ J13=>P2 ?_));refine nx J13 (CN (ad (P2 ?_)));refine nx J11 (CN (sr λ_ J14=>P2 ?_));refine nx J14 (CN (sr λ_ J15=>P2 ?_));refine nx J15 (CN (sr λ_ J16=>P2 ?_));refine nx J16 (CY (ab λ_ J17=>D1 0 df ?_));refine PD 0 ?_;refine FD 1 1 fz aP ?_;refine LX 2 Y3 (.int .i64 (((i:Nat):Int))) ?_ (hc:=by exact bI _ rfl);refine PD 3 ?_;refine FD 4 1 fz aP ?_;refine LX 5 Y3 (.int .i64 (((i:Nat):Int))) ?_ (hc:=by exact bI _ rfl);refine PD 7 ?_;refine FD 8 11 ie DV ?_;refine AL 6 ?_;refine CR Me (CA c n i D M P hi d r s hM pl hpl hrs) (SM [1,2,2]) λvR HR hR=>?_
 obtain⟨_,huc,rfl,rfl⟩:=hR;revert vR;intro uc huc;refine EN (IY 9 (11+i) Jd w7 ?_);refine AL 10 ?_;refine bv (i:=0) (aa rfl) rfl rfl rfl rfl huc w7 rfl rfl (by rw[qU];omega) (Ex n D M P uc hi) rfl (EN (DN (ac J17 (ab λ_ J18=>D1 4 df ?_))));refine PD 0 ?_;refine FD 1 1 fz aP ?_;refine LX 2 Y3 (.int .i64 (((i:Nat):Int))) ?_ (hc:=by exact bI _ rfl);refine PD 3 ?_;refine FD 4 6 ie nE ?_;refine IY 5 (6+i) qa gV ?_;refine AL 6 ?_;refine bv (i:=0) (aa rfl) rfl rfl rfl rfl rfl gV rfl rfl (by rw[qU];omega) (uD n D M (kG P i uc) (.pointer none) hi) rfl (EN (DN (ac J18 (D2 4 0 df ?_))));refine PD 0 ?_;refine FD 1 1 fz aP ?_;refine LX 2 Y3 (.int .i64 (((i:Nat):Int))) ?_ (hc:=by exact bI _ rfl);refine PD 3 ?_;refine FD 4 1 ie rB ?_;refine IY 5 (1+i) zU oF ?_;refine LX 6 sx (.pointer (some ⟨d,0,none⟩)) ?_ (hc:=by exact(BI n D (kG M i (.pointer none)) (kG P i uc) hi).trans (congrArg some hD));refine FD 7 8 fz aP ?_;refine LX 8 Y3 (.int .i64 (o.mask)) ?_ (hc:=by exact OpT.at_mask _ rfl);refine FD 9 9 fz aP ?_;refine LX 10 Y3 (.int .i64 (o.torn)) ?_ (hc:=by exact OpT.at_torn _ rfl);refine FD 11 10 fz aP ?_;refine LX 12 Y3 (.int .i64 (o.cut)) ?_ (hc:=by exact OpT.at_cut _ rfl);refine AL 13 ?_;refine CR Lz (BB d e o.mask o.torn o.cut hok) (SM [5]) λvR HR hR=>?_
 obtain⟨_,rfl⟩:=hR;refine EN (DN (af (ac J4 (sr λ_ J19=>PS ?_))));exact nx J19 (ai (WK [1,0,2] (au rfl rfl ⟨uc,huc,rfl,rfl⟩)))
theorem Do(c n i:Nat)(D M P:Nat→Value)(hi:i<5)(d:Nat)(hD:D i= .pointer (some ⟨d,0,none⟩))(hM:M i= .pointer none)(pl:List ReplyT)(hpl:pl.length≤100000)(e:DS)(hok:e.Ok)(o:OpT):
 DT 17 #[(.pointer (some ⟨c,0,none⟩)),(.agg (ints (OpT.mk 10 ((i:Nat):Int) o.to' o.key o.n o.change o.mask o.torn o.cut).flat).toArray)] T0 [ag c (ey n D M P) 104,dk d e,own (P i) ((pl).length) (ints (List.flatMap ReplyT.flat (pl))) 37 3] (c9 (λv H=>∃u,u.oneCell'=true∧v= .int .i64 0∧H=[ag c (ey n D (kG M i (.pointer none)) (kG P i u)) 104,dk d (e.crash o.mask o.torn o.cut),lM u pl])):=by
 refine BD 114 Tryz.func17 rfl rfl rfl λw0 F hF=>sr λ_ J1=>XY (ints (OpT.mk 10 ((i:Nat):Int) o.to' o.key o.n o.change o.mask o.torn o.cut).flat) λb3=>?_
 refine PS ?_;refine nx J1 (ab λ_ J2=>sr λ_ J3=>PS ?_);refine FA 1 fz aP ?_;refine LT 0 Y3 (.int .i64 (((i:Nat):Int))) ?_ (hc:=by exact bI _ rfl);refine CE pC (dH c i hi) ID ?_;refine PS ?_;refine nx J3 (CN (qx J2 (ab λ_ J4=>sr λ_ J5=>FA 0 fz aP ?_)));refine LT 0 Y3 (.int .i64 10) ?_ (hc:=by exact cS _ rfl);refine nx J5 (aq (ab λ_ J6=>sr λ_ J7=>P2 ?_));refine nx J7 (CN (sr λ_ J8=>P2 ?_));refine nx J8 (CN (sr λ_ J9=>P2 ?_));refine nx J9 (CN (sr λ_ J10=>P2 ?_));refine nx J10 (CN (ad (P2 ?_)));refine nx J6 (CN (ab λ_ J11=>sr λ_ J12=>P2 ?_));refine nx J12 (CN (sr λ_ J13=>P2 ?_));refine nx J13 (CN (ad (P2 ?_)));refine nx J11 (CN (sr λ_ J14=>P2 ?_));refine nx J14 (CN (sr λ_ J15=>P2 ?_));refine nx J15 (CN (sr λ_ J16=>P2 ?_));refine nx J16 (CY (ab λ_ J17=>D1 0 df ?_));refine PD 0 ?_;refine FD 1 1 fz aP ?_;refine LX 2 Y3 (.int .i64 (((i:Nat):Int))) ?_ (hc:=by exact bI _ rfl);refine PD 3 ?_;refine FD 4 1 fz aP ?_;refine LX 5 Y3 (.int .i64 (((i:Nat):Int))) ?_ (hc:=by exact bI _ rfl);refine PD 7 ?_;refine FD 8 11 ie DV ?_;refine AL 6 ?_;refine CR Me (CB c n i D M P hi hM pl hpl) (SM [1,2]) λvR HR hR=>?_
 obtain⟨_,huc,rfl,rfl⟩:=hR;revert vR;intro uc huc;refine EN (IY 9 (11+i) Jd w7 ?_);refine AL 10 ?_;refine bv (i:=0) (aa rfl) rfl rfl rfl rfl huc w7 rfl rfl (by rw[qU];omega) (Ex n D M P uc hi) rfl (EN (DN (ac J17 (ab λ_ J18=>D1 3 df ?_))));refine PD 0 ?_;refine FD 1 1 fz aP ?_;refine LX 2 Y3 (.int .i64 (((i:Nat):Int))) ?_ (hc:=by exact bI _ rfl);refine PD 3 ?_;refine FD 4 6 ie nE ?_;refine IY 5 (6+i) qa gV ?_;refine AL 6 ?_;refine bv (i:=0) (aa rfl) rfl rfl rfl rfl rfl gV rfl rfl (by rw[qU];omega) (uD n D M (kG P i uc) (.pointer none) hi) rfl (EN (DN (ac J18 (D2 3 0 df ?_))));refine PD 0 ?_;refine FD 1 1 fz aP ?_;refine LX 2 Y3 (.int .i64 (((i:Nat):Int))) ?_ (hc:=by exact bI _ rfl);refine PD 3 ?_;refine FD 4 1 ie rB ?_;refine IY 5 (1+i) zU oF ?_;refine LX 6 sx (.pointer (some ⟨d,0,none⟩)) ?_ (hc:=by exact(BI n D (kG M i (.pointer none)) (kG P i uc) hi).trans (congrArg some hD));refine FD 7 8 fz aP ?_;refine LX 8 Y3 (.int .i64 (o.mask)) ?_ (hc:=by exact OpT.at_mask _ rfl);refine FD 9 9 fz aP ?_;refine LX 10 Y3 (.int .i64 (o.torn)) ?_ (hc:=by exact OpT.at_torn _ rfl);refine FD 11 10 fz aP ?_;refine LX 12 Y3 (.int .i64 (o.cut)) ?_ (hc:=by exact OpT.at_cut _ rfl);refine AL 13 ?_;refine CR Lz (BB d e o.mask o.torn o.cut hok) (SM [4]) λvR HR hR=>?_
 obtain⟨_,rfl⟩:=hR;refine EN (DN (af (ac J4 (sr λ_ J19=>PS ?_))));exact nx J19 (ai (WK [1,0,1] (au rfl rfl ⟨uc,huc,rfl,rfl⟩)))
theorem Iv{s:MS LD}{lg d r:Nat}{e:LD}{i:Int}(f:Fresh i e s){H:List HP}{h:Hl}(q:bC (B8 lg r s::Eo lg d ((e.cnt:Nat):Int) e.used::H) h):bC (eP s d r::H) h:=by
 obtain⟨_,q⟩:=fk (p:=λ_:Unit=>[ag r (RepT.cells (s.rep ⟨lg, .pointer none, .slice none 0 0⟩)) 123]) q;refine bi (p:=Fa s d r) ⟨lg, .pointer none, .slice none 0 0⟩ ?_;have q2:=gy 37 3 q;have q3:bC (DO (.pointer none) (none:Option VoteT)::own (.slice none 0 0) 0 [] 37 3::ag r (RepT.cells (s.rep ⟨lg, .pointer none, .slice none 0 0⟩)) 123::Eo lg d ((e.cnt:Nat):Int) e.used::H) h:=⟨em,h,B3 h,(ql h).symm,rfl,q2⟩;have q4:=az [2,2,1,0] rfl q3;simp only[Fa,f.e,f.replies,f.vote];exact q4
theorem po(i d:Nat)(e:DS)(hok:DkOk e):DT 55 #[.int .i64 ((i:Nat):Int), .pointer (some ⟨d,0,none⟩)] T0 [dk d e] (c9 (λv H=>((cW i e).1=none∧(cW i e).2≠0∧v= .tuple #[.pointer none, .int .i64 (cW i e).2]∧H=[dk d (bJ e).D])∨∃s r,(cW i e).1=some s∧v= .tuple #[.pointer (some ⟨r,0,none⟩), .int .i64 0]∧H=[eP s d r,dk d s.e.D])):=
 Leg.Does.fold (Az (⟨(bJ e).recs.length,(bJ e).used,(bJ e).D⟩:LD) ((i:Nat):Int) d e hok.ok hok.inn (by have:=hok.ws;omega)) λx H hp=>by
  cases x with
  |returned v=>
   unfold cW;rcases hp with⟨he,rfl,rfl⟩| ⟨he,⟨hn,rfl,rfl⟩| ⟨s,r,lg,hn,rfl,rfl⟩⟩
   · rw[if_pos he];exact⟨_,λ_ q=>q, .inl ⟨rfl,he,rfl,rfl⟩⟩
   · rw[if_neg (by rw[he];decide),hn];exact⟨_,λ_ q=>q, .inl ⟨rfl,(by decide),rfl,rfl⟩⟩
   · rw[if_neg (by rw[he];decide),hn]
     have f:=Fresh.read _ (Fresh.new _ _) hn;refine⟨[eP s d r,dk d s.e.D],λ_ q=>Iv (lg:=lg) f ?_, .inr ⟨s,r,rfl,rfl,rfl⟩⟩;rw[f.e];exact q
  |panicked c=>exact hp.elim
  |outgrown=>exact hp.elim
theorem Ay(c n i:Nat)(D M P:Nat→Value)(hi:i<5)(d:Nat)(hD:D i= .pointer (some ⟨d,0,none⟩))(hM:M i= .pointer none)(e:DS)(hok:DkOk e):
 DT 63 #[(.pointer (some ⟨c,0,none⟩)),(.int .i64 (((i:Nat):Int)))] T0 [ag c (ey n D M P) 104,dk d e] (c9 (λv H=>((cW i e).1=none∧v= .int .i64 (cW i e).2∧H=[ag c (ey n D M P) 104,dk d (bJ e).D])∨∃s r,(cW i e).1=some s∧v= .int .i64 0∧H=[ag c (ey n D (kG M i (.pointer (some ⟨r,0,none⟩))) P) 104,eP s d r,dk d s.e.D])):=by
 refine BD 34 Tryz.func63 rfl rfl rfl λw0 F hF=>sr λ_ J1=>PS ?_
 refine nx J1 (ab λ_ J2=>sr λ_ J3=>P3 ?_);refine FA 6 ie nE ?_;refine IX (6+i) qa gV ?_;refine LT 0 oQ (.pointer none) ?_ (hc:=by exact(wB n D M P hi).trans (congrArg some hM));refine tp (gF rfl oQ rfl rfl) ?_;refine nx J3 (CN (qx J2 (sr λ_ J4=>P4 ?_)));refine FA 1 ie rB ?_;refine IX (1+i) zU oF ?_;refine LT 0 sx (.pointer (some ⟨d,0,none⟩)) ?_ (hc:=by exact(BI n D M P hi).trans (congrArg some hD));refine CR Ks (po i d e hok) (SM [1]) λvR HR hR=>?_
 rcases hR with⟨hn,h0,rfl,rfl⟩| ⟨s,r,hn,rfl,rfl⟩
 refine P4 ?_;refine PS ?_;refine nx J4 (ab λ_ J5=>sr λ_ J6=>P2 ?_);refine an ?_ ?_<;>intro h26
 · exact absurd h26 h0
 refine nx J6 (CN (qx J5 (sr λ_ J7=>P2 ?_)));exact nx J7 (ai (WK [1,0] (au rfl rfl (.inl ⟨hn,rfl,rfl⟩))));refine P4 ?_;refine PS ?_;refine nx J4 (ab λ_ J8=>sr λ_ J9=>P2 ?_);refine nx J9 (CY (ad (P4 ?_)));refine FA 6 ie nE ?_;refine IX (6+i) qa gV ?_;refine bv (i:=2) (aa rfl) rfl rfl rfl rfl rfl gV rfl rfl (by rw[qU];omega) (uD n D M P (.pointer (some ⟨r,0,none⟩)) hi) rfl (nx J8 (sr λ_ J10=>P2 ?_));exact nx J10 (ai (WK [2,0,0] (au rfl rfl (.inr ⟨s,r,hn,rfl,rfl⟩))))
theorem Ax(c n i:Nat)(D M P:Nat→Value)(hi:i<5)(r:Nat)(hM:M i= .pointer (some ⟨r,0,none⟩)):
 DT 63 #[(.pointer (some ⟨c,0,none⟩)),(.int .i64 (((i:Nat):Int)))] T0 [ag c (ey n D M P) 104] (RI (.int .i64 5) [ag c (ey n D M P) 104]):=by
 refine BD 34 Tryz.func63 rfl rfl rfl λw0 F hF=>sr λ_ J1=>PS ?_
 refine nx J1 (ab λ_ J2=>sr λ_ J3=>P3 ?_);refine FA 6 ie nE ?_;refine IX (6+i) qa gV ?_;refine LT 0 oQ (.pointer (some ⟨r,0,none⟩)) ?_ (hc:=by exact(wB n D M P hi).trans (congrArg some hM));refine tp (fP rfl oQ rfl rfl) ?_;refine nx J3 (CY (sr λ_ J4=>PS ?_));exact nx J4 (ai (ae (WK [0] (au rfl rfl ⟨rfl,rfl⟩))))
theorem Dm(c n i:Nat)(D M P:Nat→Value)(hi:i<5)(d:Nat)(hD:D i= .pointer (some ⟨d,0,none⟩))(hM:M i= .pointer none)(e:DS)(hok:DkOk e)(o:OpT):
 DT 17 #[(.pointer (some ⟨c,0,none⟩)),(.agg (ints (OpT.mk 11 ((i:Nat):Int) o.to' o.key o.n o.change o.mask o.torn o.cut).flat).toArray)] T0 [ag c (ey n D M P) 104,dk d e] (c9 (λv H=>((cW i e).1=none∧v= .int .i64 (cW i e).2∧H=[ag c (ey n D M P) 104,dk d (bJ e).D])∨∃s r,(cW i e).1=some s∧v= .int .i64 0∧H=[ag c (ey n D (kG M i (.pointer (some ⟨r,0,none⟩))) P) 104,eP s d r,dk d s.e.D])):=by
 refine BD 114 Tryz.func17 rfl rfl rfl λw0 F hF=>sr λ_ J1=>XY (ints (OpT.mk 11 ((i:Nat):Int) o.to' o.key o.n o.change o.mask o.torn o.cut).flat) λb3=>?_
 refine PS ?_;refine nx J1 (ab λ_ J2=>sr λ_ J3=>PS ?_);refine FA 1 fz aP ?_;refine LT 0 Y3 (.int .i64 (((i:Nat):Int))) ?_ (hc:=by exact bI _ rfl);refine CE pC (dH c i hi) ID ?_;refine PS ?_;refine nx J3 (CN (qx J2 (ab λ_ J4=>sr λ_ J5=>FA 0 fz aP ?_)));refine LT 0 Y3 (.int .i64 11) ?_ (hc:=by exact cS _ rfl);refine nx J5 (aq (ab λ_ J6=>sr λ_ J7=>P2 ?_));refine nx J7 (CN (sr λ_ J8=>P2 ?_));refine nx J8 (CN (sr λ_ J9=>P2 ?_));refine nx J9 (CN (sr λ_ J10=>P2 ?_));refine nx J10 (CN (ad (P2 ?_)));refine nx J6 (CN (ab λ_ J11=>sr λ_ J12=>P2 ?_));refine nx J12 (CN (sr λ_ J13=>P2 ?_));refine nx J13 (CN (ad (P2 ?_)));refine nx J11 (CN (sr λ_ J14=>P2 ?_));refine nx J14 (CN (sr λ_ J15=>P2 ?_));refine nx J15 (CN (sr λ_ J16=>P2 ?_));refine nx J16 (CN (sr λ_ J17=>P2 ?_));refine nx J17 (CY (sr λ_ J18=>PS ?_));refine FA 1 fz aP ?_;refine LT 0 Y3 (.int .i64 (((i:Nat):Int))) ?_ (hc:=by exact bI _ rfl);refine CR Ly (Ay c n i D M P hi d hD hM e hok) (SM [1,1]) λvR HR hR=>?_
 rcases hR with⟨hn,rfl,rfl⟩| ⟨s,r,hn,rfl,rfl⟩
 refine PS ?_;exact nx J18 (ai (aH (ae (WK [0,0] (au rfl rfl (.inl ⟨hn,rfl,rfl⟩))))));refine PS ?_;exact nx J18 (ai (aH (ae (WK [0,0,0] (au rfl rfl (.inr ⟨s,r,hn,rfl,rfl⟩))))))
theorem Dl(c n i:Nat)(D M P:Nat→Value)(hi:i<5)(r:Nat)(hM:M i= .pointer (some ⟨r,0,none⟩))(o:OpT):
 DT 17 #[(.pointer (some ⟨c,0,none⟩)),(.agg (ints (OpT.mk 11 ((i:Nat):Int) o.to' o.key o.n o.change o.mask o.torn o.cut).flat).toArray)] T0 [ag c (ey n D M P) 104] (RI (.int .i64 5) [ag c (ey n D M P) 104]):=by
 refine BD 114 Tryz.func17 rfl rfl rfl λw0 F hF=>sr λ_ J1=>XY (ints (OpT.mk 11 ((i:Nat):Int) o.to' o.key o.n o.change o.mask o.torn o.cut).flat) λb3=>?_
 refine PS ?_;refine nx J1 (ab λ_ J2=>sr λ_ J3=>PS ?_);refine FA 1 fz aP ?_;refine LT 0 Y3 (.int .i64 (((i:Nat):Int))) ?_ (hc:=by exact bI _ rfl);refine CE pC (dH c i hi) ID ?_;refine PS ?_;refine nx J3 (CN (qx J2 (ab λ_ J4=>sr λ_ J5=>FA 0 fz aP ?_)));refine LT 0 Y3 (.int .i64 11) ?_ (hc:=by exact cS _ rfl);refine nx J5 (aq (ab λ_ J6=>sr λ_ J7=>P2 ?_));refine nx J7 (CN (sr λ_ J8=>P2 ?_));refine nx J8 (CN (sr λ_ J9=>P2 ?_));refine nx J9 (CN (sr λ_ J10=>P2 ?_));refine nx J10 (CN (ad (P2 ?_)));refine nx J6 (CN (ab λ_ J11=>sr λ_ J12=>P2 ?_));refine nx J12 (CN (sr λ_ J13=>P2 ?_));refine nx J13 (CN (ad (P2 ?_)));refine nx J11 (CN (sr λ_ J14=>P2 ?_));refine nx J14 (CN (sr λ_ J15=>P2 ?_));refine nx J15 (CN (sr λ_ J16=>P2 ?_));refine nx J16 (CN (sr λ_ J17=>P2 ?_));refine nx J17 (CY (sr λ_ J18=>PS ?_));refine FA 1 fz aP ?_;refine LT 0 Y3 (.int .i64 (((i:Nat):Int))) ?_ (hc:=by exact bI _ rfl);refine CE Ly (Ax c n i D M P hi r hM) (SM [1]) ?_;refine PS ?_;exact nx J18 (ai (aH (ae (WK [0] (au rfl rfl ⟨rfl,rfl⟩)))))
theorem Ah(c n i:Nat)(D M P:Nat→Value)(hi:i<5)(to' k:Int)(o:OpT)(hv:dA ((i:Nat):Int) to'=false)(bs:List Nat):
 DT 59 #[(.pointer (some ⟨c,0,none⟩)),(.agg (ints (OpT.mk k ((i:Nat):Int) to' o.key o.n o.change o.mask o.torn o.cut).flat).toArray)] T0 [ag c (ey n D M P) 104,ag n (dr bs) 156] (RI (.int .i64 5) [ag c (ey n D M P) 104,ag n (dr bs) 156]):=by
 refine BD 91 Tryz.func59 rfl rfl rfl λw0 F hF=>sr λ_ J1=>XY (ints (OpT.mk k ((i:Nat):Int) to' o.key o.n o.change o.mask o.torn o.cut).flat) λb3=>?_
 refine PS ?_;refine nx J1 (ab λ_ J2=>D2 0 1 df ?_);refine PD 0 ?_;refine PD 1 ?_;refine FD 2 0 ie w6 ?_;refine LX 3 Gn (.pointer (some ⟨n,0,none⟩)) ?_ (hc:=by exact xo n D M P);refine FD 4 1 fz aP ?_;refine LX 5 Y3 (.int .i64 (((i:Nat):Int))) ?_ (hc:=by exact bI _ rfl);refine FD 6 2 fz aP ?_;refine LX 7 Y3 (.int .i64 (to')) ?_ (hc:=by exact ig _ rfl);refine AL 8 ?_;refine CR CO (mq n bs ((i:Nat):Int) to') (SM [2]) λvR HR hR=>?_
 obtain⟨hw,rfl⟩:=hR;obtain⟨_,rfl⟩:dA ((i:Nat):Int) to'=false∧vR= .pointer none:=hw.resolve_left (λq=>by rw[hv]at q;cases q.1);refine EN (PD 9 ?_);refine DN (ac J2 (ab λ_ J3=>sr λ_ J4=>PS ?_));refine tp (H5 rfl wO rfl rfl) ?_;refine nx J4 (CY (sr λ_ J5=>PS ?_));exact nx J5 (ai (ae (WK [2,0] (au rfl rfl ⟨rfl,rfl⟩))))
theorem o8{n i j:Nat}{bs:List Nat}{W:List (List MsgT)}{l:List MsgT}{H:List HP}{h:Hl}(hv:dA ((i:Nat):Int) ((j:Nat):Int)=true)(hW:W.length=25)(q:bC (gB 208 5 (bs.getD (bA ((i:Nat):Int) ((j:Nat):Int)) 0) (List.map (kf (bA ((i:Nat):Int) ((j:Nat):Int))) l)::fl 208 5 bs (cv W) (bA ((i:Nat):Int) ((j:Nat):Int))::ag n (dr bs) 156::H) h):bC (dL 156 208 5 n (cv (W.set (bA ((i:Nat):Int) ((j:Nat):Int)) l))::H) h:=by
 have q2:=sG hv (pa W) q;rw[uP W (hY hv).1 hW]at q2;exact bi (p:=λbs:List Nat=>[ag n (dr bs) 156,eB 208 5 bs (cv (W.set (bA ((i:Nat):Int) ((j:Nat):Int)) l))]) bs (ee (List.Perm.swap _ _ _) q2)
theorem yH(c n i:Nat)(D M P:Nat→Value)(hi:i<5)(j:Nat)(hj:j<5)(hv:dA ((i:Nat):Int) ((j:Nat):Int)=true)(W:List (List MsgT))(hW:W.length=25)(l:List MsgT)(hl:W.getD (bA ((i:Nat):Int) ((j:Nat):Int)) []=l)(h8:l.length≤8)(hlen: ∀m∈l,0< (dU m).length)(o:OpT)(k:Int)(hn:l=[])(bs:List Nat):
 DT 59 #[(.pointer (some ⟨c,0,none⟩)),(.agg (ints (OpT.mk k ((i:Nat):Int) ((j:Nat):Int) o.key o.n o.change o.mask o.torn o.cut).flat).toArray)] T0 [ag n (dr bs) 156,eB 208 5 bs (cv W),ag c (ey n D M P) 104] (RI (.int .i64 10) [ag c (ey n D M P) 104,dL 156 208 5 n (cv (W.set (bA ((i:Nat):Int) ((j:Nat):Int)) l))]):=by
 refine BD 91 Tryz.func59 rfl rfl rfl λw0 F hF=>sr λ_ J1=>XY (ints (OpT.mk k ((i:Nat):Int) ((j:Nat):Int) o.key o.n o.change o.mask o.torn o.cut).flat) λb3=>?_
 refine PS ?_;refine nx J1 (ab λ_ J2=>D2 0 3 df ?_);refine PD 0 ?_;refine PD 1 ?_;refine FD 2 0 ie w6 ?_;refine LX 3 Gn (.pointer (some ⟨n,0,none⟩)) ?_ (hc:=by exact xo n D M P);refine FD 4 1 fz aP ?_;refine LX 5 Y3 (.int .i64 (((i:Nat):Int))) ?_ (hc:=by exact bI _ rfl);refine FD 6 2 fz aP ?_;refine LX 7 Y3 (.int .i64 (((j:Nat):Int))) ?_ (hc:=by exact ig _ rfl);refine AL 8 ?_;refine CR CO (mq n bs ((i:Nat):Int) ((j:Nat):Int)) (SM [1]) λvR HR hR=>?_
 obtain⟨hw,rfl⟩:=hR;obtain⟨_,rfl⟩:dA ((i:Nat):Int) ((j:Nat):Int)=true∧vR= .pointer (some ⟨(bs.getD (bA ((i:Nat):Int) ((j:Nat):Int)) 0),0,none⟩):=hw.resolve_right (λq=>by rw[hv]at q;cases q.1);refine EN (PD 9 ?_);refine DN (ac J2 (ab λ_ J3=>sr λ_ J4=>PS ?_));refine tp (hJ rfl wO rfl rfl) ?_;refine nx J4 (CN (qx J3 (ab λ_ J5=>sr λ_ J6=>cq (H':=[gB 208 5 (bs.getD (bA ((i:Nat):Int) ((j:Nat):Int)) 0) (List.map (kf (bA ((i:Nat):Int) ((j:Nat):Int))) l),fl 208 5 bs (cv W) (bA ((i:Nat):Int) ((j:Nat):Int)),ag n (dr bs) 156,ag b3 (ints (OpT.mk k ((i:Nat):Int) ((j:Nat):Int) o.key o.n o.change o.mask o.torn o.cut).flat) 30,ag c (ey n D M P) 104]) (λ_ q=>hl▸mZ W (hY hv).1▸nz hv (az [2] rfl q)) (PS ?_))));refine CE tG (ja (bs.getD (bA ((i:Nat):Int) ((j:Nat):Int)) 0) (List.map (kf (bA ((i:Nat):Int) ((j:Nat):Int))) l)) ID ?_;rw[bU];refine PS ?_;refine an ?_ ?_<;>intro h23;refine nx J6 (CY (sr λ_ J7=>PS ?_));exact nx J7 (ai (ae (aF (H':=[ag c (ey n D M P) 104,dL 156 208 5 n (cv (W.set (bA ((i:Nat):Int) ((j:Nat):Int)) l))]) (dh _) (λ_ q=>ee (List.Perm.swap _ _ _) (o8 (bs:=bs) hv hW (ak [0,0,0,1] rfl q))) (au rfl rfl ⟨rfl,rfl⟩))))
 · exact absurd (by rw[hn];rfl) h23
theorem wZ(c n i:Nat)(D M P:Nat→Value)(hi:i<5)(j:Nat)(hj:j<5)(hv:dA ((i:Nat):Int) ((j:Nat):Int)=true)(W:List (List MsgT))(hW:W.length=25)(l:List MsgT)(hl:W.getD (bA ((i:Nat):Int) ((j:Nat):Int)) []=l)(h8:l.length≤8)(hlen: ∀m∈l,0< (dU m).length)(o:OpT)(hn:l≠[])(bs:List Nat):
    DT 59 #[(.pointer (some ⟨c,0,none⟩)),(.agg (ints (OpT.mk 7 ((i:Nat):Int) ((j:Nat):Int) o.key o.n o.change o.mask o.torn o.cut).flat).toArray)] T0 [ag n (dr bs) 156,eB 208 5 bs (cv W),ag c (ey n D M P) 104] (RI (.int .i64 (if Gy l then 0 else 3)) [ag c (ey n D M P) 104,dL 156 208 5 n (cv (W.set (bA ((i:Nat):Int) ((j:Nat):Int)) (Cg l)))]):=by
 refine BD 91 Tryz.func59 rfl rfl rfl λw0 F hF=>sr λ_ J1=>XY (ints (OpT.mk 7 ((i:Nat):Int) ((j:Nat):Int) o.key o.n o.change o.mask o.torn o.cut).flat) λb3=>?_
 refine PS ?_;refine nx J1 (ab λ_ J2=>D2 0 3 df ?_);refine PD 0 ?_;refine PD 1 ?_;refine FD 2 0 ie w6 ?_;refine LX 3 Gn (.pointer (some ⟨n,0,none⟩)) ?_ (hc:=by exact xo n D M P);refine FD 4 1 fz aP ?_;refine LX 5 Y3 (.int .i64 (((i:Nat):Int))) ?_ (hc:=by exact bI _ rfl);refine FD 6 2 fz aP ?_;refine LX 7 Y3 (.int .i64 (((j:Nat):Int))) ?_ (hc:=by exact ig _ rfl);refine AL 8 ?_;refine CR CO (mq n bs ((i:Nat):Int) ((j:Nat):Int)) (SM [1]) λvR HR hR=>?_
 obtain⟨hw,rfl⟩:=hR;obtain⟨_,rfl⟩:dA ((i:Nat):Int) ((j:Nat):Int)=true∧vR= .pointer (some ⟨(bs.getD (bA ((i:Nat):Int) ((j:Nat):Int)) 0),0,none⟩):=hw.resolve_right (λq=>by rw[hv]at q;cases q.1);refine EN (PD 9 ?_);refine DN (ac J2 (ab λ_ J3=>sr λ_ J4=>PS ?_));refine tp (hJ rfl wO rfl rfl) ?_;refine nx J4 (CN (qx J3 (ab λ_ J5=>sr λ_ J6=>cq (H':=[gB 208 5 (bs.getD (bA ((i:Nat):Int) ((j:Nat):Int)) 0) (List.map (kf (bA ((i:Nat):Int) ((j:Nat):Int))) l),fl 208 5 bs (cv W) (bA ((i:Nat):Int) ((j:Nat):Int)),ag n (dr bs) 156,ag b3 (ints (OpT.mk 7 ((i:Nat):Int) ((j:Nat):Int) o.key o.n o.change o.mask o.torn o.cut).flat) 30,ag c (ey n D M P) 104]) (λ_ q=>hl▸mZ W (hY hv).1▸nz hv (az [2] rfl q)) (PS ?_))));refine CE tG (ja (bs.getD (bA ((i:Nat):Int) ((j:Nat):Int)) 0) (List.map (kf (bA ((i:Nat):Int) ((j:Nat):Int))) l)) ID ?_;rw[bU];refine PS ?_;refine an ?_ ?_<;>intro h23
 · exact absurd (List.eq_nil_of_length_eq_zero (by omega)) hn
 refine nx J6 (CN (qx J5 (ab λ_ J7=>sr λ_ J8=>FA 0 fz aP ?_)));refine LT 3 Y3 (.int .i64 7) ?_ (hc:=by exact cS _ rfl);refine PS ?_;refine nx J8 (CY (ab λ_ J9=>sr λ_ J10=>PS ?_))
 refine gP (aa rfl) rfl rfl rfl Mv rfl (xp (bs.getD (bA ((i:Nat):Int) ((j:Nat):Int)) 0) (List.map (kf (bA ((i:Nat):Int) ((j:Nat):Int))) l) (by rw[bU];exact h8) (λx hx=>by
        obtain⟨m,_,rfl⟩:=eX.1 hx
        exact uN _ m)) (λ_ s=>s) (λ_ _ _=>trivial) (λvR HR hR=>?_)
 obtain⟨rfl,rfl⟩:=hR;rw[Iq,Ip];refine aW ?_ ?_<;>intro h28;refine PS ?_;refine nx J10 (CN (qx J9 (sr λ_ J11=>PS ?_)));refine nx J11 (ai (ae (aF (H':=[ag c (ey n D M P) 104,dL 156 208 5 n (cv (W.set (bA ((i:Nat):Int) ((j:Nat):Int)) (Cg l)))]) (dh _) (λ_ q=>ee (List.Perm.swap _ _ _) (o8 (bs:=bs) hv hW (ak [0,0,0,1] rfl q))) (au rfl rfl ?_))));exact⟨by rw[h28];rfl,rfl⟩;refine PS ?_;refine nx J10 (CY (sr λ_ J12=>PS ?_));refine nx J12 (ai (ae (ae (aF (H':=[ag c (ey n D M P) 104,dL 156 208 5 n (cv (W.set (bA ((i:Nat):Int) ((j:Nat):Int)) (Cg l)))]) (dh _) (λ_ q=>ee (List.Perm.swap _ _ _) (o8 (bs:=bs) hv hW (ak [0,0,0,1] rfl q))) (au rfl rfl ?_)))));exact⟨by rw[h28];rfl,rfl⟩
theorem DQ{i j:Nat}{W:List (List MsgT)}{m:MsgT}{l2:List MsgT}(hv:dA ((i:Nat):Int) ((j:Nat):Int)=true)(hW:W.length=25):(cv (W.set (bA ((i:Nat):Int) ((j:Nat):Int)) (m::l2))).getD (bA ((i:Nat):Int) ((j:Nat):Int)) []=iY ((i:Nat):Int) ((j:Nat):Int) (dU m)::List.map (kf (bA ((i:Nat):Int) ((j:Nat):Int))) l2:=by
 rw[mZ _ (hY hv).1,List.getD_eq_getElem?_getD,List.getElem?_set_self (by rw[hW];exact(hY hv).1),←Ag (ru hv).1 (ru hv).2];rfl
theorem An{i j:Nat}{W:List (List MsgT)}{m:MsgT}{l2:List MsgT}(hv:dA ((i:Nat):Int) ((j:Nat):Int)=true)(hW:W.length=25):(cv (W.set (bA ((i:Nat):Int) ((j:Nat):Int)) (m::l2))).set (bA ((i:Nat):Int) ((j:Nat):Int)) (List.map (kf (bA ((i:Nat):Int) ((j:Nat):Int))) l2)=cv (W.set (bA ((i:Nat):Int) ((j:Nat):Int)) l2):=by
 rw[uP _ (hY hv).1 (by rw[ct];exact hW),gT]
theorem rj(c n i:Nat)(D M P:Nat→Value)(hi:i<5)(j:Nat)(hj:j<5)(hv:dA ((i:Nat):Int) ((j:Nat):Int)=true)(W:List (List MsgT))(hW:W.length=25)(l:List MsgT)(hl:W.getD (bA ((i:Nat):Int) ((j:Nat):Int)) []=l)(h8:l.length≤8)(hlen: ∀m∈l,0< (dU m).length)(o:OpT)(m:MsgT)(l2:List MsgT)(ht:kP (max o.n 0% ((l.length:Nat):Int)).toNat l=m::l2)(bs:List Nat)(q:Int)(hk5:q=5∨q=6)(hk:q=6∨M j= .pointer none):
    DT 59 #[(.pointer (some ⟨c,0,none⟩)),(.agg (ints (OpT.mk q ((i:Nat):Int) ((j:Nat):Int) o.key o.n o.change o.mask o.torn o.cut).flat).toArray)] T0 [ag n (dr bs) 156,eB 208 5 bs (cv W),ag c (ey n D M P) 104] (RI (.int .i64 0) [ag c (ey n D M P) 104,dL 156 208 5 n (cv (W.set (bA ((i:Nat):Int) ((j:Nat):Int)) l2))]):=by
 refine BD 91 Tryz.func59 rfl rfl rfl λw0 F hF=>?_
 have hln:0<l.length:=by
     have:=jU (max o.n 0% ((l.length:Nat):Int)).toNat l;rw[ht]at this;rw[←this];exact Nat.succ_pos _
 have hm0:0< (dU m).length:=hlen m ((n8 (max o.n 0% ((l.length:Nat):Int)).toNat l).1 (ht▸kd ..));have hrl:(max o.n 0% ((l.length:Nat):Int))< ((l.length:Nat):Int):=Gm _ (by omega);refine sr λ_ J1=>XY (ints (OpT.mk q ((i:Nat):Int) ((j:Nat):Int) o.key o.n o.change o.mask o.torn o.cut).flat) λb3=>?_
 refine PS ?_;refine nx J1 (ab λ_ J2=>D2 0 3 df ?_);refine PD 0 ?_;refine PD 1 ?_;refine FD 2 0 ie w6 ?_;refine LX 3 Gn (.pointer (some ⟨n,0,none⟩)) ?_ (hc:=by exact xo n D M P);refine FD 4 1 fz aP ?_;refine LX 5 Y3 (.int .i64 (((i:Nat):Int))) ?_ (hc:=by exact bI _ rfl);refine FD 6 2 fz aP ?_;refine LX 7 Y3 (.int .i64 (((j:Nat):Int))) ?_ (hc:=by exact ig _ rfl);refine AL 8 ?_;refine CR CO (mq n bs ((i:Nat):Int) ((j:Nat):Int)) (SM [1]) λvR HR hR=>?_
 obtain⟨hw,rfl⟩:=hR;obtain⟨_,rfl⟩:dA ((i:Nat):Int) ((j:Nat):Int)=true∧vR= .pointer (some ⟨(bs.getD (bA ((i:Nat):Int) ((j:Nat):Int)) 0),0,none⟩):=hw.resolve_right (λq=>by rw[hv]at q;cases q.1);refine EN (PD 9 ?_);refine DN (ac J2 (ab λ_ J3=>sr λ_ J4=>PS ?_));refine tp (hJ rfl wO rfl rfl) ?_;refine nx J4 (CN (qx J3 (ab λ_ J5=>sr λ_ J6=>cq (H':=[gB 208 5 (bs.getD (bA ((i:Nat):Int) ((j:Nat):Int)) 0) (List.map (kf (bA ((i:Nat):Int) ((j:Nat):Int))) l),fl 208 5 bs (cv W) (bA ((i:Nat):Int) ((j:Nat):Int)),ag n (dr bs) 156,ag b3 (ints (OpT.mk q ((i:Nat):Int) ((j:Nat):Int) o.key o.n o.change o.mask o.torn o.cut).flat) 30,ag c (ey n D M P) 104]) (λ_ q=>hl▸mZ W (hY hv).1▸nz hv (az [2] rfl q)) (PS ?_))));refine CE tG (ja (bs.getD (bA ((i:Nat):Int) ((j:Nat):Int)) 0) (List.map (kf (bA ((i:Nat):Int) ((j:Nat):Int))) l)) ID ?_;rw[bU];refine PS ?_;refine an ?_ ?_<;>intro h23
 · exact absurd h23 (by omega)
 refine nx J6 (CN (qx J5 (ab λ_ J7=>sr λ_ J8=>FA 0 fz aP ?_)));refine LT 3 Y3 (.int .i64 (q)) ?_ (hc:=by exact cS _ rfl);refine PS ?_;refine an ?_ ?_<;>intro h26
 · exact absurd h26 (by omega)
 refine nx J8 (CN (qx J7 (ab λ_ J9=>ab λ_ J10=>D1 3 df ?_)));refine FD 0 4 fz aP ?_;refine LX 1 Y3 (.int .i64 (o.n)) ?_ (hc:=by exact wS _ rfl);refine ta 2 rfl (xD rfl rfl rfl) ?_;refine PD 3 ?_;refine PD 6 ?_;refine AL 4 ?_;refine CE tG (ja (bs.getD (bA ((i:Nat):Int) ((j:Nat):Int)) 0) (List.map (kf (bA ((i:Nat):Int) ((j:Nat):Int))) l)) ID ?_;rw[bU];refine EN (ta 5 rfl (PV.rem (r:=(max o.n 0% ((l.length:Nat):Int))) rfl rfl rfl (by omega) (sC (by omega))) ?_);refine DN (ac J10 (aq ?_))
 refine bn (α:=(Nat)) (λk=>((k:Nat):Int)≤(max o.n 0% ((l.length:Nat):Int))) (λk=>[(0,(.pointer (some ⟨c,0,none⟩))),(3,(.pointer (some ⟨b3,0,none⟩))),(4,(.int .i64 0)),(5,(.pointer (some ⟨(bs.getD (bA ((i:Nat):Int) ((j:Nat):Int)) 0),0,none⟩))),(35,(.int .i64 ((max o.n 0% ((l.length:Nat):Int))))),(36,(.int .i64 (((k:Nat):Int))))]) (λk=>[gB 208 5 (bs.getD (bA ((i:Nat):Int) ((j:Nat):Int)) 0) (List.map (kf (bA ((i:Nat):Int) ((j:Nat):Int))) (kP k l)),fl 208 5 bs (cv W) (bA ((i:Nat):Int) ((j:Nat):Int)),ag n (dr bs) 156,ag b3 (ints (OpT.mk q ((i:Nat):Int) ((j:Nat):Int) o.key o.n o.change o.mask o.torn o.cut).flat) 30,ag c (ey n D M P) 104]) (λk=>(max o.n 0% ((l.length:Nat):Int)).toNat-k) 0
     (yB _ (by omega)) SB
     (λ_ s=>az [0,0,0,0,0] rfl s) (λk hinv=>?_)
 obtain hk:=hinv;refine sr λ_ J11=>PS ?_
 refine an ?_ ?_<;>intro h37;refine nx J11 (ab λ_ J12=>CY (qx J12 (ab λ_ J13=>aq (ad (PS ?_)))))
 refine gP (aa rfl) rfl rfl rfl JM rfl (sq (bs.getD (bA ((i:Nat):Int) ((j:Nat):Int)) 0) (List.map (kf (bA ((i:Nat):Int) ((j:Nat):Int))) (kP k l)) (by rw[bU,jU];exact h8) (λx hx=>by
        obtain⟨m,_,rfl⟩:=eX.1 hx
        exact uN _ m)) (λ_ s=>s) (λ_ _ _=>trivial) (λvR HR hR=>?_)
 obtain rfl:=hR;rw[xP];refine ap (af (ac J13 (ad (AD ?_))));refine PS ?_;refine ap ?_
 exact aI ((k+1):(Nat)) (by omega) (by show(max o.n 0% ((l.length:Nat):Int)).toNat- (k+1)< (max o.n 0% ((l.length:Nat):Int)).toNat-k;omega)
   SB
   (λ_ s=>az [0,0,0,0,0] rfl s)
 have hkr:k=(max o.n 0% ((l.length:Nat):Int)).toNat:=by omega
 refine cq (H':=[gB 208 5 (bs.getD (bA ((i:Nat):Int) ((j:Nat):Int)) 0) (List.map (kf (bA ((i:Nat):Int) ((j:Nat):Int))) (m::l2)),fl 208 5 bs (cv W) (bA ((i:Nat):Int) ((j:Nat):Int)),ag n (dr bs) 156,ag b3 (ints (OpT.mk q ((i:Nat):Int) ((j:Nat):Int) o.key o.n o.change o.mask o.torn o.cut).flat) 30,ag c (ey n D M P) 104]) (λ_ q=>by rw[hkr,ht]at q;exact q) (nx J11 (ab λ_ J14=>CN (aS (ay (ay (bj (ac J9 (ab λ_ J15=>D2 3 4 df ?_))))))));refine PD 0 ?_;refine PD 1 ?_;refine FD 2 0 ie w6 ?_;refine LX 3 Gn (.pointer (some ⟨n,0,none⟩)) ?_ (hc:=by exact xo n D M P);refine FD 4 1 fz aP ?_;refine LX 5 Y3 (.int .i64 (((i:Nat):Int))) ?_ (hc:=by exact bI _ rfl);refine FD 6 2 fz aP ?_;refine LX 7 Y3 (.int .i64 (((j:Nat):Int))) ?_ (hc:=by exact ig _ rfl);refine AL 8 ?_;refine cq (H':=[dL 156 208 5 n (cv (W.set (bA ((i:Nat):Int) ((j:Nat):Int)) (m::l2))),ag b3 (ints (OpT.mk q ((i:Nat):Int) ((j:Nat):Int) o.key o.n o.change o.mask o.torn o.cut).flat) 30,ag c (ey n D M P) 104]) (λ_ q=>o8 (bs:=bs) hv hW (az [0,0,0] rfl q)) (CR JL (qi n (cv (W.set (bA ((i:Nat):Int) ((j:Nat):Int)) (m::l2))) ((i:Nat):Int) ((j:Nat):Int) (dU m) (List.map (kf (bA ((i:Nat):Int) ((j:Nat):Int))) l2) hv (pa _) (DQ hv hW) hm0 (by have:=sh m;omega)) ID λvR HR hR=>?_);obtain⟨uv,rfl,rfl⟩:=hR;rw[An hv hW];refine EN (PD 9 ?_);refine PD 10 ?_;refine PD 11 ?_;refine PD 12 ?_;refine PD 13 ?_
 refine DN (ac J15 (ab λ_ J16=>sr λ_ J17=>FA 0 fz aP ?_));refine LT 2 Y3 (.int .i64 (q)) ?_ (hc:=by exact cS _ rfl);refine PS ?_;refine an ?_ ?_<;>intro h55;refine PS ?_;refine UT ?_;refine UT ?_;refine P2 ?_
 iterate 5 refine UT ?_
 refine PS ?_;refine nx J17 (CY (sr λ_ J18=>PS ?_));exact nx J18 (ai (ae (WK [3,0] (au rfl rfl ⟨rfl,rfl⟩))));refine P2 ?_;refine PS ?_;refine P3 ?_;refine FA 2 fz aP ?_;refine LT 2 Y3 (.int .i64 (((j:Nat):Int))) ?_ (hc:=by exact ig _ rfl);refine CE xd (pg c n j D M P hj (hk.resolve_left h55)) (SM [3]) ?_;refine PS ?_;refine PS ?_;refine nx J17 (CY (sr λ_ J19=>PS ?_));exact nx J19 (ai (ae (WK [0,0] (au rfl rfl ⟨rfl,rfl⟩))))
theorem yI(c n i:Nat)(D M P:Nat→Value)(hi:i<5)(j:Nat)(hj:j<5)(hv:dA ((i:Nat):Int) ((j:Nat):Int)=true)(W:List (List MsgT))(hW:W.length=25)(l:List MsgT)(hl:W.getD (bA ((i:Nat):Int) ((j:Nat):Int)) []=l)(h8:l.length≤8)(hlen: ∀m∈l,0< (dU m).length)(o:OpT)(m:MsgT)(l2:List MsgT)(ht:kP (max o.n 0% ((l.length:Nat):Int)).toNat l=m::l2)(bs:List Nat)(d r:Nat)(s:MS LD)(hD:D j= .pointer (some ⟨d,0,none⟩))(hM:M j= .pointer (some ⟨r,0,none⟩))(ho:s.o=[])(hs:OkR KD s)(hto:((i:Nat):Int)≠s.id)(hrs:s.replies.length≤1000000):
    DT 59 #[(.pointer (some ⟨c,0,none⟩)),(.agg (ints (OpT.mk 5 ((i:Nat):Int) ((j:Nat):Int) o.key o.n o.change o.mask o.torn o.cut).flat).toArray)] T0 [ag n (dr bs) 156,eB 208 5 bs (cv W),ag c (ey n D M P) 104,dk d s.e.D,eP s d r] (c9 (λv H=>(s.e.D.dn=true∧v= .int .i64 0∧H=[ag c (ey n D M P) 104,dk d s.e.D,dL 156 208 5 n (cv ((W.set (bA ((i:Nat):Int) ((j:Nat):Int)) l2))),eP s d r])∨(s.e.D.dn=false∧(jy (dU m)).2≠0∧v= .int .i64 (jy (dU m)).2∧H=[ag c (ey n D M P) 104,dk d s.e.D,dL 156 208 5 n (cv ((W.set (bA ((i:Nat):Int) ((j:Nat):Int)) l2))),eP s d r])∨(s.e.D.dn=false∧(jy (dU m)).2=0∧v= .int .i64 0∧H=[ag c (ey n D M P) 104,dk d (gf KD s ((i:Nat):Int) (jy (dU m)).1).hush.e.D,dL 156 208 5 n (cv (gK (W.set (bA ((i:Nat):Int) ((j:Nat):Int)) l2) j (gf KD s ((i:Nat):Int) (jy (dU m)).1).o)),eP (gf KD s ((i:Nat):Int) (jy (dU m)).1).hush d r]))):=by
 refine BD 91 Tryz.func59 rfl rfl rfl λw0 F hF=>?_
 have hln:0<l.length:=by
     have:=jU (max o.n 0% ((l.length:Nat):Int)).toNat l;rw[ht]at this;rw[←this];exact Nat.succ_pos _
 have hm0:0< (dU m).length:=hlen m ((n8 (max o.n 0% ((l.length:Nat):Int)).toNat l).1 (ht▸kd ..));have hrl:(max o.n 0% ((l.length:Nat):Int))< ((l.length:Nat):Int):=Gm _ (by omega);refine sr λ_ J1=>XY (ints (OpT.mk 5 ((i:Nat):Int) ((j:Nat):Int) o.key o.n o.change o.mask o.torn o.cut).flat) λb3=>?_
 refine PS ?_;refine nx J1 (ab λ_ J2=>D2 0 3 df ?_);refine PD 0 ?_;refine PD 1 ?_;refine FD 2 0 ie w6 ?_;refine LX 3 Gn (.pointer (some ⟨n,0,none⟩)) ?_ (hc:=by exact xo n D M P);refine FD 4 1 fz aP ?_;refine LX 5 Y3 (.int .i64 (((i:Nat):Int))) ?_ (hc:=by exact bI _ rfl);refine FD 6 2 fz aP ?_;refine LX 7 Y3 (.int .i64 (((j:Nat):Int))) ?_ (hc:=by exact ig _ rfl);refine AL 8 ?_;refine CR CO (mq n bs ((i:Nat):Int) ((j:Nat):Int)) (SM [1]) λvR HR hR=>?_
 obtain⟨hw,rfl⟩:=hR;obtain⟨_,rfl⟩:dA ((i:Nat):Int) ((j:Nat):Int)=true∧vR= .pointer (some ⟨(bs.getD (bA ((i:Nat):Int) ((j:Nat):Int)) 0),0,none⟩):=hw.resolve_right (λq=>by rw[hv]at q;cases q.1);refine EN (PD 9 ?_);refine DN (ac J2 (ab λ_ J3=>sr λ_ J4=>PS ?_));refine tp (hJ rfl wO rfl rfl) ?_;refine nx J4 (CN (qx J3 (ab λ_ J5=>sr λ_ J6=>cq (H':=[gB 208 5 (bs.getD (bA ((i:Nat):Int) ((j:Nat):Int)) 0) (List.map (kf (bA ((i:Nat):Int) ((j:Nat):Int))) l),fl 208 5 bs (cv W) (bA ((i:Nat):Int) ((j:Nat):Int)),ag n (dr bs) 156,ag b3 (ints (OpT.mk 5 ((i:Nat):Int) ((j:Nat):Int) o.key o.n o.change o.mask o.torn o.cut).flat) 30,ag c (ey n D M P) 104,dk d s.e.D,eP s d r]) (λ_ q=>hl▸mZ W (hY hv).1▸nz hv (az [2] rfl q)) (PS ?_))));refine CE tG (ja (bs.getD (bA ((i:Nat):Int) ((j:Nat):Int)) 0) (List.map (kf (bA ((i:Nat):Int) ((j:Nat):Int))) l)) ID ?_;rw[bU];refine PS ?_;refine an ?_ ?_<;>intro h23
 · exact absurd h23 (by omega)
 refine nx J6 (CN (qx J5 (ab λ_ J7=>sr λ_ J8=>FA 0 fz aP ?_)));refine LT 3 Y3 (.int .i64 5) ?_ (hc:=by exact cS _ rfl);refine PS ?_;refine nx J8 (CN (qx J7 (ab λ_ J9=>ab λ_ J10=>D1 3 df ?_)));refine FD 0 4 fz aP ?_;refine LX 1 Y3 (.int .i64 (o.n)) ?_ (hc:=by exact wS _ rfl);refine ta 2 rfl (xD rfl rfl rfl) ?_;refine PD 3 ?_;refine PD 6 ?_;refine AL 4 ?_;refine CE tG (ja (bs.getD (bA ((i:Nat):Int) ((j:Nat):Int)) 0) (List.map (kf (bA ((i:Nat):Int) ((j:Nat):Int))) l)) ID ?_;rw[bU];refine EN (ta 5 rfl (PV.rem (r:=(max o.n 0% ((l.length:Nat):Int))) rfl rfl rfl (by omega) (sC (by omega))) ?_);refine DN (ac J10 (aq ?_))
 refine bn (α:=(Nat)) (λk=>((k:Nat):Int)≤(max o.n 0% ((l.length:Nat):Int))) (λk=>[(0,(.pointer (some ⟨c,0,none⟩))),(3,(.pointer (some ⟨b3,0,none⟩))),(4,(.int .i64 0)),(5,(.pointer (some ⟨(bs.getD (bA ((i:Nat):Int) ((j:Nat):Int)) 0),0,none⟩))),(35,(.int .i64 ((max o.n 0% ((l.length:Nat):Int))))),(36,(.int .i64 (((k:Nat):Int))))]) (λk=>[gB 208 5 (bs.getD (bA ((i:Nat):Int) ((j:Nat):Int)) 0) (List.map (kf (bA ((i:Nat):Int) ((j:Nat):Int))) (kP k l)),fl 208 5 bs (cv W) (bA ((i:Nat):Int) ((j:Nat):Int)),ag n (dr bs) 156,ag b3 (ints (OpT.mk 5 ((i:Nat):Int) ((j:Nat):Int) o.key o.n o.change o.mask o.torn o.cut).flat) 30,ag c (ey n D M P) 104,dk d s.e.D,eP s d r]) (λk=>(max o.n 0% ((l.length:Nat):Int)).toNat-k) 0
     (yB _ (by omega)) SB
     (λ_ s=>az [0,0,0,0,0,0,0] rfl s) (λk hinv=>?_)
 obtain hk:=hinv;refine sr λ_ J11=>PS ?_
 refine an ?_ ?_<;>intro h37;refine nx J11 (ab λ_ J12=>CY (qx J12 (ab λ_ J13=>aq (ad (PS ?_)))))
 refine gP (aa rfl) rfl rfl rfl JM rfl (sq (bs.getD (bA ((i:Nat):Int) ((j:Nat):Int)) 0) (List.map (kf (bA ((i:Nat):Int) ((j:Nat):Int))) (kP k l)) (by rw[bU,jU];exact h8) (λx hx=>by
        obtain⟨m,_,rfl⟩:=eX.1 hx
        exact uN _ m)) (λ_ s=>s) (λ_ _ _=>trivial) (λvR HR hR=>?_)
 obtain rfl:=hR;rw[xP];refine ap (af (ac J13 (ad (AD ?_))));refine PS ?_;refine ap ?_
 exact aI ((k+1):(Nat)) (by omega) (by show(max o.n 0% ((l.length:Nat):Int)).toNat- (k+1)< (max o.n 0% ((l.length:Nat):Int)).toNat-k;omega)
   SB
   (λ_ s=>az [0,0,0,0,0,0,0] rfl s)
 have hkr:k=(max o.n 0% ((l.length:Nat):Int)).toNat:=by omega
 refine cq (H':=[gB 208 5 (bs.getD (bA ((i:Nat):Int) ((j:Nat):Int)) 0) (List.map (kf (bA ((i:Nat):Int) ((j:Nat):Int))) (m::l2)),fl 208 5 bs (cv W) (bA ((i:Nat):Int) ((j:Nat):Int)),ag n (dr bs) 156,ag b3 (ints (OpT.mk 5 ((i:Nat):Int) ((j:Nat):Int) o.key o.n o.change o.mask o.torn o.cut).flat) 30,ag c (ey n D M P) 104,dk d s.e.D,eP s d r]) (λ_ q=>by rw[hkr,ht]at q;exact q) (nx J11 (ab λ_ J14=>CN (aS (ay (ay (bj (ac J9 (ab λ_ J15=>D2 3 4 df ?_))))))));refine PD 0 ?_;refine PD 1 ?_;refine FD 2 0 ie w6 ?_;refine LX 3 Gn (.pointer (some ⟨n,0,none⟩)) ?_ (hc:=by exact xo n D M P);refine FD 4 1 fz aP ?_;refine LX 5 Y3 (.int .i64 (((i:Nat):Int))) ?_ (hc:=by exact bI _ rfl);refine FD 6 2 fz aP ?_;refine LX 7 Y3 (.int .i64 (((j:Nat):Int))) ?_ (hc:=by exact ig _ rfl);refine AL 8 ?_;refine cq (H':=[dL 156 208 5 n (cv (W.set (bA ((i:Nat):Int) ((j:Nat):Int)) (m::l2))),ag b3 (ints (OpT.mk 5 ((i:Nat):Int) ((j:Nat):Int) o.key o.n o.change o.mask o.torn o.cut).flat) 30,ag c (ey n D M P) 104,dk d s.e.D,eP s d r]) (λ_ q=>o8 (bs:=bs) hv hW (az [0,0,0] rfl q)) (CR JL (qi n (cv (W.set (bA ((i:Nat):Int) ((j:Nat):Int)) (m::l2))) ((i:Nat):Int) ((j:Nat):Int) (dU m) (List.map (kf (bA ((i:Nat):Int) ((j:Nat):Int))) l2) hv (pa _) (DQ hv hW) hm0 (by have:=sh m;omega)) ID λvR HR hR=>?_);obtain⟨uv,rfl,rfl⟩:=hR;rw[An hv hW];refine EN (PD 9 ?_);refine PD 10 ?_
 refine PD 11 ?_;refine PD 12 ?_;refine PD 13 ?_;refine DN (ac J15 (ab λ_ J16=>sr λ_ J17=>FA 0 fz aP ?_));refine LT 2 Y3 (.int .i64 5) ?_ (hc:=by exact cS _ rfl);refine P3 ?_;refine PS ?_;refine P3 ?_;refine FA 2 fz aP ?_;refine LT 2 Y3 (.int .i64 (((j:Nat):Int))) ?_ (hc:=by exact ig _ rfl);refine CE xd (pe c n j D M P hj d r s.e.D hD hM) (SM [3,3]) ?_;refine aW ?_ ?_<;>intro h64;refine PS ?_;refine PS ?_;refine nx J17 (CN (qx J16 (sr λ_ J18=>PS ?_)));refine CF Mu (BC uv (dU m)) ID (zv 3 rfl rfl) ?_;refine P3 ?_;refine XZ l4 (ints MsgT.zero.flat) λb8=>?_
 refine SW 0 bW aG ?_;refine PS ?_;refine nx J18 (ab λ_ J19=>sr λ_ J20=>P2 ?_);refine an ?_ ?_<;>intro h73;refine nx J20 (CY (lR (λw=>Frm F w∧w.heap[b3]?=some (.cells (ints (OpT.mk 5 ((i:Nat):Int) ((j:Nat):Int) o.key o.n o.change o.mask o.torn o.cut).flat).toArray 30 (0,0))∧w.heap[c]?=some (.cells (ey n D M P).toArray 104 (0,0))∧w.heap[b8]?=some (.cells (ints ((jy (dU m)).1).flat).toArray 178 (0,0))∧True) df rfl (λ_ s=>⟨dT s,s.block 5 (lb rfl) rfl,s.block 1 (lb rfl) rfl,s.block 0 (lb rfl) rfl,trivial⟩) (PD 0 ?_)));refine FD 1 2 fz aP ?_;refine LX 2 Y3 (.int .i64 (((j:Nat):Int))) ?_ (hc:=by exact ig _ rfl);refine PD 3 ?_;refine FD 4 6 ie nE ?_;refine IY 5 (6+j) qa gV ?_;refine LX 6 oQ (.pointer (some ⟨r,0,none⟩)) ?_ (hc:=by exact(wB n D M P hj).trans (congrArg some hM));refine PD 7 ?_;refine FD 8 2 fz aP ?_;refine LX 9 Y3 (.int .i64 (((j:Nat):Int))) ?_ (hc:=by exact ig _ rfl);refine ta 10 rfl (jL (cells:=#[(.pointer (some ⟨c,0,none⟩)),(.int .i64 (((j:Nat):Int)))]) rfl rfl (by as_aux_lemma=>kernel_rfl)) ?_;refine ta 11 rfl (oS rfl DL rfl rfl) ?_;refine FD 12 1 fz aP ?_;refine LX 13 Y3 (.int .i64 (((i:Nat):Int))) ?_ (hc:=by exact bI _ rfl);refine LY 14 a9 bW aG ?_;refine AL 15 ?_
 refine cq (H':=[cC (wo c n d j D M P hj hD (W.set (bA ((i:Nat):Int) ((j:Nat):Int)) l2) (by rw[ct];exact hW)) r s,ag b8 (ints ((jy (dU m)).1).flat) 178,gm uv (dU m) 5,ag b3 (ints (OpT.mk 5 ((i:Nat):Int) ((j:Nat):Int) o.key o.n o.change o.mask o.torn o.cut).flat) 30]) (λ_ q=>CS ho (az [1,1,1,3] rfl q)) (CZ JK (@yS _ (wo c n d j D M P hj hD (W.set (bA ((i:Nat):Int) ((j:Nat):Int)) l2) (by rw[ct];exact hW)) r s ((i:Nat):Int) (jy (dU m)).1 hs (Eu _) hto hrs) ID λvR=>?_);change TL _ _ _ _ _ _ _ _ _ [cC (wo c n d j D M P hj hD (W.set (bA ((i:Nat):Int) ((j:Nat):Int)) l2) (by rw[ct];exact hW)) r (gf KD s ((i:Nat):Int) (jy (dU m)).1),ag b8 (ints ((jy (dU m)).1).flat) 178,gm uv (dU m) 5,ag b3 (ints (OpT.mk 5 ((i:Nat):Int) ((j:Nat):Int) o.key o.n o.change o.mask o.torn o.cut).flat) 30];refine cq (H':=[ag c (ey n D M P) 104,dk d ((gf KD s ((i:Nat):Int) (jy (dU m)).1).e.D),dL 156 208 5 n (cv (gK (W.set (bA ((i:Nat):Int) ((j:Nat):Int)) l2) j (gf KD s ((i:Nat):Int) (jy (dU m)).1).o)),eP ((gf KD s ((i:Nat):Int) (jy (dU m)).1).hush) d r,ag b8 (ints ((jy (dU m)).1).flat) 178,gm uv (dU m) 5,ag b3 (ints (OpT.mk 5 ((i:Nat):Int) ((j:Nat):Int) o.key o.n o.change o.mask o.torn o.cut).flat) 30]) (λ_ q=>zn (s:=(gf KD s ((i:Nat):Int) (jy (dU m)).1)) q) (EN (DN (ac J19 (sr λ_ J21=>P2 ?_))));refine nx J21 (ai (WK [0,0,0,0] (au rfl rfl ?_)))
 exact .inr (.inr ⟨(by simpa using h64),h73,(by rw[h73]),rfl⟩);refine nx J20 (CN (qx J19 (sr λ_ J22=>P2 ?_)));refine nx J22 (ai (WK [1,1,1,3] (au rfl rfl ?_)));exact .inr (.inl ⟨(by simpa using h64),h73,rfl,rfl⟩);refine PS ?_;refine PS ?_;refine nx J17 (CY (sr λ_ J23=>PS ?_));refine nx J23 (ai (ae (WK [0,0,0,2] (au rfl rfl ?_))));exact .inl ⟨(by simpa using h64),rfl,rfl⟩
end Go.Proofs.YtjblgopghhgflaaGreat
end

section
namespace Api
open Go Leg Codec Dsk Wal
class GdM(m:MsgT):Prop where
 kind:0≤m.kind∧m.kind≤9
class GdL(l:List SaidT):Prop where
 all: ∀x∈l,0≤x.msg.kind∧x.msg.kind≤9
theorem HF(n:Int):0< (ui n).length:=pK _
theorem Br(n:Int)(l:List Int):0< (bf (n::l)).length:=by
 show 0< (ui n++bf l).length;rw[aj];have:=HF n;omega
theorem KB{m:MsgT}(h:0≤m.kind∧m.kind≤9):0< (dU m).length:=by
 have p: ∀(l:List Int) (r:List UInt8),0< (bf (m.kind::l)++r).length:=λl r=>by rw[aj];have:=Br m.kind l;omega
 unfold dU;split
 · exact p _ _
 rename_i h0;split
 · exact Br _ _
 split
 · exact p _ _
 rename_i h3;split
 · rw[be,be];exact p _ _
 split
 · rw[be];exact p _ _
 split
 · exact p _ _
 split
 · exact p _ _
 · exfalso
   simp only[e6,ff,decide_eq_true_eq]at h0 h3;omega
instance (v:Int):GdM (rZ v):=⟨(by decide:(0:Int)≤1∧(1:Int)≤9)⟩
instance (i:Int)(y:RowT):GdM (rQ i y):=⟨(by decide:(0:Int)≤2∧(2:Int)≤9)⟩
instance (v:ViewT):GdM (jO v):=⟨(by decide:(0:Int)≤7∧(7:Int)≤9)⟩
instance (i:Int)(v:ViewT):GdM (oe i v):=⟨(by decide:(0:Int)≤8∧(8:Int)≤9)⟩
instance (i:Int)(y:RowT):GdM (gL i y):=⟨(by decide:(0:Int)≤9∧(9:Int)≤9)⟩
instance (e:Int)(b:BallotT):GdM (fw e b):=⟨(by decide:(0:Int)≤3∧(3:Int)≤9)⟩
instance (e:Int)(b h:BallotT)(c:ChangeT):GdM (kr e b h c):=⟨(by decide:(0:Int)≤4∧(4:Int)≤9)⟩
instance (e:Int)(b:BallotT)(c:ChangeT):GdM (iR e b c):=⟨(by decide:(0:Int)≤5∧(5:Int)≤9)⟩
instance (e:Int)(b:BallotT):GdM (jB e b):=⟨(by decide:(0:Int)≤6∧(6:Int)≤9)⟩
instance (t:Int)(m:MsgT)[h:GdM m]:GdL [⟨t,m⟩]:=⟨λx hx=>by rw[ii]at hx;subst hx;exact h.kind⟩
instance (i:Int)(m:MsgT)(p:Nat→Bool)(k:Nat)[h:GdM m]:GdL (nL i m p k):=⟨λx hx=>by
 unfold nL at hx;obtain⟨j,_,rfl⟩:=eX.1 hx
 exact h.kind⟩
instance (x:RepT):GdL (pj x):=⟨λs hs=>by
 unfold pj at hs;rw[eX]at hs;obtain⟨w,_,rfl⟩:=hs
 exact(show(0:Int)≤0∧(0:Int)≤9 by decide)⟩
section
variable {δ:Type} {K:Dk δ} {s0 s:MS δ}
class Qt(s0 s:MS δ):Prop where
 id:s.id=s0.id
 replies:s.replies=s0.replies
 ops:s.ops=s0.ops
 waits:s.waits=s0.waits∨s.waits=0
 o: ∃l,s.o=s0.o++l∧∀x∈l,0≤x.msg.kind∧x.msg.kind≤9
instance Qt.rfl':Qt s s:=⟨rfl,rfl,rfl, .inl rfl,[],(bb _).symm,λ_ h=>by cases h⟩
theorem Qt.trans{a b c:MS δ}(h:Qt a b)(g:Qt b c):Qt a c:=by
 obtain⟨l,e,hl⟩:=h.o;obtain⟨l2,e2,hl2⟩:=g.o;exact⟨g.id.trans h.id,g.replies.trans h.replies,g.ops.trans h.ops,g.waits.elim (λq=>h.waits.imp (q.trans ·) (q.trans ·)) .inr,l++l2,by rw[e2,e,be],λx hx=>(ez.1 hx).elim (hl x) (hl2 x)⟩
theorem Qt.same{t:MS δ}(h:Qt s0 s)(h1:t.id=s.id)(h2:t.replies=s.replies)(h3:t.ops=s.ops)(h4:t.waits=s.waits)(h5:t.o=s.o):Qt s0 t:=
 ⟨h1.trans h.id,h2.trans h.replies,h3.trans h.ops,by rw[h4];exact h.waits,by rw[h5];exact h.o⟩
instance [h:Qt s0 s](l:List SaidT)[g:GdL l]:Qt s0 (iC K s l):=by
 refine h.trans ⟨rfl,rfl,rfl, .inl rfl,?_⟩
 by_cases q:K.dn s.e=true
 · exact⟨[],by rw[iC,if_pos q,bb],λ_ h=>by cases h⟩
 · exact⟨l,by rw[iC,if_neg q],g.all⟩
instance [h:Qt s0 s](t:Int)(m:MsgT)[GdM m]:Qt s0 (Cv K s t m):=inferInstanceAs (Qt s0 (iC K s _))
instance [h:Qt s0 s](r:RecT):Qt s0 (ef K s r):=h.same rfl rfl rfl rfl rfl
instance [h:Qt s0 s](f:Int):Qt s0 (iB s f):=h.same rfl rfl rfl rfl rfl
instance [h:Qt s0 s](w:Int)(x:RowT):Qt s0 (Ey s w x):=h.same rfl rfl rfl rfl rfl
instance [h:Qt s0 s]:Qt s0 (gA s):=h.same rfl rfl rfl rfl rfl
instance [h:Qt s0 s](w:Int)(x:RowT):Qt s0 (iz s w x):=h.same rfl rfl rfl rfl rfl
instance [h:Qt s0 s](w:Int):Qt s0 (lN s w):=h.same rfl rfl rfl rfl rfl
instance [h:Qt s0 s](x:RowT):Qt s0 (tP s x 0):=⟨h.id,h.replies,h.ops, .inr rfl,h.o⟩
instance [Qt s0 s]:Qt s0 (fj K s):=inferInstanceAs (Qt s0 (iC K s _))
instance [Qt s0 s](y:RowT):Qt s0 (mj K s y):=inferInstanceAs (Qt s0 (iC K s _))
instance [Qt s0 s](v:ViewT):Qt s0 (nC K s v):=inferInstanceAs (Qt s0 (iC K s _))
instance [Qt s0 s](m:MsgT)[GdM m]:Qt s0 (jx K s m):=inferInstanceAs (Qt s0 (iC K s _))
instance [Qt s0 s](x:RowT):Qt s0 (eU K s x 0).1:=by unfold eU;split<;>exact inferInstance
instance [h:Qt s0 s]:Qt s0 (mO K s):=by
 unfold mO;split
 · exact h
 split
 · exact inferInstance
 · exact h
instance [h:Qt s0 s](f:Int)(m:MsgT):Qt s0 (iM K s f m):=by
 unfold iM
 repeat' split
 all_goals exact inferInstance
instance [h:Qt s0 s](w:Int)(x:RowT):Qt s0 (lv s w x):=h.same rfl rfl rfl rfl rfl
instance [h:Qt s0 s](f w:Int)(y:RowT):Qt s0 (uU s f w y):=h.same rfl rfl rfl rfl rfl
instance [h:Qt s0 s](f:Int)(m:MsgT):Qt s0 (fS K s f m):=by unfold fS;split<;>exact inferInstance
theorem pu[Qt s0 s]{f:MS δ→MS δ}(hf:Qt s0 (f s))(t:Int)(m:MsgT)[GdM m]:Qt s0 (m6 K f s t m):=by unfold m6;split;exact hf;exact inferInstance
instance [h:Qt s0 s](f w:Int):Qt s0 (fq K s f w):=by
 unfold fq
 repeat' split
 · exact h
 · exact pu inferInstance _ _
 · exact inferInstance
 · exact pu inferInstance _ _
instance [h:Qt s0 s](i w:Int):Qt s0 (gO K s i w):=by
 unfold gO;split
 · exact h
 · exact pu inferInstance _ _
instance [Qt s0 s](i:Int):Qt s0 (pN K s i):=by unfold pN;exact inferInstance
theorem yt: ∀(l:List Int) (s:MS δ),Qt s0 s→Qt s0 (fR K l s)
 | [],_,h=>h
 |i::l,s,h=>yt l (pN K s i) inferInstance
instance [h:Qt s0 s]:Qt s0 (qT K s):=yt _ _ h
instance [h:Qt s0 s](v:ViewT):Qt s0 (mM s v):=h.same rfl rfl rfl rfl rfl
instance [h:Qt s0 s](v:ViewT):Qt s0 (gY K s v):=by
 unfold gY
 repeat' split
 all_goals exact inferInstance
instance [h:Qt s0 s](f:Int)(m:MsgT):Qt s0 (ml K s f m):=by unfold ml;exact inferInstance
instance [h:Qt s0 s](c:ChangeT):Qt s0 (k8 K s c):=by
 unfold k8
 repeat' split
 all_goals exact inferInstance
instance [h:Qt s0 s](n:Int):Qt s0 (db s n):=h.same rfl rfl rfl rfl rfl
instance [h:Qt s0 s](v:VoteT):Qt s0 (la s v):=h.same rfl rfl rfl rfl rfl
instance [h:Qt s0 s](a:AccT):Qt s0 (wN s a):=h.same rfl rfl rfl rfl rfl
instance [h:Qt s0 s](f:Int)(m:MsgT):Qt s0 (lc K f m s):=by
 unfold lc;split
 · exact h
 · split<;>exact inferInstance
theorem rk[h:Qt s0 s]{f:MS δ→MS δ}(hf: ∀s:MS δ,Qt s0 s→Qt s0 (f s))(w:Int)(m:MsgT):Qt s0 (eJ K f s w m):=by
 unfold eJ
 repeat' split
 · exact inferInstance
 · exact h
 · exact h
 · exact hf _ inferInstance
instance [Qt s0 s](w:Int)(m:MsgT):Qt s0 (qz K s w m):=rk (λ_ _=>inferInstance) w m
instance [h:Qt s0 s](w:Int)(m:MsgT):Qt s0 (nK K w m s):=by unfold nK;exact pu inferInstance _ _
instance [h:Qt s0 s](w:Int)(m:MsgT):Qt s0 (oI K w m s):=by
 unfold oI
 repeat' split
 all_goals exact inferInstance
instance [Qt s0 s](w:Int)(m:MsgT):Qt s0 (sM K s w m):=rk (λ_ _=>inferInstance) w m
theorem tC[h:Qt s0 s]{f:MS δ→MsgT→MS δ}{m:MsgT}[GdM m](hf: ∀s:MS δ,Qt s0 s→Qt s0 (f s m)):Qt s0 (jC K f s m):=by
 unfold jC;split
 · exact hf _ inferInstance
 · exact inferInstance
instance [h:Qt s0 s](vt:VoteT):Qt s0 (ku K s vt):=tC λ_ _=>inferInstance
instance [h:Qt s0 s](f:Int)(m:MsgT):Qt s0 (pd K f m s):=by
 unfold pd;split
 · exact h
 · split<;>exact inferInstance
instance [Qt s0 s](w:Int)(m:MsgT):Qt s0 (qB K s w m):=rk (λ_ _=>inferInstance) w m
instance [h:Qt s0 s](w:Int)(m:MsgT)(a:AccT):Qt s0 (nX K w m a s):=by unfold nX;exact pu inferInstance _ _
instance [h:Qt s0 s](w:Int)(m:MsgT):Qt s0 (pR K w m s):=by
 unfold pR
 repeat' split
 all_goals exact inferInstance
instance [Qt s0 s](w:Int)(m:MsgT):Qt s0 (sN K s w m):=rk (λ_ _=>inferInstance) w m
instance [h:Qt s0 s](vt:VoteT):Qt s0 (mF K s vt):=tC λ_ _=>inferInstance
instance [h:Qt s0 s](vt:VoteT):Qt s0 (oJ K s vt):=by unfold oJ;split<;>exact inferInstance
instance [h:Qt s0 s](c:ChangeT):Qt s0 (qW K s c):=by unfold qW;exact inferInstance
instance [h:Qt s0 s](c:ChangeT):Qt s0 (cz K s c).1:=by
 unfold cz
 repeat' split
 all_goals exact inferInstance
instance [h:Qt s0 s]:Qt s0 (bR K s):=by unfold bR;split<;>exact inferInstance
instance [h:Qt s0 s]:Qt s0 (bZ K s):=by unfold bZ;split<;>exact inferInstance
instance [h:Qt s0 s]:Qt s0 (fV K s):=by unfold fV;split<;>exact inferInstance
instance [h:Qt s0 s]:Qt s0 (rA K s):=by
 unfold rA;split
 · exact h
 · repeat' split
   all_goals exact inferInstance
instance [h:Qt s0 s]:Qt s0 (iy K s):=by unfold iy;split<;>exact inferInstance
structure Rp(s0 s:MS δ)(l:List ReplyT):Prop where
 id:s.id=s0.id
 replies:s.replies=s0.replies++l
 o: ∃l,s.o=s0.o++l∧∀x∈l,0≤x.msg.kind∧x.msg.kind≤9
theorem Qt.rp(h:Qt s0 s):Rp s0 s []:=⟨h.id,by rw[h.replies,bb],h.o⟩
theorem Rp.then{l:List ReplyT}{t:MS δ}(h:Rp s0 s l)(g:Qt s t):Rp s0 t l:=by
 obtain⟨l1,e,hl⟩:=h.o;obtain⟨l2,e2,hl2⟩:=g.o;exact⟨g.id.trans h.id,g.replies.trans h.replies,l1++l2,by rw[e2,e,be],λx hx=>(ez.1 hx).elim (hl x) (hl2 x)⟩
theorem GD(s:MS δ)(f:Int)(m:MsgT):Qt s (dF K s f m)∨(0<s.waits∧Rp s (dF K s f m) [⟨s.waits,0,0⟩]∧(dF K s f m).waits=0∧(dF K s f m).ops=s.ops):=by
 unfold dF;split
 · split
   · by_cases hw:0<s.waits
     · right
       have e:lW (gA (iB s f))= {dB (gA (iB s f)) s.waits 0 0 with waits:=0}:=xL (s:=gA (iB s f)) hw;have q:Qt (lW (gA (iB s f))) (lx K (iB s f)):=by unfold lx;exact inferInstance
       have hw0:(lW (gA (iB s f))).waits=0:=by rw[e]
       refine⟨hw,Rp.then (s:=lW (gA (iB s f))) ?_ q,(q.waits.elim (·.trans hw0) id),q.ops.trans (by rw[e];rfl)⟩;rw[e];exact⟨rfl,rfl,[],(bb _).symm,λ_ h=>by cases h⟩
     · left
       unfold lx;rw[xM (s:=gA (iB s f)) hw];exact inferInstance
   · left;exact inferInstance
 · left;exact inferInstance
theorem Ir(s:MS δ)(f:Int)(m:MsgT):Qt s (gf K s f m)∨(0<s.waits∧Rp s (gf K s f m) [⟨s.waits,0,0⟩]∧(gf K s f m).waits=0∧(gf K s f m).ops=s.ops):=by
 unfold gf
 by_cases h1:m.kind=1
 · rw[if_neg (by omega),if_pos h1];exact GD s f m
 · left
   rw[if_neg h1]
   repeat' split
   all_goals exact inferInstance
theorem IS(s:MS δ)(x:RowT)(op:Int):((eU K s x op).2≠0∧Qt s (eU K s x op).1)∨((eU K s x op).2=0∧Rp s (eU K s x op).1 []∧(eU K s x op).1.waits=op∧(eU K s x op).1.ops=s.ops):=by
 unfold eU;split
 · rename_i h;exact .inl ⟨h,inferInstance⟩
 · right
   have q:Qt (tP (ef K s (kn x)) x op) (fj K (tP (ef K s (kn x)) x op)):=inferInstance;refine⟨rfl,Rp.then (s:=tP (ef K s (kn x)) x op) ⟨rfl,(bb _).symm,[],(bb _).symm,λ_ h=>by cases h⟩ q,?_,q.ops⟩;show(fj K _).waits=_;rfl
theorem Ga(s:MS δ)(o:OpT):(∃e v,Rp s (bY K s o).1 [⟨fM (s.ops+1),e,v⟩]∧(bY K s o).2=e∧(bY K s o).1.ops=fM (s.ops+1)∧((bY K s o).1.waits=s.waits∨(bY K s o).1.waits=0))∨(Rp s (bY K s o).1 []∧(bY K s o).2=0∧(bY K s o).1.ops=fM (s.ops+1)∧(bY K s o).1.waits=fM (s.ops+1)):=by
 have e0:Rp s (bK s) []:=⟨rfl,(bb _).symm,[],(bb _).symm,λ_ h=>by cases h⟩
 have rep: ∀(t:MS δ) (op e v:Int),Qt (bK s) t→op=fM (s.ops+1)→Rp s (dB t op e v) [⟨fM (s.ops+1),e,v⟩]∧(dB t op e v).ops=fM (s.ops+1)∧((dB t op e v).waits=s.waits∨(dB t op e v).waits=0):=λt op e v h ho=>by
  subst ho;obtain⟨l,e1,hl⟩:=h.o;exact⟨⟨h.id,by show t.replies++_=_;rw[h.replies];rfl,l,e1,hl⟩,h.ops,h.waits⟩
 unfold bY;split
 · left
   unfold eb;split
   · obtain⟨a,b,c⟩:=rep (bK s) _ (fH (bK s) o.change) 0 inferInstance rfl
     exact⟨_,_,a,rfl,b,c⟩
   · split
     · obtain⟨a,b,c⟩:=rep (cz K (bK s) o.change).1 _ (cz K (bK s) o.change).2 0 inferInstance rfl
       exact⟨_,_,a,rfl,b,c⟩
     · obtain⟨a,b,c⟩:=rep (cz K (bK s) o.change).1 _ 0 0 inferInstance rfl
       have q:Qt (dB (cz K (bK s) o.change).1 (bK s).ops 0 0) (oJ K (dB (cz K (bK s) o.change).1 (bK s).ops 0 0) (jR (bK s).view (eD (bK s)) o.change)):=inferInstance;exact⟨_,_,a.then q,rfl,q.ops.trans b,q.waits.elim (λw=>c.imp (w.trans ·) (w.trans ·)) .inr⟩
 · unfold oE
   split
   · left
     obtain⟨a,b,c⟩:=rep (bK s) _ (c8 (bK s) o).2.2 (c8 (bK s) o).2.1 inferInstance rfl;exact⟨_,_,a,rfl,b,c⟩
   · rcases IS (K:=K) (bK s) (c8 (bK s) o).1 (bK s).ops with⟨h,q⟩| ⟨h,q,hw,ho⟩
     · rw[if_pos h]
       left;obtain⟨a,b,c⟩:=rep _ _ (eU K (bK s) (c8 (bK s) o).1 (bK s).ops).2 0 q rfl;exact⟨_,_,a,rfl,b,c⟩
     · rw[if_neg (by omega)]
       right;obtain⟨l,e1,hl⟩:=q.o;exact⟨⟨q.id,q.replies,l,e1,hl⟩,rfl,ho,hw⟩
end
def Slot.pend(x:Slot):Nat:=match x.run with
 |some s=>if 0<s.waits then 1 else 0
 |none=>0
structure SlotOk(i n:Nat)(x:Slot):Prop where
 run: ∀s,x.run=some s→OkR KD s∧s.id=((i:Nat):Int)∧s.o=[]
 D:x.run=none→DkOk x.D
 reps:x.reps.length+x.pend≤n
structure CLOk(n:Nat)(a:CL):Prop where
 ms:a.ms.length=5
 W:a.W.length=25
 at': ∀i,i<5→SlotOk i n (a.at' i)
 way: ∀k,(a.W.getD k []).length≤8∧∀m∈a.W.getD k [],0< (dU m).length
structure OkOp(o:OpT):Prop where
 change:OkCh o.change
 n:o.n≤9223372036854775807
theorem SlotOk.dk{i n:Nat}{x:Slot}(h:SlotOk i n x):DkOk x.dk:=by
 unfold Slot.dk;split
 · rename_i s q;exact(h.run s q).1.e.dk
 · rename_i q;exact h.D q
theorem SlotOk.more{i n k:Nat}{x:Slot}(h:SlotOk i n x)(hk:n≤k):SlotOk i k x:=⟨h.run,h.D,xH h.reps hk⟩
theorem CLOk.more{n k:Nat}{a:CL}(h:CLOk n a)(hk:n≤k):CLOk k a:=⟨h.ms,h.W,λi hi=>(h.at' i hi).more hk,h.way⟩
theorem wI{ms:List Slot}{W:List (List MsgT)}{i:Nat}{x:Slot}(h:i<ms.length):(CL.mk (ms.set i x) W).at' i=x:=by
 unfold CL.at';rw[List.getD_eq_getElem?_getD,List.getElem?_set_self h];rfl
theorem wJ{ms:List Slot}{W:List (List MsgT)}{i j:Nat}{x:Slot}(h:j≠i):(CL.mk (ms.set i x) W).at' j=ms.getD j .nil:=by
 unfold CL.at';rw[List.getD_eq_getElem?_getD,List.getElem?_set_ne (λe=>h e.symm),←List.getD_eq_getElem?_getD]
theorem CLOk.put{n k i:Nat}{a:CL}(h:CLOk n a)(hk:n≤k)(hi:i<5){x:Slot}(hx:SlotOk i k x){W:List (List MsgT)}(hW:W.length=25)(hw: ∀k,(W.getD k []).length≤8∧∀m∈W.getD k [],0< (dU m).length):CLOk k ⟨a.ms.set i x,W⟩:=
 ⟨by show(a.ms.set i x).length=5;rw[ct];exact h.ms,hW,λj hj=>by
  by_cases q:j=i
  · subst q;rw[wI (by rw[h.ms];exact hi)];exact hx
  · rw[wJ q];exact(h.at' j hj).more hk,hw⟩
theorem Iz{W:List (List MsgT)}(hw: ∀k,(W.getD k []).length≤8∧∀m∈W.getD k [],0< (dU m).length)(f:Nat)(s:SaidT)(hs:0< (dU s.msg).length): ∀k,((rM W f s).getD k []).length≤8∧∀m∈(rM W f s).getD k [],0< (dU m).length:=λk=>by
 unfold rM;split
 · by_cases q:k=bA ((f:Nat):Int) s.to'
   · subst q
     by_cases hl:bA ((f:Nat):Int) s.to'<W.length
     · rw[List.getD_eq_getElem?_getD,List.getElem?_set_self hl]
       obtain⟨h1,h2⟩:=hw (bA ((f:Nat):Int) s.to');simp only[Option.getD_some];split
       · refine⟨by rw[aj,gd];omega,λm hm=>?_⟩
         rcases ez.1 hm with hm|hm
         · exact h2 m hm
         · rw[ii]at hm;subst hm;exact hs
       · exact⟨h1,h2⟩
     · rw[N0 (by omega)];exact hw _
   · rw[List.getD_eq_getElem?_getD,List.getElem?_set_ne (λe=>q e.symm),←List.getD_eq_getElem?_getD];exact hw k
 · exact hw k
theorem AN(f:Nat): ∀(l:List SaidT) {W:List (List MsgT)},(∀x∈l,0< (dU x.msg).length)→(∀k,(W.getD k []).length≤8∧∀m∈W.getD k [],0< (dU m).length)→∀k,((gK W f l).getD k []).length≤8∧∀m∈(gK W f l).getD k [],0< (dU m).length
 | [],_,_,hw=>hw
 |s::l,W,hl,hw=>AN f l (W:=rM W f s) (λx hx=>hl x (B1 _ hx)) (Iz hw f s (hl s (kd ..)))
theorem AZ(W:List (List MsgT))(f:Nat)(s:SaidT):(rM W f s).length=W.length:=by unfold rM;split<;>simp
theorem rE(f:Nat): ∀(l:List SaidT) (W:List (List MsgT)),(gK W f l).length=W.length
 | [],_=>rfl
 |s::l,W=>(rE f l _).trans (AZ W f s)
theorem IR{s:MS LD}(h:OkR KD s):OkR KD s.hush:=⟨h.e,h.id,h.view,h.own,h.mir,h.book,h.last,h.acc,h.vote⟩
def owe(s:MS LD):Nat:=if 0<s.waits then 1 else 0
theorem CLOk.did{n i k:Nat}{a:CL}(h:CLOk n a)(hk:n≤k)(hi:i<5){s s':MS LD}(hs:(a.at' i).run=some s)(h':OkR KD s'){l:List ReplyT}(r:Rp s s' l)(hl:l.length+owe s'+n≤k+owe s):CLOk k (a.did i s'):=by
 obtain⟨h1,h2,h3⟩:=(h.at' i hi).run s hs;obtain⟨lo,e,hlo⟩:=r.o;rw[h3,cb]at e;refine h.put hk hi ⟨λt q=>?_,(λq=>by cases q),?_⟩ (by rw[rE];exact h.W) (AN i _ (λx hx=>KB (hlo x (by rw[←e];exact hx))) h.way)
 · obtain rfl:=dO q
   exact⟨IR h',r.id.trans h2,rfl⟩
 · have:=(h.at' i hi).reps
   unfold Slot.reps Slot.pend at this ⊢;rw[hs]at this;show((a.at' i).past++s'.replies).length+(if 0<s'.waits then 1 else 0)≤k;rw[r.replies];unfold owe at hl;simp only[aj]at this ⊢;omega
theorem Qt.owe{s s':MS LD}(q:Qt s s'):Api.owe s'≤Api.owe s:=by
 unfold Api.owe;rcases q.waits with e|e
 · rw[e];exact aK _
 · rw[e];exact aN _
theorem Ln(s:MS LD):owe s≤1:=by unfold owe;split<;>omega
theorem CLOk.quiet{n i:Nat}{a:CL}(h:CLOk n a)(hi:i<5){s s':MS LD}(hs:(a.at' i).run=some s)(h':OkR KD s')(q:Qt s s'):CLOk n (a.did i s'):=
 h.did (aK _) hi hs h' q.rp (by have:=q.owe;show 0+_+n≤_;omega)
theorem CLOk.onway{n k:Nat}{a:CL}(h:CLOk n a){l:List MsgT}(hl:l.length≤8∧∀m∈l,0< (dU m).length):CLOk n (a.way k l):=
 ⟨h.ms,by show(a.W.set k l).length=25;rw[ct];exact h.W,h.at',λj=>by
  show((a.W.set k l).getD j []).length≤8∧_
  by_cases q:j=k
  · subst q
    by_cases hk:j<a.W.length
    · show((a.W.set j l).getD j []).length≤8∧∀m∈(a.W.set j l).getD j [],_
      rw[List.getD_eq_getElem?_getD,List.getElem?_set_self hk];exact hl
    · show((a.W.set j l).getD j []).length≤8∧∀m∈(a.W.set j l).getD j [],_
      rw[N0 (by omega)];exact h.way j
  · show((a.W.set k l).getD j []).length≤8∧∀m∈(a.W.set k l).getD j [],_
    rw[List.getD_eq_getElem?_getD,List.getElem?_set_ne (λe=>q e.symm),←List.getD_eq_getElem?_getD];exact h.way j⟩
theorem nS{w:Int}(h:iA w=true):w.toNat<5∧((w.toNat:Nat):Int)=w:=by
 have:0≤w∧w<5:=of_decide_eq_true h;omega
theorem I5{n f t:Nat}{a:CL}(h:CLOk n a)(ht:t<5)(m:MsgT):CLOk n (wA a f t m).1:=by
 unfold wA;split
 · exact h
 · rename_i s hs
   split
   · exact h
   · split
     · obtain⟨h1,_,_⟩:=(h.at' t ht).run s hs
       have hm:=Eu (dU m);rcases Ir (K:=KD) s ((f:Nat):Int) (jy (dU m)).1 with q| ⟨hw,q,q2,_⟩
       · exact h.quiet ht hs inferInstance q
       · refine h.did (aK _) ht hs inferInstance q ?_
         unfold owe;rw[q2,if_pos hw];show 1+(if(0:Int)<0 then 1 else 0)+n≤n+1;rw[if_neg (by omega)];omega
     · exact h
theorem JZ{n:Nat}{a:CL}(h:CLOk n a)(o:OpT):CLOk n (o9 a o).1:=by
 unfold o9;split
 · exact h
 · rename_i hv
   have hv:dA o.at' o.to'=true:=by simpa using hv
   have hw:=h.way (bA o.at' o.to');split
   · exact h
   · rename_i m l hl
     rw[hl]at hw;split
     · split
       · refine h.onway ⟨?_,λx hx=>?_⟩
         · rename_i q
           unfold Gy at q;have q:=of_decide_eq_true q;unfold Cg;rw[if_pos q,aj,gd];omega
         · unfold Cg at hx
           split at hx
           · rcases ez.1 hx with hx|hx
             · exact hw.2 x hx
             · rw[ii]at hx;subst hx;exact hw.2 _ (kd ..)
           · exact hw.2 x hx
       · exact h
     · split
       · exact h
       · rename_i m2 l2 hl2
         have hlen:=jU (max o.n 0% ((m::l).length:Int)).toNat (m::l);have hmem:=λx=>(n8 (x:=x) (max o.n 0% ((m::l).length:Int)).toNat (m::l)).1
         rw[hl2]at hlen hmem;have g:CLOk n (a.way (bA o.at' o.to') l2):=h.onway ⟨by simp only[ax]at hlen hw;omega,λx hx=>hw.2 x (hmem x (B1 _ hx))⟩
         have ht:o.to'.toNat<5:=by
          unfold dA at hv;rw[av,av]at hv;exact(nS hv.1.2).1
         split
         · exact g
         · exact I5 g ht m2
theorem Aw{n i:Nat}(hi:i<5){x:Slot}(h:SlotOk i n x):SlotOk i n (jV i x).1:=by
 unfold jV;split
 · exact h
 · rename_i hr
   have hD:=h.D hr;refine⟨λs q=>?_,λ_=>hD.open.1,?_⟩
   · obtain⟨h1,f⟩:=sQ hi hD q
     exact⟨h1,f.id,f.o⟩
   · have:=h.reps
     unfold Slot.reps Slot.pend at this ⊢;rw[hr,bb]at this;show(x.past++match(cW i x.D).1 with|some s=>s.replies|none=>[]).length+(match(cW i x.D).1 with|some s=>if 0<s.waits then 1 else 0|none=>0)≤n;cases q:(cW i x.D).1 with
     |some s=>
      have f:=(sQ hi hD q).2;simp only[f.replies,f.waits,bb]
      simpa using this
     |none=>simpa using this
theorem KH{n i:Nat}{x:Slot}(h:SlotOk i n x){k:Int}(hk:k≤9223372036854775807):SlotOk i n (xt x k):=by
 unfold xt;split
 · rename_i s hs
   obtain⟨h1,h2,h3⟩:=h.run s hs;refine⟨λt q=>?_,(λq=>by cases q),?_⟩
   · obtain rfl:=dO q
     exact⟨⟨⟨h1.e.dk.arm k hk,h1.e.used,h1.e.cnt⟩,h1.id,h1.view,h1.own,h1.mir,h1.book,h1.last,h1.acc,h1.vote⟩,h2,h3⟩
   · have:=h.reps
     unfold Slot.reps Slot.pend at this ⊢;rw[hs]at this;exact this
 · rename_i hr
   refine⟨λt q=>?_,λ_=>(h.D hr).arm k hk,?_⟩
   · rw[show x.run=some t from q]at hr;cases hr
   · have:=h.reps
     unfold Slot.reps Slot.pend at this ⊢;rw[hr]at this;simp only[hr];exact this
theorem crash_ok{n i:Nat}{x:Slot}(h:SlotOk i n x)(mask torn cut:Int):SlotOk i n (nr x mask torn cut):=
 ⟨(λt q=>by cases q),λ_=>h.dk.crash mask torn cut,by
  have:=h.reps;show(x.reps++[]).length+0≤n
  rw[bb];omega⟩
theorem Dg{n:Nat}{a:CL}(h:CLOk n a){o:OpT}(ho:OkOp o)(hk: ¬(0≤o.kind∧o.kind≤4)):CLOk n (B5 a o).1:=by
 unfold B5;split
 · exact h
 rename_i hm;have hm:iA o.at'=true:=by simpa using hm
 have hi:=(nS hm).1;split
 · exact JZ h o
 split
 · unfold EQ
   split
   · exact h
   · rename_i s hs
     split
     · exact h
     · obtain⟨h1,_,_⟩:=(h.at' _ hi).run s hs
       exact h.quiet hi hs inferInstance inferInstance
 split
 · exact h.put (aK _) hi (KH (h.at' _ hi) ho.n) h.W h.way
 split
 · exact h.put (aK _) hi (crash_ok (h.at' _ hi) _ _ _) h.W h.way
 split
 · exact h.put (aK _) hi (Aw hi (h.at' _ hi)) h.W h.way
 · exact h
theorem JR{n:Nat}{a:CL}(h:CLOk n a){o:OpT}(ho:OkOp o):CLOk (n+1) (B5 a o).1:=by
 by_cases hk:0≤o.kind∧o.kind≤4
 · unfold B5
   split
   · exact h.more (by omega)
   rename_i hm;have hm:iA o.at'=true:=by simpa using hm
   have hi:=(nS hm).1;unfold Gb;split
   · exact h.more (by omega)
   · rename_i s hs
     split
     · exact h.more (by omega)
     · obtain⟨h1,_,_⟩:=(h.at' _ hi).run s hs
       have:=ho.change;rcases Ga (K:=KD) s o with⟨e,v,q,_,_,w⟩| ⟨q,_⟩
       · refine h.did (by omega) hi hs inferInstance q ?_
         have:owe (bY KD s o).1≤owe s:=by
          unfold owe;rcases w with e|e
          · rw[e];exact aK _
          · rw[e];exact aN _
         show 1+_+n≤_;omega
       · refine h.did (by omega) hi hs inferInstance q ?_
         have:=Ln (bY KD s o).1;show 0+_+n≤_;omega
 · exact(Dg h ho hk).more (by omega)
theorem new_ok:CLOk 0 CL.new:=by
 refine⟨by simp[CL.new],by simp[CL.new],λi hi=>?_,λk=>?_⟩
 · have e:CL.new.at' i=rR i:=by simp[CL.new,CL.at',List.getD_eq_getElem?_getD,hi]
   rw[e];exact Aw hi ⟨(λs q=>by cases q),λ_=>DkOk.new,aK _⟩
 · have e:CL.new.W.getD k []=[]:=by
    show(List.replicate 25 ([]:List MsgT)).getD k []=[];rw[List.getD_eq_getElem?_getD,List.getElem?_replicate];split<;>rfl
   rw[e];exact⟨aN _,λm hm=>by cases hm⟩
theorem Cw: ∀(l:List OpT) {n:Nat} {a:CL},CLOk n a→(∀o∈l,OkOp o)→CLOk (n+l.length) (gn a l)
 | [],_,_,h,_=>h
 |o::l,n,a,h,ho=>by
  have:=Cw l (JR h (ho o (kd ..))) λx hx=>ho x (B1 _ hx)
  rw[ax,show n+(l.length+1)=n+1+l.length by omega];exact this
end Api
end

section
namespace Go.Proofs.YtjblgopghhgflaaGreat
open Go Leg Codec Api Dsk Wal
theorem sW{f:Nat→HP}{k i:Nat}(hi:i<k){H:List HP}{h:Hl}(s:bC (bC ((List.range k).map f)::H) h):bC (f i::bC (((List.range k).map f).eraseIdx i)::H) h:=by
 have s1:bC ((List.range k).map f++H) h:=(bX _ _).2 s;have e:((List.range k).map f).getD i (λ_=>True)=f i:=by simp[List.getD_eq_getElem?_getD,hi]
 have p:=mG (λ_=>True) ((List.range k).map f) i (by simpa using hi);rw[e]at p;exact cA (ee (p.append_right H) s1) (λ_ a=>a) λ_ b=>(bX _ _).1 b
theorem sV{f g:Nat→HP}{k i:Nat}(hi:i<k)(hg: ∀j,j≠i→g j=f j){H:List HP}{h:Hl}(s:bC (g i::bC (((List.range k).map f).eraseIdx i)::H) h):bC (bC ((List.range k).map g)::H) h:=by
 have e0:((List.range k).map g).eraseIdx i=((List.range k).map f).eraseIdx i:=by
  refine List.ext_getElem? λj=>?_
  rw[List.getElem?_eraseIdx,List.getElem?_eraseIdx]
  have: ∀m,m≠i→((List.range k).map g)[m]?=((List.range k).map f)[m]?:=λm hm=>by
   rw[List.getElem?_map,List.getElem?_map]
   by_cases hk:m<k
   · simp[hk,hg m hm]
   · simp[hk]
  split
  · exact this j (by omega)
  · exact this (j+1) (by omega)
 have e:((List.range k).map g).getD i (λ_=>True)=g i:=by simp[List.getD_eq_getElem?_getD,hi]
 have p:=mG (λ_=>True) ((List.range k).map g) i (by simpa using hi);rw[e,e0]at p;have s2:bC ((g i::((List.range k).map f).eraseIdx i)++H) h:=cA s (λ_ a=>a) λ_ b=>(bX _ _).2 b
 exact(bX _ _).1 (ee (p.symm.append_right H) s2)
section
variable {f:FuncId} {args:Array Value} {Q:Value→Prop} {c i:Nat} {a a':CL}
theorem zH(hi:i<5){Z:Value→CL→Prop}(hne: ∀v a',Z v a'→∀j,j≠i→a'.at' j=a.at' j)
 (core: ∀g:CX,DT f args T0 (ag c (ey g.n (k0 g) (jb a g.r) g.p) 104::dL 156 208 5 g.n (cv a.W)::jr (a.at' i) (g.d i) (g.r i) (g.p i))
  (c9 λv H=>∃a',Z v a'∧∃g':CX,g'.n=g.n∧(∀j,j≠i→g'.d j=g.d j∧g'.r j=g.r j∧g'.p j=g.p j)∧H=ag c (ey g.n (k0 g') (jb a' g'.r) g'.p) 104::dL 156 208 5 g.n (cv a'.W)::jr (a'.at' i) (g'.d i) (g'.r i) (g'.p i))):
 DT f args T0 [fE c a] (c9 λv H=>∃a',Z v a'∧H=[fE c a']):=by
 refine Leg.Does.ex (A':=λg:CX=>(ag c (ey g.n (k0 g) (jb a g.r) g.p) 104::dL 156 208 5 g.n (cv a.W)::jr (a.at' i) (g.d i) (g.r i) (g.p i))++[bC (((List.range 5).map λi=>kl (a.at' i) (g.d i) (g.r i) (g.p i)).eraseIdx i)]) (λh s=>?_) λg=>?_
 · obtain⟨g,s⟩:=fk s
   have s2:=sW (f:=λi=>kl (a.at' i) (g.d i) (g.r i) (g.p i)) hi (az [2,0,0] rfl s);have s3:=(bX (jr (a.at' i) (g.d i) (g.r i) (g.p i)) _).2 s2;exact⟨g,az [4,4,0,0,0,0] rfl s3⟩
 · refine Leg.Does.withinR (core g) (λ_ _ _ _=>trivial) (λh s=>s) λv H hp=>?_
   obtain⟨a',hz,g',hn,hg,rfl⟩:=hp;refine⟨[fE c a'],λh s=>?_,a',hz,rfl⟩;have s1:=az [2,2,2,2,0,0] rfl s;have s2:=(bX (jr (a'.at' i) (g'.d i) (g'.r i) (g'.p i)) _).1 s1
   have s3:=sV (f:=λi=>kl (a.at' i) (g.d i) (g.r i) (g.p i)) (g:=λi=>kl (a'.at' i) (g'.d i) (g'.r i) (g'.p i)) hi (λj hj=>by
    obtain⟨h1,h2,h3⟩:=hg j hj
    rw[hne v a' hz j hj,h1,h2,h3]) s2
   refine bi (p:=qn c a') g' ?_;rw[←hn]at s3;exact az [1,1,0] rfl s3
theorem vU(hne: ∀j,j≠i→a'.at' j=a.at' j)(r:Nat→Nat)(hi:xh (a'.at' i) (r i)=xh (a.at' i) (r i)):jb a' r=jb a r:=funext λj=>by
 by_cases q:j=i
 · subst q;exact hi
 · show xh (a'.at' j) (r j)=xh (a.at' j) (r j)
   rw[hne j q]
theorem Du(hl:a.ms.length=5)(hi:i<5){s:MS LD}(hs:(a.at' i).run=some s){R:Value→MS LD→List (List MsgT)→Prop}
 (core: ∀g:CX,jb a g.r i= .pointer (some ⟨g.r i,0,none⟩)→DT f args T0 [ag c (ey g.n (k0 g) (jb a g.r) g.p) 104,dk (g.d i) s.e.D,dL 156 208 5 g.n (cv a.W),eP s (g.d i) (g.r i)]
  (c9 λv H=>∃s' W',R v s' W'∧H=[ag c (ey g.n (k0 g) (jb a g.r) g.p) 104,dk (g.d i) s'.e.D,dL 156 208 5 g.n (cv W'),eP s' (g.d i) (g.r i)])):
 DT f args T0 [fE c a] (c9 λv H=>∃a',(∃s' W',R v s' W'∧a'=⟨a.ms.set i {a.at' i with run:=some s'},W'⟩)∧H=[fE c a']):=by
 refine zH hi (λv a' hz j hj=>?_) λg=>?_
 · obtain⟨s',W',_,rfl⟩:=hz
   exact wJ hj
 · have em:jb a g.r i= .pointer (some ⟨g.r i,0,none⟩):=by show xh (a.at' i) _=_;unfold xh;rw[hs]
   have e1:p9 (a.at' i) (g.d i) (g.r i)=eP s (g.d i) (g.r i):=by unfold p9;rw[hs]
   have e2:(a.at' i).dk=s.e.D:=by unfold Slot.dk;rw[hs]
   refine Leg.Does.withinR (B:=[lM (g.p i) (a.at' i).past]) (core g em) (λ_ _ _ _=>trivial) (λh q=>?_) λv H hp=>?_
   · unfold jr at q
     rw[e1,e2]at q;exact az [0,1,0,1,0] rfl q
   · obtain⟨s',W',hR,rfl⟩:=hp
     have ea:(CL.mk (a.ms.set i {a.at' i with run:=some s'}) W').at' i= {a.at' i with run:=some s'}:=wI (by rw[hl];exact hi);have hm:jb ⟨a.ms.set i {a.at' i with run:=some s'},W'⟩ g.r=jb a g.r:=vU (λj hj=>wJ hj) g.r (by rw[ea];unfold xh;rw[hs]);refine⟨_,λh q=>?_,_,⟨s',W',hR,rfl⟩,g,rfl,λ_ _=>⟨rfl,rfl,rfl⟩,rfl⟩;rw[hm,ea];exact az [0,1,0,1,0] rfl q
theorem zG(core: ∀g:CX,DT f args T0 [ag c (ey g.n (k0 g) (jb a g.r) g.p) 104] (c9 λv H=>Q v∧H=[ag c (ey g.n (k0 g) (jb a g.r) g.p) 104])):
 DT f args T0 [fE c a] (c9 λv H=>Q v∧H=[fE c a]):=by
 refine Leg.Does.ex (A':=λg:CX=>[ag c (ey g.n (k0 g) (jb a g.r) g.p) 104]++[dL 156 208 5 g.n (cv a.W),bC ((List.range 5).map λi=>kl (a.at' i) (g.d i) (g.r i) (g.p i))]) (λh s=>fk s) λg=>?_
 refine Leg.Does.withinR (core g) (λ_ _ _ _=>trivial) (λh s=>s) λv H hp=>?_
 obtain⟨hQ,rfl⟩:=hp;exact⟨[fE c a],λh s=>bi (p:=qn c a) g s,hQ,rfl⟩
theorem HI{R:Value→List (List MsgT)→Prop}(core: ∀g:CX,DT f args T0 [ag c (ey g.n (k0 g) (jb a g.r) g.p) 104,dL 156 208 5 g.n (cv a.W)] (c9 λv H=>∃W',R v W'∧H=[ag c (ey g.n (k0 g) (jb a g.r) g.p) 104,dL 156 208 5 g.n (cv W')])):
 DT f args T0 [fE c a] (c9 λv H=>∃W',R v W'∧H=[fE c ⟨a.ms,W'⟩]):=by
 refine Leg.Does.ex (A':=λg:CX=>[ag c (ey g.n (k0 g) (jb a g.r) g.p) 104,dL 156 208 5 g.n (cv a.W)]++[bC ((List.range 5).map λi=>kl (a.at' i) (g.d i) (g.r i) (g.p i))]) (λh s=>fk s) λg=>?_
 refine Leg.Does.withinR (core g) (λ_ _ _ _=>trivial) (λh s=>s) λv H hp=>?_
 obtain⟨W',hR,rfl⟩:=hp;exact⟨[fE c ⟨a.ms,W'⟩],λh s=>bi (p:=qn c ⟨a.ms,W'⟩) g s,W',hR,rfl⟩
theorem I1(hl:a.ms.length=5)(hi:i<5){x:Slot}(hm: ∀r,xh x r=xh (a.at' i) r)(hr: ∀d r,p9 x d r=p9 (a.at' i) d r)(hp:x.past=(a.at' i).past)
 (core: ∀g:CX,DT f args T0 [ag c (ey g.n (k0 g) (jb a g.r) g.p) 104,dk (g.d i) (a.at' i).dk] (c9 λv H=>Q v∧H=[ag c (ey g.n (k0 g) (jb a g.r) g.p) 104,dk (g.d i) x.dk])):
 DT f args T0 [fE c a] (c9 λv H=>∃a',(Q v∧a'=a.set i x)∧H=[fE c a']):=by
 have ea:(a.set i x).at' i=x:=wI (by rw[hl];exact hi);refine zH hi (λv a' hz j hj=>by rw[hz.2];exact wJ hj) λg=>?_
 refine Leg.Does.withinR (B:=[dL 156 208 5 g.n (cv a.W),lM (g.p i) (a.at' i).past,p9 (a.at' i) (g.d i) (g.r i)]) (core g) (λ_ _ _ _=>trivial) (λh q=>az [0,1,0,0,0] rfl q) λv H hq=>?_
 obtain⟨hQ,rfl⟩:=hq;have hmm:jb (a.set i x) g.r=jb a g.r:=vU (λj hj=>wJ hj) g.r (by rw[show(CL.mk (a.ms.set i x) a.W).at' i=x from ea];exact hm _);refine⟨_,λh q=>?_,_,⟨hQ,rfl⟩,g,rfl,λ_ _=>⟨rfl,rfl,rfl⟩,rfl⟩;rw[hmm,ea];unfold jr;rw[hp,hr];exact az [0,1,0,0,0] rfl q
end
theorem li{f:FuncId}{args:Array Value}{R:Hl→Prop}{A:List HP}{p q:Value→List HP→Prop}(d:DT f args R A (c9 p))(k: ∀v H,p v H→q v H):DT f args R A (c9 q):=
 Leg.Does.fold d λe H hp=>by
  cases e with
  |returned v=>exact⟨H,λ_ s=>s,k v H hp⟩
  |panicked c=>exact hp.elim
  |outgrown=>exact hp.elim
theorem pq{H:List HP}{h:Hl}(s:bC H h):bC ((λ_=>True)::H) h:=⟨em,h,B3 h,(ql h).symm,trivial,s⟩
theorem vc{α:Type}{l:List α}{k:Nat}{d:α}(h:k<l.length):l.set k (l.getD k d)=l:=by
 refine List.ext_getElem? λj=>?_
 by_cases q:j=k
 · subst q;rw[List.getElem?_set_self h,List.getD_eq_getElem?_getD,List.getElem?_eq_getElem h];rfl
 · rw[List.getElem?_set_ne (λe=>q e.symm)]
section
variable {n c i:Nat} {a:CL} {o:OpT}
theorem AI(h:CLOk n a)(hi:i<5):a.set i (a.at' i)=a:=by
 show CL.mk (a.ms.set i (a.ms.getD i .nil)) a.W=a;rw[vc (by rw[h.ms];exact hi)]
theorem vp(h:CLOk n a)(hi:i<5){s:MS LD}(hs:(a.at' i).run=some s):(CL.mk (a.ms.set i {a.at' i with run:=some s}) a.W)=a:=by
 have e:({a.at' i with run:=some s}:Slot)=a.at' i:=by cases q:a.at' i with|mk r D p=>rw[q]at hs;simp only at hs;rw[hs]
 rw[e];exact AI h hi
theorem ol{k:Int}(hk:o.kind=k)(hi:o.at'=((i:Nat):Int)):OpT.mk k ((i:Nat):Int) o.to' o.key o.n o.change o.mask o.torn o.cut=o:=by subst hk;rw[←hi]
theorem rP{k:Int}{j:Nat}(hk:o.kind=k)(hi:o.at'=((i:Nat):Int))(hj:o.to'=((j:Nat):Int)):OpT.mk k ((i:Nat):Int) ((j:Nat):Int) o.key o.n o.change o.mask o.torn o.cut=o:=by subst hk;rw[←hi,←hj]
theorem rX{g:CX}{s:MS LD}(hs:(a.at' i).run=some s):jb a g.r i= .pointer (some ⟨g.r i,0,none⟩):=by show xh (a.at' i) _=_;unfold xh;rw[hs]
theorem mK{g:CX}(hs:(a.at' i).run=none):jb a g.r i= .pointer none:=by show xh (a.at' i) _=_;unfold xh;rw[hs]
theorem Em{a':CL}{r r':Nat→Nat}{v:Value}(hne: ∀j,j≠i→a'.at' j=a.at' j)(hr: ∀j,j≠i→r' j=r j)(hv:xh (a'.at' i) (r' i)=v):jb a' r'=kG (jb a r) i v:=funext λj=>by
 by_cases q:j=i
 · subst q;rw[iK];exact hv
 · rw[mx _ _ q]
   show xh (a'.at' j) (r' j)=xh (a.at' j) (r j);rw[hne j q,hr j q]
theorem HJ(h:CLOk n a)(hn:n≤100000)(hi:i<5)(hat:o.at'=((i:Nat):Int))(hk:0≤o.kind∧o.kind≤4)(ho:OkOp o):DT 17 #[.pointer (some ⟨c,0,none⟩), .agg (ints o.flat).toArray] T0 [fE c a] (c9 λv H=>v= .int .i64 (Gb a i o).2∧H=[fE c (Gb a i o).1]):=by
 have eo:=ol (o:=o) rfl hat;cases hr:(a.at' i).run with
 |none=>
  refine li (zG (Q:=λv=>v= .int .i64 4) λg=>?_) λv H hp=>?_
  · have:=BA c g.n i (k0 g) (jb a g.r) g.p hi (mK hr) o o.kind hk
    rw[eo]at this;exact this
  · unfold Gb;rw[hr];exact hp
 |some s=>
  obtain⟨hs,_,hso⟩:=(h.at' i hi).run s hr;have hrep:=(h.at' i hi).reps;unfold Slot.reps at hrep;rw[hr,aj]at hrep;simp only at hrep;refine li (Du h.ms hi hr (R:=λv s' W'=>(s.e.D.dn=true∧v= .int .i64 4∧s'=s∧W'=a.W)∨(s.e.D.dn=false∧v= .int .i64 (bY KD s o).2∧s'=(bY KD s o).1.hush∧W'=gK a.W i (bY KD s o).1.o)) λg em=>?_) λv H hp=>?_
  · have:=Dp c g.n i (k0 g) (jb a g.r) g.p hi (g.d i) (g.r i) s rfl em a.W h.W hso hs o o.kind hk ho.change (by omega)
    rw[eo]at this;refine li this λv H hp=>?_
    rcases hp with⟨hd,rfl,rfl⟩| ⟨hd,rfl,rfl⟩
    · exact⟨s,a.W, .inl ⟨hd,rfl,rfl,rfl⟩,rfl⟩
    · exact⟨_,_, .inr ⟨hd,rfl,rfl,rfl⟩,rfl⟩
  · obtain⟨a',⟨s',W',hR,rfl⟩,rfl⟩:=hp
    unfold Gb;rw[hr];rcases hR with⟨hd,rfl,rfl,rfl⟩| ⟨hd,rfl,rfl,rfl⟩
    · simp only[hd,if_true];exact⟨by first|rfl|trivial,by rw[vp h hi hr]⟩
    · simp only[hd];exact⟨rfl,rfl⟩
theorem GA(h:CLOk n a)(hi:i<5)(hat:o.at'=((i:Nat):Int))(hk:o.kind=8):DT 17 #[.pointer (some ⟨c,0,none⟩), .agg (ints o.flat).toArray] T0 [fE c a] (c9 λv H=>v= .int .i64 (EQ a i).2∧H=[fE c (EQ a i).1]):=by
 have eo:=ol (o:=o) hk hat;cases hr:(a.at' i).run with
 |none=>
  refine li (zG (Q:=λv=>v= .int .i64 4) λg=>?_) λv H hp=>?_
  · have:=By c g.n i (k0 g) (jb a g.r) g.p hi (mK hr) o
    rw[eo]at this;exact this
  · unfold EQ;rw[hr];exact hp
 |some s=>
  obtain⟨hs,_,hso⟩:=(h.at' i hi).run s hr;refine li (Du h.ms hi hr (R:=λv s' W'=>(s.e.D.dn=true∧v= .int .i64 4∧s'=s∧W'=a.W)∨(s.e.D.dn=false∧v= .int .i64 0∧s'=(iy KD s).hush∧W'=gK a.W i (iy KD s).o)) λg em=>?_) λv H hp=>?_
  · have:=Di c g.n i (k0 g) (jb a g.r) g.p hi (g.d i) (g.r i) s rfl em a.W h.W hso hs o
    rw[eo]at this;refine li this λv H hp=>?_
    rcases hp with⟨hd,rfl,rfl⟩| ⟨hd,rfl,rfl⟩
    · exact⟨s,a.W, .inl ⟨hd,rfl,rfl,rfl⟩,rfl⟩
    · exact⟨_,_, .inr ⟨hd,rfl,rfl,rfl⟩,rfl⟩
  · obtain⟨a',⟨s',W',hR,rfl⟩,rfl⟩:=hp
    unfold EQ;rw[hr];rcases hR with⟨hd,rfl,rfl,rfl⟩| ⟨hd,rfl,rfl,rfl⟩
    · simp only[hd,if_true];exact⟨by first|rfl|trivial,by rw[vp h hi hr]⟩
    · simp only[hd];exact⟨rfl,rfl⟩
theorem HX(h:CLOk n a)(hi:i<5)(hat:o.at'=((i:Nat):Int))(hk:o.kind=9):DT 17 #[.pointer (some ⟨c,0,none⟩), .agg (ints o.flat).toArray] T0 [fE c a] (c9 λv H=>v= .int .i64 0∧H=[fE c (a.set i (xt (a.at' i) o.n))]):=by
 have eo:=ol (o:=o) hk hat
 have ed:(xt (a.at' i) o.n).dk=(a.at' i).dk.arm o.n:=by
  unfold xt Slot.dk;cases hr:(a.at' i).run with
  |none=>simp only[hr]
  |some s=>rfl
 refine li (I1 (x:=xt (a.at' i) o.n) (Q:=λv=>v= .int .i64 0) h.ms hi (λr=>?_) (λd r=>?_) ?_ λg=>?_) λv H hp=>?_
 · unfold xt xh
   cases hr:(a.at' i).run with
   |none=>simp only[hr]
   |some s=>rfl
 · unfold xt p9
   cases hr:(a.at' i).run with
   |none=>simp only[hr]
   |some s=>rfl
 · unfold xt;split<;>rfl
 · have:=Dr c g.n i (k0 g) (jb a g.r) g.p hi (g.d i) rfl (a.at' i).dk o
   rw[eo]at this;rw[ed];exact this
 · obtain⟨a',⟨rfl,rfl⟩,rfl⟩:=hp
   exact⟨rfl,rfl⟩
theorem Dw(h:CLOk n a)(hn:n≤100000)(hi:i<5)(hat:o.at'=((i:Nat):Int))(hk:o.kind=10):DT 17 #[.pointer (some ⟨c,0,none⟩), .agg (ints o.flat).toArray] T0 [fE c a] (c9 λv H=>v= .int .i64 0∧H=[fE c (a.set i (nr (a.at' i) o.mask o.torn o.cut))]):=by
 have eo:=ol (o:=o) hk hat;have so:=h.at' i hi;have hrep:=so.reps;unfold Slot.reps at hrep;rw[aj]at hrep;have ea:(a.set i (nr (a.at' i) o.mask o.torn o.cut)).at' i=nr (a.at' i) o.mask o.torn o.cut:=wI (by rw[h.ms];exact hi);have hne: ∀j,j≠i→(a.set i (nr (a.at' i) o.mask o.torn o.cut)).at' j=a.at' j:=λj hj=>wJ hj
 refine li (zH (Z:=λv a'=>v= .int .i64 0∧a'=a.set i (nr (a.at' i) o.mask o.torn o.cut)) hi (λv a' hz j hj=>by rw[hz.2];exact hne j hj) λg=>?_) λv H hp=>by obtain⟨_,⟨rfl,rfl⟩,rfl⟩:=hp;exact⟨rfl,rfl⟩
 have fin: ∀u,u.oneCell'=true→∀h,bC ([ag c (ey g.n (k0 g) (kG (jb a g.r) i (.pointer none)) (kG g.p i u)) 104,dk (g.d i) ((a.at' i).dk.crash o.mask o.torn o.cut),lM u (a.at' i).reps]++[dL 156 208 5 g.n (cv a.W)]) h→
  bC (ag c (ey g.n (k0 {g with p:=kG g.p i u}) (jb (a.set i (nr (a.at' i) o.mask o.torn o.cut)) g.r) (kG g.p i u)) 104::dL 156 208 5 g.n (cv (a.set i (nr (a.at' i) o.mask o.torn o.cut)).W)::jr ((a.set i (nr (a.at' i) o.mask o.torn o.cut)).at' i) (g.d i) (g.r i) (kG g.p i u i)) h:=λu _ hh q=>by
  rw[Em (a:=a) (i:=i) (v:= .pointer none) (r:=g.r) hne (λ_ _=>rfl) (by rw[ea];rfl),ea,iK];have q2:=pq (az [0,2,0,0] rfl q);exact az [1,1,1,1,0] rfl q2
 cases hr:(a.at' i).run with
 |none=>
  have er:(a.at' i).reps=(a.at' i).past:=by unfold Slot.reps;rw[hr,bb]
  have:=Do c g.n i (k0 g) (jb a g.r) g.p hi (g.d i) rfl (mK hr) (a.at' i).past (by omega) (a.at' i).dk so.dk.ok o;rw[eo]at this;refine Leg.Does.withinR (B:=[dL 156 208 5 g.n (cv a.W)]) this (λ_ _ _ _=>trivial) (λhh q=>?_) λv H hp=>?_
  · exact ak [0,1,1,0] rfl q
  · obtain⟨u,hu,rfl,rfl⟩:=hp
    refine⟨_,λhh q=>fin u hu hh ?_,_,⟨rfl,rfl⟩,{g with p:=kG g.p i u},rfl,λj hj=>⟨rfl,rfl,mx _ _ hj⟩,rfl⟩;rw[er];exact q
 |some s=>
  rw[hr]at hrep;simp only at hrep;have er:(a.at' i).reps=(a.at' i).past++s.replies:=by unfold Slot.reps;rw[hr]
  have e1:p9 (a.at' i) (g.d i) (g.r i)=eP s (g.d i) (g.r i):=by unfold p9;rw[hr]
  have:=Dn c g.n i (k0 g) (jb a g.r) g.p hi (g.d i) rfl (g.r i) s (rX hr) (a.at' i).past (by omega) (by omega) (a.at' i).dk so.dk.ok o;rw[eo]at this;refine Leg.Does.withinR (B:=[dL 156 208 5 g.n (cv a.W)]) this (λ_ _ _ _=>trivial) (λhh q=>?_) λv H hp=>?_
  · unfold jr at q
    rw[e1]at q;exact az [0,1,1,1,0] rfl q
  · obtain⟨u,hu,rfl,rfl⟩:=hp
    refine⟨_,λhh q=>fin u hu hh ?_,_,⟨rfl,rfl⟩,{g with p:=kG g.p i u},rfl,λj hj=>⟨rfl,rfl,mx _ _ hj⟩,rfl⟩;rw[er];exact q
end
section
variable {n c i:Nat} {a:CL} {o:OpT}
theorem AA{i:Nat}{D:DS}{s:MS LD}(h:(cW i D).1=some s):(cW i D).2=0:=by
 obtain⟨h1,h2⟩:=tt h;unfold cW;rw[if_neg (by rw[h1];decide),h2]
theorem AB(h:CLOk n a)(hi:i<5)(hat:o.at'=((i:Nat):Int))(hk:o.kind=11):DT 17 #[.pointer (some ⟨c,0,none⟩), .agg (ints o.flat).toArray] T0 [fE c a] (c9 λv H=>v= .int .i64 (jV i (a.at' i)).2∧H=[fE c (a.set i (jV i (a.at' i)).1)]):=by
 have eo:=ol (o:=o) hk hat;have so:=h.at' i hi;cases hr:(a.at' i).run with
 |some s=>
  have e:jV i (a.at' i)=(a.at' i,5):=by unfold jV;rw[hr]
  rw[e,show a.set i (a.at' i,(5:Int)).1=a from AI h hi];refine zG (Q:=λv=>v= .int .i64 5) λg=>?_
  have:=Dl c g.n i (k0 g) (jb a g.r) g.p hi (g.r i) (rX hr) o;rw[eo]at this;exact this
 |none=>
  have e:jV i (a.at' i)=({a.at' i with run:=(cW i (a.at' i).D).1,D:=(bJ (a.at' i).D).D},(cW i (a.at' i).D).2):=by unfold jV;rw[hr]
  have hD:=so.D hr;have ed:(a.at' i).dk=(a.at' i).D:=by unfold Slot.dk;rw[hr]
  have e1: ∀d r,p9 (a.at' i) d r= λ_=>True:=λd r=>by unfold p9;rw[hr]
  have hst: ∀x:Slot,(a.set i x).at' i=x:=λx=>wI (by rw[h.ms];exact hi)
  have hne: ∀x:Slot,∀j,j≠i→(a.set i x).at' j=a.at' j:=λx j hj=>wJ hj
  refine li (zH (Z:=λv a'=>v= .int .i64 (jV i (a.at' i)).2∧a'=a.set i (jV i (a.at' i)).1) hi (λv a' hz j hj=>by rw[hz.2];exact hne _ j hj) λg=>?_) λv H hp=>by obtain⟨_,⟨rfl,rfl⟩,rfl⟩:=hp;exact⟨rfl,rfl⟩
  have:=Dm c g.n i (k0 g) (jb a g.r) g.p hi (g.d i) rfl (mK hr) (a.at' i).D hD o;rw[eo]at this;refine Leg.Does.withinR (B:=[dL 156 208 5 g.n (cv a.W),lM (g.p i) (a.at' i).past]) this (λ_ _ _ _=>trivial) (λhh q=>?_) λv H hp=>?_
  · unfold jr at q
    rw[ed]at q;exact ak [0,1,0,0] rfl q
  · rcases hp with⟨hn,rfl,rfl⟩| ⟨s,r,hn,rfl,rfl⟩
    · refine⟨_,λhh q=>?_,_,⟨by rw[e],rfl⟩,g,rfl,λj hj=>⟨rfl,rfl,rfl⟩,rfl⟩
      rw[hst,e];have em:jb (a.set i {a.at' i with run:=(cW i (a.at' i).D).1,D:=(bJ (a.at' i).D).D}) g.r=jb a g.r:=vU (hne _) g.r (by rw[hst];unfold xh;rw[hr];simp only[hn]);rw[em];have q2:=pq (az [0,1,0,0] rfl q);have q3:=az [1,1,1,1,0] rfl q2;unfold jr Slot.dk p9;simp only[hn];exact q3
    · refine⟨_,λhh q=>?_,_,⟨by rw[e];simp only[AA hn],rfl⟩,{g with r:=kG g.r i r},rfl,λj hj=>⟨rfl,mx _ _ hj,rfl⟩,rfl⟩
      rw[hst,e];have em:jb (a.set i {a.at' i with run:=(cW i (a.at' i).D).1,D:=(bJ (a.at' i).D).D}) (kG g.r i r)=kG (jb a g.r) i (.pointer (some ⟨r,0,none⟩)):=Em (hne _) (λj hj=>mx _ _ hj) (by rw[hst,iK];unfold xh;simp only[hn]);rw[em];have q3:=az [0,2,1,1,0] rfl q;unfold jr Slot.dk p9;simp only[hn,iK];exact q3
theorem EK(h:CLOk n a)(hn:n≤100000)(hi:i<5)(hat:o.at'=((i:Nat):Int))(hk:o.kind=5∨o.kind=6∨o.kind=7):DT 59 #[.pointer (some ⟨c,0,none⟩), .agg (ints o.flat).toArray] T0 [fE c a] (c9 λv H=>v= .int .i64 (o9 a o).2∧H=[fE c (o9 a o).1]):=by
 cases hv:dA o.at' o.to' with
 |false=>
  have e:o9 a o=(a,5):=by unfold o9;rw[if_pos hv]
  rw[e];have eo:=ol (o:=o) rfl hat;refine li (HI (R:=λv W'=>v= .int .i64 5∧W'=a.W) λg=>?_) λv H hp=>by obtain⟨_,⟨rfl,rfl⟩,rfl⟩:=hp;exact⟨rfl,rfl⟩
  refine Leg.Does.ex (A':=λbs:List Nat=>[ag c (ey g.n (k0 g) (jb a g.r) g.p) 104,ag g.n (dr bs) 156]++[eB 208 5 bs (cv a.W)]) (λhh q=>?_) λbs=>?_
  · obtain⟨bs,q⟩:=fk (ee (List.Perm.swap _ _ _) q)
    exact⟨bs,az [2,0,0] rfl q⟩
  · rw[hat]at hv
    have:=Ah c g.n i (k0 g) (jb a g.r) g.p hi o.to' o.kind o hv bs;rw[eo]at this;refine Leg.Does.withinR this (λ_ _ _ _=>trivial) (λhh q=>q) λv H hp=>?_
    obtain⟨rfl,rfl⟩:=hp;refine⟨_,λhh q=>?_,a.W,⟨rfl,rfl⟩,rfl⟩;exact ee (List.Perm.swap _ _ _) (bi (p:=λbs:List Nat=>[ag g.n (dr bs) 156,eB 208 5 bs (cv a.W)]) bs (az [1,1,0] rfl q))
 |true=>
  obtain⟨j,hto⟩: ∃j:Nat,o.to'=((j:Nat):Int):=⟨o.to'.toNat,((nS (ru hv).2).2).symm⟩;have hj:j<5:=by have:=(nS (ru hv).2).1;rw[hto]at this;simpa using this
  have hv2:dA ((i:Nat):Int) ((j:Nat):Int)=true:=by rw[←hat,←hto];exact hv
  have eK:bA o.at' o.to'=bA ((i:Nat):Int) ((j:Nat):Int):=by rw[hat,hto]
  have hij:((i:Nat):Int)≠((j:Nat):Int):=λe=>by
   unfold dA at hv2;rw[decide_eq_true e]at hv2;simp at hv2
  obtain⟨h8,hlen⟩:=h.way (bA ((i:Nat):Int) ((j:Nat):Int));have hkl:bA ((i:Nat):Int) ((j:Nat):Int)<a.W.length:=by rw[h.W];exact(hY hv2).1
  -- the net alone
  have net: ∀{R:Value→List (List MsgT)→Prop},(∀(g:CX) (bs:List Nat),Leg.Does Tryz.prog 59 #[.pointer (some ⟨c,0,none⟩), .agg (ints o.flat).toArray] (λ_=>True) [ag g.n (dr bs) 156,eB 208 5 bs (cv a.W),ag c (ey g.n (k0 g) (jb a g.r) g.p) 104] (c9 λv H=>∃W',R v W'∧H=[ag c (ey g.n (k0 g) (jb a g.r) g.p) 104,dL 156 208 5 g.n (cv W')]))→
   Leg.Does Tryz.prog 59 #[.pointer (some ⟨c,0,none⟩), .agg (ints o.flat).toArray] (λ_=>True) [fE c a] (c9 λv H=>∃W',R v W'∧H=[fE c ⟨a.ms,W'⟩]):=λcore=>HI λg=>Leg.Does.ex (A':=λbs:List Nat=>[ag g.n (dr bs) 156,eB 208 5 bs (cv a.W),ag c (ey g.n (k0 g) (jb a g.r) g.p) 104]) (λhh q=>fk (ee (List.Perm.swap _ _ _) q)) (core g)
  cases hl:a.W.getD (bA ((i:Nat):Int) ((j:Nat):Int)) []with
  |nil=>
   have e:o9 a o=(a,10):=by unfold o9;rw[if_neg (by rw[hv];decide),eK,hl]
   rw[e];refine li (net (R:=λv W'=>v= .int .i64 10∧W'=a.W) λg bs=>?_) λv H hp=>by obtain⟨_,⟨rfl,rfl⟩,rfl⟩:=hp;exact⟨rfl,rfl⟩
   have:=yH c g.n i (k0 g) (jb a g.r) g.p hi j hj hv2 a.W h.W _ rfl h8 hlen o o.kind hl bs;rw[rP rfl hat hto,vc hkl]at this;exact li this λv H hp=>⟨a.W,⟨hp.1,rfl⟩,hp.2⟩
  |cons m0 l0=>
   by_cases h7:o.kind=7
   · have e:o9 a o=(a.way (bA ((i:Nat):Int) ((j:Nat):Int)) (Cg (m0::l0)),if Gy (m0::l0)then 0 else 3):=by
      unfold o9;rw[if_neg (by rw[hv];decide),eK,hl];simp only[if_pos h7];split
      · rfl
      · rename_i q
        have q2:Cg (m0::l0)=m0::l0:=by unfold Cg;unfold Gy at q;rw[if_neg (by simpa using q)]
        rw[q2];show(a,(3:Int))=(CL.mk a.ms (a.W.set _ (m0::l0)),3);rw[←hl,vc hkl]
     rw[e];refine li (net (R:=λv W'=>v= .int .i64 (if Gy (m0::l0)then 0 else 3)∧W'=a.W.set (bA ((i:Nat):Int) ((j:Nat):Int)) (Cg (m0::l0))) λg bs=>?_) λv H hp=>by obtain⟨_,⟨rfl,rfl⟩,rfl⟩:=hp;exact⟨rfl,rfl⟩
     have:=wZ c g.n i (k0 g) (jb a g.r) g.p hi j hj hv2 a.W h.W (m0::l0) hl (by rw[←hl];exact h8) (by rw[←hl];exact hlen) o (by simp) bs;rw[rP h7 hat hto]at this;exact li this λv H hp=>⟨_,⟨hp.1,rfl⟩,hp.2⟩
   · cases ht:kP (max o.n 0% ((m0::l0).length:Int)).toNat (m0::l0)with
     |nil=>have:=jU (max o.n 0% ((m0::l0).length:Int)).toNat (m0::l0);rw[ht]at this;simp at this
     |cons m l2=>
      by_cases h6:o.kind=6
      · have e:o9 a o=(a.way (bA ((i:Nat):Int) ((j:Nat):Int)) l2,0):=by
         unfold o9;rw[if_neg (by rw[hv];decide),eK,hl];simp only[if_neg h7];rw[ht];simp only[if_pos h6]
        rw[e];refine li (net (R:=λv W'=>v= .int .i64 0∧W'=a.W.set (bA ((i:Nat):Int) ((j:Nat):Int)) l2) λg bs=>?_) λv H hp=>by obtain⟨_,⟨rfl,rfl⟩,rfl⟩:=hp;exact⟨rfl,rfl⟩
        have:=rj c g.n i (k0 g) (jb a g.r) g.p hi j hj hv2 a.W h.W (m0::l0) hl (by rw[←hl];exact h8) (by rw[←hl];exact hlen) o m l2 ht bs 6 (.inr rfl) (.inl rfl);rw[rP h6 hat hto]at this;exact li this λv H hp=>⟨_,⟨hp.1,rfl⟩,hp.2⟩
      · have h5:o.kind=5:=by omega
        have e:o9 a o=wA (a.way (bA ((i:Nat):Int) ((j:Nat):Int)) l2) i j m:=by
         unfold o9;rw[if_neg (by rw[hv];decide),eK,hl];simp only[if_neg h7];rw[ht];simp only[if_neg h6];rw[hat,hto];rfl
        rw[e];have ew:(a.way (bA ((i:Nat):Int) ((j:Nat):Int)) l2).at' j=a.at' j:=rfl;cases hr:(a.at' j).run with
        |none=>
         have e2:wA (a.way (bA ((i:Nat):Int) ((j:Nat):Int)) l2) i j m=(a.way (bA ((i:Nat):Int) ((j:Nat):Int)) l2,0):=by unfold wA;rw[ew,hr]
         rw[e2];refine li (net (R:=λv W'=>v= .int .i64 0∧W'=a.W.set (bA ((i:Nat):Int) ((j:Nat):Int)) l2) λg bs=>?_) λv H hp=>by obtain⟨_,⟨rfl,rfl⟩,rfl⟩:=hp;exact⟨rfl,rfl⟩
         have:=rj c g.n i (k0 g) (jb a g.r) g.p hi j hj hv2 a.W h.W (m0::l0) hl (by rw[←hl];exact h8) (by rw[←hl];exact hlen) o m l2 ht bs 5 (.inl rfl) (.inr (mK hr));rw[rP h5 hat hto]at this;exact li this λv H hp=>⟨_,⟨hp.1,rfl⟩,hp.2⟩
        |some s=>
         obtain⟨hs,hid,hso⟩:=(h.at' j hj).run s hr;have hrep:=(h.at' j hj).reps;unfold Slot.reps at hrep;rw[hr,aj]at hrep;simp only at hrep;have W2:(a.W.set (bA ((i:Nat):Int) ((j:Nat):Int)) l2).length=25:=by rw[ct];exact h.W
         refine li (Du h.ms hj hr (R:=λv s' W'=>(s.e.D.dn=true∧v= .int .i64 0∧s'=s∧W'=a.W.set (bA ((i:Nat):Int) ((j:Nat):Int)) l2)∨(s.e.D.dn=false∧(jy (dU m)).2≠0∧v= .int .i64 (jy (dU m)).2∧s'=s∧W'=a.W.set (bA ((i:Nat):Int) ((j:Nat):Int)) l2)∨(s.e.D.dn=false∧(jy (dU m)).2=0∧v= .int .i64 0∧s'=(gf KD s ((i:Nat):Int) (jy (dU m)).1).hush∧W'=gK (a.W.set (bA ((i:Nat):Int) ((j:Nat):Int)) l2) j (gf KD s ((i:Nat):Int) (jy (dU m)).1).o)) λg em=>?_) λv H hp=>?_
         · refine Leg.Does.ex (A':=λbs:List Nat=>[ag g.n (dr bs) 156,eB 208 5 bs (cv a.W),ag c (ey g.n (k0 g) (jb a g.r) g.p) 104,dk (g.d j) s.e.D,eP s (g.d j) (g.r j)]) (λhh q=>fk (az [2,0,0,0] rfl q)) λbs=>?_
           have:=yI c g.n i (k0 g) (jb a g.r) g.p hi j hj hv2 a.W h.W (m0::l0) hl (by rw[←hl];exact h8) (by rw[←hl];exact hlen) o m l2 ht bs (g.d j) (g.r j) s rfl em hso hs (by rw[hid];exact hij) (by omega);rw[rP h5 hat hto]at this;refine li this λv H hp=>?_
           rcases hp with⟨hd,rfl,rfl⟩| ⟨hd,h1,rfl,rfl⟩| ⟨hd,h1,rfl,rfl⟩
           · exact⟨_,_, .inl ⟨hd,rfl,rfl,rfl⟩,rfl⟩
           · exact⟨_,_, .inr (.inl ⟨hd,h1,rfl,rfl,rfl⟩),rfl⟩
           · exact⟨_,_, .inr (.inr ⟨hd,h1,rfl,rfl,rfl⟩),rfl⟩
         · obtain⟨a',⟨s',W',hR,rfl⟩,rfl⟩:=hp
           have er: ∀W',CL.mk (a.ms.set j {a.at' j with run:=some s}) W'=CL.mk a.ms W':=λW'=>by
            have:=congrArg CL.ms (vp h hj hr);rw[show a.ms.set j {a.at' j with run:=some s}=a.ms from this]
           unfold wA;rw[ew,hr];rcases hR with⟨hd,rfl,rfl,rfl⟩| ⟨hd,h1,rfl,rfl,rfl⟩| ⟨hd,h1,rfl,rfl,rfl⟩
           · simp only[hd,if_true];exact⟨by first|rfl|trivial,by rw[er];rfl⟩
           · simp only[hd,if_neg h1];exact⟨by first|rfl|trivial,by rw[er];rfl⟩
           · simp only[hd,if_pos h1];exact⟨by first|rfl|trivial,rfl⟩
end
theorem Dq(c:Nat)(X:HP)(o:OpT)(hm:iA o.at'=false):
 DT 17 #[(.pointer (some ⟨c,0,none⟩)),(.agg (ints o.flat).toArray)] T0 [X] (RI (.int .i64 5) [X]):=by
 refine BD 114 Tryz.func17 rfl rfl rfl λw0 F hF=>sr λ_ J1=>XY (ints o.flat) λb3=>?_
 refine PS ?_;refine nx J1 (ab λ_ J2=>sr λ_ J3=>PS ?_);refine FA 1 fz aP ?_;refine LU 0 Y3 (bI o rfl) ?_;refine CE pC (vF c o.at') ID ?_;rw[hm];refine PS ?_;refine nx J3 (CY (sr λ_ J4=>PS ?_));exact nx J4 (ai (ae (WK [1] (au rfl rfl ⟨rfl,rfl⟩))))
theorem Dh(c i:Nat)(hi:i<5)(X:HP)(o:OpT)(k:Int)(hk:k=5∨k=6∨k=7)(p:Int→HP→Prop)(hw:DT 59 #[(.pointer (some ⟨c,0,none⟩)),(.agg (ints (OpT.mk k ((i:Nat):Int) o.to' o.key o.n o.change o.mask o.torn o.cut).flat).toArray)] T0 [X] (c9 (λv H=>∃e X',v= .int .i64 e∧H=[X']∧p e X'))):
 DT 17 #[(.pointer (some ⟨c,0,none⟩)),(.agg (ints (OpT.mk k ((i:Nat):Int) o.to' o.key o.n o.change o.mask o.torn o.cut).flat).toArray)] T0 [X] (c9 (λv H=>∃e X',v= .int .i64 e∧H=[X']∧p e X')):=by
 refine BD 114 Tryz.func17 rfl rfl rfl λw0 F hF=>sr λ_ J1=>XY (ints (OpT.mk k ((i:Nat):Int) o.to' o.key o.n o.change o.mask o.torn o.cut).flat) λb3=>?_
 refine PS ?_;refine nx J1 (ab λ_ J2=>sr λ_ J3=>PS ?_);refine FA 1 fz aP ?_;refine LT 0 Y3 (.int .i64 (((i:Nat):Int))) ?_ (hc:=by exact bI _ rfl);refine CE pC (dH c i hi) ID ?_;refine PS ?_;refine nx J3 (CN (qx J2 (ab λ_ J4=>sr λ_ J5=>FA 0 fz aP ?_)));refine LT 0 Y3 (.int .i64 (k)) ?_ (hc:=by exact cS _ rfl);refine nx J5 (aq (ab λ_ J6=>sr λ_ J7=>P2 ?_));refine an ?_ ?_<;>intro h12
 · exact absurd h12 (by omega)
 refine nx J7 (CN (sr λ_ J8=>P2 ?_));refine an ?_ ?_<;>intro h12
 · exact absurd h12 (by omega)
 refine nx J8 (CN (sr λ_ J9=>P2 ?_));refine an ?_ ?_<;>intro h12
 · exact absurd h12 (by omega)
 refine nx J9 (CN (sr λ_ J10=>P2 ?_));refine an ?_ ?_<;>intro h12
 · exact absurd h12 (by omega)
 refine nx J10 (CN (ad (PS ?_)));refine an ?_ ?_<;>intro h17
 · exact absurd h17 (by omega)
 refine PS ?_;refine nx J6 (CN (ab λ_ J11=>eV (α:=Unit) (λ_u=>True) (λ_u=>[(0,(.pointer (some ⟨c,0,none⟩))),(3,(.pointer (some ⟨b3,0,none⟩))),(4,(.int .i64 0)),(11,(.int .i64 (k))),(37,(.bool true))]) (λ_u=>[ag b3 (ints (OpT.mk k ((i:Nat):Int) o.to' o.key o.n o.change o.mask o.torn o.cut).flat) 30,X]) (λ_u hinv=>?_) (λtl11=>?_)));have _:=hinv;refine ac J11 (CY (sr λ_ J12=>PS ?_));refine LW 0 fz Ap H6 ?_;refine CR Ny (hw) (SM [1]) λvR HR hR=>?_
 obtain⟨e,X',rfl,rfl,hp⟩:=hR;refine PS ?_;exact nx J12 (ai (aH (ae (WK [0] (au rfl rfl ⟨e,X',rfl,rfl,hp⟩)))));refine sr λ_ J13=>P2 ?_
 refine an ?_ ?_<;>intro h37;refine nx J13 (CY (aQ ?_))
 exact aF
  SB
  (λ_ s=>ak [0,0] rfl s)
  (tl11 (():Unit) trivial)
 refine nx J13 (CN (sr λ_ J14=>P2 ?_));refine an ?_ ?_<;>intro h37;refine nx J14 (CY (aQ ?_))
 exact aF
  SB
  (λ_ s=>ak [0,0] rfl s)
  (tl11 (():Unit) trivial)
 refine nx J14 (CN (ad (PS ?_)));refine an ?_ ?_<;>intro h40;refine PS ?_;refine ap ?_
 exact aF
  SB
  (λ_ s=>ak [0,0] rfl s)
  (tl11 (():Unit) trivial)
 · exact absurd h40 (by omega)
theorem Bz(c i:Nat)(hi:i<5)(X:HP)(o:OpT)(k:Int)(hk:k<0∨11<k):
 DT 17 #[(.pointer (some ⟨c,0,none⟩)),(.agg (ints (OpT.mk k ((i:Nat):Int) o.to' o.key o.n o.change o.mask o.torn o.cut).flat).toArray)] T0 [X] (RI (.int .i64 5) [X]):=by
 refine BD 114 Tryz.func17 rfl rfl rfl λw0 F hF=>sr λ_ J1=>XY (ints (OpT.mk k ((i:Nat):Int) o.to' o.key o.n o.change o.mask o.torn o.cut).flat) λb3=>?_
 refine PS ?_;refine nx J1 (ab λ_ J2=>sr λ_ J3=>PS ?_);refine FA 1 fz aP ?_;refine LT 0 Y3 (.int .i64 (((i:Nat):Int))) ?_ (hc:=by exact bI _ rfl);refine CE pC (dH c i hi) ID ?_;refine PS ?_;refine nx J3 (CN (qx J2 (ab λ_ J4=>sr λ_ J5=>FA 0 fz aP ?_)));refine LT 0 Y3 (.int .i64 (k)) ?_ (hc:=by exact cS _ rfl);refine nx J5 (aq (ab λ_ J6=>sr λ_ J7=>P2 ?_));refine an ?_ ?_<;>intro h12
 · exact absurd h12 (by omega)
 refine nx J7 (CN (sr λ_ J8=>P2 ?_));refine an ?_ ?_<;>intro h12
 · exact absurd h12 (by omega)
 refine nx J8 (CN (sr λ_ J9=>P2 ?_));refine an ?_ ?_<;>intro h12
 · exact absurd h12 (by omega)
 refine nx J9 (CN (sr λ_ J10=>P2 ?_));refine an ?_ ?_<;>intro h12
 · exact absurd h12 (by omega)
 refine nx J10 (CN (ad (PS ?_)));refine an ?_ ?_<;>intro h17
 · exact absurd h17 (by omega)
 refine PS ?_;refine nx J6 (CN (ab λ_ J11=>sr λ_ J12=>P2 ?_));refine an ?_ ?_<;>intro h37
 · exact absurd h37 (by omega)
 refine nx J12 (CN (sr λ_ J13=>P2 ?_));refine an ?_ ?_<;>intro h37
 · exact absurd h37 (by omega)
 refine nx J13 (CN (ad (PS ?_)));refine an ?_ ?_<;>intro h40
 · exact absurd h40 (by omega)
 refine PS ?_;refine nx J11 (CN (sr λ_ J14=>PS ?_));refine an ?_ ?_<;>intro h45
 · exact absurd h45 (by omega)
 refine PS ?_;refine nx J14 (CN (sr λ_ J15=>PS ?_));refine an ?_ ?_<;>intro h65
 · exact absurd h65 (by omega)
 refine PS ?_;refine nx J15 (CN (sr λ_ J16=>PS ?_));refine an ?_ ?_<;>intro h77
 · exact absurd h77 (by omega)
 refine PS ?_;refine nx J16 (CN (sr λ_ J17=>PS ?_));refine an ?_ ?_<;>intro h109
 · exact absurd h109 (by omega)
 refine PS ?_;refine nx J17 (CN (sr λ_ J18=>PS ?_));exact nx J18 (ai (aH (ae (WK [1] (au rfl rfl ⟨rfl,rfl⟩)))))
section
variable {n c:Nat} {a:CL} {o:OpT}
theorem sj(h:CLOk n a)(hn:n≤100000)(ho:OkOp o):DT 17 #[.pointer (some ⟨c,0,none⟩), .agg (ints o.flat).toArray] T0 [fE c a] (c9 λv H=>v= .int .i64 (B5 a o).2∧H=[fE c (B5 a o).1]):=by
 unfold B5
 by_cases hm:iA o.at'=false
 · rw[if_pos hm]
   exact Dq c (fE c a) o hm
 · rw[if_neg hm]
   have hm:iA o.at'=true:=by simpa using hm
   obtain⟨hi,hat⟩:=nS hm
   by_cases h1:0≤o.kind∧o.kind≤4
   · rw[if_pos h1];exact HJ h hn hi hat.symm h1 ho
   rw[if_neg h1]
   by_cases h2:o.kind=5∨o.kind=6∨o.kind=7
   · rw[if_pos h2]
     have:=Dh c _ hi (fE c a) o o.kind h2 (λe X=>e=(o9 a o).2∧X=fE c (o9 a o).1) (by
      rw[ol rfl hat.symm]
      exact li (EK h hn hi hat.symm h2) λv H hp=>⟨_,_,hp.1,hp.2,rfl,rfl⟩)
     rw[ol rfl hat.symm]at this
     exact li this λv H hp=>by
      obtain⟨e,X,rfl,rfl,rfl,rfl⟩:=hp;exact⟨rfl,rfl⟩
   rw[if_neg h2]
   by_cases h3:o.kind=8
   · rw[if_pos h3];exact GA h hi hat.symm h3
   rw[if_neg h3]
   by_cases h4:o.kind=9
   · rw[if_pos h4];exact HX h hi hat.symm h4
   rw[if_neg h4]
   by_cases h5:o.kind=10
   · rw[if_pos h5];exact Dw h hn hi hat.symm h5
   rw[if_neg h5]
   by_cases h6:o.kind=11
   · rw[if_pos h6];exact AB h hi hat.symm h6
   rw[if_neg h6];have:=Bz c _ hi (fE c a) o o.kind (by omega);rw[ol rfl hat.symm]at this;exact this
end
theorem va(i:Nat):(cW i .new).1≠none:=by
 obtain⟨D',e,_⟩:=LogD.new.open rfl rfl;unfold cW;rw[e];simp[lj]
theorem tH{i:Nat}{s:MS LD}(h:(cW i .new).1=some s):rR i=⟨some s,(bJ .new).D,[]⟩:=by
 show(jV i .nil).1=_;unfold jV;show Slot.mk (cW i DS.new).1 _ _=_;rw[h];rfl
def dJ(i:Nat)(d:Nat→Nat):Nat→Value:=λj=>if j<i then .pointer (some ⟨d j,0,none⟩)else .pointer none
def G1:Nat→Value:=λ_=> .slice none 0 0
theorem HH(i:Nat)(d:Nat→Nat)(x:Nat):kG (dJ i d) i (.pointer (some ⟨x,0,none⟩))=dJ (i+1) (kG d i x):=funext λj=>by
 unfold dJ kG
 by_cases hj:j=i
 · subst hj;simp
 · rw[if_neg hj,if_neg hj]
   show(if j<i then _ else _)=_
   by_cases h:j<i
   · rw[if_pos h,if_pos (by omega)]
   · rw[if_neg h,if_neg (by omega)]
theorem Gc{n:Nat}{D M P D' M' P':Nat→Value}(h1: ∀i,i<5→D i=D' i)(h2: ∀i,i<5→M i=M' i)(h3: ∀i,i<5→P i=P' i):ey n D M P=ey n D' M' P':=by
 unfold ey;rw[dM (λi hi=>h1 i (eS.1 hi)),dM (λi hi=>h2 i (eS.1 hi)),dM (λi hi=>h3 i (eS.1 hi))]
theorem vC{f g:Nat→HP}{i:Nat}(hg: ∀j,j<i→g j=f j){H:List HP}{h:Hl}(s:bC (g i::bC ((List.range i).map f)::H) h):bC (bC ((List.range (i+1)).map g)::H) h:=by
 have e:(List.range (i+1)).map g=(List.range i).map f++[g i]:=by
  rw[cO,cQ,dM (λj hj=>hg j (eS.1 hj))];rfl
 rw[e];obtain⟨h1,h2,d,rfl,a,b⟩:=s;have s2:bC ((g i::(List.range i).map f)++H) (jn h1 h2):=⟨h1,h2,d,rfl,a,(bX _ _).2 b⟩;exact(bX _ _).1 (ee ((List.perm_append_comm (l₁:=[g i])).append_right H) s2)
abbrev vM(d r:Nat→Nat)(j:Nat):HP:=kl (rR j) (d j) (r j) (.slice none 0 0)
theorem Hq{d r:Nat→Nat}{i x y:Nat}{s:MS LD}(hs:(cW i .new).1=some s){X Y:HP}{h:Hl}(q:bC [eP s x y,dk x s.e.D,X,Y,bC ((List.range i).map (vM d r))] h):bC [X,Y,bC ((List.range (i+1)).map (vM (kG d i x) (kG r i y)))] h:=by
 have q2:=gy 37 3 q
 have e:vM (kG d i x) (kG r i y) i=bC [dk x s.e.D,lM (.slice none 0 0) [],eP s x y]:=by
  unfold vM kl jr Slot.dk p9;rw[iK,iK,tH hs]
 have q4:=(bX [dk x s.e.D,lM (.slice none 0 0) [],eP s x y] [bC ((List.range i).map (vM d r)),X,Y]).1 (az [2,0,0,2,0,0] rfl q2);have q5:=vC (i:=i) (f:=vM d r) (g:=vM (kG d i x) (kG r i y)) (H:=[X,Y]) (λj hj=>by unfold vM;rw[mx d x (show j≠i by omega),mx r y (show j≠i by omega)]) (by rw[e];exact q4);exact az [1,1,0] rfl q5
theorem Ho(i:Nat)(hi:i<5):CL.new.at' i=rR i:=by simp[CL.new,CL.at',List.getD_eq_getElem?_getD,hi]
theorem Hp{c n:Nat}{d r:Nat→Nat}{h:Hl}(s:bC [ag c (ey n (dJ 5 d) (dJ 5 r) G1) 104,dL 156 208 5 n (List.replicate 25 []),bC ((List.range 5).map (vM d r))] h):bC [fE c .new] h:=by
 have e1:ey n (k0 ⟨n,d,r,G1⟩) (jb .new r) G1=ey n (dJ 5 d) (dJ 5 r) G1:=Gc (λi hi=>by unfold dJ;rw[if_pos hi]) (λi hi=>by
  unfold dJ;rw[if_pos hi];show xh (CL.new.at' i) (r i)=_;rw[Ho i hi];cases hs:(cW i .new).1 with
  |none=>exact absurd hs (va i)
  |some s=>rw[tH hs];rfl) (λ_ _=>rfl)
 have e2:(List.range 5).map (λi=>kl (CL.new.at' i) (d i) (r i) (G1 i))=(List.range 5).map (vM d r):=dM λi hi=>by
  rw[Ho i (eS.1 hi)];rfl
 have e3:cv CL.new.W=List.replicate 25 []:=rfl;refine bi (p:=qn c .new) (H:=[]) ⟨n,d,r,G1⟩ ?_;unfold qn;rw[e1,e2,e3];exact s
theorem yd:
 DT 14 #[] T0 [] (c9 (λv H=>∃c,v= .pointer (some ⟨c,0,none⟩)∧H=[fE c .new])):=by
 refine BD 33 Tryz.func14 rfl rfl rfl λw0 F hF=>sr λ_ J1=>PS ?_
 refine nx J1 (sr λ_ J2=>CR NA (A7) ID λvR HR hR=>?_);obtain⟨n,rfl,rfl⟩:=hR;refine BV #[(.pointer (some ⟨n,0,none⟩)),(.pointer none),(.pointer none),(.pointer none),(.pointer none),(.pointer none),(.pointer none),(.pointer none),(.pointer none),(.pointer none),(.pointer none),(.slice none 0 0),(.slice none 0 0),(.slice none 0 0),(.slice none 0 0),(.slice none 0 0)] ?_;refine XB λb5=>?_
 refine PS ?_;refine nx J2 (ab λ_ J3=>sr λ_ J4=>PS ?_);refine nx J4 (aq ?_)
 refine bn (α:=(Nat)×(Nat→Nat)×(Nat→Nat)) (λ⟨i,d,r⟩=>i≤5) (λ⟨i,d,r⟩=>[(0,(.pointer none)),(1,(.pointer (some ⟨b5,0,none⟩))),(6,(.int .i64 (((i:Nat):Int))))]) (λ⟨i,d,r⟩=>[ag b5 (ey n (dJ i d) (dJ i r) G1) 104,dL 156 208 5 n (List.replicate 25 []),bC ((List.range i).map (vM d r))]) (λ⟨i,d,r⟩=>5-i) (0,λ_=>0,λ_=>0)
  (aN _) SB
  (λ_ s=>az [1,1,0] rfl (pq s)) (λ⟨i,d,r⟩ hinv=>?_)
 obtain hi:=hinv;refine sr λ_ J5=>PS ?_
 refine an ?_ ?_<;>intro h7;have hlt:i<5:=by omega
 refine nx J5 (ab λ_ J6=>CY (qx J6 (ab λ_ J7=>aq (sr λ_ J8=>P2 ?_))));refine nx J8 (ab λ_ J9=>D0 df ?_);refine PD 0 ?_;refine PD 1 ?_;refine PD 3 ?_;refine FD 4 1 ie rB ?_;refine AL 2 ?_;refine CR Kt (Ds) ID λvR HR hR=>?_
 obtain⟨dn,rfl,rfl⟩:=hR;refine EN (IY 5 (1+i) zU oF ?_);refine AL 6 ?_;refine bv (i:=1) (aa rfl) rfl rfl rfl rfl rfl oF rfl rfl (by rw[qU];omega) (I6 n (dJ i d) (dJ i r) G1 (.pointer (some ⟨dn,0,none⟩)) hlt) rfl (EN (DN (ac J9 (D0 df ?_))));refine PD 0 ?_;refine PD 1 ?_;refine PD 2 ?_;refine PD 3 ?_;refine PD 4 ?_;refine PD 5 ?_;refine FD 6 1 ie rB ?_;refine IY 7 (1+i) zU oF ?_;refine PD 13 ?_;refine FD 14 6 ie nE ?_;refine AL 8 ?_;refine LT 1 sx (.pointer (some ⟨dn,0,none⟩)) ?_ (hc:=by exact(BI n (kG (dJ i d) i (.pointer (some ⟨dn,0,none⟩))) (dJ i r) G1 hlt).trans (congrArg some (iK (dJ i d) i _)));refine EN (AL 9 ?_);refine CR Ks (po i dn .new DkOk.new) ID λvR HR hR=>?_
 rcases hR with⟨hn,_⟩| ⟨s,rn,hs,rfl,rfl⟩
 · exact absurd hn (va i)
 refine EN (PD 10 ?_);refine PD 11 ?_;refine PD 12 ?_;refine IY 15 (6+i) qa gV ?_;refine AL 16 ?_;refine bv (i:=2) (aa rfl) rfl rfl rfl rfl rfl gV rfl rfl (by rw[qU];omega) (uD n (kG (dJ i d) i (.pointer (some ⟨dn,0,none⟩))) (dJ i r) G1 (.pointer (some ⟨rn,0,none⟩)) hlt) rfl (EN (DN (af (ac J7 (ad (AD ?_))))));refine PS ?_;refine ap ?_
 exact aI ((i+1,kG d i dn,kG r i rn):(Nat)×(Nat→Nat)×(Nat→Nat)) (by omega) (by show 5- (i+1)<5-i;omega)
  SB
  (λ_ q=>by
   show bC [ag b5 (ey n (dJ (i+1) (kG d i dn)) (dJ (i+1) (kG r i rn)) G1) 104,_,_] _;rw[←HH,←HH]
   exact Hq hs (az [0,0,0,0,0] rfl q))
 refine nx J5 (ab λ_ J10=>CN (aS (ay (ay (bj (ac J3 (sr λ_ J11=>P2 ?_)))))));exact nx J11 (ai (aF (H':=[fE b5 .new]) (dh _) (λ_ s=>by have h5:i=5:=(by omega);subst h5;exact Hp s) (au rfl rfl ⟨b5,rfl,rfl⟩)))
end Go.Proofs.YtjblgopghhgflaaGreat
end

section
namespace Api
open Go Leg Codec Dsk Wal
def kj(D:DS):Nat→DS
 |0=> .new
 |k+1=>if it D.s ((k:Nat):Int)=zs then kj D k else((kj D k).write ((k:Nat):Int) (it D.s ((k:Nat):Int))).2
def m5(D:DS):DS:=(kj D 2048).sync.2
def KJ(a:CL)(i:Nat):Option (MS LD):=if(a.at' i).up then none else(cW i (m5 (a.at' i).dk)).1
def iP(a:CL)(i:Nat):Option (MS LD):=if(a.at' i).up then(a.at' i).run else(cW i (m5 (a.at' i).dk)).1
def Kx(s:MS LD)(b:BookT)(i:Nat):BookT:=(fu b ((i:Nat):Int) (c7 s.mirror ((i:Nat):Int))).1
def rW(s:MS LD)(b:BookT):Nat→BookT
 |0=>b
 |i+1=>Kx s (rW s b i) i
def ix(a:CL):Nat→BookT
 |0=> .zero
 |j+1=>match iP a j with
  |some s=>rW s (ix a j) 5
  |none=>ix a j
def bp(a:CL):BookT:=ix a 5
theorem yP{a:CL}{j:Nat}{s:MS LD}(h:iP a j=some s):ix a (j+1)=rW s (ix a j) 5:=by rw[ix,h]
theorem yQ{a:CL}{j:Nat}(h:iP a j=none):ix a (j+1)=ix a j:=by rw[ix,h]
def fJ(a:CL):Nat→ViewT×Bool
 |0=>(firstV,false)
 |j+1=>match iP a j with
  |some s=>if(fJ a j).2=false∨s.view.epoch>(fJ a j).1.epoch then(s.view,true)else fJ a j
  |none=>fJ a j
def eT(a:CL):ViewT:=(fJ a 5).1
theorem pG{a:CL}{j:Nat}(h:iP a j=none):fJ a (j+1)=fJ a j:=by rw[fJ,h]
theorem j8{a:CL}{j:Nat}{s:MS LD}(h:iP a j=some s):fJ a (j+1)=if(fJ a j).2=false∨s.view.epoch>(fJ a j).1.epoch then(s.view,true)else fJ a j:=by rw[fJ,h]
theorem tN{a:CL}{j:Nat}{s:MS LD}(h:iP a j=some s)(hk:(fJ a j).2=true)(he: ¬s.view.epoch>(fJ a j).1.epoch):fJ a (j+1)=fJ a j:=by
 rw[j8 h,if_neg (λq=>q.elim (λz=>by rw[hk]at z;cases z) he)]
def sY(v:ViewT)(i:Nat):Int:=(jv v ((i:Nat):Int)).getD ((i:Nat):Int)
def ib(B:BookT)(key:Int)(i:Nat):CellT:=cT B ((i:Nat):Int) key
def GF(B:BookT)(key:Int)(i ow:Nat)(S:List Int):List Int:=S.set ow (fM (S.getD ow 0+fM ((ib B key i).inn- (ib B key i).out)))
def Kb(B:BookT)(key:Int)(i ow j:Nat)(S:List Int):List Int:=S.set ow (fM (S.getD ow 0+fM ((ib B key j).given.toList.getD i 0- (ib B key i).given.toList.getD j 0)))
def Jl(B:BookT)(key:Int)(i ow:Nat)(S:List Int):Nat→List Int
 |0=>S
 |j+1=>Kb B key i ow j (Jl B key i ow S j)
def qg(B:BookT)(key:Int)(v:ViewT):Nat→List Int
 |0=>List.replicate 5 0
 |i+1=>if 0≤sY v i∧sY v i<5 then Jl B key i (sY v i).toNat (GF B key i (sY v i).toNat (qg B key v i)) 5 else qg B key v i
theorem p1(B:BookT)(key:Int)(i ow:Nat)(S:List Int): ∀j,(Jl B key i ow S j).length=S.length
 |0=>rfl
 |j+1=>by rw[Jl,Kb,ct];exact p1 B key i ow S j
theorem je(B:BookT)(key:Int)(v:ViewT): ∀i,(qg B key v i).length=5
 |0=>by simp[qg]
 |i+1=>by
  rw[qg];split
  · rw[p1,GF,ct];exact je B key v i
  · exact je B key v i
def jX(B:BookT)(key:Int)(k:Nat):Vector CellT 5:=Vector.ofFn λj:Fin 5=>if j.val<k then ib B key j.val else .zero
theorem HN{B:BookT}{key:Int}{j:Nat}(hj:j<5):(jX B key 5)[j]=ib B key j:=by simp[jX,hj]
theorem HM{B:BookT}{key:Int}{i:Nat}(hi:i<5):(jX B key i).set i (ib B key i) hi=jX B key (i+1):=by
 ext j hj
 rw[Vector.getElem_set];simp only[jX,Vector.getElem_ofFn];split
 · rename_i h;subst h;rw[if_pos (by omega)]
 · by_cases h:j<i
   · rw[if_pos h,if_pos (by omega)]
   · rw[if_neg h,if_neg (by omega)]
def KO(k i j:Int):OpT:=⟨k,i,j,0,0, .zero,0,0,0⟩
theorem HK:OkCh ChangeT.zero:=⟨by
 have: ∀n∈ChangeT.zero.flat,(Lit.int IntKind.i64 n).wf=true:=by decide+kernel
 intro n hn;exact this n hn⟩
theorem zh(k i j:Int):OkOp (KO k i j):=⟨HK,by show(0:Int)≤9223372036854775807;omega⟩
def u9(a:CL)(i j:Nat):CL:=if i=j then a else(B5 a (KO 5 ((i:Nat):Int) ((j:Nat):Int))).1
def Lb(a:CL)(i:Nat):CL:=(B5 a (KO 8 ((i:Nat):Int) 0)).1
def tB(a:CL)(i:Nat):Nat→CL
 |0=>a
 |j+1=>u9 (tB a i j) i j
def sweepTo(a:CL):Nat→CL
 |0=>a
 |i+1=>tB (sweepTo a i) i 5
def u7(a:CL):CL:=sweepTo a 5
def sK(a:CL):Nat→CL
 |0=>a
 |i+1=>Lb (sK a i) i
def C3(W:List (List MsgT))(k:Nat):Nat:=((List.range k).map λq=>if q%6=0 then 0 else(W.getD q []).length).sum
theorem yg(W:List (List MsgT))(k:Nat):C3 W (k+1)=C3 W k+(if k%6=0 then 0 else(W.getD k []).length):=by simp[C3,cO]
def pc(a:CL):Nat:=C3 a.W 25
def l6:Nat→CL→CL
 |0,a=>a
 |k+1,a=>if pc a=0 then a else l6 k (u7 a)
def vw(a:CL):CL:=l6 400 (sK a 5)
theorem Fe(a:CL):l6 (400-0) (sK a 5)=vw a:=by unfold vw;rw[Of]
def jf(a:CL):Nat→CL
 |0=>a
 |k+1=>vw (jf a k)
theorem GM{a:CL}{i j:Nat}(h:i≠j):tB a i (j+1)=(B5 (tB a i j) (KO 5 ((i:Nat):Int) ((j:Nat):Int))).1:=by
 show u9 _ i j=_;unfold u9;rw[if_neg h]
theorem GN{a:CL}{i j:Nat}(h:i=j):tB a i (j+1)=tB a i j:=by
 show u9 _ i j=_;unfold u9;rw[if_pos h]
theorem rC{k:Nat}(h:k<400)(d:CL):l6 (400-k) d=if pc d=0 then d else l6 (400- (k+1)) (u7 d):=by
 rw[show 400-k=(400- (k+1))+1 by omega];rfl
theorem yT{k:Nat}(h: ¬k<400)(d:CL):l6 (400-k) d=d:=by
 rw[show 400-k=0 by omega];rfl
section
variable {n:Nat} {a:CL}
theorem CLOk.step(h:CLOk n a)(i j:Nat):CLOk n (u9 a i j):=by
 unfold u9;split
 · exact h
 · exact Dg h (zh ..) (by show ¬((0:Int)≤5∧(5:Int)≤4);omega)
theorem CLOk.tik(h:CLOk n a)(i:Nat):CLOk n (Lb a i):=Dg h (zh ..) (by show ¬((0:Int)≤8∧(8:Int)≤4);omega)
theorem CLOk.rows(h:CLOk n a)(i:Nat): ∀j,CLOk n (tB a i j)
 |0=>h
 |j+1=>(CLOk.rows h i j).step i j
theorem CLOk.sweepTo(h:CLOk n a): ∀i,CLOk n (sweepTo a i)
 |0=>h
 |i+1=>(CLOk.sweepTo h i).rows i 5
theorem CLOk.ticks(h:CLOk n a): ∀i,CLOk n (sK a i)
 |0=>h
 |i+1=>(CLOk.ticks h i).tik i
theorem CLOk.sweeps: ∀(k:Nat) {a:CL},CLOk n a→CLOk n (l6 k a)
 |0,_,h=>h
 |k+1,a,h=>by
  unfold l6;split
  · exact h
  · exact CLOk.sweeps k (h.sweepTo 5)
theorem CLOk.settle(h:CLOk n a): ∀k,CLOk n (jf a k)
 |0=>h
 |k+1=>by
  rw[jf,vw];exact CLOk.sweeps 400 ((CLOk.settle h k).ticks 5)
theorem CLOk.len(h:CLOk n a): ∀k,C3 a.W k≤8*k
 |0=>aK _
 |k+1=>by
  rw[yg];have:=CLOk.len h k;have:=(h.way k).1;split<;>omega
end
end Api
namespace Go.Proofs.YtjblgopghhgflaaGreat
open Go Leg Codec Api Dsk Wal
theorem oq(W:List (List MsgT)): ∀k,k≤25→kJ (cv W) k=C3 W k
 |0,_=>rfl
 |k+1,h=>by
  rw[qK,yg,oq W k (by omega),mZ W (by omega),bU]
theorem uO{n:Nat}{a:CL}(h:CLOk n a): ∀k,k<25→kJ (cv a.W) k+((cv a.W).getD k []).length≤1000000000:=λk hk=>by
 rw[oq a.W k (by omega),mZ a.W hk,bU];have:=h.len k;have:=(h.way k).1;omega
theorem Ba(c n i:Nat)(D M P:Nat→Value)(hi:i<5)(hM:M i= .pointer none):
 DT 18 #[(.pointer (some ⟨c,0,none⟩)),(.int .i64 (((i:Nat):Int)))] T0 [ag c (ey n D M P) 104] (RI (.pointer none) [ag c (ey n D M P) 104]):=by
 refine BD 15 Tryz.func18 rfl rfl rfl λw0 F hF=>sr λ_ J1=>PS ?_
 refine nx J1 (ab λ_ J2=>sr λ_ J3=>P2 ?_);refine CE xd (pg c n i D M P hi hM) ID ?_;refine PS ?_;refine nx J3 (CY (sr λ_ J4=>PS ?_));exact nx J4 (ai (ae (WK [0] (au rfl rfl ⟨rfl,rfl⟩))))
theorem A9(c n i:Nat)(D M P:Nat→Value)(hi:i<5)(d r:Nat)(e:DS)(hD:D i= .pointer (some ⟨d,0,none⟩))(hM:M i= .pointer (some ⟨r,0,none⟩)):
 DT 18 #[(.pointer (some ⟨c,0,none⟩)),(.int .i64 (((i:Nat):Int)))] T0 [ag c (ey n D M P) 104,dk d e] (c9 (λv H=>((e.dn=false∧v= .pointer (some ⟨r,0,none⟩))∨(e.dn=true∧v= .pointer none))∧H=[ag c (ey n D M P) 104,dk d e])):=by
 refine BD 15 Tryz.func18 rfl rfl rfl λw0 F hF=>sr λ_ J1=>PS ?_
 refine nx J1 (ab λ_ J2=>sr λ_ J3=>P2 ?_);refine CE xd (pe c n i D M P hi d r e hD hM) ID ?_;refine aW ?_ ?_<;>intro h7;refine PS ?_;refine nx J3 (CN (qx J2 (sr λ_ J4=>P3 ?_)));refine FA 6 ie nE ?_;refine IX (6+i) qa gV ?_;refine LT 0 oQ (.pointer (some ⟨r,0,none⟩)) ?_ (hc:=by exact(wB n D M P hi).trans (congrArg some hM));refine PS ?_;refine nx J4 (ai (WK [0,0] (au rfl rfl ?_)));exact⟨.inl ⟨(by simpa using h7),rfl⟩,rfl⟩;refine PS ?_;refine nx J3 (CY (sr λ_ J5=>PS ?_));refine nx J5 (ai (ae (WK [0,0] (au rfl rfl ?_))));exact⟨.inr ⟨(by simpa using h7),rfl⟩,rfl⟩
theorem Dt(c n i:Nat)(D M P:Nat→Value)(hi:i<5)(d:Nat)(hD:D i= .pointer (some ⟨d,0,none⟩)):
 DT 67 #[(.pointer (some ⟨c,0,none⟩)),(.int .i64 (((i:Nat):Int)))] T0 [ag c (ey n D M P) 104] (RI (.pointer (some ⟨d,0,none⟩)) [ag c (ey n D M P) 104]):=by
 refine BD 15 Tryz.func67 rfl rfl rfl λw0 F hF=>sr λ_ J1=>PS ?_
 refine nx J1 (ab λ_ J2=>sr λ_ J3=>P2 ?_);refine CE pC (dH c i hi) ID ?_;refine PS ?_;refine nx J3 (CN (qx J2 (sr λ_ J4=>P3 ?_)));refine FA 1 ie rB ?_;refine IX (1+i) zU oF ?_;refine LT 0 sx (.pointer (some ⟨d,0,none⟩)) ?_ (hc:=by exact(BI n D M P hi).trans (congrArg some hD));refine PS ?_;exact nx J4 (ai (WK [0] (au rfl rfl ⟨rfl,rfl⟩)))
theorem Aj(c n:Nat)(D M P:Nat→Value)(W:List (List MsgT))(hsm: ∀k,k<25→kJ (cv W) k+((cv W).getD k []).length≤1000000000):
 DT 26 #[(.pointer (some ⟨c,0,none⟩))] T0 [ag c (ey n D M P) 104,dL 156 208 5 n (cv W)] (RI (.int .i64 ((C3 W 25:Nat):Int)) [ag c (ey n D M P) 104,dL 156 208 5 n (cv W)]):=by
 refine BD 10 Tryz.func26 rfl rfl rfl λw0 F hF=>sr λ_ J1=>PS ?_
 refine nx J1 (ab λ_ J2=>sr λ_ J3=>PS ?_);refine tp (hJ rfl KR rfl rfl) ?_;refine nx J3 (CN (qx J2 (sr λ_ J4=>P2 ?_)));refine FA 0 ie w6 ?_;refine LT 0 Gn (.pointer (some ⟨n,0,none⟩)) ?_ (hc:=by exact xo n D M P);refine CE Lx (tI n (cv W) hsm) (SM [1]) ?_;rw[oq W 25 (aK _)];refine PS ?_;exact nx J4 (ai (WK [1,0] (au rfl rfl ⟨rfl,rfl⟩)))
abbrev yX(c:Nat)(a:CL)(i:Nat)(g:CX):List HP:=ag c (ey g.n (k0 g) (jb a g.r) g.p) 104::dL 156 208 5 g.n (cv a.W)::jr (a.at' i) (g.d i) (g.r i) (g.p i)
def bT(c:Nat)(a:CL)(g:CX):HP:=bC (qn c a g)
theorem Fx{α:Type}(A B C:List α):((A++B)++C).Perm ((A++C)++B):=by
 rw[be,be];exact List.Perm.append_left _ List.perm_append_comm
section
variable {f:FuncId} {args:Array Value} {c i:Nat} {a:CL} {g:CX}
theorem yr{H:List HP}{h:Hl}(s:bC (fE c a::H) h): ∃g,bC (bT c a g::H) h:=by
 obtain⟨h1,h2,d,e,⟨g,t⟩,s2⟩:=s;exact⟨g,h1,h2,d,e,t,s2⟩
theorem E5(hi:i<5){h:Hl}(s:bC [bT c a g] h):bC (yX c a i g++[bC (((List.range 5).map λi=>kl (a.at' i) (g.d i) (g.r i) (g.p i)).eraseIdx i)]) h:=by
 have s0:bC (qn c a g++[]) h:=(bX _ _).2 s;have s2:=sW (f:=λi=>kl (a.at' i) (g.d i) (g.r i) (g.p i)) hi (az [2,0,0] rfl s0);have s3:=(bX (jr (a.at' i) (g.d i) (g.r i) (g.p i)) _).2 s2;exact az [4,4,0,0,0,0] rfl s3
theorem E4(hi:i<5){h:Hl}(s:bC (yX c a i g++[bC (((List.range 5).map λi=>kl (a.at' i) (g.d i) (g.r i) (g.p i)).eraseIdx i)]) h):bC [bT c a g] h:=by
 have s1:=az [2,2,2,2,0,0] rfl s;have s2:=(bX (jr (a.at' i) (g.d i) (g.r i) (g.p i)) _).1 s1;have s3:=sV (f:=λi=>kl (a.at' i) (g.d i) (g.r i) (g.p i)) (g:=λi=>kl (a.at' i) (g.d i) (g.r i) (g.p i)) hi (λ_ _=>rfl) s2;exact(bX (qn c a g) []).1 (az [1,1,0] rfl s3)
theorem Ev{Q:Value→List HP→Prop}(hi:i<5)(core:DT f args T0 (yX c a i g) (c9 λv H=>∃X,Q v X∧H=yX c a i g++X)):
 DT f args T0 [bT c a g] (c9 λv H=>∃X,Q v X∧H=bT c a g::X):=by
 refine Leg.Does.withinR (B:=[bC (((List.range 5).map λi=>kl (a.at' i) (g.d i) (g.r i) (g.p i)).eraseIdx i)]) core (λ_ _ _ _=>trivial) (λh s=>E5 hi s) λv H hp=>?_
 obtain⟨X,hQ,rfl⟩:=hp;refine⟨_,λh s=>?_,X,hQ,rfl⟩;have s1:=(bX _ X).1 (ee (Fx (yX c a i g) X [bC (((List.range 5).map λi=>kl (a.at' i) (g.d i) (g.r i) (g.p i)).eraseIdx i)]) s);exact(bX [bT c a g] X).2 (cA s1 (λh t=>E4 hi t) λ_ t=>t)
theorem wz{Q:Value→Prop}(hi:i<5)(core:DT f args T0 (yX c a i g) (c9 λv H=>Q v∧H=yX c a i g)):
 DT f args T0 [bT c a g] (c9 λv H=>Q v∧H=[bT c a g]):=
 li (Ev (Q:=λv X=>Q v∧X=[]) hi (li core λv H hp=>by
  obtain⟨h1,rfl⟩:=hp
  exact⟨[],⟨h1,rfl⟩,(bb _).symm⟩)) λv H hp=>by
  obtain⟨X,⟨h1,rfl⟩,rfl⟩:=hp;exact⟨h1,rfl⟩
theorem DP{x:Slot}{s:MS LD}(h:x.run=some s):x.up= !s.e.D.dn:=by unfold Slot.up;rw[h]
theorem yO{x:Slot}(h:x.run=none):x.up=false:=by unfold Slot.up;rw[h]
theorem sS{s:MS LD}(hs:(a.at' i).run=some s):yX c a i g=[ag c (ey g.n (k0 g) (jb a g.r) g.p) 104,dL 156 208 5 g.n (cv a.W),dk (g.d i) s.e.D,lM (g.p i) (a.at' i).past,eP s (g.d i) (g.r i)]:=by
 unfold yX jr Slot.dk p9;rw[hs]
theorem Al(hi:i<5):DT 16 #[.pointer (some ⟨c,0,none⟩), .int .i64 ((i:Nat):Int)] T0 [bT c a g] (c9 λv H=>v= .bool (a.at' i).up∧H=[bT c a g]):=by
 refine wz (Q:=λv=>v= .bool (a.at' i).up) hi ?_;cases hr:(a.at' i).run with
 |none=>
  rw[yO hr];refine Leg.Does.withinR (A:=[ag c (ey g.n (k0 g) (jb a g.r) g.p) 104]) (B:=dL 156 208 5 g.n (cv a.W)::jr (a.at' i) (g.d i) (g.r i) (g.p i)) (pg c g.n i (k0 g) (jb a g.r) g.p hi (mK hr)) (λ_ _ _ _=>trivial) (λh s=>s) λv H hp=>?_
  obtain⟨rfl,rfl⟩:=hp;exact⟨_,λh s=>s,rfl,rfl⟩
 |some s=>
  rw[DP hr,sS hr];refine Leg.Does.withinR (B:=[dL 156 208 5 g.n (cv a.W),lM (g.p i) (a.at' i).past,eP s (g.d i) (g.r i)]) (pe c g.n i (k0 g) (jb a g.r) g.p hi (g.d i) (g.r i) s.e.D rfl (rX hr)) (λ_ _ _ _=>trivial) (λh s=>az [0,1,0,0,0] rfl s) λv H hp=>?_
  obtain⟨rfl,rfl⟩:=hp;exact⟨_,λh s=>az [0,1,0,0,0] rfl s,rfl,rfl⟩
def Bb(a:CL)(g:CX)(i:Nat):Value:=if(a.at' i).up then .pointer (some ⟨g.r i,0,none⟩)else .pointer none
theorem vT(hi:i<5):DT 18 #[.pointer (some ⟨c,0,none⟩), .int .i64 ((i:Nat):Int)] T0 [bT c a g] (c9 λv H=>v=Bb a g i∧H=[bT c a g]):=by
 refine wz (Q:=λv=>v=Bb a g i) hi ?_;unfold Bb;cases hr:(a.at' i).run with
 |none=>
  rw[yO hr];refine Leg.Does.withinR (A:=[ag c (ey g.n (k0 g) (jb a g.r) g.p) 104]) (B:=dL 156 208 5 g.n (cv a.W)::jr (a.at' i) (g.d i) (g.r i) (g.p i)) (Ba c g.n i (k0 g) (jb a g.r) g.p hi (mK hr)) (λ_ _ _ _=>trivial) (λh s=>s) λv H hp=>?_
  obtain⟨rfl,rfl⟩:=hp;exact⟨_,λh s=>s,rfl,rfl⟩
 |some s=>
  rw[DP hr,sS hr];refine Leg.Does.withinR (B:=[dL 156 208 5 g.n (cv a.W),lM (g.p i) (a.at' i).past,eP s (g.d i) (g.r i)]) (A9 c g.n i (k0 g) (jb a g.r) g.p hi (g.d i) (g.r i) s.e.D rfl (rX hr)) (λ_ _ _ _=>trivial) (λh s=>az [0,1,0,0,0] rfl s) λv H hp=>?_
  obtain⟨hv,rfl⟩:=hp;refine⟨_,λh s=>az [0,1,0,0,0] rfl s,?_,rfl⟩;rcases hv with⟨h1,rfl⟩| ⟨h1,rfl⟩<;>rw[h1]<;>rfl
theorem wy(hi:i<5):DT 67 #[.pointer (some ⟨c,0,none⟩), .int .i64 ((i:Nat):Int)] T0 [bT c a g] (c9 λv H=>v= .pointer (some ⟨g.d i,0,none⟩)∧H=[bT c a g]):=by
 refine wz (Q:=λv=>v= .pointer (some ⟨g.d i,0,none⟩)) hi ?_;refine Leg.Does.withinR (A:=[ag c (ey g.n (k0 g) (jb a g.r) g.p) 104]) (B:=dL 156 208 5 g.n (cv a.W)::jr (a.at' i) (g.d i) (g.r i) (g.p i)) (Dt c g.n i (k0 g) (jb a g.r) g.p hi (g.d i) rfl) (λ_ _ _ _=>trivial) (λh s=>s) λv H hp=>?_
 obtain⟨rfl,rfl⟩:=hp;exact⟨_,λh s=>s,rfl,rfl⟩
theorem uR{n:Nat}(h:CLOk n a):DT 26 #[.pointer (some ⟨c,0,none⟩)] T0 [bT c a g] (c9 λv H=>v= .int .i64 ((pc a:Nat):Int)∧H=[bT c a g]):=by
 refine wz (i:=0) (Q:=λv=>v= .int .i64 ((pc a:Nat):Int)) (by omega) ?_;refine Leg.Does.withinR (A:=[ag c (ey g.n (k0 g) (jb a g.r) g.p) 104,dL 156 208 5 g.n (cv a.W)]) (B:=jr (a.at' 0) (g.d 0) (g.r 0) (g.p 0)) (Aj c g.n (k0 g) (jb a g.r) g.p a.W (uO h)) (λ_ _ _ _=>trivial) (λh s=>s) λv H hp=>?_
 obtain⟨rfl,rfl⟩:=hp;exact⟨_,λh s=>s,rfl,rfl⟩
theorem Mx{s:MS LD}{Q:Value→Prop}(hi:i<5)(hs:(a.at' i).run=some s)(hf:DT f args T0 [eP s (g.d i) (g.r i)] (c9 λv H=>Q v∧H=[eP s (g.d i) (g.r i)])):DT f args T0 [bT c a g] (c9 λv H=>Q v∧H=[bT c a g]):=by
 refine wz hi ?_;rw[sS hs];refine Leg.Does.withinR (B:=[ag c (ey g.n (k0 g) (jb a g.r) g.p) 104,dL 156 208 5 g.n (cv a.W),dk (g.d i) s.e.D,lM (g.p i) (a.at' i).past]) hf (λ_ _ _ _=>trivial) (λh q=>az [4,0,0,0,0] rfl q) λv H hp=>?_
 obtain⟨hQ,rfl⟩:=hp;exact⟨_,λh q=>az [1,1,1,1,0] rfl q,hQ,rfl⟩
theorem vq{s:MS LD}{d r:Nat}{v0:RepT→Value}(hf: ∀x,DT f args T0 [ag r (RepT.cells x) 123] (c9 λv H=>v=v0 x∧H=[ag r (RepT.cells x) 123])){w:Value}(hv: ∀a,v0 (s.rep a)=w):DT f args T0 [eP s d r] (c9 λv H=>v=w∧H=[eP s d r]):=
 Leg.Does.pack (B:=[]) λx=>Leg.Does.withinR (A:=[ag r (RepT.cells (s.rep x)) 123]) (B:=[Eo x.lg d ((s.e.cnt:Nat):Int) s.e.used,lM x.rs s.replies,DO x.vo s.vote]) (hf (s.rep x)) (λ_ _ _ _=>trivial) (λ_ q=>q) λv H hp=>by
  obtain⟨rfl,rfl⟩:=hp;exact⟨[eP s d r],λ_ q=>bi (p:=Fa s d r) (H:=[]) x q,hv x,rfl⟩
theorem mw(s:MS LD)(d r:Nat):DT 21 #[.pointer (some ⟨r,0,none⟩)] T0 [eP s d r] (c9 λv H=>v= .agg (ints s.view.flat).toArray∧H=[eP s d r]):=vq (λx=>CD r x) λ_=>rfl
theorem yb(s:MS LD)(d r:Nat):DT 33 #[.pointer (some ⟨r,0,none⟩)] T0 [eP s d r] (c9 λv H=>v= .agg (ints s.own.flat).toArray∧H=[eP s d r]):=vq (λx=>Fm r x) λ_=>rfl
theorem FO(s:MS LD)(d r:Nat)(who:Int):DT 42 #[.pointer (some ⟨r,0,none⟩), .int .i64 who] T0 [eP s d r] (c9 λv H=>v= .tuple #[.agg (ints (c7 s.mirror who).flat).toArray, .bool (e8 s.mirror who)]∧H=[eP s d r]):=vq (λx=>vD r x who) λ_=>rfl
theorem C1(hi:i<5):DT 18 #[.pointer (some ⟨c,0,none⟩), .int .i64 ((i:Nat):Int)] T0 [bT c a g] (c9 λv H=>((a.at' i).up=false∧v= .pointer none∧H=[bT c a g])∨∃s,(a.at' i).run=some s∧(a.at' i).up=true∧v= .pointer (some ⟨g.r i,0,none⟩)∧H=[bT c a g]):=
 li (vT hi) λv H hp=>by
  obtain⟨rfl,rfl⟩:=hp;unfold Bb;cases hu:(a.at' i).up with
  |false=>exact .inl ⟨rfl,rfl,rfl⟩
  |true=>
   cases hs:(a.at' i).run with
   |none=>rw[yO hs]at hu;cases hu
   |some s=>exact .inr ⟨s,rfl,rfl,rfl,rfl⟩
end
end Go.Proofs.YtjblgopghhgflaaGreat
end
