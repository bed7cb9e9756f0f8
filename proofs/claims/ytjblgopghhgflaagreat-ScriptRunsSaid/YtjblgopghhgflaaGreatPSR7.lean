/-
  Joined texts:what a statement's proof reaches.
-/
import Derived.Test.YtjblgopghhgflaaGreatPSR6
set_option maxHeartbeats 8000000
set_option maxRecDepth 100000
set_option linter.unusedSimpArgs false
set_option linter.unusedVariables false
section
namespace Go.Proofs.YtjblgopghhgflaaGreat
open Go Leg Codec Api Dsk Wal
theorem Bl{δ:Type}(V:Env δ)(r:Nat)(s:MS δ)[OkR V.toDk s](hv:(fH V.toDk (bZ V.toDk (bR V.toDk s))).vote=none):
 DT 60 #[(.pointer (some ⟨r,0,none⟩)),(.iface V.T V.ov)] T0 [cA V r s] (dG (λ_ H=>H=[cA V r (gU V.toDk s)])):=by
 refine BD 89 Tryz.func60 rfl rfl rfl λw0 F hF=>aa λ_ J1=>eH (α:=Unit) (λ_u=>True) (λ_u=>[(0,(.pointer (some ⟨r,0,none⟩))),(1,(.iface V.T V.ov))]) (λ_u=>[cA V r (if s.busy=true then e8 V.toDk s else s)]) (λ_u hinv=>?_) (λtl1=>?_)
 have _:=hinv;refine ac J1 (sr λ_ J2=>P2 ?_);refine CZ C7 (nV V r (if s.busy=true then e8 V.toDk s else s)) ID λvR=>?_
 refine nx J2 (sr λ_ J3=>P2 ?_);refine CZ Gc (o8 V r (mg V.toDk (if s.busy=true then e8 V.toDk s else s))) ID λvR=>?_
 refine nx J3 (aa λ_ J4=>eH (α:=Unit) (λ_u=>True) (λ_u=>[(0,(.pointer (some ⟨r,0,none⟩))),(1,(.iface V.T V.ov))]) (λ_u=>[cA V r (bZ V.toDk (bR V.toDk s))]) (λ_u hinv=>?_) (λtl4=>?_));have _:=hinv;refine ac J4 (aa λ_ J5=>aa λ_ J6=>DB bc (cK 0 rfl rfl) ?_);refine PD 0 ?_;refine PD 1 ?_;refine FD 2 2 bh bf ?_;refine ta 3 rfl (fz (vs:=ints ((bZ V.toDk (bR V.toDk s)).view).flat) rfl eF rfl bf rfl (λ_ h=>h.2.1) (an ((bZ V.toDk (bR V.toDk s)).view)) (λa_=>(fw ((bZ V.toDk (bR V.toDk s)).rep a_) 0 rfl (by decide) (bj (an (((bZ V.toDk (bR V.toDk s)).rep a_).view)))))) ?_;refine PD 4 ?_;refine PD 5 ?_;refine FD 6 0 bh aM ?_;refine ta 7 rfl (cX (v:=(.int .i64 ((bZ V.toDk (bR V.toDk s)).id))) rfl Y3 rfl rfl (λ_ h=>h.2.1) (λa_=>(cv _ rfl))) ?_;refine AL 8 ?_;refine CE oT (dq ((bZ V.toDk (bR V.toDk s)).view) ((bZ V.toDk (bR V.toDk s)).id)) ID ?_;refine aX ?_ ?_<;>intro h42;refine EN (PD 9 ?_);refine DN (ac J6 (CN (qx J5 (aa λ_ J7=>eH (α:=Unit) (λ_u=>True) (λ_u=>[(0,(.pointer (some ⟨r,0,none⟩))),(1,(.iface V.T V.ov))]) (λ_u=>[cA V r (fH V.toDk (bZ V.toDk (bR V.toDk s)))]) (λ_u hinv=>?_) (λtl7=>?_)))));have _:=hinv;refine ac J7 (aa λ_ J8=>sr λ_ J9=>cn (H':=tQ V r (fH V.toDk (bZ V.toDk (bR V.toDk s))) (.pointer none)::[]) (λ_ q=>rj hv q) (P2 ?_));refine FA 1067 bh ix ?_;refine LG 0 hZ (.pointer none) ?_ (hc:=by exact λa_=>(bQ _ rfl))
 refine tp (PV.nilPtrNil rfl hZ rfl rfl) ?_;refine nx J9 (CY (ai (ad (aD (H':=[cA V r (fH V.toDk (bZ V.toDk (bR V.toDk s)))]) (dK _) (λ_ q=>nd hv (aj [0] rfl q)) (du rfl ?_)))));exact MQ (by rw[gU,if_pos h42,qU,hv]);refine aa λ_ J10=>eH (α:=(Nat)) (λb4=>True) (λb4=>[(0,(.pointer (some ⟨r,0,none⟩))),(1,(.iface V.T V.ov)),(4,(.pointer (some ⟨b4,0,none⟩)))]) (λb4=>[cA V r (bZ V.toDk (bR V.toDk s)),ak b4 (ints (ct (bZ V.toDk (bR V.toDk s)).book (bZ V.toDk (bR V.toDk s)).id).flat) 60]) (λb4 hinv=>?_) (λtl10=>?_)
 have _:=hinv;refine ac J10 (sr λ_ J11=>FA 0 dP aM ?_);refine LT 1 Y3 (.int .i64 ((ct (bZ V.toDk (bR V.toDk s)).book (bZ V.toDk (bR V.toDk s)).id).version)) ?_ (hc:=by exact cz _ rfl);refine PS ?_;refine ao ?_ ?_<;>intro h54;refine nx J11 (CY (ae (P2 ?_)));refine LW 1 dP aZ ah ?_;refine CZ Ga (lW V r (bZ V.toDk (bR V.toDk s)) (ct (bZ V.toDk (bR V.toDk s)).book (bZ V.toDk (bR V.toDk s)).id)) ID λvR=>?_
 refine au ?_
 exact aD
  SB
  (λ_ q=>by
   rw[fH,if_pos h54]
   exact aj [0] rfl q)
  (tl7 (():Unit) trivial)
 refine nx J11 (CN (aS ?_))
 exact aD
  SB
  (λ_ q=>by
   rw[fH,if_neg h54]
   exact aj [0] rfl q)
  (tl7 (():Unit) trivial)
 refine DB bc (cK 0 rfl rfl) ?_;refine PD 0 ?_;refine PD 1 ?_;refine FD 2 1068 bh uu ?_;refine PD 3 ?_;refine PD 4 ?_;refine FD 5 0 bh aM ?_;refine ta 6 rfl (cX (v:=(.int .i64 ((bZ V.toDk (bR V.toDk s)).id))) rfl Y3 rfl rfl (λ_ h=>h.2.1) (λa_=>(cv _ rfl))) ?_;refine cE [7,8] (by kernel_rfl) rfl (aE rfl ?_ ?_);refine CE Hs (Leg.Does.hid (λa_=>lK r 1068 123 _ (gj ((bZ V.toDk (bR V.toDk s)).rep a_)) (bZ V.toDk (bR V.toDk s)).book ((bZ V.toDk (bR V.toDk s)).id))) ID ?_;refine EN (AL 8 ?_);refine XZ tS (ints RowT.zero.flat) λb4=>?_
 refine EN (AL 9 ?_);refine SW 0 aZ ah ?_;refine EN (DN ?_)
 exact aD
  SB
  (λ_ s=>aj [1,0] rfl s)
  (tl10 ((b4):(Nat)) trivial)
 refine aE rfl ?_ ?_;refine XZ tS (ints RowT.zero.flat) λb4=>?_
 refine EN (AL 7 ?_);refine CE Hs (Leg.Does.hid (λa_=>lK r 1068 123 _ (gj ((bZ V.toDk (bR V.toDk s)).rep a_)) (bZ V.toDk (bR V.toDk s)).book ((bZ V.toDk (bR V.toDk s)).id))) (SM [1]) ?_;refine EN (AL 9 ?_);refine SW 1 aZ ah ?_;refine EN (DN ?_)
 exact aD
  SB
  (λ_ s=>aj [0,0] rfl s)
  (tl10 ((b4):(Nat)) trivial)
 exact bA;refine EN (PD 9 ?_);refine DN (ac J6 (CY (ai (ad (WK [0] (du rfl ?_))))));exact MQ (by rw[gU,if_neg (by rw[h42];decide)]);refine sr λ_ J12=>P2 ?_
 refine FA 2 bh bf ?_;refine FA 2 eF aM ?_;refine LG 0 Y3 (.int .i64 (((bR V.toDk s).view).epoch)) ?_ (hc:=by exact λa_=>(ca ((bR V.toDk s).rep a_) 0 rfl (by decide) (be _ rfl)));refine PS ?_;refine ao ?_ ?_<;>intro h26;refine nx J12 (CY (ae (P4 ?_)));refine FA 2 bh bf ?_;refine LZ 0 eF bf an ((bR V.toDk s).view) ?_ (hc:=by exact λ_=>cT _);refine CZ Gb (lV V r (bR V.toDk s) ((bR V.toDk s).view)) ID λvR=>?_
 refine au ?_
 exact aD
  SB
  (λ_ q=>by
   rw[bZ,if_pos h26]
   exact aj [0] rfl q)
  (tl4 (():Unit) trivial)
 refine nx J12 (CN (aS ?_))
 exact aD
  SB
  (λ_ q=>by
   rw[bZ,if_neg h26]
   exact aj [0] rfl q)
  (tl4 (():Unit) trivial)
 refine sr λ_ J13=>P2 ?_
 refine FA 1938 bh kd ?_;refine LG 0 Y4 (.bool (s.busy)) ?_ (hc:=by exact λa_=>(wT _ rfl));refine aX ?_ ?_<;>intro h11;refine nx J13 (CY (ae (P2 ?_)));refine CZ Gd (mJ V r s) ID λvR=>?_
 refine au ?_
 exact aD
  SB
  (λ_ q=>by
   rw[if_pos h11]
   exact aj [0] rfl q)
  (tl1 (():Unit) trivial)
 refine nx J13 (CN (aS ?_))
 exact aD
  SB
  (λ_ q=>by
   rw[if_neg (by rw[h11];decide)]
   exact aj [0] rfl q)
  (tl1 (():Unit) trivial)
theorem Bk{δ:Type}(V:Env δ)(r:Nat)(s:MS δ)(vt:VoteT)[OkR V.toDk s](hv:(fH V.toDk (bZ V.toDk (bR V.toDk s))).vote=some vt):
 DT 60 #[(.pointer (some ⟨r,0,none⟩)),(.iface V.T V.ov)] T0 [cA V r s] (dG (λ_ H=>H=[cA V r (gU V.toDk s)])):=by
 refine BD 89 Tryz.func60 rfl rfl rfl λw0 F hF=>?_
 have hov:OkVt vt:=OkR.vote vt hv;refine aa λ_ J1=>eH (α:=Unit) (λ_u=>True) (λ_u=>[(0,(.pointer (some ⟨r,0,none⟩))),(1,(.iface V.T V.ov))]) (λ_u=>[cA V r (if s.busy=true then e8 V.toDk s else s)]) (λ_u hinv=>?_) (λtl1=>?_)
 have _:=hinv;refine ac J1 (sr λ_ J2=>P2 ?_);refine CZ C7 (nV V r (if s.busy=true then e8 V.toDk s else s)) ID λvR=>?_
 refine nx J2 (sr λ_ J3=>P2 ?_);refine CZ Gc (o8 V r (mg V.toDk (if s.busy=true then e8 V.toDk s else s))) ID λvR=>?_
 refine nx J3 (aa λ_ J4=>eH (α:=Unit) (λ_u=>True) (λ_u=>[(0,(.pointer (some ⟨r,0,none⟩))),(1,(.iface V.T V.ov))]) (λ_u=>[cA V r (bZ V.toDk (bR V.toDk s))]) (λ_u hinv=>?_) (λtl4=>?_));have _:=hinv;refine ac J4 (aa λ_ J5=>aa λ_ J6=>DB bc (cK 0 rfl rfl) ?_);refine PD 0 ?_;refine PD 1 ?_;refine FD 2 2 bh bf ?_;refine ta 3 rfl (fz (vs:=ints ((bZ V.toDk (bR V.toDk s)).view).flat) rfl eF rfl bf rfl (λ_ h=>h.2.1) (an ((bZ V.toDk (bR V.toDk s)).view)) (λa_=>(fw ((bZ V.toDk (bR V.toDk s)).rep a_) 0 rfl (by decide) (bj (an (((bZ V.toDk (bR V.toDk s)).rep a_).view)))))) ?_;refine PD 4 ?_;refine PD 5 ?_;refine FD 6 0 bh aM ?_;refine ta 7 rfl (cX (v:=(.int .i64 ((bZ V.toDk (bR V.toDk s)).id))) rfl Y3 rfl rfl (λ_ h=>h.2.1) (λa_=>(cv _ rfl))) ?_;refine AL 8 ?_;refine CE oT (dq ((bZ V.toDk (bR V.toDk s)).view) ((bZ V.toDk (bR V.toDk s)).id)) ID ?_;refine aX ?_ ?_<;>intro h42;refine EN (PD 9 ?_);refine DN (ac J6 (CN (qx J5 (aa λ_ J7=>eH (α:=Unit) (λ_u=>True) (λ_u=>[(0,(.pointer (some ⟨r,0,none⟩))),(1,(.iface V.T V.ov))]) (λ_u=>[cA V r (fH V.toDk (bZ V.toDk (bR V.toDk s)))]) (λ_u hinv=>?_) (λtl7=>?_)))));have _:=hinv;refine ac J7 (aa λ_ J8=>sr λ_ J9=>KW (H':=λvb:Nat=>tQ V r (fH V.toDk (bZ V.toDk (bR V.toDk s))) (.pointer (some ⟨vb,0,none⟩))::ak vb (VoteT.cells vt) 227::[]) (λ_ q=>l7 hv q) (λvb=>P2 ?_));refine FA 1067 bh ix ?_
 refine LG 0 hZ (.pointer (some ⟨vb,0,none⟩)) ?_ (hc:=by exact λa_=>(bQ _ rfl));refine tp (lq rfl hZ rfl rfl) ?_;refine nx J9 (CN (qx J8 (sr λ_ J10=>P2 ?_)));refine FA 1067 bh ix ?_;refine LG 0 hZ (.pointer (some ⟨vb,0,none⟩)) ?_ (hc:=by exact λa_=>(bQ _ rfl));refine CE na (cS vb vt) (SM [1]) ?_;change TL _ _ _ _ _ _ _ _ _ [ak vb (VoteT.cells vt) 227,tQ V r (fH V.toDk (bZ V.toDk (bR V.toDk s))) (.pointer (some ⟨vb,0,none⟩))];refine cn (H':=cA V r (fH V.toDk (bZ V.toDk (bR V.toDk s)))::[]) (λ_ q=>nc hv (aA [1,0] rfl q)) (XZ Ll (ints ChangeT.zero.flat) λb5=>?_);refine SW 0 e9 aI ?_;refine nx J10 (aa λ_ J11=>eH (α:=Unit) (λ_u=>True) (λ_u=>[(0,(.pointer (some ⟨r,0,none⟩))),(1,(.iface V.T V.ov)),(5,(.pointer (some ⟨b5,0,none⟩))),(7,(.int .i64 ((dx (fH V.toDk (bZ V.toDk (bR V.toDk s))).view vt.change).2)))]) (λ_u=>[cA V r (fH V.toDk (bZ V.toDk (bR V.toDk s))),ak b5 (ints vt.change.flat) 28]) (λ_u hinv=>?_) (λtl11=>?_));have _:=hinv;refine ac J11 (sr λ_ J12=>P2 ?_);refine ao ?_ ?_<;>intro h79;refine P2 ?_;refine LW 1 mj e9 aI ?_;refine CE F9 (pa V r (fH V.toDk (bZ V.toDk (bR V.toDk s))) vt.change) ID ?_;refine PS ?_;refine ao ?_ ?_<;>intro h84;refine PS ?_;refine nx J12 (CY (ae (P2 ?_)))
 refine CZ C6 (p9 V r ((ck V.toDk (fH V.toDk (bZ V.toDk (bR V.toDk s))) vt.change).1) (iV (fH V.toDk (bZ V.toDk (bR V.toDk s))).view (ei (fH V.toDk (bZ V.toDk (bR V.toDk s)))) vt.change) (qn h84)) ID λvR=>?_
 refine au (WK [0] (bu rfl ?_));exact MQ (by rw[gU,if_pos h42,qU,hv];simp only[];rw[if_pos h79,if_pos h84]);refine PS ?_;refine nx J12 (CN (aS (WK [0] (bu rfl ?_))));exact MQ (by rw[gU,if_pos h42,qU,hv];simp only[];rw[if_pos h79,if_neg h84]);refine PS ?_
 iterate 4 refine UF ?_
 refine PS ?_;refine nx J12 (CN (aS (WK [0] (bu rfl ?_))));exact MQ (by rw[gU,if_pos h42,qU,hv];simp only[];rw[if_neg h79]);refine DC bc (cK 1 rfl rfl) (BL 0) ?_;refine PD 0 ?_;refine PD 1 ?_;refine FD 2 2 bh bf ?_;refine ta 3 rfl (fz (vs:=ints ((fH V.toDk (bZ V.toDk (bR V.toDk s))).view).flat) rfl eF rfl bf rfl (λ_ h=>h.2.1) (an ((fH V.toDk (bZ V.toDk (bR V.toDk s))).view)) (λa_=>(fw ((fH V.toDk (bZ V.toDk (bR V.toDk s))).rep a_) 0 rfl (by decide) (bj (an (((fH V.toDk (bZ V.toDk (bR V.toDk s))).rep a_).view)))))) ?_;refine LY 4 mj e9 aI ?_;refine cE [5,9] (by kernel_rfl) rfl (aE rfl ?_ ?_);refine CE l6 (de ((fH V.toDk (bZ V.toDk (bR V.toDk s))).view) vt.change OkVw.rng) ID ?_;refine EN (PD 6 ?_);refine PD 7 ?_;refine PD 8 ?_;refine AL 9 ?_;refine XZ sK (ints ViewT.zero.flat) λb6=>?_
 refine EN (AL 10 ?_);refine SW 0 bf an ?_;refine EN (PD 11 ?_);refine DN ?_
 exact aD
  SB
  (λ_ s=>aj [2,1] rfl s)
  (tl11 (():Unit) trivial)
 refine aE rfl ?_ ?_;refine XZ sK (ints ViewT.zero.flat) λb6=>?_
 refine EN (AL 5 ?_);refine CE l6 (de ((fH V.toDk (bZ V.toDk (bR V.toDk s))).view) vt.change OkVw.rng) ID ?_;refine EN (PD 6 ?_);refine PD 7 ?_;refine PD 8 ?_;refine AL 10 ?_;refine SW 0 bf an ?_;refine EN (PD 11 ?_);refine DN ?_
 exact aD
  SB
  (λ_ s=>aj [2,1] rfl s)
  (tl11 (():Unit) trivial)
 exact bA;refine aa λ_ J13=>eH (α:=(Nat)) (λb4=>True) (λb4=>[(0,(.pointer (some ⟨r,0,none⟩))),(1,(.iface V.T V.ov)),(4,(.pointer (some ⟨b4,0,none⟩)))]) (λb4=>[cA V r (bZ V.toDk (bR V.toDk s)),ak b4 (ints (ct (bZ V.toDk (bR V.toDk s)).book (bZ V.toDk (bR V.toDk s)).id).flat) 60]) (λb4 hinv=>?_) (λtl13=>?_)
 have _:=hinv;refine ac J13 (sr λ_ J14=>FA 0 dP aM ?_);refine LT 1 Y3 (.int .i64 ((ct (bZ V.toDk (bR V.toDk s)).book (bZ V.toDk (bR V.toDk s)).id).version)) ?_ (hc:=by exact cz _ rfl);refine PS ?_;refine ao ?_ ?_<;>intro h54;refine nx J14 (CY (ae (P2 ?_)));refine LW 1 dP aZ ah ?_;refine CZ Ga (lW V r (bZ V.toDk (bR V.toDk s)) (ct (bZ V.toDk (bR V.toDk s)).book (bZ V.toDk (bR V.toDk s)).id)) ID λvR=>?_
 refine au ?_
 exact aD
  SB
  (λ_ q=>by
   rw[fH,if_pos h54]
   exact aj [0] rfl q)
  (tl7 (():Unit) trivial)
 refine nx J14 (CN (aS ?_))
 exact aD
  SB
  (λ_ q=>by
   rw[fH,if_neg h54]
   exact aj [0] rfl q)
  (tl7 (():Unit) trivial)
 refine DB bc (cK 0 rfl rfl) ?_;refine PD 0 ?_;refine PD 1 ?_;refine FD 2 1068 bh uu ?_;refine PD 3 ?_;refine PD 4 ?_;refine FD 5 0 bh aM ?_;refine ta 6 rfl (cX (v:=(.int .i64 ((bZ V.toDk (bR V.toDk s)).id))) rfl Y3 rfl rfl (λ_ h=>h.2.1) (λa_=>(cv _ rfl))) ?_;refine cE [7,8] (by kernel_rfl) rfl (aE rfl ?_ ?_);refine CE Hs (Leg.Does.hid (λa_=>lK r 1068 123 _ (gj ((bZ V.toDk (bR V.toDk s)).rep a_)) (bZ V.toDk (bR V.toDk s)).book ((bZ V.toDk (bR V.toDk s)).id))) ID ?_;refine EN (AL 8 ?_);refine XZ tS (ints RowT.zero.flat) λb4=>?_
 refine EN (AL 9 ?_);refine SW 0 aZ ah ?_;refine EN (DN ?_)
 exact aD
  SB
  (λ_ s=>aj [1,0] rfl s)
  (tl13 ((b4):(Nat)) trivial)
 refine aE rfl ?_ ?_;refine XZ tS (ints RowT.zero.flat) λb4=>?_
 refine EN (AL 7 ?_);refine CE Hs (Leg.Does.hid (λa_=>lK r 1068 123 _ (gj ((bZ V.toDk (bR V.toDk s)).rep a_)) (bZ V.toDk (bR V.toDk s)).book ((bZ V.toDk (bR V.toDk s)).id))) (SM [1]) ?_;refine EN (AL 9 ?_);refine SW 1 aZ ah ?_;refine EN (DN ?_)
 exact aD
  SB
  (λ_ s=>aj [0,0] rfl s)
  (tl13 ((b4):(Nat)) trivial)
 exact bA;refine EN (PD 9 ?_);refine DN (ac J6 (CY (ai (ad (WK [0] (du rfl ?_))))));exact MQ (by rw[gU,if_neg (by rw[h42];decide)]);refine sr λ_ J15=>P2 ?_
 refine FA 2 bh bf ?_;refine FA 2 eF aM ?_;refine LG 0 Y3 (.int .i64 (((bR V.toDk s).view).epoch)) ?_ (hc:=by exact λa_=>(ca ((bR V.toDk s).rep a_) 0 rfl (by decide) (be _ rfl)));refine PS ?_;refine ao ?_ ?_<;>intro h26;refine nx J15 (CY (ae (P4 ?_)));refine FA 2 bh bf ?_;refine LZ 0 eF bf an ((bR V.toDk s).view) ?_ (hc:=by exact λ_=>cT _);refine CZ Gb (lV V r (bR V.toDk s) ((bR V.toDk s).view)) ID λvR=>?_
 refine au ?_
 exact aD
  SB
  (λ_ q=>by
   rw[bZ,if_pos h26]
   exact aj [0] rfl q)
  (tl4 (():Unit) trivial)
 refine nx J15 (CN (aS ?_))
 exact aD
  SB
  (λ_ q=>by
   rw[bZ,if_neg h26]
   exact aj [0] rfl q)
  (tl4 (():Unit) trivial)
 refine sr λ_ J16=>P2 ?_
 refine FA 1938 bh kd ?_;refine LG 0 Y4 (.bool (s.busy)) ?_ (hc:=by exact λa_=>(wT _ rfl));refine aX ?_ ?_<;>intro h11;refine nx J16 (CY (ae (P2 ?_)));refine CZ Gd (mJ V r s) ID λvR=>?_
 refine au ?_
 exact aD
  SB
  (λ_ q=>by
   rw[if_pos h11]
   exact aj [0] rfl q)
  (tl1 (():Unit) trivial)
 refine nx J16 (CN (aS ?_))
 exact aD
  SB
  (λ_ q=>by
   rw[if_neg (by rw[h11];decide)]
   exact aj [0] rfl q)
  (tl1 (():Unit) trivial)
theorem Bj{δ:Type}(V:Env δ)(r:Nat)(s:MS δ)[OkR V.toDk s]:DT 60 #[.pointer (some ⟨r,0,none⟩), .iface V.T V.ov] T0 [cA V r s] (dG (λ_ H=>H=[cA V r (gU V.toDk s)])):=by
 cases hv:(fH V.toDk (bZ V.toDk (bR V.toDk s))).vote with
 |none=>exact Bl V r s hv
 |some vt=>exact Bk V r s vt hv
abbrev A8{δ:Type}(lg r:Nat)(s:MS δ):HP:=hid r (λ_:Unit=>RepT.cells (s.rep ⟨lg, .pointer none, .slice none 0 0⟩)) 123 (λ_=>[])
theorem tf{δ:Type}(lg r:Nat)(s:MS δ)(v:ViewT):
 DT 93 #[(.pointer (some ⟨r,0,none⟩)),(.agg (ints v.flat).toArray)] T0 [A8 lg r s] (dG (λ_ H=>H=[A8 lg r (ma s v)])):=by
 refine BD 20 Tryz.func93 rfl rfl rfl λw0 F hF=>sr λ_ J1=>XY (ints v.flat) λb3=>?_
 refine nx J1 (sr λ_ J2=>PS ?_);refine LW 0 eF bf an ?_;refine PS ?_;refine FA 2 bh bf ?_;refine gr (vs:=ints v.flat) (i:=1) (ab rfl) rfl rfl rfl rfl rfl (by rw[(an v)];exact bf) (bv _) rfl rfl (λ_=>LC (cJ _) (an _)) (λa_=>(Mc (s.rep ⟨lg, .pointer none, .slice none 0 0⟩) 0 rfl (by have h1:=(an v);omega) (cu ((an ((s.rep ⟨lg, .pointer none, .slice none 0 0⟩).view)).trans (an v).symm)))) (nx J2 (sr λ_ J3=>PS ?_));refine FA 0 eF aM ?_;refine LU 0 Y3 (be v rfl) ?_;refine tp (kq AccT.zero (AccT.mk v.epoch BallotT.zero BallotT.zero ChangeT.zero) [(0,[Value.int .i64 v.epoch])] im nw (g:=AccT.sg)) ?_;refine PS ?_;refine FA 1058 bh di ?_;refine gr (vs:=ints (AccT.mk v.epoch BallotT.zero BallotT.zero ChangeT.zero).flat) (i:=1) (ab rfl) rfl rfl rfl rfl rfl (by rw[(aV (AccT.mk v.epoch BallotT.zero BallotT.zero ChangeT.zero))];exact di) (bv _) rfl rfl (λ_=>LC (cJ _) (aV _)) (λa_=>(jO ((MS.setView s v).rep ⟨lg, .pointer none, .slice none 0 0⟩) 0 rfl (by have h1:=(aV (AccT.mk v.epoch BallotT.zero BallotT.zero ChangeT.zero));omega) (cu ((aV (((MS.setView s v).rep ⟨lg, .pointer none, .slice none 0 0⟩).acc)).trans (aV (AccT.mk v.epoch BallotT.zero BallotT.zero ChangeT.zero)).symm)))) (nx J3 (sr λ_ J4=>P2 ?_));refine FA 1067 bh ix ?_;refine SK 1 ix (λ_=>cJ _) ?_ (hc:=by exact λa_=>(Md _ rfl _));refine nx J4 (ae (P2 ?_));refine FA 1066 bh aM ?_;refine SK 1 aM (λ_=>cJ _) ?_ (hc:=by exact λa_=>(kY _ rfl _))
 exact au (WK [1] (bu rfl rfl))
theorem wt{δ:Type}(lg r:Nat)(s:MS δ)(m:RecT)(hw:WF m.row.flat):
 DT 94 #[(.pointer (some ⟨r,0,none⟩)),(.agg (ints m.flat).toArray)] T0 [A8 lg r s] (dG (λ_ H=>H=[A8 lg r (jc s m)])):=by
 refine BD 93 Tryz.func94 rfl rfl rfl λw0 F hF=>sr λ_ J1=>XY (ints m.flat) λb3=>?_
 refine nx J1 (sr λ_ J2=>FA 0 io aM ?_);refine LU 0 Y3 (jP m rfl) ?_;refine nx J2 (aq (sr λ_ J3=>PS ?_));refine ao ?_ ?_<;>intro h7;refine PS ?_;refine nx J3 (CY (ae (P3 ?_)));refine FA 2 io aZ ?_;refine LV 0 dP aZ ah RecT.sp_row (y:=m.row) ?_;refine PS ?_;refine FA 9 bh aZ ?_;refine gr (vs:=ints m.row.flat) (i:=1) (ab rfl) rfl rfl rfl rfl rfl (by rw[(ah m.row)];exact aZ) (bv _) rfl rfl (λ_=>LC (cJ _) (ah _)) (λa_=>(Mr (s.rep ⟨lg, .pointer none, .slice none 0 0⟩) 0 rfl (by have h1:=(ah m.row);omega) (cu ((ah ((s.rep ⟨lg, .pointer none, .slice none 0 0⟩).own)).trans (ah m.row).symm)))) (PS ?_);refine FA 1938 bh kd ?_;refine SK 1 kd (λ_=>cJ _) ?_ (hc:=by exact λa_=>(Mf _ rfl _));refine PS ?_;refine FA 1939 bh aM ?_;refine SK 1 aM (λ_=>cJ _) ?_ (hc:=by exact λa_=>(Me _ rfl _));refine au (ag (WK [1] (bu rfl ?_)));exact congrArg (λq=>[A8 lg r q]) (show(MS.setKept (MS.setBusy (MS.setOwn s m.row) true) 0)=jc s m by rw[jc,if_pos h7]<;>rfl);refine PS ?_;refine nx J3 (CN (sr λ_ J4=>PS ?_));refine ao ?_ ?_<;>intro h20;refine PS ?_;refine nx J4 (CY (D1 0 bc ?_));refine PD 0 ?_;refine PD 1 ?_;refine FD 2 183 bh oI ?_;refine FD 3 1 io aM ?_;refine LR 4 Y3 (Du m rfl) ?_;refine FD 5 2 io aZ ?_;refine ta 6 rfl (aJ (vs:=ints m.row.flat) rfl dP rfl aZ rfl (λ_ h=>h.2.1) (ah m.row) (qz m 0 rfl (by decide) (bj (ah m.row)))) ?_;refine AL 7 ?_
 refine CE Ih (Leg.Does.hid (λa_=>rl r 183 123 _ (eJ (s.rep ⟨lg, .pointer none, .slice none 0 0⟩)) s.mirror m.whose m.row hw)) (SM [1]) ?_;refine EN (DN (ag (WK [0] (bu rfl ?_))));exact congrArg (λq=>[A8 lg r q]) (show(ib s m.whose m.row)=jc s m by rw[jc,if_neg h7,if_pos h20]<;>rfl);refine PS ?_;refine nx J4 (CN (sr λ_ J5=>PS ?_));refine ao ?_ ?_<;>intro h30;refine PS ?_;refine nx J5 (CY (D1 0 bc ?_));refine PD 0 ?_;refine PD 1 ?_;refine FD 2 183 bh oI ?_;refine FD 3 1 io aM ?_;refine LR 4 Y3 (Du m rfl) ?_;refine AL 5 ?_;refine CE Ig (Leg.Does.hid (λa_=>rk r 183 123 _ (eJ (s.rep ⟨lg, .pointer none, .slice none 0 0⟩)) s.mirror m.whose)) (SM [1]) ?_;refine EN (DN (ag (WK [0] (bu rfl ?_))));exact congrArg (λq=>[A8 lg r q]) (show(lj s m.whose)=jc s m by rw[jc,if_neg h7,if_neg h20,if_pos h30]<;>rfl);refine PS ?_;refine nx J5 (CN (sr λ_ J6=>PS ?_));refine ao ?_ ?_<;>intro h38;refine PS ?_;refine nx J6 (CY (sr λ_ J7=>PS ?_));refine FA 177 io cp ?_;refine LV 0 jC cp am RecT.sp_ballot (y:=m.ballot) ?_;refine PS ?_;refine FA 1058 bh di ?_;refine FA 1059 im cp ?_
 refine gr (vs:=ints m.ballot.flat) (i:=1) (ab rfl) rfl rfl rfl rfl rfl (by rw[(am m.ballot)];exact cp) (bv _) rfl rfl (λ_=>LC (cJ _) (am _)) (λa_=>(jO (s.rep ⟨lg, .pointer none, .slice none 0 0⟩) 1 rfl (by have h1:=(am m.ballot);omega) (Mw ((s.rep ⟨lg, .pointer none, .slice none 0 0⟩).acc) 0 rfl (by have h1:=(am m.ballot);omega) (cu ((am (((s.rep ⟨lg, .pointer none, .slice none 0 0⟩).acc).vow)).trans (am m.ballot).symm))))) (nx J7 (D1 0 bc ?_));refine PD 0 ?_;refine PD 1 ?_;refine PD 2 ?_;refine FD 3 1066 bh aM ?_;refine FD 5 177 io cp ?_;refine FD 6 177 jC aM ?_;refine LX 7 Y3 (.int .i64 (m.ballot.round)) ?_ (hc:=by exact RecT.pt_ballot m 0 rfl (by decide) (eQ m.ballot rfl));refine AL 4 ?_;refine LG 1 Y3 (.int .i64 (s.round)) ?_ (hc:=by exact λa_=>(tG _ rfl));refine EN (ta 8 rfl (wX rfl rfl rfl) ?_);refine PD 9 ?_;refine FD 10 1066 bh aM ?_;refine AL 11 ?_;refine SK 1 aM (λ_=>cJ _) ?_ (hc:=by exact λa_=>(kY _ rfl _));refine EN (DN (ag (WK [1] (bu rfl ?_))));exact congrArg (λq=>[A8 lg r q]) (show(MS.setRound (MS.setAcc s (AccT.mk s.acc.epoch m.ballot s.acc.had s.acc.change)) (max s.round m.ballot.round))=jc s m by rw[jc,if_neg h7,if_neg h20,if_neg h30,if_pos h38]<;>rfl);refine PS ?_;refine nx J6 (CN (sr λ_ J8=>PS ?_));refine ao ?_ ?_<;>intro h57;refine PS ?_;refine nx J8 (CY (aa λ_ J9=>D1 0 bc ?_));refine PD 0 ?_;refine PD 1 ?_;refine PD 2 ?_;refine FD 3 177 io cp ?_
 refine ta 4 rfl (aJ (vs:=ints m.ballot.flat) rfl jC rfl cp rfl (λ_ h=>h.2.1) (am m.ballot) (pJ m 0 rfl (by decide) (bj (am m.ballot)))) ?_;refine FD 5 177 io cp ?_;refine ta 6 rfl (aJ (vs:=ints m.ballot.flat) rfl jC rfl cp rfl (λ_ h=>h.2.1) (am m.ballot) (pJ m 0 rfl (by decide) (bj (am m.ballot)))) ?_;refine FD 7 179 io e9 ?_;refine ta 8 rfl (aJ (vs:=ints m.change.flat) rfl mj rfl e9 rfl (λ_ h=>h.2.1) (aI m.change) (Jd m 0 rfl (by decide) (bj (aI m.change)))) ?_;refine PD 9 ?_;refine FD 10 1058 bh di ?_;refine FD 11 1059 im cp ?_;refine AL 12 ?_;refine gr (vs:=ints m.ballot.flat) (i:=1) (ab rfl) rfl rfl rfl rfl rfl (by rw[(am m.ballot)];exact cp) (bv _) rfl rfl (λ_=>LC (cJ _) (am _)) (λa_=>(jO (s.rep ⟨lg, .pointer none, .slice none 0 0⟩) 1 rfl (by have h1:=(am m.ballot);omega) (Mw ((s.rep ⟨lg, .pointer none, .slice none 0 0⟩).acc) 0 rfl (by have h1:=(am m.ballot);omega) (cu ((am (((s.rep ⟨lg, .pointer none, .slice none 0 0⟩).acc).vow)).trans (am m.ballot).symm))))) (EN (PD 13 ?_));refine FD 14 1058 bh di ?_;refine FD 15 1061 im cp ?_;refine AL 16 ?_
 refine gr (vs:=ints m.ballot.flat) (i:=1) (ab rfl) rfl rfl rfl rfl rfl (by rw[(am m.ballot)];exact cp) (bv _) rfl rfl (λ_=>LC (cJ _) (am _)) (λa_=>(jO ((MS.setAcc s (AccT.mk s.acc.epoch m.ballot s.acc.had s.acc.change)).rep ⟨lg, .pointer none, .slice none 0 0⟩) 3 rfl (by have h1:=(am m.ballot);omega) (AccT.wr_had_ (((MS.setAcc s (AccT.mk s.acc.epoch m.ballot s.acc.had s.acc.change)).rep ⟨lg, .pointer none, .slice none 0 0⟩).acc) 0 rfl (by have h1:=(am m.ballot);omega) (cu ((am ((((MS.setAcc s (AccT.mk s.acc.epoch m.ballot s.acc.had s.acc.change)).rep ⟨lg, .pointer none, .slice none 0 0⟩).acc).had)).trans (am m.ballot).symm))))) (EN (PD 17 ?_));refine FD 18 1058 bh di ?_;refine FD 19 1063 im e9 ?_;refine AL 20 ?_;refine gr (vs:=ints m.change.flat) (i:=1) (ab rfl) rfl rfl rfl rfl rfl (by rw[(aI m.change)];exact e9) (bv _) rfl rfl (λ_=>LC (cJ _) (aI _)) (λa_=>(jO ((MS.setAcc s (AccT.mk s.acc.epoch m.ballot m.ballot s.acc.change)).rep ⟨lg, .pointer none, .slice none 0 0⟩) 5 rfl (by have h1:=(aI m.change);omega) (AccT.wr_change_ (((MS.setAcc s (AccT.mk s.acc.epoch m.ballot m.ballot s.acc.change)).rep ⟨lg, .pointer none, .slice none 0 0⟩).acc) 0 rfl (by have h1:=(aI m.change);omega) (cu ((aI ((((MS.setAcc s (AccT.mk s.acc.epoch m.ballot m.ballot s.acc.change)).rep ⟨lg, .pointer none, .slice none 0 0⟩).acc).change)).trans (aI m.change).symm))))) (EN (DN (ac J9 (D1 0 bc ?_))));refine PD 0 ?_;refine PD 1 ?_;refine PD 2 ?_
 refine FD 3 1066 bh aM ?_;refine FD 5 177 io cp ?_;refine FD 6 177 jC aM ?_;refine LX 7 Y3 (.int .i64 (m.ballot.round)) ?_ (hc:=by exact RecT.pt_ballot m 0 rfl (by decide) (eQ m.ballot rfl));refine AL 4 ?_;refine LG 1 Y3 (.int .i64 (s.round)) ?_ (hc:=by exact λa_=>(tG _ rfl));refine EN (ta 8 rfl (wX rfl rfl rfl) ?_);refine PD 9 ?_;refine FD 10 1066 bh aM ?_;refine AL 11 ?_;refine SK 1 aM (λ_=>cJ _) ?_ (hc:=by exact λa_=>(kY _ rfl _));refine EN (DN (ag (WK [1] (bu rfl ?_))));exact congrArg (λq=>[A8 lg r q]) (show(MS.setRound (MS.setAcc s (AccT.mk s.acc.epoch m.ballot m.ballot m.change)) (max s.round m.ballot.round))=jc s m by rw[jc,if_neg h7,if_neg h20,if_neg h30,if_neg h38,if_pos h57]<;>rfl);refine PS ?_;refine nx J8 (CN (sr λ_ J10=>PS ?_));refine ao ?_ ?_<;>intro h88;refine PS ?_;refine nx J10 (CY (ae (PS ?_)));refine FA 182 io bf ?_;refine LV 0 eF bf an RecT.sp_view (y:=m.view) ?_;refine CZ IN (tf lg r s m.view) (SM [1]) λvR=>?_
 refine au (ag (WK [0] (bu rfl ?_)));exact congrArg (λq=>[A8 lg r q]) (show(ma s m.view)=jc s m by rw[jc,if_neg h7,if_neg h20,if_neg h30,if_neg h38,if_neg h57,if_pos h88]<;>rfl);refine PS ?_;refine nx J10 (CN (aS (ag (WK [1] (bu rfl ?_)))));exact congrArg (λq=>[A8 lg r q]) (show s=jc s m by rw[jc,if_neg h7,if_neg h20,if_neg h30,if_neg h38,if_neg h57,if_neg h88]<;>rfl)
theorem HC{bs:List UInt8}(h: ¬(mO bs).2≠0):WF (mO bs).1.row.flat:=by
 rcases Gw bs with⟨m,e,_,_,hw⟩|e
 · rw[e];exact hw
 · rw[e]at h;exact absurd (by decide) h
theorem zD{δ:Type}(e0:δ)(i:Int)(d:Nat)(D:DS)(hD:D.Ok)(hI:Wal.DS.In D)(hb:D.ws.length≤1000000):
 DT 55 #[(.int .i64 (i)),(.pointer (some ⟨d,0,none⟩))] T0 [dk d D] (dG (λr' H=>((bJ D).err≠0∧r'= .tuple #[.pointer none, .int .i64 (bJ D).err]∧H=[dk d (bJ D).D])∨((bJ D).err=0∧((kK (bJ D).recs (Af i e0)=none∧r'= .tuple #[.pointer none, .int .i64 1]∧H=[dk d (bJ D).D])∨∃s r lg,kK (bJ D).recs (Af i e0)=some s∧r'= .tuple #[.pointer (some ⟨r,0,none⟩), .int .i64 0]∧H=[A8 lg r s,EC lg d (((bJ D).recs.length:Nat):Int) (bJ D).used,dk d (bJ D).D])))):=by
 refine BD 50 Tryz.func55 rfl rfl rfl λw0 F hF=>sr λ_ J1=>P2 ?_
 refine nx J1 (aa λ_ J2=>sr λ_ J3=>PS ?_);refine tp (lq rfl vY rfl rfl) ?_;refine nx J3 (CN (qx J2 (sr λ_ J4=>PS ?_)));refine CR Lz (Eu d D hD hI hb) ID λvR HR hR=>?_
 rcases hR with⟨he,rfl,rfl⟩| ⟨he,lg,vr,rfl,rfl⟩
 refine P4 ?_;refine P3 ?_;refine nx J4 (aa λ_ J5=>sr λ_ J6=>P2 ?_);refine ao ?_ ?_<;>intro h23;refine nx J6 (CY (sr λ_ J7=>P3 ?_));exact nx J7 (ai (ad (WK [0] (hX rfl rfl rfl (.inl ⟨he,rfl,rfl⟩)))))
 · exact absurd he h23
 change TL _ _ _ _ _ _ _ _ _ [ak lg [(.pointer (some ⟨d,0,none⟩)),(.int .i64 ((((bJ D).recs.length:Nat):Int))),(.int .i64 ((bJ D).used))] 210,Lm vr (bJ D).recs,dk d (bJ D).D];refine wP (p:=od vr (bJ D).recs.length∧vr.oneCell'=true) (λw m=>by obtain⟨h,_,_,hs⟩:=m;obtain⟨_,_,_,_,a,_⟩:=en 1 (lb rfl) hs;exact sQ a) (λ⟨hsl,hvr⟩=>P4 ?_);refine P3 ?_;refine nx J4 (aa λ_ J8=>sr λ_ J9=>P2 ?_);refine nx J9 (CN (qx J8 (sr λ_ J10=>P2 ?_)))
 refine tp (wY (cs:=RepT.cells (RepT.mk i (.pointer (some ⟨lg,0,none⟩)) ViewT.zero RowT.zero MirT.zero AccT.zero 0 (.pointer none) BookT.zero false 0 0 0 (.slice none 0 0) (#v[0,0,0,0,0]) (#v[RowT.zero,RowT.zero,RowT.zero,RowT.zero,RowT.zero]))) (segs:=[[Value.int .i64 0],[(.pointer none)],ints ViewT.zero.flat,ints RowT.zero.flat,MirT.cells MirT.zero,ints AccT.zero.flat,[Value.int .i64 0],[(.pointer none)],ints BookT.zero.flat,[Value.bool false],[Value.int .i64 0],[Value.int .i64 0],[Value.int .i64 0],[(.slice none 0 0)],ints (#v[0,0,0,0,0]).toList,ints ((#v[RowT.zero,RowT.zero,RowT.zero,RowT.zero,RowT.zero]).toList.flatMap RowT.flat)]) (res:=[[Value.int .i64 i],[(.pointer (some ⟨lg,0,none⟩))],ints ViewT.zero.flat,ints RowT.zero.flat,MirT.cells MirT.zero,ints AccT.zero.flat,[Value.int .i64 0],[(.pointer none)],ints BookT.zero.flat,[Value.bool false],[Value.int .i64 0],[Value.int .i64 0],[Value.int .i64 0],[(.slice none 0 0)],ints (#v[0,0,0,0,0]).toList,ints ((#v[RowT.zero,RowT.zero,RowT.zero,RowT.zero,RowT.zero]).toList.flatMap RowT.flat)]) (parts:=[(0,[Value.int .i64 i]),(1,[(.pointer (some ⟨lg,0,none⟩))])]) rfl rfl bh (by kernel_rfl) (by kernel_rfl) rfl (eT rfl rfl (eT rfl ((rfl:[(.pointer (some ⟨lg,0,none⟩))].length=1).trans (rfl:[(.pointer none)].length=1).symm) kL)) (ec (RepT.mk i (.pointer (some ⟨lg,0,none⟩)) ViewT.zero RowT.zero MirT.zero AccT.zero 0 (.pointer none) BookT.zero false 0 0 0 (.slice none 0 0) (#v[0,0,0,0,0]) (#v[RowT.zero,RowT.zero,RowT.zero,RowT.zero,RowT.zero]))).symm) ?_
 refine XY (RepT.cells (RepT.mk i (.pointer (some ⟨lg,0,none⟩)) ViewT.zero RowT.zero MirT.zero AccT.zero 0 (.pointer none) BookT.zero false 0 0 0 (.slice none 0 0) (#v[0,0,0,0,0]) (#v[RowT.zero,RowT.zero,RowT.zero,RowT.zero,RowT.zero]))) λb28=>?_
 refine PS ?_;refine nx J10 (sr λ_ J11=>cn (H':=A8 lg b28 (Cv i e0)::[ak lg [(.pointer (some ⟨d,0,none⟩)),(.int .i64 ((((bJ D).recs.length:Nat):Int))),(.int .i64 ((bJ D).used))] 210,Lm vr (bJ D).recs,dk d (bJ D).D]) (λ_ q=>bm (p:=λ_:Unit=>[ak b28 (RepT.cells ((Cv i e0).rep ⟨lg, .pointer none, .slice none 0 0⟩)) 123]) () (aA [0] rfl q)) (PS ?_));refine CE L5 (B5) ID ?_;refine CZ IN (tf lg b28 (Cv i e0) firstV) ID λvR=>?_
 refine nx J11 (aa λ_ J12=>sr λ_ J13=>PS ?_);refine tp (cY rfl tD rfl hsl) ?_;refine PS ?_;refine nx J13 (aq ?_)
 refine bF (α:=(Nat)×(MS δ)) (λ⟨k,s⟩=>k≤(bJ D).recs.length∧kK (bJ D).recs (Af i e0)=kK ((bJ D).recs.drop k) s) (λ⟨k,s⟩=>[(9,(.pointer (some ⟨b28,0,none⟩))),(32,vr),(33,(.int .i64 ((((bJ D).recs.length:Nat):Int)))),(34,(.int .i64 (((k:Nat):Int))))]) (λ⟨k,s⟩=>[A8 lg b28 s,ak lg [(.pointer (some ⟨d,0,none⟩)),(.int .i64 ((((bJ D).recs.length:Nat):Int))),(.int .i64 ((bJ D).used))] 210,Lm vr (bJ D).recs,dk d (bJ D).D]) (λ⟨k,s⟩=>(bJ D).recs.length-k) (0,(Af i e0))
  ⟨aR _,rfl⟩ SB
  (λ_ s=>aj [0,0,0,0] rfl s) (λ⟨k,s⟩ hinv=>?_)
 obtain⟨hk,hrs⟩:=hinv;refine sr λ_ J14=>PS ?_
 refine ao ?_ ?_<;>intro h35;refine cn (λ_ s=>aA [2] rfl s) (Iw (λus=>?_));change TL _ _ _ _ _ _ _ _ _ [own vr ((bJ D).recs.length) (us) 93 1,ee us (bJ D).recs 5,A8 lg b28 s,ak lg [(.pointer (some ⟨d,0,none⟩)),(.int .i64 ((((bJ D).recs.length:Nat):Int))),(.int .i64 ((bJ D).used))] 210,dk d (bJ D).D];refine wP (p:=us.length=(bJ D).recs.length*1) (λw m=>m.own_len (i:=0) (lb rfl) rfl) (λhul=>?_);rw[fk]at hul;have hkl:k< (bJ D).recs.length:=by omega
 refine gG 0 rfl rfl (by omega) (λg cap hv hcap=>?_);have hvq:vr= .slice (some ⟨g,0,none⟩) (bJ D).recs.length cap:=hv;refine nx J14 (aa λ_ J15=>CY (qx J15 (aa λ_ J16=>aq (sr λ_ J17=>tp (a8 (r:=k) hv rfl tD mK rfl rfl (by omega) (by omega) (by omega)) ?_))));refine tp (bT (v:=(us.getD k undef)) rfl fq rfl rfl (eM 0 rfl hvq rfl) (by simp[List.getD_eq_getElem?_getD,show k<us.length by omega])) ?_;refine PS ?_;refine nx J17 (sr λ_ J18=>PS ?_);refine CF L1 (tv (us.getD k undef) (bJ D).recs[k]) ID (λg d s=>sB 1 hkl rfl rfl g d s) ?_;refine P3 ?_;refine XZ Jn (ints RecT.zero.flat) λb12=>?_
 refine SW 0 iw bi ?_;refine PS ?_;refine nx J18 (aa λ_ J19=>sr λ_ J20=>P2 ?_);refine ao ?_ ?_<;>intro h44;refine nx J20 (CY (sr λ_ J21=>P2 ?_));exact nx J21 (ai (ad (aH (ad (ad (aH (ad (WK [5] (hX rfl rfl rfl (.inr ⟨he, .inl ⟨hrs.trans (Ec hkl h44),rfl,rfl⟩⟩))))))))));refine nx J20 (CN (qx J19 (ae (PS ?_))));refine LW 0 io iw bi ?_;refine CZ Ly (wt lg b28 s (mO (bJ D).recs[k]).1 (HC h44)) (SM [3]) λvR=>?_
 refine au (ag (ac J16 (ae (AD ?_))));refine PS ?_;refine au ?_
 exact aL ((k+1,(jc s (mO (bJ D).recs[k]).1)):(Nat)×(MS δ)) ⟨by omega,hrs.trans (FM hkl h44)⟩ (by show(bJ D).recs.length- (k+1)< (bJ D).recs.length-k;omega)
  SB
  (λ_ s=>aA [1,1,0,0] rfl (bm (p:=λus:List Value=>[own vr (bJ D).recs.length us 93 1,ee us (bJ D).recs 5]) us (aj [2,2,0,1,1] rfl s)))
 refine nx J14 (aa λ_ J22=>CN (bg (aF (aF (bD (ac J12 (sr λ_ J23=>P3 ?_)))))));refine nx J23 (ai (WK [0,0,1] (hX rfl rfl rfl ?_)));exact .inr ⟨he, .inr ⟨s,b28,lg,by rw[hrs,cB (by omega)];rfl,rfl,rfl⟩⟩
def jS(k:Nat)(m:MsgT):List UInt8:=iG ((k / 5:Nat):Int) ((k%5:Nat):Int) (dC m)
def cC(W:List (List MsgT)):List (List (List UInt8)):=(List.range 25).map λk=>(W.getD k []).map (jS k)
theorem oA(W:List (List MsgT)):(cC W).length=25:=by simp[cC]
theorem mx(W:List (List MsgT)){k:Nat}(h:k<25):(cC W).getD k []=(W.getD k []).map (jS k):=by simp[cC,h,List.getD_eq_getElem?_getD]
theorem tZ(W:List (List MsgT)){k:Nat}(h:k<25)(hW:W.length=25)(l:List MsgT):(cC W).set k (l.map (jS k))=cC (W.set k l):=by
 refine List.ext_getElem? λj=>?_
 by_cases hj:j=k
 · subst hj
   rw[List.getElem?_set_self (by rw[oA];exact h)];simp[cC,h,List.getD_eq_getElem?_getD,List.getElem?_set_self (show j<W.length by omega)]
 · rw[List.getElem?_set_ne (λe=>hj e.symm)]
   unfold cC;rw[List.getElem?_map,List.getElem?_map]
   by_cases hk:j<25
   · simp[hk,List.getD_eq_getElem?_getD,List.getElem?_set_ne (λe=>hj e.symm)]
   · simp[hk]
theorem zn{f t:Int}(hf:gp f=true)(ht:gp t=true)(m:MsgT):jS (bp f t) m=iG f t (dC m):=by
 have h1:0≤f∧f<5:=of_decide_eq_true hf;have h2:0≤t∧t<5:=of_decide_eq_true ht;unfold jS bp;rw[show(((f.toNat*5+t.toNat) / 5:Nat):Int)=f by omega,show(((f.toNat*5+t.toNat)%5:Nat):Int)=t by omega]
theorem qP{f t:Int}(h:dw f t=true):gp f=true∧gp t=true:=by
 unfold dw at h;rw[ax,ax]at h;exact h.1
theorem Fk{W:List (List MsgT)}(hW:W.length=25){f:Nat}(s:SaidT):nN (cC W) ((f:Nat):Int) s.to' (iG ((f:Nat):Int) s.to' (dC s.msg))=cC (ra W f s):=by
 unfold nN ra;cases hv:dw ((f:Nat):Int) s.to'
 · rfl
 · obtain⟨h1,h2⟩:=gT hv
   obtain⟨h3,h4⟩:=qP hv;rw[if_pos rfl,if_pos rfl,mx W h1,←zn h3 h4,←tZ W h1 hW];unfold yx;rw[bH];split
   · rw[cr];rfl
   · rfl
theorem FQ(W:List (List MsgT))(f:Nat)(s:SaidT):(ra W f s).length=W.length:=by unfold ra;split<;>simp
theorem DV(W:List (List MsgT))(f:Nat)(l:List SaidT):(gh W f l).length=W.length:=by
 induction l generalizing W with
 |nil=>rfl
 |cons s l ih=>exact(ih _).trans (FQ _ _ _)
theorem DW(W:List (List MsgT))(f:Nat)(l:List SaidT)(s:SaidT):gh W f (l++[s])=ra (gh W f l) f s:=by simp[gh]
theorem tY(k:Nat)(m:MsgT):(jS k m).length≤1000000:=by
 unfold jS;rw[qk];have:=rB m;omega
theorem uX(c:Nat)(w:Int):
 DT 56 #[(.pointer (some ⟨c,0,none⟩)),(.int .i64 (w))] T0 [] (RI (.bool (gp w)) []):=by
 refine BD 15 Tryz.func56 rfl rfl rfl λw0 F hF=>sr λ_ J1=>PS ?_
 refine nx J1 (sr λ_ J2=>PS ?_);refine tp (iM rfl KU rfl rfl) ?_;refine P3 ?_;refine ao ?_ ?_<;>intro h9
 iterate 6 refine PS ?_
 refine nx J2 (ai (WK [] (ap rfl rfl ?_)));exact⟨congrArg Value.bool (by unfold gp;simp only[decide_eq_decide];omega),rfl⟩;refine P2 ?_;refine UF ?_;refine UF ?_;refine P2 ?_;refine nx J2 (ai (WK [] (ap rfl rfl ?_)));exact⟨congrArg Value.bool (by unfold gp;symm;exact decide_eq_false (by omega)),rfl⟩
theorem dV(c i:Nat)(hi:i<5):DT 56 #[.pointer (some ⟨c,0,none⟩), .int .i64 ((i:Nat):Int)] T0 [] (RI (.bool true) []):=by
 have:=uX c ((i:Nat):Int)
 rwa [show gp ((i:Nat):Int)=true from decide_eq_true ⟨by omega,by omega⟩]at this
theorem qR(c n i:Nat)(D M P:Nat→Value)(hi:i<5)(hM:M i= .pointer none):
 DT 16 #[(.pointer (some ⟨c,0,none⟩)),(.int .i64 (((i:Nat):Int)))] T0 [ak c (eE n D M P) 104] (RI (.bool false) [ak c (eE n D M P) 104]):=by
 refine BD 27 Tryz.func16 rfl rfl rfl λw0 F hF=>sr λ_ J1=>PS ?_
 refine nx J1 (sr λ_ J2=>P2 ?_);refine CE pG (dV c i hi) ID ?_;refine P4 ?_;refine FA 6 iK qV ?_;refine IX (6+i) Dr og ?_;refine LT 0 A6 (.pointer none) ?_ (hc:=by exact(wL n D M P hi).trans (congrArg some hM));refine tq (iq rfl A6 rfl rfl) ?_;refine P2 ?_
 iterate 8 refine UF ?_
 refine P2 ?_;exact nx J2 (ai (WK [0] (ap rfl rfl ⟨rfl,rfl⟩)))
theorem JJ (c i : Nat) : wg Tryz.prog 110 (JI c i) "Send" 203 := fun w => by kernel_rfl
theorem qQ(c n i:Nat)(D M P:Nat→Value)(hi:i<5)(d r:Nat)(e:DS)(hD:D i= .pointer (some ⟨d,0,none⟩))(hM:M i= .pointer (some ⟨r,0,none⟩)):
 DT 16 #[(.pointer (some ⟨c,0,none⟩)),(.int .i64 (((i:Nat):Int)))] T0 [ak c (eE n D M P) 104,dk d e] (RI (.bool (!e.dn)) [ak c (eE n D M P) 104,dk d e]):=by
 refine BD 27 Tryz.func16 rfl rfl rfl λw0 F hF=>sr λ_ J1=>PS ?_
 refine nx J1 (sr λ_ J2=>P2 ?_);refine CE pG (dV c i hi) ID ?_;refine P4 ?_;refine FA 6 iK qV ?_;refine IX (6+i) Dr og ?_;refine LT 0 A6 (.pointer (some ⟨r,0,none⟩)) ?_ (hc:=by exact(wL n D M P hi).trans (congrArg some hM));refine tq (iM rfl A6 rfl rfl) ?_
 iterate 5 refine PS ?_
 refine FA 1 iK sM ?_;refine IX (1+i) AZ oJ ?_;refine LT 0 vY (.pointer (some ⟨d,0,none⟩)) ?_ (hc:=by exact(Cj n D M P hi).trans (congrArg some hD));refine CE JW (Di d e) (SM [1]) ?_;refine tq (nq rfl rfl rfl) ?_;refine P2 ?_;exact nx J2 (ai (WK [1,0] (ap rfl rfl ⟨rfl,rfl⟩)))
theorem Bt(c n i:Nat)(D M P:Nat→Value)(hi:i<5)(d:Nat)(e:DS)(hD:D i= .pointer (some ⟨d,0,none⟩))(W:List (List MsgT))(hW:W.length=25)(to':Int)(m:MsgT):
 DT 203 #[(.agg #[(.pointer (some ⟨c,0,none⟩)),(.int .i64 (((i:Nat):Int)))]),(.int .i64 (to')),(.agg (ints m.flat).toArray)] T0 [ak c (eE n D M P) 104,dk d e,eb 156 208 5 n (cC W)] (dG (λ_ H=>H=[ak c (eE n D M P) 104,dk d e,eb 156 208 5 n (cC (if e.dn then W else ra W i ⟨to',m⟩))])):=by
 refine BD 27 Tryz.func203 rfl rfl rfl λw0 F hF=>sr λ_ J1=>XB λb3=>?_
 refine XY (ints m.flat) λb5=>?_
 refine nx J1 (aa λ_ J2=>D2 1 2 dF ?_);refine FD 0 0 Cu Jt ?_;refine LX 1 KU (.pointer (some ⟨c,0,none⟩)) ?_ (hc:=by exact rfl);refine FD 2 1 Cu aM ?_;refine LX 3 Y3 (.int .i64 (((i:Nat):Int))) ?_ (hc:=by exact rfl);refine PD 4 ?_;refine FD 5 1 iK sM ?_;refine IY 6 (1+i) AZ oJ ?_;refine LX 7 vY (.pointer (some ⟨d,0,none⟩)) ?_ (hc:=by exact(Cj n D M P hi).trans (congrArg some hD));refine AL 8 ?_;refine CE JW (Di d e) (SM [3]) ?_;refine aX ?_ ?_<;>intro h14;refine EN (PD 9 ?_);refine DN (ac J2 (CN (aS (WK [3,0,2] (bu rfl ?_)))));exact by rw[show e.dn=true by assumption];rfl
 refine EN (PD 9 ?_);refine DN (ac J2 (CY (qv (λw=>Frm F w∧w.heap[b3]?=some (.cells ([(.pointer (some ⟨c,0,none⟩)),(.int .i64 (((i:Nat):Int)))]).toArray 110 (0,0))∧w.heap[c]?=some (.cells (eE n D M P).toArray 104 (0,0))∧w.heap[b5]?=some (.cells (ints m.flat).toArray 178 (0,0))∧True) dF rfl (λ_ s=>⟨eP s,s.block 2 (lb rfl) rfl,s.block 3 (lb rfl) rfl,s.block 1 (lb rfl) rfl,trivial⟩) (FD 0 0 Cu Jt ?_))));refine LX 1 KU (.pointer (some ⟨c,0,none⟩)) ?_ (hc:=by exact rfl);refine PD 2 ?_;refine FD 3 0 iK yh ?_;refine LX 4 GK (.pointer (some ⟨n,0,none⟩)) ?_ (hc:=by exact yX n D M P);refine FD 5 1 Cu aM ?_;refine LX 6 Y3 (.int .i64 (((i:Nat):Int))) ?_ (hc:=by exact rfl);refine PD 7 ?_;refine LY 8 aY bW aG ?_;refine AL 9 ?_;refine CR JZ (Ax m) ID λvR HR hR=>?_
 obtain⟨_,rfl,rfl⟩:=hR;revert vR;intro ue;refine EN (AL 10 ?_);refine CQ J0 (wE n (cC W) ((i:Nat):Int) to' ue (dC m) (rB m) (oA W)) (SM [5]) (λg d s=>GT (tL 0 rfl rfl g d s)) λvR HR hR=>?_
 obtain⟨_,rfl⟩:=hR;rw[Fk hW ⟨to',m⟩];refine EN (DN (WK [5,2,0] (bu rfl ?_)));exact by rw[show e.dn=false by assumption];rfl
def Er(c n d i:Nat)(D M P:Nat→Value)(W:List (List MsgT))(e:LD)(l:List SaidT):HP:=bI [ak c (eE n D M P) 104,dk d e.D,eb 156 208 5 n (cC (gh W i l))]
section
variable {c n d i:Nat} {D M P:Nat→Value} {W:List (List MsgT)} {e:LD} {l:List SaidT} {H:List HP} {h:Hl}
theorem st(s:bI (Er c n d i D M P W e l::H) h):bI (ak c (eE n D M P) 104::dk d e.D::eb 156 208 5 n (cC (gh W i l))::H) h:=(bX [_,_,_] H).2 s
theorem sq(s:bI (ak c (eE n D M P) 104::dk d e.D::eb 156 208 5 n (cC (gh W i l))::H) h):bI (Er c n d i D M P W e l::H) h:=(bX [_,_,_] H).1 s
end
def vC(c n d i:Nat)(D M P:Nat→Value)(hi:i<5)(hD:D i= .pointer (some ⟨d,0,none⟩))(W:List (List MsgT))(hW:W.length=25):Env LD where
 toDk:=KD
 T:=110
 ov:=JI c i
 sf:=203
 E:=Er c n d i D M P W
 lg g e:=EC g d ((e.cnt:Nat):Int) e.used
 me:=JJ c i
 nm:=Ka
 say e l to' m _:=by
  refine Leg.Does.conv (Bt c n i D M P hi d e.D hD (gh W i l) (by rw[DV];exact hW) to' m) (λh s=>st s) λx H F w hp hs=>?_
  cases x with
  |returned v=>
   obtain rfl:=hp;refine⟨_,hs.mono (λh s=>sq (l:=if KD.dn e then l else l++[SaidT.mk to' m]) ?_),rfl⟩
   have q:gh W i (if KD.dn e then l else l++[SaidT.mk to' m])=if e.D.dn then gh W i l else ra (gh W i l) i ⟨to',m⟩:=by
    show gh W i (if e.D.dn then l else _)=_;split
    · rfl
    · exact DW ..
   rw[q];exact s
  |panicked c=>exact hp.elim
  |outgrown=>exact hp.elim
 put g x bs e l hok hlen:=by
  refine Leg.Does.withinR (A:=[EC g d ((e.cnt:Nat):Int) e.used,dk d e.D]) (B:=[ak c (eE n D M P) 104,eb 156 208 5 n (cC (gh W i l))]) (zp g d e.cnt e.used x bs e.D hok.dk.ok (by have:=hok.dk.ws;omega) hok.used (by have:=hok.cnt;have:=hok.used;omega)) (λF g h dj=>K8 h dj) (λh s=>?_) λv H hp=>?_
  · exact aA [3,1,0,0] rfl (st (aA [1,0] rfl s))
  · obtain⟨hv,rfl⟩:=hp
    exact⟨[EC g d (((e.put bs).1.cnt:Nat):Int) (e.put bs).1.used,Er c n d i D M P W (e.put bs).1 l],λh s=>aA [1,0] rfl (sq (e:=(e.put bs).1) (l:=l) (aA [2,1,1,0] rfl s)),hv,rfl⟩
abbrev kO(v:Value)(l:List ReplyT):HP:=own v l.length (ints (List.flatMap ReplyT.flat l)) 37 3
abbrev FH(s:MS LD)(d r:Nat)(a:Adr):List HP:=[ak r (RepT.cells (s.rep a)) 123,EC a.lg d ((s.e.cnt:Nat):Int) s.e.used,kO a.rs s.replies,DF a.vo s.vote]
abbrev gC(s:MS LD)(d r:Nat):HP:=pack (FH s d r)
def pF(x:Slot)(d r:Nat):HP:=match x.run with
 |some s=>gC s d r
 |none=>λ_=>True
abbrev jL(x:Slot)(d r:Nat)(p:Value):List HP:=[dk d x.dk,kO p x.past,pF x d r]
def kI(x:Slot)(d r:Nat)(p:Value):HP:=bI (jL x d r p)
structure CX where
 n:Nat
 d:Nat→Nat
 r:Nat→Nat
 p:Nat→Value
abbrev mc(g:CX):Nat→Value:=λi=> .pointer (some ⟨g.d i,0,none⟩)
def wC(x:Slot)(r:Nat):Value:=match x.run with
 |some _=> .pointer (some ⟨r,0,none⟩)
 |none=> .pointer none
abbrev jF(a:CL)(r:Nat→Nat):Nat→Value:=λi=>wC (a.at' i) (r i)
abbrev rF(c:Nat)(a:CL)(g:CX):List HP:=[ak c (eE g.n (mc g) (jF a g.r) g.p) 104,eb 156 208 5 g.n (cC a.W),bI ((List.range 5).map λi=>kI (a.at' i) (g.d i) (g.r i) (g.p i))]
def fN(c:Nat)(a:CL):HP:=pack (rF c a)
section
variable {c n d i r:Nat} {D M P:Nat→Value} {W:List (List MsgT)} {s:MS LD} {H:List HP} {h:Hl} {hi:i<5} {hD:D i= .pointer (some ⟨d,0,none⟩)} {hW:W.length=25}
theorem BM(ho:s.o=[])(q:bI (ak c (eE n D M P) 104::dk d s.e.D::eb 156 208 5 n (cC W)::gC s d r::H) h):bI (cA (vC c n d i D M P hi hD W hW) r s::H) h:=by
 obtain⟨a,q⟩:=fi (aA [3,0,0,0] rfl q);have q2:=aA [4,4,4,0,0,0,0] rfl q;have q3:=sq (i:=i) (W:=W) (e:=s.e) (l:=[]) q2;refine bm (p:=λa:Adr=>[ak r (RepT.cells (s.rep a)) 123,EC a.lg d ((s.e.cnt:Nat):Int) s.e.used,kO a.rs s.replies,DF a.vo s.vote,Er c n d i D M P W s.e s.o]) a ?_;rw[ho];exact aA [1,1,1,1,0] rfl q3
theorem yG(q:bI (cA (vC c n d i D M P hi hD W hW) r s::H) h):bI (ak c (eE n D M P) 104::dk d s.e.D::eb 156 208 5 n (cC (gh W i s.o))::gC s.hush d r::H) h:=by
 obtain⟨a,q⟩:=fi q;have q1:bI ([ak r (RepT.cells (s.rep a)) 123,EC a.lg d ((s.e.cnt:Nat):Int) s.e.used,kO a.rs s.replies,DF a.vo s.vote,Er c n d i D M P W s.e s.o]++H) h:=q;have q2:=st (aA [4,0,0,0,0] rfl q1);have q3:=bm (p:=FH s.hush d r) a (aA [3,3,3,3,0,0,0] rfl q2);exact aA [1,1,1,0] rfl q3
end
theorem Cd(c n i:Nat)(D M P:Nat→Value)(hi:i<5)(d r:Nat)(s:MS LD)(hD:D i= .pointer (some ⟨d,0,none⟩))(hM:M i= .pointer (some ⟨r,0,none⟩))(W:List (List MsgT))(hW:W.length=25)(ho:s.o=[])(hs:OkR KD s)(o:OpT)(k:Int)(hk:0≤k∧k≤4)(hch:OkCh o.change)(hrs:s.replies.length≤1000000):
 DT 17 #[(.pointer (some ⟨c,0,none⟩)),(.agg (ints (OpT.mk k ((i:Nat):Int) o.to' o.key o.n o.change o.mask o.torn o.cut).flat).toArray)] T0 [ak c (eE n D M P) 104,dk d s.e.D,eb 156 208 5 n (cC W),gC s d r] (dG (λv H=>(s.e.D.dn=true∧v= .int .i64 4∧H=[ak c (eE n D M P) 104,dk d s.e.D,eb 156 208 5 n (cC (W)),gC s d r])∨(s.e.D.dn=false∧v= .int .i64 (bO KD s ((OpT.mk k ((i:Nat):Int) o.to' o.key o.n o.change o.mask o.torn o.cut))).2∧H=[ak c (eE n D M P) 104,dk d (bO KD s ((OpT.mk k ((i:Nat):Int) o.to' o.key o.n o.change o.mask o.torn o.cut))).1.hush.e.D,eb 156 208 5 n (cC (gh W i (bO KD s ((OpT.mk k ((i:Nat):Int) o.to' o.key o.n o.change o.mask o.torn o.cut))).1.o)),gC (bO KD s ((OpT.mk k ((i:Nat):Int) o.to' o.key o.n o.change o.mask o.torn o.cut))).1.hush d r]))):=by
 refine BD 114 Tryz.func17 rfl rfl rfl λw0 F hF=>sr λ_ J1=>XY (ints (OpT.mk k ((i:Nat):Int) o.to' o.key o.n o.change o.mask o.torn o.cut).flat) λb3=>?_
 refine PS ?_;refine nx J1 (aa λ_ J2=>sr λ_ J3=>PS ?_);refine FA 1 eV aM ?_;refine LT 0 Y3 (.int .i64 (((i:Nat):Int))) ?_ (hc:=by exact bE _ rfl);refine CE pG (dV c i hi) ID ?_;refine PS ?_;refine nx J3 (CN (qx J2 (aa λ_ J4=>sr λ_ J5=>FA 0 eV aM ?_)));refine LT 0 Y3 (.int .i64 (k)) ?_ (hc:=by exact cF _ rfl);refine nx J5 (aq (aa λ_ J6=>eH (α:=Unit) (λ_u=>True) (λ_u=>[(0,(.pointer (some ⟨c,0,none⟩))),(3,(.pointer (some ⟨b3,0,none⟩))),(4,(.int .i64 0)),(11,(.int .i64 (k))),(12,(.bool true))]) (λ_u=>[ak b3 (ints (OpT.mk k ((i:Nat):Int) o.to' o.key o.n o.change o.mask o.torn o.cut).flat) 30,ak c (eE n D M P) 104,dk d s.e.D,eb 156 208 5 n (cC W),gC s d r]) (λ_u hinv=>?_) (λtl6=>?_)));have _:=hinv;refine ac J6 (CY (aa λ_ J7=>sr λ_ J8=>PS ?_));refine FA 1 eV aM ?_;refine LT 0 Y3 (.int .i64 (((i:Nat):Int))) ?_ (hc:=by exact bE _ rfl);refine CE Ae (qQ c n i D M P hi d r s.e.D hD hM) (SM [1,1]) ?_;refine aX ?_ ?_<;>intro h21;refine PS ?_;refine nx J8 (CN (qx J7 (aa λ_ J9=>D2 2 0 dF ?_)));refine PD 0 ?_;refine FD 1 1 eV aM ?_;refine LX 2 Y3 (.int .i64 (((i:Nat):Int))) ?_ (hc:=by exact bE _ rfl);refine PD 3 ?_;refine FD 4 6 iK qV ?_;refine IY 5 (6+i) Dr og ?_;refine LX 6 A6 (.pointer (some ⟨r,0,none⟩)) ?_ (hc:=by exact(wL n D M P hi).trans (congrArg some hM));refine PD 7 ?_;refine FD 8 1 eV aM ?_
 refine LX 9 Y3 (.int .i64 (((i:Nat):Int))) ?_ (hc:=by exact bE _ rfl);refine ta 10 rfl (ju (cells:=#[(.pointer (some ⟨c,0,none⟩)),(.int .i64 (((i:Nat):Int)))]) rfl rfl (by as_aux_lemma=>kernel_rfl)) ?_;refine ta 11 rfl (oj rfl Cu rfl rfl) ?_;refine LY 12 eV oH fG ?_;refine AL 13 ?_;refine cn (H':=[cA (vC c n d i D M P hi hD W hW) r s,ak b3 (ints (OpT.mk k ((i:Nat):Int) o.to' o.key o.n o.change o.mask o.torn o.cut).flat) 30]) (λ_ q=>BM ho (aA [0,0,1,1] rfl q)) (CE LO (@yW _ (vC c n d i D M P hi hD W hW) r s ((OpT.mk k ((i:Nat):Int) o.to' o.key o.n o.change o.mask o.torn o.cut)) hs hch hrs) ID ?_);change TL _ _ _ _ _ _ _ _ _ [cA (vC c n d i D M P hi hD W hW) r ((bO KD s ((OpT.mk k ((i:Nat):Int) o.to' o.key o.n o.change o.mask o.torn o.cut))).1),ak b3 (ints (OpT.mk k ((i:Nat):Int) o.to' o.key o.n o.change o.mask o.torn o.cut).flat) 30];refine cn (H':=[ak c (eE n D M P) 104,dk d (((bO KD s ((OpT.mk k ((i:Nat):Int) o.to' o.key o.n o.change o.mask o.torn o.cut))).1).e.D),eb 156 208 5 n (cC (gh W i ((bO KD s ((OpT.mk k ((i:Nat):Int) o.to' o.key o.n o.change o.mask o.torn o.cut))).1).o)),gC (((bO KD s ((OpT.mk k ((i:Nat):Int) o.to' o.key o.n o.change o.mask o.torn o.cut))).1).hush) d r,ak b3 (ints (OpT.mk k ((i:Nat):Int) o.to' o.key o.n o.change o.mask o.torn o.cut).flat) 30]) (λ_ q=>yG (s:=(bO KD s ((OpT.mk k ((i:Nat):Int) o.to' o.key o.n o.change o.mask o.torn o.cut))).1) q) (EN (PD 14 ?_))
 refine DN (ac J9 (ai (aH (ad (WK [0,0,0,0] (ap rfl rfl ?_))))));exact .inr ⟨(by simpa using h21),rfl,rfl⟩;refine PS ?_;refine nx J8 (CY (sr λ_ J10=>PS ?_));refine nx J10 (ai (ad (aH (ad (WK [0,0,1,1] (ap rfl rfl ?_))))));exact .inl ⟨(by simpa using h21),rfl,rfl⟩;refine sr λ_ J11=>P2 ?_
 refine ao ?_ ?_<;>intro h12;refine nx J11 (CY (aS ?_))
 exact aD
  SB
  (λ_ s=>aj [0,0,0,0,0] rfl s)
  (tl6 (():Unit) trivial)
 refine nx J11 (CN (sr λ_ J12=>P2 ?_));refine ao ?_ ?_<;>intro h12;refine nx J12 (CY (aS ?_))
 exact aD
  SB
  (λ_ s=>aj [0,0,0,0,0] rfl s)
  (tl6 (():Unit) trivial)
 refine nx J12 (CN (sr λ_ J13=>P2 ?_));refine ao ?_ ?_<;>intro h12;refine nx J13 (CY (aS ?_))
 exact aD
  SB
  (λ_ s=>aj [0,0,0,0,0] rfl s)
  (tl6 (():Unit) trivial)
 refine nx J13 (CN (sr λ_ J14=>P2 ?_));refine ao ?_ ?_<;>intro h12;refine nx J14 (CY (aS ?_))
 exact aD
  SB
  (λ_ s=>aj [0,0,0,0,0] rfl s)
  (tl6 (():Unit) trivial)
 refine nx J14 (CN (ae (PS ?_)));refine ao ?_ ?_<;>intro h17;refine PS ?_;refine au ?_
 exact aD
  SB
  (λ_ s=>aj [0,0,0,0,0] rfl s)
  (tl6 (():Unit) trivial)
 · exact absurd h17 (by omega)
theorem AI(c n i:Nat)(D M P:Nat→Value)(hi:i<5)(hM:M i= .pointer none)(o:OpT)(k:Int)(hk:0≤k∧k≤4):
 DT 17 #[(.pointer (some ⟨c,0,none⟩)),(.agg (ints (OpT.mk k ((i:Nat):Int) o.to' o.key o.n o.change o.mask o.torn o.cut).flat).toArray)] T0 [ak c (eE n D M P) 104] (RI (.int .i64 4) [ak c (eE n D M P) 104]):=by
 refine BD 114 Tryz.func17 rfl rfl rfl λw0 F hF=>sr λ_ J1=>XY (ints (OpT.mk k ((i:Nat):Int) o.to' o.key o.n o.change o.mask o.torn o.cut).flat) λb3=>?_
 refine PS ?_;refine nx J1 (aa λ_ J2=>sr λ_ J3=>PS ?_);refine FA 1 eV aM ?_;refine LT 0 Y3 (.int .i64 (((i:Nat):Int))) ?_ (hc:=by exact bE _ rfl);refine CE pG (dV c i hi) ID ?_;refine PS ?_;refine nx J3 (CN (qx J2 (aa λ_ J4=>sr λ_ J5=>FA 0 eV aM ?_)));refine LT 0 Y3 (.int .i64 (k)) ?_ (hc:=by exact cF _ rfl);refine nx J5 (aq (aa λ_ J6=>eH (α:=Unit) (λ_u=>True) (λ_u=>[(0,(.pointer (some ⟨c,0,none⟩))),(3,(.pointer (some ⟨b3,0,none⟩))),(4,(.int .i64 0)),(11,(.int .i64 (k))),(12,(.bool true))]) (λ_u=>[ak b3 (ints (OpT.mk k ((i:Nat):Int) o.to' o.key o.n o.change o.mask o.torn o.cut).flat) 30,ak c (eE n D M P) 104]) (λ_u hinv=>?_) (λtl6=>?_)));have _:=hinv;refine ac J6 (CY (aa λ_ J7=>sr λ_ J8=>PS ?_));refine FA 1 eV aM ?_;refine LT 0 Y3 (.int .i64 (((i:Nat):Int))) ?_ (hc:=by exact bE _ rfl);refine CE Ae (qR c n i D M P hi hM) (SM [1]) ?_;refine PS ?_;refine nx J8 (CY (sr λ_ J9=>PS ?_));exact nx J9 (ai (ad (aH (ad (WK [0] (ap rfl rfl ⟨rfl,rfl⟩))))));refine sr λ_ J10=>P2 ?_
 refine ao ?_ ?_<;>intro h12;refine nx J10 (CY (aS ?_))
 exact aD
  SB
  (λ_ s=>aj [0,0] rfl s)
  (tl6 (():Unit) trivial)
 refine nx J10 (CN (sr λ_ J11=>P2 ?_));refine ao ?_ ?_<;>intro h12;refine nx J11 (CY (aS ?_))
 exact aD
  SB
  (λ_ s=>aj [0,0] rfl s)
  (tl6 (():Unit) trivial)
 refine nx J11 (CN (sr λ_ J12=>P2 ?_));refine ao ?_ ?_<;>intro h12;refine nx J12 (CY (aS ?_))
 exact aD
  SB
  (λ_ s=>aj [0,0] rfl s)
  (tl6 (():Unit) trivial)
 refine nx J12 (CN (sr λ_ J13=>P2 ?_));refine ao ?_ ?_<;>intro h12;refine nx J13 (CY (aS ?_))
 exact aD
  SB
  (λ_ s=>aj [0,0] rfl s)
  (tl6 (():Unit) trivial)
 refine nx J13 (CN (ae (PS ?_)));refine ao ?_ ?_<;>intro h17;refine PS ?_;refine au ?_
 exact aD
  SB
  (λ_ s=>aj [0,0] rfl s)
  (tl6 (():Unit) trivial)
 · exact absurd h17 (by omega)
theorem B8(c n i:Nat)(D M P:Nat→Value)(hi:i<5)(d r:Nat)(s:MS LD)(hD:D i= .pointer (some ⟨d,0,none⟩))(hM:M i= .pointer (some ⟨r,0,none⟩))(W:List (List MsgT))(hW:W.length=25)(ho:s.o=[])(hs:OkR KD s)(o:OpT):
 DT 17 #[(.pointer (some ⟨c,0,none⟩)),(.agg (ints (OpT.mk 8 ((i:Nat):Int) o.to' o.key o.n o.change o.mask o.torn o.cut).flat).toArray)] T0 [ak c (eE n D M P) 104,dk d s.e.D,eb 156 208 5 n (cC W),gC s d r] (dG (λv H=>(s.e.D.dn=true∧v= .int .i64 4∧H=[ak c (eE n D M P) 104,dk d s.e.D,eb 156 208 5 n (cC (W)),gC s d r])∨(s.e.D.dn=false∧v= .int .i64 0∧H=[ak c (eE n D M P) 104,dk d (gU KD s).hush.e.D,eb 156 208 5 n (cC (gh W i (gU KD s).o)),gC (gU KD s).hush d r]))):=by
 refine BD 114 Tryz.func17 rfl rfl rfl λw0 F hF=>sr λ_ J1=>XY (ints (OpT.mk 8 ((i:Nat):Int) o.to' o.key o.n o.change o.mask o.torn o.cut).flat) λb3=>?_
 refine PS ?_;refine nx J1 (aa λ_ J2=>sr λ_ J3=>PS ?_);refine FA 1 eV aM ?_;refine LT 0 Y3 (.int .i64 (((i:Nat):Int))) ?_ (hc:=by exact bE _ rfl);refine CE pG (dV c i hi) ID ?_;refine PS ?_;refine nx J3 (CN (qx J2 (aa λ_ J4=>sr λ_ J5=>FA 0 eV aM ?_)));refine LT 0 Y3 (.int .i64 8) ?_ (hc:=by exact cF _ rfl);refine nx J5 (aq (aa λ_ J6=>sr λ_ J7=>P2 ?_));refine nx J7 (CN (sr λ_ J8=>P2 ?_));refine nx J8 (CN (sr λ_ J9=>P2 ?_));refine nx J9 (CN (sr λ_ J10=>P2 ?_));refine nx J10 (CN (ae (P2 ?_)));refine nx J6 (CN (aa λ_ J11=>sr λ_ J12=>P2 ?_));refine nx J12 (CN (sr λ_ J13=>P2 ?_));refine nx J13 (CN (ae (P2 ?_)));refine nx J11 (CN (sr λ_ J14=>P2 ?_));refine nx J14 (CY (aa λ_ J15=>sr λ_ J16=>PS ?_));refine FA 1 eV aM ?_;refine LT 0 Y3 (.int .i64 (((i:Nat):Int))) ?_ (hc:=by exact bE _ rfl);refine CE Ae (qQ c n i D M P hi d r s.e.D hD hM) (SM [1,1]) ?_;refine aX ?_ ?_<;>intro h49;refine PS ?_;refine nx J16 (CN (qx J15 (D2 2 0 dF ?_)));refine PD 0 ?_;refine FD 1 1 eV aM ?_;refine LX 2 Y3 (.int .i64 (((i:Nat):Int))) ?_ (hc:=by exact bE _ rfl);refine PD 3 ?_;refine FD 4 6 iK qV ?_;refine IY 5 (6+i) Dr og ?_;refine LX 6 A6 (.pointer (some ⟨r,0,none⟩)) ?_ (hc:=by exact(wL n D M P hi).trans (congrArg some hM));refine PD 7 ?_;refine FD 8 1 eV aM ?_;refine LX 9 Y3 (.int .i64 (((i:Nat):Int))) ?_ (hc:=by exact bE _ rfl)
 refine ta 10 rfl (ju (cells:=#[(.pointer (some ⟨c,0,none⟩)),(.int .i64 (((i:Nat):Int)))]) rfl rfl (by as_aux_lemma=>kernel_rfl)) ?_;refine ta 11 rfl (oj rfl Cu rfl rfl) ?_;refine AL 12 ?_;refine cn (H':=[cA (vC c n d i D M P hi hD W hW) r s,ak b3 (ints (OpT.mk 8 ((i:Nat):Int) o.to' o.key o.n o.change o.mask o.torn o.cut).flat) 30]) (λ_ q=>BM ho (aA [0,0,1,1] rfl q)) (CZ LM (@Bj _ (vC c n d i D M P hi hD W hW) r s hs) ID λvR=>?_);change TL _ _ _ _ _ _ _ _ _ [cA (vC c n d i D M P hi hD W hW) r (gU KD s),ak b3 (ints (OpT.mk 8 ((i:Nat):Int) o.to' o.key o.n o.change o.mask o.torn o.cut).flat) 30];refine cn (H':=[ak c (eE n D M P) 104,dk d ((gU KD s).e.D),eb 156 208 5 n (cC (gh W i (gU KD s).o)),gC ((gU KD s).hush) d r,ak b3 (ints (OpT.mk 8 ((i:Nat):Int) o.to' o.key o.n o.change o.mask o.torn o.cut).flat) 30]) (λ_ q=>yG (s:=(gU KD s)) q) (EN (DN (ag (ac J4 (sr λ_ J17=>PS ?_)))));refine nx J17 (ai (WK [0,0,0,0] (ap rfl rfl ?_)));exact .inr ⟨(by simpa using h49),rfl,rfl⟩;refine PS ?_;refine nx J16 (CY (sr λ_ J18=>PS ?_));refine nx J18 (ai (ad (aH (ad (WK [0,0,1,1] (ap rfl rfl ?_))))));exact .inl ⟨(by simpa using h49),rfl,rfl⟩
theorem AG(c n i:Nat)(D M P:Nat→Value)(hi:i<5)(hM:M i= .pointer none)(o:OpT):
 DT 17 #[(.pointer (some ⟨c,0,none⟩)),(.agg (ints (OpT.mk 8 ((i:Nat):Int) o.to' o.key o.n o.change o.mask o.torn o.cut).flat).toArray)] T0 [ak c (eE n D M P) 104] (RI (.int .i64 4) [ak c (eE n D M P) 104]):=by
 refine BD 114 Tryz.func17 rfl rfl rfl λw0 F hF=>sr λ_ J1=>XY (ints (OpT.mk 8 ((i:Nat):Int) o.to' o.key o.n o.change o.mask o.torn o.cut).flat) λb3=>?_
 refine PS ?_;refine nx J1 (aa λ_ J2=>sr λ_ J3=>PS ?_);refine FA 1 eV aM ?_;refine LT 0 Y3 (.int .i64 (((i:Nat):Int))) ?_ (hc:=by exact bE _ rfl);refine CE pG (dV c i hi) ID ?_;refine PS ?_;refine nx J3 (CN (qx J2 (aa λ_ J4=>sr λ_ J5=>FA 0 eV aM ?_)));refine LT 0 Y3 (.int .i64 8) ?_ (hc:=by exact cF _ rfl);refine nx J5 (aq (aa λ_ J6=>sr λ_ J7=>P2 ?_));refine nx J7 (CN (sr λ_ J8=>P2 ?_));refine nx J8 (CN (sr λ_ J9=>P2 ?_));refine nx J9 (CN (sr λ_ J10=>P2 ?_));refine nx J10 (CN (ae (P2 ?_)));refine nx J6 (CN (aa λ_ J11=>sr λ_ J12=>P2 ?_));refine nx J12 (CN (sr λ_ J13=>P2 ?_));refine nx J13 (CN (ae (P2 ?_)));refine nx J11 (CN (sr λ_ J14=>P2 ?_));refine nx J14 (CY (aa λ_ J15=>sr λ_ J16=>PS ?_));refine FA 1 eV aM ?_;refine LT 0 Y3 (.int .i64 (((i:Nat):Int))) ?_ (hc:=by exact bE _ rfl);refine CE Ae (qR c n i D M P hi hM) (SM [1]) ?_;refine PS ?_;refine nx J16 (CY (sr λ_ J17=>PS ?_));exact nx J17 (ai (ad (aH (ad (WK [0] (ap rfl rfl ⟨rfl,rfl⟩))))))
theorem D9(s:MS LD)(d r:Nat)(h:s.replies.length≤1000000):DT 19 #[.pointer (some ⟨r,0,none⟩)] T0 [gC s d r] (dG λv H=>∃u,v=u∧H=[gC s d r,kO u s.replies]):=
 Leg.Does.pack (B:=[]) λa=>Leg.Does.withinR (A:=[ak r (RepT.cells (s.rep a)) 123,kO a.rs s.replies]) (B:=[EC a.lg d ((s.e.cnt:Nat):Int) s.e.used,DF a.vo s.vote]) (ys r (s.rep a) s.replies h) (λ_ _ _ _=>trivial) (λ_ q=>aA [0,1,0,0] rfl q) λv H hp=>by
  obtain⟨u,rfl,rfl⟩:=hp;exact⟨_,λ_ q=>bm (p:=FH s d r) (H:=[kO v s.replies]) a (aA [0,2,0,1,0] rfl q),v,rfl,rfl⟩
theorem uS(c n i:Nat)(D M P:Nat→Value)(hi:i<5)(hM:M i= .pointer none)(pl:List ReplyT)(hpl:pl.length≤100000):
 DT 15 #[(.pointer (some ⟨c,0,none⟩)),(.int .i64 (((i:Nat):Int)))] T0 [ak c (eE n D M P) 104,own (P i) ((pl).length) (ints (List.flatMap ReplyT.flat (pl))) 37 3] (dG (λv H=>∃u,u.oneCell'=true∧v=u∧H=[ak c (eE n D M P) 104,kO (P i) pl,kO u pl])):=by
 refine BD 34 Tryz.func15 rfl rfl rfl λw0 F hF=>sr λ_ J1=>PS ?_
 refine nx J1 (aa λ_ J2=>sr λ_ J3=>P2 ?_);refine CE pG (dV c i hi) ID ?_;refine PS ?_;refine nx J3 (CN (qx J2 (sr λ_ J4=>P3 ?_)));refine FA 11 iK CA ?_;refine IX (11+i) HQ wo ?_;refine LT 0 Cs (P i) ?_ (hc:=by exact KQ n D M P hi);refine KV 37 3 (λ_=>co (k:=0) (news:=ints (List.flatMap ReplyT.flat (pl))) (nn':=(pl).length) (xs':=ints (List.flatMap ReplyT.flat (pl))) (ab rfl) rfl rfl rfl Cs EL rfl rfl rfl rfl rfl rfl (λ_ s=>Mp 2 rfl rfl s) (bv _) (by simp only[maxLen];omega) (by omega) (by simp) (by simp) (λv16 ov16=>PS ?_));refine nx J4 (aa λ_ J5=>sr λ_ J6=>P3 ?_);refine FA 6 iK qV ?_;refine IX (6+i) Dr og ?_;refine LT 1 A6 (.pointer none) ?_ (hc:=by exact(wL n D M P hi).trans (congrArg some hM));refine tp (iq rfl A6 rfl rfl) ?_;refine nx J6 (CN (qx J5 (sr λ_ J7=>P2 ?_)));exact nx J7 (ai (WK [1,1,0] (ap rfl rfl ⟨_,ov16,rfl,rfl⟩)))
theorem uR(c n i:Nat)(D M P:Nat→Value)(hi:i<5)(d:Nat)(r:Nat)(s:MS LD)(hM:M i= .pointer (some ⟨r,0,none⟩))(pl:List ReplyT)(hpl:pl.length≤100000)(hrs:s.replies.length≤100000):
 DT 15 #[(.pointer (some ⟨c,0,none⟩)),(.int .i64 (((i:Nat):Int)))] T0 [ak c (eE n D M P) 104,own (P i) ((pl).length) (ints (List.flatMap ReplyT.flat (pl))) 37 3,gC s d r] (dG (λv H=>∃u,u.oneCell'=true∧v=u∧H=[ak c (eE n D M P) 104,kO (P i) pl,gC s d r,kO u (pl++s.replies)])):=by
 refine BD 34 Tryz.func15 rfl rfl rfl λw0 F hF=>sr λ_ J1=>PS ?_
 refine nx J1 (aa λ_ J2=>sr λ_ J3=>P2 ?_);refine CE pG (dV c i hi) ID ?_;refine PS ?_;refine nx J3 (CN (qx J2 (sr λ_ J4=>P3 ?_)));refine FA 11 iK CA ?_;refine IX (11+i) HQ wo ?_;refine LT 0 Cs (P i) ?_ (hc:=by exact KQ n D M P hi);refine KV 37 3 (λ_=>co (k:=0) (news:=ints (List.flatMap ReplyT.flat (pl))) (nn':=(pl).length) (xs':=ints (List.flatMap ReplyT.flat (pl))) (ab rfl) rfl rfl rfl Cs EL rfl rfl rfl rfl rfl rfl (λ_ s=>Mp 2 rfl rfl s) (bv _) (by simp only[maxLen];omega) (by omega) (by simp) (by simp) (λv16 ov16=>PS ?_));refine nx J4 (aa λ_ J5=>sr λ_ J6=>P3 ?_);refine FA 6 iK qV ?_;refine IX (6+i) Dr og ?_;refine LT 1 A6 (.pointer (some ⟨r,0,none⟩)) ?_ (hc:=by exact(wL n D M P hi).trans (congrArg some hM));refine tp (iM rfl A6 rfl rfl) ?_;refine nx J6 (CY (ae (P4 ?_)));refine FA 6 iK qV ?_;refine IX (6+i) Dr og ?_;refine LT 1 A6 (.pointer (some ⟨r,0,none⟩)) ?_ (hc:=by exact(wL n D M P hi).trans (congrArg some hM));refine CR L6 (D9 s d r (by omega)) (SM [3]) λvR HR hR=>?_
 obtain⟨_,rfl,rfl⟩:=hR;revert vR;intro ur;refine co (k:=2) (news:=ints (List.flatMap ReplyT.flat (s.replies))) (nn':=(pl++s.replies).length) (xs':=ints (List.flatMap ReplyT.flat (pl++s.replies))) (ab rfl) rfl rfl rfl Cs EL rfl rfl rfl rfl rfl rfl (λ_ s=>Mp 1 rfl rfl s) (bv _) (by simp only[maxLen];omega) (by omega) (by rw[af]) (by simp[ints]) (λv32 ov32=>PS ?_);refine nx J5 (sr λ_ J7=>P2 ?_);exact nx J7 (ai (WK [3,3,0,1] (ap rfl rfl ⟨_,ov32,rfl,rfl⟩)))
theorem Cf(c n i:Nat)(D M P:Nat→Value)(hi:i<5)(d:Nat)(hD:D i= .pointer (some ⟨d,0,none⟩))(e:DS)(o:OpT):
 DT 17 #[(.pointer (some ⟨c,0,none⟩)),(.agg (ints (OpT.mk 9 ((i:Nat):Int) o.to' o.key o.n o.change o.mask o.torn o.cut).flat).toArray)] T0 [ak c (eE n D M P) 104,dk d e] (RI (.int .i64 0) [ak c (eE n D M P) 104,dk d (e.arm o.n)]):=by
 refine BD 114 Tryz.func17 rfl rfl rfl λw0 F hF=>sr λ_ J1=>XY (ints (OpT.mk 9 ((i:Nat):Int) o.to' o.key o.n o.change o.mask o.torn o.cut).flat) λb3=>?_
 refine PS ?_;refine nx J1 (aa λ_ J2=>sr λ_ J3=>PS ?_);refine FA 1 eV aM ?_;refine LT 0 Y3 (.int .i64 (((i:Nat):Int))) ?_ (hc:=by exact bE _ rfl);refine CE pG (dV c i hi) ID ?_;refine PS ?_;refine nx J3 (CN (qx J2 (aa λ_ J4=>sr λ_ J5=>FA 0 eV aM ?_)));refine LT 0 Y3 (.int .i64 9) ?_ (hc:=by exact cF _ rfl);refine nx J5 (aq (aa λ_ J6=>sr λ_ J7=>P2 ?_));refine nx J7 (CN (sr λ_ J8=>P2 ?_));refine nx J8 (CN (sr λ_ J9=>P2 ?_));refine nx J9 (CN (sr λ_ J10=>P2 ?_));refine nx J10 (CN (ae (P2 ?_)));refine nx J6 (CN (aa λ_ J11=>sr λ_ J12=>P2 ?_));refine nx J12 (CN (sr λ_ J13=>P2 ?_));refine nx J13 (CN (ae (P2 ?_)));refine nx J11 (CN (sr λ_ J14=>P2 ?_));refine nx J14 (CN (sr λ_ J15=>P2 ?_));refine nx J15 (CY (D2 0 1 dF ?_));refine PD 0 ?_;refine FD 1 1 eV aM ?_;refine LX 2 Y3 (.int .i64 (((i:Nat):Int))) ?_ (hc:=by exact bE _ rfl);refine PD 3 ?_;refine FD 4 1 iK sM ?_;refine IY 5 (1+i) AZ oJ ?_;refine LX 6 vY (.pointer (some ⟨d,0,none⟩)) ?_ (hc:=by exact(Cj n D M P hi).trans (congrArg some hD));refine FD 7 4 eV aM ?_;refine LX 8 Y3 (.int .i64 (o.n)) ?_ (hc:=by exact rO _ rfl);refine AL 9 ?_;refine CR LL (I9 d e o.n) (SM [2]) λvR HR hR=>?_
 obtain⟨_,rfl⟩:=hR;refine EN (DN (ag (ac J4 (sr λ_ J16=>PS ?_))));exact nx J16 (ai (WK [2,0] (ap rfl rfl ⟨rfl,rfl⟩)))
theorem Cb(c n i:Nat)(D M P:Nat→Value)(hi:i<5)(d:Nat)(hD:D i= .pointer (some ⟨d,0,none⟩))(r:Nat)(s:MS LD)(hM:M i= .pointer (some ⟨r,0,none⟩))(pl:List ReplyT)(hpl:pl.length≤100000)(hrs:s.replies.length≤100000)(e:DS)(hok:e.Ok)(o:OpT):
 DT 17 #[(.pointer (some ⟨c,0,none⟩)),(.agg (ints (OpT.mk 10 ((i:Nat):Int) o.to' o.key o.n o.change o.mask o.torn o.cut).flat).toArray)] T0 [ak c (eE n D M P) 104,dk d e,own (P i) ((pl).length) (ints (List.flatMap ReplyT.flat (pl))) 37 3,gC s d r] (dG (λv H=>∃u,u.oneCell'=true∧v= .int .i64 0∧H=[ak c (eE n D (my M i (.pointer none)) (my P i u)) 104,dk d (e.crash o.mask o.torn o.cut),kO u (pl++s.replies)])):=by
 refine BD 114 Tryz.func17 rfl rfl rfl λw0 F hF=>sr λ_ J1=>XY (ints (OpT.mk 10 ((i:Nat):Int) o.to' o.key o.n o.change o.mask o.torn o.cut).flat) λb3=>?_
 refine PS ?_;refine nx J1 (aa λ_ J2=>sr λ_ J3=>PS ?_);refine FA 1 eV aM ?_;refine LT 0 Y3 (.int .i64 (((i:Nat):Int))) ?_ (hc:=by exact bE _ rfl);refine CE pG (dV c i hi) ID ?_;refine PS ?_;refine nx J3 (CN (qx J2 (aa λ_ J4=>sr λ_ J5=>FA 0 eV aM ?_)));refine LT 0 Y3 (.int .i64 10) ?_ (hc:=by exact cF _ rfl);refine nx J5 (aq (aa λ_ J6=>sr λ_ J7=>P2 ?_));refine nx J7 (CN (sr λ_ J8=>P2 ?_));refine nx J8 (CN (sr λ_ J9=>P2 ?_));refine nx J9 (CN (sr λ_ J10=>P2 ?_));refine nx J10 (CN (ae (P2 ?_)));refine nx J6 (CN (aa λ_ J11=>sr λ_ J12=>P2 ?_));refine nx J12 (CN (sr λ_ J13=>P2 ?_));refine nx J13 (CN (ae (P2 ?_)));refine nx J11 (CN (sr λ_ J14=>P2 ?_));refine nx J14 (CN (sr λ_ J15=>P2 ?_));refine nx J15 (CN (sr λ_ J16=>P2 ?_));refine nx J16 (CY (aa λ_ J17=>D1 0 dF ?_));refine PD 0 ?_;refine FD 1 1 eV aM ?_;refine LX 2 Y3 (.int .i64 (((i:Nat):Int))) ?_ (hc:=by exact bE _ rfl);refine PD 3 ?_;refine FD 4 1 eV aM ?_;refine LX 5 Y3 (.int .i64 (((i:Nat):Int))) ?_ (hc:=by exact bE _ rfl);refine PD 7 ?_;refine FD 8 11 iK CA ?_;refine AL 6 ?_;refine CR Ht (uR c n i D M P hi d r s hM pl hpl hrs) (SM [1,2,2]) λvR HR hR=>?_
 obtain⟨_,huc,rfl,rfl⟩:=hR;revert vR;intro uc huc;refine EN (IY 9 (11+i) HQ wo ?_);refine AL 10 ?_;refine bS (i:=0) (ab rfl) rfl rfl rfl rfl huc wo rfl rfl (by rw[qm];omega) (Do n D M P uc hi) rfl (EN (DN (ac J17 (aa λ_ J18=>D1 4 dF ?_))));refine PD 0 ?_;refine FD 1 1 eV aM ?_;refine LX 2 Y3 (.int .i64 (((i:Nat):Int))) ?_ (hc:=by exact bE _ rfl);refine PD 3 ?_;refine FD 4 6 iK qV ?_;refine IY 5 (6+i) Dr og ?_;refine AL 6 ?_;refine bS (i:=0) (ab rfl) rfl rfl rfl rfl rfl og rfl rfl (by rw[qm];omega) (tN n D M (my P i uc) (.pointer none) hi) rfl (EN (DN (ac J18 (D2 4 0 dF ?_))));refine PD 0 ?_;refine FD 1 1 eV aM ?_;refine LX 2 Y3 (.int .i64 (((i:Nat):Int))) ?_ (hc:=by exact bE _ rfl);refine PD 3 ?_;refine FD 4 1 iK sM ?_;refine IY 5 (1+i) AZ oJ ?_;refine LX 6 vY (.pointer (some ⟨d,0,none⟩)) ?_ (hc:=by exact(Cj n D (my M i (.pointer none)) (my P i uc) hi).trans (congrArg some hD));refine FD 7 8 eV aM ?_;refine LX 8 Y3 (.int .i64 (o.mask)) ?_ (hc:=by exact OpT.at_mask _ rfl);refine FD 9 9 eV aM ?_;refine LX 10 Y3 (.int .i64 (o.torn)) ?_ (hc:=by exact OpT.at_torn _ rfl);refine FD 11 10 eV aM ?_;refine LX 12 Y3 (.int .i64 (o.cut)) ?_ (hc:=by exact OpT.at_cut _ rfl);refine AL 13 ?_;refine CR JV (AK d e o.mask o.torn o.cut hok) (SM [5]) λvR HR hR=>?_
 obtain⟨_,rfl⟩:=hR;refine EN (DN (ag (ac J4 (sr λ_ J19=>PS ?_))));exact nx J19 (ai (WK [1,0,2] (ap rfl rfl ⟨uc,huc,rfl,rfl⟩)))
theorem Cc(c n i:Nat)(D M P:Nat→Value)(hi:i<5)(d:Nat)(hD:D i= .pointer (some ⟨d,0,none⟩))(hM:M i= .pointer none)(pl:List ReplyT)(hpl:pl.length≤100000)(e:DS)(hok:e.Ok)(o:OpT):
 DT 17 #[(.pointer (some ⟨c,0,none⟩)),(.agg (ints (OpT.mk 10 ((i:Nat):Int) o.to' o.key o.n o.change o.mask o.torn o.cut).flat).toArray)] T0 [ak c (eE n D M P) 104,dk d e,own (P i) ((pl).length) (ints (List.flatMap ReplyT.flat (pl))) 37 3] (dG (λv H=>∃u,u.oneCell'=true∧v= .int .i64 0∧H=[ak c (eE n D (my M i (.pointer none)) (my P i u)) 104,dk d (e.crash o.mask o.torn o.cut),kO u pl])):=by
 refine BD 114 Tryz.func17 rfl rfl rfl λw0 F hF=>sr λ_ J1=>XY (ints (OpT.mk 10 ((i:Nat):Int) o.to' o.key o.n o.change o.mask o.torn o.cut).flat) λb3=>?_
 refine PS ?_;refine nx J1 (aa λ_ J2=>sr λ_ J3=>PS ?_);refine FA 1 eV aM ?_;refine LT 0 Y3 (.int .i64 (((i:Nat):Int))) ?_ (hc:=by exact bE _ rfl);refine CE pG (dV c i hi) ID ?_;refine PS ?_;refine nx J3 (CN (qx J2 (aa λ_ J4=>sr λ_ J5=>FA 0 eV aM ?_)));refine LT 0 Y3 (.int .i64 10) ?_ (hc:=by exact cF _ rfl);refine nx J5 (aq (aa λ_ J6=>sr λ_ J7=>P2 ?_));refine nx J7 (CN (sr λ_ J8=>P2 ?_));refine nx J8 (CN (sr λ_ J9=>P2 ?_));refine nx J9 (CN (sr λ_ J10=>P2 ?_));refine nx J10 (CN (ae (P2 ?_)));refine nx J6 (CN (aa λ_ J11=>sr λ_ J12=>P2 ?_));refine nx J12 (CN (sr λ_ J13=>P2 ?_));refine nx J13 (CN (ae (P2 ?_)));refine nx J11 (CN (sr λ_ J14=>P2 ?_));refine nx J14 (CN (sr λ_ J15=>P2 ?_));refine nx J15 (CN (sr λ_ J16=>P2 ?_));refine nx J16 (CY (aa λ_ J17=>D1 0 dF ?_));refine PD 0 ?_;refine FD 1 1 eV aM ?_;refine LX 2 Y3 (.int .i64 (((i:Nat):Int))) ?_ (hc:=by exact bE _ rfl);refine PD 3 ?_;refine FD 4 1 eV aM ?_;refine LX 5 Y3 (.int .i64 (((i:Nat):Int))) ?_ (hc:=by exact bE _ rfl);refine PD 7 ?_;refine FD 8 11 iK CA ?_;refine AL 6 ?_;refine CR Ht (uS c n i D M P hi hM pl hpl) (SM [1,2]) λvR HR hR=>?_
 obtain⟨_,huc,rfl,rfl⟩:=hR;revert vR;intro uc huc;refine EN (IY 9 (11+i) HQ wo ?_);refine AL 10 ?_;refine bS (i:=0) (ab rfl) rfl rfl rfl rfl huc wo rfl rfl (by rw[qm];omega) (Do n D M P uc hi) rfl (EN (DN (ac J17 (aa λ_ J18=>D1 3 dF ?_))));refine PD 0 ?_;refine FD 1 1 eV aM ?_;refine LX 2 Y3 (.int .i64 (((i:Nat):Int))) ?_ (hc:=by exact bE _ rfl);refine PD 3 ?_;refine FD 4 6 iK qV ?_;refine IY 5 (6+i) Dr og ?_;refine AL 6 ?_;refine bS (i:=0) (ab rfl) rfl rfl rfl rfl rfl og rfl rfl (by rw[qm];omega) (tN n D M (my P i uc) (.pointer none) hi) rfl (EN (DN (ac J18 (D2 3 0 dF ?_))));refine PD 0 ?_;refine FD 1 1 eV aM ?_;refine LX 2 Y3 (.int .i64 (((i:Nat):Int))) ?_ (hc:=by exact bE _ rfl);refine PD 3 ?_;refine FD 4 1 iK sM ?_;refine IY 5 (1+i) AZ oJ ?_;refine LX 6 vY (.pointer (some ⟨d,0,none⟩)) ?_ (hc:=by exact(Cj n D (my M i (.pointer none)) (my P i uc) hi).trans (congrArg some hD));refine FD 7 8 eV aM ?_;refine LX 8 Y3 (.int .i64 (o.mask)) ?_ (hc:=by exact OpT.at_mask _ rfl);refine FD 9 9 eV aM ?_;refine LX 10 Y3 (.int .i64 (o.torn)) ?_ (hc:=by exact OpT.at_torn _ rfl);refine FD 11 10 eV aM ?_;refine LX 12 Y3 (.int .i64 (o.cut)) ?_ (hc:=by exact OpT.at_cut _ rfl);refine AL 13 ?_;refine CR JV (AK d e o.mask o.torn o.cut hok) (SM [4]) λvR HR hR=>?_
 obtain⟨_,rfl⟩:=hR;refine EN (DN (ag (ac J4 (sr λ_ J19=>PS ?_))));exact nx J19 (ai (WK [1,0,1] (ap rfl rfl ⟨uc,huc,rfl,rfl⟩)))
theorem Hd{s:MS LD}{lg d r:Nat}{e:LD}{i:Int}(f:Fresh i e s){H:List HP}{h:Hl}(q:bI (A8 lg r s::EC lg d ((e.cnt:Nat):Int) e.used::H) h):bI (gC s d r::H) h:=by
 obtain⟨_,q⟩:=fi (p:=λ_:Unit=>[ak r (RepT.cells (s.rep ⟨lg, .pointer none, .slice none 0 0⟩)) 123]) q;refine bm (p:=FH s d r) ⟨lg, .pointer none, .slice none 0 0⟩ ?_;have q2:=fJ 37 3 q;have q3:bI (DF (.pointer none) (none:Option VoteT)::own (.slice none 0 0) 0 [] 37 3::ak r (RepT.cells (s.rep ⟨lg, .pointer none, .slice none 0 0⟩)) 123::EC lg d ((e.cnt:Nat):Int) e.used::H) h:=⟨em,h,A4 h,(pS h).symm,rfl,q2⟩;have q4:=aA [2,2,1,0] rfl q3;simp only[FH,f.e,f.replies,f.vote];exact q4
theorem sO(i d:Nat)(e:DS)(hok:DkOk e):DT 55 #[.int .i64 ((i:Nat):Int), .pointer (some ⟨d,0,none⟩)] T0 [dk d e] (dG (λv H=>((dM i e).1=none∧(dM i e).2≠0∧v= .tuple #[.pointer none, .int .i64 (dM i e).2]∧H=[dk d (bJ e).D])∨∃s r,(dM i e).1=some s∧v= .tuple #[.pointer (some ⟨r,0,none⟩), .int .i64 0]∧H=[gC s d r,dk d s.e.D])):=
 Leg.Does.fold (zD (⟨(bJ e).recs.length,(bJ e).used,(bJ e).D⟩:LD) ((i:Nat):Int) d e hok.ok hok.inn (by have:=hok.ws;omega)) λx H hp=>by
  cases x with
  |returned v=>
   unfold dM;rcases hp with⟨he,rfl,rfl⟩| ⟨he,⟨hn,rfl,rfl⟩| ⟨s,r,lg,hn,rfl,rfl⟩⟩
   · rw[if_pos he];exact⟨_,λ_ q=>q, .inl ⟨rfl,he,rfl,rfl⟩⟩
   · rw[if_neg (by rw[he];decide),hn];exact⟨_,λ_ q=>q, .inl ⟨rfl,(by decide),rfl,rfl⟩⟩
   · rw[if_neg (by rw[he];decide),hn]
     have f:=rR _ (A9 _ _) hn;refine⟨[gC s d r,dk d s.e.D],λ_ q=>Hd (lg:=lg) f ?_, .inr ⟨s,r,rfl,rfl,rfl⟩⟩;rw[f.e];exact q
  |panicked c=>exact hp.elim
  |outgrown=>exact hp.elim
theorem zC(c n i:Nat)(D M P:Nat→Value)(hi:i<5)(d:Nat)(hD:D i= .pointer (some ⟨d,0,none⟩))(hM:M i= .pointer none)(e:DS)(hok:DkOk e):
 DT 63 #[(.pointer (some ⟨c,0,none⟩)),(.int .i64 (((i:Nat):Int)))] T0 [ak c (eE n D M P) 104,dk d e] (dG (λv H=>((dM i e).1=none∧v= .int .i64 (dM i e).2∧H=[ak c (eE n D M P) 104,dk d (bJ e).D])∨∃s r,(dM i e).1=some s∧v= .int .i64 0∧H=[ak c (eE n D (my M i (.pointer (some ⟨r,0,none⟩))) P) 104,gC s d r,dk d s.e.D])):=by
 refine BD 34 Tryz.func63 rfl rfl rfl λw0 F hF=>sr λ_ J1=>PS ?_
 refine nx J1 (aa λ_ J2=>sr λ_ J3=>P3 ?_);refine FA 6 iK qV ?_;refine IX (6+i) Dr og ?_;refine LT 0 A6 (.pointer none) ?_ (hc:=by exact(wL n D M P hi).trans (congrArg some hM));refine tp (iq rfl A6 rfl rfl) ?_;refine nx J3 (CN (qx J2 (sr λ_ J4=>P4 ?_)));refine FA 1 iK sM ?_;refine IX (1+i) AZ oJ ?_;refine LT 0 vY (.pointer (some ⟨d,0,none⟩)) ?_ (hc:=by exact(Cj n D M P hi).trans (congrArg some hD));refine CR JX (sO i d e hok) (SM [1]) λvR HR hR=>?_
 rcases hR with⟨hn,h0,rfl,rfl⟩| ⟨s,r,hn,rfl,rfl⟩
 refine P4 ?_;refine PS ?_;refine nx J4 (aa λ_ J5=>sr λ_ J6=>P2 ?_);refine ao ?_ ?_<;>intro h26
 · exact absurd h26 h0
 refine nx J6 (CN (qx J5 (sr λ_ J7=>P2 ?_)));exact nx J7 (ai (WK [1,0] (ap rfl rfl (.inl ⟨hn,rfl,rfl⟩))));refine P4 ?_;refine PS ?_;refine nx J4 (aa λ_ J8=>sr λ_ J9=>P2 ?_);refine nx J9 (CY (ae (P4 ?_)));refine FA 6 iK qV ?_;refine IX (6+i) Dr og ?_;refine bS (i:=2) (ab rfl) rfl rfl rfl rfl rfl og rfl rfl (by rw[qm];omega) (tN n D M P (.pointer (some ⟨r,0,none⟩)) hi) rfl (nx J8 (sr λ_ J10=>P2 ?_));exact nx J10 (ai (WK [2,0,0] (ap rfl rfl (.inr ⟨s,r,hn,rfl,rfl⟩))))
theorem zB(c n i:Nat)(D M P:Nat→Value)(hi:i<5)(r:Nat)(hM:M i= .pointer (some ⟨r,0,none⟩)):
 DT 63 #[(.pointer (some ⟨c,0,none⟩)),(.int .i64 (((i:Nat):Int)))] T0 [ak c (eE n D M P) 104] (RI (.int .i64 5) [ak c (eE n D M P) 104]):=by
 refine BD 34 Tryz.func63 rfl rfl rfl λw0 F hF=>sr λ_ J1=>PS ?_
 refine nx J1 (aa λ_ J2=>sr λ_ J3=>P3 ?_);refine FA 6 iK qV ?_;refine IX (6+i) Dr og ?_;refine LT 0 A6 (.pointer (some ⟨r,0,none⟩)) ?_ (hc:=by exact(wL n D M P hi).trans (congrArg some hM));refine tp (iM rfl A6 rfl rfl) ?_;refine nx J3 (CY (sr λ_ J4=>PS ?_));exact nx J4 (ai (ad (WK [0] (ap rfl rfl ⟨rfl,rfl⟩))))
theorem Ca(c n i:Nat)(D M P:Nat→Value)(hi:i<5)(d:Nat)(hD:D i= .pointer (some ⟨d,0,none⟩))(hM:M i= .pointer none)(e:DS)(hok:DkOk e)(o:OpT):
 DT 17 #[(.pointer (some ⟨c,0,none⟩)),(.agg (ints (OpT.mk 11 ((i:Nat):Int) o.to' o.key o.n o.change o.mask o.torn o.cut).flat).toArray)] T0 [ak c (eE n D M P) 104,dk d e] (dG (λv H=>((dM i e).1=none∧v= .int .i64 (dM i e).2∧H=[ak c (eE n D M P) 104,dk d (bJ e).D])∨∃s r,(dM i e).1=some s∧v= .int .i64 0∧H=[ak c (eE n D (my M i (.pointer (some ⟨r,0,none⟩))) P) 104,gC s d r,dk d s.e.D])):=by
 refine BD 114 Tryz.func17 rfl rfl rfl λw0 F hF=>sr λ_ J1=>XY (ints (OpT.mk 11 ((i:Nat):Int) o.to' o.key o.n o.change o.mask o.torn o.cut).flat) λb3=>?_
 refine PS ?_;refine nx J1 (aa λ_ J2=>sr λ_ J3=>PS ?_);refine FA 1 eV aM ?_;refine LT 0 Y3 (.int .i64 (((i:Nat):Int))) ?_ (hc:=by exact bE _ rfl);refine CE pG (dV c i hi) ID ?_;refine PS ?_;refine nx J3 (CN (qx J2 (aa λ_ J4=>sr λ_ J5=>FA 0 eV aM ?_)));refine LT 0 Y3 (.int .i64 11) ?_ (hc:=by exact cF _ rfl);refine nx J5 (aq (aa λ_ J6=>sr λ_ J7=>P2 ?_));refine nx J7 (CN (sr λ_ J8=>P2 ?_));refine nx J8 (CN (sr λ_ J9=>P2 ?_));refine nx J9 (CN (sr λ_ J10=>P2 ?_));refine nx J10 (CN (ae (P2 ?_)));refine nx J6 (CN (aa λ_ J11=>sr λ_ J12=>P2 ?_));refine nx J12 (CN (sr λ_ J13=>P2 ?_));refine nx J13 (CN (ae (P2 ?_)));refine nx J11 (CN (sr λ_ J14=>P2 ?_));refine nx J14 (CN (sr λ_ J15=>P2 ?_));refine nx J15 (CN (sr λ_ J16=>P2 ?_));refine nx J16 (CN (sr λ_ J17=>P2 ?_));refine nx J17 (CY (sr λ_ J18=>PS ?_));refine FA 1 eV aM ?_;refine LT 0 Y3 (.int .i64 (((i:Nat):Int))) ?_ (hc:=by exact bE _ rfl);refine CR JU (zC c n i D M P hi d hD hM e hok) (SM [1,1]) λvR HR hR=>?_
 rcases hR with⟨hn,rfl,rfl⟩| ⟨s,r,hn,rfl,rfl⟩
 refine PS ?_;exact nx J18 (ai (aH (ad (WK [0,0] (ap rfl rfl (.inl ⟨hn,rfl,rfl⟩))))));refine PS ?_;exact nx J18 (ai (aH (ad (WK [0,0,0] (ap rfl rfl (.inr ⟨s,r,hn,rfl,rfl⟩))))))
theorem B9(c n i:Nat)(D M P:Nat→Value)(hi:i<5)(r:Nat)(hM:M i= .pointer (some ⟨r,0,none⟩))(o:OpT):
 DT 17 #[(.pointer (some ⟨c,0,none⟩)),(.agg (ints (OpT.mk 11 ((i:Nat):Int) o.to' o.key o.n o.change o.mask o.torn o.cut).flat).toArray)] T0 [ak c (eE n D M P) 104] (RI (.int .i64 5) [ak c (eE n D M P) 104]):=by
 refine BD 114 Tryz.func17 rfl rfl rfl λw0 F hF=>sr λ_ J1=>XY (ints (OpT.mk 11 ((i:Nat):Int) o.to' o.key o.n o.change o.mask o.torn o.cut).flat) λb3=>?_
 refine PS ?_;refine nx J1 (aa λ_ J2=>sr λ_ J3=>PS ?_);refine FA 1 eV aM ?_;refine LT 0 Y3 (.int .i64 (((i:Nat):Int))) ?_ (hc:=by exact bE _ rfl);refine CE pG (dV c i hi) ID ?_;refine PS ?_;refine nx J3 (CN (qx J2 (aa λ_ J4=>sr λ_ J5=>FA 0 eV aM ?_)));refine LT 0 Y3 (.int .i64 11) ?_ (hc:=by exact cF _ rfl);refine nx J5 (aq (aa λ_ J6=>sr λ_ J7=>P2 ?_));refine nx J7 (CN (sr λ_ J8=>P2 ?_));refine nx J8 (CN (sr λ_ J9=>P2 ?_));refine nx J9 (CN (sr λ_ J10=>P2 ?_));refine nx J10 (CN (ae (P2 ?_)));refine nx J6 (CN (aa λ_ J11=>sr λ_ J12=>P2 ?_));refine nx J12 (CN (sr λ_ J13=>P2 ?_));refine nx J13 (CN (ae (P2 ?_)));refine nx J11 (CN (sr λ_ J14=>P2 ?_));refine nx J14 (CN (sr λ_ J15=>P2 ?_));refine nx J15 (CN (sr λ_ J16=>P2 ?_));refine nx J16 (CN (sr λ_ J17=>P2 ?_));refine nx J17 (CY (sr λ_ J18=>PS ?_));refine FA 1 eV aM ?_;refine LT 0 Y3 (.int .i64 (((i:Nat):Int))) ?_ (hc:=by exact bE _ rfl);refine CE JU (zB c n i D M P hi r hM) (SM [1]) ?_;refine PS ?_;exact nx J18 (ai (aH (ad (WK [0] (ap rfl rfl ⟨rfl,rfl⟩)))))
theorem zo(c n i:Nat)(D M P:Nat→Value)(hi:i<5)(to' k:Int)(o:OpT)(hv:dw ((i:Nat):Int) to'=false)(bs:List Nat):
 DT 59 #[(.pointer (some ⟨c,0,none⟩)),(.agg (ints (OpT.mk k ((i:Nat):Int) to' o.key o.n o.change o.mask o.torn o.cut).flat).toArray)] T0 [ak c (eE n D M P) 104,ak n (dm bs) 156] (RI (.int .i64 5) [ak c (eE n D M P) 104,ak n (dm bs) 156]):=by
 refine BD 91 Tryz.func59 rfl rfl rfl λw0 F hF=>sr λ_ J1=>XY (ints (OpT.mk k ((i:Nat):Int) to' o.key o.n o.change o.mask o.torn o.cut).flat) λb3=>?_
 refine PS ?_;refine nx J1 (aa λ_ J2=>D2 0 1 dF ?_);refine PD 0 ?_;refine PD 1 ?_;refine FD 2 0 iK yh ?_;refine LX 3 GK (.pointer (some ⟨n,0,none⟩)) ?_ (hc:=by exact yX n D M P);refine FD 4 1 eV aM ?_;refine LX 5 Y3 (.int .i64 (((i:Nat):Int))) ?_ (hc:=by exact bE _ rfl);refine FD 6 2 eV aM ?_;refine LX 7 Y3 (.int .i64 (to')) ?_ (hc:=by exact gY _ rfl);refine AL 8 ?_;refine CR BJ (lS n bs ((i:Nat):Int) to') (SM [2]) λvR HR hR=>?_
 obtain⟨hw,rfl⟩:=hR;obtain⟨_,rfl⟩:dw ((i:Nat):Int) to'=false∧vR= .pointer none:=hw.resolve_left (λq=>by rw[hv]at q;cases q.1);refine EN (PD 9 ?_);refine DN (ac J2 (aa λ_ J3=>sr λ_ J4=>PS ?_));refine tp (PV.nilPtrNil rfl vX rfl rfl) ?_;refine nx J4 (CY (sr λ_ J5=>PS ?_));exact nx J5 (ai (ad (WK [2,0] (ap rfl rfl ⟨rfl,rfl⟩))))
theorem oz{n i j:Nat}{bs:List Nat}{W:List (List MsgT)}{l:List MsgT}{H:List HP}{h:Hl}(hv:dw ((i:Nat):Int) ((j:Nat):Int)=true)(hW:W.length=25)(q:bI (gm 208 5 (bs.getD (bp ((i:Nat):Int) ((j:Nat):Int)) 0) (List.map (jS (bp ((i:Nat):Int) ((j:Nat):Int))) l)::fa 208 5 bs (cC W) (bp ((i:Nat):Int) ((j:Nat):Int))::ak n (dm bs) 156::H) h):bI (eb 156 208 5 n (cC (W.set (bp ((i:Nat):Int) ((j:Nat):Int)) l))::H) h:=by
 have q2:=rW hv (oA W) q;rw[tZ W (gT hv).1 hW]at q2;exact bm (p:=λbs:List Nat=>[ak n (dm bs) 156,ek 208 5 bs (cC (W.set (bp ((i:Nat):Int) ((j:Nat):Int)) l))]) bs (dS (List.Perm.swap _ _ _) q2)
theorem x8(c n i:Nat)(D M P:Nat→Value)(hi:i<5)(j:Nat)(hj:j<5)(hv:dw ((i:Nat):Int) ((j:Nat):Int)=true)(W:List (List MsgT))(hW:W.length=25)(l:List MsgT)(hl:W.getD (bp ((i:Nat):Int) ((j:Nat):Int)) []=l)(h8:l.length≤8)(hlen: ∀m∈l,0< (dC m).length)(o:OpT)(k:Int)(hn:l=[])(bs:List Nat):
 DT 59 #[(.pointer (some ⟨c,0,none⟩)),(.agg (ints (OpT.mk k ((i:Nat):Int) ((j:Nat):Int) o.key o.n o.change o.mask o.torn o.cut).flat).toArray)] T0 [ak n (dm bs) 156,ek 208 5 bs (cC W),ak c (eE n D M P) 104] (RI (.int .i64 10) [ak c (eE n D M P) 104,eb 156 208 5 n (cC (W.set (bp ((i:Nat):Int) ((j:Nat):Int)) l))]):=by
 refine BD 91 Tryz.func59 rfl rfl rfl λw0 F hF=>sr λ_ J1=>XY (ints (OpT.mk k ((i:Nat):Int) ((j:Nat):Int) o.key o.n o.change o.mask o.torn o.cut).flat) λb3=>?_
 refine PS ?_;refine nx J1 (aa λ_ J2=>D2 0 3 dF ?_);refine PD 0 ?_;refine PD 1 ?_;refine FD 2 0 iK yh ?_;refine LX 3 GK (.pointer (some ⟨n,0,none⟩)) ?_ (hc:=by exact yX n D M P);refine FD 4 1 eV aM ?_;refine LX 5 Y3 (.int .i64 (((i:Nat):Int))) ?_ (hc:=by exact bE _ rfl);refine FD 6 2 eV aM ?_;refine LX 7 Y3 (.int .i64 (((j:Nat):Int))) ?_ (hc:=by exact gY _ rfl);refine AL 8 ?_;refine CR BJ (lS n bs ((i:Nat):Int) ((j:Nat):Int)) (SM [1]) λvR HR hR=>?_
 obtain⟨hw,rfl⟩:=hR;obtain⟨_,rfl⟩:dw ((i:Nat):Int) ((j:Nat):Int)=true∧vR= .pointer (some ⟨(bs.getD (bp ((i:Nat):Int) ((j:Nat):Int)) 0),0,none⟩):=hw.resolve_right (λq=>by rw[hv]at q;cases q.1);refine EN (PD 9 ?_);refine DN (ac J2 (aa λ_ J3=>sr λ_ J4=>PS ?_));refine tp (lq rfl vX rfl rfl) ?_;refine nx J4 (CN (qx J3 (aa λ_ J5=>sr λ_ J6=>cn (H':=[gm 208 5 (bs.getD (bp ((i:Nat):Int) ((j:Nat):Int)) 0) (List.map (jS (bp ((i:Nat):Int) ((j:Nat):Int))) l),fa 208 5 bs (cC W) (bp ((i:Nat):Int) ((j:Nat):Int)),ak n (dm bs) 156,ak b3 (ints (OpT.mk k ((i:Nat):Int) ((j:Nat):Int) o.key o.n o.change o.mask o.torn o.cut).flat) 30,ak c (eE n D M P) 104]) (λ_ q=>hl▸mx W (gT hv).1▸mU hv (aA [2] rfl q)) (PS ?_))));refine CE sY (iJ (bs.getD (bp ((i:Nat):Int) ((j:Nat):Int)) 0) (List.map (jS (bp ((i:Nat):Int) ((j:Nat):Int))) l)) ID ?_;rw[bH];refine PS ?_;refine ao ?_ ?_<;>intro h23;refine nx J6 (CY (sr λ_ J7=>PS ?_));exact nx J7 (ai (ad (aD (H':=[ak c (eE n D M P) 104,eb 156 208 5 n (cC (W.set (bp ((i:Nat):Int) ((j:Nat):Int)) l))]) (dK _) (λ_ q=>dS (List.Perm.swap _ _ _) (oz (bs:=bs) hv hW (aj [0,0,0,1] rfl q))) (ap rfl rfl ⟨rfl,rfl⟩))))
 · exact absurd (by rw[hn];rfl) h23
theorem wk(c n i:Nat)(D M P:Nat→Value)(hi:i<5)(j:Nat)(hj:j<5)(hv:dw ((i:Nat):Int) ((j:Nat):Int)=true)(W:List (List MsgT))(hW:W.length=25)(l:List MsgT)(hl:W.getD (bp ((i:Nat):Int) ((j:Nat):Int)) []=l)(h8:l.length≤8)(hlen: ∀m∈l,0< (dC m).length)(o:OpT)(hn:l≠[])(bs:List Nat):
    DT 59 #[(.pointer (some ⟨c,0,none⟩)),(.agg (ints (OpT.mk 7 ((i:Nat):Int) ((j:Nat):Int) o.key o.n o.change o.mask o.torn o.cut).flat).toArray)] T0 [ak n (dm bs) 156,ek 208 5 bs (cC W),ak c (eE n D M P) 104] (RI (.int .i64 (if Fp l then 0 else 3)) [ak c (eE n D M P) 104,eb 156 208 5 n (cC (W.set (bp ((i:Nat):Int) ((j:Nat):Int)) (Bh l)))]):=by
 refine BD 91 Tryz.func59 rfl rfl rfl λw0 F hF=>sr λ_ J1=>XY (ints (OpT.mk 7 ((i:Nat):Int) ((j:Nat):Int) o.key o.n o.change o.mask o.torn o.cut).flat) λb3=>?_
 refine PS ?_;refine nx J1 (aa λ_ J2=>D2 0 3 dF ?_);refine PD 0 ?_;refine PD 1 ?_;refine FD 2 0 iK yh ?_;refine LX 3 GK (.pointer (some ⟨n,0,none⟩)) ?_ (hc:=by exact yX n D M P);refine FD 4 1 eV aM ?_;refine LX 5 Y3 (.int .i64 (((i:Nat):Int))) ?_ (hc:=by exact bE _ rfl);refine FD 6 2 eV aM ?_;refine LX 7 Y3 (.int .i64 (((j:Nat):Int))) ?_ (hc:=by exact gY _ rfl);refine AL 8 ?_;refine CR BJ (lS n bs ((i:Nat):Int) ((j:Nat):Int)) (SM [1]) λvR HR hR=>?_
 obtain⟨hw,rfl⟩:=hR;obtain⟨_,rfl⟩:dw ((i:Nat):Int) ((j:Nat):Int)=true∧vR= .pointer (some ⟨(bs.getD (bp ((i:Nat):Int) ((j:Nat):Int)) 0),0,none⟩):=hw.resolve_right (λq=>by rw[hv]at q;cases q.1);refine EN (PD 9 ?_);refine DN (ac J2 (aa λ_ J3=>sr λ_ J4=>PS ?_));refine tp (lq rfl vX rfl rfl) ?_;refine nx J4 (CN (qx J3 (aa λ_ J5=>sr λ_ J6=>cn (H':=[gm 208 5 (bs.getD (bp ((i:Nat):Int) ((j:Nat):Int)) 0) (List.map (jS (bp ((i:Nat):Int) ((j:Nat):Int))) l),fa 208 5 bs (cC W) (bp ((i:Nat):Int) ((j:Nat):Int)),ak n (dm bs) 156,ak b3 (ints (OpT.mk 7 ((i:Nat):Int) ((j:Nat):Int) o.key o.n o.change o.mask o.torn o.cut).flat) 30,ak c (eE n D M P) 104]) (λ_ q=>hl▸mx W (gT hv).1▸mU hv (aA [2] rfl q)) (PS ?_))));refine CE sY (iJ (bs.getD (bp ((i:Nat):Int) ((j:Nat):Int)) 0) (List.map (jS (bp ((i:Nat):Int) ((j:Nat):Int))) l)) ID ?_;rw[bH];refine PS ?_;refine ao ?_ ?_<;>intro h23
 · exact absurd (List.eq_nil_of_length_eq_zero (by omega)) hn
 refine nx J6 (CN (qx J5 (aa λ_ J7=>sr λ_ J8=>FA 0 eV aM ?_)));refine LT 3 Y3 (.int .i64 7) ?_ (hc:=by exact cF _ rfl);refine PS ?_;refine nx J8 (CY (aa λ_ J9=>sr λ_ J10=>PS ?_))
 refine j9 (ab rfl) rfl rfl rfl KK rfl (wM (bs.getD (bp ((i:Nat):Int) ((j:Nat):Int)) 0) (List.map (jS (bp ((i:Nat):Int) ((j:Nat):Int))) l) (by rw[bH];exact h8) (λx hx=>by
        obtain⟨m,_,rfl⟩:=eC.1 hx
        exact tY _ m)) (λ_ s=>s) (λ_ _ _=>trivial) (λvR HR hR=>?_)
 obtain⟨rfl,rfl⟩:=hR;rw[G9,G8];refine aX ?_ ?_<;>intro h28;refine PS ?_;refine nx J10 (CN (qx J9 (sr λ_ J11=>PS ?_)));refine nx J11 (ai (ad (aD (H':=[ak c (eE n D M P) 104,eb 156 208 5 n (cC (W.set (bp ((i:Nat):Int) ((j:Nat):Int)) (Bh l)))]) (dK _) (λ_ q=>dS (List.Perm.swap _ _ _) (oz (bs:=bs) hv hW (aj [0,0,0,1] rfl q))) (ap rfl rfl ?_))));exact⟨by rw[h28];rfl,rfl⟩;refine PS ?_;refine nx J10 (CY (sr λ_ J12=>PS ?_));refine nx J12 (ai (ad (ad (aD (H':=[ak c (eE n D M P) 104,eb 156 208 5 n (cC (W.set (bp ((i:Nat):Int) ((j:Nat):Int)) (Bh l)))]) (dK _) (λ_ q=>dS (List.Perm.swap _ _ _) (oz (bs:=bs) hv hW (aj [0,0,0,1] rfl q))) (ap rfl rfl ?_)))));exact⟨by rw[h28];rfl,rfl⟩
theorem Cw{i j:Nat}{W:List (List MsgT)}{m:MsgT}{l2:List MsgT}(hv:dw ((i:Nat):Int) ((j:Nat):Int)=true)(hW:W.length=25):(cC (W.set (bp ((i:Nat):Int) ((j:Nat):Int)) (m::l2))).getD (bp ((i:Nat):Int) ((j:Nat):Int)) []=iG ((i:Nat):Int) ((j:Nat):Int) (dC m)::List.map (jS (bp ((i:Nat):Int) ((j:Nat):Int))) l2:=by
 rw[mx _ (gT hv).1,List.getD_eq_getElem?_getD,List.getElem?_set_self (by rw[hW];exact(gT hv).1),←zn (qP hv).1 (qP hv).2];rfl
theorem zv{i j:Nat}{W:List (List MsgT)}{m:MsgT}{l2:List MsgT}(hv:dw ((i:Nat):Int) ((j:Nat):Int)=true)(hW:W.length=25):(cC (W.set (bp ((i:Nat):Int) ((j:Nat):Int)) (m::l2))).set (bp ((i:Nat):Int) ((j:Nat):Int)) (List.map (jS (bp ((i:Nat):Int) ((j:Nat):Int))) l2)=cC (W.set (bp ((i:Nat):Int) ((j:Nat):Int)) l2):=by
 rw[tZ _ (gT hv).1 (by rw[ka];exact hW),lv]
theorem qJ(c n i:Nat)(D M P:Nat→Value)(hi:i<5)(j:Nat)(hj:j<5)(hv:dw ((i:Nat):Int) ((j:Nat):Int)=true)(W:List (List MsgT))(hW:W.length=25)(l:List MsgT)(hl:W.getD (bp ((i:Nat):Int) ((j:Nat):Int)) []=l)(h8:l.length≤8)(hlen: ∀m∈l,0< (dC m).length)(o:OpT)(m:MsgT)(l2:List MsgT)(ht:kj (max o.n 0% ((l.length:Nat):Int)).toNat l=m::l2)(bs:List Nat)(q:Int)(hk5:q=5∨q=6)(hk:q=6∨M j= .pointer none):
    DT 59 #[(.pointer (some ⟨c,0,none⟩)),(.agg (ints (OpT.mk q ((i:Nat):Int) ((j:Nat):Int) o.key o.n o.change o.mask o.torn o.cut).flat).toArray)] T0 [ak n (dm bs) 156,ek 208 5 bs (cC W),ak c (eE n D M P) 104] (RI (.int .i64 0) [ak c (eE n D M P) 104,eb 156 208 5 n (cC (W.set (bp ((i:Nat):Int) ((j:Nat):Int)) l2))]):=by
 refine BD 91 Tryz.func59 rfl rfl rfl λw0 F hF=>?_
 have hln:0<l.length:=by
     have:=jD (max o.n 0% ((l.length:Nat):Int)).toNat l;rw[ht]at this;rw[←this];exact Nat.succ_pos _
 have hm0:0< (dC m).length:=hlen m ((nB (max o.n 0% ((l.length:Nat):Int)).toNat l).1 (ht▸gZ ..));have hrl:(max o.n 0% ((l.length:Nat):Int))< ((l.length:Nat):Int):=Fe _ (by omega);refine sr λ_ J1=>XY (ints (OpT.mk q ((i:Nat):Int) ((j:Nat):Int) o.key o.n o.change o.mask o.torn o.cut).flat) λb3=>?_
 refine PS ?_;refine nx J1 (aa λ_ J2=>D2 0 3 dF ?_);refine PD 0 ?_;refine PD 1 ?_;refine FD 2 0 iK yh ?_;refine LX 3 GK (.pointer (some ⟨n,0,none⟩)) ?_ (hc:=by exact yX n D M P);refine FD 4 1 eV aM ?_;refine LX 5 Y3 (.int .i64 (((i:Nat):Int))) ?_ (hc:=by exact bE _ rfl);refine FD 6 2 eV aM ?_;refine LX 7 Y3 (.int .i64 (((j:Nat):Int))) ?_ (hc:=by exact gY _ rfl);refine AL 8 ?_;refine CR BJ (lS n bs ((i:Nat):Int) ((j:Nat):Int)) (SM [1]) λvR HR hR=>?_
 obtain⟨hw,rfl⟩:=hR;obtain⟨_,rfl⟩:dw ((i:Nat):Int) ((j:Nat):Int)=true∧vR= .pointer (some ⟨(bs.getD (bp ((i:Nat):Int) ((j:Nat):Int)) 0),0,none⟩):=hw.resolve_right (λq=>by rw[hv]at q;cases q.1);refine EN (PD 9 ?_);refine DN (ac J2 (aa λ_ J3=>sr λ_ J4=>PS ?_));refine tp (lq rfl vX rfl rfl) ?_;refine nx J4 (CN (qx J3 (aa λ_ J5=>sr λ_ J6=>cn (H':=[gm 208 5 (bs.getD (bp ((i:Nat):Int) ((j:Nat):Int)) 0) (List.map (jS (bp ((i:Nat):Int) ((j:Nat):Int))) l),fa 208 5 bs (cC W) (bp ((i:Nat):Int) ((j:Nat):Int)),ak n (dm bs) 156,ak b3 (ints (OpT.mk q ((i:Nat):Int) ((j:Nat):Int) o.key o.n o.change o.mask o.torn o.cut).flat) 30,ak c (eE n D M P) 104]) (λ_ q=>hl▸mx W (gT hv).1▸mU hv (aA [2] rfl q)) (PS ?_))));refine CE sY (iJ (bs.getD (bp ((i:Nat):Int) ((j:Nat):Int)) 0) (List.map (jS (bp ((i:Nat):Int) ((j:Nat):Int))) l)) ID ?_;rw[bH];refine PS ?_;refine ao ?_ ?_<;>intro h23
 · exact absurd h23 (by omega)
 refine nx J6 (CN (qx J5 (aa λ_ J7=>sr λ_ J8=>FA 0 eV aM ?_)));refine LT 3 Y3 (.int .i64 (q)) ?_ (hc:=by exact cF _ rfl);refine PS ?_;refine ao ?_ ?_<;>intro h26
 · exact absurd h26 (by omega)
 refine nx J8 (CN (qx J7 (aa λ_ J9=>aa λ_ J10=>D1 3 dF ?_)));refine FD 0 4 eV aM ?_;refine LX 1 Y3 (.int .i64 (o.n)) ?_ (hc:=by exact rO _ rfl);refine ta 2 rfl (wX rfl rfl rfl) ?_;refine PD 3 ?_;refine PD 6 ?_;refine AL 4 ?_;refine CE sY (iJ (bs.getD (bp ((i:Nat):Int) ((j:Nat):Int)) 0) (List.map (jS (bp ((i:Nat):Int) ((j:Nat):Int))) l)) ID ?_;rw[bH];refine EN (ta 5 rfl (PV.rem (r:=(max o.n 0% ((l.length:Nat):Int))) rfl rfl rfl (by omega) (rQ (by omega))) ?_);refine DN (ac J10 (aq ?_))
 refine bF (α:=(Nat)) (λk=>((k:Nat):Int)≤(max o.n 0% ((l.length:Nat):Int))) (λk=>[(0,(.pointer (some ⟨c,0,none⟩))),(3,(.pointer (some ⟨b3,0,none⟩))),(4,(.int .i64 0)),(5,(.pointer (some ⟨(bs.getD (bp ((i:Nat):Int) ((j:Nat):Int)) 0),0,none⟩))),(35,(.int .i64 ((max o.n 0% ((l.length:Nat):Int))))),(36,(.int .i64 (((k:Nat):Int))))]) (λk=>[gm 208 5 (bs.getD (bp ((i:Nat):Int) ((j:Nat):Int)) 0) (List.map (jS (bp ((i:Nat):Int) ((j:Nat):Int))) (kj k l)),fa 208 5 bs (cC W) (bp ((i:Nat):Int) ((j:Nat):Int)),ak n (dm bs) 156,ak b3 (ints (OpT.mk q ((i:Nat):Int) ((j:Nat):Int) o.key o.n o.change o.mask o.torn o.cut).flat) 30,ak c (eE n D M P) 104]) (λk=>(max o.n 0% ((l.length:Nat):Int)).toNat-k) 0
     (xW _ (by omega)) SB
     (λ_ s=>aA [0,0,0,0,0] rfl s) (λk hinv=>?_)
 obtain hk:=hinv;refine sr λ_ J11=>PS ?_
 refine ao ?_ ?_<;>intro h37;refine nx J11 (aa λ_ J12=>CY (qx J12 (aa λ_ J13=>aq (ae (PS ?_)))))
 refine j9 (ab rfl) rfl rfl rfl Im rfl (rG (bs.getD (bp ((i:Nat):Int) ((j:Nat):Int)) 0) (List.map (jS (bp ((i:Nat):Int) ((j:Nat):Int))) (kj k l)) (by rw[bH,jD];exact h8) (λx hx=>by
        obtain⟨m,_,rfl⟩:=eC.1 hx
        exact tY _ m)) (λ_ s=>s) (λ_ _ _=>trivial) (λvR HR hR=>?_)
 obtain rfl:=hR;rw[xb];refine au (ag (ac J13 (ae (AD ?_))));refine PS ?_;refine au ?_
 exact aL ((k+1):(Nat)) (by omega) (by show(max o.n 0% ((l.length:Nat):Int)).toNat- (k+1)< (max o.n 0% ((l.length:Nat):Int)).toNat-k;omega)
   SB
   (λ_ s=>aA [0,0,0,0,0] rfl s)
 have hkr:k=(max o.n 0% ((l.length:Nat):Int)).toNat:=by omega
 refine cn (H':=[gm 208 5 (bs.getD (bp ((i:Nat):Int) ((j:Nat):Int)) 0) (List.map (jS (bp ((i:Nat):Int) ((j:Nat):Int))) (m::l2)),fa 208 5 bs (cC W) (bp ((i:Nat):Int) ((j:Nat):Int)),ak n (dm bs) 156,ak b3 (ints (OpT.mk q ((i:Nat):Int) ((j:Nat):Int) o.key o.n o.change o.mask o.torn o.cut).flat) 30,ak c (eE n D M P) 104]) (λ_ q=>by rw[hkr,ht]at q;exact q) (nx J11 (aa λ_ J14=>CN (bg (aF (aF (bD (ac J9 (aa λ_ J15=>D2 3 4 dF ?_))))))));refine PD 0 ?_;refine PD 1 ?_;refine FD 2 0 iK yh ?_;refine LX 3 GK (.pointer (some ⟨n,0,none⟩)) ?_ (hc:=by exact yX n D M P);refine FD 4 1 eV aM ?_;refine LX 5 Y3 (.int .i64 (((i:Nat):Int))) ?_ (hc:=by exact bE _ rfl);refine FD 6 2 eV aM ?_;refine LX 7 Y3 (.int .i64 (((j:Nat):Int))) ?_ (hc:=by exact gY _ rfl);refine AL 8 ?_;refine cn (H':=[eb 156 208 5 n (cC (W.set (bp ((i:Nat):Int) ((j:Nat):Int)) (m::l2))),ak b3 (ints (OpT.mk q ((i:Nat):Int) ((j:Nat):Int) o.key o.n o.change o.mask o.torn o.cut).flat) 30,ak c (eE n D M P) 104]) (λ_ q=>oz (bs:=bs) hv hW (aA [0,0,0] rfl q)) (CR Il (pP n (cC (W.set (bp ((i:Nat):Int) ((j:Nat):Int)) (m::l2))) ((i:Nat):Int) ((j:Nat):Int) (dC m) (List.map (jS (bp ((i:Nat):Int) ((j:Nat):Int))) l2) hv (oA _) (Cw hv hW) hm0 (by have:=rB m;omega)) ID λvR HR hR=>?_);obtain⟨uv,rfl,rfl⟩:=hR;rw[zv hv hW];refine EN (PD 9 ?_);refine PD 10 ?_;refine PD 11 ?_;refine PD 12 ?_;refine PD 13 ?_
 refine DN (ac J15 (aa λ_ J16=>sr λ_ J17=>FA 0 eV aM ?_));refine LT 2 Y3 (.int .i64 (q)) ?_ (hc:=by exact cF _ rfl);refine PS ?_;refine ao ?_ ?_<;>intro h55;refine PS ?_;refine UT ?_;refine UT ?_;refine P2 ?_
 iterate 5 refine UT ?_
 refine PS ?_;refine nx J17 (CY (sr λ_ J18=>PS ?_));exact nx J18 (ai (ad (WK [3,0] (ap rfl rfl ⟨rfl,rfl⟩))));refine P2 ?_;refine PS ?_;refine P3 ?_;refine FA 2 eV aM ?_;refine LT 2 Y3 (.int .i64 (((j:Nat):Int))) ?_ (hc:=by exact gY _ rfl);refine CE Ae (qR c n j D M P hj (hk.resolve_left h55)) (SM [3]) ?_;refine PS ?_;refine PS ?_;refine nx J17 (CY (sr λ_ J19=>PS ?_));exact nx J19 (ai (ad (WK [0,0] (ap rfl rfl ⟨rfl,rfl⟩))))
theorem x9(c n i:Nat)(D M P:Nat→Value)(hi:i<5)(j:Nat)(hj:j<5)(hv:dw ((i:Nat):Int) ((j:Nat):Int)=true)(W:List (List MsgT))(hW:W.length=25)(l:List MsgT)(hl:W.getD (bp ((i:Nat):Int) ((j:Nat):Int)) []=l)(h8:l.length≤8)(hlen: ∀m∈l,0< (dC m).length)(o:OpT)(m:MsgT)(l2:List MsgT)(ht:kj (max o.n 0% ((l.length:Nat):Int)).toNat l=m::l2)(bs:List Nat)(d r:Nat)(s:MS LD)(hD:D j= .pointer (some ⟨d,0,none⟩))(hM:M j= .pointer (some ⟨r,0,none⟩))(ho:s.o=[])(hs:OkR KD s)(hto:((i:Nat):Int)≠s.id)(hrs:s.replies.length≤1000000):
    DT 59 #[(.pointer (some ⟨c,0,none⟩)),(.agg (ints (OpT.mk 5 ((i:Nat):Int) ((j:Nat):Int) o.key o.n o.change o.mask o.torn o.cut).flat).toArray)] T0 [ak n (dm bs) 156,ek 208 5 bs (cC W),ak c (eE n D M P) 104,dk d s.e.D,gC s d r] (dG (λv H=>(s.e.D.dn=true∧v= .int .i64 0∧H=[ak c (eE n D M P) 104,dk d s.e.D,eb 156 208 5 n (cC ((W.set (bp ((i:Nat):Int) ((j:Nat):Int)) l2))),gC s d r])∨(s.e.D.dn=false∧(ik (dC m)).2≠0∧v= .int .i64 (ik (dC m)).2∧H=[ak c (eE n D M P) 104,dk d s.e.D,eb 156 208 5 n (cC ((W.set (bp ((i:Nat):Int) ((j:Nat):Int)) l2))),gC s d r])∨(s.e.D.dn=false∧(ik (dC m)).2=0∧v= .int .i64 0∧H=[ak c (eE n D M P) 104,dk d (fI KD s ((i:Nat):Int) (ik (dC m)).1).hush.e.D,eb 156 208 5 n (cC (gh (W.set (bp ((i:Nat):Int) ((j:Nat):Int)) l2) j (fI KD s ((i:Nat):Int) (ik (dC m)).1).o)),gC (fI KD s ((i:Nat):Int) (ik (dC m)).1).hush d r]))):=by
 refine BD 91 Tryz.func59 rfl rfl rfl λw0 F hF=>?_
 have hln:0<l.length:=by
     have:=jD (max o.n 0% ((l.length:Nat):Int)).toNat l;rw[ht]at this;rw[←this];exact Nat.succ_pos _
 have hm0:0< (dC m).length:=hlen m ((nB (max o.n 0% ((l.length:Nat):Int)).toNat l).1 (ht▸gZ ..));have hrl:(max o.n 0% ((l.length:Nat):Int))< ((l.length:Nat):Int):=Fe _ (by omega);refine sr λ_ J1=>XY (ints (OpT.mk 5 ((i:Nat):Int) ((j:Nat):Int) o.key o.n o.change o.mask o.torn o.cut).flat) λb3=>?_
 refine PS ?_;refine nx J1 (aa λ_ J2=>D2 0 3 dF ?_);refine PD 0 ?_;refine PD 1 ?_;refine FD 2 0 iK yh ?_;refine LX 3 GK (.pointer (some ⟨n,0,none⟩)) ?_ (hc:=by exact yX n D M P);refine FD 4 1 eV aM ?_;refine LX 5 Y3 (.int .i64 (((i:Nat):Int))) ?_ (hc:=by exact bE _ rfl);refine FD 6 2 eV aM ?_;refine LX 7 Y3 (.int .i64 (((j:Nat):Int))) ?_ (hc:=by exact gY _ rfl);refine AL 8 ?_;refine CR BJ (lS n bs ((i:Nat):Int) ((j:Nat):Int)) (SM [1]) λvR HR hR=>?_
 obtain⟨hw,rfl⟩:=hR;obtain⟨_,rfl⟩:dw ((i:Nat):Int) ((j:Nat):Int)=true∧vR= .pointer (some ⟨(bs.getD (bp ((i:Nat):Int) ((j:Nat):Int)) 0),0,none⟩):=hw.resolve_right (λq=>by rw[hv]at q;cases q.1);refine EN (PD 9 ?_);refine DN (ac J2 (aa λ_ J3=>sr λ_ J4=>PS ?_));refine tp (lq rfl vX rfl rfl) ?_;refine nx J4 (CN (qx J3 (aa λ_ J5=>sr λ_ J6=>cn (H':=[gm 208 5 (bs.getD (bp ((i:Nat):Int) ((j:Nat):Int)) 0) (List.map (jS (bp ((i:Nat):Int) ((j:Nat):Int))) l),fa 208 5 bs (cC W) (bp ((i:Nat):Int) ((j:Nat):Int)),ak n (dm bs) 156,ak b3 (ints (OpT.mk 5 ((i:Nat):Int) ((j:Nat):Int) o.key o.n o.change o.mask o.torn o.cut).flat) 30,ak c (eE n D M P) 104,dk d s.e.D,gC s d r]) (λ_ q=>hl▸mx W (gT hv).1▸mU hv (aA [2] rfl q)) (PS ?_))));refine CE sY (iJ (bs.getD (bp ((i:Nat):Int) ((j:Nat):Int)) 0) (List.map (jS (bp ((i:Nat):Int) ((j:Nat):Int))) l)) ID ?_;rw[bH];refine PS ?_;refine ao ?_ ?_<;>intro h23
 · exact absurd h23 (by omega)
 refine nx J6 (CN (qx J5 (aa λ_ J7=>sr λ_ J8=>FA 0 eV aM ?_)));refine LT 3 Y3 (.int .i64 5) ?_ (hc:=by exact cF _ rfl);refine PS ?_;refine nx J8 (CN (qx J7 (aa λ_ J9=>aa λ_ J10=>D1 3 dF ?_)));refine FD 0 4 eV aM ?_;refine LX 1 Y3 (.int .i64 (o.n)) ?_ (hc:=by exact rO _ rfl);refine ta 2 rfl (wX rfl rfl rfl) ?_;refine PD 3 ?_;refine PD 6 ?_;refine AL 4 ?_;refine CE sY (iJ (bs.getD (bp ((i:Nat):Int) ((j:Nat):Int)) 0) (List.map (jS (bp ((i:Nat):Int) ((j:Nat):Int))) l)) ID ?_;rw[bH];refine EN (ta 5 rfl (PV.rem (r:=(max o.n 0% ((l.length:Nat):Int))) rfl rfl rfl (by omega) (rQ (by omega))) ?_);refine DN (ac J10 (aq ?_))
 refine bF (α:=(Nat)) (λk=>((k:Nat):Int)≤(max o.n 0% ((l.length:Nat):Int))) (λk=>[(0,(.pointer (some ⟨c,0,none⟩))),(3,(.pointer (some ⟨b3,0,none⟩))),(4,(.int .i64 0)),(5,(.pointer (some ⟨(bs.getD (bp ((i:Nat):Int) ((j:Nat):Int)) 0),0,none⟩))),(35,(.int .i64 ((max o.n 0% ((l.length:Nat):Int))))),(36,(.int .i64 (((k:Nat):Int))))]) (λk=>[gm 208 5 (bs.getD (bp ((i:Nat):Int) ((j:Nat):Int)) 0) (List.map (jS (bp ((i:Nat):Int) ((j:Nat):Int))) (kj k l)),fa 208 5 bs (cC W) (bp ((i:Nat):Int) ((j:Nat):Int)),ak n (dm bs) 156,ak b3 (ints (OpT.mk 5 ((i:Nat):Int) ((j:Nat):Int) o.key o.n o.change o.mask o.torn o.cut).flat) 30,ak c (eE n D M P) 104,dk d s.e.D,gC s d r]) (λk=>(max o.n 0% ((l.length:Nat):Int)).toNat-k) 0
     (xW _ (by omega)) SB
     (λ_ s=>aA [0,0,0,0,0,0,0] rfl s) (λk hinv=>?_)
 obtain hk:=hinv;refine sr λ_ J11=>PS ?_
 refine ao ?_ ?_<;>intro h37;refine nx J11 (aa λ_ J12=>CY (qx J12 (aa λ_ J13=>aq (ae (PS ?_)))))
 refine j9 (ab rfl) rfl rfl rfl Im rfl (rG (bs.getD (bp ((i:Nat):Int) ((j:Nat):Int)) 0) (List.map (jS (bp ((i:Nat):Int) ((j:Nat):Int))) (kj k l)) (by rw[bH,jD];exact h8) (λx hx=>by
        obtain⟨m,_,rfl⟩:=eC.1 hx
        exact tY _ m)) (λ_ s=>s) (λ_ _ _=>trivial) (λvR HR hR=>?_)
 obtain rfl:=hR;rw[xb];refine au (ag (ac J13 (ae (AD ?_))));refine PS ?_;refine au ?_
 exact aL ((k+1):(Nat)) (by omega) (by show(max o.n 0% ((l.length:Nat):Int)).toNat- (k+1)< (max o.n 0% ((l.length:Nat):Int)).toNat-k;omega)
   SB
   (λ_ s=>aA [0,0,0,0,0,0,0] rfl s)
 have hkr:k=(max o.n 0% ((l.length:Nat):Int)).toNat:=by omega
 refine cn (H':=[gm 208 5 (bs.getD (bp ((i:Nat):Int) ((j:Nat):Int)) 0) (List.map (jS (bp ((i:Nat):Int) ((j:Nat):Int))) (m::l2)),fa 208 5 bs (cC W) (bp ((i:Nat):Int) ((j:Nat):Int)),ak n (dm bs) 156,ak b3 (ints (OpT.mk 5 ((i:Nat):Int) ((j:Nat):Int) o.key o.n o.change o.mask o.torn o.cut).flat) 30,ak c (eE n D M P) 104,dk d s.e.D,gC s d r]) (λ_ q=>by rw[hkr,ht]at q;exact q) (nx J11 (aa λ_ J14=>CN (bg (aF (aF (bD (ac J9 (aa λ_ J15=>D2 3 4 dF ?_))))))));refine PD 0 ?_;refine PD 1 ?_;refine FD 2 0 iK yh ?_;refine LX 3 GK (.pointer (some ⟨n,0,none⟩)) ?_ (hc:=by exact yX n D M P);refine FD 4 1 eV aM ?_;refine LX 5 Y3 (.int .i64 (((i:Nat):Int))) ?_ (hc:=by exact bE _ rfl);refine FD 6 2 eV aM ?_;refine LX 7 Y3 (.int .i64 (((j:Nat):Int))) ?_ (hc:=by exact gY _ rfl);refine AL 8 ?_;refine cn (H':=[eb 156 208 5 n (cC (W.set (bp ((i:Nat):Int) ((j:Nat):Int)) (m::l2))),ak b3 (ints (OpT.mk 5 ((i:Nat):Int) ((j:Nat):Int) o.key o.n o.change o.mask o.torn o.cut).flat) 30,ak c (eE n D M P) 104,dk d s.e.D,gC s d r]) (λ_ q=>oz (bs:=bs) hv hW (aA [0,0,0] rfl q)) (CR Il (pP n (cC (W.set (bp ((i:Nat):Int) ((j:Nat):Int)) (m::l2))) ((i:Nat):Int) ((j:Nat):Int) (dC m) (List.map (jS (bp ((i:Nat):Int) ((j:Nat):Int))) l2) hv (oA _) (Cw hv hW) hm0 (by have:=rB m;omega)) ID λvR HR hR=>?_);obtain⟨uv,rfl,rfl⟩:=hR;rw[zv hv hW];refine EN (PD 9 ?_);refine PD 10 ?_
 refine PD 11 ?_;refine PD 12 ?_;refine PD 13 ?_;refine DN (ac J15 (aa λ_ J16=>sr λ_ J17=>FA 0 eV aM ?_));refine LT 2 Y3 (.int .i64 5) ?_ (hc:=by exact cF _ rfl);refine P3 ?_;refine PS ?_;refine P3 ?_;refine FA 2 eV aM ?_;refine LT 2 Y3 (.int .i64 (((j:Nat):Int))) ?_ (hc:=by exact gY _ rfl);refine CE Ae (qQ c n j D M P hj d r s.e.D hD hM) (SM [3,3]) ?_;refine aX ?_ ?_<;>intro h64;refine PS ?_;refine PS ?_;refine nx J17 (CN (qx J16 (sr λ_ J18=>PS ?_)));refine CF KJ (AM uv (dC m)) ID (yM 3 rfl rfl) ?_;refine P3 ?_;refine XZ lD (ints MsgT.zero.flat) λb8=>?_
 refine SW 0 bW aG ?_;refine PS ?_;refine nx J18 (aa λ_ J19=>sr λ_ J20=>P2 ?_);refine ao ?_ ?_<;>intro h73;refine nx J20 (CY (qv (λw=>Frm F w∧w.heap[b3]?=some (.cells (ints (OpT.mk 5 ((i:Nat):Int) ((j:Nat):Int) o.key o.n o.change o.mask o.torn o.cut).flat).toArray 30 (0,0))∧w.heap[c]?=some (.cells (eE n D M P).toArray 104 (0,0))∧w.heap[b8]?=some (.cells (ints ((ik (dC m)).1).flat).toArray 178 (0,0))∧True) dF rfl (λ_ s=>⟨eP s,s.block 5 (lb rfl) rfl,s.block 1 (lb rfl) rfl,s.block 0 (lb rfl) rfl,trivial⟩) (PD 0 ?_)));refine FD 1 2 eV aM ?_;refine LX 2 Y3 (.int .i64 (((j:Nat):Int))) ?_ (hc:=by exact gY _ rfl);refine PD 3 ?_;refine FD 4 6 iK qV ?_;refine IY 5 (6+j) Dr og ?_;refine LX 6 A6 (.pointer (some ⟨r,0,none⟩)) ?_ (hc:=by exact(wL n D M P hj).trans (congrArg some hM));refine PD 7 ?_;refine FD 8 2 eV aM ?_;refine LX 9 Y3 (.int .i64 (((j:Nat):Int))) ?_ (hc:=by exact gY _ rfl);refine ta 10 rfl (ju (cells:=#[(.pointer (some ⟨c,0,none⟩)),(.int .i64 (((j:Nat):Int)))]) rfl rfl (by as_aux_lemma=>kernel_rfl)) ?_;refine ta 11 rfl (oj rfl Cu rfl rfl) ?_;refine FD 12 1 eV aM ?_;refine LX 13 Y3 (.int .i64 (((i:Nat):Int))) ?_ (hc:=by exact bE _ rfl);refine LY 14 aY bW aG ?_;refine AL 15 ?_
 refine cn (H':=[cA (vC c n d j D M P hj hD (W.set (bp ((i:Nat):Int) ((j:Nat):Int)) l2) (by rw[ka];exact hW)) r s,ak b8 (ints ((ik (dC m)).1).flat) 178,gg uv (dC m) 5,ak b3 (ints (OpT.mk 5 ((i:Nat):Int) ((j:Nat):Int) o.key o.n o.change o.mask o.torn o.cut).flat) 30]) (λ_ q=>BM ho (aA [1,1,1,3] rfl q)) (CZ Ik (@yg _ (vC c n d j D M P hj hD (W.set (bp ((i:Nat):Int) ((j:Nat):Int)) l2) (by rw[ka];exact hW)) r s ((i:Nat):Int) (ik (dC m)).1 hs (Dl _) hto hrs) ID λvR=>?_);change TL _ _ _ _ _ _ _ _ _ [cA (vC c n d j D M P hj hD (W.set (bp ((i:Nat):Int) ((j:Nat):Int)) l2) (by rw[ka];exact hW)) r (fI KD s ((i:Nat):Int) (ik (dC m)).1),ak b8 (ints ((ik (dC m)).1).flat) 178,gg uv (dC m) 5,ak b3 (ints (OpT.mk 5 ((i:Nat):Int) ((j:Nat):Int) o.key o.n o.change o.mask o.torn o.cut).flat) 30];refine cn (H':=[ak c (eE n D M P) 104,dk d ((fI KD s ((i:Nat):Int) (ik (dC m)).1).e.D),eb 156 208 5 n (cC (gh (W.set (bp ((i:Nat):Int) ((j:Nat):Int)) l2) j (fI KD s ((i:Nat):Int) (ik (dC m)).1).o)),gC ((fI KD s ((i:Nat):Int) (ik (dC m)).1).hush) d r,ak b8 (ints ((ik (dC m)).1).flat) 178,gg uv (dC m) 5,ak b3 (ints (OpT.mk 5 ((i:Nat):Int) ((j:Nat):Int) o.key o.n o.change o.mask o.torn o.cut).flat) 30]) (λ_ q=>yG (s:=(fI KD s ((i:Nat):Int) (ik (dC m)).1)) q) (EN (DN (ac J19 (sr λ_ J21=>P2 ?_))));refine nx J21 (ai (WK [0,0,0,0] (ap rfl rfl ?_)))
 exact .inr (.inr ⟨(by simpa using h64),h73,(by rw[h73]),rfl⟩);refine nx J20 (CN (qx J19 (sr λ_ J22=>P2 ?_)));refine nx J22 (ai (WK [1,1,1,3] (ap rfl rfl ?_)));exact .inr (.inl ⟨(by simpa using h64),h73,rfl,rfl⟩);refine PS ?_;refine PS ?_;refine nx J17 (CY (sr λ_ J23=>PS ?_));refine nx J23 (ai (ad (WK [0,0,0,2] (ap rfl rfl ?_))));exact .inl ⟨(by simpa using h64),rfl,rfl⟩
end Go.Proofs.YtjblgopghhgflaaGreat
end

section
namespace Api
open Go Leg Codec Dsk Wal
class GdM(m:MsgT):Prop where
 kind:0≤m.kind∧m.kind≤9
class GdL(l:List SaidT):Prop where
 all: ∀x∈l,0≤x.msg.kind∧x.msg.kind≤9
theorem Gv(n:Int):0< (tx n).length:=o6 _
theorem Aw(n:Int)(l:List Int):0< (bd (n::l)).length:=by
 show 0< (tx n++bd l).length;rw[af];have:=Gv n;omega
theorem I3{m:MsgT}(h:0≤m.kind∧m.kind≤9):0< (dC m).length:=by
 have p: ∀(l:List Int) (r:List UInt8),0< (bd (m.kind::l)++r).length:=λl r=>by rw[af];have:=Aw m.kind l;omega
 unfold dC;split
 · exact p _ _
 rename_i h0;split
 · exact Aw _ _
 split
 · exact p _ _
 rename_i h3;split
 · rw[bb,bb];exact p _ _
 split
 · rw[bb];exact p _ _
 split
 · exact p _ _
 split
 · exact p _ _
 · exfalso
   simp only[eU,e4,decide_eq_true_eq]at h0 h3;omega
instance (v:Int):GdM (rq v):=⟨(by decide:(0:Int)≤1∧(1:Int)≤9)⟩
instance (i:Int)(y:RowT):GdM (rh i y):=⟨(by decide:(0:Int)≤2∧(2:Int)≤9)⟩
instance (v:ViewT):GdM (jx v):=⟨(by decide:(0:Int)≤7∧(7:Int)≤9)⟩
instance (i:Int)(v:ViewT):GdM (nG i v):=⟨(by decide:(0:Int)≤8∧(8:Int)≤9)⟩
instance (i:Int)(y:RowT):GdM (gB i y):=⟨(by decide:(0:Int)≤9∧(9:Int)≤9)⟩
instance (e:Int)(b:BallotT):GdM (ff e b):=⟨(by decide:(0:Int)≤3∧(3:Int)≤9)⟩
instance (e:Int)(b h:BallotT)(c:ChangeT):GdM (j0 e b h c):=⟨(by decide:(0:Int)≤4∧(4:Int)≤9)⟩
instance (e:Int)(b:BallotT)(c:ChangeT):GdM (iz e b c):=⟨(by decide:(0:Int)≤5∧(5:Int)≤9)⟩
instance (e:Int)(b:BallotT):GdM (jl e b):=⟨(by decide:(0:Int)≤6∧(6:Int)≤9)⟩
instance (t:Int)(m:MsgT)[h:GdM m]:GdL [⟨t,m⟩]:=⟨λx hx=>by rw[c8]at hx;subst hx;exact h.kind⟩
instance (i:Int)(m:MsgT)(p:Nat→Bool)(k:Nat)[h:GdM m]:GdL (m9 i m p k):=⟨λx hx=>by
 unfold m9 at hx;obtain⟨j,_,rfl⟩:=eC.1 hx
 exact h.kind⟩
instance (x:RepT):GdL (oE x):=⟨λs hs=>by
 unfold oE at hs;rw[eC]at hs;obtain⟨w,_,rfl⟩:=hs
 exact(show(0:Int)≤0∧(0:Int)≤9 by decide)⟩
section
variable {δ:Type} {K:Dk δ} {s0 s:MS δ}
class Qt(s0 s:MS δ):Prop where
 id:s.id=s0.id
 replies:s.replies=s0.replies
 ops:s.ops=s0.ops
 waits:s.waits=s0.waits∨s.waits=0
 o: ∃l,s.o=s0.o++l∧∀x∈l,0≤x.msg.kind∧x.msg.kind≤9
instance Qt.rfl':Qt s s:=⟨rfl,rfl,rfl, .inl rfl,[],(aT _).symm,λ_ h=>by cases h⟩
theorem Qt.trans{a b c:MS δ}(h:Qt a b)(g:Qt b c):Qt a c:=by
 obtain⟨l,e,hl⟩:=h.o;obtain⟨l2,e2,hl2⟩:=g.o;exact⟨g.id.trans h.id,g.replies.trans h.replies,g.ops.trans h.ops,g.waits.elim (λq=>h.waits.imp (q.trans ·) (q.trans ·)) .inr,l++l2,by rw[e2,e,bb],λx hx=>(cq.1 hx).elim (hl x) (hl2 x)⟩
theorem Qt.same{t:MS δ}(h:Qt s0 s)(h1:t.id=s.id)(h2:t.replies=s.replies)(h3:t.ops=s.ops)(h4:t.waits=s.waits)(h5:t.o=s.o):Qt s0 t:=
 ⟨h1.trans h.id,h2.trans h.replies,h3.trans h.ops,by rw[h4];exact h.waits,by rw[h5];exact h.o⟩
instance [h:Qt s0 s](l:List SaidT)[g:GdL l]:Qt s0 (ii K s l):=by
 refine h.trans ⟨rfl,rfl,rfl, .inl rfl,?_⟩
 by_cases q:K.dn s.e=true
 · exact⟨[],by rw[ii,if_pos q,aT],λ_ h=>by cases h⟩
 · exact⟨l,by rw[ii,if_neg q],g.all⟩
instance [h:Qt s0 s](t:Int)(m:MsgT)[GdM m]:Qt s0 (Bw K s t m):=inferInstanceAs (Qt s0 (ii K s _))
instance [h:Qt s0 s](r:RecT):Qt s0 (dT K s r):=h.same rfl rfl rfl rfl rfl
instance [h:Qt s0 s](f:Int):Qt s0 (ic s f):=h.same rfl rfl rfl rfl rfl
instance [h:Qt s0 s](w:Int)(x:RowT):Qt s0 (Dp s w x):=h.same rfl rfl rfl rfl rfl
instance [h:Qt s0 s]:Qt s0 (gl s):=h.same rfl rfl rfl rfl rfl
instance [h:Qt s0 s](w:Int)(x:RowT):Qt s0 (ib s w x):=h.same rfl rfl rfl rfl rfl
instance [h:Qt s0 s](w:Int):Qt s0 (lj s w):=h.same rfl rfl rfl rfl rfl
instance [h:Qt s0 s](x:RowT):Qt s0 (s9 s x 0):=⟨h.id,h.replies,h.ops, .inr rfl,h.o⟩
instance [Qt s0 s]:Qt s0 (e8 K s):=inferInstanceAs (Qt s0 (ii K s _))
instance [Qt s0 s](y:RowT):Qt s0 (lN K s y):=inferInstanceAs (Qt s0 (ii K s _))
instance [Qt s0 s](v:ViewT):Qt s0 (mW K s v):=inferInstanceAs (Qt s0 (ii K s _))
instance [Qt s0 s](m:MsgT)[GdM m]:Qt s0 (jg K s m):=inferInstanceAs (Qt s0 (ii K s _))
instance [Qt s0 s](x:RowT):Qt s0 (eA K s x 0).1:=by unfold eA;split<;>exact inferInstance
instance [h:Qt s0 s]:Qt s0 (mg K s):=by
 unfold mg;split
 · exact h
 split
 · exact inferInstance
 · exact h
instance [h:Qt s0 s](f:Int)(m:MsgT):Qt s0 (iv K s f m):=by
 unfold iv
 repeat' split
 all_goals exact inferInstance
instance [h:Qt s0 s](w:Int)(x:RowT):Qt s0 (kR s w x):=h.same rfl rfl rfl rfl rfl
instance [h:Qt s0 s](f w:Int)(y:RowT):Qt s0 (uj s f w y):=h.same rfl rfl rfl rfl rfl
instance [h:Qt s0 s](f:Int)(m:MsgT):Qt s0 (fC K s f m):=by unfold fC;split<;>exact inferInstance
theorem oM[Qt s0 s]{f:MS δ→MS δ}(hf:Qt s0 (f s))(t:Int)(m:MsgT)[GdM m]:Qt s0 (mA K f s t m):=by unfold mA;split;exact hf;exact inferInstance
instance [h:Qt s0 s](f w:Int):Qt s0 (fe K s f w):=by
 unfold fe
 repeat' split
 · exact h
 · exact oM inferInstance _ _
 · exact inferInstance
 · exact oM inferInstance _ _
instance [h:Qt s0 s](i w:Int):Qt s0 (gF K s i w):=by
 unfold gF;split
 · exact h
 · exact oM inferInstance _ _
instance [Qt s0 s](i:Int):Qt s0 (o9 K s i):=by unfold o9;exact inferInstance
theorem xO: ∀(l:List Int) (s:MS δ),Qt s0 s→Qt s0 (fB K l s)
 | [],_,h=>h
 |i::l,s,h=>xO l (o9 K s i) inferInstance
instance [h:Qt s0 s]:Qt s0 (ql K s):=xO _ _ h
instance [h:Qt s0 s](v:ViewT):Qt s0 (ma s v):=h.same rfl rfl rfl rfl rfl
instance [h:Qt s0 s](v:ViewT):Qt s0 (gN K s v):=by
 unfold gN
 repeat' split
 all_goals exact inferInstance
instance [h:Qt s0 s](f:Int)(m:MsgT):Qt s0 (lO K s f m):=by unfold lO;exact inferInstance
instance [h:Qt s0 s](c:ChangeT):Qt s0 (kC K s c):=by
 unfold kC
 repeat' split
 all_goals exact inferInstance
instance [h:Qt s0 s](n:Int):Qt s0 (da s n):=h.same rfl rfl rfl rfl rfl
instance [h:Qt s0 s](v:VoteT):Qt s0 (kE s v):=h.same rfl rfl rfl rfl rfl
instance [h:Qt s0 s](a:AccT):Qt s0 (vW s a):=h.same rfl rfl rfl rfl rfl
instance [h:Qt s0 s](f:Int)(m:MsgT):Qt s0 (kG K f m s):=by
 unfold kG;split
 · exact h
 · split<;>exact inferInstance
theorem qK[h:Qt s0 s]{f:MS δ→MS δ}(hf: ∀s:MS δ,Qt s0 s→Qt s0 (f s))(w:Int)(m:MsgT):Qt s0 (ez K f s w m):=by
 unfold ez
 repeat' split
 · exact inferInstance
 · exact h
 · exact h
 · exact hf _ inferInstance
instance [Qt s0 s](w:Int)(m:MsgT):Qt s0 (p3 K s w m):=qK (λ_ _=>inferInstance) w m
instance [h:Qt s0 s](w:Int)(m:MsgT):Qt s0 (m6 K w m s):=by unfold m6;exact oM inferInstance _ _
instance [h:Qt s0 s](w:Int)(m:MsgT):Qt s0 (n6 K w m s):=by
 unfold n6
 repeat' split
 all_goals exact inferInstance
instance [Qt s0 s](w:Int)(m:MsgT):Qt s0 (sa K s w m):=qK (λ_ _=>inferInstance) w m
theorem sU[h:Qt s0 s]{f:MS δ→MsgT→MS δ}{m:MsgT}[GdM m](hf: ∀s:MS δ,Qt s0 s→Qt s0 (f s m)):Qt s0 (jo K f s m):=by
 unfold jo;split
 · exact hf _ inferInstance
 · exact inferInstance
instance [h:Qt s0 s](vt:VoteT):Qt s0 (j5 K s vt):=sU λ_ _=>inferInstance
instance [h:Qt s0 s](f:Int)(m:MsgT):Qt s0 (oB K f m s):=by
 unfold oB;split
 · exact h
 · split<;>exact inferInstance
instance [Qt s0 s](w:Int)(m:MsgT):Qt s0 (p5 K s w m):=qK (λ_ _=>inferInstance) w m
instance [h:Qt s0 s](w:Int)(m:MsgT)(a:AccT):Qt s0 (np K w m a s):=by unfold np;exact oM inferInstance _ _
instance [h:Qt s0 s](w:Int)(m:MsgT):Qt s0 (pd K w m s):=by
 unfold pd
 repeat' split
 all_goals exact inferInstance
instance [Qt s0 s](w:Int)(m:MsgT):Qt s0 (sc K s w m):=qK (λ_ _=>inferInstance) w m
instance [h:Qt s0 s](vt:VoteT):Qt s0 (l4 K s vt):=sU λ_ _=>inferInstance
instance [h:Qt s0 s](vt:VoteT):Qt s0 (m8 K s vt):=by unfold m8;split<;>exact inferInstance
instance [h:Qt s0 s](c:ChangeT):Qt s0 (qo K s c):=by unfold qo;exact inferInstance
instance [h:Qt s0 s](c:ChangeT):Qt s0 (ck K s c).1:=by
 unfold ck
 repeat' split
 all_goals exact inferInstance
instance [h:Qt s0 s]:Qt s0 (bR K s):=by unfold bR;split<;>exact inferInstance
instance [h:Qt s0 s]:Qt s0 (bZ K s):=by unfold bZ;split<;>exact inferInstance
instance [h:Qt s0 s]:Qt s0 (fH K s):=by unfold fH;split<;>exact inferInstance
instance [h:Qt s0 s]:Qt s0 (qU K s):=by
 unfold qU;split
 · exact h
 · repeat' split
   all_goals exact inferInstance
instance [h:Qt s0 s]:Qt s0 (gU K s):=by unfold gU;split<;>exact inferInstance
structure Rp(s0 s:MS δ)(l:List ReplyT):Prop where
 id:s.id=s0.id
 replies:s.replies=s0.replies++l
 o: ∃l,s.o=s0.o++l∧∀x∈l,0≤x.msg.kind∧x.msg.kind≤9
theorem Qt.rp(h:Qt s0 s):Rp s0 s []:=⟨h.id,by rw[h.replies,aT],h.o⟩
theorem Rp.then{l:List ReplyT}{t:MS δ}(h:Rp s0 s l)(g:Qt s t):Rp s0 t l:=by
 obtain⟨l1,e,hl⟩:=h.o;obtain⟨l2,e2,hl2⟩:=g.o;exact⟨g.id.trans h.id,g.replies.trans h.replies,l1++l2,by rw[e2,e,bb],λx hx=>(cq.1 hx).elim (hl x) (hl2 x)⟩
theorem Fv(s:MS δ)(f:Int)(m:MsgT):Qt s (dB K s f m)∨(0<s.waits∧Rp s (dB K s f m) [⟨s.waits,0,0⟩]∧(dB K s f m).waits=0∧(dB K s f m).ops=s.ops):=by
 unfold dB;split
 · split
   · by_cases hw:0<s.waits
     · right
       have e:lw (gl (ic s f))= {db (gl (ic s f)) s.waits 0 0 with waits:=0}:=w7 (s:=gl (ic s f)) hw;have q:Qt (lw (gl (ic s f))) (kU K (ic s f)):=by unfold kU;exact inferInstance
       have hw0:(lw (gl (ic s f))).waits=0:=by rw[e]
       refine⟨hw,Rp.then (s:=lw (gl (ic s f))) ?_ q,(q.waits.elim (·.trans hw0) id),q.ops.trans (by rw[e];rfl)⟩;rw[e];exact⟨rfl,rfl,[],(aT _).symm,λ_ h=>by cases h⟩
     · left
       unfold kU;rw[w8 (s:=gl (ic s f)) hw];exact inferInstance
   · left;exact inferInstance
 · left;exact inferInstance
theorem yf(s:MS δ)(f:Int)(m:MsgT):Qt s (fI K s f m)∨(0<s.waits∧Rp s (fI K s f m) [⟨s.waits,0,0⟩]∧(fI K s f m).waits=0∧(fI K s f m).ops=s.ops):=by
 unfold fI
 by_cases h1:m.kind=1
 · rw[if_neg (by omega),if_pos h1];exact Fv s f m
 · left
   rw[if_neg h1]
   repeat' split
   all_goals exact inferInstance
theorem Df(s:MS δ)(x:RowT)(op:Int):((eA K s x op).2≠0∧Qt s (eA K s x op).1)∨((eA K s x op).2=0∧Rp s (eA K s x op).1 []∧(eA K s x op).1.waits=op∧(eA K s x op).1.ops=s.ops):=by
 unfold eA;split
 · rename_i h;exact .inl ⟨h,inferInstance⟩
 · right
   have q:Qt (s9 (dT K s (jW x)) x op) (e8 K (s9 (dT K s (jW x)) x op)):=inferInstance;refine⟨rfl,Rp.then (s:=s9 (dT K s (jW x)) x op) ⟨rfl,(aT _).symm,[],(aT _).symm,λ_ h=>by cases h⟩ q,?_,q.ops⟩;show(e8 K _).waits=_;rfl
theorem xN(s:MS δ)(o:OpT):(∃e v,Rp s (bO K s o).1 [⟨fT (s.ops+1),e,v⟩]∧(bO K s o).2=e∧(bO K s o).1.ops=fT (s.ops+1)∧((bO K s o).1.waits=s.waits∨(bO K s o).1.waits=0))∨(Rp s (bO K s o).1 []∧(bO K s o).2=0∧(bO K s o).1.ops=fT (s.ops+1)∧(bO K s o).1.waits=fT (s.ops+1)):=by
 have e0:Rp s (bq s) []:=⟨rfl,(aT _).symm,[],(aT _).symm,λ_ h=>by cases h⟩
 have rep: ∀(t:MS δ) (op e v:Int),Qt (bq s) t→op=fT (s.ops+1)→Rp s (db t op e v) [⟨fT (s.ops+1),e,v⟩]∧(db t op e v).ops=fT (s.ops+1)∧((db t op e v).waits=s.waits∨(db t op e v).waits=0):=λt op e v h ho=>by
  subst ho;obtain⟨l,e1,hl⟩:=h.o;exact⟨⟨h.id,by show t.replies++_=_;rw[h.replies];rfl,l,e1,hl⟩,h.ops,h.waits⟩
 unfold bO;split
 · left
   unfold dI;split
   · obtain⟨a,b,c⟩:=rep (bq s) _ (fg (bq s) o.change) 0 inferInstance rfl
     exact⟨_,_,a,rfl,b,c⟩
   · split
     · obtain⟨a,b,c⟩:=rep (ck K (bq s) o.change).1 _ (ck K (bq s) o.change).2 0 inferInstance rfl
       exact⟨_,_,a,rfl,b,c⟩
     · obtain⟨a,b,c⟩:=rep (ck K (bq s) o.change).1 _ 0 0 inferInstance rfl
       have q:Qt (db (ck K (bq s) o.change).1 (bq s).ops 0 0) (m8 K (db (ck K (bq s) o.change).1 (bq s).ops 0 0) (iV (bq s).view (ei (bq s)) o.change)):=inferInstance;exact⟨_,_,a.then q,rfl,q.ops.trans b,q.waits.elim (λw=>c.imp (w.trans ·) (w.trans ·)) .inr⟩
 · unfold mS
   split
   · left
     obtain⟨a,b,c⟩:=rep (bq s) _ (cV (bq s) o).2.2 (cV (bq s) o).2.1 inferInstance rfl;exact⟨_,_,a,rfl,b,c⟩
   · rcases Df (K:=K) (bq s) (cV (bq s) o).1 (bq s).ops with⟨h,q⟩| ⟨h,q,hw,ho⟩
     · rw[if_pos h]
       left;obtain⟨a,b,c⟩:=rep _ _ (eA K (bq s) (cV (bq s) o).1 (bq s).ops).2 0 q rfl;exact⟨_,_,a,rfl,b,c⟩
     · rw[if_neg (by omega)]
       right;obtain⟨l,e1,hl⟩:=q.o;exact⟨⟨q.id,q.replies,l,e1,hl⟩,rfl,ho,hw⟩
end
def Slot.pend(x:Slot):Nat:=match x.run with
 |some s=>if 0<s.waits then 1 else 0
 |none=>0
structure SlotOk(i n:Nat)(x:Slot):Prop where
 run: ∀s,x.run=some s→OkR KD s∧s.id=((i:Nat):Int)∧s.o=[]
 D:x.run=none→DkOk x.D
 reps:x.reps.length+x.pend≤n
structure CLOk(n:Nat)(a:CL):Prop where
 ms:a.ms.length=5
 W:a.W.length=25
 at': ∀i,i<5→SlotOk i n (a.at' i)
 way: ∀k,(a.W.getD k []).length≤8∧∀m∈a.W.getD k [],0< (dC m).length
structure OkOp(o:OpT):Prop where
 change:OkCh o.change
 n:o.n≤9223372036854775807
theorem SlotOk.dk{i n:Nat}{x:Slot}(h:SlotOk i n x):DkOk x.dk:=by
 unfold Slot.dk;split
 · rename_i s q;exact(h.run s q).1.e.dk
 · rename_i q;exact h.D q
theorem SlotOk.more{i n k:Nat}{x:Slot}(h:SlotOk i n x)(hk:n≤k):SlotOk i k x:=⟨h.run,h.D,nr h.reps hk⟩
theorem CLOk.more{n k:Nat}{a:CL}(h:CLOk n a)(hk:n≤k):CLOk k a:=⟨h.ms,h.W,λi hi=>(h.at' i hi).more hk,h.way⟩
theorem sI{ms:List Slot}{W:List (List MsgT)}{i:Nat}{x:Slot}(h:i<ms.length):(CL.mk (ms.set i x) W).at' i=x:=by
 unfold CL.at';rw[List.getD_eq_getElem?_getD,List.getElem?_set_self h];rfl
theorem tl{ms:List Slot}{W:List (List MsgT)}{i j:Nat}{x:Slot}(h:j≠i):(CL.mk (ms.set i x) W).at' j=ms.getD j .nil:=by
 unfold CL.at';rw[List.getD_eq_getElem?_getD,List.getElem?_set_ne (λe=>h e.symm),←List.getD_eq_getElem?_getD]
theorem CLOk.put{n k i:Nat}{a:CL}(h:CLOk n a)(hk:n≤k)(hi:i<5){x:Slot}(hx:SlotOk i k x){W:List (List MsgT)}(hW:W.length=25)(hw: ∀k,(W.getD k []).length≤8∧∀m∈W.getD k [],0< (dC m).length):CLOk k ⟨a.ms.set i x,W⟩:=
 ⟨by show(a.ms.set i x).length=5;rw[ka];exact h.ms,hW,λj hj=>by
  by_cases q:j=i
  · subst q;rw[sI (by rw[h.ms];exact hi)];exact hx
  · rw[tl q];exact(h.at' j hj).more hk,hw⟩
theorem Hj{W:List (List MsgT)}(hw: ∀k,(W.getD k []).length≤8∧∀m∈W.getD k [],0< (dC m).length)(f:Nat)(s:SaidT)(hs:0< (dC s.msg).length): ∀k,((ra W f s).getD k []).length≤8∧∀m∈(ra W f s).getD k [],0< (dC m).length:=λk=>by
 unfold ra;split
 · by_cases q:k=bp ((f:Nat):Int) s.to'
   · subst q
     by_cases hl:bp ((f:Nat):Int) s.to'<W.length
     · rw[List.getD_eq_getElem?_getD,List.getElem?_set_self hl]
       obtain⟨h1,h2⟩:=hw (bp ((f:Nat):Int) s.to');simp only[Option.getD_some];split
       · refine⟨by rw[af,fP];omega,λm hm=>?_⟩
         rcases cq.1 hm with hm|hm
         · exact h2 m hm
         · rw[c8]at hm;subst hm;exact hs
       · exact⟨h1,h2⟩
     · rw[mn (by omega)];exact hw _
   · rw[List.getD_eq_getElem?_getD,List.getElem?_set_ne (λe=>q e.symm),←List.getD_eq_getElem?_getD];exact hw k
 · exact hw k
theorem zO(f:Nat): ∀(l:List SaidT) {W:List (List MsgT)},(∀x∈l,0< (dC x.msg).length)→(∀k,(W.getD k []).length≤8∧∀m∈W.getD k [],0< (dC m).length)→∀k,((gh W f l).getD k []).length≤8∧∀m∈(gh W f l).getD k [],0< (dC m).length
 | [],_,_,hw=>hw
 |s::l,W,hl,hw=>zO f l (W:=ra W f s) (λx hx=>hl x (pp _ hx)) (Hj hw f s (hl s (gZ ..)))
theorem zZ(W:List (List MsgT))(f:Nat)(s:SaidT):(ra W f s).length=W.length:=by unfold ra;split<;>simp
theorem qY(f:Nat): ∀(l:List SaidT) (W:List (List MsgT)),(gh W f l).length=W.length
 | [],_=>rfl
 |s::l,W=>(qY f l _).trans (zZ W f s)
theorem HA{s:MS LD}(h:OkR KD s):OkR KD s.hush:=⟨h.e,h.id,h.view,h.own,h.mir,h.book,h.last,h.acc,h.vote⟩
def owe(s:MS LD):Nat:=if 0<s.waits then 1 else 0
theorem CLOk.did{n i k:Nat}{a:CL}(h:CLOk n a)(hk:n≤k)(hi:i<5){s s':MS LD}(hs:(a.at' i).run=some s)(h':OkR KD s'){l:List ReplyT}(r:Rp s s' l)(hl:l.length+owe s'+n≤k+owe s):CLOk k (a.did i s'):=by
 obtain⟨h1,h2,h3⟩:=(h.at' i hi).run s hs;obtain⟨lo,e,hlo⟩:=r.o;rw[h3,cb]at e;refine h.put hk hi ⟨λt q=>?_,(λq=>by cases q),?_⟩ (by rw[qY];exact h.W) (zO i _ (λx hx=>I3 (hlo x (by rw[←e];exact hx))) h.way)
 · obtain rfl:=cN q
   exact⟨HA h',r.id.trans h2,rfl⟩
 · have:=(h.at' i hi).reps
   unfold Slot.reps Slot.pend at this ⊢;rw[hs]at this;show((a.at' i).past++s'.replies).length+(if 0<s'.waits then 1 else 0)≤k;rw[r.replies];unfold owe at hl;simp only[af]at this ⊢;omega
theorem Qt.owe{s s':MS LD}(q:Qt s s'):Api.owe s'≤Api.owe s:=by
 unfold Api.owe;rcases q.waits with e|e
 · rw[e];exact aN _
 · rw[e];exact aR _
theorem JH(s:MS LD):owe s≤1:=by unfold owe;split<;>omega
theorem CLOk.quiet{n i:Nat}{a:CL}(h:CLOk n a)(hi:i<5){s s':MS LD}(hs:(a.at' i).run=some s)(h':OkR KD s')(q:Qt s s'):CLOk n (a.did i s'):=
 h.did (aN _) hi hs h' q.rp (by have:=q.owe;show 0+_+n≤_;omega)
theorem CLOk.onway{n k:Nat}{a:CL}(h:CLOk n a){l:List MsgT}(hl:l.length≤8∧∀m∈l,0< (dC m).length):CLOk n (a.way k l):=
 ⟨h.ms,by show(a.W.set k l).length=25;rw[ka];exact h.W,h.at',λj=>by
  show((a.W.set k l).getD j []).length≤8∧_
  by_cases q:j=k
  · subst q
    by_cases hk:j<a.W.length
    · show((a.W.set j l).getD j []).length≤8∧∀m∈(a.W.set j l).getD j [],_
      rw[List.getD_eq_getElem?_getD,List.getElem?_set_self hk];exact hl
    · show((a.W.set j l).getD j []).length≤8∧∀m∈(a.W.set j l).getD j [],_
      rw[mn (by omega)];exact h.way j
  · show((a.W.set k l).getD j []).length≤8∧∀m∈(a.W.set k l).getD j [],_
    rw[List.getD_eq_getElem?_getD,List.getElem?_set_ne (λe=>q e.symm),←List.getD_eq_getElem?_getD];exact h.way j⟩
theorem kQ{w:Int}(h:gp w=true):w.toNat<5∧((w.toNat:Nat):Int)=w:=by
 have:0≤w∧w<5:=of_decide_eq_true h;omega
theorem HH{n f t:Nat}{a:CL}(h:CLOk n a)(ht:t<5)(m:MsgT):CLOk n (rE a f t m).1:=by
 unfold rE;split
 · exact h
 · rename_i s hs
   split
   · exact h
   · split
     · obtain⟨h1,_,_⟩:=(h.at' t ht).run s hs
       have hm:=Dl (dC m);rcases yf (K:=KD) s ((f:Nat):Int) (ik (dC m)).1 with q| ⟨hw,q,q2,_⟩
       · exact h.quiet ht hs inferInstance q
       · refine h.did (aN _) ht hs inferInstance q ?_
         unfold owe;rw[q2,if_pos hw];show 1+(if(0:Int)<0 then 1 else 0)+n≤n+1;rw[if_neg (by omega)];omega
     · exact h
theorem IC{n:Nat}{a:CL}(h:CLOk n a)(o:OpT):CLOk n (nz a o).1:=by
 unfold nz;split
 · exact h
 · rename_i hv
   have hv:dw o.at' o.to'=true:=by simpa using hv
   have hw:=h.way (bp o.at' o.to');split
   · exact h
   · rename_i m l hl
     rw[hl]at hw;split
     · split
       · refine h.onway ⟨?_,λx hx=>?_⟩
         · rename_i q
           unfold Fp at q;have q:=of_decide_eq_true q;unfold Bh;rw[if_pos q,af,fP];omega
         · unfold Bh at hx
           split at hx
           · rcases cq.1 hx with hx|hx
             · exact hw.2 x hx
             · rw[c8]at hx;subst hx;exact hw.2 _ (gZ ..)
           · exact hw.2 x hx
       · exact h
     · split
       · exact h
       · rename_i m2 l2 hl2
         have hlen:=jD (max o.n 0% ((m::l).length:Int)).toNat (m::l);have hmem:=λx=>(nB (x:=x) (max o.n 0% ((m::l).length:Int)).toNat (m::l)).1
         rw[hl2]at hlen hmem;have g:CLOk n (a.way (bp o.at' o.to') l2):=h.onway ⟨by simp only[aw]at hlen hw;omega,λx hx=>hw.2 x (hmem x (pp _ hx))⟩
         have ht:o.to'.toNat<5:=by
          unfold dw at hv;rw[ax,ax]at hv;exact(kQ hv.1.2).1
         split
         · exact g
         · exact HH g ht m2
theorem zA{n i:Nat}(hi:i<5){x:Slot}(h:SlotOk i n x):SlotOk i n (gA i x).1:=by
 unfold gA;split
 · exact h
 · rename_i hr
   have hD:=h.D hr;refine⟨λs q=>?_,λ_=>hD.open.1,?_⟩
   · obtain⟨h1,f⟩:=xe hi hD q
     exact⟨h1,f.id,f.o⟩
   · have:=h.reps
     unfold Slot.reps Slot.pend at this ⊢;rw[hr,aT]at this;show(x.past++match(dM i x.D).1 with|some s=>s.replies|none=>[]).length+(match(dM i x.D).1 with|some s=>if 0<s.waits then 1 else 0|none=>0)≤n;cases q:(dM i x.D).1 with
     |some s=>
      have f:=(xe hi hD q).2;simp only[f.replies,f.waits,aT]
      simpa using this
     |none=>simpa using this
theorem Ja{n i:Nat}{x:Slot}(h:SlotOk i n x){k:Int}(hk:k≤9223372036854775807):SlotOk i n (tB x k):=by
 unfold tB;split
 · rename_i s hs
   obtain⟨h1,h2,h3⟩:=h.run s hs;refine⟨λt q=>?_,(λq=>by cases q),?_⟩
   · obtain rfl:=cN q
     exact⟨⟨⟨h1.e.dk.arm k hk,h1.e.used,h1.e.cnt⟩,h1.id,h1.view,h1.own,h1.mir,h1.book,h1.last,h1.acc,h1.vote⟩,h2,h3⟩
   · have:=h.reps
     unfold Slot.reps Slot.pend at this ⊢;rw[hs]at this;exact this
 · rename_i hr
   refine⟨λt q=>?_,λ_=>(h.D hr).arm k hk,?_⟩
   · rw[show x.run=some t from q]at hr;cases hr
   · have:=h.reps
     unfold Slot.reps Slot.pend at this ⊢;rw[hr]at this;simp only[hr];exact this
theorem crash_ok{n i:Nat}{x:Slot}(h:SlotOk i n x)(mask torn cut:Int):SlotOk i n (mP x mask torn cut):=
 ⟨(λt q=>by cases q),λ_=>h.dk.crash mask torn cut,by
  have:=h.reps;show(x.reps++[]).length+0≤n
  rw[aT];omega⟩
theorem I7{n:Nat}{a:CL}(h:CLOk n a){o:OpT}(ho:OkOp o)(hk: ¬(0≤o.kind∧o.kind≤4)):CLOk n (xK a o).1:=by
 unfold xK;split
 · exact h
 rename_i hm;have hm:gp o.at'=true:=by simpa using hm
 have hi:=(kQ hm).1;split
 · exact IC h o
 split
 · unfold zu
   split
   · exact h
   · rename_i s hs
     split
     · exact h
     · obtain⟨h1,_,_⟩:=(h.at' _ hi).run s hs
       exact h.quiet hi hs inferInstance inferInstance
 split
 · exact h.put (aN _) hi (Ja (h.at' _ hi) ho.n) h.W h.way
 split
 · exact h.put (aN _) hi (crash_ok (h.at' _ hi) _ _ _) h.W h.way
 split
 · exact h.put (aN _) hi (zA hi (h.at' _ hi)) h.W h.way
 · exact h
theorem It{n:Nat}{a:CL}(h:CLOk n a){o:OpT}(ho:OkOp o):CLOk (n+1) (xK a o).1:=by
 by_cases hk:0≤o.kind∧o.kind≤4
 · unfold xK
   split
   · exact h.more (by omega)
   rename_i hm;have hm:gp o.at'=true:=by simpa using hm
   have hi:=(kQ hm).1;unfold AQ;split
   · exact h.more (by omega)
   · rename_i s hs
     split
     · exact h.more (by omega)
     · obtain⟨h1,_,_⟩:=(h.at' _ hi).run s hs
       have:=ho.change;rcases xN (K:=KD) s o with⟨e,v,q,_,_,w⟩| ⟨q,_⟩
       · refine h.did (by omega) hi hs inferInstance q ?_
         have:owe (bO KD s o).1≤owe s:=by
          unfold owe;rcases w with e|e
          · rw[e];exact aN _
          · rw[e];exact aR _
         show 1+_+n≤_;omega
       · refine h.did (by omega) hi hs inferInstance q ?_
         have:=JH (bO KD s o).1;show 0+_+n≤_;omega
 · exact(I7 h ho hk).more (by omega)
theorem new_ok:CLOk 0 CL.new:=by
 refine⟨by simp[CL.new],by simp[CL.new],λi hi=>?_,λk=>?_⟩
 · have e:CL.new.at' i=lH i:=by simp[CL.new,CL.at',List.getD_eq_getElem?_getD,hi]
   rw[e];exact zA hi ⟨(λs q=>by cases q),λ_=>DkOk.new,aN _⟩
 · have e:CL.new.W.getD k []=[]:=by
    show(List.replicate 25 ([]:List MsgT)).getD k []=[];rw[List.getD_eq_getElem?_getD,List.getElem?_replicate];split<;>rfl
   rw[e];exact⟨aR _,λm hm=>by cases hm⟩
theorem yo: ∀(l:List OpT) {n:Nat} {a:CL},CLOk n a→(∀o∈l,OkOp o)→CLOk (n+l.length) (eh a l)
 | [],_,_,h,_=>h
 |o::l,n,a,h,ho=>by
  have:=yo l (It h (ho o (gZ ..))) λx hx=>ho x (pp _ hx)
  rw[aw,show n+(l.length+1)=n+1+l.length by omega];exact this
end Api
end

section
namespace Go.Proofs.YtjblgopghhgflaaGreat
open Go Leg Codec Api Dsk Wal
theorem xp{f:Nat→HP}{k i:Nat}(hi:i<k){H:List HP}{h:Hl}(s:bI (bI ((List.range k).map f)::H) h):bI (f i::bI (((List.range k).map f).eraseIdx i)::H) h:=by
 have s1:bI ((List.range k).map f++H) h:=(bX _ _).2 s;have e:((List.range k).map f).getD i (λ_=>True)=f i:=by simp[List.getD_eq_getElem?_getD,hi]
 have p:=l5 (λ_=>True) ((List.range k).map f) i (by simpa using hi);rw[e]at p;exact cy (dS (p.append_right H) s1) (λ_ a=>a) λ_ b=>(bX _ _).1 b
theorem xo{f g:Nat→HP}{k i:Nat}(hi:i<k)(hg: ∀j,j≠i→g j=f j){H:List HP}{h:Hl}(s:bI (g i::bI (((List.range k).map f).eraseIdx i)::H) h):bI (bI ((List.range k).map g)::H) h:=by
 have e0:((List.range k).map g).eraseIdx i=((List.range k).map f).eraseIdx i:=by
  refine List.ext_getElem? λj=>?_
  rw[List.getElem?_eraseIdx,List.getElem?_eraseIdx]
  have: ∀m,m≠i→((List.range k).map g)[m]?=((List.range k).map f)[m]?:=λm hm=>by
   rw[List.getElem?_map,List.getElem?_map]
   by_cases hk:m<k
   · simp[hk,hg m hm]
   · simp[hk]
  split
  · exact this j (by omega)
  · exact this (j+1) (by omega)
 have e:((List.range k).map g).getD i (λ_=>True)=g i:=by simp[List.getD_eq_getElem?_getD,hi]
 have p:=l5 (λ_=>True) ((List.range k).map g) i (by simpa using hi);rw[e,e0]at p;have s2:bI ((g i::((List.range k).map f).eraseIdx i)++H) h:=cy s (λ_ a=>a) λ_ b=>(bX _ _).2 b
 exact(bX _ _).1 (dS (p.symm.append_right H) s2)
section
variable {f:FuncId} {args:Array Value} {Q:Value→Prop} {c i:Nat} {a a':CL}
theorem yV(hi:i<5){Z:Value→CL→Prop}(hne: ∀v a',Z v a'→∀j,j≠i→a'.at' j=a.at' j)
 (core: ∀g:CX,DT f args T0 (ak c (eE g.n (mc g) (jF a g.r) g.p) 104::eb 156 208 5 g.n (cC a.W)::jL (a.at' i) (g.d i) (g.r i) (g.p i))
  (dG λv H=>∃a',Z v a'∧∃g':CX,g'.n=g.n∧(∀j,j≠i→g'.d j=g.d j∧g'.r j=g.r j∧g'.p j=g.p j)∧H=ak c (eE g.n (mc g') (jF a' g'.r) g'.p) 104::eb 156 208 5 g.n (cC a'.W)::jL (a'.at' i) (g'.d i) (g'.r i) (g'.p i))):
 DT f args T0 [fN c a] (dG λv H=>∃a',Z v a'∧H=[fN c a']):=by
 refine Leg.Does.ex (A':=λg:CX=>(ak c (eE g.n (mc g) (jF a g.r) g.p) 104::eb 156 208 5 g.n (cC a.W)::jL (a.at' i) (g.d i) (g.r i) (g.p i))++[bI (((List.range 5).map λi=>kI (a.at' i) (g.d i) (g.r i) (g.p i)).eraseIdx i)]) (λh s=>?_) λg=>?_
 · obtain⟨g,s⟩:=fi s
   have s2:=xp (f:=λi=>kI (a.at' i) (g.d i) (g.r i) (g.p i)) hi (aA [2,0,0] rfl s);have s3:=(bX (jL (a.at' i) (g.d i) (g.r i) (g.p i)) _).2 s2;exact⟨g,aA [4,4,0,0,0,0] rfl s3⟩
 · refine Leg.Does.withinR (core g) (λ_ _ _ _=>trivial) (λh s=>s) λv H hp=>?_
   obtain⟨a',hz,g',hn,hg,rfl⟩:=hp;refine⟨[fN c a'],λh s=>?_,a',hz,rfl⟩;have s1:=aA [2,2,2,2,0,0] rfl s;have s2:=(bX (jL (a'.at' i) (g'.d i) (g'.r i) (g'.p i)) _).1 s1
   have s3:=xo (f:=λi=>kI (a.at' i) (g.d i) (g.r i) (g.p i)) (g:=λi=>kI (a'.at' i) (g'.d i) (g'.r i) (g'.p i)) hi (λj hj=>by
    obtain⟨h1,h2,h3⟩:=hg j hj
    rw[hne v a' hz j hj,h1,h2,h3]) s2
   refine bm (p:=rF c a') g' ?_;rw[←hn]at s3;exact aA [1,1,0] rfl s3
theorem vi(hne: ∀j,j≠i→a'.at' j=a.at' j)(r:Nat→Nat)(hi:wC (a'.at' i) (r i)=wC (a.at' i) (r i)):jF a' r=jF a r:=funext λj=>by
 by_cases q:j=i
 · subst q;exact hi
 · show wC (a'.at' j) (r j)=wC (a.at' j) (r j)
   rw[hne j q]
theorem Cg(hl:a.ms.length=5)(hi:i<5){s:MS LD}(hs:(a.at' i).run=some s){R:Value→MS LD→List (List MsgT)→Prop}
 (core: ∀g:CX,jF a g.r i= .pointer (some ⟨g.r i,0,none⟩)→DT f args T0 [ak c (eE g.n (mc g) (jF a g.r) g.p) 104,dk (g.d i) s.e.D,eb 156 208 5 g.n (cC a.W),gC s (g.d i) (g.r i)]
  (dG λv H=>∃s' W',R v s' W'∧H=[ak c (eE g.n (mc g) (jF a g.r) g.p) 104,dk (g.d i) s'.e.D,eb 156 208 5 g.n (cC W'),gC s' (g.d i) (g.r i)])):
 DT f args T0 [fN c a] (dG λv H=>∃a',(∃s' W',R v s' W'∧a'=⟨a.ms.set i {a.at' i with run:=some s'},W'⟩)∧H=[fN c a']):=by
 refine yV hi (λv a' hz j hj=>?_) λg=>?_
 · obtain⟨s',W',_,rfl⟩:=hz
   exact tl hj
 · have em:jF a g.r i= .pointer (some ⟨g.r i,0,none⟩):=by show wC (a.at' i) _=_;unfold wC;rw[hs]
   have e1:pF (a.at' i) (g.d i) (g.r i)=gC s (g.d i) (g.r i):=by unfold pF;rw[hs]
   have e2:(a.at' i).dk=s.e.D:=by unfold Slot.dk;rw[hs]
   refine Leg.Does.withinR (B:=[kO (g.p i) (a.at' i).past]) (core g em) (λ_ _ _ _=>trivial) (λh q=>?_) λv H hp=>?_
   · unfold jL at q
     rw[e1,e2]at q;exact aA [0,1,0,1,0] rfl q
   · obtain⟨s',W',hR,rfl⟩:=hp
     have ea:(CL.mk (a.ms.set i {a.at' i with run:=some s'}) W').at' i= {a.at' i with run:=some s'}:=sI (by rw[hl];exact hi);have hm:jF ⟨a.ms.set i {a.at' i with run:=some s'},W'⟩ g.r=jF a g.r:=vi (λj hj=>tl hj) g.r (by rw[ea];unfold wC;rw[hs]);refine⟨_,λh q=>?_,_,⟨s',W',hR,rfl⟩,g,rfl,λ_ _=>⟨rfl,rfl,rfl⟩,rfl⟩;rw[hm,ea];exact aA [0,1,0,1,0] rfl q
theorem yU(core: ∀g:CX,DT f args T0 [ak c (eE g.n (mc g) (jF a g.r) g.p) 104] (dG λv H=>Q v∧H=[ak c (eE g.n (mc g) (jF a g.r) g.p) 104])):
 DT f args T0 [fN c a] (dG λv H=>Q v∧H=[fN c a]):=by
 refine Leg.Does.ex (A':=λg:CX=>[ak c (eE g.n (mc g) (jF a g.r) g.p) 104]++[eb 156 208 5 g.n (cC a.W),bI ((List.range 5).map λi=>kI (a.at' i) (g.d i) (g.r i) (g.p i))]) (λh s=>fi s) λg=>?_
 refine Leg.Does.withinR (core g) (λ_ _ _ _=>trivial) (λh s=>s) λv H hp=>?_
 obtain⟨hQ,rfl⟩:=hp;exact⟨[fN c a],λh s=>bm (p:=rF c a) g s,hQ,rfl⟩
theorem Gz{R:Value→List (List MsgT)→Prop}(core: ∀g:CX,DT f args T0 [ak c (eE g.n (mc g) (jF a g.r) g.p) 104,eb 156 208 5 g.n (cC a.W)] (dG λv H=>∃W',R v W'∧H=[ak c (eE g.n (mc g) (jF a g.r) g.p) 104,eb 156 208 5 g.n (cC W')])):
 DT f args T0 [fN c a] (dG λv H=>∃W',R v W'∧H=[fN c ⟨a.ms,W'⟩]):=by
 refine Leg.Does.ex (A':=λg:CX=>[ak c (eE g.n (mc g) (jF a g.r) g.p) 104,eb 156 208 5 g.n (cC a.W)]++[bI ((List.range 5).map λi=>kI (a.at' i) (g.d i) (g.r i) (g.p i))]) (λh s=>fi s) λg=>?_
 refine Leg.Does.withinR (core g) (λ_ _ _ _=>trivial) (λh s=>s) λv H hp=>?_
 obtain⟨W',hR,rfl⟩:=hp;exact⟨[fN c ⟨a.ms,W'⟩],λh s=>bm (p:=rF c ⟨a.ms,W'⟩) g s,W',hR,rfl⟩
theorem HE(hl:a.ms.length=5)(hi:i<5){x:Slot}(hm: ∀r,wC x r=wC (a.at' i) r)(hr: ∀d r,pF x d r=pF (a.at' i) d r)(hp:x.past=(a.at' i).past)
 (core: ∀g:CX,DT f args T0 [ak c (eE g.n (mc g) (jF a g.r) g.p) 104,dk (g.d i) (a.at' i).dk] (dG λv H=>Q v∧H=[ak c (eE g.n (mc g) (jF a g.r) g.p) 104,dk (g.d i) x.dk])):
 DT f args T0 [fN c a] (dG λv H=>∃a',(Q v∧a'=a.set i x)∧H=[fN c a']):=by
 have ea:(a.set i x).at' i=x:=sI (by rw[hl];exact hi);refine yV hi (λv a' hz j hj=>by rw[hz.2];exact tl hj) λg=>?_
 refine Leg.Does.withinR (B:=[eb 156 208 5 g.n (cC a.W),kO (g.p i) (a.at' i).past,pF (a.at' i) (g.d i) (g.r i)]) (core g) (λ_ _ _ _=>trivial) (λh q=>aA [0,1,0,0,0] rfl q) λv H hq=>?_
 obtain⟨hQ,rfl⟩:=hq;have hmm:jF (a.set i x) g.r=jF a g.r:=vi (λj hj=>tl hj) g.r (by rw[show(CL.mk (a.ms.set i x) a.W).at' i=x from ea];exact hm _);refine⟨_,λh q=>?_,_,⟨hQ,rfl⟩,g,rfl,λ_ _=>⟨rfl,rfl,rfl⟩,rfl⟩;rw[hmm,ea];unfold jL;rw[hp,hr];exact aA [0,1,0,0,0] rfl q
end
theorem lh{f:FuncId}{args:Array Value}{R:Hl→Prop}{A:List HP}{p q:Value→List HP→Prop}(d:DT f args R A (dG p))(k: ∀v H,p v H→q v H):DT f args R A (dG q):=
 Leg.Does.fold d λe H hp=>by
  cases e with
  |returned v=>exact⟨H,λ_ s=>s,k v H hp⟩
  |panicked c=>exact hp.elim
  |outgrown=>exact hp.elim
theorem uC{H:List HP}{h:Hl}(s:bI H h):bI ((λ_=>True)::H) h:=⟨em,h,A4 h,(pS h).symm,trivial,s⟩
theorem uz{α:Type}{l:List α}{k:Nat}{d:α}(h:k<l.length):l.set k (l.getD k d)=l:=by
 refine List.ext_getElem? λj=>?_
 by_cases q:j=k
 · subst q;rw[List.getElem?_set_self h,List.getD_eq_getElem?_getD,List.getElem?_eq_getElem h];rfl
 · rw[List.getElem?_set_ne (λe=>q e.symm)]
section
variable {n c i:Nat} {a:CL} {o:OpT}
theorem zK(h:CLOk n a)(hi:i<5):a.set i (a.at' i)=a:=by
 show CL.mk (a.ms.set i (a.ms.getD i .nil)) a.W=a;rw[uz (by rw[h.ms];exact hi)]
theorem uN(h:CLOk n a)(hi:i<5){s:MS LD}(hs:(a.at' i).run=some s):(CL.mk (a.ms.set i {a.at' i with run:=some s}) a.W)=a:=by
 have e:({a.at' i with run:=some s}:Slot)=a.at' i:=by cases q:a.at' i with|mk r D p=>rw[q]at hs;simp only at hs;rw[hs]
 rw[e];exact zK h hi
theorem nM{k:Int}(hk:o.kind=k)(hi:o.at'=((i:Nat):Int)):OpT.mk k ((i:Nat):Int) o.to' o.key o.n o.change o.mask o.torn o.cut=o:=by subst hk;rw[←hi]
theorem rf{k:Int}{j:Nat}(hk:o.kind=k)(hi:o.at'=((i:Nat):Int))(hj:o.to'=((j:Nat):Int)):OpT.mk k ((i:Nat):Int) ((j:Nat):Int) o.key o.n o.change o.mask o.torn o.cut=o:=by subst hk;rw[←hi,←hj]
theorem rm{g:CX}{s:MS LD}(hs:(a.at' i).run=some s):jF a g.r i= .pointer (some ⟨g.r i,0,none⟩):=by show wC (a.at' i) _=_;unfold wC;rw[hs]
theorem l8{g:CX}(hs:(a.at' i).run=none):jF a g.r i= .pointer none:=by show wC (a.at' i) _=_;unfold wC;rw[hs]
theorem Db{a':CL}{r r':Nat→Nat}{v:Value}(hne: ∀j,j≠i→a'.at' j=a.at' j)(hr: ∀j,j≠i→r' j=r j)(hv:wC (a'.at' i) (r' i)=v):jF a' r'=my (jF a r) i v:=funext λj=>by
 by_cases q:j=i
 · subst q;rw[kF];exact hv
 · rw[oC _ _ q]
   show wC (a'.at' j) (r' j)=wC (a.at' j) (r j);rw[hne j q,hr j q]
theorem GA(h:CLOk n a)(hn:n≤100000)(hi:i<5)(hat:o.at'=((i:Nat):Int))(hk:0≤o.kind∧o.kind≤4)(ho:OkOp o):DT 17 #[.pointer (some ⟨c,0,none⟩), .agg (ints o.flat).toArray] T0 [fN c a] (dG λv H=>v= .int .i64 (AQ a i o).2∧H=[fN c (AQ a i o).1]):=by
 have eo:=nM (o:=o) rfl hat;cases hr:(a.at' i).run with
 |none=>
  refine lh (yU (Q:=λv=>v= .int .i64 4) λg=>?_) λv H hp=>?_
  · have:=AI c g.n i (mc g) (jF a g.r) g.p hi (l8 hr) o o.kind hk
    rw[eo]at this;exact this
  · unfold AQ;rw[hr];exact hp
 |some s=>
  obtain⟨hs,_,hso⟩:=(h.at' i hi).run s hr;have hrep:=(h.at' i hi).reps;unfold Slot.reps at hrep;rw[hr,af]at hrep;simp only at hrep;refine lh (Cg h.ms hi hr (R:=λv s' W'=>(s.e.D.dn=true∧v= .int .i64 4∧s'=s∧W'=a.W)∨(s.e.D.dn=false∧v= .int .i64 (bO KD s o).2∧s'=(bO KD s o).1.hush∧W'=gh a.W i (bO KD s o).1.o)) λg em=>?_) λv H hp=>?_
  · have:=Cd c g.n i (mc g) (jF a g.r) g.p hi (g.d i) (g.r i) s rfl em a.W h.W hso hs o o.kind hk ho.change (by omega)
    rw[eo]at this;refine lh this λv H hp=>?_
    rcases hp with⟨hd,rfl,rfl⟩| ⟨hd,rfl,rfl⟩
    · exact⟨s,a.W, .inl ⟨hd,rfl,rfl,rfl⟩,rfl⟩
    · exact⟨_,_, .inr ⟨hd,rfl,rfl,rfl⟩,rfl⟩
  · obtain⟨a',⟨s',W',hR,rfl⟩,rfl⟩:=hp
    unfold AQ;rw[hr];rcases hR with⟨hd,rfl,rfl,rfl⟩| ⟨hd,rfl,rfl,rfl⟩
    · simp only[hd,if_true];exact⟨by first|rfl|trivial,by rw[uN h hi hr]⟩
    · simp only[hd];exact⟨rfl,rfl⟩
theorem Fs(h:CLOk n a)(hi:i<5)(hat:o.at'=((i:Nat):Int))(hk:o.kind=8):DT 17 #[.pointer (some ⟨c,0,none⟩), .agg (ints o.flat).toArray] T0 [fN c a] (dG λv H=>v= .int .i64 (zu a i).2∧H=[fN c (zu a i).1]):=by
 have eo:=nM (o:=o) hk hat;cases hr:(a.at' i).run with
 |none=>
  refine lh (yU (Q:=λv=>v= .int .i64 4) λg=>?_) λv H hp=>?_
  · have:=AG c g.n i (mc g) (jF a g.r) g.p hi (l8 hr) o
    rw[eo]at this;exact this
  · unfold zu;rw[hr];exact hp
 |some s=>
  obtain⟨hs,_,hso⟩:=(h.at' i hi).run s hr;refine lh (Cg h.ms hi hr (R:=λv s' W'=>(s.e.D.dn=true∧v= .int .i64 4∧s'=s∧W'=a.W)∨(s.e.D.dn=false∧v= .int .i64 0∧s'=(gU KD s).hush∧W'=gh a.W i (gU KD s).o)) λg em=>?_) λv H hp=>?_
  · have:=B8 c g.n i (mc g) (jF a g.r) g.p hi (g.d i) (g.r i) s rfl em a.W h.W hso hs o
    rw[eo]at this;refine lh this λv H hp=>?_
    rcases hp with⟨hd,rfl,rfl⟩| ⟨hd,rfl,rfl⟩
    · exact⟨s,a.W, .inl ⟨hd,rfl,rfl,rfl⟩,rfl⟩
    · exact⟨_,_, .inr ⟨hd,rfl,rfl,rfl⟩,rfl⟩
  · obtain⟨a',⟨s',W',hR,rfl⟩,rfl⟩:=hp
    unfold zu;rw[hr];rcases hR with⟨hd,rfl,rfl,rfl⟩| ⟨hd,rfl,rfl,rfl⟩
    · simp only[hd,if_true];exact⟨by first|rfl|trivial,by rw[uN h hi hr]⟩
    · simp only[hd];exact⟨rfl,rfl⟩
theorem GI(h:CLOk n a)(hi:i<5)(hat:o.at'=((i:Nat):Int))(hk:o.kind=9):DT 17 #[.pointer (some ⟨c,0,none⟩), .agg (ints o.flat).toArray] T0 [fN c a] (dG λv H=>v= .int .i64 0∧H=[fN c (a.set i (tB (a.at' i) o.n))]):=by
 have eo:=nM (o:=o) hk hat
 have ed:(tB (a.at' i) o.n).dk=(a.at' i).dk.arm o.n:=by
  unfold tB Slot.dk;cases hr:(a.at' i).run with
  |none=>simp only[hr]
  |some s=>rfl
 refine lh (HE (x:=tB (a.at' i) o.n) (Q:=λv=>v= .int .i64 0) h.ms hi (λr=>?_) (λd r=>?_) ?_ λg=>?_) λv H hp=>?_
 · unfold tB wC
   cases hr:(a.at' i).run with
   |none=>simp only[hr]
   |some s=>rfl
 · unfold tB pF
   cases hr:(a.at' i).run with
   |none=>simp only[hr]
   |some s=>rfl
 · unfold tB;split<;>rfl
 · have:=Cf c g.n i (mc g) (jF a g.r) g.p hi (g.d i) rfl (a.at' i).dk o
   rw[eo]at this;rw[ed];exact this
 · obtain⟨a',⟨rfl,rfl⟩,rfl⟩:=hp
   exact⟨rfl,rfl⟩
theorem Ci(h:CLOk n a)(hn:n≤100000)(hi:i<5)(hat:o.at'=((i:Nat):Int))(hk:o.kind=10):DT 17 #[.pointer (some ⟨c,0,none⟩), .agg (ints o.flat).toArray] T0 [fN c a] (dG λv H=>v= .int .i64 0∧H=[fN c (a.set i (mP (a.at' i) o.mask o.torn o.cut))]):=by
 have eo:=nM (o:=o) hk hat;have so:=h.at' i hi;have hrep:=so.reps;unfold Slot.reps at hrep;rw[af]at hrep;have ea:(a.set i (mP (a.at' i) o.mask o.torn o.cut)).at' i=mP (a.at' i) o.mask o.torn o.cut:=sI (by rw[h.ms];exact hi);have hne: ∀j,j≠i→(a.set i (mP (a.at' i) o.mask o.torn o.cut)).at' j=a.at' j:=λj hj=>tl hj
 refine lh (yV (Z:=λv a'=>v= .int .i64 0∧a'=a.set i (mP (a.at' i) o.mask o.torn o.cut)) hi (λv a' hz j hj=>by rw[hz.2];exact hne j hj) λg=>?_) λv H hp=>by obtain⟨_,⟨rfl,rfl⟩,rfl⟩:=hp;exact⟨rfl,rfl⟩
 have fin: ∀u,u.oneCell'=true→∀h,bI ([ak c (eE g.n (mc g) (my (jF a g.r) i (.pointer none)) (my g.p i u)) 104,dk (g.d i) ((a.at' i).dk.crash o.mask o.torn o.cut),kO u (a.at' i).reps]++[eb 156 208 5 g.n (cC a.W)]) h→
  bI (ak c (eE g.n (mc {g with p:=my g.p i u}) (jF (a.set i (mP (a.at' i) o.mask o.torn o.cut)) g.r) (my g.p i u)) 104::eb 156 208 5 g.n (cC (a.set i (mP (a.at' i) o.mask o.torn o.cut)).W)::jL ((a.set i (mP (a.at' i) o.mask o.torn o.cut)).at' i) (g.d i) (g.r i) (my g.p i u i)) h:=λu _ hh q=>by
  rw[Db (a:=a) (i:=i) (v:= .pointer none) (r:=g.r) hne (λ_ _=>rfl) (by rw[ea];rfl),ea,kF];have q2:=uC (aA [0,2,0,0] rfl q);exact aA [1,1,1,1,0] rfl q2
 cases hr:(a.at' i).run with
 |none=>
  have er:(a.at' i).reps=(a.at' i).past:=by unfold Slot.reps;rw[hr,aT]
  have:=Cc c g.n i (mc g) (jF a g.r) g.p hi (g.d i) rfl (l8 hr) (a.at' i).past (by omega) (a.at' i).dk so.dk.ok o;rw[eo]at this;refine Leg.Does.withinR (B:=[eb 156 208 5 g.n (cC a.W)]) this (λ_ _ _ _=>trivial) (λhh q=>?_) λv H hp=>?_
  · exact aj [0,1,1,0] rfl q
  · obtain⟨u,hu,rfl,rfl⟩:=hp
    refine⟨_,λhh q=>fin u hu hh ?_,_,⟨rfl,rfl⟩,{g with p:=my g.p i u},rfl,λj hj=>⟨rfl,rfl,oC _ _ hj⟩,rfl⟩;rw[er];exact q
 |some s=>
  rw[hr]at hrep;simp only at hrep;have er:(a.at' i).reps=(a.at' i).past++s.replies:=by unfold Slot.reps;rw[hr]
  have e1:pF (a.at' i) (g.d i) (g.r i)=gC s (g.d i) (g.r i):=by unfold pF;rw[hr]
  have:=Cb c g.n i (mc g) (jF a g.r) g.p hi (g.d i) rfl (g.r i) s (rm hr) (a.at' i).past (by omega) (by omega) (a.at' i).dk so.dk.ok o;rw[eo]at this;refine Leg.Does.withinR (B:=[eb 156 208 5 g.n (cC a.W)]) this (λ_ _ _ _=>trivial) (λhh q=>?_) λv H hp=>?_
  · unfold jL at q
    rw[e1]at q;exact aA [0,1,1,1,0] rfl q
  · obtain⟨u,hu,rfl,rfl⟩:=hp
    refine⟨_,λhh q=>fin u hu hh ?_,_,⟨rfl,rfl⟩,{g with p:=my g.p i u},rfl,λj hj=>⟨rfl,rfl,oC _ _ hj⟩,rfl⟩;rw[er];exact q
end
section
variable {n c i:Nat} {a:CL} {o:OpT}
theorem zE{i:Nat}{D:DS}{s:MS LD}(h:(dM i D).1=some s):(dM i D).2=0:=by
 obtain⟨h1,h2⟩:=jK h;unfold dM;rw[if_neg (by rw[h1];decide),h2]
theorem zF(h:CLOk n a)(hi:i<5)(hat:o.at'=((i:Nat):Int))(hk:o.kind=11):DT 17 #[.pointer (some ⟨c,0,none⟩), .agg (ints o.flat).toArray] T0 [fN c a] (dG λv H=>v= .int .i64 (gA i (a.at' i)).2∧H=[fN c (a.set i (gA i (a.at' i)).1)]):=by
 have eo:=nM (o:=o) hk hat;have so:=h.at' i hi;cases hr:(a.at' i).run with
 |some s=>
  have e:gA i (a.at' i)=(a.at' i,5):=by unfold gA;rw[hr]
  rw[e,show a.set i (a.at' i,(5:Int)).1=a from zK h hi];refine yU (Q:=λv=>v= .int .i64 5) λg=>?_
  have:=B9 c g.n i (mc g) (jF a g.r) g.p hi (g.r i) (rm hr) o;rw[eo]at this;exact this
 |none=>
  have e:gA i (a.at' i)=({a.at' i with run:=(dM i (a.at' i).D).1,D:=(bJ (a.at' i).D).D},(dM i (a.at' i).D).2):=by unfold gA;rw[hr]
  have hD:=so.D hr;have ed:(a.at' i).dk=(a.at' i).D:=by unfold Slot.dk;rw[hr]
  have e1: ∀d r,pF (a.at' i) d r= λ_=>True:=λd r=>by unfold pF;rw[hr]
  have hst: ∀x:Slot,(a.set i x).at' i=x:=λx=>sI (by rw[h.ms];exact hi)
  have hne: ∀x:Slot,∀j,j≠i→(a.set i x).at' j=a.at' j:=λx j hj=>tl hj
  refine lh (yV (Z:=λv a'=>v= .int .i64 (gA i (a.at' i)).2∧a'=a.set i (gA i (a.at' i)).1) hi (λv a' hz j hj=>by rw[hz.2];exact hne _ j hj) λg=>?_) λv H hp=>by obtain⟨_,⟨rfl,rfl⟩,rfl⟩:=hp;exact⟨rfl,rfl⟩
  have:=Ca c g.n i (mc g) (jF a g.r) g.p hi (g.d i) rfl (l8 hr) (a.at' i).D hD o;rw[eo]at this;refine Leg.Does.withinR (B:=[eb 156 208 5 g.n (cC a.W),kO (g.p i) (a.at' i).past]) this (λ_ _ _ _=>trivial) (λhh q=>?_) λv H hp=>?_
  · unfold jL at q
    rw[ed]at q;exact aj [0,1,0,0] rfl q
  · rcases hp with⟨hn,rfl,rfl⟩| ⟨s,r,hn,rfl,rfl⟩
    · refine⟨_,λhh q=>?_,_,⟨by rw[e],rfl⟩,g,rfl,λj hj=>⟨rfl,rfl,rfl⟩,rfl⟩
      rw[hst,e];have em:jF (a.set i {a.at' i with run:=(dM i (a.at' i).D).1,D:=(bJ (a.at' i).D).D}) g.r=jF a g.r:=vi (hne _) g.r (by rw[hst];unfold wC;rw[hr];simp only[hn]);rw[em];have q2:=uC (aA [0,1,0,0] rfl q);have q3:=aA [1,1,1,1,0] rfl q2;unfold jL Slot.dk pF;simp only[hn];exact q3
    · refine⟨_,λhh q=>?_,_,⟨by rw[e];simp only[zE hn],rfl⟩,{g with r:=my g.r i r},rfl,λj hj=>⟨rfl,oC _ _ hj,rfl⟩,rfl⟩
      rw[hst,e];have em:jF (a.set i {a.at' i with run:=(dM i (a.at' i).D).1,D:=(bJ (a.at' i).D).D}) (my g.r i r)=my (jF a g.r) i (.pointer (some ⟨r,0,none⟩)):=Db (hne _) (λj hj=>oC _ _ hj) (by rw[hst,kF];unfold wC;simp only[hn]);rw[em];have q3:=aA [0,2,1,1,0] rfl q;unfold jL Slot.dk pF;simp only[hn,kF];exact q3
theorem DE(h:CLOk n a)(hn:n≤100000)(hi:i<5)(hat:o.at'=((i:Nat):Int))(hk:o.kind=5∨o.kind=6∨o.kind=7):DT 59 #[.pointer (some ⟨c,0,none⟩), .agg (ints o.flat).toArray] T0 [fN c a] (dG λv H=>v= .int .i64 (nz a o).2∧H=[fN c (nz a o).1]):=by
 cases hv:dw o.at' o.to' with
 |false=>
  have e:nz a o=(a,5):=by unfold nz;rw[if_pos hv]
  rw[e];have eo:=nM (o:=o) rfl hat;refine lh (Gz (R:=λv W'=>v= .int .i64 5∧W'=a.W) λg=>?_) λv H hp=>by obtain⟨_,⟨rfl,rfl⟩,rfl⟩:=hp;exact⟨rfl,rfl⟩
  refine Leg.Does.ex (A':=λbs:List Nat=>[ak c (eE g.n (mc g) (jF a g.r) g.p) 104,ak g.n (dm bs) 156]++[ek 208 5 bs (cC a.W)]) (λhh q=>?_) λbs=>?_
  · obtain⟨bs,q⟩:=fi (dS (List.Perm.swap _ _ _) q)
    exact⟨bs,aA [2,0,0] rfl q⟩
  · rw[hat]at hv
    have:=zo c g.n i (mc g) (jF a g.r) g.p hi o.to' o.kind o hv bs;rw[eo]at this;refine Leg.Does.withinR this (λ_ _ _ _=>trivial) (λhh q=>q) λv H hp=>?_
    obtain⟨rfl,rfl⟩:=hp;refine⟨_,λhh q=>?_,a.W,⟨rfl,rfl⟩,rfl⟩;exact dS (List.Perm.swap _ _ _) (bm (p:=λbs:List Nat=>[ak g.n (dm bs) 156,ek 208 5 bs (cC a.W)]) bs (aA [1,1,0] rfl q))
 |true=>
  obtain⟨j,hto⟩: ∃j:Nat,o.to'=((j:Nat):Int):=⟨o.to'.toNat,((kQ (qP hv).2).2).symm⟩;have hj:j<5:=by have:=(kQ (qP hv).2).1;rw[hto]at this;simpa using this
  have hv2:dw ((i:Nat):Int) ((j:Nat):Int)=true:=by rw[←hat,←hto];exact hv
  have eK:bp o.at' o.to'=bp ((i:Nat):Int) ((j:Nat):Int):=by rw[hat,hto]
  have hij:((i:Nat):Int)≠((j:Nat):Int):=λe=>by
   unfold dw at hv2;rw[decide_eq_true e]at hv2;simp at hv2
  obtain⟨h8,hlen⟩:=h.way (bp ((i:Nat):Int) ((j:Nat):Int));have hkl:bp ((i:Nat):Int) ((j:Nat):Int)<a.W.length:=by rw[h.W];exact(gT hv2).1
  -- the net alone
  have net: ∀{R:Value→List (List MsgT)→Prop},(∀(g:CX) (bs:List Nat),Leg.Does Tryz.prog 59 #[.pointer (some ⟨c,0,none⟩), .agg (ints o.flat).toArray] (λ_=>True) [ak g.n (dm bs) 156,ek 208 5 bs (cC a.W),ak c (eE g.n (mc g) (jF a g.r) g.p) 104] (dG λv H=>∃W',R v W'∧H=[ak c (eE g.n (mc g) (jF a g.r) g.p) 104,eb 156 208 5 g.n (cC W')]))→
   Leg.Does Tryz.prog 59 #[.pointer (some ⟨c,0,none⟩), .agg (ints o.flat).toArray] (λ_=>True) [fN c a] (dG λv H=>∃W',R v W'∧H=[fN c ⟨a.ms,W'⟩]):=λcore=>Gz λg=>Leg.Does.ex (A':=λbs:List Nat=>[ak g.n (dm bs) 156,ek 208 5 bs (cC a.W),ak c (eE g.n (mc g) (jF a g.r) g.p) 104]) (λhh q=>fi (dS (List.Perm.swap _ _ _) q)) (core g)
  cases hl:a.W.getD (bp ((i:Nat):Int) ((j:Nat):Int)) []with
  |nil=>
   have e:nz a o=(a,10):=by unfold nz;rw[if_neg (by rw[hv];decide),eK,hl]
   rw[e];refine lh (net (R:=λv W'=>v= .int .i64 10∧W'=a.W) λg bs=>?_) λv H hp=>by obtain⟨_,⟨rfl,rfl⟩,rfl⟩:=hp;exact⟨rfl,rfl⟩
   have:=x8 c g.n i (mc g) (jF a g.r) g.p hi j hj hv2 a.W h.W _ rfl h8 hlen o o.kind hl bs;rw[rf rfl hat hto,uz hkl]at this;exact lh this λv H hp=>⟨a.W,⟨hp.1,rfl⟩,hp.2⟩
  |cons m0 l0=>
   by_cases h7:o.kind=7
   · have e:nz a o=(a.way (bp ((i:Nat):Int) ((j:Nat):Int)) (Bh (m0::l0)),if Fp (m0::l0)then 0 else 3):=by
      unfold nz;rw[if_neg (by rw[hv];decide),eK,hl];simp only[if_pos h7];split
      · rfl
      · rename_i q
        have q2:Bh (m0::l0)=m0::l0:=by unfold Bh;unfold Fp at q;rw[if_neg (by simpa using q)]
        rw[q2];show(a,(3:Int))=(CL.mk a.ms (a.W.set _ (m0::l0)),3);rw[←hl,uz hkl]
     rw[e];refine lh (net (R:=λv W'=>v= .int .i64 (if Fp (m0::l0)then 0 else 3)∧W'=a.W.set (bp ((i:Nat):Int) ((j:Nat):Int)) (Bh (m0::l0))) λg bs=>?_) λv H hp=>by obtain⟨_,⟨rfl,rfl⟩,rfl⟩:=hp;exact⟨rfl,rfl⟩
     have:=wk c g.n i (mc g) (jF a g.r) g.p hi j hj hv2 a.W h.W (m0::l0) hl (by rw[←hl];exact h8) (by rw[←hl];exact hlen) o (by simp) bs;rw[rf h7 hat hto]at this;exact lh this λv H hp=>⟨_,⟨hp.1,rfl⟩,hp.2⟩
   · cases ht:kj (max o.n 0% ((m0::l0).length:Int)).toNat (m0::l0)with
     |nil=>have:=jD (max o.n 0% ((m0::l0).length:Int)).toNat (m0::l0);rw[ht]at this;simp at this
     |cons m l2=>
      by_cases h6:o.kind=6
      · have e:nz a o=(a.way (bp ((i:Nat):Int) ((j:Nat):Int)) l2,0):=by
         unfold nz;rw[if_neg (by rw[hv];decide),eK,hl];simp only[if_neg h7];rw[ht];simp only[if_pos h6]
        rw[e];refine lh (net (R:=λv W'=>v= .int .i64 0∧W'=a.W.set (bp ((i:Nat):Int) ((j:Nat):Int)) l2) λg bs=>?_) λv H hp=>by obtain⟨_,⟨rfl,rfl⟩,rfl⟩:=hp;exact⟨rfl,rfl⟩
        have:=qJ c g.n i (mc g) (jF a g.r) g.p hi j hj hv2 a.W h.W (m0::l0) hl (by rw[←hl];exact h8) (by rw[←hl];exact hlen) o m l2 ht bs 6 (.inr rfl) (.inl rfl);rw[rf h6 hat hto]at this;exact lh this λv H hp=>⟨_,⟨hp.1,rfl⟩,hp.2⟩
      · have h5:o.kind=5:=by omega
        have e:nz a o=rE (a.way (bp ((i:Nat):Int) ((j:Nat):Int)) l2) i j m:=by
         unfold nz;rw[if_neg (by rw[hv];decide),eK,hl];simp only[if_neg h7];rw[ht];simp only[if_neg h6];rw[hat,hto];rfl
        rw[e];have ew:(a.way (bp ((i:Nat):Int) ((j:Nat):Int)) l2).at' j=a.at' j:=rfl;cases hr:(a.at' j).run with
        |none=>
         have e2:rE (a.way (bp ((i:Nat):Int) ((j:Nat):Int)) l2) i j m=(a.way (bp ((i:Nat):Int) ((j:Nat):Int)) l2,0):=by unfold rE;rw[ew,hr]
         rw[e2];refine lh (net (R:=λv W'=>v= .int .i64 0∧W'=a.W.set (bp ((i:Nat):Int) ((j:Nat):Int)) l2) λg bs=>?_) λv H hp=>by obtain⟨_,⟨rfl,rfl⟩,rfl⟩:=hp;exact⟨rfl,rfl⟩
         have:=qJ c g.n i (mc g) (jF a g.r) g.p hi j hj hv2 a.W h.W (m0::l0) hl (by rw[←hl];exact h8) (by rw[←hl];exact hlen) o m l2 ht bs 5 (.inl rfl) (.inr (l8 hr));rw[rf h5 hat hto]at this;exact lh this λv H hp=>⟨_,⟨hp.1,rfl⟩,hp.2⟩
        |some s=>
         obtain⟨hs,hid,hso⟩:=(h.at' j hj).run s hr;have hrep:=(h.at' j hj).reps;unfold Slot.reps at hrep;rw[hr,af]at hrep;simp only at hrep;have W2:(a.W.set (bp ((i:Nat):Int) ((j:Nat):Int)) l2).length=25:=by rw[ka];exact h.W
         refine lh (Cg h.ms hj hr (R:=λv s' W'=>(s.e.D.dn=true∧v= .int .i64 0∧s'=s∧W'=a.W.set (bp ((i:Nat):Int) ((j:Nat):Int)) l2)∨(s.e.D.dn=false∧(ik (dC m)).2≠0∧v= .int .i64 (ik (dC m)).2∧s'=s∧W'=a.W.set (bp ((i:Nat):Int) ((j:Nat):Int)) l2)∨(s.e.D.dn=false∧(ik (dC m)).2=0∧v= .int .i64 0∧s'=(fI KD s ((i:Nat):Int) (ik (dC m)).1).hush∧W'=gh (a.W.set (bp ((i:Nat):Int) ((j:Nat):Int)) l2) j (fI KD s ((i:Nat):Int) (ik (dC m)).1).o)) λg em=>?_) λv H hp=>?_
         · refine Leg.Does.ex (A':=λbs:List Nat=>[ak g.n (dm bs) 156,ek 208 5 bs (cC a.W),ak c (eE g.n (mc g) (jF a g.r) g.p) 104,dk (g.d j) s.e.D,gC s (g.d j) (g.r j)]) (λhh q=>fi (aA [2,0,0,0] rfl q)) λbs=>?_
           have:=x9 c g.n i (mc g) (jF a g.r) g.p hi j hj hv2 a.W h.W (m0::l0) hl (by rw[←hl];exact h8) (by rw[←hl];exact hlen) o m l2 ht bs (g.d j) (g.r j) s rfl em hso hs (by rw[hid];exact hij) (by omega);rw[rf h5 hat hto]at this;refine lh this λv H hp=>?_
           rcases hp with⟨hd,rfl,rfl⟩| ⟨hd,h1,rfl,rfl⟩| ⟨hd,h1,rfl,rfl⟩
           · exact⟨_,_, .inl ⟨hd,rfl,rfl,rfl⟩,rfl⟩
           · exact⟨_,_, .inr (.inl ⟨hd,h1,rfl,rfl,rfl⟩),rfl⟩
           · exact⟨_,_, .inr (.inr ⟨hd,h1,rfl,rfl,rfl⟩),rfl⟩
         · obtain⟨a',⟨s',W',hR,rfl⟩,rfl⟩:=hp
           have er: ∀W',CL.mk (a.ms.set j {a.at' j with run:=some s}) W'=CL.mk a.ms W':=λW'=>by
            have:=congrArg CL.ms (uN h hj hr);rw[show a.ms.set j {a.at' j with run:=some s}=a.ms from this]
           unfold rE;rw[ew,hr];rcases hR with⟨hd,rfl,rfl,rfl⟩| ⟨hd,h1,rfl,rfl,rfl⟩| ⟨hd,h1,rfl,rfl,rfl⟩
           · simp only[hd,if_true];exact⟨by first|rfl|trivial,by rw[er];rfl⟩
           · simp only[hd,if_neg h1];exact⟨by first|rfl|trivial,by rw[er];rfl⟩
           · simp only[hd,if_pos h1];exact⟨by first|rfl|trivial,rfl⟩
end
theorem Ce(c:Nat)(X:HP)(o:OpT)(hm:gp o.at'=false):
 DT 17 #[(.pointer (some ⟨c,0,none⟩)),(.agg (ints o.flat).toArray)] T0 [X] (RI (.int .i64 5) [X]):=by
 refine BD 114 Tryz.func17 rfl rfl rfl λw0 F hF=>sr λ_ J1=>XY (ints o.flat) λb3=>?_
 refine PS ?_;refine nx J1 (aa λ_ J2=>sr λ_ J3=>PS ?_);refine FA 1 eV aM ?_;refine LU 0 Y3 (bE o rfl) ?_;refine CE pG (uX c o.at') ID ?_;rw[hm];refine PS ?_;refine nx J3 (CY (sr λ_ J4=>PS ?_));exact nx J4 (ai (ad (WK [1] (ap rfl rfl ⟨rfl,rfl⟩))))
theorem B7(c i:Nat)(hi:i<5)(X:HP)(o:OpT)(k:Int)(hk:k=5∨k=6∨k=7)(p:Int→HP→Prop)(hw:DT 59 #[(.pointer (some ⟨c,0,none⟩)),(.agg (ints (OpT.mk k ((i:Nat):Int) o.to' o.key o.n o.change o.mask o.torn o.cut).flat).toArray)] T0 [X] (dG (λv H=>∃e X',v= .int .i64 e∧H=[X']∧p e X'))):
 DT 17 #[(.pointer (some ⟨c,0,none⟩)),(.agg (ints (OpT.mk k ((i:Nat):Int) o.to' o.key o.n o.change o.mask o.torn o.cut).flat).toArray)] T0 [X] (dG (λv H=>∃e X',v= .int .i64 e∧H=[X']∧p e X')):=by
 refine BD 114 Tryz.func17 rfl rfl rfl λw0 F hF=>sr λ_ J1=>XY (ints (OpT.mk k ((i:Nat):Int) o.to' o.key o.n o.change o.mask o.torn o.cut).flat) λb3=>?_
 refine PS ?_;refine nx J1 (aa λ_ J2=>sr λ_ J3=>PS ?_);refine FA 1 eV aM ?_;refine LT 0 Y3 (.int .i64 (((i:Nat):Int))) ?_ (hc:=by exact bE _ rfl);refine CE pG (dV c i hi) ID ?_;refine PS ?_;refine nx J3 (CN (qx J2 (aa λ_ J4=>sr λ_ J5=>FA 0 eV aM ?_)));refine LT 0 Y3 (.int .i64 (k)) ?_ (hc:=by exact cF _ rfl);refine nx J5 (aq (aa λ_ J6=>sr λ_ J7=>P2 ?_));refine ao ?_ ?_<;>intro h12
 · exact absurd h12 (by omega)
 refine nx J7 (CN (sr λ_ J8=>P2 ?_));refine ao ?_ ?_<;>intro h12
 · exact absurd h12 (by omega)
 refine nx J8 (CN (sr λ_ J9=>P2 ?_));refine ao ?_ ?_<;>intro h12
 · exact absurd h12 (by omega)
 refine nx J9 (CN (sr λ_ J10=>P2 ?_));refine ao ?_ ?_<;>intro h12
 · exact absurd h12 (by omega)
 refine nx J10 (CN (ae (PS ?_)));refine ao ?_ ?_<;>intro h17
 · exact absurd h17 (by omega)
 refine PS ?_;refine nx J6 (CN (aa λ_ J11=>eH (α:=Unit) (λ_u=>True) (λ_u=>[(0,(.pointer (some ⟨c,0,none⟩))),(3,(.pointer (some ⟨b3,0,none⟩))),(4,(.int .i64 0)),(11,(.int .i64 (k))),(37,(.bool true))]) (λ_u=>[ak b3 (ints (OpT.mk k ((i:Nat):Int) o.to' o.key o.n o.change o.mask o.torn o.cut).flat) 30,X]) (λ_u hinv=>?_) (λtl11=>?_)));have _:=hinv;refine ac J11 (CY (sr λ_ J12=>PS ?_));refine LW 0 eV oH fG ?_;refine CR LN (hw) (SM [1]) λvR HR hR=>?_
 obtain⟨e,X',rfl,rfl,hp⟩:=hR;refine PS ?_;exact nx J12 (ai (aH (ad (WK [0] (ap rfl rfl ⟨e,X',rfl,rfl,hp⟩)))));refine sr λ_ J13=>P2 ?_
 refine ao ?_ ?_<;>intro h37;refine nx J13 (CY (aS ?_))
 exact aD
  SB
  (λ_ s=>aj [0,0] rfl s)
  (tl11 (():Unit) trivial)
 refine nx J13 (CN (sr λ_ J14=>P2 ?_));refine ao ?_ ?_<;>intro h37;refine nx J14 (CY (aS ?_))
 exact aD
  SB
  (λ_ s=>aj [0,0] rfl s)
  (tl11 (():Unit) trivial)
 refine nx J14 (CN (ae (PS ?_)));refine ao ?_ ?_<;>intro h40;refine PS ?_;refine au ?_
 exact aD
  SB
  (λ_ s=>aj [0,0] rfl s)
  (tl11 (():Unit) trivial)
 · exact absurd h40 (by omega)
theorem AH(c i:Nat)(hi:i<5)(X:HP)(o:OpT)(k:Int)(hk:k<0∨11<k):
 DT 17 #[(.pointer (some ⟨c,0,none⟩)),(.agg (ints (OpT.mk k ((i:Nat):Int) o.to' o.key o.n o.change o.mask o.torn o.cut).flat).toArray)] T0 [X] (RI (.int .i64 5) [X]):=by
 refine BD 114 Tryz.func17 rfl rfl rfl λw0 F hF=>sr λ_ J1=>XY (ints (OpT.mk k ((i:Nat):Int) o.to' o.key o.n o.change o.mask o.torn o.cut).flat) λb3=>?_
 refine PS ?_;refine nx J1 (aa λ_ J2=>sr λ_ J3=>PS ?_);refine FA 1 eV aM ?_;refine LT 0 Y3 (.int .i64 (((i:Nat):Int))) ?_ (hc:=by exact bE _ rfl);refine CE pG (dV c i hi) ID ?_;refine PS ?_;refine nx J3 (CN (qx J2 (aa λ_ J4=>sr λ_ J5=>FA 0 eV aM ?_)));refine LT 0 Y3 (.int .i64 (k)) ?_ (hc:=by exact cF _ rfl);refine nx J5 (aq (aa λ_ J6=>sr λ_ J7=>P2 ?_));refine ao ?_ ?_<;>intro h12
 · exact absurd h12 (by omega)
 refine nx J7 (CN (sr λ_ J8=>P2 ?_));refine ao ?_ ?_<;>intro h12
 · exact absurd h12 (by omega)
 refine nx J8 (CN (sr λ_ J9=>P2 ?_));refine ao ?_ ?_<;>intro h12
 · exact absurd h12 (by omega)
 refine nx J9 (CN (sr λ_ J10=>P2 ?_));refine ao ?_ ?_<;>intro h12
 · exact absurd h12 (by omega)
 refine nx J10 (CN (ae (PS ?_)));refine ao ?_ ?_<;>intro h17
 · exact absurd h17 (by omega)
 refine PS ?_;refine nx J6 (CN (aa λ_ J11=>sr λ_ J12=>P2 ?_));refine ao ?_ ?_<;>intro h37
 · exact absurd h37 (by omega)
 refine nx J12 (CN (sr λ_ J13=>P2 ?_));refine ao ?_ ?_<;>intro h37
 · exact absurd h37 (by omega)
 refine nx J13 (CN (ae (PS ?_)));refine ao ?_ ?_<;>intro h40
 · exact absurd h40 (by omega)
 refine PS ?_;refine nx J11 (CN (sr λ_ J14=>PS ?_));refine ao ?_ ?_<;>intro h45
 · exact absurd h45 (by omega)
 refine PS ?_;refine nx J14 (CN (sr λ_ J15=>PS ?_));refine ao ?_ ?_<;>intro h65
 · exact absurd h65 (by omega)
 refine PS ?_;refine nx J15 (CN (sr λ_ J16=>PS ?_));refine ao ?_ ?_<;>intro h77
 · exact absurd h77 (by omega)
 refine PS ?_;refine nx J16 (CN (sr λ_ J17=>PS ?_));refine ao ?_ ?_<;>intro h109
 · exact absurd h109 (by omega)
 refine PS ?_;refine nx J17 (CN (sr λ_ J18=>PS ?_));exact nx J18 (ai (aH (ad (WK [1] (ap rfl rfl ⟨rfl,rfl⟩)))))
section
variable {n c:Nat} {a:CL} {o:OpT}
theorem AF(h:CLOk n a)(hn:n≤100000)(ho:OkOp o):DT 17 #[.pointer (some ⟨c,0,none⟩), .agg (ints o.flat).toArray] T0 [fN c a] (dG λv H=>v= .int .i64 (xK a o).2∧H=[fN c (xK a o).1]):=by
 unfold xK
 by_cases hm:gp o.at'=false
 · rw[if_pos hm]
   exact Ce c (fN c a) o hm
 · rw[if_neg hm]
   have hm:gp o.at'=true:=by simpa using hm
   obtain⟨hi,hat⟩:=kQ hm
   by_cases h1:0≤o.kind∧o.kind≤4
   · rw[if_pos h1];exact GA h hn hi hat.symm h1 ho
   rw[if_neg h1]
   by_cases h2:o.kind=5∨o.kind=6∨o.kind=7
   · rw[if_pos h2]
     have:=B7 c _ hi (fN c a) o o.kind h2 (λe X=>e=(nz a o).2∧X=fN c (nz a o).1) (by
      rw[nM rfl hat.symm]
      exact lh (DE h hn hi hat.symm h2) λv H hp=>⟨_,_,hp.1,hp.2,rfl,rfl⟩)
     rw[nM rfl hat.symm]at this
     exact lh this λv H hp=>by
      obtain⟨e,X,rfl,rfl,rfl,rfl⟩:=hp;exact⟨rfl,rfl⟩
   rw[if_neg h2]
   by_cases h3:o.kind=8
   · rw[if_pos h3];exact Fs h hi hat.symm h3
   rw[if_neg h3]
   by_cases h4:o.kind=9
   · rw[if_pos h4];exact GI h hi hat.symm h4
   rw[if_neg h4]
   by_cases h5:o.kind=10
   · rw[if_pos h5];exact Ci h hn hi hat.symm h5
   rw[if_neg h5]
   by_cases h6:o.kind=11
   · rw[if_pos h6];exact zF h hi hat.symm h6
   rw[if_neg h6];have:=AH c _ hi (fN c a) o o.kind (by omega);rw[nM rfl hat.symm]at this;exact this
end
theorem ux(i:Nat):(dM i .new).1≠none:=by
 obtain⟨D',e,_⟩:=LogD.new.open rfl rfl;unfold dM;rw[e];simp[kK]
theorem sZ{i:Nat}{s:MS LD}(h:(dM i .new).1=some s):lH i=⟨some s,(bJ .new).D,[]⟩:=by
 show(gA i .nil).1=_;unfold gA;show Slot.mk (dM i DS.new).1 _ _=_;rw[h];rfl
def dJ(i:Nat)(d:Nat→Nat):Nat→Value:=λj=>if j<i then .pointer (some ⟨d j,0,none⟩)else .pointer none
def FV:Nat→Value:=λ_=> .slice none 0 0
theorem Gx(i:Nat)(d:Nat→Nat)(x:Nat):my (dJ i d) i (.pointer (some ⟨x,0,none⟩))=dJ (i+1) (my d i x):=funext λj=>by
 unfold dJ my
 by_cases hj:j=i
 · subst hj;simp
 · rw[if_neg hj,if_neg hj]
   show(if j<i then _ else _)=_
   by_cases h:j<i
   · rw[if_pos h,if_pos (by omega)]
   · rw[if_neg h,if_neg (by omega)]
theorem EZ{n:Nat}{D M P D' M' P':Nat→Value}(h1: ∀i,i<5→D i=D' i)(h2: ∀i,i<5→M i=M' i)(h3: ∀i,i<5→P i=P' i):eE n D M P=eE n D' M' P':=by
 unfold eE;rw[dH (λi hi=>h1 i (eI.1 hi)),dH (λi hi=>h2 i (eI.1 hi)),dH (λi hi=>h3 i (eI.1 hi))]
theorem FN{f g:Nat→HP}{i:Nat}(hg: ∀j,j<i→g j=f j){H:List HP}{h:Hl}(s:bI (g i::bI ((List.range i).map f)::H) h):bI (bI ((List.range (i+1)).map g)::H) h:=by
 have e:(List.range (i+1)).map g=(List.range i).map f++[g i]:=by
  rw[cO,cr,dH (λj hj=>hg j (eI.1 hj))];rfl
 rw[e];obtain⟨h1,h2,d,rfl,a,b⟩:=s;have s2:bI ((g i::(List.range i).map f)++H) (jn h1 h2):=⟨h1,h2,d,rfl,a,(bX _ _).2 b⟩;exact(bX _ _).1 (dS ((List.perm_append_comm (l₁:=[g i])).append_right H) s2)
abbrev vd(d r:Nat→Nat)(j:Nat):HP:=kI (lH j) (d j) (r j) (.slice none 0 0)
theorem Gg{d r:Nat→Nat}{i x y:Nat}{s:MS LD}(hs:(dM i .new).1=some s){X Y:HP}{h:Hl}(q:bI [gC s x y,dk x s.e.D,X,Y,bI ((List.range i).map (vd d r))] h):bI [X,Y,bI ((List.range (i+1)).map (vd (my d i x) (my r i y)))] h:=by
 have q2:=fJ 37 3 q
 have e:vd (my d i x) (my r i y) i=bI [dk x s.e.D,kO (.slice none 0 0) [],gC s x y]:=by
  unfold vd kI jL Slot.dk pF;rw[kF,kF,sZ hs]
 have q4:=(bX [dk x s.e.D,kO (.slice none 0 0) [],gC s x y] [bI ((List.range i).map (vd d r)),X,Y]).1 (aA [2,0,0,2,0,0] rfl q2);have q5:=FN (i:=i) (f:=vd d r) (g:=vd (my d i x) (my r i y)) (H:=[X,Y]) (λj hj=>by unfold vd;rw[oC d x (show j≠i by omega),oC r y (show j≠i by omega)]) (by rw[e];exact q4);exact aA [1,1,0] rfl q5
theorem Ge(i:Nat)(hi:i<5):CL.new.at' i=lH i:=by simp[CL.new,CL.at',List.getD_eq_getElem?_getD,hi]
theorem Gf{c n:Nat}{d r:Nat→Nat}{h:Hl}(s:bI [ak c (eE n (dJ 5 d) (dJ 5 r) FV) 104,eb 156 208 5 n (List.replicate 25 []),bI ((List.range 5).map (vd d r))] h):bI [fN c .new] h:=by
 have e1:eE n (mc ⟨n,d,r,FV⟩) (jF .new r) FV=eE n (dJ 5 d) (dJ 5 r) FV:=EZ (λi hi=>by unfold dJ;rw[if_pos hi]) (λi hi=>by
  unfold dJ;rw[if_pos hi];show wC (CL.new.at' i) (r i)=_;rw[Ge i hi];cases hs:(dM i .new).1 with
  |none=>exact absurd hs (ux i)
  |some s=>rw[sZ hs];rfl) (λ_ _=>rfl)
 have e2:(List.range 5).map (λi=>kI (CL.new.at' i) (d i) (r i) (FV i))=(List.range 5).map (vd d r):=dH λi hi=>by
  rw[Ge i (eI.1 hi)];rfl
 have e3:cC CL.new.W=List.replicate 25 []:=rfl;refine bm (p:=rF c .new) (H:=[]) ⟨n,d,r,FV⟩ ?_;unfold rF;rw[e1,e2,e3];exact s
theorem sx:
 DT 14 #[] T0 [] (dG (λv H=>∃c,v= .pointer (some ⟨c,0,none⟩)∧H=[fN c .new])):=by
 refine BD 33 Tryz.func14 rfl rfl rfl λw0 F hF=>sr λ_ J1=>PS ?_
 refine nx J1 (sr λ_ J2=>CR LQ (Ag) ID λvR HR hR=>?_);obtain⟨n,rfl,rfl⟩:=hR;refine BV #[(.pointer (some ⟨n,0,none⟩)),(.pointer none),(.pointer none),(.pointer none),(.pointer none),(.pointer none),(.pointer none),(.pointer none),(.pointer none),(.pointer none),(.pointer none),(.slice none 0 0),(.slice none 0 0),(.slice none 0 0),(.slice none 0 0),(.slice none 0 0)] ?_;refine XB λb5=>?_
 refine PS ?_;refine nx J2 (aa λ_ J3=>sr λ_ J4=>PS ?_);refine nx J4 (aq ?_)
 refine bF (α:=(Nat)×(Nat→Nat)×(Nat→Nat)) (λ⟨i,d,r⟩=>i≤5) (λ⟨i,d,r⟩=>[(0,(.pointer none)),(1,(.pointer (some ⟨b5,0,none⟩))),(6,(.int .i64 (((i:Nat):Int))))]) (λ⟨i,d,r⟩=>[ak b5 (eE n (dJ i d) (dJ i r) FV) 104,eb 156 208 5 n (List.replicate 25 []),bI ((List.range i).map (vd d r))]) (λ⟨i,d,r⟩=>5-i) (0,λ_=>0,λ_=>0)
  (aR _) SB
  (λ_ s=>aA [1,1,0] rfl (uC s)) (λ⟨i,d,r⟩ hinv=>?_)
 obtain hi:=hinv;refine sr λ_ J5=>PS ?_
 refine ao ?_ ?_<;>intro h7;have hlt:i<5:=by omega
 refine nx J5 (aa λ_ J6=>CY (qx J6 (aa λ_ J7=>aq (sr λ_ J8=>P2 ?_))));refine nx J8 (aa λ_ J9=>D0 dF ?_);refine PD 0 ?_;refine PD 1 ?_;refine PD 3 ?_;refine FD 4 1 iK sM ?_;refine AL 2 ?_;refine CR LP (I8) ID λvR HR hR=>?_
 obtain⟨dn,rfl,rfl⟩:=hR;refine EN (IY 5 (1+i) AZ oJ ?_);refine AL 6 ?_;refine bS (i:=1) (ab rfl) rfl rfl rfl rfl rfl oJ rfl rfl (by rw[qm];omega) (HI n (dJ i d) (dJ i r) FV (.pointer (some ⟨dn,0,none⟩)) hlt) rfl (EN (DN (ac J9 (D0 dF ?_))));refine PD 0 ?_;refine PD 1 ?_;refine PD 2 ?_;refine PD 3 ?_;refine PD 4 ?_;refine PD 5 ?_;refine FD 6 1 iK sM ?_;refine IY 7 (1+i) AZ oJ ?_;refine PD 13 ?_;refine FD 14 6 iK qV ?_;refine AL 8 ?_;refine LT 1 vY (.pointer (some ⟨dn,0,none⟩)) ?_ (hc:=by exact(Cj n (my (dJ i d) i (.pointer (some ⟨dn,0,none⟩))) (dJ i r) FV hlt).trans (congrArg some (kF (dJ i d) i _)));refine EN (AL 9 ?_);refine CR JX (sO i dn .new DkOk.new) ID λvR HR hR=>?_
 rcases hR with⟨hn,_⟩| ⟨s,rn,hs,rfl,rfl⟩
 · exact absurd hn (ux i)
 refine EN (PD 10 ?_);refine PD 11 ?_;refine PD 12 ?_;refine IY 15 (6+i) Dr og ?_;refine AL 16 ?_;refine bS (i:=2) (ab rfl) rfl rfl rfl rfl rfl og rfl rfl (by rw[qm];omega) (tN n (my (dJ i d) i (.pointer (some ⟨dn,0,none⟩))) (dJ i r) FV (.pointer (some ⟨rn,0,none⟩)) hlt) rfl (EN (DN (ag (ac J7 (ae (AD ?_))))));refine PS ?_;refine au ?_
 exact aL ((i+1,my d i dn,my r i rn):(Nat)×(Nat→Nat)×(Nat→Nat)) (by omega) (by show 5- (i+1)<5-i;omega)
  SB
  (λ_ q=>by
   show bI [ak b5 (eE n (dJ (i+1) (my d i dn)) (dJ (i+1) (my r i rn)) FV) 104,_,_] _;rw[←Gx,←Gx]
   exact Gg hs (aA [0,0,0,0,0] rfl q))
 refine nx J5 (aa λ_ J10=>CN (bg (aF (aF (bD (ac J3 (sr λ_ J11=>P2 ?_)))))));exact nx J11 (ai (aD (H':=[fN b5 .new]) (dK _) (λ_ s=>by have h5:i=5:=(by omega);subst h5;exact Gf s) (ap rfl rfl ⟨b5,rfl,rfl⟩)))
end Go.Proofs.YtjblgopghhgflaaGreat
end

section
namespace Api
open Go Leg Codec Dsk Wal
def BQ(W:List (List MsgT))(k:Nat):Nat:=((List.range k).map λq=>if q%6=0 then 0 else(W.getD q []).length).sum
theorem xA(W:List (List MsgT))(k:Nat):BQ W (k+1)=BQ W k+(if k%6=0 then 0 else(W.getD k []).length):=by simp[BQ,cO]
def Fm(a:CL):Nat:=BQ a.W 25
section
variable {n:Nat} {a:CL}
theorem CLOk.len(h:CLOk n a): ∀k,BQ a.W k≤8*k
 |0=>aN _
 |k+1=>by
  rw[xA];have:=CLOk.len h k;have:=(h.way k).1;split<;>omega
end
end Api
namespace Go.Proofs.YtjblgopghhgflaaGreat
open Go Leg Codec Api Dsk Wal
theorem qd(W:List (List MsgT)): ∀k,k≤25→kh (cC W) k=BQ W k
 |0,_=>rfl
 |k+1,h=>by
  rw[qe,xA,qd W k (by omega),mx W (by omega),bH]
theorem Bd{n:Nat}{a:CL}(h:CLOk n a): ∀k,k<25→kh (cC a.W) k+((cC a.W).getD k []).length≤1000000000:=λk hk=>by
 rw[qd a.W k (by omega),mx a.W hk,bH];have:=h.len k;have:=(h.way k).1;omega
theorem zq(c n:Nat)(D M P:Nat→Value)(W:List (List MsgT))(hsm: ∀k,k<25→kh (cC W) k+((cC W).getD k []).length≤1000000000):
 DT 26 #[(.pointer (some ⟨c,0,none⟩))] T0 [ak c (eE n D M P) 104,eb 156 208 5 n (cC W)] (RI (.int .i64 ((BQ W 25:Nat):Int)) [ak c (eE n D M P) 104,eb 156 208 5 n (cC W)]):=by
 refine BD 10 Tryz.func26 rfl rfl rfl λw0 F hF=>sr λ_ J1=>PS ?_
 refine nx J1 (aa λ_ J2=>sr λ_ J3=>PS ?_);refine tp (lq rfl KU rfl rfl) ?_;refine nx J3 (CN (qx J2 (sr λ_ J4=>P2 ?_)));refine FA 0 iK yh ?_;refine LT 0 GK (.pointer (some ⟨n,0,none⟩)) ?_ (hc:=by exact yX n D M P);refine CE LJ (Ah n (cC W) hsm) (SM [1]) ?_;rw[qd W 25 (aN _)];refine PS ?_;exact nx J4 (ai (WK [1,0] (ap rfl rfl ⟨rfl,rfl⟩)))
abbrev yj(c:Nat)(a:CL)(i:Nat)(g:CX):List HP:=ak c (eE g.n (mc g) (jF a g.r) g.p) 104::eb 156 208 5 g.n (cC a.W)::jL (a.at' i) (g.d i) (g.r i) (g.p i)
def ie(c:Nat)(a:CL)(g:CX):HP:=bI (rF c a g)
theorem En{α:Type}(A B C:List α):((A++B)++C).Perm ((A++C)++B):=by
 rw[bb,bb];exact List.Perm.append_left _ List.perm_append_comm
section
variable {f:FuncId} {args:Array Value} {c i:Nat} {a:CL} {g:CX}
theorem xL{H:List HP}{h:Hl}(s:bI (fN c a::H) h): ∃g,bI (ie c a g::H) h:=by
 obtain⟨h1,h2,d,e,⟨g,t⟩,s2⟩:=s;exact⟨g,h1,h2,d,e,t,s2⟩
theorem DY(hi:i<5){h:Hl}(s:bI [ie c a g] h):bI (yj c a i g++[bI (((List.range 5).map λi=>kI (a.at' i) (g.d i) (g.r i) (g.p i)).eraseIdx i)]) h:=by
 have s0:bI (rF c a g++[]) h:=(bX _ _).2 s;have s2:=xp (f:=λi=>kI (a.at' i) (g.d i) (g.r i) (g.p i)) hi (aA [2,0,0] rfl s0);have s3:=(bX (jL (a.at' i) (g.d i) (g.r i) (g.p i)) _).2 s2;exact aA [4,4,0,0,0,0] rfl s3
theorem DX(hi:i<5){h:Hl}(s:bI (yj c a i g++[bI (((List.range 5).map λi=>kI (a.at' i) (g.d i) (g.r i) (g.p i)).eraseIdx i)]) h):bI [ie c a g] h:=by
 have s1:=aA [2,2,2,2,0,0] rfl s;have s2:=(bX (jL (a.at' i) (g.d i) (g.r i) (g.p i)) _).1 s1;have s3:=xo (f:=λi=>kI (a.at' i) (g.d i) (g.r i) (g.p i)) (g:=λi=>kI (a.at' i) (g.d i) (g.r i) (g.p i)) hi (λ_ _=>rfl) s2;exact(bX (rF c a g) []).1 (aA [1,1,0] rfl s3)
theorem Dm{Q:Value→List HP→Prop}(hi:i<5)(core:DT f args T0 (yj c a i g) (dG λv H=>∃X,Q v X∧H=yj c a i g++X)):
 DT f args T0 [ie c a g] (dG λv H=>∃X,Q v X∧H=ie c a g::X):=by
 refine Leg.Does.withinR (B:=[bI (((List.range 5).map λi=>kI (a.at' i) (g.d i) (g.r i) (g.p i)).eraseIdx i)]) core (λ_ _ _ _=>trivial) (λh s=>DY hi s) λv H hp=>?_
 obtain⟨X,hQ,rfl⟩:=hp;refine⟨_,λh s=>?_,X,hQ,rfl⟩;have s1:=(bX _ X).1 (dS (En (yj c a i g) X [bI (((List.range 5).map λi=>kI (a.at' i) (g.d i) (g.r i) (g.p i)).eraseIdx i)]) s);exact(bX [ie c a g] X).2 (cy s1 (λh t=>DX hi t) λ_ t=>t)
theorem Gy{Q:Value→Prop}(hi:i<5)(core:DT f args T0 (yj c a i g) (dG λv H=>Q v∧H=yj c a i g)):
 DT f args T0 [ie c a g] (dG λv H=>Q v∧H=[ie c a g]):=
 lh (Dm (Q:=λv X=>Q v∧X=[]) hi (lh core λv H hp=>by
  obtain⟨h1,rfl⟩:=hp
  exact⟨[],⟨h1,rfl⟩,(aT _).symm⟩)) λv H hp=>by
  obtain⟨X,⟨h1,rfl⟩,rfl⟩:=hp;exact⟨h1,rfl⟩
theorem G5{x:Slot}{s:MS LD}(h:x.run=some s):x.up= !s.e.D.dn:=by unfold Slot.up;rw[h]
theorem G6{x:Slot}(h:x.run=none):x.up=false:=by unfold Slot.up;rw[h]
theorem xf{s:MS LD}(hs:(a.at' i).run=some s):yj c a i g=[ak c (eE g.n (mc g) (jF a g.r) g.p) 104,eb 156 208 5 g.n (cC a.W),dk (g.d i) s.e.D,kO (g.p i) (a.at' i).past,gC s (g.d i) (g.r i)]:=by
 unfold yj jL Slot.dk pF;rw[hs]
theorem zr(hi:i<5):DT 16 #[.pointer (some ⟨c,0,none⟩), .int .i64 ((i:Nat):Int)] T0 [ie c a g] (dG λv H=>v= .bool (a.at' i).up∧H=[ie c a g]):=by
 refine Gy (Q:=λv=>v= .bool (a.at' i).up) hi ?_;cases hr:(a.at' i).run with
 |none=>
  rw[G6 hr];refine Leg.Does.withinR (A:=[ak c (eE g.n (mc g) (jF a g.r) g.p) 104]) (B:=eb 156 208 5 g.n (cC a.W)::jL (a.at' i) (g.d i) (g.r i) (g.p i)) (qR c g.n i (mc g) (jF a g.r) g.p hi (l8 hr)) (λ_ _ _ _=>trivial) (λh s=>s) λv H hp=>?_
  obtain⟨rfl,rfl⟩:=hp;exact⟨_,λh s=>s,rfl,rfl⟩
 |some s=>
  rw[G5 hr,xf hr];refine Leg.Does.withinR (B:=[eb 156 208 5 g.n (cC a.W),kO (g.p i) (a.at' i).past,gC s (g.d i) (g.r i)]) (qQ c g.n i (mc g) (jF a g.r) g.p hi (g.d i) (g.r i) s.e.D rfl (rm hr)) (λ_ _ _ _=>trivial) (λh s=>aA [0,1,0,0,0] rfl s) λv H hp=>?_
  obtain⟨rfl,rfl⟩:=hp;exact⟨_,λh s=>aA [0,1,0,0,0] rfl s,rfl,rfl⟩
theorem ub{n:Nat}(h:CLOk n a):DT 26 #[.pointer (some ⟨c,0,none⟩)] T0 [ie c a g] (dG λv H=>v= .int .i64 ((Fm a:Nat):Int)∧H=[ie c a g]):=by
 refine Gy (i:=0) (Q:=λv=>v= .int .i64 ((Fm a:Nat):Int)) (by omega) ?_;refine Leg.Does.withinR (A:=[ak c (eE g.n (mc g) (jF a g.r) g.p) 104,eb 156 208 5 g.n (cC a.W)]) (B:=jL (a.at' 0) (g.d 0) (g.r 0) (g.p 0)) (zq c g.n (mc g) (jF a g.r) g.p a.W (Bd h)) (λ_ _ _ _=>trivial) (λh s=>s) λv H hp=>?_
 obtain⟨rfl,rfl⟩:=hp;exact⟨_,λh s=>s,rfl,rfl⟩
theorem uQ{n:Nat}(h:CLOk n a)(hn:n≤100000)(hi:i<5):DT 15 #[.pointer (some ⟨c,0,none⟩), .int .i64 ((i:Nat):Int)] T0 [ie c a g] (dG λv H=>∃u,u.oneCell'=true∧v=u∧H=[ie c a g,kO u (a.at' i).reps]):=by
 refine lh (Dm (Q:=λv X=>v.oneCell'=true∧X=[kO v (a.at' i).reps]) hi ?_) λv H hp=>by
  obtain⟨X,⟨h1,rfl⟩,rfl⟩:=hp;exact⟨v,h1,rfl,rfl⟩
 have hl:=(h.at' i hi).reps;unfold Slot.reps at hl ⊢;cases hr:(a.at' i).run with
 |none=>
  rw[hr]at hl;simp only[aT]at hl ⊢;refine Leg.Does.withinR (A:=[ak c (eE g.n (mc g) (jF a g.r) g.p) 104,kO (g.p i) (a.at' i).past]) (B:=[eb 156 208 5 g.n (cC a.W),dk (g.d i) (a.at' i).dk,pF (a.at' i) (g.d i) (g.r i)]) (uS c g.n i (mc g) (jF a g.r) g.p hi (l8 hr) (a.at' i).past (by omega)) (λ_ _ _ _=>trivial) (λh s=>aA [0,2,0,0,0] rfl s) λv H hp=>?_
  obtain⟨u,hu,rfl,rfl⟩:=hp;exact⟨_,λh s=>aA [0,2,2,0,1,0] rfl s,[kO v (a.at' i).past],⟨hu,rfl⟩,rfl⟩
 |some s=>
  rw[hr]at hl;simp only[af]at hl;rw[xf hr];refine Leg.Does.withinR (B:=[eb 156 208 5 g.n (cC a.W),dk (g.d i) s.e.D]) (uR c g.n i (mc g) (jF a g.r) g.p hi (g.d i) (g.r i) s (rm hr) (a.at' i).past (by omega) (by omega)) (λ_ _ _ _=>trivial) (λh s=>aA [0,2,2,0,0] rfl s) λv H hp=>?_
  obtain⟨u,hu,rfl,rfl⟩:=hp;exact⟨_,λh s=>aA [0,3,3,0,0,0] rfl s,[kO v ((a.at' i).past++s.replies)],⟨hu,rfl⟩,rfl⟩
end
end Go.Proofs.YtjblgopghhgflaaGreat
end

section
namespace Api
open Go Leg Codec Dsk Wal
structure RepOk(m:Nat)(s:MS LD):Prop where
 ops:0≤s.ops∧s.ops≤((m:Nat):Int)
 r: ∀x∈s.replies,1≤x.op∧x.op≤s.ops
 one:(s.replies.map (·.op)).Nodup
 w:0<s.waits→s.waits≤s.ops∧∀x∈s.replies,x.op≠s.waits
theorem RepOk.more{m k:Nat}{s:MS LD}(h:RepOk m s)(hk:m≤k):RepOk k s:=⟨⟨h.ops.1,by have:=h.ops.2;omega⟩,h.r,h.one,h.w⟩
theorem RepOk.qt{m:Nat}{s t:MS LD}(h:RepOk m s)(q:Qt s t):RepOk m t:=by
 refine⟨by rw[q.ops];exact h.ops,by rw[q.ops,q.replies];exact h.r,by rw[q.replies];exact h.one,λhw=>?_⟩;rw[q.replies,q.ops];rcases q.waits with e|e
 · rw[e]at hw ⊢;exact h.w hw
 · rw[e]at hw;exact absurd hw (by decide)
theorem u9{l:List Int}{x:Int}(h:l.Nodup)(hx: ∀y∈l,y≠x):(l++[x]).Nodup:=by
 rw[List.nodup_append];exact⟨h,by simp,λa ha b hb=>by rw[c8]at hb;subst hb;exact hx a ha⟩
theorem RepOk.rp{m:Nat}{s t:MS LD}{e v:Int}(h:RepOk m s)(hw:0<s.waits)(q:Rp s t [⟨s.waits,e,v⟩])(w0:t.waits=0)(ho:t.ops=s.ops):RepOk m t:=by
 obtain⟨h1,h2⟩:=h.w hw;refine⟨by rw[ho];exact h.ops,λx hx=>?_,?_,λz=>by rw[w0]at z;exact absurd z (by decide)⟩
 · rw[q.replies]at hx
   rw[ho];rcases cq.1 hx with hx|hx
   · exact h.r x hx
   · rw[c8]at hx;subst hx
     exact⟨by show 1≤s.waits;omega,h1⟩
 · rw[q.replies,cr]
   exact u9 h.one λy hy=>by
    obtain⟨x,hx,rfl⟩:=eC.1 hy;exact h2 x hx
theorem RepOk.cli{m:Nat}{s:MS LD}(h:RepOk m s)(hm:m≤1000000)(o:OpT):RepOk (m+1) (bO KD s o).1:=by
 have ew:fT (s.ops+1)=s.ops+1:=by
  have:=h.ops;exact bC (by omega) (by omega)
 have r1: ∀x∈s.replies,x.op≠s.ops+1:=λx hx=>by have:=(h.r x hx).2;omega
 rcases xN (K:=KD) s o with⟨e,v,q,_,ho,hw⟩| ⟨q,_,ho,hw⟩
 · rw[ew]at q ho
   refine⟨by rw[ho];have:=h.ops;omega,λx hx=>?_,?_,λz=>?_⟩
   · rw[q.replies]at hx
     rw[ho];rcases cq.1 hx with hx|hx
     · have:=h.r x hx;omega
     · rw[c8]at hx;subst hx
       have:=h.ops;show 1≤s.ops+1∧s.ops+1≤s.ops+1;omega
   · rw[q.replies,cr]
     exact u9 h.one λy hy=>by
      obtain⟨x,hx,rfl⟩:=eC.1 hy;exact r1 x hx
   · rcases hw with hw|hw
     · rw[hw]at z ⊢
       obtain⟨h1,h2⟩:=h.w z;rw[ho,q.replies];refine⟨by omega,λx hx=>?_⟩;rcases cq.1 hx with hx|hx
       · exact h2 x hx
       · rw[c8]at hx;subst hx
         show s.ops+1≠s.waits;omega
     · rw[hw]at z;exact absurd z (by decide)
 · rw[ew]at ho hw
   have er:(bO KD s o).1.replies=s.replies:=by rw[q.replies,aT]
   refine⟨by rw[ho];have:=h.ops;omega,λx hx=>?_,by rw[er];exact h.one,λz=>?_⟩
   · rw[er]at hx
     rw[ho];have:=h.r x hx;omega
   · rw[hw,ho,er]
     exact⟨by omega,r1⟩
theorem RepOk.hush{m:Nat}{s:MS LD}(h:RepOk m s):RepOk m s.hush:=⟨h.ops,h.r,h.one,h.w⟩
theorem RepOk.fresh{m:Nat}{i:Int}{e:LD}{s:MS LD}(f:Fresh i e s):RepOk m s:=by
 refine⟨by rw[f.ops];omega,λx hx=>?_,by rw[f.replies];exact List.nodup_nil,λz=>?_⟩
 · rw[f.replies]at hx;cases hx
 · rw[f.waits]at z;exact absurd z (by decide)
theorem CL.set_at{a:CL}{i j:Nat}{x:Slot}{W:List (List MsgT)}(hi:i<a.ms.length):(CL.mk (a.ms.set i x) W).at' j=if j=i then x else a.at' j:=by
 split
 · rename_i h;subst h;exact sI hi
 · rename_i h;exact tl h
structure RepsOk(m:Nat)(a:CL):Prop where
 ok: ∀i s,(a.at' i).run=some s→RepOk m s
theorem RepsOk.more{m k:Nat}{a:CL}(h:RepsOk m a)(hk:m≤k):RepsOk k a:=⟨λi s q=>(h.ok i s q).more hk⟩
theorem RepsOk.put{m:Nat}{a:CL}(h:RepsOk m a){i:Nat}(hi:i<a.ms.length){x:Slot}{W:List (List MsgT)}(hx: ∀s,x.run=some s→RepOk m s):RepsOk m ⟨a.ms.set i x,W⟩:=⟨λj s q=>by
 rw[CL.set_at hi]at q;split at q
 · exact hx s q
 · exact h.ok j s q⟩
theorem oQ{x:Slot}{s:MS LD}(h:x.run=some s):x.reps=x.past++s.replies:=by unfold Slot.reps;rw[h]
theorem m5{x:Slot}(h:x.run=none):x.reps=x.past:=by unfold Slot.reps;rw[h];exact aT _
theorem EV{n m:Nat}{a:CL}(h:CLOk n a)(g:RepsOk m a)(hm:m≤1000000)(o:OpT):RepsOk (m+1) (xK a o).1:=by
 have none':RepsOk (m+1) a:=g.more (by omega)
 have did: ∀{i:Nat} {s t:MS LD},i<5→(a.at' i).run=some s→RepOk (m+1) t→RepsOk (m+1) (a.did i t):=λhi _ ht=>RepsOk.put none' (by rw[h.ms];exact hi) λs q=>by
  obtain rfl:=cN q;exact ht.hush
 unfold xK
 by_cases hm':gp o.at'=false
 · rw[if_pos hm'];exact none'
 rw[if_neg hm'];obtain⟨hi,_⟩:=kQ (show gp o.at'=true by simpa using hm');have hi2:o.at'.toNat<a.ms.length:=by rw[h.ms];exact hi
 split
 · unfold AQ
   split
   · exact none'
   · rename_i s hs
     split
     · exact none'
     · exact did hi hs ((g.ok _ s hs).cli hm o)
 split
 · unfold nz
   split
   · exact none'
   split
   · exact none'
   split
   · split
     · exact⟨none'.ok⟩
     · exact none'
   split
   · exact none'
   split
   · exact⟨none'.ok⟩
   · rename_i m' l _ _
     unfold rE;split
     · exact⟨none'.ok⟩
     · rename_i s hs
       split
       · exact⟨none'.ok⟩
       · split
         · have hs':(a.at' o.to'.toNat).run=some s:=hs
           have ok:RepOk (m+1) (fI KD s ((o.at'.toNat:Nat):Int) (ik (dC m')).1):=by
            have h0:=(g.ok _ s hs').more (Nat.le_succ m);rcases yf (K:=KD) s ((o.at'.toNat:Nat):Int) (ik (dC m')).1 with q| ⟨hw,q,q2,q3⟩
            · exact h0.qt q
            · exact h0.rp hw q q2 q3
           unfold CL.did
           by_cases ht:o.to'.toNat<5
           · exact RepsOk.put (a:=a) none' (by rw[h.ms];exact ht) λs q=>by
              obtain rfl:=cN q;exact ok.hush
           · rw[show((a.way (bp o.at' o.to') l).ms.set o.to'.toNat _)=a.ms from mn (by show a.ms.length≤_;rw[h.ms];omega)]
             exact⟨none'.ok⟩
         · exact⟨none'.ok⟩
 split
 · unfold zu
   split
   · exact none'
   · rename_i s hs
     split
     · exact none'
     · exact did hi hs (((g.ok _ s hs).more (Nat.le_succ m)).qt inferInstance)
 split
 · refine none'.put hi2 λs q=>?_
   unfold tB at q;split at q
   · rename_i t ht
     obtain rfl:=cN q;have:=none'.ok _ t ht;exact⟨this.ops,this.r,this.one,this.w⟩
   · rename_i ht
     have q:(a.at' o.at'.toNat).run=some s:=q;rw[ht]at q;cases q
 split
 · exact none'.put hi2 λs q=>by cases q
 split
 · refine none'.put hi2 λs q=>?_
   unfold gA at q;split at q
   · exact none'.ok _ s q
   · obtain⟨_,hr⟩:=jK q
     exact RepOk.fresh (rR _ (A9 _ _) hr)
 · exact none'
theorem Bq{i:Nat}{x:Slot}{s:MS LD}(h:(gA i x).1.run=some s):x.run=some s∨(dM i x.D).1=some s:=by
 unfold gA at h;split at h
 · exact .inl h
 · exact .inr h
theorem BK:RepsOk 0 CL.new:=⟨λi s q=>by
 by_cases hi:i<5
 · have e:CL.new.at' i=lH i:=by simp[CL.new,CL.at',List.getD_eq_getElem?_getD,hi]
   rw[e]at q;unfold lH at q;rcases Bq q with q|q
   · cases q
   obtain⟨_,hr⟩:=jK q;exact RepOk.fresh (rR _ (A9 _ _) hr)
 · have e:CL.new.at' i= .nil:=by
    unfold CL.at' CL.new;rw[List.getD_eq_getElem?_getD,List.getElem?_eq_none (by rw[bH,nu];omega),Option.getD_none]
   rw[e]at q;cases q⟩
theorem D7(a:CL)(l:List OpT)(o:OpT):eh a (l++[o])=(xK (eh a l) o).1:=by simp[eh]
theorem py(a:CL)(l:List OpT){k:Nat}(hk:k<l.length):eh a (l.take (k+1))=(xK (eh a (l.take k)) (l[k])).1:=by
 rw[bV hk,D7]
def oa:CL→List OpT→Nat
 |_,[]=>0
 |a,o::l=>(if(xK a o).2=0 then 1 else 0)+oa (xK a o).1 l
theorem vH: ∀(l:List OpT) (a:CL) (o:OpT),oa a (l++[o])=oa a l+(if(xK (eh a l) o).2=0 then 1 else 0)
 | [],a,o=>by
  show(if(xK a o).2=0 then 1 else 0)+0=0+_;rw[qA,ba];rfl
 |x::l,a,o=>by
  rw[oq,oa,oa,vH l];show _=_+_+_;rw[mm];rfl
theorem nU(a:CL)(l:List OpT){k:Nat}(hk:k<l.length):oa a (l.take (k+1))=oa a (l.take k)+(if(xK (eh a (l.take k)) (l[k])).2=0 then 1 else 0):=by
 rw[bV hk,vH]
theorem vI: ∀(l:List OpT) (a:CL),oa a l≤l.length
 | [],_=>aN _
 |o::l,a=>by
  rw[oa,aw];have:=vI l (xK a o).1;split<;>omega
end Api
end
