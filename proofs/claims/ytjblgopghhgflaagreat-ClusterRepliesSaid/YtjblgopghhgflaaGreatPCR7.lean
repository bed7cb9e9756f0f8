/-
  Joined texts:what a statement's proof reaches.
-/
import Derived.Test.YtjblgopghhgflaaGreatPCR6
set_option maxHeartbeats 8000000
set_option maxRecDepth 100000
set_option linter.unusedSimpArgs false
set_option linter.unusedVariables false
section
namespace Go.Proofs.YtjblgopghhgflaaGreat
open Go Leg Codec Api Dsk Wal
theorem BP{δ:Type}(V:Env δ)(r:Nat)(s:MS δ)[OkR V.toDk s](hv:(fQ V.toDk (cb V.toDk (bS V.toDk s))).vote=none):
 DT 60 #[(.pointer (some ⟨r,0,none⟩)),(.iface V.T V.ov)] T0 [cD V r s] (dw (λ_ H=>H=[cD V r (hO V.toDk s)])):=by
 refine BD 89 Tryz.func60 rfl rfl rfl λw0 F hF=>aa λ_ J1=>eJ (α:=Unit) (λ_u=>True) (λ_u=>[(0,(.pointer (some ⟨r,0,none⟩))),(1,(.iface V.T V.ov))]) (λ_u=>[cD V r (if s.busy=true then fe V.toDk s else s)]) (λ_u hinv=>?_) (λtl1=>?_)
 have _:=hinv;refine ac J1 (sr λ_ J2=>P2 ?_);refine CZ DL (n8 V r (if s.busy=true then fe V.toDk s else s)) ID λvR=>?_
 refine nx J2 (sr λ_ J3=>P2 ?_);refine CZ GP (po V r (mq V.toDk (if s.busy=true then fe V.toDk s else s))) ID λvR=>?_
 refine nx J3 (aa λ_ J4=>eJ (α:=Unit) (λ_u=>True) (λ_u=>[(0,(.pointer (some ⟨r,0,none⟩))),(1,(.iface V.T V.ov))]) (λ_u=>[cD V r (cb V.toDk (bS V.toDk s))]) (λ_u hinv=>?_) (λtl4=>?_));have _:=hinv;refine ac J4 (aa λ_ J5=>aa λ_ J6=>DB bf (cN 0 rfl rfl) ?_);refine PD 0 ?_;refine PD 1 ?_;refine FD 2 2 bg be ?_;refine ta 3 rfl (fI (vs:=ints ((cb V.toDk (bS V.toDk s)).view).flat) rfl eL rfl be rfl (λ_ h=>h.2.1) (ao ((cb V.toDk (bS V.toDk s)).view)) (λa_=>(fD ((cb V.toDk (bS V.toDk s)).rep a_) 0 rfl (by decide) (bk (ao (((cb V.toDk (bS V.toDk s)).rep a_).view)))))) ?_;refine PD 4 ?_;refine PD 5 ?_;refine FD 6 0 bg aO ?_;refine ta 7 rfl (c8 (v:=(.int .i64 ((cb V.toDk (bS V.toDk s)).id))) rfl Y3 rfl rfl (λ_ h=>h.2.1) (λa_=>(cB _ rfl))) ?_;refine AL 8 ?_;refine CE o9 (dv ((cb V.toDk (bS V.toDk s)).view) ((cb V.toDk (bS V.toDk s)).id)) ID ?_;refine aX ?_ ?_<;>intro h42;refine EN (PD 9 ?_);refine DN (ac J6 (CN (qx J5 (aa λ_ J7=>eJ (α:=Unit) (λ_u=>True) (λ_u=>[(0,(.pointer (some ⟨r,0,none⟩))),(1,(.iface V.T V.ov))]) (λ_u=>[cD V r (fQ V.toDk (cb V.toDk (bS V.toDk s)))]) (λ_u hinv=>?_) (λtl7=>?_)))));have _:=hinv;refine ac J7 (aa λ_ J8=>sr λ_ J9=>cp (H':=uh V r (fQ V.toDk (cb V.toDk (bS V.toDk s))) (.pointer none)::[]) (λ_ q=>rE hv q) (P2 ?_));refine FA 1067 bg iF ?_;refine LG 0 il (.pointer none) ?_ (hc:=by exact λa_=>(bR _ rfl))
 refine tp (M7 rfl il rfl rfl) ?_;refine nx J9 (CY (ai (ae (aE (H':=[cD V r (fQ V.toDk (cb V.toDk (bS V.toDk s)))]) (dE _) (λ_ q=>nq hv (ak [0] rfl q)) (dy rfl ?_)))));exact MQ (by rw[hO,if_pos h42,rf,hv]);refine aa λ_ J10=>eJ (α:=(Nat)) (λb4=>True) (λb4=>[(0,(.pointer (some ⟨r,0,none⟩))),(1,(.iface V.T V.ov)),(4,(.pointer (some ⟨b4,0,none⟩)))]) (λb4=>[cD V r (cb V.toDk (bS V.toDk s)),aj b4 (ints (cy (cb V.toDk (bS V.toDk s)).book (cb V.toDk (bS V.toDk s)).id).flat) 60]) (λb4 hinv=>?_) (λtl10=>?_)
 have _:=hinv;refine ac J10 (sr λ_ J11=>FA 0 dS aO ?_);refine LT 1 Y3 (.int .i64 ((cy (cb V.toDk (bS V.toDk s)).book (cb V.toDk (bS V.toDk s)).id).version)) ?_ (hc:=by exact cC _ rfl);refine PS ?_;refine am ?_ ?_<;>intro h54;refine nx J11 (CY (af (P2 ?_)));refine LW 1 dS ba ah ?_;refine CZ GN (ma V r (cb V.toDk (bS V.toDk s)) (cy (cb V.toDk (bS V.toDk s)).book (cb V.toDk (bS V.toDk s)).id)) ID λvR=>?_
 refine au ?_
 exact aE
  SB
  (λ_ q=>by
   rw[fQ,if_pos h54]
   exact ak [0] rfl q)
  (tl7 (():Unit) trivial)
 refine nx J11 (CN (aQ ?_))
 exact aE
  SB
  (λ_ q=>by
   rw[fQ,if_neg h54]
   exact ak [0] rfl q)
  (tl7 (():Unit) trivial)
 refine DB bf (cN 0 rfl rfl) ?_;refine PD 0 ?_;refine PD 1 ?_;refine FD 2 1068 bg sX ?_;refine PD 3 ?_;refine PD 4 ?_;refine FD 5 0 bg aO ?_;refine ta 6 rfl (c8 (v:=(.int .i64 ((cb V.toDk (bS V.toDk s)).id))) rfl Y3 rfl rfl (λ_ h=>h.2.1) (λa_=>(cB _ rfl))) ?_;refine cJ [7,8] (by kernel_rfl) rfl (aF rfl ?_ ?_);refine CE H8 (Leg.Does.hid (λa_=>lW r 1068 123 _ (fH ((cb V.toDk (bS V.toDk s)).rep a_)) (cb V.toDk (bS V.toDk s)).book ((cb V.toDk (bS V.toDk s)).id))) ID ?_;refine EN (AL 8 ?_);refine XZ uj (ints RowT.zero.flat) λb4=>?_
 refine EN (AL 9 ?_);refine SW 0 ba ah ?_;refine EN (DN ?_)
 exact aE
  SB
  (λ_ s=>ak [1,0] rfl s)
  (tl10 ((b4):(Nat)) trivial)
 refine aF rfl ?_ ?_;refine XZ uj (ints RowT.zero.flat) λb4=>?_
 refine EN (AL 7 ?_);refine CE H8 (Leg.Does.hid (λa_=>lW r 1068 123 _ (fH ((cb V.toDk (bS V.toDk s)).rep a_)) (cb V.toDk (bS V.toDk s)).book ((cb V.toDk (bS V.toDk s)).id))) (SM [1]) ?_;refine EN (AL 9 ?_);refine SW 1 ba ah ?_;refine EN (DN ?_)
 exact aE
  SB
  (λ_ s=>ak [0,0] rfl s)
  (tl10 ((b4):(Nat)) trivial)
 exact bD;refine EN (PD 9 ?_);refine DN (ac J6 (CY (ai (ae (WK [0] (dy rfl ?_))))));exact MQ (by rw[hO,if_neg (by rw[h42];decide)]);refine sr λ_ J12=>P2 ?_
 refine FA 2 bg be ?_;refine FA 2 eL aO ?_;refine LG 0 Y3 (.int .i64 (((bS V.toDk s).view).epoch)) ?_ (hc:=by exact λa_=>(cd ((bS V.toDk s).rep a_) 0 rfl (by decide) (bc _ rfl)));refine PS ?_;refine am ?_ ?_<;>intro h26;refine nx J12 (CY (af (P4 ?_)));refine FA 2 bg be ?_;refine LZ 0 eL be ao ((bS V.toDk s).view) ?_ (hc:=by exact λ_=>cX _);refine CZ GO (l9 V r (bS V.toDk s) ((bS V.toDk s).view)) ID λvR=>?_
 refine au ?_
 exact aE
  SB
  (λ_ q=>by
   rw[cb,if_pos h26]
   exact ak [0] rfl q)
  (tl4 (():Unit) trivial)
 refine nx J12 (CN (aQ ?_))
 exact aE
  SB
  (λ_ q=>by
   rw[cb,if_neg h26]
   exact ak [0] rfl q)
  (tl4 (():Unit) trivial)
 refine sr λ_ J13=>P2 ?_
 refine FA 1938 bg kp ?_;refine LG 0 Y4 (.bool (s.busy)) ?_ (hc:=by exact λa_=>(w3 _ rfl));refine aX ?_ ?_<;>intro h11;refine nx J13 (CY (af (P2 ?_)));refine CZ GQ (mQ V r s) ID λvR=>?_
 refine au ?_
 exact aE
  SB
  (λ_ q=>by
   rw[if_pos h11]
   exact ak [0] rfl q)
  (tl1 (():Unit) trivial)
 refine nx J13 (CN (aQ ?_))
 exact aE
  SB
  (λ_ q=>by
   rw[if_neg (by rw[h11];decide)]
   exact ak [0] rfl q)
  (tl1 (():Unit) trivial)
theorem BO{δ:Type}(V:Env δ)(r:Nat)(s:MS δ)(vt:VoteT)[OkR V.toDk s](hv:(fQ V.toDk (cb V.toDk (bS V.toDk s))).vote=some vt):
 DT 60 #[(.pointer (some ⟨r,0,none⟩)),(.iface V.T V.ov)] T0 [cD V r s] (dw (λ_ H=>H=[cD V r (hO V.toDk s)])):=by
 refine BD 89 Tryz.func60 rfl rfl rfl λw0 F hF=>?_
 have hov:OkVt vt:=OkR.vote vt hv;refine aa λ_ J1=>eJ (α:=Unit) (λ_u=>True) (λ_u=>[(0,(.pointer (some ⟨r,0,none⟩))),(1,(.iface V.T V.ov))]) (λ_u=>[cD V r (if s.busy=true then fe V.toDk s else s)]) (λ_u hinv=>?_) (λtl1=>?_)
 have _:=hinv;refine ac J1 (sr λ_ J2=>P2 ?_);refine CZ DL (n8 V r (if s.busy=true then fe V.toDk s else s)) ID λvR=>?_
 refine nx J2 (sr λ_ J3=>P2 ?_);refine CZ GP (po V r (mq V.toDk (if s.busy=true then fe V.toDk s else s))) ID λvR=>?_
 refine nx J3 (aa λ_ J4=>eJ (α:=Unit) (λ_u=>True) (λ_u=>[(0,(.pointer (some ⟨r,0,none⟩))),(1,(.iface V.T V.ov))]) (λ_u=>[cD V r (cb V.toDk (bS V.toDk s))]) (λ_u hinv=>?_) (λtl4=>?_));have _:=hinv;refine ac J4 (aa λ_ J5=>aa λ_ J6=>DB bf (cN 0 rfl rfl) ?_);refine PD 0 ?_;refine PD 1 ?_;refine FD 2 2 bg be ?_;refine ta 3 rfl (fI (vs:=ints ((cb V.toDk (bS V.toDk s)).view).flat) rfl eL rfl be rfl (λ_ h=>h.2.1) (ao ((cb V.toDk (bS V.toDk s)).view)) (λa_=>(fD ((cb V.toDk (bS V.toDk s)).rep a_) 0 rfl (by decide) (bk (ao (((cb V.toDk (bS V.toDk s)).rep a_).view)))))) ?_;refine PD 4 ?_;refine PD 5 ?_;refine FD 6 0 bg aO ?_;refine ta 7 rfl (c8 (v:=(.int .i64 ((cb V.toDk (bS V.toDk s)).id))) rfl Y3 rfl rfl (λ_ h=>h.2.1) (λa_=>(cB _ rfl))) ?_;refine AL 8 ?_;refine CE o9 (dv ((cb V.toDk (bS V.toDk s)).view) ((cb V.toDk (bS V.toDk s)).id)) ID ?_;refine aX ?_ ?_<;>intro h42;refine EN (PD 9 ?_);refine DN (ac J6 (CN (qx J5 (aa λ_ J7=>eJ (α:=Unit) (λ_u=>True) (λ_u=>[(0,(.pointer (some ⟨r,0,none⟩))),(1,(.iface V.T V.ov))]) (λ_u=>[cD V r (fQ V.toDk (cb V.toDk (bS V.toDk s)))]) (λ_u hinv=>?_) (λtl7=>?_)))));have _:=hinv;refine ac J7 (aa λ_ J8=>sr λ_ J9=>Bq (H':=λvb:Nat=>uh V r (fQ V.toDk (cb V.toDk (bS V.toDk s))) (.pointer (some ⟨vb,0,none⟩))::aj vb (VoteT.cells vt) 227::[]) (λ_ q=>mm hv q) (λvb=>P2 ?_));refine FA 1067 bg iF ?_
 refine LG 0 il (.pointer (some ⟨vb,0,none⟩)) ?_ (hc:=by exact λa_=>(bR _ rfl));refine tp (jF rfl il rfl rfl) ?_;refine nx J9 (CN (qx J8 (sr λ_ J10=>P2 ?_)));refine FA 1067 bg iF ?_;refine LG 0 il (.pointer (some ⟨vb,0,none⟩)) ?_ (hc:=by exact λa_=>(bR _ rfl));refine CE nj (cW vb vt) (SM [1]) ?_;change TL _ _ _ _ _ _ _ _ _ [aj vb (VoteT.cells vt) 227,uh V r (fQ V.toDk (cb V.toDk (bS V.toDk s))) (.pointer (some ⟨vb,0,none⟩))];refine cp (H':=cD V r (fQ V.toDk (cb V.toDk (bS V.toDk s)))::[]) (λ_ q=>np hv (az [1,0] rfl q)) (XZ L8 (ints ChangeT.zero.flat) λb5=>?_);refine SW 0 fl aI ?_;refine nx J10 (aa λ_ J11=>eJ (α:=Unit) (λ_u=>True) (λ_u=>[(0,(.pointer (some ⟨r,0,none⟩))),(1,(.iface V.T V.ov)),(5,(.pointer (some ⟨b5,0,none⟩))),(7,(.int .i64 ((dB (fQ V.toDk (cb V.toDk (bS V.toDk s))).view vt.change).2)))]) (λ_u=>[cD V r (fQ V.toDk (cb V.toDk (bS V.toDk s))),aj b5 (ints vt.change.flat) 28]) (λ_u hinv=>?_) (λtl11=>?_));have _:=hinv;refine ac J11 (sr λ_ J12=>P2 ?_);refine am ?_ ?_<;>intro h79;refine P2 ?_;refine LW 1 mx fl aI ?_;refine CE GM (pu V r (fQ V.toDk (cb V.toDk (bS V.toDk s))) vt.change) ID ?_;refine PS ?_;refine am ?_ ?_<;>intro h84;refine PS ?_;refine nx J12 (CY (af (P2 ?_)))
 refine CZ DK (qn V r ((cn V.toDk (fQ V.toDk (cb V.toDk (bS V.toDk s))) vt.change).1) (jc (fQ V.toDk (cb V.toDk (bS V.toDk s))).view (en (fQ V.toDk (cb V.toDk (bS V.toDk s)))) vt.change) (qG h84)) ID λvR=>?_
 refine au (WK [0] (bu rfl ?_));exact MQ (by rw[hO,if_pos h42,rf,hv];simp only[];rw[if_pos h79,if_pos h84]);refine PS ?_;refine nx J12 (CN (aQ (WK [0] (bu rfl ?_))));exact MQ (by rw[hO,if_pos h42,rf,hv];simp only[];rw[if_pos h79,if_neg h84]);refine PS ?_
 iterate 4 refine UF ?_
 refine PS ?_;refine nx J12 (CN (aQ (WK [0] (bu rfl ?_))));exact MQ (by rw[hO,if_pos h42,rf,hv];simp only[];rw[if_neg h79]);refine DC bf (cN 1 rfl rfl) (BL 0) ?_;refine PD 0 ?_;refine PD 1 ?_;refine FD 2 2 bg be ?_;refine ta 3 rfl (fI (vs:=ints ((fQ V.toDk (cb V.toDk (bS V.toDk s))).view).flat) rfl eL rfl be rfl (λ_ h=>h.2.1) (ao ((fQ V.toDk (cb V.toDk (bS V.toDk s))).view)) (λa_=>(fD ((fQ V.toDk (cb V.toDk (bS V.toDk s))).rep a_) 0 rfl (by decide) (bk (ao (((fQ V.toDk (cb V.toDk (bS V.toDk s))).rep a_).view)))))) ?_;refine LY 4 mx fl aI ?_;refine cJ [5,9] (by kernel_rfl) rfl (aF rfl ?_ ?_);refine CE ml (dh ((fQ V.toDk (cb V.toDk (bS V.toDk s))).view) vt.change OkVw.rng) ID ?_;refine EN (PD 6 ?_);refine PD 7 ?_;refine PD 8 ?_;refine AL 9 ?_;refine XZ sV (ints ViewT.zero.flat) λb6=>?_
 refine EN (AL 10 ?_);refine SW 0 be ao ?_;refine EN (PD 11 ?_);refine DN ?_
 exact aE
  SB
  (λ_ s=>ak [2,1] rfl s)
  (tl11 (():Unit) trivial)
 refine aF rfl ?_ ?_;refine XZ sV (ints ViewT.zero.flat) λb6=>?_
 refine EN (AL 5 ?_);refine CE ml (dh ((fQ V.toDk (cb V.toDk (bS V.toDk s))).view) vt.change OkVw.rng) ID ?_;refine EN (PD 6 ?_);refine PD 7 ?_;refine PD 8 ?_;refine AL 10 ?_;refine SW 0 be ao ?_;refine EN (PD 11 ?_);refine DN ?_
 exact aE
  SB
  (λ_ s=>ak [2,1] rfl s)
  (tl11 (():Unit) trivial)
 exact bD;refine aa λ_ J13=>eJ (α:=(Nat)) (λb4=>True) (λb4=>[(0,(.pointer (some ⟨r,0,none⟩))),(1,(.iface V.T V.ov)),(4,(.pointer (some ⟨b4,0,none⟩)))]) (λb4=>[cD V r (cb V.toDk (bS V.toDk s)),aj b4 (ints (cy (cb V.toDk (bS V.toDk s)).book (cb V.toDk (bS V.toDk s)).id).flat) 60]) (λb4 hinv=>?_) (λtl13=>?_)
 have _:=hinv;refine ac J13 (sr λ_ J14=>FA 0 dS aO ?_);refine LT 1 Y3 (.int .i64 ((cy (cb V.toDk (bS V.toDk s)).book (cb V.toDk (bS V.toDk s)).id).version)) ?_ (hc:=by exact cC _ rfl);refine PS ?_;refine am ?_ ?_<;>intro h54;refine nx J14 (CY (af (P2 ?_)));refine LW 1 dS ba ah ?_;refine CZ GN (ma V r (cb V.toDk (bS V.toDk s)) (cy (cb V.toDk (bS V.toDk s)).book (cb V.toDk (bS V.toDk s)).id)) ID λvR=>?_
 refine au ?_
 exact aE
  SB
  (λ_ q=>by
   rw[fQ,if_pos h54]
   exact ak [0] rfl q)
  (tl7 (():Unit) trivial)
 refine nx J14 (CN (aQ ?_))
 exact aE
  SB
  (λ_ q=>by
   rw[fQ,if_neg h54]
   exact ak [0] rfl q)
  (tl7 (():Unit) trivial)
 refine DB bf (cN 0 rfl rfl) ?_;refine PD 0 ?_;refine PD 1 ?_;refine FD 2 1068 bg sX ?_;refine PD 3 ?_;refine PD 4 ?_;refine FD 5 0 bg aO ?_;refine ta 6 rfl (c8 (v:=(.int .i64 ((cb V.toDk (bS V.toDk s)).id))) rfl Y3 rfl rfl (λ_ h=>h.2.1) (λa_=>(cB _ rfl))) ?_;refine cJ [7,8] (by kernel_rfl) rfl (aF rfl ?_ ?_);refine CE H8 (Leg.Does.hid (λa_=>lW r 1068 123 _ (fH ((cb V.toDk (bS V.toDk s)).rep a_)) (cb V.toDk (bS V.toDk s)).book ((cb V.toDk (bS V.toDk s)).id))) ID ?_;refine EN (AL 8 ?_);refine XZ uj (ints RowT.zero.flat) λb4=>?_
 refine EN (AL 9 ?_);refine SW 0 ba ah ?_;refine EN (DN ?_)
 exact aE
  SB
  (λ_ s=>ak [1,0] rfl s)
  (tl13 ((b4):(Nat)) trivial)
 refine aF rfl ?_ ?_;refine XZ uj (ints RowT.zero.flat) λb4=>?_
 refine EN (AL 7 ?_);refine CE H8 (Leg.Does.hid (λa_=>lW r 1068 123 _ (fH ((cb V.toDk (bS V.toDk s)).rep a_)) (cb V.toDk (bS V.toDk s)).book ((cb V.toDk (bS V.toDk s)).id))) (SM [1]) ?_;refine EN (AL 9 ?_);refine SW 1 ba ah ?_;refine EN (DN ?_)
 exact aE
  SB
  (λ_ s=>ak [0,0] rfl s)
  (tl13 ((b4):(Nat)) trivial)
 exact bD;refine EN (PD 9 ?_);refine DN (ac J6 (CY (ai (ae (WK [0] (dy rfl ?_))))));exact MQ (by rw[hO,if_neg (by rw[h42];decide)]);refine sr λ_ J15=>P2 ?_
 refine FA 2 bg be ?_;refine FA 2 eL aO ?_;refine LG 0 Y3 (.int .i64 (((bS V.toDk s).view).epoch)) ?_ (hc:=by exact λa_=>(cd ((bS V.toDk s).rep a_) 0 rfl (by decide) (bc _ rfl)));refine PS ?_;refine am ?_ ?_<;>intro h26;refine nx J15 (CY (af (P4 ?_)));refine FA 2 bg be ?_;refine LZ 0 eL be ao ((bS V.toDk s).view) ?_ (hc:=by exact λ_=>cX _);refine CZ GO (l9 V r (bS V.toDk s) ((bS V.toDk s).view)) ID λvR=>?_
 refine au ?_
 exact aE
  SB
  (λ_ q=>by
   rw[cb,if_pos h26]
   exact ak [0] rfl q)
  (tl4 (():Unit) trivial)
 refine nx J15 (CN (aQ ?_))
 exact aE
  SB
  (λ_ q=>by
   rw[cb,if_neg h26]
   exact ak [0] rfl q)
  (tl4 (():Unit) trivial)
 refine sr λ_ J16=>P2 ?_
 refine FA 1938 bg kp ?_;refine LG 0 Y4 (.bool (s.busy)) ?_ (hc:=by exact λa_=>(w3 _ rfl));refine aX ?_ ?_<;>intro h11;refine nx J16 (CY (af (P2 ?_)));refine CZ GQ (mQ V r s) ID λvR=>?_
 refine au ?_
 exact aE
  SB
  (λ_ q=>by
   rw[if_pos h11]
   exact ak [0] rfl q)
  (tl1 (():Unit) trivial)
 refine nx J16 (CN (aQ ?_))
 exact aE
  SB
  (λ_ q=>by
   rw[if_neg (by rw[h11];decide)]
   exact ak [0] rfl q)
  (tl1 (():Unit) trivial)
theorem BN{δ:Type}(V:Env δ)(r:Nat)(s:MS δ)[OkR V.toDk s]:DT 60 #[.pointer (some ⟨r,0,none⟩), .iface V.T V.ov] T0 [cD V r s] (dw (λ_ H=>H=[cD V r (hO V.toDk s)])):=by
 cases hv:(fQ V.toDk (cb V.toDk (bS V.toDk s))).vote with
 |none=>exact BP V r s hv
 |some vt=>exact BO V r s vt hv
abbrev Bz{δ:Type}(lg r:Nat)(s:MS δ):HP:=hid r (λ_:Unit=>RepT.cells (s.rep ⟨lg, .pointer none, .slice none 0 0⟩)) 123 (λ_=>[])
theorem tw{δ:Type}(lg r:Nat)(s:MS δ)(v:ViewT):
 DT 93 #[(.pointer (some ⟨r,0,none⟩)),(.agg (ints v.flat).toArray)] T0 [Bz lg r s] (dw (λ_ H=>H=[Bz lg r (mo s v)])):=by
 refine BD 20 Tryz.func93 rfl rfl rfl λw0 F hF=>sr λ_ J1=>XY (ints v.flat) λb3=>?_
 refine nx J1 (sr λ_ J2=>PS ?_);refine LW 0 eL be ao ?_;refine PS ?_;refine FA 2 bg be ?_;refine gD (vs:=ints v.flat) (i:=1) (ab rfl) rfl rfl rfl rfl rfl (by rw[(ao v)];exact be) (bG _) rfl rfl (λ_=>LC (cM _) (ao _)) (λa_=>(MK (s.rep ⟨lg, .pointer none, .slice none 0 0⟩) 0 rfl (by have h1:=(ao v);omega) (cz ((ao ((s.rep ⟨lg, .pointer none, .slice none 0 0⟩).view)).trans (ao v).symm)))) (nx J2 (sr λ_ J3=>PS ?_));refine FA 0 eL aO ?_;refine LU 0 Y3 (bc v rfl) ?_;refine tp (kw AccT.zero (AccT.mk v.epoch BallotT.zero BallotT.zero ChangeT.zero) [(0,[Value.int .i64 v.epoch])] iw nF (g:=AccT.sg)) ?_;refine PS ?_;refine FA 1058 bg dq ?_;refine gD (vs:=ints (AccT.mk v.epoch BallotT.zero BallotT.zero ChangeT.zero).flat) (i:=1) (ab rfl) rfl rfl rfl rfl rfl (by rw[(aW (AccT.mk v.epoch BallotT.zero BallotT.zero ChangeT.zero))];exact dq) (bG _) rfl rfl (λ_=>LC (cM _) (aW _)) (λa_=>(jZ ((MS.setView s v).rep ⟨lg, .pointer none, .slice none 0 0⟩) 0 rfl (by have h1:=(aW (AccT.mk v.epoch BallotT.zero BallotT.zero ChangeT.zero));omega) (cz ((aW (((MS.setView s v).rep ⟨lg, .pointer none, .slice none 0 0⟩).acc)).trans (aW (AccT.mk v.epoch BallotT.zero BallotT.zero ChangeT.zero)).symm)))) (nx J3 (sr λ_ J4=>P2 ?_));refine FA 1067 bg iF ?_;refine SK 1 iF (λ_=>cM _) ?_ (hc:=by exact λa_=>(ML _ rfl _));refine nx J4 (af (P2 ?_));refine FA 1066 bg aO ?_;refine SK 1 aO (λ_=>cM _) ?_ (hc:=by exact λa_=>(ll _ rfl _))
 exact au (WK [1] (bu rfl rfl))
theorem wD{δ:Type}(lg r:Nat)(s:MS δ)(m:RecT)(hw:WF m.row.flat):
 DT 94 #[(.pointer (some ⟨r,0,none⟩)),(.agg (ints m.flat).toArray)] T0 [Bz lg r s] (dw (λ_ H=>H=[Bz lg r (jm s m)])):=by
 refine BD 93 Tryz.func94 rfl rfl rfl λw0 F hF=>sr λ_ J1=>XY (ints m.flat) λb3=>?_
 refine nx J1 (sr λ_ J2=>FA 0 iy aO ?_);refine LU 0 Y3 (j0 m rfl) ?_;refine nx J2 (ap (sr λ_ J3=>PS ?_));refine am ?_ ?_<;>intro h7;refine PS ?_;refine nx J3 (CY (af (P3 ?_)));refine FA 2 iy ba ?_;refine LV 0 dS ba ah RecT.sp_row (y:=m.row) ?_;refine PS ?_;refine FA 9 bg ba ?_;refine gD (vs:=ints m.row.flat) (i:=1) (ab rfl) rfl rfl rfl rfl rfl (by rw[(ah m.row)];exact ba) (bG _) rfl rfl (λ_=>LC (cM _) (ah _)) (λa_=>(M5 (s.rep ⟨lg, .pointer none, .slice none 0 0⟩) 0 rfl (by have h1:=(ah m.row);omega) (cz ((ah ((s.rep ⟨lg, .pointer none, .slice none 0 0⟩).own)).trans (ah m.row).symm)))) (PS ?_);refine FA 1938 bg kp ?_;refine SK 1 kp (λ_=>cM _) ?_ (hc:=by exact λa_=>(MN _ rfl _));refine PS ?_;refine FA 1939 bg aO ?_;refine SK 1 aO (λ_=>cM _) ?_ (hc:=by exact λa_=>(MM _ rfl _));refine au (ag (WK [1] (bu rfl ?_)));exact congrArg (λq=>[Bz lg r q]) (show(MS.setKept (MS.setBusy (MS.setOwn s m.row) true) 0)=jm s m by rw[jm,if_pos h7]<;>rfl);refine PS ?_;refine nx J3 (CN (sr λ_ J4=>PS ?_));refine am ?_ ?_<;>intro h20;refine PS ?_;refine nx J4 (CY (D1 0 bf ?_));refine PD 0 ?_;refine PD 1 ?_;refine FD 2 183 bg oT ?_;refine FD 3 1 iy aO ?_;refine LR 4 Y3 (Ec m rfl) ?_;refine FD 5 2 iy ba ?_;refine ta 6 rfl (aK (vs:=ints m.row.flat) rfl dS rfl ba rfl (λ_ h=>h.2.1) (ah m.row) (qO m 0 rfl (by decide) (bk (ah m.row)))) ?_;refine AL 7 ?_
 refine CE I0 (Leg.Does.hid (λa_=>rG r 183 123 _ (eP (s.rep ⟨lg, .pointer none, .slice none 0 0⟩)) s.mirror m.whose m.row hw)) (SM [1]) ?_;refine EN (DN (ag (WK [0] (bu rfl ?_))));exact congrArg (λq=>[Bz lg r q]) (show(io s m.whose m.row)=jm s m by rw[jm,if_neg h7,if_pos h20]<;>rfl);refine PS ?_;refine nx J4 (CN (sr λ_ J5=>PS ?_));refine am ?_ ?_<;>intro h30;refine PS ?_;refine nx J5 (CY (D1 0 bf ?_));refine PD 0 ?_;refine PD 1 ?_;refine FD 2 183 bg oT ?_;refine FD 3 1 iy aO ?_;refine LR 4 Y3 (Ec m rfl) ?_;refine AL 5 ?_;refine CE IZ (Leg.Does.hid (λa_=>rF r 183 123 _ (eP (s.rep ⟨lg, .pointer none, .slice none 0 0⟩)) s.mirror m.whose)) (SM [1]) ?_;refine EN (DN (ag (WK [0] (bu rfl ?_))));exact congrArg (λq=>[Bz lg r q]) (show(ly s m.whose)=jm s m by rw[jm,if_neg h7,if_neg h20,if_pos h30]<;>rfl);refine PS ?_;refine nx J5 (CN (sr λ_ J6=>PS ?_));refine am ?_ ?_<;>intro h38;refine PS ?_;refine nx J6 (CY (sr λ_ J7=>PS ?_));refine FA 177 iy cv ?_;refine LV 0 jP cv an RecT.sp_ballot (y:=m.ballot) ?_;refine PS ?_;refine FA 1058 bg dq ?_;refine FA 1059 iw cv ?_
 refine gD (vs:=ints m.ballot.flat) (i:=1) (ab rfl) rfl rfl rfl rfl rfl (by rw[(an m.ballot)];exact cv) (bG _) rfl rfl (λ_=>LC (cM _) (an _)) (λa_=>(jZ (s.rep ⟨lg, .pointer none, .slice none 0 0⟩) 1 rfl (by have h1:=(an m.ballot);omega) (Nc ((s.rep ⟨lg, .pointer none, .slice none 0 0⟩).acc) 0 rfl (by have h1:=(an m.ballot);omega) (cz ((an (((s.rep ⟨lg, .pointer none, .slice none 0 0⟩).acc).vow)).trans (an m.ballot).symm))))) (nx J7 (D1 0 bf ?_));refine PD 0 ?_;refine PD 1 ?_;refine PD 2 ?_;refine FD 3 1066 bg aO ?_;refine FD 5 177 iy cv ?_;refine FD 6 177 jP aO ?_;refine LX 7 Y3 (.int .i64 (m.ballot.round)) ?_ (hc:=by exact RecT.pt_ballot m 0 rfl (by decide) (eT m.ballot rfl));refine AL 4 ?_;refine LG 1 Y3 (.int .i64 (s.round)) ?_ (hc:=by exact λa_=>(tQ _ rfl));refine EN (ta 8 rfl (w6 rfl rfl rfl) ?_);refine PD 9 ?_;refine FD 10 1066 bg aO ?_;refine AL 11 ?_;refine SK 1 aO (λ_=>cM _) ?_ (hc:=by exact λa_=>(ll _ rfl _));refine EN (DN (ag (WK [1] (bu rfl ?_))));exact congrArg (λq=>[Bz lg r q]) (show(MS.setRound (MS.setAcc s (AccT.mk s.acc.epoch m.ballot s.acc.had s.acc.change)) (max s.round m.ballot.round))=jm s m by rw[jm,if_neg h7,if_neg h20,if_neg h30,if_pos h38]<;>rfl);refine PS ?_;refine nx J6 (CN (sr λ_ J8=>PS ?_));refine am ?_ ?_<;>intro h57;refine PS ?_;refine nx J8 (CY (aa λ_ J9=>D1 0 bf ?_));refine PD 0 ?_;refine PD 1 ?_;refine PD 2 ?_;refine FD 3 177 iy cv ?_
 refine ta 4 rfl (aK (vs:=ints m.ballot.flat) rfl jP rfl cv rfl (λ_ h=>h.2.1) (an m.ballot) (pT m 0 rfl (by decide) (bk (an m.ballot)))) ?_;refine FD 5 177 iy cv ?_;refine ta 6 rfl (aK (vs:=ints m.ballot.flat) rfl jP rfl cv rfl (λ_ h=>h.2.1) (an m.ballot) (pT m 0 rfl (by decide) (bk (an m.ballot)))) ?_;refine FD 7 179 iy fl ?_;refine ta 8 rfl (aK (vs:=ints m.change.flat) rfl mx rfl fl rfl (λ_ h=>h.2.1) (aI m.change) (JL m 0 rfl (by decide) (bk (aI m.change)))) ?_;refine PD 9 ?_;refine FD 10 1058 bg dq ?_;refine FD 11 1059 iw cv ?_;refine AL 12 ?_;refine gD (vs:=ints m.ballot.flat) (i:=1) (ab rfl) rfl rfl rfl rfl rfl (by rw[(an m.ballot)];exact cv) (bG _) rfl rfl (λ_=>LC (cM _) (an _)) (λa_=>(jZ (s.rep ⟨lg, .pointer none, .slice none 0 0⟩) 1 rfl (by have h1:=(an m.ballot);omega) (Nc ((s.rep ⟨lg, .pointer none, .slice none 0 0⟩).acc) 0 rfl (by have h1:=(an m.ballot);omega) (cz ((an (((s.rep ⟨lg, .pointer none, .slice none 0 0⟩).acc).vow)).trans (an m.ballot).symm))))) (EN (PD 13 ?_));refine FD 14 1058 bg dq ?_;refine FD 15 1061 iw cv ?_;refine AL 16 ?_
 refine gD (vs:=ints m.ballot.flat) (i:=1) (ab rfl) rfl rfl rfl rfl rfl (by rw[(an m.ballot)];exact cv) (bG _) rfl rfl (λ_=>LC (cM _) (an _)) (λa_=>(jZ ((MS.setAcc s (AccT.mk s.acc.epoch m.ballot s.acc.had s.acc.change)).rep ⟨lg, .pointer none, .slice none 0 0⟩) 3 rfl (by have h1:=(an m.ballot);omega) (AccT.wr_had_ (((MS.setAcc s (AccT.mk s.acc.epoch m.ballot s.acc.had s.acc.change)).rep ⟨lg, .pointer none, .slice none 0 0⟩).acc) 0 rfl (by have h1:=(an m.ballot);omega) (cz ((an ((((MS.setAcc s (AccT.mk s.acc.epoch m.ballot s.acc.had s.acc.change)).rep ⟨lg, .pointer none, .slice none 0 0⟩).acc).had)).trans (an m.ballot).symm))))) (EN (PD 17 ?_));refine FD 18 1058 bg dq ?_;refine FD 19 1063 iw fl ?_;refine AL 20 ?_;refine gD (vs:=ints m.change.flat) (i:=1) (ab rfl) rfl rfl rfl rfl rfl (by rw[(aI m.change)];exact fl) (bG _) rfl rfl (λ_=>LC (cM _) (aI _)) (λa_=>(jZ ((MS.setAcc s (AccT.mk s.acc.epoch m.ballot m.ballot s.acc.change)).rep ⟨lg, .pointer none, .slice none 0 0⟩) 5 rfl (by have h1:=(aI m.change);omega) (AccT.wr_change_ (((MS.setAcc s (AccT.mk s.acc.epoch m.ballot m.ballot s.acc.change)).rep ⟨lg, .pointer none, .slice none 0 0⟩).acc) 0 rfl (by have h1:=(aI m.change);omega) (cz ((aI ((((MS.setAcc s (AccT.mk s.acc.epoch m.ballot m.ballot s.acc.change)).rep ⟨lg, .pointer none, .slice none 0 0⟩).acc).change)).trans (aI m.change).symm))))) (EN (DN (ac J9 (D1 0 bf ?_))));refine PD 0 ?_;refine PD 1 ?_;refine PD 2 ?_
 refine FD 3 1066 bg aO ?_;refine FD 5 177 iy cv ?_;refine FD 6 177 jP aO ?_;refine LX 7 Y3 (.int .i64 (m.ballot.round)) ?_ (hc:=by exact RecT.pt_ballot m 0 rfl (by decide) (eT m.ballot rfl));refine AL 4 ?_;refine LG 1 Y3 (.int .i64 (s.round)) ?_ (hc:=by exact λa_=>(tQ _ rfl));refine EN (ta 8 rfl (w6 rfl rfl rfl) ?_);refine PD 9 ?_;refine FD 10 1066 bg aO ?_;refine AL 11 ?_;refine SK 1 aO (λ_=>cM _) ?_ (hc:=by exact λa_=>(ll _ rfl _));refine EN (DN (ag (WK [1] (bu rfl ?_))));exact congrArg (λq=>[Bz lg r q]) (show(MS.setRound (MS.setAcc s (AccT.mk s.acc.epoch m.ballot m.ballot m.change)) (max s.round m.ballot.round))=jm s m by rw[jm,if_neg h7,if_neg h20,if_neg h30,if_neg h38,if_pos h57]<;>rfl);refine PS ?_;refine nx J8 (CN (sr λ_ J10=>PS ?_));refine am ?_ ?_<;>intro h88;refine PS ?_;refine nx J10 (CY (af (PS ?_)));refine FA 182 iy be ?_;refine LV 0 eL be ao RecT.sp_view (y:=m.view) ?_;refine CZ Js (tw lg r s m.view) (SM [1]) λvR=>?_
 refine au (ag (WK [0] (bu rfl ?_)));exact congrArg (λq=>[Bz lg r q]) (show(mo s m.view)=jm s m by rw[jm,if_neg h7,if_neg h20,if_neg h30,if_neg h38,if_neg h57,if_pos h88]<;>rfl);refine PS ?_;refine nx J10 (CN (aQ (ag (WK [1] (bu rfl ?_)))));exact congrArg (λq=>[Bz lg r q]) (show s=jm s m by rw[jm,if_neg h7,if_neg h20,if_neg h30,if_neg h38,if_neg h57,if_neg h88]<;>rfl)
theorem Ik{bs:List UInt8}(h: ¬(mV bs).2≠0):WF (mV bs).1.row.flat:=by
 rcases Hb bs with⟨m,e,_,_,hw⟩|e
 · rw[e];exact hw
 · rw[e]at h;exact absurd (by decide) h
theorem zV{δ:Type}(e0:δ)(i:Int)(d:Nat)(D:DS)(hD:D.Ok)(hI:Wal.DS.In D)(hb:D.ws.length≤1000000):
 DT 55 #[(.int .i64 (i)),(.pointer (some ⟨d,0,none⟩))] T0 [dk d D] (dw (λr' H=>((bL D).err≠0∧r'= .tuple #[.pointer none, .int .i64 (bL D).err]∧H=[dk d (bL D).D])∨((bL D).err=0∧((kU (bL D).recs (Ay i e0)=none∧r'= .tuple #[.pointer none, .int .i64 1]∧H=[dk d (bL D).D])∨∃s r lg,kU (bL D).recs (Ay i e0)=some s∧r'= .tuple #[.pointer (some ⟨r,0,none⟩), .int .i64 0]∧H=[Bz lg r s,DR lg d (((bL D).recs.length:Nat):Int) (bL D).used,dk d (bL D).D])))):=by
 refine BD 50 Tryz.func55 rfl rfl rfl λw0 F hF=>sr λ_ J1=>P2 ?_
 refine nx J1 (aa λ_ J2=>sr λ_ J3=>PS ?_);refine tp (jF rfl wj rfl rfl) ?_;refine nx J3 (CN (qx J2 (sr λ_ J4=>PS ?_)));refine CR Mn (Fa d D hD hI hb) ID λvR HR hR=>?_
 rcases hR with⟨he,rfl,rfl⟩| ⟨he,lg,vr,rfl,rfl⟩
 refine P4 ?_;refine P3 ?_;refine nx J4 (aa λ_ J5=>sr λ_ J6=>P2 ?_);refine am ?_ ?_<;>intro h23;refine nx J6 (CY (sr λ_ J7=>P3 ?_));exact nx J7 (ai (ae (WK [0] (ii rfl rfl rfl (.inl ⟨he,rfl,rfl⟩)))))
 · exact absurd he h23
 change TL _ _ _ _ _ _ _ _ _ [aj lg [(.pointer (some ⟨d,0,none⟩)),(.int .i64 ((((bL D).recs.length:Nat):Int))),(.int .i64 ((bL D).used))] 210,L9 vr (bL D).recs,dk d (bL D).D];refine wW (p:=oo vr (bL D).recs.length∧vr.oneCell'=true) (λw m=>by obtain⟨h,_,_,hs⟩:=m;obtain⟨_,_,_,_,a,_⟩:=eI 1 (lb rfl) hs;exact s6 a) (λ⟨hsl,hvr⟩=>P4 ?_);refine P3 ?_;refine nx J4 (aa λ_ J8=>sr λ_ J9=>P2 ?_);refine nx J9 (CN (qx J8 (sr λ_ J10=>P2 ?_)))
 refine tp (w7 (cs:=RepT.cells (RepT.mk i (.pointer (some ⟨lg,0,none⟩)) ViewT.zero RowT.zero MirT.zero AccT.zero 0 (.pointer none) BookT.zero false 0 0 0 (.slice none 0 0) (#v[0,0,0,0,0]) (#v[RowT.zero,RowT.zero,RowT.zero,RowT.zero,RowT.zero]))) (segs:=[[Value.int .i64 0],[(.pointer none)],ints ViewT.zero.flat,ints RowT.zero.flat,MirT.cells MirT.zero,ints AccT.zero.flat,[Value.int .i64 0],[(.pointer none)],ints BookT.zero.flat,[Value.bool false],[Value.int .i64 0],[Value.int .i64 0],[Value.int .i64 0],[(.slice none 0 0)],ints (#v[0,0,0,0,0]).toList,ints ((#v[RowT.zero,RowT.zero,RowT.zero,RowT.zero,RowT.zero]).toList.flatMap RowT.flat)]) (res:=[[Value.int .i64 i],[(.pointer (some ⟨lg,0,none⟩))],ints ViewT.zero.flat,ints RowT.zero.flat,MirT.cells MirT.zero,ints AccT.zero.flat,[Value.int .i64 0],[(.pointer none)],ints BookT.zero.flat,[Value.bool false],[Value.int .i64 0],[Value.int .i64 0],[Value.int .i64 0],[(.slice none 0 0)],ints (#v[0,0,0,0,0]).toList,ints ((#v[RowT.zero,RowT.zero,RowT.zero,RowT.zero,RowT.zero]).toList.flatMap RowT.flat)]) (parts:=[(0,[Value.int .i64 i]),(1,[(.pointer (some ⟨lg,0,none⟩))])]) rfl rfl bg (by kernel_rfl) (by kernel_rfl) rfl (eW rfl rfl (eW rfl ((rfl:[(.pointer (some ⟨lg,0,none⟩))].length=1).trans (rfl:[(.pointer none)].length=1).symm) kV)) (ei (RepT.mk i (.pointer (some ⟨lg,0,none⟩)) ViewT.zero RowT.zero MirT.zero AccT.zero 0 (.pointer none) BookT.zero false 0 0 0 (.slice none 0 0) (#v[0,0,0,0,0]) (#v[RowT.zero,RowT.zero,RowT.zero,RowT.zero,RowT.zero]))).symm) ?_
 refine XY (RepT.cells (RepT.mk i (.pointer (some ⟨lg,0,none⟩)) ViewT.zero RowT.zero MirT.zero AccT.zero 0 (.pointer none) BookT.zero false 0 0 0 (.slice none 0 0) (#v[0,0,0,0,0]) (#v[RowT.zero,RowT.zero,RowT.zero,RowT.zero,RowT.zero]))) λb28=>?_
 refine PS ?_;refine nx J10 (sr λ_ J11=>cp (H':=Bz lg b28 (De i e0)::[aj lg [(.pointer (some ⟨d,0,none⟩)),(.int .i64 ((((bL D).recs.length:Nat):Int))),(.int .i64 ((bL D).used))] 210,L9 vr (bL D).recs,dk d (bL D).D]) (λ_ q=>bi (p:=λ_:Unit=>[aj b28 (RepT.cells ((De i e0).rep ⟨lg, .pointer none, .slice none 0 0⟩)) 123]) () (az [0] rfl q)) (PS ?_));refine CE KM (vL) ID ?_;refine CZ Js (tw lg b28 (De i e0) firstV) ID λvR=>?_
 refine nx J11 (aa λ_ J12=>sr λ_ J13=>PS ?_);refine tp (cu rfl tN rfl hsl) ?_;refine PS ?_;refine nx J13 (ap ?_)
 refine bB (α:=(Nat)×(MS δ)) (λ⟨k,s⟩=>k≤(bL D).recs.length∧kU (bL D).recs (Ay i e0)=kU ((bL D).recs.drop k) s) (λ⟨k,s⟩=>[(9,(.pointer (some ⟨b28,0,none⟩))),(32,vr),(33,(.int .i64 ((((bL D).recs.length:Nat):Int)))),(34,(.int .i64 (((k:Nat):Int))))]) (λ⟨k,s⟩=>[Bz lg b28 s,aj lg [(.pointer (some ⟨d,0,none⟩)),(.int .i64 ((((bL D).recs.length:Nat):Int))),(.int .i64 ((bL D).used))] 210,L9 vr (bL D).recs,dk d (bL D).D]) (λ⟨k,s⟩=>(bL D).recs.length-k) (0,(Ay i e0))
  ⟨aN _,rfl⟩ SB
  (λ_ s=>ak [0,0,0,0] rfl s) (λ⟨k,s⟩ hinv=>?_)
 obtain⟨hk,hrs⟩:=hinv;refine sr λ_ J14=>PS ?_
 refine am ?_ ?_<;>intro h35;refine cp (λ_ s=>az [2] rfl s) (Jc (λus=>?_));change TL _ _ _ _ _ _ _ _ _ [own vr ((bL D).recs.length) (us) 93 1,ej us (bL D).recs 5,Bz lg b28 s,aj lg [(.pointer (some ⟨d,0,none⟩)),(.int .i64 ((((bL D).recs.length:Nat):Int))),(.int .i64 ((bL D).used))] 210,dk d (bL D).D];refine wW (p:=us.length=(bL D).recs.length*1) (λw m=>m.own_len (i:=0) (lb rfl) rfl) (λhul=>?_);rw[fy]at hul;have hkl:k< (bL D).recs.length:=by omega
 refine fG 0 rfl rfl (by omega) (λg cap hv hcap=>?_);have hvq:vr= .slice (some ⟨g,0,none⟩) (bL D).recs.length cap:=hv;refine nx J14 (aa λ_ J15=>CY (qx J15 (aa λ_ J16=>ap (sr λ_ J17=>tp (bv (r:=k) hv rfl tN mR rfl rfl (by omega) (by omega) (by omega)) ?_))));refine tp (cV (v:=(us.getD k undef)) rfl gk rfl rfl (dT 0 rfl hvq rfl) (by simp[List.getD_eq_getElem?_getD,show k<us.length by omega])) ?_;refine PS ?_;refine nx J17 (sr λ_ J18=>PS ?_);refine CF MB (tJ (us.getD k undef) (bL D).recs[k]) ID (λg d s=>sI 1 hkl rfl rfl g d s) ?_;refine P3 ?_;refine XZ JW (ints RecT.zero.flat) λb12=>?_
 refine SW 0 iE bj ?_;refine PS ?_;refine nx J18 (aa λ_ J19=>sr λ_ J20=>P2 ?_);refine am ?_ ?_<;>intro h44;refine nx J20 (CY (sr λ_ J21=>P2 ?_));exact nx J21 (ai (ae (aH (ae (ae (aH (ae (WK [5] (ii rfl rfl rfl (.inr ⟨he, .inl ⟨hrs.trans (EQ hkl h44),rfl,rfl⟩⟩))))))))));refine nx J20 (CN (qx J19 (af (PS ?_))));refine LW 0 iy iE bj ?_;refine CZ Mm (wD lg b28 s (mV (bL D).recs[k]).1 (Ik h44)) (SM [3]) λvR=>?_
 refine au (ag (ac J16 (af (AD ?_))));refine PS ?_;refine au ?_
 exact aJ ((k+1,(jm s (mV (bL D).recs[k]).1)):(Nat)×(MS δ)) ⟨by omega,hrs.trans (Gm hkl h44)⟩ (by show(bL D).recs.length- (k+1)< (bL D).recs.length-k;omega)
  SB
  (λ_ s=>az [1,1,0,0] rfl (bi (p:=λus:List Value=>[own vr (bL D).recs.length us 93 1,ej us (bL D).recs 5]) us (ak [2,2,0,1,1] rfl s)))
 refine nx J14 (aa λ_ J22=>CN (aZ (aB (aB (bw (ac J12 (sr λ_ J23=>P3 ?_)))))));refine nx J23 (ai (WK [0,0,1] (ii rfl rfl rfl ?_)));exact .inr ⟨he, .inr ⟨s,b28,lg,by rw[hrs,cE (by omega)];rfl,rfl,rfl⟩⟩
def j6(k:Nat)(m:MsgT):List UInt8:=iP ((k / 5:Nat):Int) ((k%5:Nat):Int) (dm m)
def cF(W:List (List MsgT)):List (List (List UInt8)):=(List.range 25).map λk=>(W.getD k []).map (j6 k)
theorem oK(W:List (List MsgT)):(cF W).length=25:=by simp[cF]
theorem mE(W:List (List MsgT)){k:Nat}(h:k<25):(cF W).getD k []=(W.getD k []).map (j6 k):=by simp[cF,h,List.getD_eq_getElem?_getD]
theorem uu(W:List (List MsgT)){k:Nat}(h:k<25)(hW:W.length=25)(l:List MsgT):(cF W).set k (l.map (j6 k))=cF (W.set k l):=by
 refine List.ext_getElem? λj=>?_
 by_cases hj:j=k
 · subst hj
   rw[List.getElem?_set_self (by rw[oK];exact h)];simp[cF,h,List.getD_eq_getElem?_getD,List.getElem?_set_self (show j<W.length by omega)]
 · rw[List.getElem?_set_ne (λe=>hj e.symm)]
   unfold cF;rw[List.getElem?_map,List.getElem?_map]
   by_cases hk:j<25
   · simp[hk,List.getD_eq_getElem?_getD,List.getElem?_set_ne (λe=>hj e.symm)]
   · simp[hk]
theorem zH{f t:Int}(hf:eX f=true)(ht:eX t=true)(m:MsgT):j6 (bq f t) m=iP f t (dm m):=by
 have h1:0≤f∧f<5:=of_decide_eq_true hf;have h2:0≤t∧t<5:=of_decide_eq_true ht;unfold j6 bq;rw[show(((f.toNat*5+t.toNat) / 5:Nat):Int)=f by omega,show(((f.toNat*5+t.toNat)%5:Nat):Int)=t by omega]
theorem ra{f t:Int}(h:dA f t=true):eX f=true∧eX t=true:=by
 unfold dA at h;rw[av,av]at h;exact h.1
theorem FT{W:List (List MsgT)}(hW:W.length=25){f:Nat}(s:SaidT):nX (cF W) ((f:Nat):Int) s.to' (iP ((f:Nat):Int) s.to' (dm s.msg))=cF (ry W f s):=by
 unfold nX ry;cases hv:dA ((f:Nat):Int) s.to'
 · rfl
 · obtain⟨h1,h2⟩:=hJ hv
   obtain⟨h3,h4⟩:=ra hv;rw[if_pos rfl,if_pos rfl,mE W h1,←zH h3 h4,←uu W h1 hW];unfold yO;rw[bK];split
   · rw[co];rfl
   · rfl
theorem Gr(W:List (List MsgT))(f:Nat)(s:SaidT):(ry W f s).length=W.length:=by unfold ry;split<;>simp
theorem Ex(W:List (List MsgT))(f:Nat)(l:List SaidT):(gn W f l).length=W.length:=by
 induction l generalizing W with
 |nil=>rfl
 |cons s l ih=>exact(ih _).trans (Gr _ _ _)
theorem Ey(W:List (List MsgT))(f:Nat)(l:List SaidT)(s:SaidT):gn W f (l++[s])=ry (gn W f l) f s:=by simp[gn]
theorem ut(k:Nat)(m:MsgT):(j6 k m).length≤1000000:=by
 unfold j6;rw[n4];have:=rO m;omega
theorem nU(c:Nat)(w:Int):
 DT 56 #[(.pointer (some ⟨c,0,none⟩)),(.int .i64 (w))] T0 [] (RI (.bool (eX w)) []):=by
 refine BD 15 Tryz.func56 rfl rfl rfl λw0 F hF=>sr λ_ J1=>PS ?_
 refine nx J1 (sr λ_ J2=>PS ?_);refine tp (iS rfl LH rfl rfl) ?_;refine P3 ?_;refine am ?_ ?_<;>intro h9
 iterate 6 refine PS ?_
 refine nx J2 (ai (WK [] (aq rfl rfl ?_)));exact⟨congrArg Value.bool (by unfold eX;simp only[decide_eq_decide];omega),rfl⟩;refine P2 ?_;refine UF ?_;refine UF ?_;refine P2 ?_;refine nx J2 (ai (WK [] (aq rfl rfl ?_)));exact⟨congrArg Value.bool (by unfold eX;symm;exact decide_eq_false (by omega)),rfl⟩
theorem eb(c i:Nat)(hi:i<5):DT 56 #[.pointer (some ⟨c,0,none⟩), .int .i64 ((i:Nat):Int)] T0 [] (RI (.bool true) []):=by
 have:=nU c ((i:Nat):Int)
 rwa [show eX ((i:Nat):Int)=true from decide_eq_true ⟨by omega,by omega⟩]at this
theorem oO(c n i:Nat)(D M P:Nat→Value)(hi:i<5)(hM:M i= .pointer none):
 DT 16 #[(.pointer (some ⟨c,0,none⟩)),(.int .i64 (((i:Nat):Int)))] T0 [aj c (eA n D M P) 104] (RI (.bool false) [aj c (eA n D M P) 104]):=by
 refine BD 27 Tryz.func16 rfl rfl rfl λw0 F hF=>sr λ_ J1=>PS ?_
 refine nx J1 (sr λ_ J2=>P2 ?_);refine CE ot (eb c i hi) ID ?_;refine P4 ?_;refine FA 6 ix qh ?_;refine IX (6+i) Da nM ?_;refine LT 0 yd (.pointer none) ?_ (hc:=by exact(vT n D M P hi).trans (congrArg some hM));refine tq (iz rfl yd rfl rfl) ?_;refine P2 ?_
 iterate 8 refine UF ?_
 refine P2 ?_;exact nx J2 (ai (WK [0] (aq rfl rfl ⟨rfl,rfl⟩)))
theorem Kq (c i : Nat) : wo Tryz.prog 110 (Kp c i) "Send" 203 := fun w => by kernel_rfl
theorem oN(c n i:Nat)(D M P:Nat→Value)(hi:i<5)(d r:Nat)(e:DS)(hD:D i= .pointer (some ⟨d,0,none⟩))(hM:M i= .pointer (some ⟨r,0,none⟩)):
 DT 16 #[(.pointer (some ⟨c,0,none⟩)),(.int .i64 (((i:Nat):Int)))] T0 [aj c (eA n D M P) 104,dk d e] (RI (.bool (!e.dn)) [aj c (eA n D M P) 104,dk d e]):=by
 refine BD 27 Tryz.func16 rfl rfl rfl λw0 F hF=>sr λ_ J1=>PS ?_
 refine nx J1 (sr λ_ J2=>P2 ?_);refine CE ot (eb c i hi) ID ?_;refine P4 ?_;refine FA 6 ix qh ?_;refine IX (6+i) Da nM ?_;refine LT 0 yd (.pointer (some ⟨r,0,none⟩)) ?_ (hc:=by exact(vT n D M P hi).trans (congrArg some hM));refine tq (iS rfl yd rfl rfl) ?_
 iterate 5 refine PS ?_
 refine FA 1 ix sY ?_;refine IX (1+i) Bo oU ?_;refine LT 0 wj (.pointer (some ⟨d,0,none⟩)) ?_ (hc:=by exact(C1 n D M P hi).trans (congrArg some hD));refine CE KE (D3 d e) (SM [1]) ?_;refine tq (ln rfl rfl rfl) ?_;refine P2 ?_;exact nx J2 (ai (WK [1,0] (aq rfl rfl ⟨rfl,rfl⟩)))
theorem B1(c n i:Nat)(D M P:Nat→Value)(hi:i<5)(d:Nat)(e:DS)(hD:D i= .pointer (some ⟨d,0,none⟩))(W:List (List MsgT))(hW:W.length=25)(to':Int)(m:MsgT):
 DT 203 #[(.agg #[(.pointer (some ⟨c,0,none⟩)),(.int .i64 (((i:Nat):Int)))]),(.int .i64 (to')),(.agg (ints m.flat).toArray)] T0 [aj c (eA n D M P) 104,dk d e,dP 156 208 5 n (cF W)] (dw (λ_ H=>H=[aj c (eA n D M P) 104,dk d e,dP 156 208 5 n (cF (if e.dn then W else ry W i ⟨to',m⟩))])):=by
 refine BD 27 Tryz.func203 rfl rfl rfl λw0 F hF=>sr λ_ J1=>XB λb3=>?_
 refine XY (ints m.flat) λb5=>?_
 refine nx J1 (aa λ_ J2=>D2 1 2 dC ?_);refine FD 0 0 Dc Kc ?_;refine LX 1 LH (.pointer (some ⟨c,0,none⟩)) ?_ (hc:=by exact rfl);refine FD 2 1 Dc aO ?_;refine LX 3 Y3 (.int .i64 (((i:Nat):Int))) ?_ (hc:=by exact rfl);refine PD 4 ?_;refine FD 5 1 ix sY ?_;refine IY 6 (1+i) Bo oU ?_;refine LX 7 wj (.pointer (some ⟨d,0,none⟩)) ?_ (hc:=by exact(C1 n D M P hi).trans (congrArg some hD));refine AL 8 ?_;refine CE KE (D3 d e) (SM [3]) ?_;refine aX ?_ ?_<;>intro h14;refine EN (PD 9 ?_);refine DN (ac J2 (CN (aQ (WK [3,0,2] (bu rfl ?_)))));exact by rw[show e.dn=true by assumption];rfl
 refine EN (PD 9 ?_);refine DN (ac J2 (CY (qL (λw=>Frm F w∧w.heap[b3]?=some (.cells ([(.pointer (some ⟨c,0,none⟩)),(.int .i64 (((i:Nat):Int)))]).toArray 110 (0,0))∧w.heap[c]?=some (.cells (eA n D M P).toArray 104 (0,0))∧w.heap[b5]?=some (.cells (ints m.flat).toArray 178 (0,0))∧True) dC rfl (λ_ s=>⟨e5 s,s.block 2 (lb rfl) rfl,s.block 3 (lb rfl) rfl,s.block 1 (lb rfl) rfl,trivial⟩) (FD 0 0 Dc Kc ?_))));refine LX 1 LH (.pointer (some ⟨c,0,none⟩)) ?_ (hc:=by exact rfl);refine PD 2 ?_;refine FD 3 0 ix yv ?_;refine LX 4 Hr (.pointer (some ⟨n,0,none⟩)) ?_ (hc:=by exact zh n D M P);refine FD 5 1 Dc aO ?_;refine LX 6 Y3 (.int .i64 (((i:Nat):Int))) ?_ (hc:=by exact rfl);refine PD 7 ?_;refine LY 8 a8 bX aG ?_;refine AL 9 ?_;refine CR KI (AZ m) ID λvR HR hR=>?_
 obtain⟨_,rfl,rfl⟩:=hR;revert vR;intro ue;refine EN (AL 10 ?_);refine CQ KJ (wN n (cF W) ((i:Nat):Int) to' ue (dm m) (rO m) (oK W)) (SM [5]) (λg d s=>Jf (tW 0 rfl rfl g d s)) λvR HR hR=>?_
 obtain⟨_,rfl⟩:=hR;rw[FT hW ⟨to',m⟩];refine EN (DN (WK [5,2,0] (bu rfl ?_)));exact by rw[show e.dn=false by assumption];rfl
def E8(c n d i:Nat)(D M P:Nat→Value)(W:List (List MsgT))(e:LD)(l:List SaidT):HP:=bH [aj c (eA n D M P) 104,dk d e.D,dP 156 208 5 n (cF (gn W i l))]
section
variable {c n d i:Nat} {D M P:Nat→Value} {W:List (List MsgT)} {e:LD} {l:List SaidT} {H:List HP} {h:Hl}
theorem sC(s:bH (E8 c n d i D M P W e l::H) h):bH (aj c (eA n D M P) 104::dk d e.D::dP 156 208 5 n (cF (gn W i l))::H) h:=(bY [_,_,_] H).2 s
theorem sB(s:bH (aj c (eA n D M P) 104::dk d e.D::dP 156 208 5 n (cF (gn W i l))::H) h):bH (E8 c n d i D M P W e l::H) h:=(bY [_,_,_] H).1 s
end
def vM(c n d i:Nat)(D M P:Nat→Value)(hi:i<5)(hD:D i= .pointer (some ⟨d,0,none⟩))(W:List (List MsgT))(hW:W.length=25):Env LD where
 toDk:=KD
 T:=110
 ov:=Kp c i
 sf:=203
 E:=E8 c n d i D M P W
 lg g e:=DR g d ((e.cnt:Nat):Int) e.used
 me:=Kq c i
 nm:=KK
 say e l to' m _:=by
  refine Leg.Does.conv (B1 c n i D M P hi d e.D hD (gn W i l) (by rw[Ex];exact hW) to' m) (λh s=>sC s) λx H F w hp hs=>?_
  cases x with
  |returned v=>
   obtain rfl:=hp;refine⟨_,hs.mono (λh s=>sB (l:=if KD.dn e then l else l++[SaidT.mk to' m]) ?_),rfl⟩
   have q:gn W i (if KD.dn e then l else l++[SaidT.mk to' m])=if e.D.dn then gn W i l else ry (gn W i l) i ⟨to',m⟩:=by
    show gn W i (if e.D.dn then l else _)=_;split
    · rfl
    · exact Ey ..
   rw[q];exact s
  |panicked c=>exact hp.elim
  |outgrown=>exact hp.elim
 put g x bs e l hok hlen:=by
  refine Leg.Does.withinR (A:=[DR g d ((e.cnt:Nat):Int) e.used,dk d e.D]) (B:=[aj c (eA n D M P) 104,dP 156 208 5 n (cF (gn W i l))]) (zJ g d e.cnt e.used x bs e.D hok.dk.ok (by have:=hok.dk.ws;omega) hok.used (by have:=hok.cnt;have:=hok.used;omega)) (λF g h dj=>LO h dj) (λh s=>?_) λv H hp=>?_
  · exact az [3,1,0,0] rfl (sC (az [1,0] rfl s))
  · obtain⟨hv,rfl⟩:=hp
    exact⟨[DR g d (((e.put bs).1.cnt:Nat):Int) (e.put bs).1.used,E8 c n d i D M P W (e.put bs).1 l],λh s=>az [1,0] rfl (sB (e:=(e.put bs).1) (l:=l) (az [2,1,1,0] rfl s)),hv,rfl⟩
abbrev jb(v:Value)(l:List ReplyT):HP:=own v l.length (ints (List.flatMap ReplyT.flat l)) 37 3
abbrev EI(s:MS LD)(d r:Nat)(a:Adr):List HP:=[aj r (RepT.cells (s.rep a)) 123,DR a.lg d ((s.e.cnt:Nat):Int) s.e.used,jb a.rs s.replies,Df a.vo s.vote]
abbrev fK(s:MS LD)(d r:Nat):HP:=pack (EI s d r)
def pQ(x:Slot)(d r:Nat):HP:=match x.run with
 |some s=>fK s d r
 |none=>λ_=>True
abbrev jV(x:Slot)(d r:Nat)(p:Value):List HP:=[dk d x.dk,jb p x.past,pQ x d r]
def ka(x:Slot)(d r:Nat)(p:Value):HP:=bH (jV x d r p)
structure CX where
 n:Nat
 d:Nat→Nat
 r:Nat→Nat
 p:Nat→Value
abbrev lc(g:CX):Nat→Value:=λi=> .pointer (some ⟨g.d i,0,none⟩)
def wL(x:Slot)(r:Nat):Value:=match x.run with
 |some _=> .pointer (some ⟨r,0,none⟩)
 |none=> .pointer none
abbrev jd(a:CL)(r:Nat→Nat):Nat→Value:=λi=>wL (a.at' i) (r i)
abbrev p5(c:Nat)(a:CL)(g:CX):List HP:=[aj c (eA g.n (lc g) (jd a g.r) g.p) 104,dP 156 208 5 g.n (cF a.W),bH ((List.range 5).map λi=>ka (a.at' i) (g.d i) (g.r i) (g.p i))]
def fx(c:Nat)(a:CL):HP:=pack (p5 c a)
section
variable {c n d i r:Nat} {D M P:Nat→Value} {W:List (List MsgT)} {s:MS LD} {H:List HP} {h:Hl} {hi:i<5} {hD:D i= .pointer (some ⟨d,0,none⟩)} {hW:W.length=25}
theorem Ck(ho:s.o=[])(q:bH (aj c (eA n D M P) 104::dk d s.e.D::dP 156 208 5 n (cF W)::fK s d r::H) h):bH (cD (vM c n d i D M P hi hD W hW) r s::H) h:=by
 obtain⟨a,q⟩:=ff (az [3,0,0,0] rfl q);have q2:=az [4,4,4,0,0,0,0] rfl q;have q3:=sB (i:=i) (W:=W) (e:=s.e) (l:=[]) q2;refine bi (p:=λa:Adr=>[aj r (RepT.cells (s.rep a)) 123,DR a.lg d ((s.e.cnt:Nat):Int) s.e.used,jb a.rs s.replies,Df a.vo s.vote,E8 c n d i D M P W s.e s.o]) a ?_;rw[ho];exact az [1,1,1,1,0] rfl q3
theorem yX(q:bH (cD (vM c n d i D M P hi hD W hW) r s::H) h):bH (aj c (eA n D M P) 104::dk d s.e.D::dP 156 208 5 n (cF (gn W i s.o))::fK s.hush d r::H) h:=by
 obtain⟨a,q⟩:=ff q;have q1:bH ([aj r (RepT.cells (s.rep a)) 123,DR a.lg d ((s.e.cnt:Nat):Int) s.e.used,jb a.rs s.replies,Df a.vo s.vote,E8 c n d i D M P W s.e s.o]++H) h:=q;have q2:=sC (az [4,0,0,0,0] rfl q1);have q3:=bi (p:=EI s.hush d r) a (az [3,3,3,3,0,0,0] rfl q2);exact az [1,1,1,0] rfl q3
end
theorem CK(c n i:Nat)(D M P:Nat→Value)(hi:i<5)(d r:Nat)(s:MS LD)(hD:D i= .pointer (some ⟨d,0,none⟩))(hM:M i= .pointer (some ⟨r,0,none⟩))(W:List (List MsgT))(hW:W.length=25)(ho:s.o=[])(hs:OkR KD s)(o:OpT)(k:Int)(hk:0≤k∧k≤4)(hch:OkCh o.change)(hrs:s.replies.length≤1000000):
 DT 17 #[(.pointer (some ⟨c,0,none⟩)),(.agg (ints (OpT.mk k ((i:Nat):Int) o.to' o.key o.n o.change o.mask o.torn o.cut).flat).toArray)] T0 [aj c (eA n D M P) 104,dk d s.e.D,dP 156 208 5 n (cF W),fK s d r] (dw (λv H=>(s.e.D.dn=true∧v= .int .i64 4∧H=[aj c (eA n D M P) 104,dk d s.e.D,dP 156 208 5 n (cF (W)),fK s d r])∨(s.e.D.dn=false∧v= .int .i64 (bP KD s ((OpT.mk k ((i:Nat):Int) o.to' o.key o.n o.change o.mask o.torn o.cut))).2∧H=[aj c (eA n D M P) 104,dk d (bP KD s ((OpT.mk k ((i:Nat):Int) o.to' o.key o.n o.change o.mask o.torn o.cut))).1.hush.e.D,dP 156 208 5 n (cF (gn W i (bP KD s ((OpT.mk k ((i:Nat):Int) o.to' o.key o.n o.change o.mask o.torn o.cut))).1.o)),fK (bP KD s ((OpT.mk k ((i:Nat):Int) o.to' o.key o.n o.change o.mask o.torn o.cut))).1.hush d r]))):=by
 refine BD 114 Tryz.func17 rfl rfl rfl λw0 F hF=>sr λ_ J1=>XY (ints (OpT.mk k ((i:Nat):Int) o.to' o.key o.n o.change o.mask o.torn o.cut).flat) λb3=>?_
 refine PS ?_;refine nx J1 (aa λ_ J2=>sr λ_ J3=>PS ?_);refine FA 1 eZ aO ?_;refine LT 0 Y3 (.int .i64 (((i:Nat):Int))) ?_ (hc:=by exact bt _ rfl);refine CE ot (eb c i hi) ID ?_;refine PS ?_;refine nx J3 (CN (qx J2 (aa λ_ J4=>sr λ_ J5=>FA 0 eZ aO ?_)));refine LT 0 Y3 (.int .i64 (k)) ?_ (hc:=by exact cq _ rfl);refine nx J5 (ap (aa λ_ J6=>eJ (α:=Unit) (λ_u=>True) (λ_u=>[(0,(.pointer (some ⟨c,0,none⟩))),(3,(.pointer (some ⟨b3,0,none⟩))),(4,(.int .i64 0)),(11,(.int .i64 (k))),(12,(.bool true))]) (λ_u=>[aj b3 (ints (OpT.mk k ((i:Nat):Int) o.to' o.key o.n o.change o.mask o.torn o.cut).flat) 30,aj c (eA n D M P) 104,dk d s.e.D,dP 156 208 5 n (cF W),fK s d r]) (λ_u hinv=>?_) (λtl6=>?_)));have _:=hinv;refine ac J6 (CY (aa λ_ J7=>sr λ_ J8=>PS ?_));refine FA 1 eZ aO ?_;refine LT 0 Y3 (.int .i64 (((i:Nat):Int))) ?_ (hc:=by exact bt _ rfl);refine CE wH (oN c n i D M P hi d r s.e.D hD hM) (SM [1,1]) ?_;refine aX ?_ ?_<;>intro h21;refine PS ?_;refine nx J8 (CN (qx J7 (aa λ_ J9=>D2 2 0 dC ?_)));refine PD 0 ?_;refine FD 1 1 eZ aO ?_;refine LX 2 Y3 (.int .i64 (((i:Nat):Int))) ?_ (hc:=by exact bt _ rfl);refine PD 3 ?_;refine FD 4 6 ix qh ?_;refine IY 5 (6+i) Da nM ?_;refine LX 6 yd (.pointer (some ⟨r,0,none⟩)) ?_ (hc:=by exact(vT n D M P hi).trans (congrArg some hM));refine PD 7 ?_;refine FD 8 1 eZ aO ?_
 refine LX 9 Y3 (.int .i64 (((i:Nat):Int))) ?_ (hc:=by exact bt _ rfl);refine ta 10 rfl (jH (cells:=#[(.pointer (some ⟨c,0,none⟩)),(.int .i64 (((i:Nat):Int)))]) rfl rfl (by as_aux_lemma=>kernel_rfl)) ?_;refine ta 11 rfl (oz rfl Dc rfl rfl) ?_;refine LY 12 eZ yw Bx ?_;refine AL 13 ?_;refine cp (H':=[cD (vM c n d i D M P hi hD W hW) r s,aj b3 (ints (OpT.mk k ((i:Nat):Int) o.to' o.key o.n o.change o.mask o.torn o.cut).flat) 30]) (λ_ q=>Ck ho (az [0,0,1,1] rfl q)) (CE Mw (@zg _ (vM c n d i D M P hi hD W hW) r s ((OpT.mk k ((i:Nat):Int) o.to' o.key o.n o.change o.mask o.torn o.cut)) hs hch hrs) ID ?_);change TL _ _ _ _ _ _ _ _ _ [cD (vM c n d i D M P hi hD W hW) r ((bP KD s ((OpT.mk k ((i:Nat):Int) o.to' o.key o.n o.change o.mask o.torn o.cut))).1),aj b3 (ints (OpT.mk k ((i:Nat):Int) o.to' o.key o.n o.change o.mask o.torn o.cut).flat) 30];refine cp (H':=[aj c (eA n D M P) 104,dk d (((bP KD s ((OpT.mk k ((i:Nat):Int) o.to' o.key o.n o.change o.mask o.torn o.cut))).1).e.D),dP 156 208 5 n (cF (gn W i ((bP KD s ((OpT.mk k ((i:Nat):Int) o.to' o.key o.n o.change o.mask o.torn o.cut))).1).o)),fK (((bP KD s ((OpT.mk k ((i:Nat):Int) o.to' o.key o.n o.change o.mask o.torn o.cut))).1).hush) d r,aj b3 (ints (OpT.mk k ((i:Nat):Int) o.to' o.key o.n o.change o.mask o.torn o.cut).flat) 30]) (λ_ q=>yX (s:=(bP KD s ((OpT.mk k ((i:Nat):Int) o.to' o.key o.n o.change o.mask o.torn o.cut))).1) q) (EN (PD 14 ?_))
 refine DN (ac J9 (ai (aH (ae (WK [0,0,0,0] (aq rfl rfl ?_))))));exact .inr ⟨(by simpa using h21),rfl,rfl⟩;refine PS ?_;refine nx J8 (CY (sr λ_ J10=>PS ?_));refine nx J10 (ai (ae (aH (ae (WK [0,0,1,1] (aq rfl rfl ?_))))));exact .inl ⟨(by simpa using h21),rfl,rfl⟩;refine sr λ_ J11=>P2 ?_
 refine am ?_ ?_<;>intro h12;refine nx J11 (CY (aQ ?_))
 exact aE
  SB
  (λ_ s=>ak [0,0,0,0,0] rfl s)
  (tl6 (():Unit) trivial)
 refine nx J11 (CN (sr λ_ J12=>P2 ?_));refine am ?_ ?_<;>intro h12;refine nx J12 (CY (aQ ?_))
 exact aE
  SB
  (λ_ s=>ak [0,0,0,0,0] rfl s)
  (tl6 (():Unit) trivial)
 refine nx J12 (CN (sr λ_ J13=>P2 ?_));refine am ?_ ?_<;>intro h12;refine nx J13 (CY (aQ ?_))
 exact aE
  SB
  (λ_ s=>ak [0,0,0,0,0] rfl s)
  (tl6 (():Unit) trivial)
 refine nx J13 (CN (sr λ_ J14=>P2 ?_));refine am ?_ ?_<;>intro h12;refine nx J14 (CY (aQ ?_))
 exact aE
  SB
  (λ_ s=>ak [0,0,0,0,0] rfl s)
  (tl6 (():Unit) trivial)
 refine nx J14 (CN (af (PS ?_)));refine am ?_ ?_<;>intro h17;refine PS ?_;refine au ?_
 exact aE
  SB
  (λ_ s=>ak [0,0,0,0,0] rfl s)
  (tl6 (():Unit) trivial)
 · exact absurd h17 (by omega)
theorem A7(c n i:Nat)(D M P:Nat→Value)(hi:i<5)(hM:M i= .pointer none)(o:OpT)(k:Int)(hk:0≤k∧k≤4):
 DT 17 #[(.pointer (some ⟨c,0,none⟩)),(.agg (ints (OpT.mk k ((i:Nat):Int) o.to' o.key o.n o.change o.mask o.torn o.cut).flat).toArray)] T0 [aj c (eA n D M P) 104] (RI (.int .i64 4) [aj c (eA n D M P) 104]):=by
 refine BD 114 Tryz.func17 rfl rfl rfl λw0 F hF=>sr λ_ J1=>XY (ints (OpT.mk k ((i:Nat):Int) o.to' o.key o.n o.change o.mask o.torn o.cut).flat) λb3=>?_
 refine PS ?_;refine nx J1 (aa λ_ J2=>sr λ_ J3=>PS ?_);refine FA 1 eZ aO ?_;refine LT 0 Y3 (.int .i64 (((i:Nat):Int))) ?_ (hc:=by exact bt _ rfl);refine CE ot (eb c i hi) ID ?_;refine PS ?_;refine nx J3 (CN (qx J2 (aa λ_ J4=>sr λ_ J5=>FA 0 eZ aO ?_)));refine LT 0 Y3 (.int .i64 (k)) ?_ (hc:=by exact cq _ rfl);refine nx J5 (ap (aa λ_ J6=>eJ (α:=Unit) (λ_u=>True) (λ_u=>[(0,(.pointer (some ⟨c,0,none⟩))),(3,(.pointer (some ⟨b3,0,none⟩))),(4,(.int .i64 0)),(11,(.int .i64 (k))),(12,(.bool true))]) (λ_u=>[aj b3 (ints (OpT.mk k ((i:Nat):Int) o.to' o.key o.n o.change o.mask o.torn o.cut).flat) 30,aj c (eA n D M P) 104]) (λ_u hinv=>?_) (λtl6=>?_)));have _:=hinv;refine ac J6 (CY (aa λ_ J7=>sr λ_ J8=>PS ?_));refine FA 1 eZ aO ?_;refine LT 0 Y3 (.int .i64 (((i:Nat):Int))) ?_ (hc:=by exact bt _ rfl);refine CE wH (oO c n i D M P hi hM) (SM [1]) ?_;refine PS ?_;refine nx J8 (CY (sr λ_ J9=>PS ?_));exact nx J9 (ai (ae (aH (ae (WK [0] (aq rfl rfl ⟨rfl,rfl⟩))))));refine sr λ_ J10=>P2 ?_
 refine am ?_ ?_<;>intro h12;refine nx J10 (CY (aQ ?_))
 exact aE
  SB
  (λ_ s=>ak [0,0] rfl s)
  (tl6 (():Unit) trivial)
 refine nx J10 (CN (sr λ_ J11=>P2 ?_));refine am ?_ ?_<;>intro h12;refine nx J11 (CY (aQ ?_))
 exact aE
  SB
  (λ_ s=>ak [0,0] rfl s)
  (tl6 (():Unit) trivial)
 refine nx J11 (CN (sr λ_ J12=>P2 ?_));refine am ?_ ?_<;>intro h12;refine nx J12 (CY (aQ ?_))
 exact aE
  SB
  (λ_ s=>ak [0,0] rfl s)
  (tl6 (():Unit) trivial)
 refine nx J12 (CN (sr λ_ J13=>P2 ?_));refine am ?_ ?_<;>intro h12;refine nx J13 (CY (aQ ?_))
 exact aE
  SB
  (λ_ s=>ak [0,0] rfl s)
  (tl6 (():Unit) trivial)
 refine nx J13 (CN (af (PS ?_)));refine am ?_ ?_<;>intro h17;refine PS ?_;refine au ?_
 exact aE
  SB
  (λ_ s=>ak [0,0] rfl s)
  (tl6 (():Unit) trivial)
 · exact absurd h17 (by omega)
theorem CD(c n i:Nat)(D M P:Nat→Value)(hi:i<5)(d r:Nat)(s:MS LD)(hD:D i= .pointer (some ⟨d,0,none⟩))(hM:M i= .pointer (some ⟨r,0,none⟩))(W:List (List MsgT))(hW:W.length=25)(ho:s.o=[])(hs:OkR KD s)(o:OpT):
 DT 17 #[(.pointer (some ⟨c,0,none⟩)),(.agg (ints (OpT.mk 8 ((i:Nat):Int) o.to' o.key o.n o.change o.mask o.torn o.cut).flat).toArray)] T0 [aj c (eA n D M P) 104,dk d s.e.D,dP 156 208 5 n (cF W),fK s d r] (dw (λv H=>(s.e.D.dn=true∧v= .int .i64 4∧H=[aj c (eA n D M P) 104,dk d s.e.D,dP 156 208 5 n (cF (W)),fK s d r])∨(s.e.D.dn=false∧v= .int .i64 0∧H=[aj c (eA n D M P) 104,dk d (hO KD s).hush.e.D,dP 156 208 5 n (cF (gn W i (hO KD s).o)),fK (hO KD s).hush d r]))):=by
 refine BD 114 Tryz.func17 rfl rfl rfl λw0 F hF=>sr λ_ J1=>XY (ints (OpT.mk 8 ((i:Nat):Int) o.to' o.key o.n o.change o.mask o.torn o.cut).flat) λb3=>?_
 refine PS ?_;refine nx J1 (aa λ_ J2=>sr λ_ J3=>PS ?_);refine FA 1 eZ aO ?_;refine LT 0 Y3 (.int .i64 (((i:Nat):Int))) ?_ (hc:=by exact bt _ rfl);refine CE ot (eb c i hi) ID ?_;refine PS ?_;refine nx J3 (CN (qx J2 (aa λ_ J4=>sr λ_ J5=>FA 0 eZ aO ?_)));refine LT 0 Y3 (.int .i64 8) ?_ (hc:=by exact cq _ rfl);refine nx J5 (ap (aa λ_ J6=>sr λ_ J7=>P2 ?_));refine nx J7 (CN (sr λ_ J8=>P2 ?_));refine nx J8 (CN (sr λ_ J9=>P2 ?_));refine nx J9 (CN (sr λ_ J10=>P2 ?_));refine nx J10 (CN (af (P2 ?_)));refine nx J6 (CN (aa λ_ J11=>sr λ_ J12=>P2 ?_));refine nx J12 (CN (sr λ_ J13=>P2 ?_));refine nx J13 (CN (af (P2 ?_)));refine nx J11 (CN (sr λ_ J14=>P2 ?_));refine nx J14 (CY (aa λ_ J15=>sr λ_ J16=>PS ?_));refine FA 1 eZ aO ?_;refine LT 0 Y3 (.int .i64 (((i:Nat):Int))) ?_ (hc:=by exact bt _ rfl);refine CE wH (oN c n i D M P hi d r s.e.D hD hM) (SM [1,1]) ?_;refine aX ?_ ?_<;>intro h49;refine PS ?_;refine nx J16 (CN (qx J15 (D2 2 0 dC ?_)));refine PD 0 ?_;refine FD 1 1 eZ aO ?_;refine LX 2 Y3 (.int .i64 (((i:Nat):Int))) ?_ (hc:=by exact bt _ rfl);refine PD 3 ?_;refine FD 4 6 ix qh ?_;refine IY 5 (6+i) Da nM ?_;refine LX 6 yd (.pointer (some ⟨r,0,none⟩)) ?_ (hc:=by exact(vT n D M P hi).trans (congrArg some hM));refine PD 7 ?_;refine FD 8 1 eZ aO ?_;refine LX 9 Y3 (.int .i64 (((i:Nat):Int))) ?_ (hc:=by exact bt _ rfl)
 refine ta 10 rfl (jH (cells:=#[(.pointer (some ⟨c,0,none⟩)),(.int .i64 (((i:Nat):Int)))]) rfl rfl (by as_aux_lemma=>kernel_rfl)) ?_;refine ta 11 rfl (oz rfl Dc rfl rfl) ?_;refine AL 12 ?_;refine cp (H':=[cD (vM c n d i D M P hi hD W hW) r s,aj b3 (ints (OpT.mk 8 ((i:Nat):Int) o.to' o.key o.n o.change o.mask o.torn o.cut).flat) 30]) (λ_ q=>Ck ho (az [0,0,1,1] rfl q)) (CZ Mu (@BN _ (vM c n d i D M P hi hD W hW) r s hs) ID λvR=>?_);change TL _ _ _ _ _ _ _ _ _ [cD (vM c n d i D M P hi hD W hW) r (hO KD s),aj b3 (ints (OpT.mk 8 ((i:Nat):Int) o.to' o.key o.n o.change o.mask o.torn o.cut).flat) 30];refine cp (H':=[aj c (eA n D M P) 104,dk d ((hO KD s).e.D),dP 156 208 5 n (cF (gn W i (hO KD s).o)),fK ((hO KD s).hush) d r,aj b3 (ints (OpT.mk 8 ((i:Nat):Int) o.to' o.key o.n o.change o.mask o.torn o.cut).flat) 30]) (λ_ q=>yX (s:=(hO KD s)) q) (EN (DN (ag (ac J4 (sr λ_ J17=>PS ?_)))));refine nx J17 (ai (WK [0,0,0,0] (aq rfl rfl ?_)));exact .inr ⟨(by simpa using h49),rfl,rfl⟩;refine PS ?_;refine nx J16 (CY (sr λ_ J18=>PS ?_));refine nx J18 (ai (ae (aH (ae (WK [0,0,1,1] (aq rfl rfl ?_))))));exact .inl ⟨(by simpa using h49),rfl,rfl⟩
theorem A5(c n i:Nat)(D M P:Nat→Value)(hi:i<5)(hM:M i= .pointer none)(o:OpT):
 DT 17 #[(.pointer (some ⟨c,0,none⟩)),(.agg (ints (OpT.mk 8 ((i:Nat):Int) o.to' o.key o.n o.change o.mask o.torn o.cut).flat).toArray)] T0 [aj c (eA n D M P) 104] (RI (.int .i64 4) [aj c (eA n D M P) 104]):=by
 refine BD 114 Tryz.func17 rfl rfl rfl λw0 F hF=>sr λ_ J1=>XY (ints (OpT.mk 8 ((i:Nat):Int) o.to' o.key o.n o.change o.mask o.torn o.cut).flat) λb3=>?_
 refine PS ?_;refine nx J1 (aa λ_ J2=>sr λ_ J3=>PS ?_);refine FA 1 eZ aO ?_;refine LT 0 Y3 (.int .i64 (((i:Nat):Int))) ?_ (hc:=by exact bt _ rfl);refine CE ot (eb c i hi) ID ?_;refine PS ?_;refine nx J3 (CN (qx J2 (aa λ_ J4=>sr λ_ J5=>FA 0 eZ aO ?_)));refine LT 0 Y3 (.int .i64 8) ?_ (hc:=by exact cq _ rfl);refine nx J5 (ap (aa λ_ J6=>sr λ_ J7=>P2 ?_));refine nx J7 (CN (sr λ_ J8=>P2 ?_));refine nx J8 (CN (sr λ_ J9=>P2 ?_));refine nx J9 (CN (sr λ_ J10=>P2 ?_));refine nx J10 (CN (af (P2 ?_)));refine nx J6 (CN (aa λ_ J11=>sr λ_ J12=>P2 ?_));refine nx J12 (CN (sr λ_ J13=>P2 ?_));refine nx J13 (CN (af (P2 ?_)));refine nx J11 (CN (sr λ_ J14=>P2 ?_));refine nx J14 (CY (aa λ_ J15=>sr λ_ J16=>PS ?_));refine FA 1 eZ aO ?_;refine LT 0 Y3 (.int .i64 (((i:Nat):Int))) ?_ (hc:=by exact bt _ rfl);refine CE wH (oO c n i D M P hi hM) (SM [1]) ?_;refine PS ?_;refine nx J16 (CY (sr λ_ J17=>PS ?_));exact nx J17 (ai (ae (aH (ae (WK [0] (aq rfl rfl ⟨rfl,rfl⟩))))))
theorem xx(s:MS LD)(d r:Nat)(h:s.replies.length≤1000000):DT 19 #[.pointer (some ⟨r,0,none⟩)] T0 [fK s d r] (dw λv H=>∃u,v=u∧H=[fK s d r,jb u s.replies]):=
 Leg.Does.pack (B:=[]) λa=>Leg.Does.withinR (A:=[aj r (RepT.cells (s.rep a)) 123,jb a.rs s.replies]) (B:=[DR a.lg d ((s.e.cnt:Nat):Int) s.e.used,Df a.vo s.vote]) (yI r (s.rep a) s.replies h) (λ_ _ _ _=>trivial) (λ_ q=>az [0,1,0,0] rfl q) λv H hp=>by
  obtain⟨u,rfl,rfl⟩:=hp;exact⟨_,λ_ q=>bi (p:=EI s d r) (H:=[jb v s.replies]) a (az [0,2,0,1,0] rfl q),v,rfl,rfl⟩
theorem vc(c n i:Nat)(D M P:Nat→Value)(hi:i<5)(hM:M i= .pointer none)(pl:List ReplyT)(hpl:pl.length≤100000):
 DT 15 #[(.pointer (some ⟨c,0,none⟩)),(.int .i64 (((i:Nat):Int)))] T0 [aj c (eA n D M P) 104,own (P i) ((pl).length) (ints (List.flatMap ReplyT.flat (pl))) 37 3] (dw (λv H=>∃u,u.oneCell'=true∧v=u∧H=[aj c (eA n D M P) 104,jb (P i) pl,jb u pl])):=by
 refine BD 34 Tryz.func15 rfl rfl rfl λw0 F hF=>sr λ_ J1=>PS ?_
 refine nx J1 (aa λ_ J2=>sr λ_ J3=>P2 ?_);refine CE ot (eb c i hi) ID ?_;refine PS ?_;refine nx J3 (CN (qx J2 (sr λ_ J4=>P3 ?_)));refine FA 11 ix Dn ?_;refine IX (11+i) Iy wB ?_;refine LT 0 qR (P i) ?_ (hc:=by exact Ly n D M P hi);refine LI 37 3 (λ_=>cG (k:=0) (news:=ints (List.flatMap ReplyT.flat (pl))) (nn':=(pl).length) (xs':=ints (List.flatMap ReplyT.flat (pl))) (ab rfl) rfl rfl rfl qR Fq rfl rfl rfl rfl rfl rfl (λ_ s=>M2 2 rfl rfl s) (bG _) (by simp only[maxLen];omega) (by omega) (by simp) (by simp) (λv16 ov16=>PS ?_));refine nx J4 (aa λ_ J5=>sr λ_ J6=>P3 ?_);refine FA 6 ix qh ?_;refine IX (6+i) Da nM ?_;refine LT 1 yd (.pointer none) ?_ (hc:=by exact(vT n D M P hi).trans (congrArg some hM));refine tp (iz rfl yd rfl rfl) ?_;refine nx J6 (CN (qx J5 (sr λ_ J7=>P2 ?_)));exact nx J7 (ai (WK [1,1,0] (aq rfl rfl ⟨_,ov16,rfl,rfl⟩)))
theorem va(c n i:Nat)(D M P:Nat→Value)(hi:i<5)(d:Nat)(r:Nat)(s:MS LD)(hM:M i= .pointer (some ⟨r,0,none⟩))(pl:List ReplyT)(hpl:pl.length≤100000)(hrs:s.replies.length≤100000):
 DT 15 #[(.pointer (some ⟨c,0,none⟩)),(.int .i64 (((i:Nat):Int)))] T0 [aj c (eA n D M P) 104,own (P i) ((pl).length) (ints (List.flatMap ReplyT.flat (pl))) 37 3,fK s d r] (dw (λv H=>∃u,u.oneCell'=true∧v=u∧H=[aj c (eA n D M P) 104,jb (P i) pl,fK s d r,jb u (pl++s.replies)])):=by
 refine BD 34 Tryz.func15 rfl rfl rfl λw0 F hF=>sr λ_ J1=>PS ?_
 refine nx J1 (aa λ_ J2=>sr λ_ J3=>P2 ?_);refine CE ot (eb c i hi) ID ?_;refine PS ?_;refine nx J3 (CN (qx J2 (sr λ_ J4=>P3 ?_)));refine FA 11 ix Dn ?_;refine IX (11+i) Iy wB ?_;refine LT 0 qR (P i) ?_ (hc:=by exact Ly n D M P hi);refine LI 37 3 (λ_=>cG (k:=0) (news:=ints (List.flatMap ReplyT.flat (pl))) (nn':=(pl).length) (xs':=ints (List.flatMap ReplyT.flat (pl))) (ab rfl) rfl rfl rfl qR Fq rfl rfl rfl rfl rfl rfl (λ_ s=>M2 2 rfl rfl s) (bG _) (by simp only[maxLen];omega) (by omega) (by simp) (by simp) (λv16 ov16=>PS ?_));refine nx J4 (aa λ_ J5=>sr λ_ J6=>P3 ?_);refine FA 6 ix qh ?_;refine IX (6+i) Da nM ?_;refine LT 1 yd (.pointer (some ⟨r,0,none⟩)) ?_ (hc:=by exact(vT n D M P hi).trans (congrArg some hM));refine tp (iS rfl yd rfl rfl) ?_;refine nx J6 (CY (af (P4 ?_)));refine FA 6 ix qh ?_;refine IX (6+i) Da nM ?_;refine LT 1 yd (.pointer (some ⟨r,0,none⟩)) ?_ (hc:=by exact(vT n D M P hi).trans (congrArg some hM));refine CR KN (xx s d r (by omega)) (SM [3]) λvR HR hR=>?_
 obtain⟨_,rfl,rfl⟩:=hR;revert vR;intro ur;refine cG (k:=2) (news:=ints (List.flatMap ReplyT.flat (s.replies))) (nn':=(pl++s.replies).length) (xs':=ints (List.flatMap ReplyT.flat (pl++s.replies))) (ab rfl) rfl rfl rfl qR Fq rfl rfl rfl rfl rfl rfl (λ_ s=>M2 1 rfl rfl s) (bG _) (by simp only[maxLen];omega) (by omega) (by rw[ad]) (by simp[ints]) (λv32 ov32=>PS ?_);refine nx J5 (sr λ_ J7=>P2 ?_);exact nx J7 (ai (WK [3,3,0,1] (aq rfl rfl ⟨_,ov32,rfl,rfl⟩)))
theorem CO(c n i:Nat)(D M P:Nat→Value)(hi:i<5)(d:Nat)(hD:D i= .pointer (some ⟨d,0,none⟩))(e:DS)(o:OpT):
 DT 17 #[(.pointer (some ⟨c,0,none⟩)),(.agg (ints (OpT.mk 9 ((i:Nat):Int) o.to' o.key o.n o.change o.mask o.torn o.cut).flat).toArray)] T0 [aj c (eA n D M P) 104,dk d e] (RI (.int .i64 0) [aj c (eA n D M P) 104,dk d (e.arm o.n)]):=by
 refine BD 114 Tryz.func17 rfl rfl rfl λw0 F hF=>sr λ_ J1=>XY (ints (OpT.mk 9 ((i:Nat):Int) o.to' o.key o.n o.change o.mask o.torn o.cut).flat) λb3=>?_
 refine PS ?_;refine nx J1 (aa λ_ J2=>sr λ_ J3=>PS ?_);refine FA 1 eZ aO ?_;refine LT 0 Y3 (.int .i64 (((i:Nat):Int))) ?_ (hc:=by exact bt _ rfl);refine CE ot (eb c i hi) ID ?_;refine PS ?_;refine nx J3 (CN (qx J2 (aa λ_ J4=>sr λ_ J5=>FA 0 eZ aO ?_)));refine LT 0 Y3 (.int .i64 9) ?_ (hc:=by exact cq _ rfl);refine nx J5 (ap (aa λ_ J6=>sr λ_ J7=>P2 ?_));refine nx J7 (CN (sr λ_ J8=>P2 ?_));refine nx J8 (CN (sr λ_ J9=>P2 ?_));refine nx J9 (CN (sr λ_ J10=>P2 ?_));refine nx J10 (CN (af (P2 ?_)));refine nx J6 (CN (aa λ_ J11=>sr λ_ J12=>P2 ?_));refine nx J12 (CN (sr λ_ J13=>P2 ?_));refine nx J13 (CN (af (P2 ?_)));refine nx J11 (CN (sr λ_ J14=>P2 ?_));refine nx J14 (CN (sr λ_ J15=>P2 ?_));refine nx J15 (CY (D2 0 1 dC ?_));refine PD 0 ?_;refine FD 1 1 eZ aO ?_;refine LX 2 Y3 (.int .i64 (((i:Nat):Int))) ?_ (hc:=by exact bt _ rfl);refine PD 3 ?_;refine FD 4 1 ix sY ?_;refine IY 5 (1+i) Bo oU ?_;refine LX 6 wj (.pointer (some ⟨d,0,none⟩)) ?_ (hc:=by exact(C1 n D M P hi).trans (congrArg some hD));refine FD 7 4 eZ aO ?_;refine LX 8 Y3 (.int .i64 (o.n)) ?_ (hc:=by exact wm _ rfl);refine AL 9 ?_;refine CR Mt (JI d e o.n) (SM [2]) λvR HR hR=>?_
 obtain⟨_,rfl⟩:=hR;refine EN (DN (ag (ac J4 (sr λ_ J16=>PS ?_))));exact nx J16 (ai (WK [2,0] (aq rfl rfl ⟨rfl,rfl⟩)))
theorem CI(c n i:Nat)(D M P:Nat→Value)(hi:i<5)(d:Nat)(hD:D i= .pointer (some ⟨d,0,none⟩))(r:Nat)(s:MS LD)(hM:M i= .pointer (some ⟨r,0,none⟩))(pl:List ReplyT)(hpl:pl.length≤100000)(hrs:s.replies.length≤100000)(e:DS)(hok:e.Ok)(o:OpT):
 DT 17 #[(.pointer (some ⟨c,0,none⟩)),(.agg (ints (OpT.mk 10 ((i:Nat):Int) o.to' o.key o.n o.change o.mask o.torn o.cut).flat).toArray)] T0 [aj c (eA n D M P) 104,dk d e,own (P i) ((pl).length) (ints (List.flatMap ReplyT.flat (pl))) 37 3,fK s d r] (dw (λv H=>∃u,u.oneCell'=true∧v= .int .i64 0∧H=[aj c (eA n D (mF M i (.pointer none)) (mF P i u)) 104,dk d (e.crash o.mask o.torn o.cut),jb u (pl++s.replies)])):=by
 refine BD 114 Tryz.func17 rfl rfl rfl λw0 F hF=>sr λ_ J1=>XY (ints (OpT.mk 10 ((i:Nat):Int) o.to' o.key o.n o.change o.mask o.torn o.cut).flat) λb3=>?_
 refine PS ?_;refine nx J1 (aa λ_ J2=>sr λ_ J3=>PS ?_);refine FA 1 eZ aO ?_;refine LT 0 Y3 (.int .i64 (((i:Nat):Int))) ?_ (hc:=by exact bt _ rfl);refine CE ot (eb c i hi) ID ?_;refine PS ?_;refine nx J3 (CN (qx J2 (aa λ_ J4=>sr λ_ J5=>FA 0 eZ aO ?_)));refine LT 0 Y3 (.int .i64 10) ?_ (hc:=by exact cq _ rfl);refine nx J5 (ap (aa λ_ J6=>sr λ_ J7=>P2 ?_));refine nx J7 (CN (sr λ_ J8=>P2 ?_));refine nx J8 (CN (sr λ_ J9=>P2 ?_));refine nx J9 (CN (sr λ_ J10=>P2 ?_));refine nx J10 (CN (af (P2 ?_)));refine nx J6 (CN (aa λ_ J11=>sr λ_ J12=>P2 ?_));refine nx J12 (CN (sr λ_ J13=>P2 ?_));refine nx J13 (CN (af (P2 ?_)));refine nx J11 (CN (sr λ_ J14=>P2 ?_));refine nx J14 (CN (sr λ_ J15=>P2 ?_));refine nx J15 (CN (sr λ_ J16=>P2 ?_));refine nx J16 (CY (aa λ_ J17=>D1 0 dC ?_));refine PD 0 ?_;refine FD 1 1 eZ aO ?_;refine LX 2 Y3 (.int .i64 (((i:Nat):Int))) ?_ (hc:=by exact bt _ rfl);refine PD 3 ?_;refine FD 4 1 eZ aO ?_;refine LX 5 Y3 (.int .i64 (((i:Nat):Int))) ?_ (hc:=by exact bt _ rfl);refine PD 7 ?_;refine FD 8 11 ix Dn ?_;refine AL 6 ?_;refine CR GD (va c n i D M P hi d r s hM pl hpl hrs) (SM [1,2,2]) λvR HR hR=>?_
 obtain⟨_,huc,rfl,rfl⟩:=hR;revert vR;intro uc huc;refine EN (IY 9 (11+i) Iy wB ?_);refine AL 10 ?_;refine bT (i:=0) (ab rfl) rfl rfl rfl rfl huc wB rfl rfl (by rw[qF];omega) (D6 n D M P uc hi) rfl (EN (DN (ac J17 (aa λ_ J18=>D1 4 dC ?_))));refine PD 0 ?_;refine FD 1 1 eZ aO ?_;refine LX 2 Y3 (.int .i64 (((i:Nat):Int))) ?_ (hc:=by exact bt _ rfl);refine PD 3 ?_;refine FD 4 6 ix qh ?_;refine IY 5 (6+i) Da nM ?_;refine AL 6 ?_;refine bT (i:=0) (ab rfl) rfl rfl rfl rfl rfl nM rfl rfl (by rw[qF];omega) (tY n D M (mF P i uc) (.pointer none) hi) rfl (EN (DN (ac J18 (D2 4 0 dC ?_))));refine PD 0 ?_;refine FD 1 1 eZ aO ?_;refine LX 2 Y3 (.int .i64 (((i:Nat):Int))) ?_ (hc:=by exact bt _ rfl);refine PD 3 ?_;refine FD 4 1 ix sY ?_;refine IY 5 (1+i) Bo oU ?_;refine LX 6 wj (.pointer (some ⟨d,0,none⟩)) ?_ (hc:=by exact(C1 n D (mF M i (.pointer none)) (mF P i uc) hi).trans (congrArg some hD));refine FD 7 8 eZ aO ?_;refine LX 8 Y3 (.int .i64 (o.mask)) ?_ (hc:=by exact OpT.at_mask _ rfl);refine FD 9 9 eZ aO ?_;refine LX 10 Y3 (.int .i64 (o.torn)) ?_ (hc:=by exact OpT.at_torn _ rfl);refine FD 11 10 eZ aO ?_;refine LX 12 Y3 (.int .i64 (o.cut)) ?_ (hc:=by exact OpT.at_cut _ rfl);refine AL 13 ?_;refine CR KC (A9 d e o.mask o.torn o.cut hok) (SM [5]) λvR HR hR=>?_
 obtain⟨_,rfl⟩:=hR;refine EN (DN (ag (ac J4 (sr λ_ J19=>PS ?_))));exact nx J19 (ai (WK [1,0,2] (aq rfl rfl ⟨uc,huc,rfl,rfl⟩)))
theorem CJ(c n i:Nat)(D M P:Nat→Value)(hi:i<5)(d:Nat)(hD:D i= .pointer (some ⟨d,0,none⟩))(hM:M i= .pointer none)(pl:List ReplyT)(hpl:pl.length≤100000)(e:DS)(hok:e.Ok)(o:OpT):
 DT 17 #[(.pointer (some ⟨c,0,none⟩)),(.agg (ints (OpT.mk 10 ((i:Nat):Int) o.to' o.key o.n o.change o.mask o.torn o.cut).flat).toArray)] T0 [aj c (eA n D M P) 104,dk d e,own (P i) ((pl).length) (ints (List.flatMap ReplyT.flat (pl))) 37 3] (dw (λv H=>∃u,u.oneCell'=true∧v= .int .i64 0∧H=[aj c (eA n D (mF M i (.pointer none)) (mF P i u)) 104,dk d (e.crash o.mask o.torn o.cut),jb u pl])):=by
 refine BD 114 Tryz.func17 rfl rfl rfl λw0 F hF=>sr λ_ J1=>XY (ints (OpT.mk 10 ((i:Nat):Int) o.to' o.key o.n o.change o.mask o.torn o.cut).flat) λb3=>?_
 refine PS ?_;refine nx J1 (aa λ_ J2=>sr λ_ J3=>PS ?_);refine FA 1 eZ aO ?_;refine LT 0 Y3 (.int .i64 (((i:Nat):Int))) ?_ (hc:=by exact bt _ rfl);refine CE ot (eb c i hi) ID ?_;refine PS ?_;refine nx J3 (CN (qx J2 (aa λ_ J4=>sr λ_ J5=>FA 0 eZ aO ?_)));refine LT 0 Y3 (.int .i64 10) ?_ (hc:=by exact cq _ rfl);refine nx J5 (ap (aa λ_ J6=>sr λ_ J7=>P2 ?_));refine nx J7 (CN (sr λ_ J8=>P2 ?_));refine nx J8 (CN (sr λ_ J9=>P2 ?_));refine nx J9 (CN (sr λ_ J10=>P2 ?_));refine nx J10 (CN (af (P2 ?_)));refine nx J6 (CN (aa λ_ J11=>sr λ_ J12=>P2 ?_));refine nx J12 (CN (sr λ_ J13=>P2 ?_));refine nx J13 (CN (af (P2 ?_)));refine nx J11 (CN (sr λ_ J14=>P2 ?_));refine nx J14 (CN (sr λ_ J15=>P2 ?_));refine nx J15 (CN (sr λ_ J16=>P2 ?_));refine nx J16 (CY (aa λ_ J17=>D1 0 dC ?_));refine PD 0 ?_;refine FD 1 1 eZ aO ?_;refine LX 2 Y3 (.int .i64 (((i:Nat):Int))) ?_ (hc:=by exact bt _ rfl);refine PD 3 ?_;refine FD 4 1 eZ aO ?_;refine LX 5 Y3 (.int .i64 (((i:Nat):Int))) ?_ (hc:=by exact bt _ rfl);refine PD 7 ?_;refine FD 8 11 ix Dn ?_;refine AL 6 ?_;refine CR GD (vc c n i D M P hi hM pl hpl) (SM [1,2]) λvR HR hR=>?_
 obtain⟨_,huc,rfl,rfl⟩:=hR;revert vR;intro uc huc;refine EN (IY 9 (11+i) Iy wB ?_);refine AL 10 ?_;refine bT (i:=0) (ab rfl) rfl rfl rfl rfl huc wB rfl rfl (by rw[qF];omega) (D6 n D M P uc hi) rfl (EN (DN (ac J17 (aa λ_ J18=>D1 3 dC ?_))));refine PD 0 ?_;refine FD 1 1 eZ aO ?_;refine LX 2 Y3 (.int .i64 (((i:Nat):Int))) ?_ (hc:=by exact bt _ rfl);refine PD 3 ?_;refine FD 4 6 ix qh ?_;refine IY 5 (6+i) Da nM ?_;refine AL 6 ?_;refine bT (i:=0) (ab rfl) rfl rfl rfl rfl rfl nM rfl rfl (by rw[qF];omega) (tY n D M (mF P i uc) (.pointer none) hi) rfl (EN (DN (ac J18 (D2 3 0 dC ?_))));refine PD 0 ?_;refine FD 1 1 eZ aO ?_;refine LX 2 Y3 (.int .i64 (((i:Nat):Int))) ?_ (hc:=by exact bt _ rfl);refine PD 3 ?_;refine FD 4 1 ix sY ?_;refine IY 5 (1+i) Bo oU ?_;refine LX 6 wj (.pointer (some ⟨d,0,none⟩)) ?_ (hc:=by exact(C1 n D (mF M i (.pointer none)) (mF P i uc) hi).trans (congrArg some hD));refine FD 7 8 eZ aO ?_;refine LX 8 Y3 (.int .i64 (o.mask)) ?_ (hc:=by exact OpT.at_mask _ rfl);refine FD 9 9 eZ aO ?_;refine LX 10 Y3 (.int .i64 (o.torn)) ?_ (hc:=by exact OpT.at_torn _ rfl);refine FD 11 10 eZ aO ?_;refine LX 12 Y3 (.int .i64 (o.cut)) ?_ (hc:=by exact OpT.at_cut _ rfl);refine AL 13 ?_;refine CR KC (A9 d e o.mask o.torn o.cut hok) (SM [4]) λvR HR hR=>?_
 obtain⟨_,rfl⟩:=hR;refine EN (DN (ag (ac J4 (sr λ_ J19=>PS ?_))));exact nx J19 (ai (WK [1,0,1] (aq rfl rfl ⟨uc,huc,rfl,rfl⟩)))
theorem HV{s:MS LD}{lg d r:Nat}{e:LD}{i:Int}(f:Fresh i e s){H:List HP}{h:Hl}(q:bH (Bz lg r s::DR lg d ((e.cnt:Nat):Int) e.used::H) h):bH (fK s d r::H) h:=by
 obtain⟨_,q⟩:=ff (p:=λ_:Unit=>[aj r (RepT.cells (s.rep ⟨lg, .pointer none, .slice none 0 0⟩)) 123]) q;refine bi (p:=EI s d r) ⟨lg, .pointer none, .slice none 0 0⟩ ?_;have q2:=fR 37 3 q;have q3:bH (Df (.pointer none) (none:Option VoteT)::own (.slice none 0 0) 0 [] 37 3::aj r (RepT.cells (s.rep ⟨lg, .pointer none, .slice none 0 0⟩)) 123::DR lg d ((e.cnt:Nat):Int) e.used::H) h:=⟨em,h,Bu h,(p2 h).symm,rfl,q2⟩;have q4:=az [2,2,1,0] rfl q3;simp only[EI,f.e,f.replies,f.vote];exact q4
theorem s4(i d:Nat)(e:DS)(hok:DkOk e):DT 55 #[.int .i64 ((i:Nat):Int), .pointer (some ⟨d,0,none⟩)] T0 [dk d e] (dw (λv H=>((dI i e).1=none∧(dI i e).2≠0∧v= .tuple #[.pointer none, .int .i64 (dI i e).2]∧H=[dk d (bL e).D])∨∃s r,(dI i e).1=some s∧v= .tuple #[.pointer (some ⟨r,0,none⟩), .int .i64 0]∧H=[fK s d r,dk d s.e.D])):=
 Leg.Does.fold (zV (⟨(bL e).recs.length,(bL e).used,(bL e).D⟩:LD) ((i:Nat):Int) d e hok.ok hok.inn (by have:=hok.ws;omega)) λx H hp=>by
  cases x with
  |returned v=>
   unfold dI;rcases hp with⟨he,rfl,rfl⟩| ⟨he,⟨hn,rfl,rfl⟩| ⟨s,r,lg,hn,rfl,rfl⟩⟩
   · rw[if_pos he];exact⟨_,λ_ q=>q, .inl ⟨rfl,he,rfl,rfl⟩⟩
   · rw[if_neg (by rw[he];decide),hn];exact⟨_,λ_ q=>q, .inl ⟨rfl,(by decide),rfl,rfl⟩⟩
   · rw[if_neg (by rw[he];decide),hn]
     have f:=oC _ (wq _ _) hn;refine⟨[fK s d r,dk d s.e.D],λ_ q=>HV (lg:=lg) f ?_, .inr ⟨s,r,rfl,rfl,rfl⟩⟩;rw[f.e];exact q
  |panicked c=>exact hp.elim
  |outgrown=>exact hp.elim
theorem zU(c n i:Nat)(D M P:Nat→Value)(hi:i<5)(d:Nat)(hD:D i= .pointer (some ⟨d,0,none⟩))(hM:M i= .pointer none)(e:DS)(hok:DkOk e):
 DT 63 #[(.pointer (some ⟨c,0,none⟩)),(.int .i64 (((i:Nat):Int)))] T0 [aj c (eA n D M P) 104,dk d e] (dw (λv H=>((dI i e).1=none∧v= .int .i64 (dI i e).2∧H=[aj c (eA n D M P) 104,dk d (bL e).D])∨∃s r,(dI i e).1=some s∧v= .int .i64 0∧H=[aj c (eA n D (mF M i (.pointer (some ⟨r,0,none⟩))) P) 104,fK s d r,dk d s.e.D])):=by
 refine BD 34 Tryz.func63 rfl rfl rfl λw0 F hF=>sr λ_ J1=>PS ?_
 refine nx J1 (aa λ_ J2=>sr λ_ J3=>P3 ?_);refine FA 6 ix qh ?_;refine IX (6+i) Da nM ?_;refine LT 0 yd (.pointer none) ?_ (hc:=by exact(vT n D M P hi).trans (congrArg some hM));refine tp (iz rfl yd rfl rfl) ?_;refine nx J3 (CN (qx J2 (sr λ_ J4=>P4 ?_)));refine FA 1 ix sY ?_;refine IX (1+i) Bo oU ?_;refine LT 0 wj (.pointer (some ⟨d,0,none⟩)) ?_ (hc:=by exact(C1 n D M P hi).trans (congrArg some hD));refine CR KF (s4 i d e hok) (SM [1]) λvR HR hR=>?_
 rcases hR with⟨hn,h0,rfl,rfl⟩| ⟨s,r,hn,rfl,rfl⟩
 refine P4 ?_;refine PS ?_;refine nx J4 (aa λ_ J5=>sr λ_ J6=>P2 ?_);refine am ?_ ?_<;>intro h26
 · exact absurd h26 h0
 refine nx J6 (CN (qx J5 (sr λ_ J7=>P2 ?_)));exact nx J7 (ai (WK [1,0] (aq rfl rfl (.inl ⟨hn,rfl,rfl⟩))));refine P4 ?_;refine PS ?_;refine nx J4 (aa λ_ J8=>sr λ_ J9=>P2 ?_);refine nx J9 (CY (af (P4 ?_)));refine FA 6 ix qh ?_;refine IX (6+i) Da nM ?_;refine bT (i:=2) (ab rfl) rfl rfl rfl rfl rfl nM rfl rfl (by rw[qF];omega) (tY n D M P (.pointer (some ⟨r,0,none⟩)) hi) rfl (nx J8 (sr λ_ J10=>P2 ?_));exact nx J10 (ai (WK [2,0,0] (aq rfl rfl (.inr ⟨s,r,hn,rfl,rfl⟩))))
theorem zT(c n i:Nat)(D M P:Nat→Value)(hi:i<5)(r:Nat)(hM:M i= .pointer (some ⟨r,0,none⟩)):
 DT 63 #[(.pointer (some ⟨c,0,none⟩)),(.int .i64 (((i:Nat):Int)))] T0 [aj c (eA n D M P) 104] (RI (.int .i64 5) [aj c (eA n D M P) 104]):=by
 refine BD 34 Tryz.func63 rfl rfl rfl λw0 F hF=>sr λ_ J1=>PS ?_
 refine nx J1 (aa λ_ J2=>sr λ_ J3=>P3 ?_);refine FA 6 ix qh ?_;refine IX (6+i) Da nM ?_;refine LT 0 yd (.pointer (some ⟨r,0,none⟩)) ?_ (hc:=by exact(vT n D M P hi).trans (congrArg some hM));refine tp (iS rfl yd rfl rfl) ?_;refine nx J3 (CY (sr λ_ J4=>PS ?_));exact nx J4 (ai (ae (WK [0] (aq rfl rfl ⟨rfl,rfl⟩))))
theorem CH(c n i:Nat)(D M P:Nat→Value)(hi:i<5)(d:Nat)(hD:D i= .pointer (some ⟨d,0,none⟩))(hM:M i= .pointer none)(e:DS)(hok:DkOk e)(o:OpT):
 DT 17 #[(.pointer (some ⟨c,0,none⟩)),(.agg (ints (OpT.mk 11 ((i:Nat):Int) o.to' o.key o.n o.change o.mask o.torn o.cut).flat).toArray)] T0 [aj c (eA n D M P) 104,dk d e] (dw (λv H=>((dI i e).1=none∧v= .int .i64 (dI i e).2∧H=[aj c (eA n D M P) 104,dk d (bL e).D])∨∃s r,(dI i e).1=some s∧v= .int .i64 0∧H=[aj c (eA n D (mF M i (.pointer (some ⟨r,0,none⟩))) P) 104,fK s d r,dk d s.e.D])):=by
 refine BD 114 Tryz.func17 rfl rfl rfl λw0 F hF=>sr λ_ J1=>XY (ints (OpT.mk 11 ((i:Nat):Int) o.to' o.key o.n o.change o.mask o.torn o.cut).flat) λb3=>?_
 refine PS ?_;refine nx J1 (aa λ_ J2=>sr λ_ J3=>PS ?_);refine FA 1 eZ aO ?_;refine LT 0 Y3 (.int .i64 (((i:Nat):Int))) ?_ (hc:=by exact bt _ rfl);refine CE ot (eb c i hi) ID ?_;refine PS ?_;refine nx J3 (CN (qx J2 (aa λ_ J4=>sr λ_ J5=>FA 0 eZ aO ?_)));refine LT 0 Y3 (.int .i64 11) ?_ (hc:=by exact cq _ rfl);refine nx J5 (ap (aa λ_ J6=>sr λ_ J7=>P2 ?_));refine nx J7 (CN (sr λ_ J8=>P2 ?_));refine nx J8 (CN (sr λ_ J9=>P2 ?_));refine nx J9 (CN (sr λ_ J10=>P2 ?_));refine nx J10 (CN (af (P2 ?_)));refine nx J6 (CN (aa λ_ J11=>sr λ_ J12=>P2 ?_));refine nx J12 (CN (sr λ_ J13=>P2 ?_));refine nx J13 (CN (af (P2 ?_)));refine nx J11 (CN (sr λ_ J14=>P2 ?_));refine nx J14 (CN (sr λ_ J15=>P2 ?_));refine nx J15 (CN (sr λ_ J16=>P2 ?_));refine nx J16 (CN (sr λ_ J17=>P2 ?_));refine nx J17 (CY (sr λ_ J18=>PS ?_));refine FA 1 eZ aO ?_;refine LT 0 Y3 (.int .i64 (((i:Nat):Int))) ?_ (hc:=by exact bt _ rfl);refine CR KB (zU c n i D M P hi d hD hM e hok) (SM [1,1]) λvR HR hR=>?_
 rcases hR with⟨hn,rfl,rfl⟩| ⟨s,r,hn,rfl,rfl⟩
 refine PS ?_;exact nx J18 (ai (aH (ae (WK [0,0] (aq rfl rfl (.inl ⟨hn,rfl,rfl⟩))))));refine PS ?_;exact nx J18 (ai (aH (ae (WK [0,0,0] (aq rfl rfl (.inr ⟨s,r,hn,rfl,rfl⟩))))))
theorem CG(c n i:Nat)(D M P:Nat→Value)(hi:i<5)(r:Nat)(hM:M i= .pointer (some ⟨r,0,none⟩))(o:OpT):
 DT 17 #[(.pointer (some ⟨c,0,none⟩)),(.agg (ints (OpT.mk 11 ((i:Nat):Int) o.to' o.key o.n o.change o.mask o.torn o.cut).flat).toArray)] T0 [aj c (eA n D M P) 104] (RI (.int .i64 5) [aj c (eA n D M P) 104]):=by
 refine BD 114 Tryz.func17 rfl rfl rfl λw0 F hF=>sr λ_ J1=>XY (ints (OpT.mk 11 ((i:Nat):Int) o.to' o.key o.n o.change o.mask o.torn o.cut).flat) λb3=>?_
 refine PS ?_;refine nx J1 (aa λ_ J2=>sr λ_ J3=>PS ?_);refine FA 1 eZ aO ?_;refine LT 0 Y3 (.int .i64 (((i:Nat):Int))) ?_ (hc:=by exact bt _ rfl);refine CE ot (eb c i hi) ID ?_;refine PS ?_;refine nx J3 (CN (qx J2 (aa λ_ J4=>sr λ_ J5=>FA 0 eZ aO ?_)));refine LT 0 Y3 (.int .i64 11) ?_ (hc:=by exact cq _ rfl);refine nx J5 (ap (aa λ_ J6=>sr λ_ J7=>P2 ?_));refine nx J7 (CN (sr λ_ J8=>P2 ?_));refine nx J8 (CN (sr λ_ J9=>P2 ?_));refine nx J9 (CN (sr λ_ J10=>P2 ?_));refine nx J10 (CN (af (P2 ?_)));refine nx J6 (CN (aa λ_ J11=>sr λ_ J12=>P2 ?_));refine nx J12 (CN (sr λ_ J13=>P2 ?_));refine nx J13 (CN (af (P2 ?_)));refine nx J11 (CN (sr λ_ J14=>P2 ?_));refine nx J14 (CN (sr λ_ J15=>P2 ?_));refine nx J15 (CN (sr λ_ J16=>P2 ?_));refine nx J16 (CN (sr λ_ J17=>P2 ?_));refine nx J17 (CY (sr λ_ J18=>PS ?_));refine FA 1 eZ aO ?_;refine LT 0 Y3 (.int .i64 (((i:Nat):Int))) ?_ (hc:=by exact bt _ rfl);refine CE KB (zT c n i D M P hi r hM) (SM [1]) ?_;refine PS ?_;exact nx J18 (ai (aH (ae (WK [0] (aq rfl rfl ⟨rfl,rfl⟩)))))
theorem zI(c n i:Nat)(D M P:Nat→Value)(hi:i<5)(to' k:Int)(o:OpT)(hv:dA ((i:Nat):Int) to'=false)(bs:List Nat):
 DT 59 #[(.pointer (some ⟨c,0,none⟩)),(.agg (ints (OpT.mk k ((i:Nat):Int) to' o.key o.n o.change o.mask o.torn o.cut).flat).toArray)] T0 [aj c (eA n D M P) 104,aj n (dr bs) 156] (RI (.int .i64 5) [aj c (eA n D M P) 104,aj n (dr bs) 156]):=by
 refine BD 91 Tryz.func59 rfl rfl rfl λw0 F hF=>sr λ_ J1=>XY (ints (OpT.mk k ((i:Nat):Int) to' o.key o.n o.change o.mask o.torn o.cut).flat) λb3=>?_
 refine PS ?_;refine nx J1 (aa λ_ J2=>D2 0 1 dC ?_);refine PD 0 ?_;refine PD 1 ?_;refine FD 2 0 ix yv ?_;refine LX 3 Hr (.pointer (some ⟨n,0,none⟩)) ?_ (hc:=by exact zh n D M P);refine FD 4 1 eZ aO ?_;refine LX 5 Y3 (.int .i64 (((i:Nat):Int))) ?_ (hc:=by exact bt _ rfl);refine FD 6 2 eZ aO ?_;refine LX 7 Y3 (.int .i64 (to')) ?_ (hc:=by exact hZ _ rfl);refine AL 8 ?_;refine CR Cj (l7 n bs ((i:Nat):Int) to') (SM [2]) λvR HR hR=>?_
 obtain⟨hw,rfl⟩:=hR;obtain⟨_,rfl⟩:dA ((i:Nat):Int) to'=false∧vR= .pointer none:=hw.resolve_left (λq=>by rw[hv]at q;cases q.1);refine EN (PD 9 ?_);refine DN (ac J2 (aa λ_ J3=>sr λ_ J4=>PS ?_));refine tp (M7 rfl wi rfl rfl) ?_;refine nx J4 (CY (sr λ_ J5=>PS ?_));exact nx J5 (ai (ae (WK [2,0] (aq rfl rfl ⟨rfl,rfl⟩))))
theorem oJ{n i j:Nat}{bs:List Nat}{W:List (List MsgT)}{l:List MsgT}{H:List HP}{h:Hl}(hv:dA ((i:Nat):Int) ((j:Nat):Int)=true)(hW:W.length=25)(q:bH (gA 208 5 (bs.getD (bq ((i:Nat):Int) ((j:Nat):Int)) 0) (List.map (j6 (bq ((i:Nat):Int) ((j:Nat):Int))) l)::fg 208 5 bs (cF W) (bq ((i:Nat):Int) ((j:Nat):Int))::aj n (dr bs) 156::H) h):bH (dP 156 208 5 n (cF (W.set (bq ((i:Nat):Int) ((j:Nat):Int)) l))::H) h:=by
 have q2:=se hv (oK W) q;rw[uu W (hJ hv).1 hW]at q2;exact bi (p:=λbs:List Nat=>[aj n (dr bs) 156,ey 208 5 bs (cF (W.set (bq ((i:Nat):Int) ((j:Nat):Int)) l))]) bs (dX (List.Perm.swap _ _ _) q2)
theorem yk(c n i:Nat)(D M P:Nat→Value)(hi:i<5)(j:Nat)(hj:j<5)(hv:dA ((i:Nat):Int) ((j:Nat):Int)=true)(W:List (List MsgT))(hW:W.length=25)(l:List MsgT)(hl:W.getD (bq ((i:Nat):Int) ((j:Nat):Int)) []=l)(h8:l.length≤8)(hlen: ∀m∈l,0< (dm m).length)(o:OpT)(k:Int)(hn:l=[])(bs:List Nat):
 DT 59 #[(.pointer (some ⟨c,0,none⟩)),(.agg (ints (OpT.mk k ((i:Nat):Int) ((j:Nat):Int) o.key o.n o.change o.mask o.torn o.cut).flat).toArray)] T0 [aj n (dr bs) 156,ey 208 5 bs (cF W),aj c (eA n D M P) 104] (RI (.int .i64 10) [aj c (eA n D M P) 104,dP 156 208 5 n (cF (W.set (bq ((i:Nat):Int) ((j:Nat):Int)) l))]):=by
 refine BD 91 Tryz.func59 rfl rfl rfl λw0 F hF=>sr λ_ J1=>XY (ints (OpT.mk k ((i:Nat):Int) ((j:Nat):Int) o.key o.n o.change o.mask o.torn o.cut).flat) λb3=>?_
 refine PS ?_;refine nx J1 (aa λ_ J2=>D2 0 3 dC ?_);refine PD 0 ?_;refine PD 1 ?_;refine FD 2 0 ix yv ?_;refine LX 3 Hr (.pointer (some ⟨n,0,none⟩)) ?_ (hc:=by exact zh n D M P);refine FD 4 1 eZ aO ?_;refine LX 5 Y3 (.int .i64 (((i:Nat):Int))) ?_ (hc:=by exact bt _ rfl);refine FD 6 2 eZ aO ?_;refine LX 7 Y3 (.int .i64 (((j:Nat):Int))) ?_ (hc:=by exact hZ _ rfl);refine AL 8 ?_;refine CR Cj (l7 n bs ((i:Nat):Int) ((j:Nat):Int)) (SM [1]) λvR HR hR=>?_
 obtain⟨hw,rfl⟩:=hR;obtain⟨_,rfl⟩:dA ((i:Nat):Int) ((j:Nat):Int)=true∧vR= .pointer (some ⟨(bs.getD (bq ((i:Nat):Int) ((j:Nat):Int)) 0),0,none⟩):=hw.resolve_right (λq=>by rw[hv]at q;cases q.1);refine EN (PD 9 ?_);refine DN (ac J2 (aa λ_ J3=>sr λ_ J4=>PS ?_));refine tp (jF rfl wi rfl rfl) ?_;refine nx J4 (CN (qx J3 (aa λ_ J5=>sr λ_ J6=>cp (H':=[gA 208 5 (bs.getD (bq ((i:Nat):Int) ((j:Nat):Int)) 0) (List.map (j6 (bq ((i:Nat):Int) ((j:Nat):Int))) l),fg 208 5 bs (cF W) (bq ((i:Nat):Int) ((j:Nat):Int)),aj n (dr bs) 156,aj b3 (ints (OpT.mk k ((i:Nat):Int) ((j:Nat):Int) o.key o.n o.change o.mask o.torn o.cut).flat) 30,aj c (eA n D M P) 104]) (λ_ q=>hl▸mE W (hJ hv).1▸m4 hv (az [2] rfl q)) (PS ?_))));refine CE ti (iR (bs.getD (bq ((i:Nat):Int) ((j:Nat):Int)) 0) (List.map (j6 (bq ((i:Nat):Int) ((j:Nat):Int))) l)) ID ?_;rw[bK];refine PS ?_;refine am ?_ ?_<;>intro h23;refine nx J6 (CY (sr λ_ J7=>PS ?_));exact nx J7 (ai (ae (aE (H':=[aj c (eA n D M P) 104,dP 156 208 5 n (cF (W.set (bq ((i:Nat):Int) ((j:Nat):Int)) l))]) (dE _) (λ_ q=>dX (List.Perm.swap _ _ _) (oJ (bs:=bs) hv hW (ak [0,0,0,1] rfl q))) (aq rfl rfl ⟨rfl,rfl⟩))))
 · exact absurd (by rw[hn];rfl) h23
theorem wx(c n i:Nat)(D M P:Nat→Value)(hi:i<5)(j:Nat)(hj:j<5)(hv:dA ((i:Nat):Int) ((j:Nat):Int)=true)(W:List (List MsgT))(hW:W.length=25)(l:List MsgT)(hl:W.getD (bq ((i:Nat):Int) ((j:Nat):Int)) []=l)(h8:l.length≤8)(hlen: ∀m∈l,0< (dm m).length)(o:OpT)(hn:l≠[])(bs:List Nat):
    DT 59 #[(.pointer (some ⟨c,0,none⟩)),(.agg (ints (OpT.mk 7 ((i:Nat):Int) ((j:Nat):Int) o.key o.n o.change o.mask o.torn o.cut).flat).toArray)] T0 [aj n (dr bs) 156,ey 208 5 bs (cF W),aj c (eA n D M P) 104] (RI (.int .i64 (if FX l then 0 else 3)) [aj c (eA n D M P) 104,dP 156 208 5 n (cF (W.set (bq ((i:Nat):Int) ((j:Nat):Int)) (BK l)))]):=by
 refine BD 91 Tryz.func59 rfl rfl rfl λw0 F hF=>sr λ_ J1=>XY (ints (OpT.mk 7 ((i:Nat):Int) ((j:Nat):Int) o.key o.n o.change o.mask o.torn o.cut).flat) λb3=>?_
 refine PS ?_;refine nx J1 (aa λ_ J2=>D2 0 3 dC ?_);refine PD 0 ?_;refine PD 1 ?_;refine FD 2 0 ix yv ?_;refine LX 3 Hr (.pointer (some ⟨n,0,none⟩)) ?_ (hc:=by exact zh n D M P);refine FD 4 1 eZ aO ?_;refine LX 5 Y3 (.int .i64 (((i:Nat):Int))) ?_ (hc:=by exact bt _ rfl);refine FD 6 2 eZ aO ?_;refine LX 7 Y3 (.int .i64 (((j:Nat):Int))) ?_ (hc:=by exact hZ _ rfl);refine AL 8 ?_;refine CR Cj (l7 n bs ((i:Nat):Int) ((j:Nat):Int)) (SM [1]) λvR HR hR=>?_
 obtain⟨hw,rfl⟩:=hR;obtain⟨_,rfl⟩:dA ((i:Nat):Int) ((j:Nat):Int)=true∧vR= .pointer (some ⟨(bs.getD (bq ((i:Nat):Int) ((j:Nat):Int)) 0),0,none⟩):=hw.resolve_right (λq=>by rw[hv]at q;cases q.1);refine EN (PD 9 ?_);refine DN (ac J2 (aa λ_ J3=>sr λ_ J4=>PS ?_));refine tp (jF rfl wi rfl rfl) ?_;refine nx J4 (CN (qx J3 (aa λ_ J5=>sr λ_ J6=>cp (H':=[gA 208 5 (bs.getD (bq ((i:Nat):Int) ((j:Nat):Int)) 0) (List.map (j6 (bq ((i:Nat):Int) ((j:Nat):Int))) l),fg 208 5 bs (cF W) (bq ((i:Nat):Int) ((j:Nat):Int)),aj n (dr bs) 156,aj b3 (ints (OpT.mk 7 ((i:Nat):Int) ((j:Nat):Int) o.key o.n o.change o.mask o.torn o.cut).flat) 30,aj c (eA n D M P) 104]) (λ_ q=>hl▸mE W (hJ hv).1▸m4 hv (az [2] rfl q)) (PS ?_))));refine CE ti (iR (bs.getD (bq ((i:Nat):Int) ((j:Nat):Int)) 0) (List.map (j6 (bq ((i:Nat):Int) ((j:Nat):Int))) l)) ID ?_;rw[bK];refine PS ?_;refine am ?_ ?_<;>intro h23
 · exact absurd (List.eq_nil_of_length_eq_zero (by omega)) hn
 refine nx J6 (CN (qx J5 (aa λ_ J7=>sr λ_ J8=>FA 0 eZ aO ?_)));refine LT 3 Y3 (.int .i64 7) ?_ (hc:=by exact cq _ rfl);refine PS ?_;refine nx J8 (CY (aa λ_ J9=>sr λ_ J10=>PS ?_))
 refine kl (ab rfl) rfl rfl rfl Lr rfl (wT (bs.getD (bq ((i:Nat):Int) ((j:Nat):Int)) 0) (List.map (j6 (bq ((i:Nat):Int) ((j:Nat):Int))) l) (by rw[bK];exact h8) (λx hx=>by
        obtain⟨m,_,rfl⟩:=eH.1 hx
        exact ut _ m)) (λ_ s=>s) (λ_ _ _=>trivial) (λvR HR hR=>?_)
 obtain⟨rfl,rfl⟩:=hR;rw[HN,HM];refine aX ?_ ?_<;>intro h28;refine PS ?_;refine nx J10 (CN (qx J9 (sr λ_ J11=>PS ?_)));refine nx J11 (ai (ae (aE (H':=[aj c (eA n D M P) 104,dP 156 208 5 n (cF (W.set (bq ((i:Nat):Int) ((j:Nat):Int)) (BK l)))]) (dE _) (λ_ q=>dX (List.Perm.swap _ _ _) (oJ (bs:=bs) hv hW (ak [0,0,0,1] rfl q))) (aq rfl rfl ?_))));exact⟨by rw[h28];rfl,rfl⟩;refine PS ?_;refine nx J10 (CY (sr λ_ J12=>PS ?_));refine nx J12 (ai (ae (ae (aE (H':=[aj c (eA n D M P) 104,dP 156 208 5 n (cF (W.set (bq ((i:Nat):Int) ((j:Nat):Int)) (BK l)))]) (dE _) (λ_ q=>dX (List.Perm.swap _ _ _) (oJ (bs:=bs) hv hW (ak [0,0,0,1] rfl q))) (aq rfl rfl ?_)))));exact⟨by rw[h28];rfl,rfl⟩
theorem Dh{i j:Nat}{W:List (List MsgT)}{m:MsgT}{l2:List MsgT}(hv:dA ((i:Nat):Int) ((j:Nat):Int)=true)(hW:W.length=25):(cF (W.set (bq ((i:Nat):Int) ((j:Nat):Int)) (m::l2))).getD (bq ((i:Nat):Int) ((j:Nat):Int)) []=iP ((i:Nat):Int) ((j:Nat):Int) (dm m)::List.map (j6 (bq ((i:Nat):Int) ((j:Nat):Int))) l2:=by
 rw[mE _ (hJ hv).1,List.getD_eq_getElem?_getD,List.getElem?_set_self (by rw[hW];exact(hJ hv).1),←zH (ra hv).1 (ra hv).2];rfl
theorem zM{i j:Nat}{W:List (List MsgT)}{m:MsgT}{l2:List MsgT}(hv:dA ((i:Nat):Int) ((j:Nat):Int)=true)(hW:W.length=25):(cF (W.set (bq ((i:Nat):Int) ((j:Nat):Int)) (m::l2))).set (bq ((i:Nat):Int) ((j:Nat):Int)) (List.map (j6 (bq ((i:Nat):Int) ((j:Nat):Int))) l2)=cF (W.set (bq ((i:Nat):Int) ((j:Nat):Int)) l2):=by
 rw[uu _ (hJ hv).1 (by rw[km];exact hW),lG]
theorem qY(c n i:Nat)(D M P:Nat→Value)(hi:i<5)(j:Nat)(hj:j<5)(hv:dA ((i:Nat):Int) ((j:Nat):Int)=true)(W:List (List MsgT))(hW:W.length=25)(l:List MsgT)(hl:W.getD (bq ((i:Nat):Int) ((j:Nat):Int)) []=l)(h8:l.length≤8)(hlen: ∀m∈l,0< (dm m).length)(o:OpT)(m:MsgT)(l2:List MsgT)(ht:kx (max o.n 0% ((l.length:Nat):Int)).toNat l=m::l2)(bs:List Nat)(q:Int)(hk5:q=5∨q=6)(hk:q=6∨M j= .pointer none):
    DT 59 #[(.pointer (some ⟨c,0,none⟩)),(.agg (ints (OpT.mk q ((i:Nat):Int) ((j:Nat):Int) o.key o.n o.change o.mask o.torn o.cut).flat).toArray)] T0 [aj n (dr bs) 156,ey 208 5 bs (cF W),aj c (eA n D M P) 104] (RI (.int .i64 0) [aj c (eA n D M P) 104,dP 156 208 5 n (cF (W.set (bq ((i:Nat):Int) ((j:Nat):Int)) l2))]):=by
 refine BD 91 Tryz.func59 rfl rfl rfl λw0 F hF=>?_
 have hln:0<l.length:=by
     have:=jQ (max o.n 0% ((l.length:Nat):Int)).toNat l;rw[ht]at this;rw[←this];exact Nat.succ_pos _
 have hm0:0< (dm m).length:=hlen m ((nJ (max o.n 0% ((l.length:Nat):Int)).toNat l).1 (ht▸fq ..));have hrl:(max o.n 0% ((l.length:Nat):Int))< ((l.length:Nat):Int):=FO _ (by omega);refine sr λ_ J1=>XY (ints (OpT.mk q ((i:Nat):Int) ((j:Nat):Int) o.key o.n o.change o.mask o.torn o.cut).flat) λb3=>?_
 refine PS ?_;refine nx J1 (aa λ_ J2=>D2 0 3 dC ?_);refine PD 0 ?_;refine PD 1 ?_;refine FD 2 0 ix yv ?_;refine LX 3 Hr (.pointer (some ⟨n,0,none⟩)) ?_ (hc:=by exact zh n D M P);refine FD 4 1 eZ aO ?_;refine LX 5 Y3 (.int .i64 (((i:Nat):Int))) ?_ (hc:=by exact bt _ rfl);refine FD 6 2 eZ aO ?_;refine LX 7 Y3 (.int .i64 (((j:Nat):Int))) ?_ (hc:=by exact hZ _ rfl);refine AL 8 ?_;refine CR Cj (l7 n bs ((i:Nat):Int) ((j:Nat):Int)) (SM [1]) λvR HR hR=>?_
 obtain⟨hw,rfl⟩:=hR;obtain⟨_,rfl⟩:dA ((i:Nat):Int) ((j:Nat):Int)=true∧vR= .pointer (some ⟨(bs.getD (bq ((i:Nat):Int) ((j:Nat):Int)) 0),0,none⟩):=hw.resolve_right (λq=>by rw[hv]at q;cases q.1);refine EN (PD 9 ?_);refine DN (ac J2 (aa λ_ J3=>sr λ_ J4=>PS ?_));refine tp (jF rfl wi rfl rfl) ?_;refine nx J4 (CN (qx J3 (aa λ_ J5=>sr λ_ J6=>cp (H':=[gA 208 5 (bs.getD (bq ((i:Nat):Int) ((j:Nat):Int)) 0) (List.map (j6 (bq ((i:Nat):Int) ((j:Nat):Int))) l),fg 208 5 bs (cF W) (bq ((i:Nat):Int) ((j:Nat):Int)),aj n (dr bs) 156,aj b3 (ints (OpT.mk q ((i:Nat):Int) ((j:Nat):Int) o.key o.n o.change o.mask o.torn o.cut).flat) 30,aj c (eA n D M P) 104]) (λ_ q=>hl▸mE W (hJ hv).1▸m4 hv (az [2] rfl q)) (PS ?_))));refine CE ti (iR (bs.getD (bq ((i:Nat):Int) ((j:Nat):Int)) 0) (List.map (j6 (bq ((i:Nat):Int) ((j:Nat):Int))) l)) ID ?_;rw[bK];refine PS ?_;refine am ?_ ?_<;>intro h23
 · exact absurd h23 (by omega)
 refine nx J6 (CN (qx J5 (aa λ_ J7=>sr λ_ J8=>FA 0 eZ aO ?_)));refine LT 3 Y3 (.int .i64 (q)) ?_ (hc:=by exact cq _ rfl);refine PS ?_;refine am ?_ ?_<;>intro h26
 · exact absurd h26 (by omega)
 refine nx J8 (CN (qx J7 (aa λ_ J9=>aa λ_ J10=>D1 3 dC ?_)));refine FD 0 4 eZ aO ?_;refine LX 1 Y3 (.int .i64 (o.n)) ?_ (hc:=by exact wm _ rfl);refine ta 2 rfl (w6 rfl rfl rfl) ?_;refine PD 3 ?_;refine PD 6 ?_;refine AL 4 ?_;refine CE ti (iR (bs.getD (bq ((i:Nat):Int) ((j:Nat):Int)) 0) (List.map (j6 (bq ((i:Nat):Int) ((j:Nat):Int))) l)) ID ?_;rw[bK];refine EN (ta 5 rfl (PV.rem (r:=(max o.n 0% ((l.length:Nat):Int))) rfl rfl rfl (by omega) (rZ (by omega))) ?_);refine DN (ac J10 (ap ?_))
 refine bB (α:=(Nat)) (λk=>((k:Nat):Int)≤(max o.n 0% ((l.length:Nat):Int))) (λk=>[(0,(.pointer (some ⟨c,0,none⟩))),(3,(.pointer (some ⟨b3,0,none⟩))),(4,(.int .i64 0)),(5,(.pointer (some ⟨(bs.getD (bq ((i:Nat):Int) ((j:Nat):Int)) 0),0,none⟩))),(35,(.int .i64 ((max o.n 0% ((l.length:Nat):Int))))),(36,(.int .i64 (((k:Nat):Int))))]) (λk=>[gA 208 5 (bs.getD (bq ((i:Nat):Int) ((j:Nat):Int)) 0) (List.map (j6 (bq ((i:Nat):Int) ((j:Nat):Int))) (kx k l)),fg 208 5 bs (cF W) (bq ((i:Nat):Int) ((j:Nat):Int)),aj n (dr bs) 156,aj b3 (ints (OpT.mk q ((i:Nat):Int) ((j:Nat):Int) o.key o.n o.change o.mask o.torn o.cut).flat) 30,aj c (eA n D M P) 104]) (λk=>(max o.n 0% ((l.length:Nat):Int)).toNat-k) 0
     (yf _ (by omega)) SB
     (λ_ s=>az [0,0,0,0,0] rfl s) (λk hinv=>?_)
 obtain hk:=hinv;refine sr λ_ J11=>PS ?_
 refine am ?_ ?_<;>intro h37;refine nx J11 (aa λ_ J12=>CY (qx J12 (aa λ_ J13=>ap (af (PS ?_)))))
 refine kl (ab rfl) rfl rfl rfl I5 rfl (rR (bs.getD (bq ((i:Nat):Int) ((j:Nat):Int)) 0) (List.map (j6 (bq ((i:Nat):Int) ((j:Nat):Int))) (kx k l)) (by rw[bK,jQ];exact h8) (λx hx=>by
        obtain⟨m,_,rfl⟩:=eH.1 hx
        exact ut _ m)) (λ_ s=>s) (λ_ _ _=>trivial) (λvR HR hR=>?_)
 obtain rfl:=hR;rw[xk];refine au (ag (ac J13 (af (AD ?_))));refine PS ?_;refine au ?_
 exact aJ ((k+1):(Nat)) (by omega) (by show(max o.n 0% ((l.length:Nat):Int)).toNat- (k+1)< (max o.n 0% ((l.length:Nat):Int)).toNat-k;omega)
   SB
   (λ_ s=>az [0,0,0,0,0] rfl s)
 have hkr:k=(max o.n 0% ((l.length:Nat):Int)).toNat:=by omega
 refine cp (H':=[gA 208 5 (bs.getD (bq ((i:Nat):Int) ((j:Nat):Int)) 0) (List.map (j6 (bq ((i:Nat):Int) ((j:Nat):Int))) (m::l2)),fg 208 5 bs (cF W) (bq ((i:Nat):Int) ((j:Nat):Int)),aj n (dr bs) 156,aj b3 (ints (OpT.mk q ((i:Nat):Int) ((j:Nat):Int) o.key o.n o.change o.mask o.torn o.cut).flat) 30,aj c (eA n D M P) 104]) (λ_ q=>by rw[hkr,ht]at q;exact q) (nx J11 (aa λ_ J14=>CN (aZ (aB (aB (bw (ac J9 (aa λ_ J15=>D2 3 4 dC ?_))))))));refine PD 0 ?_;refine PD 1 ?_;refine FD 2 0 ix yv ?_;refine LX 3 Hr (.pointer (some ⟨n,0,none⟩)) ?_ (hc:=by exact zh n D M P);refine FD 4 1 eZ aO ?_;refine LX 5 Y3 (.int .i64 (((i:Nat):Int))) ?_ (hc:=by exact bt _ rfl);refine FD 6 2 eZ aO ?_;refine LX 7 Y3 (.int .i64 (((j:Nat):Int))) ?_ (hc:=by exact hZ _ rfl);refine AL 8 ?_;refine cp (H':=[dP 156 208 5 n (cF (W.set (bq ((i:Nat):Int) ((j:Nat):Int)) (m::l2))),aj b3 (ints (OpT.mk q ((i:Nat):Int) ((j:Nat):Int) o.key o.n o.change o.mask o.torn o.cut).flat) 30,aj c (eA n D M P) 104]) (λ_ q=>oJ (bs:=bs) hv hW (az [0,0,0] rfl q)) (CR I4 (pY n (cF (W.set (bq ((i:Nat):Int) ((j:Nat):Int)) (m::l2))) ((i:Nat):Int) ((j:Nat):Int) (dm m) (List.map (j6 (bq ((i:Nat):Int) ((j:Nat):Int))) l2) hv (oK _) (Dh hv hW) hm0 (by have:=rO m;omega)) ID λvR HR hR=>?_);obtain⟨uv,rfl,rfl⟩:=hR;rw[zM hv hW];refine EN (PD 9 ?_);refine PD 10 ?_;refine PD 11 ?_;refine PD 12 ?_;refine PD 13 ?_
 refine DN (ac J15 (aa λ_ J16=>sr λ_ J17=>FA 0 eZ aO ?_));refine LT 2 Y3 (.int .i64 (q)) ?_ (hc:=by exact cq _ rfl);refine PS ?_;refine am ?_ ?_<;>intro h55;refine PS ?_;refine UT ?_;refine UT ?_;refine P2 ?_
 iterate 5 refine UT ?_
 refine PS ?_;refine nx J17 (CY (sr λ_ J18=>PS ?_));exact nx J18 (ai (ae (WK [3,0] (aq rfl rfl ⟨rfl,rfl⟩))));refine P2 ?_;refine PS ?_;refine P3 ?_;refine FA 2 eZ aO ?_;refine LT 2 Y3 (.int .i64 (((j:Nat):Int))) ?_ (hc:=by exact hZ _ rfl);refine CE wH (oO c n j D M P hj (hk.resolve_left h55)) (SM [3]) ?_;refine PS ?_;refine PS ?_;refine nx J17 (CY (sr λ_ J19=>PS ?_));exact nx J19 (ai (ae (WK [0,0] (aq rfl rfl ⟨rfl,rfl⟩))))
theorem yl(c n i:Nat)(D M P:Nat→Value)(hi:i<5)(j:Nat)(hj:j<5)(hv:dA ((i:Nat):Int) ((j:Nat):Int)=true)(W:List (List MsgT))(hW:W.length=25)(l:List MsgT)(hl:W.getD (bq ((i:Nat):Int) ((j:Nat):Int)) []=l)(h8:l.length≤8)(hlen: ∀m∈l,0< (dm m).length)(o:OpT)(m:MsgT)(l2:List MsgT)(ht:kx (max o.n 0% ((l.length:Nat):Int)).toNat l=m::l2)(bs:List Nat)(d r:Nat)(s:MS LD)(hD:D j= .pointer (some ⟨d,0,none⟩))(hM:M j= .pointer (some ⟨r,0,none⟩))(ho:s.o=[])(hs:OkR KD s)(hto:((i:Nat):Int)≠s.id)(hrs:s.replies.length≤1000000):
    DT 59 #[(.pointer (some ⟨c,0,none⟩)),(.agg (ints (OpT.mk 5 ((i:Nat):Int) ((j:Nat):Int) o.key o.n o.change o.mask o.torn o.cut).flat).toArray)] T0 [aj n (dr bs) 156,ey 208 5 bs (cF W),aj c (eA n D M P) 104,dk d s.e.D,fK s d r] (dw (λv H=>(s.e.D.dn=true∧v= .int .i64 0∧H=[aj c (eA n D M P) 104,dk d s.e.D,dP 156 208 5 n (cF ((W.set (bq ((i:Nat):Int) ((j:Nat):Int)) l2))),fK s d r])∨(s.e.D.dn=false∧(gO (dm m)).2≠0∧v= .int .i64 (gO (dm m)).2∧H=[aj c (eA n D M P) 104,dk d s.e.D,dP 156 208 5 n (cF ((W.set (bq ((i:Nat):Int) ((j:Nat):Int)) l2))),fK s d r])∨(s.e.D.dn=false∧(gO (dm m)).2=0∧v= .int .i64 0∧H=[aj c (eA n D M P) 104,dk d (fu KD s ((i:Nat):Int) (gO (dm m)).1).hush.e.D,dP 156 208 5 n (cF (gn (W.set (bq ((i:Nat):Int) ((j:Nat):Int)) l2) j (fu KD s ((i:Nat):Int) (gO (dm m)).1).o)),fK (fu KD s ((i:Nat):Int) (gO (dm m)).1).hush d r]))):=by
 refine BD 91 Tryz.func59 rfl rfl rfl λw0 F hF=>?_
 have hln:0<l.length:=by
     have:=jQ (max o.n 0% ((l.length:Nat):Int)).toNat l;rw[ht]at this;rw[←this];exact Nat.succ_pos _
 have hm0:0< (dm m).length:=hlen m ((nJ (max o.n 0% ((l.length:Nat):Int)).toNat l).1 (ht▸fq ..));have hrl:(max o.n 0% ((l.length:Nat):Int))< ((l.length:Nat):Int):=FO _ (by omega);refine sr λ_ J1=>XY (ints (OpT.mk 5 ((i:Nat):Int) ((j:Nat):Int) o.key o.n o.change o.mask o.torn o.cut).flat) λb3=>?_
 refine PS ?_;refine nx J1 (aa λ_ J2=>D2 0 3 dC ?_);refine PD 0 ?_;refine PD 1 ?_;refine FD 2 0 ix yv ?_;refine LX 3 Hr (.pointer (some ⟨n,0,none⟩)) ?_ (hc:=by exact zh n D M P);refine FD 4 1 eZ aO ?_;refine LX 5 Y3 (.int .i64 (((i:Nat):Int))) ?_ (hc:=by exact bt _ rfl);refine FD 6 2 eZ aO ?_;refine LX 7 Y3 (.int .i64 (((j:Nat):Int))) ?_ (hc:=by exact hZ _ rfl);refine AL 8 ?_;refine CR Cj (l7 n bs ((i:Nat):Int) ((j:Nat):Int)) (SM [1]) λvR HR hR=>?_
 obtain⟨hw,rfl⟩:=hR;obtain⟨_,rfl⟩:dA ((i:Nat):Int) ((j:Nat):Int)=true∧vR= .pointer (some ⟨(bs.getD (bq ((i:Nat):Int) ((j:Nat):Int)) 0),0,none⟩):=hw.resolve_right (λq=>by rw[hv]at q;cases q.1);refine EN (PD 9 ?_);refine DN (ac J2 (aa λ_ J3=>sr λ_ J4=>PS ?_));refine tp (jF rfl wi rfl rfl) ?_;refine nx J4 (CN (qx J3 (aa λ_ J5=>sr λ_ J6=>cp (H':=[gA 208 5 (bs.getD (bq ((i:Nat):Int) ((j:Nat):Int)) 0) (List.map (j6 (bq ((i:Nat):Int) ((j:Nat):Int))) l),fg 208 5 bs (cF W) (bq ((i:Nat):Int) ((j:Nat):Int)),aj n (dr bs) 156,aj b3 (ints (OpT.mk 5 ((i:Nat):Int) ((j:Nat):Int) o.key o.n o.change o.mask o.torn o.cut).flat) 30,aj c (eA n D M P) 104,dk d s.e.D,fK s d r]) (λ_ q=>hl▸mE W (hJ hv).1▸m4 hv (az [2] rfl q)) (PS ?_))));refine CE ti (iR (bs.getD (bq ((i:Nat):Int) ((j:Nat):Int)) 0) (List.map (j6 (bq ((i:Nat):Int) ((j:Nat):Int))) l)) ID ?_;rw[bK];refine PS ?_;refine am ?_ ?_<;>intro h23
 · exact absurd h23 (by omega)
 refine nx J6 (CN (qx J5 (aa λ_ J7=>sr λ_ J8=>FA 0 eZ aO ?_)));refine LT 3 Y3 (.int .i64 5) ?_ (hc:=by exact cq _ rfl);refine PS ?_;refine nx J8 (CN (qx J7 (aa λ_ J9=>aa λ_ J10=>D1 3 dC ?_)));refine FD 0 4 eZ aO ?_;refine LX 1 Y3 (.int .i64 (o.n)) ?_ (hc:=by exact wm _ rfl);refine ta 2 rfl (w6 rfl rfl rfl) ?_;refine PD 3 ?_;refine PD 6 ?_;refine AL 4 ?_;refine CE ti (iR (bs.getD (bq ((i:Nat):Int) ((j:Nat):Int)) 0) (List.map (j6 (bq ((i:Nat):Int) ((j:Nat):Int))) l)) ID ?_;rw[bK];refine EN (ta 5 rfl (PV.rem (r:=(max o.n 0% ((l.length:Nat):Int))) rfl rfl rfl (by omega) (rZ (by omega))) ?_);refine DN (ac J10 (ap ?_))
 refine bB (α:=(Nat)) (λk=>((k:Nat):Int)≤(max o.n 0% ((l.length:Nat):Int))) (λk=>[(0,(.pointer (some ⟨c,0,none⟩))),(3,(.pointer (some ⟨b3,0,none⟩))),(4,(.int .i64 0)),(5,(.pointer (some ⟨(bs.getD (bq ((i:Nat):Int) ((j:Nat):Int)) 0),0,none⟩))),(35,(.int .i64 ((max o.n 0% ((l.length:Nat):Int))))),(36,(.int .i64 (((k:Nat):Int))))]) (λk=>[gA 208 5 (bs.getD (bq ((i:Nat):Int) ((j:Nat):Int)) 0) (List.map (j6 (bq ((i:Nat):Int) ((j:Nat):Int))) (kx k l)),fg 208 5 bs (cF W) (bq ((i:Nat):Int) ((j:Nat):Int)),aj n (dr bs) 156,aj b3 (ints (OpT.mk 5 ((i:Nat):Int) ((j:Nat):Int) o.key o.n o.change o.mask o.torn o.cut).flat) 30,aj c (eA n D M P) 104,dk d s.e.D,fK s d r]) (λk=>(max o.n 0% ((l.length:Nat):Int)).toNat-k) 0
     (yf _ (by omega)) SB
     (λ_ s=>az [0,0,0,0,0,0,0] rfl s) (λk hinv=>?_)
 obtain hk:=hinv;refine sr λ_ J11=>PS ?_
 refine am ?_ ?_<;>intro h37;refine nx J11 (aa λ_ J12=>CY (qx J12 (aa λ_ J13=>ap (af (PS ?_)))))
 refine kl (ab rfl) rfl rfl rfl I5 rfl (rR (bs.getD (bq ((i:Nat):Int) ((j:Nat):Int)) 0) (List.map (j6 (bq ((i:Nat):Int) ((j:Nat):Int))) (kx k l)) (by rw[bK,jQ];exact h8) (λx hx=>by
        obtain⟨m,_,rfl⟩:=eH.1 hx
        exact ut _ m)) (λ_ s=>s) (λ_ _ _=>trivial) (λvR HR hR=>?_)
 obtain rfl:=hR;rw[xk];refine au (ag (ac J13 (af (AD ?_))));refine PS ?_;refine au ?_
 exact aJ ((k+1):(Nat)) (by omega) (by show(max o.n 0% ((l.length:Nat):Int)).toNat- (k+1)< (max o.n 0% ((l.length:Nat):Int)).toNat-k;omega)
   SB
   (λ_ s=>az [0,0,0,0,0,0,0] rfl s)
 have hkr:k=(max o.n 0% ((l.length:Nat):Int)).toNat:=by omega
 refine cp (H':=[gA 208 5 (bs.getD (bq ((i:Nat):Int) ((j:Nat):Int)) 0) (List.map (j6 (bq ((i:Nat):Int) ((j:Nat):Int))) (m::l2)),fg 208 5 bs (cF W) (bq ((i:Nat):Int) ((j:Nat):Int)),aj n (dr bs) 156,aj b3 (ints (OpT.mk 5 ((i:Nat):Int) ((j:Nat):Int) o.key o.n o.change o.mask o.torn o.cut).flat) 30,aj c (eA n D M P) 104,dk d s.e.D,fK s d r]) (λ_ q=>by rw[hkr,ht]at q;exact q) (nx J11 (aa λ_ J14=>CN (aZ (aB (aB (bw (ac J9 (aa λ_ J15=>D2 3 4 dC ?_))))))));refine PD 0 ?_;refine PD 1 ?_;refine FD 2 0 ix yv ?_;refine LX 3 Hr (.pointer (some ⟨n,0,none⟩)) ?_ (hc:=by exact zh n D M P);refine FD 4 1 eZ aO ?_;refine LX 5 Y3 (.int .i64 (((i:Nat):Int))) ?_ (hc:=by exact bt _ rfl);refine FD 6 2 eZ aO ?_;refine LX 7 Y3 (.int .i64 (((j:Nat):Int))) ?_ (hc:=by exact hZ _ rfl);refine AL 8 ?_;refine cp (H':=[dP 156 208 5 n (cF (W.set (bq ((i:Nat):Int) ((j:Nat):Int)) (m::l2))),aj b3 (ints (OpT.mk 5 ((i:Nat):Int) ((j:Nat):Int) o.key o.n o.change o.mask o.torn o.cut).flat) 30,aj c (eA n D M P) 104,dk d s.e.D,fK s d r]) (λ_ q=>oJ (bs:=bs) hv hW (az [0,0,0] rfl q)) (CR I4 (pY n (cF (W.set (bq ((i:Nat):Int) ((j:Nat):Int)) (m::l2))) ((i:Nat):Int) ((j:Nat):Int) (dm m) (List.map (j6 (bq ((i:Nat):Int) ((j:Nat):Int))) l2) hv (oK _) (Dh hv hW) hm0 (by have:=rO m;omega)) ID λvR HR hR=>?_);obtain⟨uv,rfl,rfl⟩:=hR;rw[zM hv hW];refine EN (PD 9 ?_);refine PD 10 ?_
 refine PD 11 ?_;refine PD 12 ?_;refine PD 13 ?_;refine DN (ac J15 (aa λ_ J16=>sr λ_ J17=>FA 0 eZ aO ?_));refine LT 2 Y3 (.int .i64 5) ?_ (hc:=by exact cq _ rfl);refine P3 ?_;refine PS ?_;refine P3 ?_;refine FA 2 eZ aO ?_;refine LT 2 Y3 (.int .i64 (((j:Nat):Int))) ?_ (hc:=by exact hZ _ rfl);refine CE wH (oN c n j D M P hj d r s.e.D hD hM) (SM [3,3]) ?_;refine aX ?_ ?_<;>intro h64;refine PS ?_;refine PS ?_;refine nx J17 (CN (qx J16 (sr λ_ J18=>PS ?_)));refine CF Lq (Ba uv (dm m)) ID (y5 3 rfl rfl) ?_;refine P3 ?_;refine XZ lN (ints MsgT.zero.flat) λb8=>?_
 refine SW 0 bX aG ?_;refine PS ?_;refine nx J18 (aa λ_ J19=>sr λ_ J20=>P2 ?_);refine am ?_ ?_<;>intro h73;refine nx J20 (CY (qL (λw=>Frm F w∧w.heap[b3]?=some (.cells (ints (OpT.mk 5 ((i:Nat):Int) ((j:Nat):Int) o.key o.n o.change o.mask o.torn o.cut).flat).toArray 30 (0,0))∧w.heap[c]?=some (.cells (eA n D M P).toArray 104 (0,0))∧w.heap[b8]?=some (.cells (ints ((gO (dm m)).1).flat).toArray 178 (0,0))∧True) dC rfl (λ_ s=>⟨e5 s,s.block 5 (lb rfl) rfl,s.block 1 (lb rfl) rfl,s.block 0 (lb rfl) rfl,trivial⟩) (PD 0 ?_)));refine FD 1 2 eZ aO ?_;refine LX 2 Y3 (.int .i64 (((j:Nat):Int))) ?_ (hc:=by exact hZ _ rfl);refine PD 3 ?_;refine FD 4 6 ix qh ?_;refine IY 5 (6+j) Da nM ?_;refine LX 6 yd (.pointer (some ⟨r,0,none⟩)) ?_ (hc:=by exact(vT n D M P hj).trans (congrArg some hM));refine PD 7 ?_;refine FD 8 2 eZ aO ?_;refine LX 9 Y3 (.int .i64 (((j:Nat):Int))) ?_ (hc:=by exact hZ _ rfl);refine ta 10 rfl (jH (cells:=#[(.pointer (some ⟨c,0,none⟩)),(.int .i64 (((j:Nat):Int)))]) rfl rfl (by as_aux_lemma=>kernel_rfl)) ?_;refine ta 11 rfl (oz rfl Dc rfl rfl) ?_;refine FD 12 1 eZ aO ?_;refine LX 13 Y3 (.int .i64 (((i:Nat):Int))) ?_ (hc:=by exact bt _ rfl);refine LY 14 a8 bX aG ?_;refine AL 15 ?_
 refine cp (H':=[cD (vM c n d j D M P hj hD (W.set (bq ((i:Nat):Int) ((j:Nat):Int)) l2) (by rw[km];exact hW)) r s,aj b8 (ints ((gO (dm m)).1).flat) 178,gm uv (dm m) 5,aj b3 (ints (OpT.mk 5 ((i:Nat):Int) ((j:Nat):Int) o.key o.n o.change o.mask o.torn o.cut).flat) 30]) (λ_ q=>Ck ho (az [1,1,1,3] rfl q)) (CZ I3 (@yu _ (vM c n d j D M P hj hD (W.set (bq ((i:Nat):Int) ((j:Nat):Int)) l2) (by rw[km];exact hW)) r s ((i:Nat):Int) (gO (dm m)).1 hs (D4 _) hto hrs) ID λvR=>?_);change TL _ _ _ _ _ _ _ _ _ [cD (vM c n d j D M P hj hD (W.set (bq ((i:Nat):Int) ((j:Nat):Int)) l2) (by rw[km];exact hW)) r (fu KD s ((i:Nat):Int) (gO (dm m)).1),aj b8 (ints ((gO (dm m)).1).flat) 178,gm uv (dm m) 5,aj b3 (ints (OpT.mk 5 ((i:Nat):Int) ((j:Nat):Int) o.key o.n o.change o.mask o.torn o.cut).flat) 30];refine cp (H':=[aj c (eA n D M P) 104,dk d ((fu KD s ((i:Nat):Int) (gO (dm m)).1).e.D),dP 156 208 5 n (cF (gn (W.set (bq ((i:Nat):Int) ((j:Nat):Int)) l2) j (fu KD s ((i:Nat):Int) (gO (dm m)).1).o)),fK ((fu KD s ((i:Nat):Int) (gO (dm m)).1).hush) d r,aj b8 (ints ((gO (dm m)).1).flat) 178,gm uv (dm m) 5,aj b3 (ints (OpT.mk 5 ((i:Nat):Int) ((j:Nat):Int) o.key o.n o.change o.mask o.torn o.cut).flat) 30]) (λ_ q=>yX (s:=(fu KD s ((i:Nat):Int) (gO (dm m)).1)) q) (EN (DN (ac J19 (sr λ_ J21=>P2 ?_))));refine nx J21 (ai (WK [0,0,0,0] (aq rfl rfl ?_)))
 exact .inr (.inr ⟨(by simpa using h64),h73,(by rw[h73]),rfl⟩);refine nx J20 (CN (qx J19 (sr λ_ J22=>P2 ?_)));refine nx J22 (ai (WK [1,1,1,3] (aq rfl rfl ?_)));exact .inr (.inl ⟨(by simpa using h64),h73,rfl,rfl⟩);refine PS ?_;refine PS ?_;refine nx J17 (CY (sr λ_ J23=>PS ?_));refine nx J23 (ai (ae (WK [0,0,0,2] (aq rfl rfl ?_))));exact .inl ⟨(by simpa using h64),rfl,rfl⟩
end Go.Proofs.YtjblgopghhgflaaGreat
end

section
namespace Api
open Go Leg Codec Dsk Wal
class GdM(m:MsgT):Prop where
 kind:0≤m.kind∧m.kind≤9
class GdL(l:List SaidT):Prop where
 all: ∀x∈l,0≤x.msg.kind∧x.msg.kind≤9
theorem G9(n:Int):0< (tL n).length:=pk _
theorem AY(n:Int)(l:List Int):0< (bb (n::l)).length:=by
 show 0< (tL n++bb l).length;rw[ad];have:=G9 n;omega
theorem JD{m:MsgT}(h:0≤m.kind∧m.kind≤9):0< (dm m).length:=by
 have p: ∀(l:List Int) (r:List UInt8),0< (bb (m.kind::l)++r).length:=λl r=>by rw[ad];have:=AY m.kind l;omega
 unfold dm;split
 · exact p _ _
 rename_i h0;split
 · exact AY _ _
 split
 · exact p _ _
 rename_i h3;split
 · rw[aY,aY];exact p _ _
 split
 · rw[aY];exact p _ _
 split
 · exact p _ _
 split
 · exact p _ _
 · exfalso
   simp only[eY,e9,decide_eq_true_eq]at h0 h3;omega
instance (v:Int):GdM (rH v):=⟨(by decide:(0:Int)≤1∧(1:Int)≤9)⟩
instance (i:Int)(y:RowT):GdM (rC i y):=⟨(by decide:(0:Int)≤2∧(2:Int)≤9)⟩
instance (v:ViewT):GdM (jK v):=⟨(by decide:(0:Int)≤7∧(7:Int)≤9)⟩
instance (i:Int)(v:ViewT):GdM (nP i v):=⟨(by decide:(0:Int)≤8∧(8:Int)≤9)⟩
instance (i:Int)(y:RowT):GdM (gJ i y):=⟨(by decide:(0:Int)≤9∧(9:Int)≤9)⟩
instance (e:Int)(b:BallotT):GdM (fk e b):=⟨(by decide:(0:Int)≤3∧(3:Int)≤9)⟩
instance (e:Int)(b h:BallotT)(c:ChangeT):GdM (kg e b h c):=⟨(by decide:(0:Int)≤4∧(4:Int)≤9)⟩
instance (e:Int)(b:BallotT)(c:ChangeT):GdM (iI e b c):=⟨(by decide:(0:Int)≤5∧(5:Int)≤9)⟩
instance (e:Int)(b:BallotT):GdM (jv e b):=⟨(by decide:(0:Int)≤6∧(6:Int)≤9)⟩
instance (t:Int)(m:MsgT)[h:GdM m]:GdL [⟨t,m⟩]:=⟨λx hx=>by rw[da]at hx;subst hx;exact h.kind⟩
instance (i:Int)(m:MsgT)(p:Nat→Bool)(k:Nat)[h:GdM m]:GdL (ni i m p k):=⟨λx hx=>by
 unfold ni at hx;obtain⟨j,_,rfl⟩:=eH.1 hx
 exact h.kind⟩
instance (x:RepT):GdL (oQ x):=⟨λs hs=>by
 unfold oQ at hs;rw[eH]at hs;obtain⟨w,_,rfl⟩:=hs
 exact(show(0:Int)≤0∧(0:Int)≤9 by decide)⟩
section
variable {δ:Type} {K:Dk δ} {s0 s:MS δ}
class Qt(s0 s:MS δ):Prop where
 id:s.id=s0.id
 replies:s.replies=s0.replies
 ops:s.ops=s0.ops
 waits:s.waits=s0.waits∨s.waits=0
 o: ∃l,s.o=s0.o++l∧∀x∈l,0≤x.msg.kind∧x.msg.kind≤9
instance Qt.rfl':Qt s s:=⟨rfl,rfl,rfl, .inl rfl,[],(aM _).symm,λ_ h=>by cases h⟩
theorem Qt.trans{a b c:MS δ}(h:Qt a b)(g:Qt b c):Qt a c:=by
 obtain⟨l,e,hl⟩:=h.o;obtain⟨l2,e2,hl2⟩:=g.o;exact⟨g.id.trans h.id,g.replies.trans h.replies,g.ops.trans h.ops,g.waits.elim (λq=>h.waits.imp (q.trans ·) (q.trans ·)) .inr,l++l2,by rw[e2,e,aY],λx hx=>(cx.1 hx).elim (hl x) (hl2 x)⟩
theorem Qt.same{t:MS δ}(h:Qt s0 s)(h1:t.id=s.id)(h2:t.replies=s.replies)(h3:t.ops=s.ops)(h4:t.waits=s.waits)(h5:t.o=s.o):Qt s0 t:=
 ⟨h1.trans h.id,h2.trans h.replies,h3.trans h.ops,by rw[h4];exact h.waits,by rw[h5];exact h.o⟩
instance [h:Qt s0 s](l:List SaidT)[g:GdL l]:Qt s0 (it K s l):=by
 refine h.trans ⟨rfl,rfl,rfl, .inl rfl,?_⟩
 by_cases q:K.dn s.e=true
 · exact⟨[],by rw[it,if_pos q,aM],λ_ h=>by cases h⟩
 · exact⟨l,by rw[it,if_neg q],g.all⟩
instance [h:Qt s0 s](t:Int)(m:MsgT)[GdM m]:Qt s0 (B5 K s t m):=inferInstanceAs (Qt s0 (it K s _))
instance [h:Qt s0 s](r:RecT):Qt s0 (dY K s r):=h.same rfl rfl rfl rfl rfl
instance [h:Qt s0 s](f:Int):Qt s0 (iq s f):=h.same rfl rfl rfl rfl rfl
instance [h:Qt s0 s](w:Int)(x:RowT):Qt s0 (D7 s w x):=h.same rfl rfl rfl rfl rfl
instance [h:Qt s0 s]:Qt s0 (gy s):=h.same rfl rfl rfl rfl rfl
instance [h:Qt s0 s](w:Int)(x:RowT):Qt s0 (io s w x):=h.same rfl rfl rfl rfl rfl
instance [h:Qt s0 s](w:Int):Qt s0 (ly s w):=h.same rfl rfl rfl rfl rfl
instance [h:Qt s0 s](x:RowT):Qt s0 (tt s x 0):=⟨h.id,h.replies,h.ops, .inr rfl,h.o⟩
instance [Qt s0 s]:Qt s0 (fe K s):=inferInstanceAs (Qt s0 (it K s _))
instance [Qt s0 s](y:RowT):Qt s0 (lZ K s y):=inferInstanceAs (Qt s0 (it K s _))
instance [Qt s0 s](v:ViewT):Qt s0 (m7 K s v):=inferInstanceAs (Qt s0 (it K s _))
instance [Qt s0 s](m:MsgT)[GdM m]:Qt s0 (jr K s m):=inferInstanceAs (Qt s0 (it K s _))
instance [Qt s0 s](x:RowT):Qt s0 (eF K s x 0).1:=by unfold eF;split<;>exact inferInstance
instance [h:Qt s0 s]:Qt s0 (mq K s):=by
 unfold mq;split
 · exact h
 split
 · exact inferInstance
 · exact h
instance [h:Qt s0 s](f:Int)(m:MsgT):Qt s0 (iD K s f m):=by
 unfold iD
 repeat' split
 all_goals exact inferInstance
instance [h:Qt s0 s](w:Int)(x:RowT):Qt s0 (k8 s w x):=h.same rfl rfl rfl rfl rfl
instance [h:Qt s0 s](f w:Int)(y:RowT):Qt s0 (uB s f w y):=h.same rfl rfl rfl rfl rfl
instance [h:Qt s0 s](f:Int)(m:MsgT):Qt s0 (fM K s f m):=by unfold fM;split<;>exact inferInstance
theorem oX[Qt s0 s]{f:MS δ→MS δ}(hf:Qt s0 (f s))(t:Int)(m:MsgT)[GdM m]:Qt s0 (mH K f s t m):=by unfold mH;split;exact hf;exact inferInstance
instance [h:Qt s0 s](f w:Int):Qt s0 (fj K s f w):=by
 unfold fj
 repeat' split
 · exact h
 · exact oX inferInstance _ _
 · exact inferInstance
 · exact oX inferInstance _ _
instance [h:Qt s0 s](i w:Int):Qt s0 (gQ K s i w):=by
 unfold gQ;split
 · exact h
 · exact oX inferInstance _ _
instance [Qt s0 s](i:Int):Qt s0 (pp K s i):=by unfold pp;exact inferInstance
theorem xZ: ∀(l:List Int) (s:MS δ),Qt s0 s→Qt s0 (fL K l s)
 | [],_,h=>h
 |i::l,s,h=>xZ l (pp K s i) inferInstance
instance [h:Qt s0 s]:Qt s0 (qE K s):=xZ _ _ h
instance [h:Qt s0 s](v:ViewT):Qt s0 (mo s v):=h.same rfl rfl rfl rfl rfl
instance [h:Qt s0 s](v:ViewT):Qt s0 (gW K s v):=by
 unfold gW
 repeat' split
 all_goals exact inferInstance
instance [h:Qt s0 s](f:Int)(m:MsgT):Qt s0 (l3 K s f m):=by unfold l3;exact inferInstance
instance [h:Qt s0 s](c:ChangeT):Qt s0 (kM K s c):=by
 unfold kM
 repeat' split
 all_goals exact inferInstance
instance [h:Qt s0 s](n:Int):Qt s0 (dd s n):=h.same rfl rfl rfl rfl rfl
instance [h:Qt s0 s](v:VoteT):Qt s0 (kO s v):=h.same rfl rfl rfl rfl rfl
instance [h:Qt s0 s](a:AccT):Qt s0 (wh s a):=h.same rfl rfl rfl rfl rfl
instance [h:Qt s0 s](f:Int)(m:MsgT):Qt s0 (kQ K f m s):=by
 unfold kQ;split
 · exact h
 · split<;>exact inferInstance
theorem qZ[h:Qt s0 s]{f:MS δ→MS δ}(hf: ∀s:MS δ,Qt s0 s→Qt s0 (f s))(w:Int)(m:MsgT):Qt s0 (eE K f s w m):=by
 unfold eE
 repeat' split
 · exact inferInstance
 · exact h
 · exact h
 · exact hf _ inferInstance
instance [Qt s0 s](w:Int)(m:MsgT):Qt s0 (qe K s w m):=qZ (λ_ _=>inferInstance) w m
instance [h:Qt s0 s](w:Int)(m:MsgT):Qt s0 (nf K w m s):=by unfold nf;exact oX inferInstance _ _
instance [h:Qt s0 s](w:Int)(m:MsgT):Qt s0 (oi K w m s):=by
 unfold oi
 repeat' split
 all_goals exact inferInstance
instance [Qt s0 s](w:Int)(m:MsgT):Qt s0 (st K s w m):=qZ (λ_ _=>inferInstance) w m
theorem td[h:Qt s0 s]{f:MS δ→MsgT→MS δ}{m:MsgT}[GdM m](hf: ∀s:MS δ,Qt s0 s→Qt s0 (f s m)):Qt s0 (jx K f s m):=by
 unfold jx;split
 · exact hf _ inferInstance
 · exact inferInstance
instance [h:Qt s0 s](vt:VoteT):Qt s0 (kh K s vt):=td λ_ _=>inferInstance
instance [h:Qt s0 s](f:Int)(m:MsgT):Qt s0 (oL K f m s):=by
 unfold oL;split
 · exact h
 · split<;>exact inferInstance
instance [Qt s0 s](w:Int)(m:MsgT):Qt s0 (qg K s w m):=qZ (λ_ _=>inferInstance) w m
instance [h:Qt s0 s](w:Int)(m:MsgT)(a:AccT):Qt s0 (nA K w m a s):=by unfold nA;exact oX inferInstance _ _
instance [h:Qt s0 s](w:Int)(m:MsgT):Qt s0 (pw K w m s):=by
 unfold pw
 repeat' split
 all_goals exact inferInstance
instance [Qt s0 s](w:Int)(m:MsgT):Qt s0 (su K s w m):=qZ (λ_ _=>inferInstance) w m
instance [h:Qt s0 s](vt:VoteT):Qt s0 (mi K s vt):=td λ_ _=>inferInstance
instance [h:Qt s0 s](vt:VoteT):Qt s0 (nh K s vt):=by unfold nh;split<;>exact inferInstance
instance [h:Qt s0 s](c:ChangeT):Qt s0 (qH K s c):=by unfold qH;exact inferInstance
instance [h:Qt s0 s](c:ChangeT):Qt s0 (cn K s c).1:=by
 unfold cn
 repeat' split
 all_goals exact inferInstance
instance [h:Qt s0 s]:Qt s0 (bS K s):=by unfold bS;split<;>exact inferInstance
instance [h:Qt s0 s]:Qt s0 (cb K s):=by unfold cb;split<;>exact inferInstance
instance [h:Qt s0 s]:Qt s0 (fQ K s):=by unfold fQ;split<;>exact inferInstance
instance [h:Qt s0 s]:Qt s0 (rf K s):=by
 unfold rf;split
 · exact h
 · repeat' split
   all_goals exact inferInstance
instance [h:Qt s0 s]:Qt s0 (hO K s):=by unfold hO;split<;>exact inferInstance
structure Rp(s0 s:MS δ)(l:List ReplyT):Prop where
 id:s.id=s0.id
 replies:s.replies=s0.replies++l
 o: ∃l,s.o=s0.o++l∧∀x∈l,0≤x.msg.kind∧x.msg.kind≤9
theorem Qt.rp(h:Qt s0 s):Rp s0 s []:=⟨h.id,by rw[h.replies,aM],h.o⟩
theorem Rp.then{l:List ReplyT}{t:MS δ}(h:Rp s0 s l)(g:Qt s t):Rp s0 t l:=by
 obtain⟨l1,e,hl⟩:=h.o;obtain⟨l2,e2,hl2⟩:=g.o;exact⟨g.id.trans h.id,g.replies.trans h.replies,l1++l2,by rw[e2,e,aY],λx hx=>(cx.1 hx).elim (hl x) (hl2 x)⟩
theorem F2(s:MS δ)(f:Int)(m:MsgT):Qt s (dH K s f m)∨(0<s.waits∧Rp s (dH K s f m) [⟨s.waits,0,0⟩]∧(dH K s f m).waits=0∧(dH K s f m).ops=s.ops):=by
 unfold dH;split
 · split
   · by_cases hw:0<s.waits
     · right
       have e:lH (gy (iq s f))= {de (gy (iq s f)) s.waits 0 0 with waits:=0}:=xg (s:=gy (iq s f)) hw;have q:Qt (lH (gy (iq s f))) (ld K (iq s f)):=by unfold ld;exact inferInstance
       have hw0:(lH (gy (iq s f))).waits=0:=by rw[e]
       refine⟨hw,Rp.then (s:=lH (gy (iq s f))) ?_ q,(q.waits.elim (·.trans hw0) id),q.ops.trans (by rw[e];rfl)⟩;rw[e];exact⟨rfl,rfl,[],(aM _).symm,λ_ h=>by cases h⟩
     · left
       unfold ld;rw[xh (s:=gy (iq s f)) hw];exact inferInstance
   · left;exact inferInstance
 · left;exact inferInstance
theorem tV(s:MS δ)(f:Int)(m:MsgT):Qt s (fu K s f m)∨(0<s.waits∧Rp s (fu K s f m) [⟨s.waits,0,0⟩]∧(fu K s f m).waits=0∧(fu K s f m).ops=s.ops):=by
 unfold fu
 by_cases h1:m.kind=1
 · rw[if_neg (by omega),if_pos h1];exact F2 s f m
 · left
   rw[if_neg h1]
   repeat' split
   all_goals exact inferInstance
theorem DW(s:MS δ)(x:RowT)(op:Int):((eF K s x op).2≠0∧Qt s (eF K s x op).1)∨((eF K s x op).2=0∧Rp s (eF K s x op).1 []∧(eF K s x op).1.waits=op∧(eF K s x op).1.ops=s.ops):=by
 unfold eF;split
 · rename_i h;exact .inl ⟨h,inferInstance⟩
 · right
   have q:Qt (tt (dY K s (kc x)) x op) (fe K (tt (dY K s (kc x)) x op)):=inferInstance;refine⟨rfl,Rp.then (s:=tt (dY K s (kc x)) x op) ⟨rfl,(aM _).symm,[],(aM _).symm,λ_ h=>by cases h⟩ q,?_,q.ops⟩;show(fe K _).waits=_;rfl
theorem sN(s:MS δ)(o:OpT):(∃e v,Rp s (bP K s o).1 [⟨fZ (s.ops+1),e,v⟩]∧(bP K s o).2=e∧(bP K s o).1.ops=fZ (s.ops+1)∧((bP K s o).1.waits=s.waits∨(bP K s o).1.waits=0))∨(Rp s (bP K s o).1 []∧(bP K s o).2=0∧(bP K s o).1.ops=fZ (s.ops+1)∧(bP K s o).1.waits=fZ (s.ops+1)):=by
 have e0:Rp s (br s) []:=⟨rfl,(aM _).symm,[],(aM _).symm,λ_ h=>by cases h⟩
 have rep: ∀(t:MS δ) (op e v:Int),Qt (br s) t→op=fZ (s.ops+1)→Rp s (de t op e v) [⟨fZ (s.ops+1),e,v⟩]∧(de t op e v).ops=fZ (s.ops+1)∧((de t op e v).waits=s.waits∨(de t op e v).waits=0):=λt op e v h ho=>by
  subst ho;obtain⟨l,e1,hl⟩:=h.o;exact⟨⟨h.id,by show t.replies++_=_;rw[h.replies];rfl,l,e1,hl⟩,h.ops,h.waits⟩
 unfold bP;split
 · left
   unfold dN;split
   · obtain⟨a,b,c⟩:=rep (br s) _ (fm (br s) o.change) 0 inferInstance rfl
     exact⟨_,_,a,rfl,b,c⟩
   · split
     · obtain⟨a,b,c⟩:=rep (cn K (br s) o.change).1 _ (cn K (br s) o.change).2 0 inferInstance rfl
       exact⟨_,_,a,rfl,b,c⟩
     · obtain⟨a,b,c⟩:=rep (cn K (br s) o.change).1 _ 0 0 inferInstance rfl
       have q:Qt (de (cn K (br s) o.change).1 (br s).ops 0 0) (nh K (de (cn K (br s) o.change).1 (br s).ops 0 0) (jc (br s).view (en (br s)) o.change)):=inferInstance;exact⟨_,_,a.then q,rfl,q.ops.trans b,q.waits.elim (λw=>c.imp (w.trans ·) (w.trans ·)) .inr⟩
 · unfold mZ
   split
   · left
     obtain⟨a,b,c⟩:=rep (br s) _ (cZ (br s) o).2.2 (cZ (br s) o).2.1 inferInstance rfl;exact⟨_,_,a,rfl,b,c⟩
   · rcases DW (K:=K) (br s) (cZ (br s) o).1 (br s).ops with⟨h,q⟩| ⟨h,q,hw,ho⟩
     · rw[if_pos h]
       left;obtain⟨a,b,c⟩:=rep _ _ (eF K (br s) (cZ (br s) o).1 (br s).ops).2 0 q rfl;exact⟨_,_,a,rfl,b,c⟩
     · rw[if_neg (by omega)]
       right;obtain⟨l,e1,hl⟩:=q.o;exact⟨⟨q.id,q.replies,l,e1,hl⟩,rfl,ho,hw⟩
end
def Slot.pend(x:Slot):Nat:=match x.run with
 |some s=>if 0<s.waits then 1 else 0
 |none=>0
structure SlotOk(i n:Nat)(x:Slot):Prop where
 run: ∀s,x.run=some s→OkR KD s∧s.id=((i:Nat):Int)∧s.o=[]
 D:x.run=none→DkOk x.D
 reps:x.reps.length+x.pend≤n
structure CLOk(n:Nat)(a:CL):Prop where
 ms:a.ms.length=5
 W:a.W.length=25
 at': ∀i,i<5→SlotOk i n (a.at' i)
 way: ∀k,(a.W.getD k []).length≤8∧∀m∈a.W.getD k [],0< (dm m).length
structure OkOp(o:OpT):Prop where
 change:OkCh o.change
 n:o.n≤9223372036854775807
theorem SlotOk.dk{i n:Nat}{x:Slot}(h:SlotOk i n x):DkOk x.dk:=by
 unfold Slot.dk;split
 · rename_i s q;exact(h.run s q).1.e.dk
 · rename_i q;exact h.D q
theorem SlotOk.more{i n k:Nat}{x:Slot}(h:SlotOk i n x)(hk:n≤k):SlotOk i k x:=⟨h.run,h.D,xa h.reps hk⟩
theorem CLOk.more{n k:Nat}{a:CL}(h:CLOk n a)(hk:n≤k):CLOk k a:=⟨h.ms,h.W,λi hi=>(h.at' i hi).more hk,h.way⟩
theorem sS{ms:List Slot}{W:List (List MsgT)}{i:Nat}{x:Slot}(h:i<ms.length):(CL.mk (ms.set i x) W).at' i=x:=by
 unfold CL.at';rw[List.getD_eq_getElem?_getD,List.getElem?_set_self h];rfl
theorem tE{ms:List Slot}{W:List (List MsgT)}{i j:Nat}{x:Slot}(h:j≠i):(CL.mk (ms.set i x) W).at' j=ms.getD j .nil:=by
 unfold CL.at';rw[List.getD_eq_getElem?_getD,List.getElem?_set_ne (λe=>h e.symm),←List.getD_eq_getElem?_getD]
theorem CLOk.put{n k i:Nat}{a:CL}(h:CLOk n a)(hk:n≤k)(hi:i<5){x:Slot}(hx:SlotOk i k x){W:List (List MsgT)}(hW:W.length=25)(hw: ∀k,(W.getD k []).length≤8∧∀m∈W.getD k [],0< (dm m).length):CLOk k ⟨a.ms.set i x,W⟩:=
 ⟨by show(a.ms.set i x).length=5;rw[km];exact h.ms,hW,λj hj=>by
  by_cases q:j=i
  · subst q;rw[sS (by rw[h.ms];exact hi)];exact hx
  · rw[tE q];exact(h.at' j hj).more hk,hw⟩
theorem HZ{W:List (List MsgT)}(hw: ∀k,(W.getD k []).length≤8∧∀m∈W.getD k [],0< (dm m).length)(f:Nat)(s:SaidT)(hs:0< (dm s.msg).length): ∀k,((ry W f s).getD k []).length≤8∧∀m∈(ry W f s).getD k [],0< (dm m).length:=λk=>by
 unfold ry;split
 · by_cases q:k=bq ((f:Nat):Int) s.to'
   · subst q
     by_cases hl:bq ((f:Nat):Int) s.to'<W.length
     · rw[List.getD_eq_getElem?_getD,List.getElem?_set_self hl]
       obtain⟨h1,h2⟩:=hw (bq ((f:Nat):Int) s.to');simp only[Option.getD_some];split
       · refine⟨by rw[ad,fW];omega,λm hm=>?_⟩
         rcases cx.1 hm with hm|hm
         · exact h2 m hm
         · rw[da]at hm;subst hm;exact hs
       · exact⟨h1,h2⟩
     · rw[ji (by omega)];exact hw _
   · rw[List.getD_eq_getElem?_getD,List.getElem?_set_ne (λe=>q e.symm),←List.getD_eq_getElem?_getD];exact hw k
 · exact hw k
theorem Af(f:Nat): ∀(l:List SaidT) {W:List (List MsgT)},(∀x∈l,0< (dm x.msg).length)→(∀k,(W.getD k []).length≤8∧∀m∈W.getD k [],0< (dm m).length)→∀k,((gn W f l).getD k []).length≤8∧∀m∈(gn W f l).getD k [],0< (dm m).length
 | [],_,_,hw=>hw
 |s::l,W,hl,hw=>Af f l (W:=ry W f s) (λx hx=>hl x (iT _ hx)) (HZ hw f s (hl s (fq ..)))
theorem As(W:List (List MsgT))(f:Nat)(s:SaidT):(ry W f s).length=W.length:=by unfold ry;split<;>simp
theorem rk(f:Nat): ∀(l:List SaidT) (W:List (List MsgT)),(gn W f l).length=W.length
 | [],_=>rfl
 |s::l,W=>(rk f l _).trans (As W f s)
theorem Ig{s:MS LD}(h:OkR KD s):OkR KD s.hush:=⟨h.e,h.id,h.view,h.own,h.mir,h.book,h.last,h.acc,h.vote⟩
def owe(s:MS LD):Nat:=if 0<s.waits then 1 else 0
theorem CLOk.did{n i k:Nat}{a:CL}(h:CLOk n a)(hk:n≤k)(hi:i<5){s s':MS LD}(hs:(a.at' i).run=some s)(h':OkR KD s'){l:List ReplyT}(r:Rp s s' l)(hl:l.length+owe s'+n≤k+owe s):CLOk k (a.did i s'):=by
 obtain⟨h1,h2,h3⟩:=(h.at' i hi).run s hs;obtain⟨lo,e,hlo⟩:=r.o;rw[h3,ce]at e;refine h.put hk hi ⟨λt q=>?_,(λq=>by cases q),?_⟩ (by rw[rk];exact h.W) (Af i _ (λx hx=>JD (hlo x (by rw[←e];exact hx))) h.way)
 · obtain rfl:=cR q
   exact⟨Ig h',r.id.trans h2,rfl⟩
 · have:=(h.at' i hi).reps
   unfold Slot.reps Slot.pend at this ⊢;rw[hs]at this;show((a.at' i).past++s'.replies).length+(if 0<s'.waits then 1 else 0)≤k;rw[r.replies];unfold owe at hl;simp only[ad]at this ⊢;omega
theorem Qt.owe{s s':MS LD}(q:Qt s s'):Api.owe s'≤Api.owe s:=by
 unfold Api.owe;rcases q.waits with e|e
 · rw[e];exact aP _
 · rw[e];exact aN _
theorem Ko(s:MS LD):owe s≤1:=by unfold owe;split<;>omega
theorem CLOk.quiet{n i:Nat}{a:CL}(h:CLOk n a)(hi:i<5){s s':MS LD}(hs:(a.at' i).run=some s)(h':OkR KD s')(q:Qt s s'):CLOk n (a.did i s'):=
 h.did (aP _) hi hs h' q.rp (by have:=q.owe;show 0+_+n≤_;omega)
theorem CLOk.onway{n k:Nat}{a:CL}(h:CLOk n a){l:List MsgT}(hl:l.length≤8∧∀m∈l,0< (dm m).length):CLOk n (a.way k l):=
 ⟨h.ms,by show(a.W.set k l).length=25;rw[km];exact h.W,h.at',λj=>by
  show((a.W.set k l).getD j []).length≤8∧_
  by_cases q:j=k
  · subst q
    by_cases hk:j<a.W.length
    · show((a.W.set j l).getD j []).length≤8∧∀m∈(a.W.set j l).getD j [],_
      rw[List.getD_eq_getElem?_getD,List.getElem?_set_self hk];exact hl
    · show((a.W.set j l).getD j []).length≤8∧∀m∈(a.W.set j l).getD j [],_
      rw[ji (by omega)];exact h.way j
  · show((a.W.set k l).getD j []).length≤8∧∀m∈(a.W.set k l).getD j [],_
    rw[List.getD_eq_getElem?_getD,List.getElem?_set_ne (λe=>q e.symm),←List.getD_eq_getElem?_getD];exact h.way j⟩
theorem gM{w:Int}(h:eX w=true):w.toNat<5∧((w.toNat:Nat):Int)=w:=by
 have:0≤w∧w<5:=of_decide_eq_true h;omega
theorem Ir{n f t:Nat}{a:CL}(h:CLOk n a)(ht:t<5)(m:MsgT):CLOk n (p4 a f t m).1:=by
 unfold p4;split
 · exact h
 · rename_i s hs
   split
   · exact h
   · split
     · obtain⟨h1,_,_⟩:=(h.at' t ht).run s hs
       have hm:=D4 (dm m);rcases tV (K:=KD) s ((f:Nat):Int) (gO (dm m)).1 with q| ⟨hw,q,q2,_⟩
       · exact h.quiet ht hs inferInstance q
       · refine h.did (aP _) ht hs inferInstance q ?_
         unfold owe;rw[q2,if_pos hw];show 1+(if(0:Int)<0 then 1 else 0)+n≤n+1;rw[if_neg (by omega)];omega
     · exact h
theorem Ji{n:Nat}{a:CL}(h:CLOk n a)(o:OpT):CLOk n (m5 a o).1:=by
 unfold m5;split
 · exact h
 · rename_i hv
   have hv:dA o.at' o.to'=true:=by simpa using hv
   have hw:=h.way (bq o.at' o.to');split
   · exact h
   · rename_i m l hl
     rw[hl]at hw;split
     · split
       · refine h.onway ⟨?_,λx hx=>?_⟩
         · rename_i q
           unfold FX at q;have q:=of_decide_eq_true q;unfold BK;rw[if_pos q,ad,fW];omega
         · unfold BK at hx
           split at hx
           · rcases cx.1 hx with hx|hx
             · exact hw.2 x hx
             · rw[da]at hx;subst hx;exact hw.2 _ (fq ..)
           · exact hw.2 x hx
       · exact h
     · split
       · exact h
       · rename_i m2 l2 hl2
         have hlen:=jQ (max o.n 0% ((m::l).length:Int)).toNat (m::l);have hmem:=λx=>(nJ (x:=x) (max o.n 0% ((m::l).length:Int)).toNat (m::l)).1
         rw[hl2]at hlen hmem;have g:CLOk n (a.way (bq o.at' o.to') l2):=h.onway ⟨by simp only[ax]at hlen hw;omega,λx hx=>hw.2 x (hmem x (iT _ hx))⟩
         have ht:o.to'.toNat<5:=by
          unfold dA at hv;rw[av,av]at hv;exact(gM hv.1.2).1
         split
         · exact g
         · exact Ir g ht m2
theorem zS{n i:Nat}(hi:i<5){x:Slot}(h:SlotOk i n x):SlotOk i n (gx i x).1:=by
 unfold gx;split
 · exact h
 · rename_i hr
   have hD:=h.D hr;refine⟨λs q=>?_,λ_=>hD.open.1,?_⟩
   · obtain⟨h1,f⟩:=xn hi hD q
     exact⟨h1,f.id,f.o⟩
   · have:=h.reps
     unfold Slot.reps Slot.pend at this ⊢;rw[hr,aM]at this;show(x.past++match(dI i x.D).1 with|some s=>s.replies|none=>[]).length+(match(dI i x.D).1 with|some s=>if 0<s.waits then 1 else 0|none=>0)≤n;cases q:(dI i x.D).1 with
     |some s=>
      have f:=(xn hi hD q).2;simp only[f.replies,f.waits,aM]
      simpa using this
     |none=>simpa using this
theorem JJ{n i:Nat}{x:Slot}(h:SlotOk i n x){k:Int}(hk:k≤9223372036854775807):SlotOk i n (sT x k):=by
 unfold sT;split
 · rename_i s hs
   obtain⟨h1,h2,h3⟩:=h.run s hs;refine⟨λt q=>?_,(λq=>by cases q),?_⟩
   · obtain rfl:=cR q
     exact⟨⟨⟨h1.e.dk.arm k hk,h1.e.used,h1.e.cnt⟩,h1.id,h1.view,h1.own,h1.mir,h1.book,h1.last,h1.acc,h1.vote⟩,h2,h3⟩
   · have:=h.reps
     unfold Slot.reps Slot.pend at this ⊢;rw[hs]at this;exact this
 · rename_i hr
   refine⟨λt q=>?_,λ_=>(h.D hr).arm k hk,?_⟩
   · rw[show x.run=some t from q]at hr;cases hr
   · have:=h.reps
     unfold Slot.reps Slot.pend at this ⊢;rw[hr]at this;simp only[hr];exact this
theorem crash_ok{n i:Nat}{x:Slot}(h:SlotOk i n x)(mask torn cut:Int):SlotOk i n (mW x mask torn cut):=
 ⟨(λt q=>by cases q),λ_=>h.dk.crash mask torn cut,by
  have:=h.reps;show(x.reps++[]).length+0≤n
  rw[aM];omega⟩
theorem CB{n:Nat}{a:CL}(h:CLOk n a){o:OpT}(ho:OkOp o)(hk: ¬(0≤o.kind∧o.kind≤4)):CLOk n (nG a o).1:=by
 unfold nG;split
 · exact h
 rename_i hm;have hm:eX o.at'=true:=by simpa using hm
 have hi:=(gM hm).1;split
 · exact Ji h o
 split
 · unfold ys
   split
   · exact h
   · rename_i s hs
     split
     · exact h
     · obtain⟨h1,_,_⟩:=(h.at' _ hi).run s hs
       exact h.quiet hi hs inferInstance inferInstance
 split
 · exact h.put (aP _) hi (JJ (h.at' _ hi) ho.n) h.W h.way
 split
 · exact h.put (aP _) hi (crash_ok (h.at' _ hi) _ _ _) h.W h.way
 split
 · exact h.put (aP _) hi (zS hi (h.at' _ hi)) h.W h.way
 · exact h
theorem xX{n:Nat}{a:CL}(h:CLOk n a){o:OpT}(ho:OkOp o):CLOk (n+1) (nG a o).1:=by
 by_cases hk:0≤o.kind∧o.kind≤4
 · unfold nG
   split
   · exact h.more (by omega)
   rename_i hm;have hm:eX o.at'=true:=by simpa using hm
   have hi:=(gM hm).1;unfold sO;split
   · exact h.more (by omega)
   · rename_i s hs
     split
     · exact h.more (by omega)
     · obtain⟨h1,_,_⟩:=(h.at' _ hi).run s hs
       have:=ho.change;rcases sN (K:=KD) s o with⟨e,v,q,_,_,w⟩| ⟨q,_⟩
       · refine h.did (by omega) hi hs inferInstance q ?_
         have:owe (bP KD s o).1≤owe s:=by
          unfold owe;rcases w with e|e
          · rw[e];exact aP _
          · rw[e];exact aN _
         show 1+_+n≤_;omega
       · refine h.did (by omega) hi hs inferInstance q ?_
         have:=Ko (bP KD s o).1;show 0+_+n≤_;omega
 · exact(CB h ho hk).more (by omega)
theorem new_ok:CLOk 0 CL.new:=by
 refine⟨by simp[CL.new],by simp[CL.new],λi hi=>?_,λk=>?_⟩
 · have e:CL.new.at' i=lS i:=by simp[CL.new,CL.at',List.getD_eq_getElem?_getD,hi]
   rw[e];exact zS hi ⟨(λs q=>by cases q),λ_=>DkOk.new,aP _⟩
 · have e:CL.new.W.getD k []=[]:=by
    show(List.replicate 25 ([]:List MsgT)).getD k []=[];rw[List.getD_eq_getElem?_getD,List.getElem?_replicate];split<;>rfl
   rw[e];exact⟨aN _,λm hm=>by cases hm⟩
theorem B6: ∀(l:List OpT) {n:Nat} {a:CL},CLOk n a→(∀o∈l,OkOp o)→CLOk (n+l.length) (bV a l)
 | [],_,_,h,_=>h
 |o::l,n,a,h,ho=>by
  have:=B6 l (xX h (ho o (fq ..))) λx hx=>ho x (iT _ hx)
  rw[ax,show n+(l.length+1)=n+1+l.length by omega];exact this
end Api
end

section
namespace Go.Proofs.YtjblgopghhgflaaGreat
open Go Leg Codec Api Dsk Wal
theorem xB{f:Nat→HP}{k i:Nat}(hi:i<k){H:List HP}{h:Hl}(s:bH (bH ((List.range k).map f)::H) h):bH (f i::bH (((List.range k).map f).eraseIdx i)::H) h:=by
 have s1:bH ((List.range k).map f++H) h:=(bY _ _).2 s;have e:((List.range k).map f).getD i (λ_=>True)=f i:=by simp[List.getD_eq_getElem?_getD,hi]
 have p:=mj (λ_=>True) ((List.range k).map f) i (by simpa using hi);rw[e]at p;exact cA (dX (p.append_right H) s1) (λ_ a=>a) λ_ b=>(bY _ _).1 b
theorem xA{f g:Nat→HP}{k i:Nat}(hi:i<k)(hg: ∀j,j≠i→g j=f j){H:List HP}{h:Hl}(s:bH (g i::bH (((List.range k).map f).eraseIdx i)::H) h):bH (bH ((List.range k).map g)::H) h:=by
 have e0:((List.range k).map g).eraseIdx i=((List.range k).map f).eraseIdx i:=by
  refine List.ext_getElem? λj=>?_
  rw[List.getElem?_eraseIdx,List.getElem?_eraseIdx]
  have: ∀m,m≠i→((List.range k).map g)[m]?=((List.range k).map f)[m]?:=λm hm=>by
   rw[List.getElem?_map,List.getElem?_map]
   by_cases hk:m<k
   · simp[hk,hg m hm]
   · simp[hk]
  split
  · exact this j (by omega)
  · exact this (j+1) (by omega)
 have e:((List.range k).map g).getD i (λ_=>True)=g i:=by simp[List.getD_eq_getElem?_getD,hi]
 have p:=mj (λ_=>True) ((List.range k).map g) i (by simpa using hi);rw[e,e0]at p;have s2:bH ((g i::((List.range k).map f).eraseIdx i)++H) h:=cA s (λ_ a=>a) λ_ b=>(bY _ _).2 b
 exact(bY _ _).1 (dX (p.symm.append_right H) s2)
section
variable {f:FuncId} {args:Array Value} {Q:Value→Prop} {c i:Nat} {a a':CL}
theorem zf(hi:i<5){Z:Value→CL→Prop}(hne: ∀v a',Z v a'→∀j,j≠i→a'.at' j=a.at' j)
 (core: ∀g:CX,DT f args T0 (aj c (eA g.n (lc g) (jd a g.r) g.p) 104::dP 156 208 5 g.n (cF a.W)::jV (a.at' i) (g.d i) (g.r i) (g.p i))
  (dw λv H=>∃a',Z v a'∧∃g':CX,g'.n=g.n∧(∀j,j≠i→g'.d j=g.d j∧g'.r j=g.r j∧g'.p j=g.p j)∧H=aj c (eA g.n (lc g') (jd a' g'.r) g'.p) 104::dP 156 208 5 g.n (cF a'.W)::jV (a'.at' i) (g'.d i) (g'.r i) (g'.p i))):
 DT f args T0 [fx c a] (dw λv H=>∃a',Z v a'∧H=[fx c a']):=by
 refine Leg.Does.ex (A':=λg:CX=>(aj c (eA g.n (lc g) (jd a g.r) g.p) 104::dP 156 208 5 g.n (cF a.W)::jV (a.at' i) (g.d i) (g.r i) (g.p i))++[bH (((List.range 5).map λi=>ka (a.at' i) (g.d i) (g.r i) (g.p i)).eraseIdx i)]) (λh s=>?_) λg=>?_
 · obtain⟨g,s⟩:=ff s
   have s2:=xB (f:=λi=>ka (a.at' i) (g.d i) (g.r i) (g.p i)) hi (az [2,0,0] rfl s);have s3:=(bY (jV (a.at' i) (g.d i) (g.r i) (g.p i)) _).2 s2;exact⟨g,az [4,4,0,0,0,0] rfl s3⟩
 · refine Leg.Does.withinR (core g) (λ_ _ _ _=>trivial) (λh s=>s) λv H hp=>?_
   obtain⟨a',hz,g',hn,hg,rfl⟩:=hp;refine⟨[fx c a'],λh s=>?_,a',hz,rfl⟩;have s1:=az [2,2,2,2,0,0] rfl s;have s2:=(bY (jV (a'.at' i) (g'.d i) (g'.r i) (g'.p i)) _).1 s1
   have s3:=xA (f:=λi=>ka (a.at' i) (g.d i) (g.r i) (g.p i)) (g:=λi=>ka (a'.at' i) (g'.d i) (g'.r i) (g'.p i)) hi (λj hj=>by
    obtain⟨h1,h2,h3⟩:=hg j hj
    rw[hne v a' hz j hj,h1,h2,h3]) s2
   refine bi (p:=p5 c a') g' ?_;rw[←hn]at s3;exact az [1,1,0] rfl s3
theorem vA(hne: ∀j,j≠i→a'.at' j=a.at' j)(r:Nat→Nat)(hi:wL (a'.at' i) (r i)=wL (a.at' i) (r i)):jd a' r=jd a r:=funext λj=>by
 by_cases q:j=i
 · subst q;exact hi
 · show wL (a'.at' j) (r j)=wL (a.at' j) (r j)
   rw[hne j q]
theorem CU(hl:a.ms.length=5)(hi:i<5){s:MS LD}(hs:(a.at' i).run=some s){R:Value→MS LD→List (List MsgT)→Prop}
 (core: ∀g:CX,jd a g.r i= .pointer (some ⟨g.r i,0,none⟩)→DT f args T0 [aj c (eA g.n (lc g) (jd a g.r) g.p) 104,dk (g.d i) s.e.D,dP 156 208 5 g.n (cF a.W),fK s (g.d i) (g.r i)]
  (dw λv H=>∃s' W',R v s' W'∧H=[aj c (eA g.n (lc g) (jd a g.r) g.p) 104,dk (g.d i) s'.e.D,dP 156 208 5 g.n (cF W'),fK s' (g.d i) (g.r i)])):
 DT f args T0 [fx c a] (dw λv H=>∃a',(∃s' W',R v s' W'∧a'=⟨a.ms.set i {a.at' i with run:=some s'},W'⟩)∧H=[fx c a']):=by
 refine zf hi (λv a' hz j hj=>?_) λg=>?_
 · obtain⟨s',W',_,rfl⟩:=hz
   exact tE hj
 · have em:jd a g.r i= .pointer (some ⟨g.r i,0,none⟩):=by show wL (a.at' i) _=_;unfold wL;rw[hs]
   have e1:pQ (a.at' i) (g.d i) (g.r i)=fK s (g.d i) (g.r i):=by unfold pQ;rw[hs]
   have e2:(a.at' i).dk=s.e.D:=by unfold Slot.dk;rw[hs]
   refine Leg.Does.withinR (B:=[jb (g.p i) (a.at' i).past]) (core g em) (λ_ _ _ _=>trivial) (λh q=>?_) λv H hp=>?_
   · unfold jV at q
     rw[e1,e2]at q;exact az [0,1,0,1,0] rfl q
   · obtain⟨s',W',hR,rfl⟩:=hp
     have ea:(CL.mk (a.ms.set i {a.at' i with run:=some s'}) W').at' i= {a.at' i with run:=some s'}:=sS (by rw[hl];exact hi);have hm:jd ⟨a.ms.set i {a.at' i with run:=some s'},W'⟩ g.r=jd a g.r:=vA (λj hj=>tE hj) g.r (by rw[ea];unfold wL;rw[hs]);refine⟨_,λh q=>?_,_,⟨s',W',hR,rfl⟩,g,rfl,λ_ _=>⟨rfl,rfl,rfl⟩,rfl⟩;rw[hm,ea];exact az [0,1,0,1,0] rfl q
theorem ze(core: ∀g:CX,DT f args T0 [aj c (eA g.n (lc g) (jd a g.r) g.p) 104] (dw λv H=>Q v∧H=[aj c (eA g.n (lc g) (jd a g.r) g.p) 104])):
 DT f args T0 [fx c a] (dw λv H=>Q v∧H=[fx c a]):=by
 refine Leg.Does.ex (A':=λg:CX=>[aj c (eA g.n (lc g) (jd a g.r) g.p) 104]++[dP 156 208 5 g.n (cF a.W),bH ((List.range 5).map λi=>ka (a.at' i) (g.d i) (g.r i) (g.p i))]) (λh s=>ff s) λg=>?_
 refine Leg.Does.withinR (core g) (λ_ _ _ _=>trivial) (λh s=>s) λv H hp=>?_
 obtain⟨hQ,rfl⟩:=hp;exact⟨[fx c a],λh s=>bi (p:=p5 c a) g s,hQ,rfl⟩
theorem Hd{R:Value→List (List MsgT)→Prop}(core: ∀g:CX,DT f args T0 [aj c (eA g.n (lc g) (jd a g.r) g.p) 104,dP 156 208 5 g.n (cF a.W)] (dw λv H=>∃W',R v W'∧H=[aj c (eA g.n (lc g) (jd a g.r) g.p) 104,dP 156 208 5 g.n (cF W')])):
 DT f args T0 [fx c a] (dw λv H=>∃W',R v W'∧H=[fx c ⟨a.ms,W'⟩]):=by
 refine Leg.Does.ex (A':=λg:CX=>[aj c (eA g.n (lc g) (jd a g.r) g.p) 104,dP 156 208 5 g.n (cF a.W)]++[bH ((List.range 5).map λi=>ka (a.at' i) (g.d i) (g.r i) (g.p i))]) (λh s=>ff s) λg=>?_
 refine Leg.Does.withinR (core g) (λ_ _ _ _=>trivial) (λh s=>s) λv H hp=>?_
 obtain⟨W',hR,rfl⟩:=hp;exact⟨[fx c ⟨a.ms,W'⟩],λh s=>bi (p:=p5 c ⟨a.ms,W'⟩) g s,W',hR,rfl⟩
theorem Im(hl:a.ms.length=5)(hi:i<5){x:Slot}(hm: ∀r,wL x r=wL (a.at' i) r)(hr: ∀d r,pQ x d r=pQ (a.at' i) d r)(hp:x.past=(a.at' i).past)
 (core: ∀g:CX,DT f args T0 [aj c (eA g.n (lc g) (jd a g.r) g.p) 104,dk (g.d i) (a.at' i).dk] (dw λv H=>Q v∧H=[aj c (eA g.n (lc g) (jd a g.r) g.p) 104,dk (g.d i) x.dk])):
 DT f args T0 [fx c a] (dw λv H=>∃a',(Q v∧a'=a.set i x)∧H=[fx c a']):=by
 have ea:(a.set i x).at' i=x:=sS (by rw[hl];exact hi);refine zf hi (λv a' hz j hj=>by rw[hz.2];exact tE hj) λg=>?_
 refine Leg.Does.withinR (B:=[dP 156 208 5 g.n (cF a.W),jb (g.p i) (a.at' i).past,pQ (a.at' i) (g.d i) (g.r i)]) (core g) (λ_ _ _ _=>trivial) (λh q=>az [0,1,0,0,0] rfl q) λv H hq=>?_
 obtain⟨hQ,rfl⟩:=hq;have hmm:jd (a.set i x) g.r=jd a g.r:=vA (λj hj=>tE hj) g.r (by rw[show(CL.mk (a.ms.set i x) a.W).at' i=x from ea];exact hm _);refine⟨_,λh q=>?_,_,⟨hQ,rfl⟩,g,rfl,λ_ _=>⟨rfl,rfl,rfl⟩,rfl⟩;rw[hmm,ea];unfold jV;rw[hp,hr];exact az [0,1,0,0,0] rfl q
end
theorem kA{f:FuncId}{args:Array Value}{R:Hl→Prop}{A:List HP}{p q:Value→List HP→Prop}(d:DT f args R A (dw p))(k: ∀v H,p v H→q v H):DT f args R A (dw q):=
 Leg.Does.fold d λe H hp=>by
  cases e with
  |returned v=>exact⟨H,λ_ s=>s,k v H hp⟩
  |panicked c=>exact hp.elim
  |outgrown=>exact hp.elim
theorem uQ{H:List HP}{h:Hl}(s:bH H h):bH ((λ_=>True)::H) h:=⟨em,h,Bu h,(p2 h).symm,trivial,s⟩
theorem uN{α:Type}{l:List α}{k:Nat}{d:α}(h:k<l.length):l.set k (l.getD k d)=l:=by
 refine List.ext_getElem? λj=>?_
 by_cases q:j=k
 · subst q;rw[List.getElem?_set_self h,List.getD_eq_getElem?_getD,List.getElem?_eq_getElem h];rfl
 · rw[List.getElem?_set_ne (λe=>q e.symm)]
section
variable {n c i:Nat} {a:CL} {o:OpT}
theorem Ab(h:CLOk n a)(hi:i<5):a.set i (a.at' i)=a:=by
 show CL.mk (a.ms.set i (a.ms.getD i .nil)) a.W=a;rw[uN (by rw[h.ms];exact hi)]
theorem u0(h:CLOk n a)(hi:i<5){s:MS LD}(hs:(a.at' i).run=some s):(CL.mk (a.ms.set i {a.at' i with run:=some s}) a.W)=a:=by
 have e:({a.at' i with run:=some s}:Slot)=a.at' i:=by cases q:a.at' i with|mk r D p=>rw[q]at hs;simp only at hs;rw[hs]
 rw[e];exact Ab h hi
theorem nW{k:Int}(hk:o.kind=k)(hi:o.at'=((i:Nat):Int)):OpT.mk k ((i:Nat):Int) o.to' o.key o.n o.change o.mask o.torn o.cut=o:=by subst hk;rw[←hi]
theorem rB{k:Int}{j:Nat}(hk:o.kind=k)(hi:o.at'=((i:Nat):Int))(hj:o.to'=((j:Nat):Int)):OpT.mk k ((i:Nat):Int) ((j:Nat):Int) o.key o.n o.change o.mask o.torn o.cut=o:=by subst hk;rw[←hi,←hj]
theorem pd{g:CX}{s:MS LD}(hs:(a.at' i).run=some s):jd a g.r i= .pointer (some ⟨g.r i,0,none⟩):=by show wL (a.at' i) _=_;unfold wL;rw[hs]
theorem kZ{g:CX}(hs:(a.at' i).run=none):jd a g.r i= .pointer none:=by show wL (a.at' i) _=_;unfold wL;rw[hs]
theorem DQ{a':CL}{r r':Nat→Nat}{v:Value}(hne: ∀j,j≠i→a'.at' j=a.at' j)(hr: ∀j,j≠i→r' j=r j)(hv:wL (a'.at' i) (r' i)=v):jd a' r'=mF (jd a r) i v:=funext λj=>by
 by_cases q:j=i
 · subst q;rw[kP];exact hv
 · rw[oM _ _ q]
   show wL (a'.at' j) (r' j)=wL (a.at' j) (r j);rw[hne j q,hr j q]
theorem He(h:CLOk n a)(hn:n≤100000)(hi:i<5)(hat:o.at'=((i:Nat):Int))(hk:0≤o.kind∧o.kind≤4)(ho:OkOp o):DT 17 #[.pointer (some ⟨c,0,none⟩), .agg (ints o.flat).toArray] T0 [fx c a] (dw λv H=>v= .int .i64 (sO a i o).2∧H=[fx c (sO a i o).1]):=by
 have eo:=nW (o:=o) rfl hat;cases hr:(a.at' i).run with
 |none=>
  refine kA (ze (Q:=λv=>v= .int .i64 4) λg=>?_) λv H hp=>?_
  · have:=A7 c g.n i (lc g) (jd a g.r) g.p hi (kZ hr) o o.kind hk
    rw[eo]at this;exact this
  · unfold sO;rw[hr];exact hp
 |some s=>
  obtain⟨hs,_,hso⟩:=(h.at' i hi).run s hr;have hrep:=(h.at' i hi).reps;unfold Slot.reps at hrep;rw[hr,ad]at hrep;simp only at hrep;refine kA (CU h.ms hi hr (R:=λv s' W'=>(s.e.D.dn=true∧v= .int .i64 4∧s'=s∧W'=a.W)∨(s.e.D.dn=false∧v= .int .i64 (bP KD s o).2∧s'=(bP KD s o).1.hush∧W'=gn a.W i (bP KD s o).1.o)) λg em=>?_) λv H hp=>?_
  · have:=CK c g.n i (lc g) (jd a g.r) g.p hi (g.d i) (g.r i) s rfl em a.W h.W hso hs o o.kind hk ho.change (by omega)
    rw[eo]at this;refine kA this λv H hp=>?_
    rcases hp with⟨hd,rfl,rfl⟩| ⟨hd,rfl,rfl⟩
    · exact⟨s,a.W, .inl ⟨hd,rfl,rfl,rfl⟩,rfl⟩
    · exact⟨_,_, .inr ⟨hd,rfl,rfl,rfl⟩,rfl⟩
  · obtain⟨a',⟨s',W',hR,rfl⟩,rfl⟩:=hp
    unfold sO;rw[hr];rcases hR with⟨hd,rfl,rfl,rfl⟩| ⟨hd,rfl,rfl,rfl⟩
    · simp only[hd,if_true];exact⟨by first|rfl|trivial,by rw[u0 h hi hr]⟩
    · simp only[hd];exact⟨rfl,rfl⟩
theorem FZ(h:CLOk n a)(hi:i<5)(hat:o.at'=((i:Nat):Int))(hk:o.kind=8):DT 17 #[.pointer (some ⟨c,0,none⟩), .agg (ints o.flat).toArray] T0 [fx c a] (dw λv H=>v= .int .i64 (ys a i).2∧H=[fx c (ys a i).1]):=by
 have eo:=nW (o:=o) hk hat;cases hr:(a.at' i).run with
 |none=>
  refine kA (ze (Q:=λv=>v= .int .i64 4) λg=>?_) λv H hp=>?_
  · have:=A5 c g.n i (lc g) (jd a g.r) g.p hi (kZ hr) o
    rw[eo]at this;exact this
  · unfold ys;rw[hr];exact hp
 |some s=>
  obtain⟨hs,_,hso⟩:=(h.at' i hi).run s hr;refine kA (CU h.ms hi hr (R:=λv s' W'=>(s.e.D.dn=true∧v= .int .i64 4∧s'=s∧W'=a.W)∨(s.e.D.dn=false∧v= .int .i64 0∧s'=(hO KD s).hush∧W'=gn a.W i (hO KD s).o)) λg em=>?_) λv H hp=>?_
  · have:=CD c g.n i (lc g) (jd a g.r) g.p hi (g.d i) (g.r i) s rfl em a.W h.W hso hs o
    rw[eo]at this;refine kA this λv H hp=>?_
    rcases hp with⟨hd,rfl,rfl⟩| ⟨hd,rfl,rfl⟩
    · exact⟨s,a.W, .inl ⟨hd,rfl,rfl,rfl⟩,rfl⟩
    · exact⟨_,_, .inr ⟨hd,rfl,rfl,rfl⟩,rfl⟩
  · obtain⟨a',⟨s',W',hR,rfl⟩,rfl⟩:=hp
    unfold ys;rw[hr];rcases hR with⟨hd,rfl,rfl,rfl⟩| ⟨hd,rfl,rfl,rfl⟩
    · simp only[hd,if_true];exact⟨by first|rfl|trivial,by rw[u0 h hi hr]⟩
    · simp only[hd];exact⟨rfl,rfl⟩
theorem Hq(h:CLOk n a)(hi:i<5)(hat:o.at'=((i:Nat):Int))(hk:o.kind=9):DT 17 #[.pointer (some ⟨c,0,none⟩), .agg (ints o.flat).toArray] T0 [fx c a] (dw λv H=>v= .int .i64 0∧H=[fx c (a.set i (sT (a.at' i) o.n))]):=by
 have eo:=nW (o:=o) hk hat
 have ed:(sT (a.at' i) o.n).dk=(a.at' i).dk.arm o.n:=by
  unfold sT Slot.dk;cases hr:(a.at' i).run with
  |none=>simp only[hr]
  |some s=>rfl
 refine kA (Im (x:=sT (a.at' i) o.n) (Q:=λv=>v= .int .i64 0) h.ms hi (λr=>?_) (λd r=>?_) ?_ λg=>?_) λv H hp=>?_
 · unfold sT wL
   cases hr:(a.at' i).run with
   |none=>simp only[hr]
   |some s=>rfl
 · unfold sT pQ
   cases hr:(a.at' i).run with
   |none=>simp only[hr]
   |some s=>rfl
 · unfold sT;split<;>rfl
 · have:=CO c g.n i (lc g) (jd a g.r) g.p hi (g.d i) rfl (a.at' i).dk o
   rw[eo]at this;rw[ed];exact this
 · obtain⟨a',⟨rfl,rfl⟩,rfl⟩:=hp
   exact⟨rfl,rfl⟩
theorem C0(h:CLOk n a)(hn:n≤100000)(hi:i<5)(hat:o.at'=((i:Nat):Int))(hk:o.kind=10):DT 17 #[.pointer (some ⟨c,0,none⟩), .agg (ints o.flat).toArray] T0 [fx c a] (dw λv H=>v= .int .i64 0∧H=[fx c (a.set i (mW (a.at' i) o.mask o.torn o.cut))]):=by
 have eo:=nW (o:=o) hk hat;have so:=h.at' i hi;have hrep:=so.reps;unfold Slot.reps at hrep;rw[ad]at hrep;have ea:(a.set i (mW (a.at' i) o.mask o.torn o.cut)).at' i=mW (a.at' i) o.mask o.torn o.cut:=sS (by rw[h.ms];exact hi);have hne: ∀j,j≠i→(a.set i (mW (a.at' i) o.mask o.torn o.cut)).at' j=a.at' j:=λj hj=>tE hj
 refine kA (zf (Z:=λv a'=>v= .int .i64 0∧a'=a.set i (mW (a.at' i) o.mask o.torn o.cut)) hi (λv a' hz j hj=>by rw[hz.2];exact hne j hj) λg=>?_) λv H hp=>by obtain⟨_,⟨rfl,rfl⟩,rfl⟩:=hp;exact⟨rfl,rfl⟩
 have fin: ∀u,u.oneCell'=true→∀h,bH ([aj c (eA g.n (lc g) (mF (jd a g.r) i (.pointer none)) (mF g.p i u)) 104,dk (g.d i) ((a.at' i).dk.crash o.mask o.torn o.cut),jb u (a.at' i).reps]++[dP 156 208 5 g.n (cF a.W)]) h→
  bH (aj c (eA g.n (lc {g with p:=mF g.p i u}) (jd (a.set i (mW (a.at' i) o.mask o.torn o.cut)) g.r) (mF g.p i u)) 104::dP 156 208 5 g.n (cF (a.set i (mW (a.at' i) o.mask o.torn o.cut)).W)::jV ((a.set i (mW (a.at' i) o.mask o.torn o.cut)).at' i) (g.d i) (g.r i) (mF g.p i u i)) h:=λu _ hh q=>by
  rw[DQ (a:=a) (i:=i) (v:= .pointer none) (r:=g.r) hne (λ_ _=>rfl) (by rw[ea];rfl),ea,kP];have q2:=uQ (az [0,2,0,0] rfl q);exact az [1,1,1,1,0] rfl q2
 cases hr:(a.at' i).run with
 |none=>
  have er:(a.at' i).reps=(a.at' i).past:=by unfold Slot.reps;rw[hr,aM]
  have:=CJ c g.n i (lc g) (jd a g.r) g.p hi (g.d i) rfl (kZ hr) (a.at' i).past (by omega) (a.at' i).dk so.dk.ok o;rw[eo]at this;refine Leg.Does.withinR (B:=[dP 156 208 5 g.n (cF a.W)]) this (λ_ _ _ _=>trivial) (λhh q=>?_) λv H hp=>?_
  · exact ak [0,1,1,0] rfl q
  · obtain⟨u,hu,rfl,rfl⟩:=hp
    refine⟨_,λhh q=>fin u hu hh ?_,_,⟨rfl,rfl⟩,{g with p:=mF g.p i u},rfl,λj hj=>⟨rfl,rfl,oM _ _ hj⟩,rfl⟩;rw[er];exact q
 |some s=>
  rw[hr]at hrep;simp only at hrep;have er:(a.at' i).reps=(a.at' i).past++s.replies:=by unfold Slot.reps;rw[hr]
  have e1:pQ (a.at' i) (g.d i) (g.r i)=fK s (g.d i) (g.r i):=by unfold pQ;rw[hr]
  have:=CI c g.n i (lc g) (jd a g.r) g.p hi (g.d i) rfl (g.r i) s (pd hr) (a.at' i).past (by omega) (by omega) (a.at' i).dk so.dk.ok o;rw[eo]at this;refine Leg.Does.withinR (B:=[dP 156 208 5 g.n (cF a.W)]) this (λ_ _ _ _=>trivial) (λhh q=>?_) λv H hp=>?_
  · unfold jV at q
    rw[e1]at q;exact az [0,1,1,1,0] rfl q
  · obtain⟨u,hu,rfl,rfl⟩:=hp
    refine⟨_,λhh q=>fin u hu hh ?_,_,⟨rfl,rfl⟩,{g with p:=mF g.p i u},rfl,λj hj=>⟨rfl,rfl,oM _ _ hj⟩,rfl⟩;rw[er];exact q
end
section
variable {n c i:Nat} {a:CL} {o:OpT}
theorem zW{i:Nat}{D:DS}{s:MS LD}(h:(dI i D).1=some s):(dI i D).2=0:=by
 obtain⟨h1,h2⟩:=iG h;unfold dI;rw[if_neg (by rw[h1];decide),h2]
theorem zX(h:CLOk n a)(hi:i<5)(hat:o.at'=((i:Nat):Int))(hk:o.kind=11):DT 17 #[.pointer (some ⟨c,0,none⟩), .agg (ints o.flat).toArray] T0 [fx c a] (dw λv H=>v= .int .i64 (gx i (a.at' i)).2∧H=[fx c (a.set i (gx i (a.at' i)).1)]):=by
 have eo:=nW (o:=o) hk hat;have so:=h.at' i hi;cases hr:(a.at' i).run with
 |some s=>
  have e:gx i (a.at' i)=(a.at' i,5):=by unfold gx;rw[hr]
  rw[e,show a.set i (a.at' i,(5:Int)).1=a from Ab h hi];refine ze (Q:=λv=>v= .int .i64 5) λg=>?_
  have:=CG c g.n i (lc g) (jd a g.r) g.p hi (g.r i) (pd hr) o;rw[eo]at this;exact this
 |none=>
  have e:gx i (a.at' i)=({a.at' i with run:=(dI i (a.at' i).D).1,D:=(bL (a.at' i).D).D},(dI i (a.at' i).D).2):=by unfold gx;rw[hr]
  have hD:=so.D hr;have ed:(a.at' i).dk=(a.at' i).D:=by unfold Slot.dk;rw[hr]
  have e1: ∀d r,pQ (a.at' i) d r= λ_=>True:=λd r=>by unfold pQ;rw[hr]
  have hst: ∀x:Slot,(a.set i x).at' i=x:=λx=>sS (by rw[h.ms];exact hi)
  have hne: ∀x:Slot,∀j,j≠i→(a.set i x).at' j=a.at' j:=λx j hj=>tE hj
  refine kA (zf (Z:=λv a'=>v= .int .i64 (gx i (a.at' i)).2∧a'=a.set i (gx i (a.at' i)).1) hi (λv a' hz j hj=>by rw[hz.2];exact hne _ j hj) λg=>?_) λv H hp=>by obtain⟨_,⟨rfl,rfl⟩,rfl⟩:=hp;exact⟨rfl,rfl⟩
  have:=CH c g.n i (lc g) (jd a g.r) g.p hi (g.d i) rfl (kZ hr) (a.at' i).D hD o;rw[eo]at this;refine Leg.Does.withinR (B:=[dP 156 208 5 g.n (cF a.W),jb (g.p i) (a.at' i).past]) this (λ_ _ _ _=>trivial) (λhh q=>?_) λv H hp=>?_
  · unfold jV at q
    rw[ed]at q;exact ak [0,1,0,0] rfl q
  · rcases hp with⟨hn,rfl,rfl⟩| ⟨s,r,hn,rfl,rfl⟩
    · refine⟨_,λhh q=>?_,_,⟨by rw[e],rfl⟩,g,rfl,λj hj=>⟨rfl,rfl,rfl⟩,rfl⟩
      rw[hst,e];have em:jd (a.set i {a.at' i with run:=(dI i (a.at' i).D).1,D:=(bL (a.at' i).D).D}) g.r=jd a g.r:=vA (hne _) g.r (by rw[hst];unfold wL;rw[hr];simp only[hn]);rw[em];have q2:=uQ (az [0,1,0,0] rfl q);have q3:=az [1,1,1,1,0] rfl q2;unfold jV Slot.dk pQ;simp only[hn];exact q3
    · refine⟨_,λhh q=>?_,_,⟨by rw[e];simp only[zW hn],rfl⟩,{g with r:=mF g.r i r},rfl,λj hj=>⟨rfl,oM _ _ hj,rfl⟩,rfl⟩
      rw[hst,e];have em:jd (a.set i {a.at' i with run:=(dI i (a.at' i).D).1,D:=(bL (a.at' i).D).D}) (mF g.r i r)=mF (jd a g.r) i (.pointer (some ⟨r,0,none⟩)):=DQ (hne _) (λj hj=>oM _ _ hj) (by rw[hst,kP];unfold wL;simp only[hn]);rw[em];have q3:=az [0,2,1,1,0] rfl q;unfold jV Slot.dk pQ;simp only[hn,kP];exact q3
theorem Ej(h:CLOk n a)(hn:n≤100000)(hi:i<5)(hat:o.at'=((i:Nat):Int))(hk:o.kind=5∨o.kind=6∨o.kind=7):DT 59 #[.pointer (some ⟨c,0,none⟩), .agg (ints o.flat).toArray] T0 [fx c a] (dw λv H=>v= .int .i64 (m5 a o).2∧H=[fx c (m5 a o).1]):=by
 cases hv:dA o.at' o.to' with
 |false=>
  have e:m5 a o=(a,5):=by unfold m5;rw[if_pos hv]
  rw[e];have eo:=nW (o:=o) rfl hat;refine kA (Hd (R:=λv W'=>v= .int .i64 5∧W'=a.W) λg=>?_) λv H hp=>by obtain⟨_,⟨rfl,rfl⟩,rfl⟩:=hp;exact⟨rfl,rfl⟩
  refine Leg.Does.ex (A':=λbs:List Nat=>[aj c (eA g.n (lc g) (jd a g.r) g.p) 104,aj g.n (dr bs) 156]++[ey 208 5 bs (cF a.W)]) (λhh q=>?_) λbs=>?_
  · obtain⟨bs,q⟩:=ff (dX (List.Perm.swap _ _ _) q)
    exact⟨bs,az [2,0,0] rfl q⟩
  · rw[hat]at hv
    have:=zI c g.n i (lc g) (jd a g.r) g.p hi o.to' o.kind o hv bs;rw[eo]at this;refine Leg.Does.withinR this (λ_ _ _ _=>trivial) (λhh q=>q) λv H hp=>?_
    obtain⟨rfl,rfl⟩:=hp;refine⟨_,λhh q=>?_,a.W,⟨rfl,rfl⟩,rfl⟩;exact dX (List.Perm.swap _ _ _) (bi (p:=λbs:List Nat=>[aj g.n (dr bs) 156,ey 208 5 bs (cF a.W)]) bs (az [1,1,0] rfl q))
 |true=>
  obtain⟨j,hto⟩: ∃j:Nat,o.to'=((j:Nat):Int):=⟨o.to'.toNat,((gM (ra hv).2).2).symm⟩;have hj:j<5:=by have:=(gM (ra hv).2).1;rw[hto]at this;simpa using this
  have hv2:dA ((i:Nat):Int) ((j:Nat):Int)=true:=by rw[←hat,←hto];exact hv
  have eK:bq o.at' o.to'=bq ((i:Nat):Int) ((j:Nat):Int):=by rw[hat,hto]
  have hij:((i:Nat):Int)≠((j:Nat):Int):=λe=>by
   unfold dA at hv2;rw[decide_eq_true e]at hv2;simp at hv2
  obtain⟨h8,hlen⟩:=h.way (bq ((i:Nat):Int) ((j:Nat):Int));have hkl:bq ((i:Nat):Int) ((j:Nat):Int)<a.W.length:=by rw[h.W];exact(hJ hv2).1
  -- the net alone
  have net: ∀{R:Value→List (List MsgT)→Prop},(∀(g:CX) (bs:List Nat),Leg.Does Tryz.prog 59 #[.pointer (some ⟨c,0,none⟩), .agg (ints o.flat).toArray] (λ_=>True) [aj g.n (dr bs) 156,ey 208 5 bs (cF a.W),aj c (eA g.n (lc g) (jd a g.r) g.p) 104] (dw λv H=>∃W',R v W'∧H=[aj c (eA g.n (lc g) (jd a g.r) g.p) 104,dP 156 208 5 g.n (cF W')]))→
   Leg.Does Tryz.prog 59 #[.pointer (some ⟨c,0,none⟩), .agg (ints o.flat).toArray] (λ_=>True) [fx c a] (dw λv H=>∃W',R v W'∧H=[fx c ⟨a.ms,W'⟩]):=λcore=>Hd λg=>Leg.Does.ex (A':=λbs:List Nat=>[aj g.n (dr bs) 156,ey 208 5 bs (cF a.W),aj c (eA g.n (lc g) (jd a g.r) g.p) 104]) (λhh q=>ff (dX (List.Perm.swap _ _ _) q)) (core g)
  cases hl:a.W.getD (bq ((i:Nat):Int) ((j:Nat):Int)) []with
  |nil=>
   have e:m5 a o=(a,10):=by unfold m5;rw[if_neg (by rw[hv];decide),eK,hl]
   rw[e];refine kA (net (R:=λv W'=>v= .int .i64 10∧W'=a.W) λg bs=>?_) λv H hp=>by obtain⟨_,⟨rfl,rfl⟩,rfl⟩:=hp;exact⟨rfl,rfl⟩
   have:=yk c g.n i (lc g) (jd a g.r) g.p hi j hj hv2 a.W h.W _ rfl h8 hlen o o.kind hl bs;rw[rB rfl hat hto,uN hkl]at this;exact kA this λv H hp=>⟨a.W,⟨hp.1,rfl⟩,hp.2⟩
  |cons m0 l0=>
   by_cases h7:o.kind=7
   · have e:m5 a o=(a.way (bq ((i:Nat):Int) ((j:Nat):Int)) (BK (m0::l0)),if FX (m0::l0)then 0 else 3):=by
      unfold m5;rw[if_neg (by rw[hv];decide),eK,hl];simp only[if_pos h7];split
      · rfl
      · rename_i q
        have q2:BK (m0::l0)=m0::l0:=by unfold BK;unfold FX at q;rw[if_neg (by simpa using q)]
        rw[q2];show(a,(3:Int))=(CL.mk a.ms (a.W.set _ (m0::l0)),3);rw[←hl,uN hkl]
     rw[e];refine kA (net (R:=λv W'=>v= .int .i64 (if FX (m0::l0)then 0 else 3)∧W'=a.W.set (bq ((i:Nat):Int) ((j:Nat):Int)) (BK (m0::l0))) λg bs=>?_) λv H hp=>by obtain⟨_,⟨rfl,rfl⟩,rfl⟩:=hp;exact⟨rfl,rfl⟩
     have:=wx c g.n i (lc g) (jd a g.r) g.p hi j hj hv2 a.W h.W (m0::l0) hl (by rw[←hl];exact h8) (by rw[←hl];exact hlen) o (by simp) bs;rw[rB h7 hat hto]at this;exact kA this λv H hp=>⟨_,⟨hp.1,rfl⟩,hp.2⟩
   · cases ht:kx (max o.n 0% ((m0::l0).length:Int)).toNat (m0::l0)with
     |nil=>have:=jQ (max o.n 0% ((m0::l0).length:Int)).toNat (m0::l0);rw[ht]at this;simp at this
     |cons m l2=>
      by_cases h6:o.kind=6
      · have e:m5 a o=(a.way (bq ((i:Nat):Int) ((j:Nat):Int)) l2,0):=by
         unfold m5;rw[if_neg (by rw[hv];decide),eK,hl];simp only[if_neg h7];rw[ht];simp only[if_pos h6]
        rw[e];refine kA (net (R:=λv W'=>v= .int .i64 0∧W'=a.W.set (bq ((i:Nat):Int) ((j:Nat):Int)) l2) λg bs=>?_) λv H hp=>by obtain⟨_,⟨rfl,rfl⟩,rfl⟩:=hp;exact⟨rfl,rfl⟩
        have:=qY c g.n i (lc g) (jd a g.r) g.p hi j hj hv2 a.W h.W (m0::l0) hl (by rw[←hl];exact h8) (by rw[←hl];exact hlen) o m l2 ht bs 6 (.inr rfl) (.inl rfl);rw[rB h6 hat hto]at this;exact kA this λv H hp=>⟨_,⟨hp.1,rfl⟩,hp.2⟩
      · have h5:o.kind=5:=by omega
        have e:m5 a o=p4 (a.way (bq ((i:Nat):Int) ((j:Nat):Int)) l2) i j m:=by
         unfold m5;rw[if_neg (by rw[hv];decide),eK,hl];simp only[if_neg h7];rw[ht];simp only[if_neg h6];rw[hat,hto];rfl
        rw[e];have ew:(a.way (bq ((i:Nat):Int) ((j:Nat):Int)) l2).at' j=a.at' j:=rfl;cases hr:(a.at' j).run with
        |none=>
         have e2:p4 (a.way (bq ((i:Nat):Int) ((j:Nat):Int)) l2) i j m=(a.way (bq ((i:Nat):Int) ((j:Nat):Int)) l2,0):=by unfold p4;rw[ew,hr]
         rw[e2];refine kA (net (R:=λv W'=>v= .int .i64 0∧W'=a.W.set (bq ((i:Nat):Int) ((j:Nat):Int)) l2) λg bs=>?_) λv H hp=>by obtain⟨_,⟨rfl,rfl⟩,rfl⟩:=hp;exact⟨rfl,rfl⟩
         have:=qY c g.n i (lc g) (jd a g.r) g.p hi j hj hv2 a.W h.W (m0::l0) hl (by rw[←hl];exact h8) (by rw[←hl];exact hlen) o m l2 ht bs 5 (.inl rfl) (.inr (kZ hr));rw[rB h5 hat hto]at this;exact kA this λv H hp=>⟨_,⟨hp.1,rfl⟩,hp.2⟩
        |some s=>
         obtain⟨hs,hid,hso⟩:=(h.at' j hj).run s hr;have hrep:=(h.at' j hj).reps;unfold Slot.reps at hrep;rw[hr,ad]at hrep;simp only at hrep;have W2:(a.W.set (bq ((i:Nat):Int) ((j:Nat):Int)) l2).length=25:=by rw[km];exact h.W
         refine kA (CU h.ms hj hr (R:=λv s' W'=>(s.e.D.dn=true∧v= .int .i64 0∧s'=s∧W'=a.W.set (bq ((i:Nat):Int) ((j:Nat):Int)) l2)∨(s.e.D.dn=false∧(gO (dm m)).2≠0∧v= .int .i64 (gO (dm m)).2∧s'=s∧W'=a.W.set (bq ((i:Nat):Int) ((j:Nat):Int)) l2)∨(s.e.D.dn=false∧(gO (dm m)).2=0∧v= .int .i64 0∧s'=(fu KD s ((i:Nat):Int) (gO (dm m)).1).hush∧W'=gn (a.W.set (bq ((i:Nat):Int) ((j:Nat):Int)) l2) j (fu KD s ((i:Nat):Int) (gO (dm m)).1).o)) λg em=>?_) λv H hp=>?_
         · refine Leg.Does.ex (A':=λbs:List Nat=>[aj g.n (dr bs) 156,ey 208 5 bs (cF a.W),aj c (eA g.n (lc g) (jd a g.r) g.p) 104,dk (g.d j) s.e.D,fK s (g.d j) (g.r j)]) (λhh q=>ff (az [2,0,0,0] rfl q)) λbs=>?_
           have:=yl c g.n i (lc g) (jd a g.r) g.p hi j hj hv2 a.W h.W (m0::l0) hl (by rw[←hl];exact h8) (by rw[←hl];exact hlen) o m l2 ht bs (g.d j) (g.r j) s rfl em hso hs (by rw[hid];exact hij) (by omega);rw[rB h5 hat hto]at this;refine kA this λv H hp=>?_
           rcases hp with⟨hd,rfl,rfl⟩| ⟨hd,h1,rfl,rfl⟩| ⟨hd,h1,rfl,rfl⟩
           · exact⟨_,_, .inl ⟨hd,rfl,rfl,rfl⟩,rfl⟩
           · exact⟨_,_, .inr (.inl ⟨hd,h1,rfl,rfl,rfl⟩),rfl⟩
           · exact⟨_,_, .inr (.inr ⟨hd,h1,rfl,rfl,rfl⟩),rfl⟩
         · obtain⟨a',⟨s',W',hR,rfl⟩,rfl⟩:=hp
           have er: ∀W',CL.mk (a.ms.set j {a.at' j with run:=some s}) W'=CL.mk a.ms W':=λW'=>by
            have:=congrArg CL.ms (u0 h hj hr);rw[show a.ms.set j {a.at' j with run:=some s}=a.ms from this]
           unfold p4;rw[ew,hr];rcases hR with⟨hd,rfl,rfl,rfl⟩| ⟨hd,h1,rfl,rfl,rfl⟩| ⟨hd,h1,rfl,rfl,rfl⟩
           · simp only[hd,if_true];exact⟨by first|rfl|trivial,by rw[er];rfl⟩
           · simp only[hd,if_neg h1];exact⟨by first|rfl|trivial,by rw[er];rfl⟩
           · simp only[hd,if_pos h1];exact⟨by first|rfl|trivial,rfl⟩
end
theorem CM(c:Nat)(X:HP)(o:OpT)(hm:eX o.at'=false):
 DT 17 #[(.pointer (some ⟨c,0,none⟩)),(.agg (ints o.flat).toArray)] T0 [X] (RI (.int .i64 5) [X]):=by
 refine BD 114 Tryz.func17 rfl rfl rfl λw0 F hF=>sr λ_ J1=>XY (ints o.flat) λb3=>?_
 refine PS ?_;refine nx J1 (aa λ_ J2=>sr λ_ J3=>PS ?_);refine FA 1 eZ aO ?_;refine LU 0 Y3 (bt o rfl) ?_;refine CE ot (nU c o.at') ID ?_;rw[hm];refine PS ?_;refine nx J3 (CY (sr λ_ J4=>PS ?_));exact nx J4 (ai (ae (WK [1] (aq rfl rfl ⟨rfl,rfl⟩))))
theorem CC(c i:Nat)(hi:i<5)(X:HP)(o:OpT)(k:Int)(hk:k=5∨k=6∨k=7)(p:Int→HP→Prop)(hw:DT 59 #[(.pointer (some ⟨c,0,none⟩)),(.agg (ints (OpT.mk k ((i:Nat):Int) o.to' o.key o.n o.change o.mask o.torn o.cut).flat).toArray)] T0 [X] (dw (λv H=>∃e X',v= .int .i64 e∧H=[X']∧p e X'))):
 DT 17 #[(.pointer (some ⟨c,0,none⟩)),(.agg (ints (OpT.mk k ((i:Nat):Int) o.to' o.key o.n o.change o.mask o.torn o.cut).flat).toArray)] T0 [X] (dw (λv H=>∃e X',v= .int .i64 e∧H=[X']∧p e X')):=by
 refine BD 114 Tryz.func17 rfl rfl rfl λw0 F hF=>sr λ_ J1=>XY (ints (OpT.mk k ((i:Nat):Int) o.to' o.key o.n o.change o.mask o.torn o.cut).flat) λb3=>?_
 refine PS ?_;refine nx J1 (aa λ_ J2=>sr λ_ J3=>PS ?_);refine FA 1 eZ aO ?_;refine LT 0 Y3 (.int .i64 (((i:Nat):Int))) ?_ (hc:=by exact bt _ rfl);refine CE ot (eb c i hi) ID ?_;refine PS ?_;refine nx J3 (CN (qx J2 (aa λ_ J4=>sr λ_ J5=>FA 0 eZ aO ?_)));refine LT 0 Y3 (.int .i64 (k)) ?_ (hc:=by exact cq _ rfl);refine nx J5 (ap (aa λ_ J6=>sr λ_ J7=>P2 ?_));refine am ?_ ?_<;>intro h12
 · exact absurd h12 (by omega)
 refine nx J7 (CN (sr λ_ J8=>P2 ?_));refine am ?_ ?_<;>intro h12
 · exact absurd h12 (by omega)
 refine nx J8 (CN (sr λ_ J9=>P2 ?_));refine am ?_ ?_<;>intro h12
 · exact absurd h12 (by omega)
 refine nx J9 (CN (sr λ_ J10=>P2 ?_));refine am ?_ ?_<;>intro h12
 · exact absurd h12 (by omega)
 refine nx J10 (CN (af (PS ?_)));refine am ?_ ?_<;>intro h17
 · exact absurd h17 (by omega)
 refine PS ?_;refine nx J6 (CN (aa λ_ J11=>eJ (α:=Unit) (λ_u=>True) (λ_u=>[(0,(.pointer (some ⟨c,0,none⟩))),(3,(.pointer (some ⟨b3,0,none⟩))),(4,(.int .i64 0)),(11,(.int .i64 (k))),(37,(.bool true))]) (λ_u=>[aj b3 (ints (OpT.mk k ((i:Nat):Int) o.to' o.key o.n o.change o.mask o.torn o.cut).flat) 30,X]) (λ_u hinv=>?_) (λtl11=>?_)));have _:=hinv;refine ac J11 (CY (sr λ_ J12=>PS ?_));refine LW 0 eZ yw Bx ?_;refine CR Mv (hw) (SM [1]) λvR HR hR=>?_
 obtain⟨e,X',rfl,rfl,hp⟩:=hR;refine PS ?_;exact nx J12 (ai (aH (ae (WK [0] (aq rfl rfl ⟨e,X',rfl,rfl,hp⟩)))));refine sr λ_ J13=>P2 ?_
 refine am ?_ ?_<;>intro h37;refine nx J13 (CY (aQ ?_))
 exact aE
  SB
  (λ_ s=>ak [0,0] rfl s)
  (tl11 (():Unit) trivial)
 refine nx J13 (CN (sr λ_ J14=>P2 ?_));refine am ?_ ?_<;>intro h37;refine nx J14 (CY (aQ ?_))
 exact aE
  SB
  (λ_ s=>ak [0,0] rfl s)
  (tl11 (():Unit) trivial)
 refine nx J14 (CN (af (PS ?_)));refine am ?_ ?_<;>intro h40;refine PS ?_;refine au ?_
 exact aE
  SB
  (λ_ s=>ak [0,0] rfl s)
  (tl11 (():Unit) trivial)
 · exact absurd h40 (by omega)
theorem A6(c i:Nat)(hi:i<5)(X:HP)(o:OpT)(k:Int)(hk:k<0∨11<k):
 DT 17 #[(.pointer (some ⟨c,0,none⟩)),(.agg (ints (OpT.mk k ((i:Nat):Int) o.to' o.key o.n o.change o.mask o.torn o.cut).flat).toArray)] T0 [X] (RI (.int .i64 5) [X]):=by
 refine BD 114 Tryz.func17 rfl rfl rfl λw0 F hF=>sr λ_ J1=>XY (ints (OpT.mk k ((i:Nat):Int) o.to' o.key o.n o.change o.mask o.torn o.cut).flat) λb3=>?_
 refine PS ?_;refine nx J1 (aa λ_ J2=>sr λ_ J3=>PS ?_);refine FA 1 eZ aO ?_;refine LT 0 Y3 (.int .i64 (((i:Nat):Int))) ?_ (hc:=by exact bt _ rfl);refine CE ot (eb c i hi) ID ?_;refine PS ?_;refine nx J3 (CN (qx J2 (aa λ_ J4=>sr λ_ J5=>FA 0 eZ aO ?_)));refine LT 0 Y3 (.int .i64 (k)) ?_ (hc:=by exact cq _ rfl);refine nx J5 (ap (aa λ_ J6=>sr λ_ J7=>P2 ?_));refine am ?_ ?_<;>intro h12
 · exact absurd h12 (by omega)
 refine nx J7 (CN (sr λ_ J8=>P2 ?_));refine am ?_ ?_<;>intro h12
 · exact absurd h12 (by omega)
 refine nx J8 (CN (sr λ_ J9=>P2 ?_));refine am ?_ ?_<;>intro h12
 · exact absurd h12 (by omega)
 refine nx J9 (CN (sr λ_ J10=>P2 ?_));refine am ?_ ?_<;>intro h12
 · exact absurd h12 (by omega)
 refine nx J10 (CN (af (PS ?_)));refine am ?_ ?_<;>intro h17
 · exact absurd h17 (by omega)
 refine PS ?_;refine nx J6 (CN (aa λ_ J11=>sr λ_ J12=>P2 ?_));refine am ?_ ?_<;>intro h37
 · exact absurd h37 (by omega)
 refine nx J12 (CN (sr λ_ J13=>P2 ?_));refine am ?_ ?_<;>intro h37
 · exact absurd h37 (by omega)
 refine nx J13 (CN (af (PS ?_)));refine am ?_ ?_<;>intro h40
 · exact absurd h40 (by omega)
 refine PS ?_;refine nx J11 (CN (sr λ_ J14=>PS ?_));refine am ?_ ?_<;>intro h45
 · exact absurd h45 (by omega)
 refine PS ?_;refine nx J14 (CN (sr λ_ J15=>PS ?_));refine am ?_ ?_<;>intro h65
 · exact absurd h65 (by omega)
 refine PS ?_;refine nx J15 (CN (sr λ_ J16=>PS ?_));refine am ?_ ?_<;>intro h77
 · exact absurd h77 (by omega)
 refine PS ?_;refine nx J16 (CN (sr λ_ J17=>PS ?_));refine am ?_ ?_<;>intro h109
 · exact absurd h109 (by omega)
 refine PS ?_;refine nx J17 (CN (sr λ_ J18=>PS ?_));exact nx J18 (ai (aH (ae (WK [1] (aq rfl rfl ⟨rfl,rfl⟩)))))
section
variable {n c:Nat} {a:CL} {o:OpT}
theorem pm(h:CLOk n a)(hn:n≤100000)(ho:OkOp o):DT 17 #[.pointer (some ⟨c,0,none⟩), .agg (ints o.flat).toArray] T0 [fx c a] (dw λv H=>v= .int .i64 (nG a o).2∧H=[fx c (nG a o).1]):=by
 unfold nG
 by_cases hm:eX o.at'=false
 · rw[if_pos hm]
   exact CM c (fx c a) o hm
 · rw[if_neg hm]
   have hm:eX o.at'=true:=by simpa using hm
   obtain⟨hi,hat⟩:=gM hm
   by_cases h1:0≤o.kind∧o.kind≤4
   · rw[if_pos h1];exact He h hn hi hat.symm h1 ho
   rw[if_neg h1]
   by_cases h2:o.kind=5∨o.kind=6∨o.kind=7
   · rw[if_pos h2]
     have:=CC c _ hi (fx c a) o o.kind h2 (λe X=>e=(m5 a o).2∧X=fx c (m5 a o).1) (by
      rw[nW rfl hat.symm]
      exact kA (Ej h hn hi hat.symm h2) λv H hp=>⟨_,_,hp.1,hp.2,rfl,rfl⟩)
     rw[nW rfl hat.symm]at this
     exact kA this λv H hp=>by
      obtain⟨e,X,rfl,rfl,rfl,rfl⟩:=hp;exact⟨rfl,rfl⟩
   rw[if_neg h2]
   by_cases h3:o.kind=8
   · rw[if_pos h3];exact FZ h hi hat.symm h3
   rw[if_neg h3]
   by_cases h4:o.kind=9
   · rw[if_pos h4];exact Hq h hi hat.symm h4
   rw[if_neg h4]
   by_cases h5:o.kind=10
   · rw[if_pos h5];exact C0 h hn hi hat.symm h5
   rw[if_neg h5]
   by_cases h6:o.kind=11
   · rw[if_pos h6];exact zX h hi hat.symm h6
   rw[if_neg h6];have:=A6 c _ hi (fx c a) o o.kind (by omega);rw[nW rfl hat.symm]at this;exact this
end
theorem uK(i:Nat):(dI i .new).1≠none:=by
 obtain⟨D',e,_⟩:=LogD.new.open rfl rfl;unfold dI;rw[e];simp[kU]
theorem tj{i:Nat}{s:MS LD}(h:(dI i .new).1=some s):lS i=⟨some s,(bL .new).D,[]⟩:=by
 show(gx i .nil).1=_;unfold gx;show Slot.mk (dI i DS.new).1 _ _=_;rw[h];rfl
def dJ(i:Nat)(d:Nat→Nat):Nat→Value:=λj=>if j<i then .pointer (some ⟨d j,0,none⟩)else .pointer none
def Gw:Nat→Value:=λ_=> .slice none 0 0
theorem Hc(i:Nat)(d:Nat→Nat)(x:Nat):mF (dJ i d) i (.pointer (some ⟨x,0,none⟩))=dJ (i+1) (mF d i x):=funext λj=>by
 unfold dJ mF
 by_cases hj:j=i
 · subst hj;simp
 · rw[if_neg hj,if_neg hj]
   show(if j<i then _ else _)=_
   by_cases h:j<i
   · rw[if_pos h,if_pos (by omega)]
   · rw[if_neg h,if_neg (by omega)]
theorem FE{n:Nat}{D M P D' M' P':Nat→Value}(h1: ∀i,i<5→D i=D' i)(h2: ∀i,i<5→M i=M' i)(h3: ∀i,i<5→P i=P' i):eA n D M P=eA n D' M' P':=by
 unfold eA;rw[dM (λi hi=>h1 i (eN.1 hi)),dM (λi hi=>h2 i (eN.1 hi)),dM (λi hi=>h3 i (eN.1 hi))]
theorem Gn{f g:Nat→HP}{i:Nat}(hg: ∀j,j<i→g j=f j){H:List HP}{h:Hl}(s:bH (g i::bH ((List.range i).map f)::H) h):bH (bH ((List.range (i+1)).map g)::H) h:=by
 have e:(List.range (i+1)).map g=(List.range i).map f++[g i]:=by
  rw[cS,co,dM (λj hj=>hg j (eN.1 hj))];rfl
 rw[e];obtain⟨h1,h2,d,rfl,a,b⟩:=s;have s2:bH ((g i::(List.range i).map f)++H) (jn h1 h2):=⟨h1,h2,d,rfl,a,(bY _ _).2 b⟩;exact(bY _ _).1 (dX ((List.perm_append_comm (l₁:=[g i])).append_right H) s2)
abbrev vp(d r:Nat→Nat)(j:Nat):HP:=ka (lS j) (d j) (r j) (.slice none 0 0)
theorem GT{d r:Nat→Nat}{i x y:Nat}{s:MS LD}(hs:(dI i .new).1=some s){X Y:HP}{h:Hl}(q:bH [fK s x y,dk x s.e.D,X,Y,bH ((List.range i).map (vp d r))] h):bH [X,Y,bH ((List.range (i+1)).map (vp (mF d i x) (mF r i y)))] h:=by
 have q2:=fR 37 3 q
 have e:vp (mF d i x) (mF r i y) i=bH [dk x s.e.D,jb (.slice none 0 0) [],fK s x y]:=by
  unfold vp ka jV Slot.dk pQ;rw[kP,kP,tj hs]
 have q4:=(bY [dk x s.e.D,jb (.slice none 0 0) [],fK s x y] [bH ((List.range i).map (vp d r)),X,Y]).1 (az [2,0,0,2,0,0] rfl q2);have q5:=Gn (i:=i) (f:=vp d r) (g:=vp (mF d i x) (mF r i y)) (H:=[X,Y]) (λj hj=>by unfold vp;rw[oM d x (show j≠i by omega),oM r y (show j≠i by omega)]) (by rw[e];exact q4);exact az [1,1,0] rfl q5
theorem GR(i:Nat)(hi:i<5):CL.new.at' i=lS i:=by simp[CL.new,CL.at',List.getD_eq_getElem?_getD,hi]
theorem GS{c n:Nat}{d r:Nat→Nat}{h:Hl}(s:bH [aj c (eA n (dJ 5 d) (dJ 5 r) Gw) 104,dP 156 208 5 n (List.replicate 25 []),bH ((List.range 5).map (vp d r))] h):bH [fx c .new] h:=by
 have e1:eA n (lc ⟨n,d,r,Gw⟩) (jd .new r) Gw=eA n (dJ 5 d) (dJ 5 r) Gw:=FE (λi hi=>by unfold dJ;rw[if_pos hi]) (λi hi=>by
  unfold dJ;rw[if_pos hi];show wL (CL.new.at' i) (r i)=_;rw[GR i hi];cases hs:(dI i .new).1 with
  |none=>exact absurd hs (uK i)
  |some s=>rw[tj hs];rfl) (λ_ _=>rfl)
 have e2:(List.range 5).map (λi=>ka (CL.new.at' i) (d i) (r i) (Gw i))=(List.range 5).map (vp d r):=dM λi hi=>by
  rw[GR i (eN.1 hi)];rfl
 have e3:cF CL.new.W=List.replicate 25 []:=rfl;refine bi (p:=p5 c .new) (H:=[]) ⟨n,d,r,Gw⟩ ?_;unfold p5;rw[e1,e2,e3];exact s
theorem xH:
 DT 14 #[] T0 [] (dw (λv H=>∃c,v= .pointer (some ⟨c,0,none⟩)∧H=[fx c .new])):=by
 refine BD 33 Tryz.func14 rfl rfl rfl λw0 F hF=>sr λ_ J1=>PS ?_
 refine nx J1 (sr λ_ J2=>CR My (Az) ID λvR HR hR=>?_);obtain⟨n,rfl,rfl⟩:=hR;refine BV #[(.pointer (some ⟨n,0,none⟩)),(.pointer none),(.pointer none),(.pointer none),(.pointer none),(.pointer none),(.pointer none),(.pointer none),(.pointer none),(.pointer none),(.pointer none),(.slice none 0 0),(.slice none 0 0),(.slice none 0 0),(.slice none 0 0),(.slice none 0 0)] ?_;refine XB λb5=>?_
 refine PS ?_;refine nx J2 (aa λ_ J3=>sr λ_ J4=>PS ?_);refine nx J4 (ap ?_)
 refine bB (α:=(Nat)×(Nat→Nat)×(Nat→Nat)) (λ⟨i,d,r⟩=>i≤5) (λ⟨i,d,r⟩=>[(0,(.pointer none)),(1,(.pointer (some ⟨b5,0,none⟩))),(6,(.int .i64 (((i:Nat):Int))))]) (λ⟨i,d,r⟩=>[aj b5 (eA n (dJ i d) (dJ i r) Gw) 104,dP 156 208 5 n (List.replicate 25 []),bH ((List.range i).map (vp d r))]) (λ⟨i,d,r⟩=>5-i) (0,λ_=>0,λ_=>0)
  (aN _) SB
  (λ_ s=>az [1,1,0] rfl (uQ s)) (λ⟨i,d,r⟩ hinv=>?_)
 obtain hi:=hinv;refine sr λ_ J5=>PS ?_
 refine am ?_ ?_<;>intro h7;have hlt:i<5:=by omega
 refine nx J5 (aa λ_ J6=>CY (qx J6 (aa λ_ J7=>ap (sr λ_ J8=>P2 ?_))));refine nx J8 (aa λ_ J9=>D0 dC ?_);refine PD 0 ?_;refine PD 1 ?_;refine PD 3 ?_;refine FD 4 1 ix sY ?_;refine AL 2 ?_;refine CR Mx (JH) ID λvR HR hR=>?_
 obtain⟨dn,rfl,rfl⟩:=hR;refine EN (IY 5 (1+i) Bo oU ?_);refine AL 6 ?_;refine bT (i:=1) (ab rfl) rfl rfl rfl rfl rfl oU rfl rfl (by rw[qF];omega) (Is n (dJ i d) (dJ i r) Gw (.pointer (some ⟨dn,0,none⟩)) hlt) rfl (EN (DN (ac J9 (D0 dC ?_))));refine PD 0 ?_;refine PD 1 ?_;refine PD 2 ?_;refine PD 3 ?_;refine PD 4 ?_;refine PD 5 ?_;refine FD 6 1 ix sY ?_;refine IY 7 (1+i) Bo oU ?_;refine PD 13 ?_;refine FD 14 6 ix qh ?_;refine AL 8 ?_;refine LT 1 wj (.pointer (some ⟨dn,0,none⟩)) ?_ (hc:=by exact(C1 n (mF (dJ i d) i (.pointer (some ⟨dn,0,none⟩))) (dJ i r) Gw hlt).trans (congrArg some (kP (dJ i d) i _)));refine EN (AL 9 ?_);refine CR KF (s4 i dn .new DkOk.new) ID λvR HR hR=>?_
 rcases hR with⟨hn,_⟩| ⟨s,rn,hs,rfl,rfl⟩
 · exact absurd hn (uK i)
 refine EN (PD 10 ?_);refine PD 11 ?_;refine PD 12 ?_;refine IY 15 (6+i) Da nM ?_;refine AL 16 ?_;refine bT (i:=2) (ab rfl) rfl rfl rfl rfl rfl nM rfl rfl (by rw[qF];omega) (tY n (mF (dJ i d) i (.pointer (some ⟨dn,0,none⟩))) (dJ i r) Gw (.pointer (some ⟨rn,0,none⟩)) hlt) rfl (EN (DN (ag (ac J7 (af (AD ?_))))));refine PS ?_;refine au ?_
 exact aJ ((i+1,mF d i dn,mF r i rn):(Nat)×(Nat→Nat)×(Nat→Nat)) (by omega) (by show 5- (i+1)<5-i;omega)
  SB
  (λ_ q=>by
   show bH [aj b5 (eA n (dJ (i+1) (mF d i dn)) (dJ (i+1) (mF r i rn)) Gw) 104,_,_] _;rw[←Hc,←Hc]
   exact GT hs (az [0,0,0,0,0] rfl q))
 refine nx J5 (aa λ_ J10=>CN (aZ (aB (aB (bw (ac J3 (sr λ_ J11=>P2 ?_)))))));exact nx J11 (ai (aE (H':=[fx b5 .new]) (dE _) (λ_ s=>by have h5:i=5:=(by omega);subst h5;exact GS s) (aq rfl rfl ⟨b5,rfl,rfl⟩)))
end Go.Proofs.YtjblgopghhgflaaGreat
end

section
namespace Api
open Go Leg Codec Dsk Wal
def aV(a:CL)(w:Int):List ReplyT:=if eX w then(a.at' w.toNat).reps else []
def JQ(k i j:Int):OpT:=⟨k,i,j,0,0, .zero,0,0,0⟩
theorem Hg:OkCh ChangeT.zero:=⟨by
 have: ∀n∈ChangeT.zero.flat,(Lit.int IntKind.i64 n).wf=true:=by decide+kernel
 intro n hn;exact this n hn⟩
theorem yR(k i j:Int):OkOp (JQ k i j):=⟨Hg,by show(0:Int)≤9223372036854775807;omega⟩
def uJ(a:CL)(i j:Nat):CL:=if i=j then a else(nG a (JQ 5 ((i:Nat):Int) ((j:Nat):Int))).1
def Kb(a:CL)(i:Nat):CL:=(nG a (JQ 8 ((i:Nat):Int) 0)).1
def tc(a:CL)(i:Nat):Nat→CL
 |0=>a
 |j+1=>uJ (tc a i j) i j
def sweepTo(a:CL):Nat→CL
 |0=>a
 |i+1=>tc (sweepTo a i) i 5
def uI(a:CL):CL:=sweepTo a 5
def sn(a:CL):Nat→CL
 |0=>a
 |i+1=>Kb (sn a i) i
def Fi(W:List (List MsgT))(k:Nat):Nat:=((List.range k).map λq=>if q%6=0 then 0 else(W.getD q []).length).sum
theorem xL(W:List (List MsgT))(k:Nat):Fi W (k+1)=Fi W k+(if k%6=0 then 0 else(W.getD k []).length):=by simp[Fi,cS]
def ym(a:CL):Nat:=Fi a.W 25
def lP:Nat→CL→CL
 |0,a=>a
 |k+1,a=>if ym a=0 then a else lP k (uI a)
def u9(a:CL):CL:=lP 400 (sn a 5)
theorem EK(a:CL):lP (400-0) (sn a 5)=u9 a:=by unfold u9;rw[M8]
def jL(a:CL):Nat→CL
 |0=>a
 |k+1=>u9 (jL a k)
theorem Ge{a:CL}{i j:Nat}(h:i≠j):tc a i (j+1)=(nG (tc a i j) (JQ 5 ((i:Nat):Int) ((j:Nat):Int))).1:=by
 show uJ _ i j=_;unfold uJ;rw[if_neg h]
theorem Gf{a:CL}{i j:Nat}(h:i=j):tc a i (j+1)=tc a i j:=by
 show uJ _ i j=_;unfold uJ;rw[if_pos h]
theorem rh{k:Nat}(h:k<400)(d:CL):lP (400-k) d=if ym d=0 then d else lP (400- (k+1)) (uI d):=by
 rw[show 400-k=(400- (k+1))+1 by omega];rfl
theorem yx{k:Nat}(h: ¬k<400)(d:CL):lP (400-k) d=d:=by
 rw[show 400-k=0 by omega];rfl
section
variable {n:Nat} {a:CL}
theorem CLOk.step(h:CLOk n a)(i j:Nat):CLOk n (uJ a i j):=by
 unfold uJ;split
 · exact h
 · exact CB h (yR ..) (by show ¬((0:Int)≤5∧(5:Int)≤4);omega)
theorem CLOk.tik(h:CLOk n a)(i:Nat):CLOk n (Kb a i):=CB h (yR ..) (by show ¬((0:Int)≤8∧(8:Int)≤4);omega)
theorem CLOk.rows(h:CLOk n a)(i:Nat): ∀j,CLOk n (tc a i j)
 |0=>h
 |j+1=>(CLOk.rows h i j).step i j
theorem CLOk.sweepTo(h:CLOk n a): ∀i,CLOk n (sweepTo a i)
 |0=>h
 |i+1=>(CLOk.sweepTo h i).rows i 5
theorem CLOk.ticks(h:CLOk n a): ∀i,CLOk n (sn a i)
 |0=>h
 |i+1=>(CLOk.ticks h i).tik i
theorem CLOk.sweeps: ∀(k:Nat) {a:CL},CLOk n a→CLOk n (lP k a)
 |0,_,h=>h
 |k+1,a,h=>by
  unfold lP;split
  · exact h
  · exact CLOk.sweeps k (h.sweepTo 5)
theorem CLOk.settle(h:CLOk n a): ∀k,CLOk n (jL a k)
 |0=>h
 |k+1=>by
  rw[jL,u9];exact CLOk.sweeps 400 ((CLOk.settle h k).ticks 5)
theorem CLOk.len(h:CLOk n a): ∀k,Fi a.W k≤8*k
 |0=>aP _
 |k+1=>by
  rw[xL];have:=CLOk.len h k;have:=(h.way k).1;split<;>omega
end
end Api
namespace Go.Proofs.YtjblgopghhgflaaGreat
open Go Leg Codec Api Dsk Wal
theorem qv(W:List (List MsgT)): ∀k,k≤25→k0 (cF W) k=Fi W k
 |0,_=>rfl
 |k+1,h=>by
  rw[qw,xL,qv W k (by omega),mE W (by omega),bK]
theorem BF{n:Nat}{a:CL}(h:CLOk n a): ∀k,k<25→k0 (cF a.W) k+((cF a.W).getD k []).length≤1000000000:=λk hk=>by
 rw[qv a.W k (by omega),mE a.W hk,bK];have:=h.len k;have:=(h.way k).1;omega
theorem BJ(c:Nat)(X:HP)(w:Int)(hm:eX w=false):
 DT 16 #[(.pointer (some ⟨c,0,none⟩)),(.int .i64 (w))] T0 [X] (RI (.bool false) [X]):=by
 refine BD 27 Tryz.func16 rfl rfl rfl λw0 F hF=>sr λ_ J1=>PS ?_
 refine nx J1 (sr λ_ J2=>P2 ?_);refine CE ot (nU c w) ID ?_;rw[hm];refine PS ?_
 iterate 7 refine UF ?_
 refine P2 ?_
 iterate 8 refine UF ?_
 refine P2 ?_;exact nx J2 (ai (WK [0] (aq rfl rfl ⟨rfl,rfl⟩)))
theorem Ao(c:Nat)(X:HP)(w:Int)(hm:eX w=false):
 DT 15 #[(.pointer (some ⟨c,0,none⟩)),(.int .i64 (w))] T0 [X] (RI (.slice none 0 0) [X]):=by
 refine BD 34 Tryz.func15 rfl rfl rfl λw0 F hF=>sr λ_ J1=>PS ?_
 refine nx J1 (aa λ_ J2=>sr λ_ J3=>P2 ?_);refine CE ot (nU c w) ID ?_;rw[hm];refine PS ?_;refine nx J3 (CY (sr λ_ J4=>PS ?_));exact nx J4 (ai (ae (WK [0] (aq rfl rfl ⟨rfl,rfl⟩))))
theorem AF(c n i:Nat)(D M P:Nat→Value)(hi:i<5)(hM:M i= .pointer none):
 DT 18 #[(.pointer (some ⟨c,0,none⟩)),(.int .i64 (((i:Nat):Int)))] T0 [aj c (eA n D M P) 104] (RI (.pointer none) [aj c (eA n D M P) 104]):=by
 refine BD 15 Tryz.func18 rfl rfl rfl λw0 F hF=>sr λ_ J1=>PS ?_
 refine nx J1 (aa λ_ J2=>sr λ_ J3=>P2 ?_);refine CE wH (oO c n i D M P hi hM) ID ?_;refine PS ?_;refine nx J3 (CY (sr λ_ J4=>PS ?_));exact nx J4 (ai (ae (WK [0] (aq rfl rfl ⟨rfl,rfl⟩))))
theorem AE(c n i:Nat)(D M P:Nat→Value)(hi:i<5)(d r:Nat)(e:DS)(hD:D i= .pointer (some ⟨d,0,none⟩))(hM:M i= .pointer (some ⟨r,0,none⟩)):
 DT 18 #[(.pointer (some ⟨c,0,none⟩)),(.int .i64 (((i:Nat):Int)))] T0 [aj c (eA n D M P) 104,dk d e] (dw (λv H=>((e.dn=false∧v= .pointer (some ⟨r,0,none⟩))∨(e.dn=true∧v= .pointer none))∧H=[aj c (eA n D M P) 104,dk d e])):=by
 refine BD 15 Tryz.func18 rfl rfl rfl λw0 F hF=>sr λ_ J1=>PS ?_
 refine nx J1 (aa λ_ J2=>sr λ_ J3=>P2 ?_);refine CE wH (oN c n i D M P hi d r e hD hM) ID ?_;refine aX ?_ ?_<;>intro h7;refine PS ?_;refine nx J3 (CN (qx J2 (sr λ_ J4=>P3 ?_)));refine FA 6 ix qh ?_;refine IX (6+i) Da nM ?_;refine LT 0 yd (.pointer (some ⟨r,0,none⟩)) ?_ (hc:=by exact(vT n D M P hi).trans (congrArg some hM));refine PS ?_;refine nx J4 (ai (WK [0,0] (aq rfl rfl ?_)));exact⟨.inl ⟨(by simpa using h7),rfl⟩,rfl⟩;refine PS ?_;refine nx J3 (CY (sr λ_ J5=>PS ?_));refine nx J5 (ai (ae (WK [0,0] (aq rfl rfl ?_))));exact⟨.inr ⟨(by simpa using h7),rfl⟩,rfl⟩
abbrev yA(c:Nat)(a:CL)(i:Nat)(g:CX):List HP:=aj c (eA g.n (lc g) (jd a g.r) g.p) 104::dP 156 208 5 g.n (cF a.W)::jV (a.at' i) (g.d i) (g.r i) (g.p i)
def eO(c:Nat)(a:CL)(g:CX):HP:=bH (p5 c a g)
theorem E5{α:Type}(A B C:List α):((A++B)++C).Perm ((A++C)++B):=by
 rw[aY,aY];exact List.Perm.append_left _ List.perm_append_comm
section
variable {f:FuncId} {args:Array Value} {c i:Nat} {a:CL} {g:CX}
theorem nw{H:List HP}{h:Hl}(s:bH (fx c a::H) h): ∃g,bH (eO c a g::H) h:=by
 obtain⟨h1,h2,d,e,⟨g,t⟩,s2⟩:=s;exact⟨g,h1,h2,d,e,t,s2⟩
theorem gP{H:List HP}{h:Hl}(s:bH (eO c a g::H) h):bH (fx c a::H) h:=cA s (λ_ t=>⟨g,t⟩) λ_ t=>t
theorem EA(hi:i<5){h:Hl}(s:bH [eO c a g] h):bH (yA c a i g++[bH (((List.range 5).map λi=>ka (a.at' i) (g.d i) (g.r i) (g.p i)).eraseIdx i)]) h:=by
 have s0:bH (p5 c a g++[]) h:=(bY _ _).2 s;have s2:=xB (f:=λi=>ka (a.at' i) (g.d i) (g.r i) (g.p i)) hi (az [2,0,0] rfl s0);have s3:=(bY (jV (a.at' i) (g.d i) (g.r i) (g.p i)) _).2 s2;exact az [4,4,0,0,0,0] rfl s3
theorem Ez(hi:i<5){h:Hl}(s:bH (yA c a i g++[bH (((List.range 5).map λi=>ka (a.at' i) (g.d i) (g.r i) (g.p i)).eraseIdx i)]) h):bH [eO c a g] h:=by
 have s1:=az [2,2,2,2,0,0] rfl s;have s2:=(bY (jV (a.at' i) (g.d i) (g.r i) (g.p i)) _).1 s1;have s3:=xA (f:=λi=>ka (a.at' i) (g.d i) (g.r i) (g.p i)) (g:=λi=>ka (a.at' i) (g.d i) (g.r i) (g.p i)) hi (λ_ _=>rfl) s2;exact(bY (p5 c a g) []).1 (az [1,1,0] rfl s3)
theorem zd{Q:Value→List HP→Prop}(hi:i<5)(core:DT f args T0 (yA c a i g) (dw λv H=>∃X,Q v X∧H=yA c a i g++X)):
 DT f args T0 [eO c a g] (dw λv H=>∃X,Q v X∧H=eO c a g::X):=by
 refine Leg.Does.withinR (B:=[bH (((List.range 5).map λi=>ka (a.at' i) (g.d i) (g.r i) (g.p i)).eraseIdx i)]) core (λ_ _ _ _=>trivial) (λh s=>EA hi s) λv H hp=>?_
 obtain⟨X,hQ,rfl⟩:=hp;refine⟨_,λh s=>?_,X,hQ,rfl⟩;have s1:=(bY _ X).1 (dX (E5 (yA c a i g) X [bH (((List.range 5).map λi=>ka (a.at' i) (g.d i) (g.r i) (g.p i)).eraseIdx i)]) s);exact(bY [eO c a g] X).2 (cA s1 (λh t=>Ez hi t) λ_ t=>t)
theorem CS{Q:Value→Prop}(hi:i<5)(core:DT f args T0 (yA c a i g) (dw λv H=>Q v∧H=yA c a i g)):
 DT f args T0 [eO c a g] (dw λv H=>Q v∧H=[eO c a g]):=
 kA (zd (Q:=λv X=>Q v∧X=[]) hi (kA core λv H hp=>by
  obtain⟨h1,rfl⟩:=hp
  exact⟨[],⟨h1,rfl⟩,(aM _).symm⟩)) λv H hp=>by
  obtain⟨X,⟨h1,rfl⟩,rfl⟩:=hp;exact⟨h1,rfl⟩
theorem Dg{x:Slot}{s:MS LD}(h:x.run=some s):x.up= !s.e.D.dn:=by unfold Slot.up;rw[h]
theorem yr{x:Slot}(h:x.run=none):x.up=false:=by unfold Slot.up;rw[h]
theorem na{s:MS LD}(hs:(a.at' i).run=some s):yA c a i g=[aj c (eA g.n (lc g) (jd a g.r) g.p) 104,dP 156 208 5 g.n (cF a.W),dk (g.d i) s.e.D,jb (g.p i) (a.at' i).past,fK s (g.d i) (g.r i)]:=by
 unfold yA jV Slot.dk pQ;rw[hs]
theorem zL(hi:i<5):DT 16 #[.pointer (some ⟨c,0,none⟩), .int .i64 ((i:Nat):Int)] T0 [eO c a g] (dw λv H=>v= .bool (a.at' i).up∧H=[eO c a g]):=by
 refine CS (Q:=λv=>v= .bool (a.at' i).up) hi ?_;cases hr:(a.at' i).run with
 |none=>
  rw[yr hr];refine Leg.Does.withinR (A:=[aj c (eA g.n (lc g) (jd a g.r) g.p) 104]) (B:=dP 156 208 5 g.n (cF a.W)::jV (a.at' i) (g.d i) (g.r i) (g.p i)) (oO c g.n i (lc g) (jd a g.r) g.p hi (kZ hr)) (λ_ _ _ _=>trivial) (λh s=>s) λv H hp=>?_
  obtain⟨rfl,rfl⟩:=hp;exact⟨_,λh s=>s,rfl,rfl⟩
 |some s=>
  rw[Dg hr,na hr];refine Leg.Does.withinR (B:=[dP 156 208 5 g.n (cF a.W),jb (g.p i) (a.at' i).past,fK s (g.d i) (g.r i)]) (oN c g.n i (lc g) (jd a g.r) g.p hi (g.d i) (g.r i) s.e.D rfl (pd hr)) (λ_ _ _ _=>trivial) (λh s=>az [0,1,0,0,0] rfl s) λv H hp=>?_
  obtain⟨rfl,rfl⟩:=hp;exact⟨_,λh s=>az [0,1,0,0,0] rfl s,rfl,rfl⟩
theorem FW(w:Int):DT 16 #[.pointer (some ⟨c,0,none⟩), .int .i64 w] T0 [eO c a g] (dw λv H=>v= .bool (Jj a w)∧H=[eO c a g]):=by
 unfold Jj;cases hm:eX w
 · exact BJ c (eO c a g) w hm
 · obtain⟨hi,e⟩:=gM hm
   have:=zL (c:=c) (a:=a) (g:=g) hi;rw[e]at this;exact this
def AG(a:CL)(g:CX)(i:Nat):Value:=if(a.at' i).up then .pointer (some ⟨g.r i,0,none⟩)else .pointer none
theorem vz(hi:i<5):DT 18 #[.pointer (some ⟨c,0,none⟩), .int .i64 ((i:Nat):Int)] T0 [eO c a g] (dw λv H=>v=AG a g i∧H=[eO c a g]):=by
 refine CS (Q:=λv=>v=AG a g i) hi ?_;unfold AG;cases hr:(a.at' i).run with
 |none=>
  rw[yr hr];refine Leg.Does.withinR (A:=[aj c (eA g.n (lc g) (jd a g.r) g.p) 104]) (B:=dP 156 208 5 g.n (cF a.W)::jV (a.at' i) (g.d i) (g.r i) (g.p i)) (AF c g.n i (lc g) (jd a g.r) g.p hi (kZ hr)) (λ_ _ _ _=>trivial) (λh s=>s) λv H hp=>?_
  obtain⟨rfl,rfl⟩:=hp;exact⟨_,λh s=>s,rfl,rfl⟩
 |some s=>
  rw[Dg hr,na hr];refine Leg.Does.withinR (B:=[dP 156 208 5 g.n (cF a.W),jb (g.p i) (a.at' i).past,fK s (g.d i) (g.r i)]) (AE c g.n i (lc g) (jd a g.r) g.p hi (g.d i) (g.r i) s.e.D rfl (pd hr)) (λ_ _ _ _=>trivial) (λh s=>az [0,1,0,0,0] rfl s) λv H hp=>?_
  obtain⟨hv,rfl⟩:=hp;refine⟨_,λh s=>az [0,1,0,0,0] rfl s,?_,rfl⟩;rcases hv with⟨h1,rfl⟩| ⟨h1,rfl⟩<;>rw[h1]<;>rfl
theorem B9{n:Nat}(h:CLOk n a)(hn:n≤100000)(hi:i<5):DT 15 #[.pointer (some ⟨c,0,none⟩), .int .i64 ((i:Nat):Int)] T0 [eO c a g] (dw λv H=>∃u,u.oneCell'=true∧v=u∧H=[eO c a g,jb u (a.at' i).reps]):=by
 refine kA (zd (Q:=λv X=>v.oneCell'=true∧X=[jb v (a.at' i).reps]) hi ?_) λv H hp=>by
  obtain⟨X,⟨h1,rfl⟩,rfl⟩:=hp;exact⟨v,h1,rfl,rfl⟩
 have hl:=(h.at' i hi).reps;unfold Slot.reps at hl ⊢;cases hr:(a.at' i).run with
 |none=>
  rw[hr]at hl;simp only[aM]at hl ⊢;refine Leg.Does.withinR (A:=[aj c (eA g.n (lc g) (jd a g.r) g.p) 104,jb (g.p i) (a.at' i).past]) (B:=[dP 156 208 5 g.n (cF a.W),dk (g.d i) (a.at' i).dk,pQ (a.at' i) (g.d i) (g.r i)]) (vc c g.n i (lc g) (jd a g.r) g.p hi (kZ hr) (a.at' i).past (by omega)) (λ_ _ _ _=>trivial) (λh s=>az [0,2,0,0,0] rfl s) λv H hp=>?_
  obtain⟨u,hu,rfl,rfl⟩:=hp;exact⟨_,λh s=>az [0,2,2,0,1,0] rfl s,[jb v (a.at' i).past],⟨hu,rfl⟩,rfl⟩
 |some s=>
  rw[hr]at hl;simp only[ad]at hl;rw[na hr];refine Leg.Does.withinR (B:=[dP 156 208 5 g.n (cF a.W),dk (g.d i) s.e.D]) (va c g.n i (lc g) (jd a g.r) g.p hi (g.d i) (g.r i) s (pd hr) (a.at' i).past (by omega) (by omega)) (λ_ _ _ _=>trivial) (λh s=>az [0,2,2,0,0] rfl s) λv H hp=>?_
  obtain⟨u,hu,rfl,rfl⟩:=hp;exact⟨_,λh s=>az [0,3,3,0,0,0] rfl s,[jb v ((a.at' i).past++s.replies)],⟨hu,rfl⟩,rfl⟩
theorem qm{n:Nat}(h:CLOk n a)(hn:n≤100000)(w:Int):DT 15 #[.pointer (some ⟨c,0,none⟩), .int .i64 w] T0 [eO c a g] (dw λv H=>∃u,u.oneCell'=true∧v=u∧H=[eO c a g,jb u (aV a w)]):=by
 unfold aV;cases hm:eX w
 · refine Leg.Does.fold (Ao c (eO c a g) w hm) λe H hp=>?_
   cases e with
   |returned v=>
    obtain⟨rfl,rfl⟩:=hp;exact⟨_,λh s=>az [1,0] rfl (fR 37 3 s),_,rfl,rfl,rfl⟩
   |panicked c=>exact hp.elim
   |outgrown=>exact hp.elim
 · obtain⟨hi,e⟩:=gM hm
   have:=B9 (c:=c) (g:=g) h hn hi;rw[e]at this;exact this
theorem Ls{s:MS LD}{Q:Value→Prop}(hi:i<5)(hs:(a.at' i).run=some s)(hf:DT f args T0 [fK s (g.d i) (g.r i)] (dw λv H=>Q v∧H=[fK s (g.d i) (g.r i)])):DT f args T0 [eO c a g] (dw λv H=>Q v∧H=[eO c a g]):=by
 refine CS hi ?_;rw[na hs];refine Leg.Does.withinR (B:=[aj c (eA g.n (lc g) (jd a g.r) g.p) 104,dP 156 208 5 g.n (cF a.W),dk (g.d i) s.e.D,jb (g.p i) (a.at' i).past]) hf (λ_ _ _ _=>trivial) (λh q=>az [4,0,0,0,0] rfl q) λv H hp=>?_
 obtain⟨hQ,rfl⟩:=hp;exact⟨_,λh q=>az [1,1,1,1,0] rfl q,hQ,rfl⟩
theorem Gd{s:MS LD}{d r:Nat}{v0:RepT→Value}(hf: ∀x,DT f args T0 [aj r (RepT.cells x) 123] (dw λv H=>v=v0 x∧H=[aj r (RepT.cells x) 123])){w:Value}(hv: ∀a,v0 (s.rep a)=w):DT f args T0 [fK s d r] (dw λv H=>v=w∧H=[fK s d r]):=
 Leg.Does.pack (B:=[]) λx=>Leg.Does.withinR (A:=[aj r (RepT.cells (s.rep x)) 123]) (B:=[DR x.lg d ((s.e.cnt:Nat):Int) s.e.used,jb x.rs s.replies,Df x.vo s.vote]) (hf (s.rep x)) (λ_ _ _ _=>trivial) (λ_ q=>q) λv H hp=>by
  obtain⟨rfl,rfl⟩:=hp;exact⟨[fK s d r],λ_ q=>bi (p:=EI s d r) (H:=[]) x q,hv x,rfl⟩
theorem zK(s:MS LD)(d r:Nat)(key:Int):DT 51 #[.pointer (some ⟨r,0,none⟩), .int .i64 key] T0 [fK s d r] (dw λv H=>v= .int .i64 (jX s.book key)∧H=[fK s d r]):=Gd (λx=>Ar r x key) λ_=>rfl
theorem Co(hi:i<5):DT 18 #[.pointer (some ⟨c,0,none⟩), .int .i64 ((i:Nat):Int)] T0 [eO c a g] (dw λv H=>((a.at' i).up=false∧v= .pointer none∧H=[eO c a g])∨∃s,(a.at' i).run=some s∧(a.at' i).up=true∧v= .pointer (some ⟨g.r i,0,none⟩)∧H=[eO c a g]):=
 kA (vz hi) λv H hp=>by
  obtain⟨rfl,rfl⟩:=hp;unfold AG;cases hu:(a.at' i).up with
  |false=>exact .inl ⟨rfl,rfl,rfl⟩
  |true=>
   cases hs:(a.at' i).run with
   |none=>rw[yr hs]at hu;cases hu
   |some s=>exact .inr ⟨s,rfl,rfl,rfl,rfl⟩
theorem yJ{s:MS LD}(hi:i<5)(hs:(a.at' i).run=some s)(h:s.replies.length≤1000000):DT 19 #[.pointer (some ⟨g.r i,0,none⟩)] T0 [eO c a g] (dw λv H=>∃u,v=u∧H=[eO c a g,jb u s.replies]):=by
 refine kA (zd (Q:=λv X=>X=[jb v s.replies]) hi ?_) λv H hp=>by
  obtain⟨X,rfl,rfl⟩:=hp;exact⟨v,rfl,rfl⟩
 rw[na hs];refine Leg.Does.withinR (B:=[aj c (eA g.n (lc g) (jd a g.r) g.p) 104,dP 156 208 5 g.n (cF a.W),dk (g.d i) s.e.D,jb (g.p i) (a.at' i).past]) (xx s (g.d i) (g.r i) h) (λ_ _ _ _=>trivial) (λh q=>az [4,0,0,0,0] rfl q) λv H hp=>?_
 obtain⟨u,rfl,rfl⟩:=hp;exact⟨_,λh q=>az [2,2,2,2,0,0] rfl q,[jb v s.replies],rfl,rfl⟩
end
end Go.Proofs.YtjblgopghhgflaaGreat
end
