/-
  Joined texts:what a statement's proof reaches.
-/
import Derived.Lib.AppendStr
import Derived.Lib.UnsafeStr
import Derived.Lib.Builder
import Derived.Test.YtfocodjhmkokpaaGreatDoorPWB6
set_option maxHeartbeats 8000000
set_option maxRecDepth 100000
set_option linter.unusedSimpArgs false
set_option linter.unusedVariables false
section
namespace Go.Proofs.YtfocodjhmkokpaaGreatDoor
open Go Leg Codec Api Dsk Wal
theorem CU{δ:Type}(V:Env δ)(r:Nat)(s:MS δ)[OkR V.toDk s](hv:(fY V.toDk (ck V.toDk (bX V.toDk s))).vote=none):
 DT 47 #[(.pointer (some ⟨r,0,none⟩)),(.iface V.T V.ov)] T0 [cH V r s] (c9 (λ_ H=>H=[cH V r (iw V.toDk s)])):=by
 refine BD 89 Tryz.func47 rfl rfl rfl λw0 F hF=>aa λ_ J1=>eT (α:=Unit) (λ_u=>True) (λ_u=>[(0,(.pointer (some ⟨r,0,none⟩))),(1,(.iface V.T V.ov))]) (λ_u=>[cH V r (if s.busy=true then fk V.toDk s else s)]) (λ_u hinv=>?_) (λtl1=>?_)
 have _:=hinv;refine ac J1 (sr λ_ J2=>P2 ?_);refine CZ Jw (oo V r (if s.busy=true then fk V.toDk s else s)) ID λvR=>?_
 refine nx J2 (sr λ_ J3=>P2 ?_);refine CZ KZ (pJ V r (mN V.toDk (if s.busy=true then fk V.toDk s else s))) ID λvR=>?_
 refine nx J3 (aa λ_ J4=>eT (α:=Unit) (λ_u=>True) (λ_u=>[(0,(.pointer (some ⟨r,0,none⟩))),(1,(.iface V.T V.ov))]) (λ_u=>[cH V r (ck V.toDk (bX V.toDk s))]) (λ_u hinv=>?_) (λtl4=>?_));have _:=hinv;refine ac J4 (aa λ_ J5=>aa λ_ J6=>DB bf (cR 0 rfl rfl) ?_);refine PD 0 ?_;refine PD 1 ?_;refine FD 2 2 cW be ?_;refine ta 3 rfl (fU (vs:=ints ((ck V.toDk (bX V.toDk s)).view).flat) rfl dS rfl be rfl (λ_ h=>h.2.1) (an ((ck V.toDk (bX V.toDk s)).view)) (λa_=>(fO ((ck V.toDk (bX V.toDk s)).rep a_) 0 rfl (by decide) (whole (an (((ck V.toDk (bX V.toDk s)).rep a_).view)))))) ?_;refine PD 4 ?_;refine PD 5 ?_;refine FD 6 0 cW aO ?_;refine ta 7 rfl (c7 (v:=(.int .i64 ((ck V.toDk (bX V.toDk s)).id))) rfl Y3 rfl rfl (λ_ h=>h.2.1) (λa_=>(cF _ rfl))) ?_;refine AL 8 ?_;refine CE px (dr ((ck V.toDk (bX V.toDk s)).view) ((ck V.toDk (bX V.toDk s)).id)) ID ?_;refine bc ?_ ?_<;>intro h42;refine EN (PD 9 ?_);refine DN (ac J6 (CN (qx J5 (aa λ_ J7=>eT (α:=Unit) (λ_u=>True) (λ_u=>[(0,(.pointer (some ⟨r,0,none⟩))),(1,(.iface V.T V.ov))]) (λ_u=>[cH V r (fY V.toDk (ck V.toDk (bX V.toDk s)))]) (λ_u hinv=>?_) (λtl7=>?_)))));have _:=hinv;refine ac J7 (aa λ_ J8=>sr λ_ J9=>ce (H':=uT V r (fY V.toDk (ck V.toDk (bX V.toDk s))) (.pointer none)::[]) (λ_ q=>rZ hv q) (P2 ?_));refine FA 1067 cW my ?_;refine LG 0 oO (.pointer none) ?_ (hc:=by exact λa_=>(bW _ rfl))
 refine tp (O8 rfl oO rfl rfl) ?_;refine nx J9 (CY (ah (ae (aF (H':=[cH V r (fY V.toDk (ck V.toDk (bX V.toDk s)))]) (cZ _) (λ_ q=>nD hv (ak [0] rfl q)) (dx rfl ?_)))));exact MQ (by rw[iw,if_pos h42,rD,hv]);refine aa λ_ J10=>eT (α:=(Nat)) (λb4=>True) (λb4=>[(0,(.pointer (some ⟨r,0,none⟩))),(1,(.iface V.T V.ov)),(4,(.pointer (some ⟨b4,0,none⟩)))]) (λb4=>[cH V r (ck V.toDk (bX V.toDk s)),aj b4 (ints (cv (ck V.toDk (bX V.toDk s)).book (ck V.toDk (bX V.toDk s)).id).flat) 39]) (λb4 hinv=>?_) (λtl10=>?_)
 have _:=hinv;refine ac J10 (sr λ_ J11=>FA 0 dI aO ?_);refine LT 1 Y3 (.int .i64 ((cv (ck V.toDk (bX V.toDk s)).book (ck V.toDk (bX V.toDk s)).id).version)) ?_ (hc:=by exact cA _ rfl);refine PS ?_;refine ao ?_ ?_<;>intro h54;refine nx J11 (CY (ad (P2 ?_)));refine LW 1 dI ba ai ?_;refine CZ KX (mw V r (ck V.toDk (bX V.toDk s)) (cv (ck V.toDk (bX V.toDk s)).book (ck V.toDk (bX V.toDk s)).id)) ID λvR=>?_
 refine ap ?_
 exact aF
  SB
  (λ_ q=>by
   rw[fY,if_pos h54]
   exact ak [0] rfl q)
  (tl7 (():Unit) trivial)
 refine nx J11 (CN (aM ?_))
 exact aF
  SB
  (λ_ q=>by
   rw[fY,if_neg h54]
   exact ak [0] rfl q)
  (tl7 (():Unit) trivial)
 refine DB bf (cR 0 rfl rfl) ?_;refine PD 0 ?_;refine PD 1 ?_;refine FD 2 1068 cW AG ?_;refine PD 3 ?_;refine PD 4 ?_;refine FD 5 0 cW aO ?_;refine ta 6 rfl (c7 (v:=(.int .i64 ((ck V.toDk (bX V.toDk s)).id))) rfl Y3 rfl rfl (λ_ h=>h.2.1) (λa_=>(cF _ rfl))) ?_;refine cx [7,8] (by kernel_rfl) rfl (aE rfl ?_ ?_);refine CE Jv (Leg.Does.hid (λa_=>ma r 1068 87 _ (fR ((ck V.toDk (bX V.toDk s)).rep a_)) (ck V.toDk (bX V.toDk s)).book ((ck V.toDk (bX V.toDk s)).id))) ID ?_;refine EN (AL 8 ?_);refine XZ tx (ints RowT.zero.flat) λb4=>?_
 refine EN (AL 9 ?_);refine SW 0 ba ai ?_;refine EN (DN ?_)
 exact aF
  SB
  (λ_ s=>ak [1,0] rfl s)
  (tl10 ((b4):(Nat)) trivial)
 refine aE rfl ?_ ?_;refine XZ tx (ints RowT.zero.flat) λb4=>?_
 refine EN (AL 7 ?_);refine CE Jv (Leg.Does.hid (λa_=>ma r 1068 87 _ (fR ((ck V.toDk (bX V.toDk s)).rep a_)) (ck V.toDk (bX V.toDk s)).book ((ck V.toDk (bX V.toDk s)).id))) (SM [1]) ?_;refine EN (AL 9 ?_);refine SW 1 ba ai ?_;refine EN (DN ?_)
 exact aF
  SB
  (λ_ s=>ak [0,0] rfl s)
  (tl10 ((b4):(Nat)) trivial)
 exact bz;refine EN (PD 9 ?_);refine DN (ac J6 (CY (ah (ae (WK [0] (dx rfl ?_))))));exact MQ (by rw[iw,if_neg (by rw[h42];decide)]);refine sr λ_ J12=>P2 ?_
 refine FA 2 cW be ?_;refine FA 2 dS aO ?_;refine LG 0 Y3 (.int .i64 (((bX V.toDk s).view).epoch)) ?_ (hc:=by exact λa_=>(cm ((bX V.toDk s).rep a_) 0 rfl (by decide) (aU _ rfl)));refine PS ?_;refine ao ?_ ?_<;>intro h26;refine nx J12 (CY (ad (P4 ?_)));refine FA 2 cW be ?_;refine LZ 0 dS be an ((bX V.toDk s).view) ?_ (hc:=by exact λ_=>cO _);refine CZ KY (mu V r (bX V.toDk s) ((bX V.toDk s).view)) ID λvR=>?_
 refine ap ?_
 exact aF
  SB
  (λ_ q=>by
   rw[ck,if_pos h26]
   exact ak [0] rfl q)
  (tl4 (():Unit) trivial)
 refine nx J12 (CN (aM ?_))
 exact aF
  SB
  (λ_ q=>by
   rw[ck,if_neg h26]
   exact ak [0] rfl q)
  (tl4 (():Unit) trivial)
 refine sr λ_ J13=>P2 ?_
 refine FA 1938 cW kE ?_;refine LG 0 Y4 (.bool (s.busy)) ?_ (hc:=by exact λa_=>(xQ _ rfl));refine bc ?_ ?_<;>intro h11;refine nx J13 (CY (ad (P2 ?_)));refine CZ K0 (nc V r s) ID λvR=>?_
 refine ap ?_
 exact aF
  SB
  (λ_ q=>by
   rw[if_pos h11]
   exact ak [0] rfl q)
  (tl1 (():Unit) trivial)
 refine nx J13 (CN (aM ?_))
 exact aF
  SB
  (λ_ q=>by
   rw[if_neg (by rw[h11];decide)]
   exact ak [0] rfl q)
  (tl1 (():Unit) trivial)
theorem CS{δ:Type}(V:Env δ)(r:Nat)(s:MS δ)(vt:VoteT)[OkR V.toDk s](hv:(fY V.toDk (ck V.toDk (bX V.toDk s))).vote=some vt):
 DT 47 #[(.pointer (some ⟨r,0,none⟩)),(.iface V.T V.ov)] T0 [cH V r s] (c9 (λ_ H=>H=[cH V r (iw V.toDk s)])):=by
 refine BD 89 Tryz.func47 rfl rfl rfl λw0 F hF=>?_
 have hov:OkVt vt:=OkR.vote vt hv;refine aa λ_ J1=>eT (α:=Unit) (λ_u=>True) (λ_u=>[(0,(.pointer (some ⟨r,0,none⟩))),(1,(.iface V.T V.ov))]) (λ_u=>[cH V r (if s.busy=true then fk V.toDk s else s)]) (λ_u hinv=>?_) (λtl1=>?_)
 have _:=hinv;refine ac J1 (sr λ_ J2=>P2 ?_);refine CZ Jw (oo V r (if s.busy=true then fk V.toDk s else s)) ID λvR=>?_
 refine nx J2 (sr λ_ J3=>P2 ?_);refine CZ KZ (pJ V r (mN V.toDk (if s.busy=true then fk V.toDk s else s))) ID λvR=>?_
 refine nx J3 (aa λ_ J4=>eT (α:=Unit) (λ_u=>True) (λ_u=>[(0,(.pointer (some ⟨r,0,none⟩))),(1,(.iface V.T V.ov))]) (λ_u=>[cH V r (ck V.toDk (bX V.toDk s))]) (λ_u hinv=>?_) (λtl4=>?_));have _:=hinv;refine ac J4 (aa λ_ J5=>aa λ_ J6=>DB bf (cR 0 rfl rfl) ?_);refine PD 0 ?_;refine PD 1 ?_;refine FD 2 2 cW be ?_;refine ta 3 rfl (fU (vs:=ints ((ck V.toDk (bX V.toDk s)).view).flat) rfl dS rfl be rfl (λ_ h=>h.2.1) (an ((ck V.toDk (bX V.toDk s)).view)) (λa_=>(fO ((ck V.toDk (bX V.toDk s)).rep a_) 0 rfl (by decide) (whole (an (((ck V.toDk (bX V.toDk s)).rep a_).view)))))) ?_;refine PD 4 ?_;refine PD 5 ?_;refine FD 6 0 cW aO ?_;refine ta 7 rfl (c7 (v:=(.int .i64 ((ck V.toDk (bX V.toDk s)).id))) rfl Y3 rfl rfl (λ_ h=>h.2.1) (λa_=>(cF _ rfl))) ?_;refine AL 8 ?_;refine CE px (dr ((ck V.toDk (bX V.toDk s)).view) ((ck V.toDk (bX V.toDk s)).id)) ID ?_;refine bc ?_ ?_<;>intro h42;refine EN (PD 9 ?_);refine DN (ac J6 (CN (qx J5 (aa λ_ J7=>eT (α:=Unit) (λ_u=>True) (λ_u=>[(0,(.pointer (some ⟨r,0,none⟩))),(1,(.iface V.T V.ov))]) (λ_u=>[cH V r (fY V.toDk (ck V.toDk (bX V.toDk s)))]) (λ_u hinv=>?_) (λtl7=>?_)))));have _:=hinv;refine ac J7 (aa λ_ J8=>sr λ_ J9=>Nr (H':=λvb:Nat=>uT V r (fY V.toDk (ck V.toDk (bX V.toDk s))) (.pointer (some ⟨vb,0,none⟩))::aj vb (VoteT.cells vt) 207::[]) (λ_ q=>mH hv q) (λvb=>P2 ?_));refine FA 1067 cW my ?_
 refine LG 0 oO (.pointer (some ⟨vb,0,none⟩)) ?_ (hc:=by exact λa_=>(bW _ rfl));refine tp (fG rfl oO rfl rfl) ?_;refine nx J9 (CN (qx J8 (sr λ_ J10=>P2 ?_)));refine FA 1067 cW my ?_;refine LG 0 oO (.pointer (some ⟨vb,0,none⟩)) ?_ (hc:=by exact λa_=>(bW _ rfl));refine CE tc (cX vb vt) (SM [1]) ?_;change TL _ _ _ _ _ _ _ _ _ [aj vb (VoteT.cells vt) 207,uT V r (fY V.toDk (ck V.toDk (bX V.toDk s))) (.pointer (some ⟨vb,0,none⟩))];refine ce (H':=cH V r (fY V.toDk (ck V.toDk (bX V.toDk s)))::[]) (λ_ q=>nC hv (aA [1,0] rfl q)) (XZ NJ (ints ChangeT.zero.flat) λb5=>?_);refine SW 0 eZ aI ?_;refine nx J10 (aa λ_ J11=>eT (α:=Unit) (λ_u=>True) (λ_u=>[(0,(.pointer (some ⟨r,0,none⟩))),(1,(.iface V.T V.ov)),(5,(.pointer (some ⟨b5,0,none⟩))),(7,(.int .i64 ((dL (fY V.toDk (ck V.toDk (bX V.toDk s))).view vt.change).2)))]) (λ_u=>[cH V r (fY V.toDk (ck V.toDk (bX V.toDk s))),aj b5 (ints vt.change.flat) 61]) (λ_u hinv=>?_) (λtl11=>?_));have _:=hinv;refine ac J11 (sr λ_ J12=>P2 ?_);refine ao ?_ ?_<;>intro h79;refine P2 ?_;refine LW 1 lW eZ aI ?_;refine CE KW (pL V r (fY V.toDk (ck V.toDk (bX V.toDk s))) vt.change) ID ?_;refine PS ?_;refine ao ?_ ?_<;>intro h84;refine PS ?_;refine nx J12 (CY (ad (P2 ?_)))
 refine CZ Ju (qL V r ((cG V.toDk (fY V.toDk (ck V.toDk (bX V.toDk s))) vt.change).1) (jO (fY V.toDk (ck V.toDk (bX V.toDk s))).view (eC (fY V.toDk (ck V.toDk (bX V.toDk s)))) vt.change) (qY h84)) ID λvR=>?_
 refine ap (WK [0] (br rfl ?_));exact MQ (by rw[iw,if_pos h42,rD,hv];simp only[];rw[if_pos h79,if_pos h84]);refine PS ?_;refine nx J12 (CN (aM (WK [0] (br rfl ?_))));exact MQ (by rw[iw,if_pos h42,rD,hv];simp only[];rw[if_pos h79,if_neg h84]);refine PS ?_
 iterate 4 refine UF ?_
 refine PS ?_;refine nx J12 (CN (aM (WK [0] (br rfl ?_))));exact MQ (by rw[iw,if_pos h42,rD,hv];simp only[];rw[if_neg h79]);refine DC bf (cR 1 rfl rfl) (BL 0) ?_;refine PD 0 ?_;refine PD 1 ?_;refine FD 2 2 cW be ?_;refine ta 3 rfl (fU (vs:=ints ((fY V.toDk (ck V.toDk (bX V.toDk s))).view).flat) rfl dS rfl be rfl (λ_ h=>h.2.1) (an ((fY V.toDk (ck V.toDk (bX V.toDk s))).view)) (λa_=>(fO ((fY V.toDk (ck V.toDk (bX V.toDk s))).rep a_) 0 rfl (by decide) (whole (an (((fY V.toDk (ck V.toDk (bX V.toDk s))).rep a_).view)))))) ?_;refine LY 4 lW eZ aI ?_;refine cx [5,9] (by kernel_rfl) rfl (aE rfl ?_ ?_);refine CE mF (dh ((fY V.toDk (ck V.toDk (bX V.toDk s))).view) vt.change OkVw.rng) ID ?_;refine EN (PD 6 ?_);refine PD 7 ?_;refine PD 8 ?_;refine AL 9 ?_;refine XZ rf (ints ViewT.zero.flat) λb6=>?_
 refine EN (AL 10 ?_);refine SW 0 be an ?_;refine EN (PD 11 ?_);refine DN ?_
 exact aF
  SB
  (λ_ s=>ak [2,1] rfl s)
  (tl11 (():Unit) trivial)
 refine aE rfl ?_ ?_;refine XZ rf (ints ViewT.zero.flat) λb6=>?_
 refine EN (AL 5 ?_);refine CE mF (dh ((fY V.toDk (ck V.toDk (bX V.toDk s))).view) vt.change OkVw.rng) ID ?_;refine EN (PD 6 ?_);refine PD 7 ?_;refine PD 8 ?_;refine AL 10 ?_;refine SW 0 be an ?_;refine EN (PD 11 ?_);refine DN ?_
 exact aF
  SB
  (λ_ s=>ak [2,1] rfl s)
  (tl11 (():Unit) trivial)
 exact bz;refine aa λ_ J13=>eT (α:=(Nat)) (λb4=>True) (λb4=>[(0,(.pointer (some ⟨r,0,none⟩))),(1,(.iface V.T V.ov)),(4,(.pointer (some ⟨b4,0,none⟩)))]) (λb4=>[cH V r (ck V.toDk (bX V.toDk s)),aj b4 (ints (cv (ck V.toDk (bX V.toDk s)).book (ck V.toDk (bX V.toDk s)).id).flat) 39]) (λb4 hinv=>?_) (λtl13=>?_)
 have _:=hinv;refine ac J13 (sr λ_ J14=>FA 0 dI aO ?_);refine LT 1 Y3 (.int .i64 ((cv (ck V.toDk (bX V.toDk s)).book (ck V.toDk (bX V.toDk s)).id).version)) ?_ (hc:=by exact cA _ rfl);refine PS ?_;refine ao ?_ ?_<;>intro h54;refine nx J14 (CY (ad (P2 ?_)));refine LW 1 dI ba ai ?_;refine CZ KX (mw V r (ck V.toDk (bX V.toDk s)) (cv (ck V.toDk (bX V.toDk s)).book (ck V.toDk (bX V.toDk s)).id)) ID λvR=>?_
 refine ap ?_
 exact aF
  SB
  (λ_ q=>by
   rw[fY,if_pos h54]
   exact ak [0] rfl q)
  (tl7 (():Unit) trivial)
 refine nx J14 (CN (aM ?_))
 exact aF
  SB
  (λ_ q=>by
   rw[fY,if_neg h54]
   exact ak [0] rfl q)
  (tl7 (():Unit) trivial)
 refine DB bf (cR 0 rfl rfl) ?_;refine PD 0 ?_;refine PD 1 ?_;refine FD 2 1068 cW AG ?_;refine PD 3 ?_;refine PD 4 ?_;refine FD 5 0 cW aO ?_;refine ta 6 rfl (c7 (v:=(.int .i64 ((ck V.toDk (bX V.toDk s)).id))) rfl Y3 rfl rfl (λ_ h=>h.2.1) (λa_=>(cF _ rfl))) ?_;refine cx [7,8] (by kernel_rfl) rfl (aE rfl ?_ ?_);refine CE Jv (Leg.Does.hid (λa_=>ma r 1068 87 _ (fR ((ck V.toDk (bX V.toDk s)).rep a_)) (ck V.toDk (bX V.toDk s)).book ((ck V.toDk (bX V.toDk s)).id))) ID ?_;refine EN (AL 8 ?_);refine XZ tx (ints RowT.zero.flat) λb4=>?_
 refine EN (AL 9 ?_);refine SW 0 ba ai ?_;refine EN (DN ?_)
 exact aF
  SB
  (λ_ s=>ak [1,0] rfl s)
  (tl13 ((b4):(Nat)) trivial)
 refine aE rfl ?_ ?_;refine XZ tx (ints RowT.zero.flat) λb4=>?_
 refine EN (AL 7 ?_);refine CE Jv (Leg.Does.hid (λa_=>ma r 1068 87 _ (fR ((ck V.toDk (bX V.toDk s)).rep a_)) (ck V.toDk (bX V.toDk s)).book ((ck V.toDk (bX V.toDk s)).id))) (SM [1]) ?_;refine EN (AL 9 ?_);refine SW 1 ba ai ?_;refine EN (DN ?_)
 exact aF
  SB
  (λ_ s=>ak [0,0] rfl s)
  (tl13 ((b4):(Nat)) trivial)
 exact bz;refine EN (PD 9 ?_);refine DN (ac J6 (CY (ah (ae (WK [0] (dx rfl ?_))))));exact MQ (by rw[iw,if_neg (by rw[h42];decide)]);refine sr λ_ J15=>P2 ?_
 refine FA 2 cW be ?_;refine FA 2 dS aO ?_;refine LG 0 Y3 (.int .i64 (((bX V.toDk s).view).epoch)) ?_ (hc:=by exact λa_=>(cm ((bX V.toDk s).rep a_) 0 rfl (by decide) (aU _ rfl)));refine PS ?_;refine ao ?_ ?_<;>intro h26;refine nx J15 (CY (ad (P4 ?_)));refine FA 2 cW be ?_;refine LZ 0 dS be an ((bX V.toDk s).view) ?_ (hc:=by exact λ_=>cO _);refine CZ KY (mu V r (bX V.toDk s) ((bX V.toDk s).view)) ID λvR=>?_
 refine ap ?_
 exact aF
  SB
  (λ_ q=>by
   rw[ck,if_pos h26]
   exact ak [0] rfl q)
  (tl4 (():Unit) trivial)
 refine nx J15 (CN (aM ?_))
 exact aF
  SB
  (λ_ q=>by
   rw[ck,if_neg h26]
   exact ak [0] rfl q)
  (tl4 (():Unit) trivial)
 refine sr λ_ J16=>P2 ?_
 refine FA 1938 cW kE ?_;refine LG 0 Y4 (.bool (s.busy)) ?_ (hc:=by exact λa_=>(xQ _ rfl));refine bc ?_ ?_<;>intro h11;refine nx J16 (CY (ad (P2 ?_)));refine CZ K0 (nc V r s) ID λvR=>?_
 refine ap ?_
 exact aF
  SB
  (λ_ q=>by
   rw[if_pos h11]
   exact ak [0] rfl q)
  (tl1 (():Unit) trivial)
 refine nx J16 (CN (aM ?_))
 exact aF
  SB
  (λ_ q=>by
   rw[if_neg (by rw[h11];decide)]
   exact ak [0] rfl q)
  (tl1 (():Unit) trivial)
theorem CO{δ:Type}(V:Env δ)(r:Nat)(s:MS δ)[OkR V.toDk s]:DT 47 #[.pointer (some ⟨r,0,none⟩), .iface V.T V.ov] T0 [cH V r s] (c9 (λ_ H=>H=[cH V r (iw V.toDk s)])):=by
 cases hv:(fY V.toDk (ck V.toDk (bX V.toDk s))).vote with
 |none=>exact CU V r s hv
 |some vt=>exact CS V r s vt hv
abbrev CA{δ:Type}(lg r:Nat)(s:MS δ):HP:=hid r (λ_:Unit=>RepT.cells (s.rep ⟨lg, .pointer none, .slice none 0 0⟩)) 87 (λ_=>[])
theorem ui{δ:Type}(lg r:Nat)(s:MS δ)(v:ViewT):
 DT 67 #[(.pointer (some ⟨r,0,none⟩)),(.agg (ints v.flat).toArray)] T0 [CA lg r s] (c9 (λ_ H=>H=[CA lg r (mL s v)])):=by
 refine BD 20 Tryz.func67 rfl rfl rfl λw0 F hF=>sr λ_ J1=>XY (ints v.flat) λb3=>?_
 refine nx J1 (sr λ_ J2=>PS ?_);refine LW 0 dS be an ?_;refine PS ?_;refine FA 2 cW be ?_;refine gI (vs:=ints v.flat) (i:=1) (ab rfl) rfl rfl rfl rfl rfl (by rw[(an v)];exact be) (bm _) rfl rfl (λ_=>LC (cQ _) (an _)) (λa_=>(OJ (s.rep ⟨lg, .pointer none, .slice none 0 0⟩) 0 rfl (by have h1:=(an v);omega) (cg ((an ((s.rep ⟨lg, .pointer none, .slice none 0 0⟩).view)).trans (an v).symm)))) (nx J2 (sr λ_ J3=>PS ?_));refine FA 0 dS aO ?_;refine LU 0 Y3 (aU v rfl) ?_;refine tp (ke AccT.zero (AccT.mk v.epoch BallotT.zero BallotT.zero ChangeT.zero) [(0,[Value.int .i64 v.epoch])] oU nR (g:=AccT.sg)) ?_;refine PS ?_;refine FA 1058 cW fD ?_;refine gI (vs:=ints (AccT.mk v.epoch BallotT.zero BallotT.zero ChangeT.zero).flat) (i:=1) (ab rfl) rfl rfl rfl rfl rfl (by rw[(a9 (AccT.mk v.epoch BallotT.zero BallotT.zero ChangeT.zero))];exact fD) (bm _) rfl rfl (λ_=>LC (cQ _) (a9 _)) (λa_=>(kb ((MS.setView s v).rep ⟨lg, .pointer none, .slice none 0 0⟩) 0 rfl (by have h1:=(a9 (AccT.mk v.epoch BallotT.zero BallotT.zero ChangeT.zero));omega) (cg ((a9 (((MS.setView s v).rep ⟨lg, .pointer none, .slice none 0 0⟩).acc)).trans (a9 (AccT.mk v.epoch BallotT.zero BallotT.zero ChangeT.zero)).symm)))) (nx J3 (sr λ_ J4=>P2 ?_));refine FA 1067 cW my ?_;refine SK 1 my (λ_=>cQ _) ?_ (hc:=by exact λa_=>(OL _ rfl _));refine nx J4 (ad (P2 ?_));refine FA 1066 cW aO ?_;refine SK 1 aO (λ_=>cQ _) ?_ (hc:=by exact λa_=>(lC _ rfl _))
 exact ap (WK [1] (br rfl rfl))
theorem xp{δ:Type}(lg r:Nat)(s:MS δ)(m:RecT)(hw:WF m.row.flat):
 DT 69 #[(.pointer (some ⟨r,0,none⟩)),(.agg (ints m.flat).toArray)] T0 [CA lg r s] (c9 (λ_ H=>H=[CA lg r (jl s m)])):=by
 refine BD 93 Tryz.func69 rfl rfl rfl λw0 F hF=>sr λ_ J1=>XY (ints m.flat) λb3=>?_
 refine nx J1 (sr λ_ J2=>FA 0 dT aO ?_);refine LU 0 Y3 (kc m rfl) ?_;refine nx J2 (am (sr λ_ J3=>PS ?_));refine ao ?_ ?_<;>intro h7;refine PS ?_;refine nx J3 (CY (ad (P3 ?_)));refine FA 2 dT ba ?_;refine LV 0 dI ba ai RecT.sp_row (y:=m.row) ?_;refine PS ?_;refine FA 9 cW ba ?_;refine gI (vs:=ints m.row.flat) (i:=1) (ab rfl) rfl rfl rfl rfl rfl (by rw[(ai m.row)];exact ba) (bm _) rfl rfl (λ_=>LC (cQ _) (ai _)) (λa_=>(O6 (s.rep ⟨lg, .pointer none, .slice none 0 0⟩) 0 rfl (by have h1:=(ai m.row);omega) (cg ((ai ((s.rep ⟨lg, .pointer none, .slice none 0 0⟩).own)).trans (ai m.row).symm)))) (PS ?_);refine FA 1938 cW kE ?_;refine SK 1 kE (λ_=>cQ _) ?_ (hc:=by exact λa_=>(ON _ rfl _));refine PS ?_;refine FA 1939 cW aO ?_;refine SK 1 aO (λ_=>cQ _) ?_ (hc:=by exact λa_=>(OM _ rfl _));refine ap (af (WK [1] (br rfl ?_)));exact congrArg (λq=>[CA lg r q]) (show(MS.setKept (MS.setBusy (MS.setOwn s m.row) true) 0)=jl s m by rw[jl,if_pos h7]<;>rfl);refine PS ?_;refine nx J3 (CN (sr λ_ J4=>PS ?_));refine ao ?_ ?_<;>intro h20;refine PS ?_;refine nx J4 (CY (D1 0 bf ?_));refine PD 0 ?_;refine PD 1 ?_;refine FD 2 183 cW sT ?_;refine FD 3 1 dT aO ?_;refine LR 4 Y3 (Fe m rfl) ?_;refine FD 5 2 dT ba ?_;refine ta 6 rfl (aK (vs:=ints m.row.flat) rfl dI rfl ba rfl (λ_ h=>h.2.1) (ai m.row) (rc m 0 rfl (by decide) (whole (ai m.row)))) ?_;refine AL 7 ?_
 refine CE Kt (Leg.Does.hid (λa_=>sa r 183 87 _ (dN (s.rep ⟨lg, .pointer none, .slice none 0 0⟩)) s.mirror m.whose m.row hw)) (SM [1]) ?_;refine EN (DN (af (WK [0] (br rfl ?_))));exact congrArg (λq=>[CA lg r q]) (show(ix s m.whose m.row)=jl s m by rw[jl,if_neg h7,if_pos h20]<;>rfl);refine PS ?_;refine nx J4 (CN (sr λ_ J5=>PS ?_));refine ao ?_ ?_<;>intro h30;refine PS ?_;refine nx J5 (CY (D1 0 bf ?_));refine PD 0 ?_;refine PD 1 ?_;refine FD 2 183 cW sT ?_;refine FD 3 1 dT aO ?_;refine LR 4 Y3 (Fe m rfl) ?_;refine AL 5 ?_;refine CE Ks (Leg.Does.hid (λa_=>r9 r 183 87 _ (dN (s.rep ⟨lg, .pointer none, .slice none 0 0⟩)) s.mirror m.whose)) (SM [1]) ?_;refine EN (DN (af (WK [0] (br rfl ?_))));exact congrArg (λq=>[CA lg r q]) (show(lL s m.whose)=jl s m by rw[jl,if_neg h7,if_neg h20,if_pos h30]<;>rfl);refine PS ?_;refine nx J5 (CN (sr λ_ J6=>PS ?_));refine ao ?_ ?_<;>intro h38;refine PS ?_;refine nx J6 (CY (sr λ_ J7=>PS ?_));refine FA 177 dT cw ?_;refine LV 0 jQ cw aq RecT.sp_ballot (y:=m.ballot) ?_;refine PS ?_;refine FA 1058 cW fD ?_;refine FA 1059 oU cw ?_
 refine gI (vs:=ints m.ballot.flat) (i:=1) (ab rfl) rfl rfl rfl rfl rfl (by rw[(aq m.ballot)];exact cw) (bm _) rfl rfl (λ_=>LC (cQ _) (aq _)) (λa_=>(kb (s.rep ⟨lg, .pointer none, .slice none 0 0⟩) 1 rfl (by have h1:=(aq m.ballot);omega) (Pc ((s.rep ⟨lg, .pointer none, .slice none 0 0⟩).acc) 0 rfl (by have h1:=(aq m.ballot);omega) (cg ((aq (((s.rep ⟨lg, .pointer none, .slice none 0 0⟩).acc).vow)).trans (aq m.ballot).symm))))) (nx J7 (D1 0 bf ?_));refine PD 0 ?_;refine PD 1 ?_;refine PD 2 ?_;refine FD 3 1066 cW aO ?_;refine FD 5 177 dT cw ?_;refine FD 6 177 jQ aO ?_;refine LX 7 Y3 (.int .i64 (m.ballot.round)) ?_ (hc:=by exact RecT.pt_ballot m 0 rfl (by decide) (eY m.ballot rfl));refine AL 4 ?_;refine LG 1 Y3 (.int .i64 (s.round)) ?_ (hc:=by exact λa_=>(uI _ rfl));refine EN (ta 8 rfl (xT rfl rfl rfl) ?_);refine PD 9 ?_;refine FD 10 1066 cW aO ?_;refine AL 11 ?_;refine SK 1 aO (λ_=>cQ _) ?_ (hc:=by exact λa_=>(lC _ rfl _));refine EN (DN (af (WK [1] (br rfl ?_))));exact congrArg (λq=>[CA lg r q]) (show(MS.setRound (MS.setAcc s (AccT.mk s.acc.epoch m.ballot s.acc.had s.acc.change)) (max s.round m.ballot.round))=jl s m by rw[jl,if_neg h7,if_neg h20,if_neg h30,if_pos h38]<;>rfl);refine PS ?_;refine nx J6 (CN (sr λ_ J8=>PS ?_));refine ao ?_ ?_<;>intro h57;refine PS ?_;refine nx J8 (CY (aa λ_ J9=>D1 0 bf ?_));refine PD 0 ?_;refine PD 1 ?_;refine PD 2 ?_;refine FD 3 177 dT cw ?_
 refine ta 4 rfl (aK (vs:=ints m.ballot.flat) rfl jQ rfl cw rfl (λ_ h=>h.2.1) (aq m.ballot) (qf m 0 rfl (by decide) (whole (aq m.ballot)))) ?_;refine FD 5 177 dT cw ?_;refine ta 6 rfl (aK (vs:=ints m.ballot.flat) rfl jQ rfl cw rfl (λ_ h=>h.2.1) (aq m.ballot) (qf m 0 rfl (by decide) (whole (aq m.ballot)))) ?_;refine FD 7 179 dT eZ ?_;refine ta 8 rfl (aK (vs:=ints m.change.flat) rfl lW rfl eZ rfl (λ_ h=>h.2.1) (aI m.change) (Lw m 0 rfl (by decide) (whole (aI m.change)))) ?_;refine PD 9 ?_;refine FD 10 1058 cW fD ?_;refine FD 11 1059 oU cw ?_;refine AL 12 ?_;refine gI (vs:=ints m.ballot.flat) (i:=1) (ab rfl) rfl rfl rfl rfl rfl (by rw[(aq m.ballot)];exact cw) (bm _) rfl rfl (λ_=>LC (cQ _) (aq _)) (λa_=>(kb (s.rep ⟨lg, .pointer none, .slice none 0 0⟩) 1 rfl (by have h1:=(aq m.ballot);omega) (Pc ((s.rep ⟨lg, .pointer none, .slice none 0 0⟩).acc) 0 rfl (by have h1:=(aq m.ballot);omega) (cg ((aq (((s.rep ⟨lg, .pointer none, .slice none 0 0⟩).acc).vow)).trans (aq m.ballot).symm))))) (EN (PD 13 ?_));refine FD 14 1058 cW fD ?_;refine FD 15 1061 oU cw ?_;refine AL 16 ?_
 refine gI (vs:=ints m.ballot.flat) (i:=1) (ab rfl) rfl rfl rfl rfl rfl (by rw[(aq m.ballot)];exact cw) (bm _) rfl rfl (λ_=>LC (cQ _) (aq _)) (λa_=>(kb ((MS.setAcc s (AccT.mk s.acc.epoch m.ballot s.acc.had s.acc.change)).rep ⟨lg, .pointer none, .slice none 0 0⟩) 3 rfl (by have h1:=(aq m.ballot);omega) (AccT.wr_had_ (((MS.setAcc s (AccT.mk s.acc.epoch m.ballot s.acc.had s.acc.change)).rep ⟨lg, .pointer none, .slice none 0 0⟩).acc) 0 rfl (by have h1:=(aq m.ballot);omega) (cg ((aq ((((MS.setAcc s (AccT.mk s.acc.epoch m.ballot s.acc.had s.acc.change)).rep ⟨lg, .pointer none, .slice none 0 0⟩).acc).had)).trans (aq m.ballot).symm))))) (EN (PD 17 ?_));refine FD 18 1058 cW fD ?_;refine FD 19 1063 oU eZ ?_;refine AL 20 ?_;refine gI (vs:=ints m.change.flat) (i:=1) (ab rfl) rfl rfl rfl rfl rfl (by rw[(aI m.change)];exact eZ) (bm _) rfl rfl (λ_=>LC (cQ _) (aI _)) (λa_=>(kb ((MS.setAcc s (AccT.mk s.acc.epoch m.ballot m.ballot s.acc.change)).rep ⟨lg, .pointer none, .slice none 0 0⟩) 5 rfl (by have h1:=(aI m.change);omega) (AccT.wr_change_ (((MS.setAcc s (AccT.mk s.acc.epoch m.ballot m.ballot s.acc.change)).rep ⟨lg, .pointer none, .slice none 0 0⟩).acc) 0 rfl (by have h1:=(aI m.change);omega) (cg ((aI ((((MS.setAcc s (AccT.mk s.acc.epoch m.ballot m.ballot s.acc.change)).rep ⟨lg, .pointer none, .slice none 0 0⟩).acc).change)).trans (aI m.change).symm))))) (EN (DN (ac J9 (D1 0 bf ?_))));refine PD 0 ?_;refine PD 1 ?_;refine PD 2 ?_
 refine FD 3 1066 cW aO ?_;refine FD 5 177 dT cw ?_;refine FD 6 177 jQ aO ?_;refine LX 7 Y3 (.int .i64 (m.ballot.round)) ?_ (hc:=by exact RecT.pt_ballot m 0 rfl (by decide) (eY m.ballot rfl));refine AL 4 ?_;refine LG 1 Y3 (.int .i64 (s.round)) ?_ (hc:=by exact λa_=>(uI _ rfl));refine EN (ta 8 rfl (xT rfl rfl rfl) ?_);refine PD 9 ?_;refine FD 10 1066 cW aO ?_;refine AL 11 ?_;refine SK 1 aO (λ_=>cQ _) ?_ (hc:=by exact λa_=>(lC _ rfl _));refine EN (DN (af (WK [1] (br rfl ?_))));exact congrArg (λq=>[CA lg r q]) (show(MS.setRound (MS.setAcc s (AccT.mk s.acc.epoch m.ballot m.ballot m.change)) (max s.round m.ballot.round))=jl s m by rw[jl,if_neg h7,if_neg h20,if_neg h30,if_neg h38,if_pos h57]<;>rfl);refine PS ?_;refine nx J8 (CN (sr λ_ J10=>PS ?_));refine ao ?_ ?_<;>intro h88;refine PS ?_;refine nx J10 (CY (ad (PS ?_)));refine FA 182 dT be ?_;refine LV 0 dS be an RecT.sp_view (y:=m.view) ?_;refine CZ K8 (ui lg r s m.view) (SM [1]) λvR=>?_
 refine ap (af (WK [0] (br rfl ?_)));exact congrArg (λq=>[CA lg r q]) (show(mL s m.view)=jl s m by rw[jl,if_neg h7,if_neg h20,if_neg h30,if_neg h38,if_neg h57,if_pos h88]<;>rfl);refine PS ?_;refine nx J10 (CN (aM (af (WK [1] (br rfl ?_)))));exact congrArg (λq=>[CA lg r q]) (show s=jl s m by rw[jl,if_neg h7,if_neg h20,if_neg h30,if_neg h38,if_neg h57,if_neg h88]<;>rfl)
theorem JI{bs:List UInt8}(h: ¬(nI bs).2≠0):WF (nI bs).1.row.flat:=by
 rcases Io bs with⟨m,e,_,_,hw⟩|e
 · rw[e];exact hw
 · rw[e]at h;exact absurd (by decide) h
theorem AS{δ:Type}(e0:δ)(i:Int)(d:Nat)(D:DS)(hD:D.Ok)(hI:Wal.DS.In D)(hb:D.ws.length≤1000000):
 DT 43 #[(.int .i64 (i)),(.pointer (some ⟨d,0,none⟩))] T0 [dk d D] (c9 (λr' H=>((bP D).err≠0∧r'= .tuple #[.pointer none, .int .i64 (bP D).err]∧H=[dk d (bP D).D])∨((bP D).err=0∧((lh (bP D).recs (zI i e0)=none∧r'= .tuple #[.pointer none, .int .i64 1]∧H=[dk d (bP D).D])∨∃s r lg,lh (bP D).recs (zI i e0)=some s∧r'= .tuple #[.pointer (some ⟨r,0,none⟩), .int .i64 0]∧H=[CA lg r s,EU lg d (((bP D).recs.length:Nat):Int) (bP D).used,dk d (bP D).D])))):=by
 refine BD 50 Tryz.func43 rfl rfl rfl λw0 F hF=>sr λ_ J1=>P2 ?_
 refine nx J1 (aa λ_ J2=>sr λ_ J3=>PS ?_);refine tp (fG rfl IH rfl rfl) ?_;refine nx J3 (CN (qx J2 (sr λ_ J4=>PS ?_)));refine CR N8 (Gb d D hD hI hb) ID λvR HR hR=>?_
 rcases hR with⟨he,rfl,rfl⟩| ⟨he,lg,vr,rfl,rfl⟩
 refine P4 ?_;refine P3 ?_;refine nx J4 (aa λ_ J5=>sr λ_ J6=>P2 ?_);refine ao ?_ ?_<;>intro h23;refine nx J6 (CY (sr λ_ J7=>P3 ?_));exact nx J7 (ah (ae (WK [0] (gJ rfl rfl rfl (.inl ⟨he,rfl,rfl⟩)))))
 · exact absurd he h23
 change TL _ _ _ _ _ _ _ _ _ [aj lg [(.pointer (some ⟨d,0,none⟩)),(.int .i64 ((((bP D).recs.length:Nat):Int))),(.int .i64 ((bP D).used))] 186,NK vr (bP D).recs,dk d (bP D).D];refine xM (p:=oG vr (bP D).recs.length∧vr.oneCell'=true) (λw m=>by obtain⟨h,_,_,hs⟩:=m;obtain⟨_,_,_,_,a,_⟩:=dV 1 (lb rfl) hs;exact tH a) (λ⟨hsl,hvr⟩=>P4 ?_);refine P3 ?_;refine nx J4 (aa λ_ J8=>sr λ_ J9=>P2 ?_);refine nx J9 (CN (qx J8 (sr λ_ J10=>P2 ?_)))
 refine tp (xW (cs:=RepT.cells (RepT.mk i (.pointer (some ⟨lg,0,none⟩)) ViewT.zero RowT.zero MirT.zero AccT.zero 0 (.pointer none) BookT.zero false 0 0 0 (.slice none 0 0) (#v[0,0,0,0,0]) (#v[RowT.zero,RowT.zero,RowT.zero,RowT.zero,RowT.zero]))) (segs:=[[Value.int .i64 0],[(.pointer none)],ints ViewT.zero.flat,ints RowT.zero.flat,MirT.cells MirT.zero,ints AccT.zero.flat,[Value.int .i64 0],[(.pointer none)],ints BookT.zero.flat,[Value.bool false],[Value.int .i64 0],[Value.int .i64 0],[Value.int .i64 0],[(.slice none 0 0)],ints (#v[0,0,0,0,0]).toList,ints ((#v[RowT.zero,RowT.zero,RowT.zero,RowT.zero,RowT.zero]).toList.flatMap RowT.flat)]) (res:=[[Value.int .i64 i],[(.pointer (some ⟨lg,0,none⟩))],ints ViewT.zero.flat,ints RowT.zero.flat,MirT.cells MirT.zero,ints AccT.zero.flat,[Value.int .i64 0],[(.pointer none)],ints BookT.zero.flat,[Value.bool false],[Value.int .i64 0],[Value.int .i64 0],[Value.int .i64 0],[(.slice none 0 0)],ints (#v[0,0,0,0,0]).toList,ints ((#v[RowT.zero,RowT.zero,RowT.zero,RowT.zero,RowT.zero]).toList.flatMap RowT.flat)]) (parts:=[(0,[Value.int .i64 i]),(1,[(.pointer (some ⟨lg,0,none⟩))])]) rfl rfl cW (by kernel_rfl) (by kernel_rfl) rfl (e6 rfl rfl (e6 rfl ((rfl:[(.pointer (some ⟨lg,0,none⟩))].length=1).trans (rfl:[(.pointer none)].length=1).symm) li)) (eh (RepT.mk i (.pointer (some ⟨lg,0,none⟩)) ViewT.zero RowT.zero MirT.zero AccT.zero 0 (.pointer none) BookT.zero false 0 0 0 (.slice none 0 0) (#v[0,0,0,0,0]) (#v[RowT.zero,RowT.zero,RowT.zero,RowT.zero,RowT.zero]))).symm) ?_
 refine XY (RepT.cells (RepT.mk i (.pointer (some ⟨lg,0,none⟩)) ViewT.zero RowT.zero MirT.zero AccT.zero 0 (.pointer none) BookT.zero false 0 0 0 (.slice none 0 0) (#v[0,0,0,0,0]) (#v[RowT.zero,RowT.zero,RowT.zero,RowT.zero,RowT.zero]))) λb28=>?_
 refine PS ?_;refine nx J10 (sr λ_ J11=>ce (H':=CA lg b28 (Eo i e0)::[aj lg [(.pointer (some ⟨d,0,none⟩)),(.int .i64 ((((bP D).recs.length:Nat):Int))),(.int .i64 ((bP D).used))] 186,NK vr (bP D).recs,dk d (bP D).D]) (λ_ q=>bo (p:=λ_:Unit=>[aj b28 (RepT.cells ((Eo i e0).rep ⟨lg, .pointer none, .slice none 0 0⟩)) 87]) () (aA [0] rfl q)) (PS ?_));refine CE Mo (wJ) ID ?_;refine CZ K8 (ui lg b28 (Eo i e0) firstV) ID λvR=>?_
 refine nx J11 (aa λ_ J12=>sr λ_ J13=>PS ?_);refine tp (c8 rfl uF rfl hsl) ?_;refine PS ?_;refine nx J13 (am ?_)
 refine bu (α:=(Nat)×(MS δ)) (λ⟨k,s⟩=>k≤(bP D).recs.length∧lh (bP D).recs (zI i e0)=lh ((bP D).recs.drop k) s) (λ⟨k,s⟩=>[(9,(.pointer (some ⟨b28,0,none⟩))),(32,vr),(33,(.int .i64 ((((bP D).recs.length:Nat):Int)))),(34,(.int .i64 (((k:Nat):Int))))]) (λ⟨k,s⟩=>[CA lg b28 s,aj lg [(.pointer (some ⟨d,0,none⟩)),(.int .i64 ((((bP D).recs.length:Nat):Int))),(.int .i64 ((bP D).used))] 186,NK vr (bP D).recs,dk d (bP D).D]) (λ⟨k,s⟩=>(bP D).recs.length-k) (0,(zI i e0))
  ⟨aN _,rfl⟩ SB
  (λ_ s=>ak [0,0,0,0] rfl s) (λ⟨k,s⟩ hinv=>?_)
 obtain⟨hk,hrs⟩:=hinv;refine sr λ_ J14=>PS ?_
 refine ao ?_ ?_<;>intro h35;refine ce (λ_ s=>aA [2] rfl s) (KF (λus=>?_));change TL _ _ _ _ _ _ _ _ _ [own vr ((bP D).recs.length) (us) 53 1,ei us (bP D).recs 5,CA lg b28 s,aj lg [(.pointer (some ⟨d,0,none⟩)),(.int .i64 ((((bP D).recs.length:Nat):Int))),(.int .i64 ((bP D).used))] 186,dk d (bP D).D];refine xM (p:=us.length=(bP D).recs.length*1) (λw m=>m.own_len (i:=0) (lb rfl) rfl) (λhul=>?_);rw[fH]at hul;have hkl:k< (bP D).recs.length:=by omega
 refine ij 0 rfl rfl (by omega) (λg cap hv hcap=>?_);have hvq:vr= .slice (some ⟨g,0,none⟩) (bP D).recs.length cap:=hv;refine nx J14 (aa λ_ J15=>CY (qx J15 (aa λ_ J16=>am (sr λ_ J17=>tp (bg (r:=k) hv rfl uF kj rfl rfl (by omega) (by omega) (by omega)) ?_))));refine tp (bZ (v:=(us.getD k undef)) rfl e8 rfl rfl (fI 0 rfl hvq rfl) (by simp[List.getD_eq_getElem?_getD,show k<us.length by omega])) ?_;refine PS ?_;refine nx J17 (sr λ_ J18=>PS ?_);refine CF N7 (ux (us.getD k undef) (bP D).recs[k]) ID (λg d s=>tj 1 hkl rfl rfl g d s) ?_;refine P3 ?_;refine XZ G0 (ints RecT.zero.flat) λb12=>?_
 refine SW 0 fE bp ?_;refine PS ?_;refine nx J18 (aa λ_ J19=>sr λ_ J20=>P2 ?_);refine ao ?_ ?_<;>intro h44;refine nx J20 (CY (sr λ_ J21=>P2 ?_));exact nx J21 (ah (ae (aH (ae (ae (aH (ae (WK [5] (gJ rfl rfl rfl (.inr ⟨he, .inl ⟨hrs.trans (FS hkl h44),rfl,rfl⟩⟩))))))))));refine nx J20 (CN (qx J19 (ad (PS ?_))));refine LW 0 dT fE bp ?_;refine CZ N6 (xp lg b28 s (nI (bP D).recs[k]).1 (JI h44)) (SM [3]) λvR=>?_
 refine ap (af (ac J16 (ad (AD ?_))));refine PS ?_;refine ap ?_
 exact aJ ((k+1,(jl s (nI (bP D).recs[k]).1)):(Nat)×(MS δ)) ⟨by omega,hrs.trans (HA hkl h44)⟩ (by show(bP D).recs.length- (k+1)< (bP D).recs.length-k;omega)
  SB
  (λ_ s=>aA [1,1,0,0] rfl (bo (p:=λus:List Value=>[own vr (bP D).recs.length us 53 1,ei us (bP D).recs 5]) us (ak [2,2,0,1,1] rfl s)))
 refine nx J14 (aa λ_ J22=>CN (aV (ay (ay (bh (ac J12 (sr λ_ J23=>P3 ?_)))))));refine nx J23 (ah (WK [0,0,1] (gJ rfl rfl rfl ?_)));exact .inr ⟨he, .inr ⟨s,b28,lg,by rw[hrs,cY (by omega)];rfl,rfl,rfl⟩⟩
def kg(k:Nat)(m:MsgT):List UInt8:=iR ((k / 5:Nat):Int) ((k%5:Nat):Int) (dP m)
def cK(W:List (List MsgT)):List (List (List UInt8)):=(List.range 25).map λk=>(W.getD k []).map (kg k)
theorem o9(W:List (List MsgT)):(cK W).length=25:=by simp[cK]
theorem mX(W:List (List MsgT)){k:Nat}(h:k<25):(cK W).getD k []=(W.getD k []).map (kg k):=by simp[cK,h,List.getD_eq_getElem?_getD]
theorem u6(W:List (List MsgT)){k:Nat}(h:k<25)(hW:W.length=25)(l:List MsgT):(cK W).set k (l.map (kg k))=cK (W.set k l):=by
 refine List.ext_getElem? λj=>?_
 by_cases hj:j=k
 · subst hj
   rw[List.getElem?_set_self (by rw[o9];exact h)];simp[cK,h,List.getD_eq_getElem?_getD,List.getElem?_set_self (show j<W.length by omega)]
 · rw[List.getElem?_set_ne (λe=>hj e.symm)]
   unfold cK;rw[List.getElem?_map,List.getElem?_map]
   by_cases hk:j<25
   · simp[hk,List.getD_eq_getElem?_getD,List.getElem?_set_ne (λe=>hj e.symm)]
   · simp[hk]
theorem Az{f t:Int}(hf:iy f=true)(ht:iy t=true)(m:MsgT):kg (bD f t) m=iR f t (dP m):=by
 have h1:0≤f∧f<5:=of_decide_eq_true hf;have h2:0≤t∧t<5:=of_decide_eq_true ht;unfold kg bD;rw[show(((f.toNat*5+t.toNat) / 5:Nat):Int)=f by omega,show(((f.toNat*5+t.toNat)%5:Nat):Int)=t by omega]
theorem ry{f t:Int}(h:dz f t=true):iy f=true∧iy t=true:=by
 unfold dz at h;rw[au,au]at h;exact h.1
theorem G6{W:List (List MsgT)}(hW:W.length=25){f:Nat}(s:SaidT):od (cK W) ((f:Nat):Int) s.to' (iR ((f:Nat):Int) s.to' (dP s.msg))=cK (rS W f s):=by
 unfold od rS;cases hv:dz ((f:Nat):Int) s.to'
 · rfl
 · obtain⟨h1,h2⟩:=ic hv
   obtain⟨h3,h4⟩:=ry hv;rw[if_pos rfl,if_pos rfl,mX W h1,←Az h3 h4,←u6 W h1 hW];unfold zC;rw[cb];split
   · rw[el];rfl
   · rfl
theorem HE(W:List (List MsgT))(f:Nat)(s:SaidT):(rS W f s).length=W.length:=by unfold rS;split<;>simp
theorem FB(W:List (List MsgT))(f:Nat)(l:List SaidT):(gR W f l).length=W.length:=by
 induction l generalizing W with
 |nil=>rfl
 |cons s l ih=>exact(ih _).trans (HE _ _ _)
theorem FC(W:List (List MsgT))(f:Nat)(l:List SaidT)(s:SaidT):gR W f (l++[s])=rS (gR W f l) f s:=by simp[gR]
theorem uZ(k:Nat)(m:MsgT):(kg k m).length≤1000000:=by
 unfold kg;rw[qV];have:=sv m;omega
theorem vX(c:Nat)(w:Int):
 DT 30 #[(.pointer (some ⟨c,0,none⟩)),(.int .i64 (w))] T0 [] (RI (.bool (iy w)) []):=by
 refine BD 15 Tryz.func30 rfl rfl rfl λw0 F hF=>sr λ_ J1=>PS ?_
 refine nx J1 (sr λ_ J2=>PS ?_);refine tp (fy rfl Lv rfl rfl) ?_;refine P3 ?_;refine ao ?_ ?_<;>intro h9
 iterate 6 refine PS ?_
 refine nx J2 (ah (WK [] (av rfl rfl ?_)));exact⟨congrArg Value.bool (by unfold iy;simp only[decide_eq_decide];omega),rfl⟩;refine P2 ?_;refine UF ?_;refine UF ?_;refine P2 ?_;refine nx J2 (ah (WK [] (av rfl rfl ?_)));exact⟨congrArg Value.bool (by unfold iy;symm;exact decide_eq_false (by omega)),rfl⟩
theorem ec(c i:Nat)(hi:i<5):DT 30 #[.pointer (some ⟨c,0,none⟩), .int .i64 ((i:Nat):Int)] T0 [] (RI (.bool true) []):=by
 have:=vX c ((i:Nat):Int)
 rwa [show iy ((i:Nat):Int)=true from decide_eq_true ⟨by omega,by omega⟩]at this
theorem rA(c n i:Nat)(D M P:Nat→Value)(hi:i<5)(hM:M i= .pointer none):
 DT 29 #[(.pointer (some ⟨c,0,none⟩)),(.int .i64 (((i:Nat):Int)))] T0 [aj c (eG n D M P) 73] (RI (.bool false) [aj c (eG n D M P) 73]):=by
 refine BD 27 Tryz.func29 rfl rfl rfl λw0 F hF=>sr λ_ J1=>PS ?_
 refine nx J1 (sr λ_ J2=>P2 ?_);refine CE qa (ec c i hi) ID ?_;refine P4 ?_;refine FA 6 oV oL ?_;refine IX (6+i) qd gY ?_;refine LT 0 nS (.pointer none) ?_ (hc:=by exact(wR n D M P hi).trans (congrArg some hM));refine tq (iE rfl nS rfl rfl) ?_;refine P2 ?_
 iterate 8 refine UF ?_
 refine P2 ?_;exact nx J2 (ah (WK [0] (av rfl rfl ⟨rfl,rfl⟩)))
theorem Md (c i : Nat) : xd Tryz.prog 113 (Mc c i) "Send" 215 := fun w => by kernel_rfl
theorem rz(c n i:Nat)(D M P:Nat→Value)(hi:i<5)(d r:Nat)(e:DS)(hD:D i= .pointer (some ⟨d,0,none⟩))(hM:M i= .pointer (some ⟨r,0,none⟩)):
 DT 29 #[(.pointer (some ⟨c,0,none⟩)),(.int .i64 (((i:Nat):Int)))] T0 [aj c (eG n D M P) 73,dk d e] (RI (.bool (!e.dn)) [aj c (eG n D M P) 73,dk d e]):=by
 refine BD 27 Tryz.func29 rfl rfl rfl λw0 F hF=>sr λ_ J1=>PS ?_
 refine nx J1 (sr λ_ J2=>P2 ?_);refine CE qa (ec c i hi) ID ?_;refine P4 ?_;refine FA 6 oV oL ?_;refine IX (6+i) qd gY ?_;refine LT 0 nS (.pointer (some ⟨r,0,none⟩)) ?_ (hc:=by exact(wR n D M P hi).trans (congrArg some hM));refine tq (fy rfl nS rfl rfl) ?_
 iterate 5 refine PS ?_
 refine FA 1 oV AH ?_;refine IX (1+i) KC vn ?_;refine LT 0 IH (.pointer (some ⟨d,0,none⟩)) ?_ (hc:=by exact(Ea n D M P hi).trans (congrArg some hD));refine CE Mp (EY d e) (SM [1]) ?_;refine tq (nO rfl rfl rfl) ?_;refine P2 ?_;exact nx J2 (ah (WK [1,0] (av rfl rfl ⟨rfl,rfl⟩)))
theorem C7(c n i:Nat)(D M P:Nat→Value)(hi:i<5)(d:Nat)(e:DS)(hD:D i= .pointer (some ⟨d,0,none⟩))(W:List (List MsgT))(hW:W.length=25)(to':Int)(m:MsgT):
 DT 215 #[(.agg #[(.pointer (some ⟨c,0,none⟩)),(.int .i64 (((i:Nat):Int)))]),(.int .i64 (to')),(.agg (ints m.flat).toArray)] T0 [aj c (eG n D M P) 73,dk d e,eg 135 184 5 n (cK W)] (c9 (λ_ H=>H=[aj c (eG n D M P) 73,dk d e,eg 135 184 5 n (cK (if e.dn then W else rS W i ⟨to',m⟩))])):=by
 refine BD 27 Tryz.func215 rfl rfl rfl λw0 F hF=>sr λ_ J1=>XB λb3=>?_
 refine XY (ints m.flat) λb5=>?_
 refine nx J1 (aa λ_ J2=>D2 1 2 cN ?_);refine FD 0 0 Em Hj ?_;refine LX 1 Lv (.pointer (some ⟨c,0,none⟩)) ?_ (hc:=by exact rfl);refine FD 2 1 Em aO ?_;refine LX 3 Y3 (.int .i64 (((i:Nat):Int))) ?_ (hc:=by exact rfl);refine PD 4 ?_;refine FD 5 1 oV AH ?_;refine IY 6 (1+i) KC vn ?_;refine LX 7 IH (.pointer (some ⟨d,0,none⟩)) ?_ (hc:=by exact(Ea n D M P hi).trans (congrArg some hD));refine AL 8 ?_;refine CE Mp (EY d e) (SM [3]) ?_;refine bc ?_ ?_<;>intro h14;refine EN (PD 9 ?_);refine DN (ac J2 (CN (aM (WK [3,0,2] (br rfl ?_)))));exact by rw[show e.dn=true by assumption];rfl
 refine EN (PD 9 ?_);refine DN (ac J2 (CY (oX (λw=>Frm F w∧w.heap[b3]?=some (.cells ([(.pointer (some ⟨c,0,none⟩)),(.int .i64 (((i:Nat):Int)))]).toArray 113 (0,0))∧w.heap[c]?=some (.cells (eG n D M P).toArray 73 (0,0))∧w.heap[b5]?=some (.cells (ints m.flat).toArray 163 (0,0))∧True) cN rfl (λ_ s=>⟨dG s,s.block 2 (lb rfl) rfl,s.block 3 (lb rfl) rfl,s.block 1 (lb rfl) rfl,trivial⟩) (FD 0 0 Em Hj ?_))));refine LX 1 Lv (.pointer (some ⟨c,0,none⟩)) ?_ (hc:=by exact rfl);refine PD 2 ?_;refine FD 3 0 oV zh ?_;refine LX 4 II (.pointer (some ⟨n,0,none⟩)) ?_ (hc:=by exact Ab n D M P);refine FD 5 1 Em aO ?_;refine LX 6 Y3 (.int .i64 (((i:Nat):Int))) ?_ (hc:=by exact rfl);refine PD 7 ?_;refine LY 8 bd cf aG ?_;refine AL 9 ?_;refine CR Mv (BU m) ID λvR HR hR=>?_
 obtain⟨_,rfl,rfl⟩:=hR;revert vR;intro ue;refine EN (AL 10 ?_);refine CQ Mw (xC n (cK W) ((i:Nat):Int) to' ue (dP m) (sv m) (o9 W)) (SM [5]) (λg d s=>IS (si 0 rfl rfl g d s)) λvR HR hR=>?_
 obtain⟨_,rfl⟩:=hR;rw[G6 hW ⟨to',m⟩];refine EN (DN (WK [5,2,0] (br rfl ?_)));exact by rw[show e.dn=false by assumption];rfl
def F8(c n d i:Nat)(D M P:Nat→Value)(W:List (List MsgT))(e:LD)(l:List SaidT):HP:=bK [aj c (eG n D M P) 73,dk d e.D,eg 135 184 5 n (cK (gR W i l))]
section
variable {c n d i:Nat} {D M P:Nat→Value} {W:List (List MsgT)} {e:LD} {l:List SaidT} {H:List HP} {h:Hl}
theorem s6(s:bK (F8 c n d i D M P W e l::H) h):bK (aj c (eG n D M P) 73::dk d e.D::eg 135 184 5 n (cK (gR W i l))::H) h:=(bY [_,_,_] H).2 s
theorem s5(s:bK (aj c (eG n D M P) 73::dk d e.D::eg 135 184 5 n (cK (gR W i l))::H) h):bK (F8 c n d i D M P W e l::H) h:=(bY [_,_,_] H).1 s
end
def wK(c n d i:Nat)(D M P:Nat→Value)(hi:i<5)(hD:D i= .pointer (some ⟨d,0,none⟩))(W:List (List MsgT))(hW:W.length=25):Env LD where
 toDk:=KD
 T:=113
 ov:=Mc c i
 sf:=215
 E:=F8 c n d i D M P W
 lg g e:=EU g d ((e.cnt:Nat):Int) e.used
 me:=Md c i
 nm:=Mx
 say e l to' m _:=by
  refine Leg.Does.conv (C7 c n i D M P hi d e.D hD (gR W i l) (by rw[FB];exact hW) to' m) (λh s=>s6 s) λx H F w hp hs=>?_
  cases x with
  |returned v=>
   obtain rfl:=hp;refine⟨_,hs.mono (λh s=>s5 (l:=if KD.dn e then l else l++[SaidT.mk to' m]) ?_),rfl⟩
   have q:gR W i (if KD.dn e then l else l++[SaidT.mk to' m])=if e.D.dn then gR W i l else rS (gR W i l) i ⟨to',m⟩:=by
    show gR W i (if e.D.dn then l else _)=_;split
    · rfl
    · exact FC ..
   rw[q];exact s
  |panicked c=>exact hp.elim
  |outgrown=>exact hp.elim
 put g x bs e l hok hlen:=by
  refine Leg.Does.withinR (A:=[EU g d ((e.cnt:Nat):Int) e.used,dk d e.D]) (B:=[aj c (eG n D M P) 73,eg 135 184 5 n (cK (gR W i l))]) (AB g d e.cnt e.used x bs e.D hok.dk.ok (by have:=hok.dk.ws;omega) hok.used (by have:=hok.cnt;have:=hok.used;omega)) (λF g h dj=>Ny h dj) (λh s=>?_) λv H hp=>?_
  · exact aA [3,1,0,0] rfl (s6 (aA [1,0] rfl s))
  · obtain⟨hv,rfl⟩:=hp
    exact⟨[EU g d (((e.put bs).1.cnt:Nat):Int) (e.put bs).1.used,F8 c n d i D M P W (e.put bs).1 l],λh s=>aA [1,0] rfl (s5 (e:=(e.put bs).1) (l:=l) (aA [2,1,1,0] rfl s)),hv,rfl⟩
abbrev kF(v:Value)(l:List ReplyT):HP:=own v l.length (ints (List.flatMap ReplyT.flat l)) 47 3
abbrev FL(s:MS LD)(d r:Nat)(a:Adr):List HP:=[aj r (RepT.cells (s.rep a)) 87,EU a.lg d ((s.e.cnt:Nat):Int) s.e.used,kF a.rs s.replies,Er a.vo s.vote]
abbrev fA(s:MS LD)(d r:Nat):HP:=pack (FL s d r)
def p9(x:Slot)(d r:Nat):HP:=match x.run with
 |some s=>fA s d r
 |none=>λ_=>True
abbrev kl(x:Slot)(d r:Nat)(p:Value):List HP:=[dk d x.dk,kF p x.past,p9 x d r]
def km(x:Slot)(d r:Nat)(p:Value):HP:=bK (kl x d r p)
structure CX where
 n:Nat
 d:Nat→Nat
 r:Nat→Nat
 p:Nat→Value
abbrev l8(g:CX):Nat→Value:=λi=> .pointer (some ⟨g.d i,0,none⟩)
def xA(x:Slot)(r:Nat):Value:=match x.run with
 |some _=> .pointer (some ⟨r,0,none⟩)
 |none=> .pointer none
abbrev jy(a:CL)(r:Nat→Nat):Nat→Value:=λi=>xA (a.at' i) (r i)
abbrev pI(c:Nat)(a:CL)(g:CX):List HP:=[aj c (eG g.n (l8 g) (jy a g.r) g.p) 73,eg 135 184 5 g.n (cK a.W),bK ((List.range 5).map λi=>km (a.at' i) (g.d i) (g.r i) (g.p i))]
def fh(c:Nat)(a:CL):HP:=pack (pI c a)
section
variable {c n d i r:Nat} {D M P:Nat→Value} {W:List (List MsgT)} {s:MS LD} {H:List HP} {h:Hl} {hi:i<5} {hD:D i= .pointer (some ⟨d,0,none⟩)} {hW:W.length=25}
theorem Dt(ho:s.o=[])(q:bK (aj c (eG n D M P) 73::dk d s.e.D::eg 135 184 5 n (cK W)::fA s d r::H) h):bK (cH (wK c n d i D M P hi hD W hW) r s::H) h:=by
 obtain⟨a,q⟩:=e5 (aA [3,0,0,0] rfl q);have q2:=aA [4,4,4,0,0,0,0] rfl q;have q3:=s5 (i:=i) (W:=W) (e:=s.e) (l:=[]) q2;refine bo (p:=λa:Adr=>[aj r (RepT.cells (s.rep a)) 87,EU a.lg d ((s.e.cnt:Nat):Int) s.e.used,kF a.rs s.replies,Er a.vo s.vote,F8 c n d i D M P W s.e s.o]) a ?_;rw[ho];exact aA [1,1,1,1,0] rfl q3
theorem zL(q:bK (cH (wK c n d i D M P hi hD W hW) r s::H) h):bK (aj c (eG n D M P) 73::dk d s.e.D::eg 135 184 5 n (cK (gR W i s.o))::fA s.hush d r::H) h:=by
 obtain⟨a,q⟩:=e5 q;have q1:bK ([aj r (RepT.cells (s.rep a)) 87,EU a.lg d ((s.e.cnt:Nat):Int) s.e.used,kF a.rs s.replies,Er a.vo s.vote,F8 c n d i D M P W s.e s.o]++H) h:=q;have q2:=s6 (aA [4,0,0,0,0] rfl q1);have q3:=bo (p:=FL s.hush d r) a (aA [3,3,3,3,0,0,0] rfl q2);exact aA [1,1,1,0] rfl q3
end
theorem D4(c n i:Nat)(D M P:Nat→Value)(hi:i<5)(d r:Nat)(s:MS LD)(hD:D i= .pointer (some ⟨d,0,none⟩))(hM:M i= .pointer (some ⟨r,0,none⟩))(W:List (List MsgT))(hW:W.length=25)(ho:s.o=[])(hs:OkR KD s)(o:OpT)(k:Int)(hk:0≤k∧k≤4)(hch:OkCh o.change)(hrs:s.replies.length≤1000000):
 DT 25 #[(.pointer (some ⟨c,0,none⟩)),(.agg (ints (OpT.mk k ((i:Nat):Int) o.to' o.key o.n o.change o.mask o.torn o.cut).flat).toArray)] T0 [aj c (eG n D M P) 73,dk d s.e.D,eg 135 184 5 n (cK W),fA s d r] (c9 (λv H=>(s.e.D.dn=true∧v= .int .i64 4∧H=[aj c (eG n D M P) 73,dk d s.e.D,eg 135 184 5 n (cK (W)),fA s d r])∨(s.e.D.dn=false∧v= .int .i64 (cj KD s ((OpT.mk k ((i:Nat):Int) o.to' o.key o.n o.change o.mask o.torn o.cut))).2∧H=[aj c (eG n D M P) 73,dk d (cj KD s ((OpT.mk k ((i:Nat):Int) o.to' o.key o.n o.change o.mask o.torn o.cut))).1.hush.e.D,eg 135 184 5 n (cK (gR W i (cj KD s ((OpT.mk k ((i:Nat):Int) o.to' o.key o.n o.change o.mask o.torn o.cut))).1.o)),fA (cj KD s ((OpT.mk k ((i:Nat):Int) o.to' o.key o.n o.change o.mask o.torn o.cut))).1.hush d r]))):=by
 refine BD 114 Tryz.func25 rfl rfl rfl λw0 F hF=>sr λ_ J1=>XY (ints (OpT.mk k ((i:Nat):Int) o.to' o.key o.n o.change o.mask o.torn o.cut).flat) λb3=>?_
 refine PS ?_;refine nx J1 (aa λ_ J2=>sr λ_ J3=>PS ?_);refine FA 1 eI aO ?_;refine LT 0 Y3 (.int .i64 (((i:Nat):Int))) ?_ (hc:=by exact bM _ rfl);refine CE qa (ec c i hi) ID ?_;refine PS ?_;refine nx J3 (CN (qx J2 (aa λ_ J4=>sr λ_ J5=>FA 0 eI aO ?_)));refine LT 0 Y3 (.int .i64 (k)) ?_ (hc:=by exact cB _ rfl);refine nx J5 (am (aa λ_ J6=>eT (α:=Unit) (λ_u=>True) (λ_u=>[(0,(.pointer (some ⟨c,0,none⟩))),(3,(.pointer (some ⟨b3,0,none⟩))),(4,(.int .i64 0)),(11,(.int .i64 (k))),(12,(.bool true))]) (λ_u=>[aj b3 (ints (OpT.mk k ((i:Nat):Int) o.to' o.key o.n o.change o.mask o.torn o.cut).flat) 63,aj c (eG n D M P) 73,dk d s.e.D,eg 135 184 5 n (cK W),fA s d r]) (λ_u hinv=>?_) (λtl6=>?_)));have _:=hinv;refine ac J6 (CY (aa λ_ J7=>sr λ_ J8=>PS ?_));refine FA 1 eI aO ?_;refine LT 0 Y3 (.int .i64 (((i:Nat):Int))) ?_ (hc:=by exact bM _ rfl);refine CE Bt (rz c n i D M P hi d r s.e.D hD hM) (SM [1,1]) ?_;refine bc ?_ ?_<;>intro h21;refine PS ?_;refine nx J8 (CN (qx J7 (aa λ_ J9=>D2 2 0 cN ?_)));refine PD 0 ?_;refine FD 1 1 eI aO ?_;refine LX 2 Y3 (.int .i64 (((i:Nat):Int))) ?_ (hc:=by exact bM _ rfl);refine PD 3 ?_;refine FD 4 6 oV oL ?_;refine IY 5 (6+i) qd gY ?_;refine LX 6 nS (.pointer (some ⟨r,0,none⟩)) ?_ (hc:=by exact(wR n D M P hi).trans (congrArg some hM));refine PD 7 ?_;refine FD 8 1 eI aO ?_
 refine LX 9 Y3 (.int .i64 (((i:Nat):Int))) ?_ (hc:=by exact bM _ rfl);refine ta 10 rfl (jF (cells:=#[(.pointer (some ⟨c,0,none⟩)),(.int .i64 (((i:Nat):Int)))]) rfl rfl (by as_aux_lemma=>kernel_rfl)) ?_;refine ta 11 rfl (oQ rfl Em rfl rfl) ?_;refine LY 12 eI qG gq ?_;refine AL 13 ?_;refine ce (H':=[cH (wK c n d i D M P hi hD W hW) r s,aj b3 (ints (OpT.mk k ((i:Nat):Int) o.to' o.key o.n o.change o.mask o.torn o.cut).flat) 63]) (λ_ q=>Dt ho (aA [0,0,1,1] rfl q)) (CE Og (@Aa _ (wK c n d i D M P hi hD W hW) r s ((OpT.mk k ((i:Nat):Int) o.to' o.key o.n o.change o.mask o.torn o.cut)) hs hch hrs) ID ?_);change TL _ _ _ _ _ _ _ _ _ [cH (wK c n d i D M P hi hD W hW) r ((cj KD s ((OpT.mk k ((i:Nat):Int) o.to' o.key o.n o.change o.mask o.torn o.cut))).1),aj b3 (ints (OpT.mk k ((i:Nat):Int) o.to' o.key o.n o.change o.mask o.torn o.cut).flat) 63];refine ce (H':=[aj c (eG n D M P) 73,dk d (((cj KD s ((OpT.mk k ((i:Nat):Int) o.to' o.key o.n o.change o.mask o.torn o.cut))).1).e.D),eg 135 184 5 n (cK (gR W i ((cj KD s ((OpT.mk k ((i:Nat):Int) o.to' o.key o.n o.change o.mask o.torn o.cut))).1).o)),fA (((cj KD s ((OpT.mk k ((i:Nat):Int) o.to' o.key o.n o.change o.mask o.torn o.cut))).1).hush) d r,aj b3 (ints (OpT.mk k ((i:Nat):Int) o.to' o.key o.n o.change o.mask o.torn o.cut).flat) 63]) (λ_ q=>zL (s:=(cj KD s ((OpT.mk k ((i:Nat):Int) o.to' o.key o.n o.change o.mask o.torn o.cut))).1) q) (EN (PD 14 ?_))
 refine DN (ac J9 (ah (aH (ae (WK [0,0,0,0] (av rfl rfl ?_))))));exact .inr ⟨(by simpa using h21),rfl,rfl⟩;refine PS ?_;refine nx J8 (CY (sr λ_ J10=>PS ?_));refine nx J10 (ah (ae (aH (ae (WK [0,0,1,1] (av rfl rfl ?_))))));exact .inl ⟨(by simpa using h21),rfl,rfl⟩;refine sr λ_ J11=>P2 ?_
 refine ao ?_ ?_<;>intro h12;refine nx J11 (CY (aM ?_))
 exact aF
  SB
  (λ_ s=>ak [0,0,0,0,0] rfl s)
  (tl6 (():Unit) trivial)
 refine nx J11 (CN (sr λ_ J12=>P2 ?_));refine ao ?_ ?_<;>intro h12;refine nx J12 (CY (aM ?_))
 exact aF
  SB
  (λ_ s=>ak [0,0,0,0,0] rfl s)
  (tl6 (():Unit) trivial)
 refine nx J12 (CN (sr λ_ J13=>P2 ?_));refine ao ?_ ?_<;>intro h12;refine nx J13 (CY (aM ?_))
 exact aF
  SB
  (λ_ s=>ak [0,0,0,0,0] rfl s)
  (tl6 (():Unit) trivial)
 refine nx J13 (CN (sr λ_ J14=>P2 ?_));refine ao ?_ ?_<;>intro h12;refine nx J14 (CY (aM ?_))
 exact aF
  SB
  (λ_ s=>ak [0,0,0,0,0] rfl s)
  (tl6 (():Unit) trivial)
 refine nx J14 (CN (ad (PS ?_)));refine ao ?_ ?_<;>intro h17;refine PS ?_;refine ap ?_
 exact aF
  SB
  (λ_ s=>ak [0,0,0,0,0] rfl s)
  (tl6 (():Unit) trivial)
 · exact absurd h17 (by omega)
theorem B6(c n i:Nat)(D M P:Nat→Value)(hi:i<5)(hM:M i= .pointer none)(o:OpT)(k:Int)(hk:0≤k∧k≤4):
 DT 25 #[(.pointer (some ⟨c,0,none⟩)),(.agg (ints (OpT.mk k ((i:Nat):Int) o.to' o.key o.n o.change o.mask o.torn o.cut).flat).toArray)] T0 [aj c (eG n D M P) 73] (RI (.int .i64 4) [aj c (eG n D M P) 73]):=by
 refine BD 114 Tryz.func25 rfl rfl rfl λw0 F hF=>sr λ_ J1=>XY (ints (OpT.mk k ((i:Nat):Int) o.to' o.key o.n o.change o.mask o.torn o.cut).flat) λb3=>?_
 refine PS ?_;refine nx J1 (aa λ_ J2=>sr λ_ J3=>PS ?_);refine FA 1 eI aO ?_;refine LT 0 Y3 (.int .i64 (((i:Nat):Int))) ?_ (hc:=by exact bM _ rfl);refine CE qa (ec c i hi) ID ?_;refine PS ?_;refine nx J3 (CN (qx J2 (aa λ_ J4=>sr λ_ J5=>FA 0 eI aO ?_)));refine LT 0 Y3 (.int .i64 (k)) ?_ (hc:=by exact cB _ rfl);refine nx J5 (am (aa λ_ J6=>eT (α:=Unit) (λ_u=>True) (λ_u=>[(0,(.pointer (some ⟨c,0,none⟩))),(3,(.pointer (some ⟨b3,0,none⟩))),(4,(.int .i64 0)),(11,(.int .i64 (k))),(12,(.bool true))]) (λ_u=>[aj b3 (ints (OpT.mk k ((i:Nat):Int) o.to' o.key o.n o.change o.mask o.torn o.cut).flat) 63,aj c (eG n D M P) 73]) (λ_u hinv=>?_) (λtl6=>?_)));have _:=hinv;refine ac J6 (CY (aa λ_ J7=>sr λ_ J8=>PS ?_));refine FA 1 eI aO ?_;refine LT 0 Y3 (.int .i64 (((i:Nat):Int))) ?_ (hc:=by exact bM _ rfl);refine CE Bt (rA c n i D M P hi hM) (SM [1]) ?_;refine PS ?_;refine nx J8 (CY (sr λ_ J9=>PS ?_));exact nx J9 (ah (ae (aH (ae (WK [0] (av rfl rfl ⟨rfl,rfl⟩))))));refine sr λ_ J10=>P2 ?_
 refine ao ?_ ?_<;>intro h12;refine nx J10 (CY (aM ?_))
 exact aF
  SB
  (λ_ s=>ak [0,0] rfl s)
  (tl6 (():Unit) trivial)
 refine nx J10 (CN (sr λ_ J11=>P2 ?_));refine ao ?_ ?_<;>intro h12;refine nx J11 (CY (aM ?_))
 exact aF
  SB
  (λ_ s=>ak [0,0] rfl s)
  (tl6 (():Unit) trivial)
 refine nx J11 (CN (sr λ_ J12=>P2 ?_));refine ao ?_ ?_<;>intro h12;refine nx J12 (CY (aM ?_))
 exact aF
  SB
  (λ_ s=>ak [0,0] rfl s)
  (tl6 (():Unit) trivial)
 refine nx J12 (CN (sr λ_ J13=>P2 ?_));refine ao ?_ ?_<;>intro h12;refine nx J13 (CY (aM ?_))
 exact aF
  SB
  (λ_ s=>ak [0,0] rfl s)
  (tl6 (():Unit) trivial)
 refine nx J13 (CN (ad (PS ?_)));refine ao ?_ ?_<;>intro h17;refine PS ?_;refine ap ?_
 exact aF
  SB
  (λ_ s=>ak [0,0] rfl s)
  (tl6 (():Unit) trivial)
 · exact absurd h17 (by omega)
theorem DW(c n i:Nat)(D M P:Nat→Value)(hi:i<5)(d r:Nat)(s:MS LD)(hD:D i= .pointer (some ⟨d,0,none⟩))(hM:M i= .pointer (some ⟨r,0,none⟩))(W:List (List MsgT))(hW:W.length=25)(ho:s.o=[])(hs:OkR KD s)(o:OpT):
 DT 25 #[(.pointer (some ⟨c,0,none⟩)),(.agg (ints (OpT.mk 8 ((i:Nat):Int) o.to' o.key o.n o.change o.mask o.torn o.cut).flat).toArray)] T0 [aj c (eG n D M P) 73,dk d s.e.D,eg 135 184 5 n (cK W),fA s d r] (c9 (λv H=>(s.e.D.dn=true∧v= .int .i64 4∧H=[aj c (eG n D M P) 73,dk d s.e.D,eg 135 184 5 n (cK (W)),fA s d r])∨(s.e.D.dn=false∧v= .int .i64 0∧H=[aj c (eG n D M P) 73,dk d (iw KD s).hush.e.D,eg 135 184 5 n (cK (gR W i (iw KD s).o)),fA (iw KD s).hush d r]))):=by
 refine BD 114 Tryz.func25 rfl rfl rfl λw0 F hF=>sr λ_ J1=>XY (ints (OpT.mk 8 ((i:Nat):Int) o.to' o.key o.n o.change o.mask o.torn o.cut).flat) λb3=>?_
 refine PS ?_;refine nx J1 (aa λ_ J2=>sr λ_ J3=>PS ?_);refine FA 1 eI aO ?_;refine LT 0 Y3 (.int .i64 (((i:Nat):Int))) ?_ (hc:=by exact bM _ rfl);refine CE qa (ec c i hi) ID ?_;refine PS ?_;refine nx J3 (CN (qx J2 (aa λ_ J4=>sr λ_ J5=>FA 0 eI aO ?_)));refine LT 0 Y3 (.int .i64 8) ?_ (hc:=by exact cB _ rfl);refine nx J5 (am (aa λ_ J6=>sr λ_ J7=>P2 ?_));refine nx J7 (CN (sr λ_ J8=>P2 ?_));refine nx J8 (CN (sr λ_ J9=>P2 ?_));refine nx J9 (CN (sr λ_ J10=>P2 ?_));refine nx J10 (CN (ad (P2 ?_)));refine nx J6 (CN (aa λ_ J11=>sr λ_ J12=>P2 ?_));refine nx J12 (CN (sr λ_ J13=>P2 ?_));refine nx J13 (CN (ad (P2 ?_)));refine nx J11 (CN (sr λ_ J14=>P2 ?_));refine nx J14 (CY (aa λ_ J15=>sr λ_ J16=>PS ?_));refine FA 1 eI aO ?_;refine LT 0 Y3 (.int .i64 (((i:Nat):Int))) ?_ (hc:=by exact bM _ rfl);refine CE Bt (rz c n i D M P hi d r s.e.D hD hM) (SM [1,1]) ?_;refine bc ?_ ?_<;>intro h49;refine PS ?_;refine nx J16 (CN (qx J15 (D2 2 0 cN ?_)));refine PD 0 ?_;refine FD 1 1 eI aO ?_;refine LX 2 Y3 (.int .i64 (((i:Nat):Int))) ?_ (hc:=by exact bM _ rfl);refine PD 3 ?_;refine FD 4 6 oV oL ?_;refine IY 5 (6+i) qd gY ?_;refine LX 6 nS (.pointer (some ⟨r,0,none⟩)) ?_ (hc:=by exact(wR n D M P hi).trans (congrArg some hM));refine PD 7 ?_;refine FD 8 1 eI aO ?_;refine LX 9 Y3 (.int .i64 (((i:Nat):Int))) ?_ (hc:=by exact bM _ rfl)
 refine ta 10 rfl (jF (cells:=#[(.pointer (some ⟨c,0,none⟩)),(.int .i64 (((i:Nat):Int)))]) rfl rfl (by as_aux_lemma=>kernel_rfl)) ?_;refine ta 11 rfl (oQ rfl Em rfl rfl) ?_;refine AL 12 ?_;refine ce (H':=[cH (wK c n d i D M P hi hD W hW) r s,aj b3 (ints (OpT.mk 8 ((i:Nat):Int) o.to' o.key o.n o.change o.mask o.torn o.cut).flat) 63]) (λ_ q=>Dt ho (aA [0,0,1,1] rfl q)) (CZ Oe (@CO _ (wK c n d i D M P hi hD W hW) r s hs) ID λvR=>?_);change TL _ _ _ _ _ _ _ _ _ [cH (wK c n d i D M P hi hD W hW) r (iw KD s),aj b3 (ints (OpT.mk 8 ((i:Nat):Int) o.to' o.key o.n o.change o.mask o.torn o.cut).flat) 63];refine ce (H':=[aj c (eG n D M P) 73,dk d ((iw KD s).e.D),eg 135 184 5 n (cK (gR W i (iw KD s).o)),fA ((iw KD s).hush) d r,aj b3 (ints (OpT.mk 8 ((i:Nat):Int) o.to' o.key o.n o.change o.mask o.torn o.cut).flat) 63]) (λ_ q=>zL (s:=(iw KD s)) q) (EN (DN (af (ac J4 (sr λ_ J17=>PS ?_)))));refine nx J17 (ah (WK [0,0,0,0] (av rfl rfl ?_)));exact .inr ⟨(by simpa using h49),rfl,rfl⟩;refine PS ?_;refine nx J16 (CY (sr λ_ J18=>PS ?_));refine nx J18 (ah (ae (aH (ae (WK [0,0,1,1] (av rfl rfl ?_))))));exact .inl ⟨(by simpa using h49),rfl,rfl⟩
theorem B4(c n i:Nat)(D M P:Nat→Value)(hi:i<5)(hM:M i= .pointer none)(o:OpT):
 DT 25 #[(.pointer (some ⟨c,0,none⟩)),(.agg (ints (OpT.mk 8 ((i:Nat):Int) o.to' o.key o.n o.change o.mask o.torn o.cut).flat).toArray)] T0 [aj c (eG n D M P) 73] (RI (.int .i64 4) [aj c (eG n D M P) 73]):=by
 refine BD 114 Tryz.func25 rfl rfl rfl λw0 F hF=>sr λ_ J1=>XY (ints (OpT.mk 8 ((i:Nat):Int) o.to' o.key o.n o.change o.mask o.torn o.cut).flat) λb3=>?_
 refine PS ?_;refine nx J1 (aa λ_ J2=>sr λ_ J3=>PS ?_);refine FA 1 eI aO ?_;refine LT 0 Y3 (.int .i64 (((i:Nat):Int))) ?_ (hc:=by exact bM _ rfl);refine CE qa (ec c i hi) ID ?_;refine PS ?_;refine nx J3 (CN (qx J2 (aa λ_ J4=>sr λ_ J5=>FA 0 eI aO ?_)));refine LT 0 Y3 (.int .i64 8) ?_ (hc:=by exact cB _ rfl);refine nx J5 (am (aa λ_ J6=>sr λ_ J7=>P2 ?_));refine nx J7 (CN (sr λ_ J8=>P2 ?_));refine nx J8 (CN (sr λ_ J9=>P2 ?_));refine nx J9 (CN (sr λ_ J10=>P2 ?_));refine nx J10 (CN (ad (P2 ?_)));refine nx J6 (CN (aa λ_ J11=>sr λ_ J12=>P2 ?_));refine nx J12 (CN (sr λ_ J13=>P2 ?_));refine nx J13 (CN (ad (P2 ?_)));refine nx J11 (CN (sr λ_ J14=>P2 ?_));refine nx J14 (CY (aa λ_ J15=>sr λ_ J16=>PS ?_));refine FA 1 eI aO ?_;refine LT 0 Y3 (.int .i64 (((i:Nat):Int))) ?_ (hc:=by exact bM _ rfl);refine CE Bt (rA c n i D M P hi hM) (SM [1]) ?_;refine PS ?_;refine nx J16 (CY (sr λ_ J17=>PS ?_));exact nx J17 (ah (ae (aH (ae (WK [0] (av rfl rfl ⟨rfl,rfl⟩))))))
theorem FP(s:MS LD)(d r:Nat)(h:s.replies.length≤1000000):DT 31 #[.pointer (some ⟨r,0,none⟩)] T0 [fA s d r] (c9 λv H=>∃u,v=u∧H=[fA s d r,kF u s.replies]):=
 Leg.Does.pack (B:=[]) λa=>Leg.Does.withinR (A:=[aj r (RepT.cells (s.rep a)) 87,kF a.rs s.replies]) (B:=[EU a.lg d ((s.e.cnt:Nat):Int) s.e.used,Er a.vo s.vote]) (zx r (s.rep a) s.replies h) (λ_ _ _ _=>trivial) (λ_ q=>aA [0,1,0,0] rfl q) λv H hp=>by
  obtain⟨u,rfl,rfl⟩:=hp;exact⟨_,λ_ q=>bo (p:=FL s d r) (H:=[kF v s.replies]) a (aA [0,2,0,1,0] rfl q),v,rfl,rfl⟩
theorem vQ(c n i:Nat)(D M P:Nat→Value)(hi:i<5)(hM:M i= .pointer none)(pl:List ReplyT)(hpl:pl.length≤100000):
 DT 15 #[(.pointer (some ⟨c,0,none⟩)),(.int .i64 (((i:Nat):Int)))] T0 [aj c (eG n D M P) 73,own (P i) ((pl).length) (ints (List.flatMap ReplyT.flat (pl))) 47 3] (c9 (λv H=>∃u,u.oneCell'=true∧v=u∧H=[aj c (eG n D M P) 73,kF (P i) pl,kF u pl])):=by
 refine BD 34 Tryz.func15 rfl rfl rfl λw0 F hF=>sr λ_ J1=>PS ?_
 refine nx J1 (aa λ_ J2=>sr λ_ J3=>P2 ?_);refine CE qa (ec c i hi) ID ?_;refine PS ?_;refine nx J3 (CN (qx J2 (sr λ_ J4=>P3 ?_)));refine FA 11 oV Jb ?_;refine IX (11+i) NN xn ?_;refine LT 0 El (P i) ?_ (hc:=by exact Ng n D M P hi);refine GU 47 3 (λ_=>bO (k:=0) (news:=ints (List.flatMap ReplyT.flat (pl))) (nn':=(pl).length) (xs':=ints (List.flatMap ReplyT.flat (pl))) (ab rfl) rfl rfl rfl El Gw rfl rfl rfl rfl rfl rfl (λ_ s=>IN 2 rfl rfl s) (bm _) (by simp only[maxLen];omega) (by omega) (by simp) (by simp) (λv16 ov16=>PS ?_));refine nx J4 (aa λ_ J5=>sr λ_ J6=>P3 ?_);refine FA 6 oV oL ?_;refine IX (6+i) qd gY ?_;refine LT 1 nS (.pointer none) ?_ (hc:=by exact(wR n D M P hi).trans (congrArg some hM));refine tp (iE rfl nS rfl rfl) ?_;refine nx J6 (CN (qx J5 (sr λ_ J7=>P2 ?_)));exact nx J7 (ah (WK [1,1,0] (av rfl rfl ⟨_,ov16,rfl,rfl⟩)))
theorem vO(c n i:Nat)(D M P:Nat→Value)(hi:i<5)(d:Nat)(r:Nat)(s:MS LD)(hM:M i= .pointer (some ⟨r,0,none⟩))(pl:List ReplyT)(hpl:pl.length≤100000)(hrs:s.replies.length≤100000):
 DT 15 #[(.pointer (some ⟨c,0,none⟩)),(.int .i64 (((i:Nat):Int)))] T0 [aj c (eG n D M P) 73,own (P i) ((pl).length) (ints (List.flatMap ReplyT.flat (pl))) 47 3,fA s d r] (c9 (λv H=>∃u,u.oneCell'=true∧v=u∧H=[aj c (eG n D M P) 73,kF (P i) pl,fA s d r,kF u (pl++s.replies)])):=by
 refine BD 34 Tryz.func15 rfl rfl rfl λw0 F hF=>sr λ_ J1=>PS ?_
 refine nx J1 (aa λ_ J2=>sr λ_ J3=>P2 ?_);refine CE qa (ec c i hi) ID ?_;refine PS ?_;refine nx J3 (CN (qx J2 (sr λ_ J4=>P3 ?_)));refine FA 11 oV Jb ?_;refine IX (11+i) NN xn ?_;refine LT 0 El (P i) ?_ (hc:=by exact Ng n D M P hi);refine GU 47 3 (λ_=>bO (k:=0) (news:=ints (List.flatMap ReplyT.flat (pl))) (nn':=(pl).length) (xs':=ints (List.flatMap ReplyT.flat (pl))) (ab rfl) rfl rfl rfl El Gw rfl rfl rfl rfl rfl rfl (λ_ s=>IN 2 rfl rfl s) (bm _) (by simp only[maxLen];omega) (by omega) (by simp) (by simp) (λv16 ov16=>PS ?_));refine nx J4 (aa λ_ J5=>sr λ_ J6=>P3 ?_);refine FA 6 oV oL ?_;refine IX (6+i) qd gY ?_;refine LT 1 nS (.pointer (some ⟨r,0,none⟩)) ?_ (hc:=by exact(wR n D M P hi).trans (congrArg some hM));refine tp (fy rfl nS rfl rfl) ?_;refine nx J6 (CY (ad (P4 ?_)));refine FA 6 oV oL ?_;refine IX (6+i) qd gY ?_;refine LT 1 nS (.pointer (some ⟨r,0,none⟩)) ?_ (hc:=by exact(wR n D M P hi).trans (congrArg some hM));refine CR Ot (FP s d r (by omega)) (SM [3]) λvR HR hR=>?_
 obtain⟨_,rfl,rfl⟩:=hR;revert vR;intro ur;refine bO (k:=2) (news:=ints (List.flatMap ReplyT.flat (s.replies))) (nn':=(pl++s.replies).length) (xs':=ints (List.flatMap ReplyT.flat (pl++s.replies))) (ab rfl) rfl rfl rfl El Gw rfl rfl rfl rfl rfl rfl (λ_ s=>IN 1 rfl rfl s) (bm _) (by simp only[maxLen];omega) (by omega) (by rw[ag]) (by simp[ints]) (λv32 ov32=>PS ?_);refine nx J5 (sr λ_ J7=>P2 ?_);exact nx J7 (ah (WK [3,3,0,1] (av rfl rfl ⟨_,ov32,rfl,rfl⟩)))
theorem D6(c n i:Nat)(D M P:Nat→Value)(hi:i<5)(d:Nat)(hD:D i= .pointer (some ⟨d,0,none⟩))(e:DS)(o:OpT):
 DT 25 #[(.pointer (some ⟨c,0,none⟩)),(.agg (ints (OpT.mk 9 ((i:Nat):Int) o.to' o.key o.n o.change o.mask o.torn o.cut).flat).toArray)] T0 [aj c (eG n D M P) 73,dk d e] (RI (.int .i64 0) [aj c (eG n D M P) 73,dk d (e.arm o.n)]):=by
 refine BD 114 Tryz.func25 rfl rfl rfl λw0 F hF=>sr λ_ J1=>XY (ints (OpT.mk 9 ((i:Nat):Int) o.to' o.key o.n o.change o.mask o.torn o.cut).flat) λb3=>?_
 refine PS ?_;refine nx J1 (aa λ_ J2=>sr λ_ J3=>PS ?_);refine FA 1 eI aO ?_;refine LT 0 Y3 (.int .i64 (((i:Nat):Int))) ?_ (hc:=by exact bM _ rfl);refine CE qa (ec c i hi) ID ?_;refine PS ?_;refine nx J3 (CN (qx J2 (aa λ_ J4=>sr λ_ J5=>FA 0 eI aO ?_)));refine LT 0 Y3 (.int .i64 9) ?_ (hc:=by exact cB _ rfl);refine nx J5 (am (aa λ_ J6=>sr λ_ J7=>P2 ?_));refine nx J7 (CN (sr λ_ J8=>P2 ?_));refine nx J8 (CN (sr λ_ J9=>P2 ?_));refine nx J9 (CN (sr λ_ J10=>P2 ?_));refine nx J10 (CN (ad (P2 ?_)));refine nx J6 (CN (aa λ_ J11=>sr λ_ J12=>P2 ?_));refine nx J12 (CN (sr λ_ J13=>P2 ?_));refine nx J13 (CN (ad (P2 ?_)));refine nx J11 (CN (sr λ_ J14=>P2 ?_));refine nx J14 (CN (sr λ_ J15=>P2 ?_));refine nx J15 (CY (D2 0 1 cN ?_));refine PD 0 ?_;refine FD 1 1 eI aO ?_;refine LX 2 Y3 (.int .i64 (((i:Nat):Int))) ?_ (hc:=by exact bM _ rfl);refine PD 3 ?_;refine FD 4 1 oV AH ?_;refine IY 5 (1+i) KC vn ?_;refine LX 6 IH (.pointer (some ⟨d,0,none⟩)) ?_ (hc:=by exact(Ea n D M P hi).trans (congrArg some hD));refine FD 7 4 eI aO ?_;refine LX 8 Y3 (.int .i64 (o.n)) ?_ (hc:=by exact pS _ rfl);refine AL 9 ?_;refine CR Od (Lp d e o.n) (SM [2]) λvR HR hR=>?_
 obtain⟨_,rfl⟩:=hR;refine EN (DN (af (ac J4 (sr λ_ J16=>PS ?_))));exact nx J16 (ah (WK [2,0] (av rfl rfl ⟨rfl,rfl⟩)))
theorem DZ(c n i:Nat)(D M P:Nat→Value)(hi:i<5)(d:Nat)(hD:D i= .pointer (some ⟨d,0,none⟩))(r:Nat)(s:MS LD)(hM:M i= .pointer (some ⟨r,0,none⟩))(pl:List ReplyT)(hpl:pl.length≤100000)(hrs:s.replies.length≤100000)(e:DS)(hok:e.Ok)(o:OpT):
 DT 25 #[(.pointer (some ⟨c,0,none⟩)),(.agg (ints (OpT.mk 10 ((i:Nat):Int) o.to' o.key o.n o.change o.mask o.torn o.cut).flat).toArray)] T0 [aj c (eG n D M P) 73,dk d e,own (P i) ((pl).length) (ints (List.flatMap ReplyT.flat (pl))) 47 3,fA s d r] (c9 (λv H=>∃u,u.oneCell'=true∧v= .int .i64 0∧H=[aj c (eG n D (mZ M i (.pointer none)) (mZ P i u)) 73,dk d (e.crash o.mask o.torn o.cut),kF u (pl++s.replies)])):=by
 refine BD 114 Tryz.func25 rfl rfl rfl λw0 F hF=>sr λ_ J1=>XY (ints (OpT.mk 10 ((i:Nat):Int) o.to' o.key o.n o.change o.mask o.torn o.cut).flat) λb3=>?_
 refine PS ?_;refine nx J1 (aa λ_ J2=>sr λ_ J3=>PS ?_);refine FA 1 eI aO ?_;refine LT 0 Y3 (.int .i64 (((i:Nat):Int))) ?_ (hc:=by exact bM _ rfl);refine CE qa (ec c i hi) ID ?_;refine PS ?_;refine nx J3 (CN (qx J2 (aa λ_ J4=>sr λ_ J5=>FA 0 eI aO ?_)));refine LT 0 Y3 (.int .i64 10) ?_ (hc:=by exact cB _ rfl);refine nx J5 (am (aa λ_ J6=>sr λ_ J7=>P2 ?_));refine nx J7 (CN (sr λ_ J8=>P2 ?_));refine nx J8 (CN (sr λ_ J9=>P2 ?_));refine nx J9 (CN (sr λ_ J10=>P2 ?_));refine nx J10 (CN (ad (P2 ?_)));refine nx J6 (CN (aa λ_ J11=>sr λ_ J12=>P2 ?_));refine nx J12 (CN (sr λ_ J13=>P2 ?_));refine nx J13 (CN (ad (P2 ?_)));refine nx J11 (CN (sr λ_ J14=>P2 ?_));refine nx J14 (CN (sr λ_ J15=>P2 ?_));refine nx J15 (CN (sr λ_ J16=>P2 ?_));refine nx J16 (CY (aa λ_ J17=>D1 0 cN ?_));refine PD 0 ?_;refine FD 1 1 eI aO ?_;refine LX 2 Y3 (.int .i64 (((i:Nat):Int))) ?_ (hc:=by exact bM _ rfl);refine PD 3 ?_;refine FD 4 1 eI aO ?_;refine LX 5 Y3 (.int .i64 (((i:Nat):Int))) ?_ (hc:=by exact bM _ rfl);refine PD 7 ?_;refine FD 8 11 oV Jb ?_;refine AL 6 ?_;refine CR Gg (vO c n i D M P hi d r s hM pl hpl hrs) (SM [1,2,2]) λvR HR hR=>?_
 obtain⟨_,huc,rfl,rfl⟩:=hR;revert vR;intro uc huc;refine EN (IY 9 (11+i) NN xn ?_);refine AL 10 ?_;refine bB (i:=0) (ab rfl) rfl rfl rfl rfl huc xn rfl rfl (by rw[qX];omega) (E5 n D M P uc hi) rfl (EN (DN (ac J17 (aa λ_ J18=>D1 4 cN ?_))));refine PD 0 ?_;refine FD 1 1 eI aO ?_;refine LX 2 Y3 (.int .i64 (((i:Nat):Int))) ?_ (hc:=by exact bM _ rfl);refine PD 3 ?_;refine FD 4 6 oV oL ?_;refine IY 5 (6+i) qd gY ?_;refine AL 6 ?_;refine bB (i:=0) (ab rfl) rfl rfl rfl rfl rfl gY rfl rfl (by rw[qX];omega) (uQ n D M (mZ P i uc) (.pointer none) hi) rfl (EN (DN (ac J18 (D2 4 0 cN ?_))));refine PD 0 ?_;refine FD 1 1 eI aO ?_;refine LX 2 Y3 (.int .i64 (((i:Nat):Int))) ?_ (hc:=by exact bM _ rfl);refine PD 3 ?_;refine FD 4 1 oV AH ?_;refine IY 5 (1+i) KC vn ?_;refine LX 6 IH (.pointer (some ⟨d,0,none⟩)) ?_ (hc:=by exact(Ea n D (mZ M i (.pointer none)) (mZ P i uc) hi).trans (congrArg some hD));refine FD 7 8 eI aO ?_;refine LX 8 Y3 (.int .i64 (o.mask)) ?_ (hc:=by exact OpT.at_mask _ rfl);refine FD 9 9 eI aO ?_;refine LX 10 Y3 (.int .i64 (o.torn)) ?_ (hc:=by exact OpT.at_torn _ rfl);refine FD 11 10 eI aO ?_;refine LX 12 Y3 (.int .i64 (o.cut)) ?_ (hc:=by exact OpT.at_cut _ rfl);refine AL 13 ?_;refine CR Mr (B8 d e o.mask o.torn o.cut hok) (SM [5]) λvR HR hR=>?_
 obtain⟨_,rfl⟩:=hR;refine EN (DN (af (ac J4 (sr λ_ J19=>PS ?_))));exact nx J19 (ah (WK [1,0,2] (av rfl rfl ⟨uc,huc,rfl,rfl⟩)))
theorem D3(c n i:Nat)(D M P:Nat→Value)(hi:i<5)(d:Nat)(hD:D i= .pointer (some ⟨d,0,none⟩))(hM:M i= .pointer none)(pl:List ReplyT)(hpl:pl.length≤100000)(e:DS)(hok:e.Ok)(o:OpT):
 DT 25 #[(.pointer (some ⟨c,0,none⟩)),(.agg (ints (OpT.mk 10 ((i:Nat):Int) o.to' o.key o.n o.change o.mask o.torn o.cut).flat).toArray)] T0 [aj c (eG n D M P) 73,dk d e,own (P i) ((pl).length) (ints (List.flatMap ReplyT.flat (pl))) 47 3] (c9 (λv H=>∃u,u.oneCell'=true∧v= .int .i64 0∧H=[aj c (eG n D (mZ M i (.pointer none)) (mZ P i u)) 73,dk d (e.crash o.mask o.torn o.cut),kF u pl])):=by
 refine BD 114 Tryz.func25 rfl rfl rfl λw0 F hF=>sr λ_ J1=>XY (ints (OpT.mk 10 ((i:Nat):Int) o.to' o.key o.n o.change o.mask o.torn o.cut).flat) λb3=>?_
 refine PS ?_;refine nx J1 (aa λ_ J2=>sr λ_ J3=>PS ?_);refine FA 1 eI aO ?_;refine LT 0 Y3 (.int .i64 (((i:Nat):Int))) ?_ (hc:=by exact bM _ rfl);refine CE qa (ec c i hi) ID ?_;refine PS ?_;refine nx J3 (CN (qx J2 (aa λ_ J4=>sr λ_ J5=>FA 0 eI aO ?_)));refine LT 0 Y3 (.int .i64 10) ?_ (hc:=by exact cB _ rfl);refine nx J5 (am (aa λ_ J6=>sr λ_ J7=>P2 ?_));refine nx J7 (CN (sr λ_ J8=>P2 ?_));refine nx J8 (CN (sr λ_ J9=>P2 ?_));refine nx J9 (CN (sr λ_ J10=>P2 ?_));refine nx J10 (CN (ad (P2 ?_)));refine nx J6 (CN (aa λ_ J11=>sr λ_ J12=>P2 ?_));refine nx J12 (CN (sr λ_ J13=>P2 ?_));refine nx J13 (CN (ad (P2 ?_)));refine nx J11 (CN (sr λ_ J14=>P2 ?_));refine nx J14 (CN (sr λ_ J15=>P2 ?_));refine nx J15 (CN (sr λ_ J16=>P2 ?_));refine nx J16 (CY (aa λ_ J17=>D1 0 cN ?_));refine PD 0 ?_;refine FD 1 1 eI aO ?_;refine LX 2 Y3 (.int .i64 (((i:Nat):Int))) ?_ (hc:=by exact bM _ rfl);refine PD 3 ?_;refine FD 4 1 eI aO ?_;refine LX 5 Y3 (.int .i64 (((i:Nat):Int))) ?_ (hc:=by exact bM _ rfl);refine PD 7 ?_;refine FD 8 11 oV Jb ?_;refine AL 6 ?_;refine CR Gg (vQ c n i D M P hi hM pl hpl) (SM [1,2]) λvR HR hR=>?_
 obtain⟨_,huc,rfl,rfl⟩:=hR;revert vR;intro uc huc;refine EN (IY 9 (11+i) NN xn ?_);refine AL 10 ?_;refine bB (i:=0) (ab rfl) rfl rfl rfl rfl huc xn rfl rfl (by rw[qX];omega) (E5 n D M P uc hi) rfl (EN (DN (ac J17 (aa λ_ J18=>D1 3 cN ?_))));refine PD 0 ?_;refine FD 1 1 eI aO ?_;refine LX 2 Y3 (.int .i64 (((i:Nat):Int))) ?_ (hc:=by exact bM _ rfl);refine PD 3 ?_;refine FD 4 6 oV oL ?_;refine IY 5 (6+i) qd gY ?_;refine AL 6 ?_;refine bB (i:=0) (ab rfl) rfl rfl rfl rfl rfl gY rfl rfl (by rw[qX];omega) (uQ n D M (mZ P i uc) (.pointer none) hi) rfl (EN (DN (ac J18 (D2 3 0 cN ?_))));refine PD 0 ?_;refine FD 1 1 eI aO ?_;refine LX 2 Y3 (.int .i64 (((i:Nat):Int))) ?_ (hc:=by exact bM _ rfl);refine PD 3 ?_;refine FD 4 1 oV AH ?_;refine IY 5 (1+i) KC vn ?_;refine LX 6 IH (.pointer (some ⟨d,0,none⟩)) ?_ (hc:=by exact(Ea n D (mZ M i (.pointer none)) (mZ P i uc) hi).trans (congrArg some hD));refine FD 7 8 eI aO ?_;refine LX 8 Y3 (.int .i64 (o.mask)) ?_ (hc:=by exact OpT.at_mask _ rfl);refine FD 9 9 eI aO ?_;refine LX 10 Y3 (.int .i64 (o.torn)) ?_ (hc:=by exact OpT.at_torn _ rfl);refine FD 11 10 eI aO ?_;refine LX 12 Y3 (.int .i64 (o.cut)) ?_ (hc:=by exact OpT.at_cut _ rfl);refine AL 13 ?_;refine CR Mr (B8 d e o.mask o.torn o.cut hok) (SM [4]) λvR HR hR=>?_
 obtain⟨_,rfl⟩:=hR;refine EN (DN (af (ac J4 (sr λ_ J19=>PS ?_))));exact nx J19 (ah (WK [1,0,1] (av rfl rfl ⟨uc,huc,rfl,rfl⟩)))
theorem Jg{s:MS LD}{lg d r:Nat}{e:LD}{i:Int}(f:Fresh i e s){H:List HP}{h:Hl}(q:bK (CA lg r s::EU lg d ((e.cnt:Nat):Int) e.used::H) h):bK (fA s d r::H) h:=by
 obtain⟨_,q⟩:=e5 (p:=λ_:Unit=>[aj r (RepT.cells (s.rep ⟨lg, .pointer none, .slice none 0 0⟩)) 87]) q;refine bo (p:=FL s d r) ⟨lg, .pointer none, .slice none 0 0⟩ ?_;have q2:=fq 47 3 q;have q3:bK (Er (.pointer none) (none:Option VoteT)::own (.slice none 0 0) 0 [] 47 3::aj r (RepT.cells (s.rep ⟨lg, .pointer none, .slice none 0 0⟩)) 87::EU lg d ((e.cnt:Nat):Int) e.used::H) h:=⟨em,h,Cu h,(qn h).symm,rfl,q2⟩;have q4:=aA [2,2,1,0] rfl q3;simp only[FL,f.e,f.replies,f.vote];exact q4
theorem tD(i d:Nat)(e:DS)(hok:DkOk e):DT 43 #[.int .i64 ((i:Nat):Int), .pointer (some ⟨d,0,none⟩)] T0 [dk d e] (c9 (λv H=>((eu i e).1=none∧(eu i e).2≠0∧v= .tuple #[.pointer none, .int .i64 (eu i e).2]∧H=[dk d (bP e).D])∨∃s r,(eu i e).1=some s∧v= .tuple #[.pointer (some ⟨r,0,none⟩), .int .i64 0]∧H=[fA s d r,dk d s.e.D])):=
 Leg.Does.fold (AS (⟨(bP e).recs.length,(bP e).used,(bP e).D⟩:LD) ((i:Nat):Int) d e hok.ok hok.inn (by have:=hok.ws;omega)) λx H hp=>by
  cases x with
  |returned v=>
   unfold eu;rcases hp with⟨he,rfl,rfl⟩| ⟨he,⟨hn,rfl,rfl⟩| ⟨s,r,lg,hn,rfl,rfl⟩⟩
   · rw[if_pos he];exact⟨_,λ_ q=>q, .inl ⟨rfl,he,rfl,rfl⟩⟩
   · rw[if_neg (by rw[he];decide),hn];exact⟨_,λ_ q=>q, .inl ⟨rfl,(by decide),rfl,rfl⟩⟩
   · rw[if_neg (by rw[he];decide),hn]
     have f:=Fresh.read _ (Fresh.new _ _) hn;refine⟨[fA s d r,dk d s.e.D],λ_ q=>Jg (lg:=lg) f ?_, .inr ⟨s,r,rfl,rfl,rfl⟩⟩;rw[f.e];exact q
  |panicked c=>exact hp.elim
  |outgrown=>exact hp.elim
theorem AR(c n i:Nat)(D M P:Nat→Value)(hi:i<5)(d:Nat)(hD:D i= .pointer (some ⟨d,0,none⟩))(hM:M i= .pointer none)(e:DS)(hok:DkOk e):
 DT 50 #[(.pointer (some ⟨c,0,none⟩)),(.int .i64 (((i:Nat):Int)))] T0 [aj c (eG n D M P) 73,dk d e] (c9 (λv H=>((eu i e).1=none∧v= .int .i64 (eu i e).2∧H=[aj c (eG n D M P) 73,dk d (bP e).D])∨∃s r,(eu i e).1=some s∧v= .int .i64 0∧H=[aj c (eG n D (mZ M i (.pointer (some ⟨r,0,none⟩))) P) 73,fA s d r,dk d s.e.D])):=by
 refine BD 34 Tryz.func50 rfl rfl rfl λw0 F hF=>sr λ_ J1=>PS ?_
 refine nx J1 (aa λ_ J2=>sr λ_ J3=>P3 ?_);refine FA 6 oV oL ?_;refine IX (6+i) qd gY ?_;refine LT 0 nS (.pointer none) ?_ (hc:=by exact(wR n D M P hi).trans (congrArg some hM));refine tp (iE rfl nS rfl rfl) ?_;refine nx J3 (CN (qx J2 (sr λ_ J4=>P4 ?_)));refine FA 1 oV AH ?_;refine IX (1+i) KC vn ?_;refine LT 0 IH (.pointer (some ⟨d,0,none⟩)) ?_ (hc:=by exact(Ea n D M P hi).trans (congrArg some hD));refine CR Ms (tD i d e hok) (SM [1]) λvR HR hR=>?_
 rcases hR with⟨hn,h0,rfl,rfl⟩| ⟨s,r,hn,rfl,rfl⟩
 refine P4 ?_;refine PS ?_;refine nx J4 (aa λ_ J5=>sr λ_ J6=>P2 ?_);refine ao ?_ ?_<;>intro h26
 · exact absurd h26 h0
 refine nx J6 (CN (qx J5 (sr λ_ J7=>P2 ?_)));exact nx J7 (ah (WK [1,0] (av rfl rfl (.inl ⟨hn,rfl,rfl⟩))));refine P4 ?_;refine PS ?_;refine nx J4 (aa λ_ J8=>sr λ_ J9=>P2 ?_);refine nx J9 (CY (ad (P4 ?_)));refine FA 6 oV oL ?_;refine IX (6+i) qd gY ?_;refine bB (i:=2) (ab rfl) rfl rfl rfl rfl rfl gY rfl rfl (by rw[qX];omega) (uQ n D M P (.pointer (some ⟨r,0,none⟩)) hi) rfl (nx J8 (sr λ_ J10=>P2 ?_));exact nx J10 (ah (WK [2,0,0] (av rfl rfl (.inr ⟨s,r,hn,rfl,rfl⟩))))
theorem AQ(c n i:Nat)(D M P:Nat→Value)(hi:i<5)(r:Nat)(hM:M i= .pointer (some ⟨r,0,none⟩)):
 DT 50 #[(.pointer (some ⟨c,0,none⟩)),(.int .i64 (((i:Nat):Int)))] T0 [aj c (eG n D M P) 73] (RI (.int .i64 5) [aj c (eG n D M P) 73]):=by
 refine BD 34 Tryz.func50 rfl rfl rfl λw0 F hF=>sr λ_ J1=>PS ?_
 refine nx J1 (aa λ_ J2=>sr λ_ J3=>P3 ?_);refine FA 6 oV oL ?_;refine IX (6+i) qd gY ?_;refine LT 0 nS (.pointer (some ⟨r,0,none⟩)) ?_ (hc:=by exact(wR n D M P hi).trans (congrArg some hM));refine tp (fy rfl nS rfl rfl) ?_;refine nx J3 (CY (sr λ_ J4=>PS ?_));exact nx J4 (ah (ae (WK [0] (av rfl rfl ⟨rfl,rfl⟩))))
theorem DY(c n i:Nat)(D M P:Nat→Value)(hi:i<5)(d:Nat)(hD:D i= .pointer (some ⟨d,0,none⟩))(hM:M i= .pointer none)(e:DS)(hok:DkOk e)(o:OpT):
 DT 25 #[(.pointer (some ⟨c,0,none⟩)),(.agg (ints (OpT.mk 11 ((i:Nat):Int) o.to' o.key o.n o.change o.mask o.torn o.cut).flat).toArray)] T0 [aj c (eG n D M P) 73,dk d e] (c9 (λv H=>((eu i e).1=none∧v= .int .i64 (eu i e).2∧H=[aj c (eG n D M P) 73,dk d (bP e).D])∨∃s r,(eu i e).1=some s∧v= .int .i64 0∧H=[aj c (eG n D (mZ M i (.pointer (some ⟨r,0,none⟩))) P) 73,fA s d r,dk d s.e.D])):=by
 refine BD 114 Tryz.func25 rfl rfl rfl λw0 F hF=>sr λ_ J1=>XY (ints (OpT.mk 11 ((i:Nat):Int) o.to' o.key o.n o.change o.mask o.torn o.cut).flat) λb3=>?_
 refine PS ?_;refine nx J1 (aa λ_ J2=>sr λ_ J3=>PS ?_);refine FA 1 eI aO ?_;refine LT 0 Y3 (.int .i64 (((i:Nat):Int))) ?_ (hc:=by exact bM _ rfl);refine CE qa (ec c i hi) ID ?_;refine PS ?_;refine nx J3 (CN (qx J2 (aa λ_ J4=>sr λ_ J5=>FA 0 eI aO ?_)));refine LT 0 Y3 (.int .i64 11) ?_ (hc:=by exact cB _ rfl);refine nx J5 (am (aa λ_ J6=>sr λ_ J7=>P2 ?_));refine nx J7 (CN (sr λ_ J8=>P2 ?_));refine nx J8 (CN (sr λ_ J9=>P2 ?_));refine nx J9 (CN (sr λ_ J10=>P2 ?_));refine nx J10 (CN (ad (P2 ?_)));refine nx J6 (CN (aa λ_ J11=>sr λ_ J12=>P2 ?_));refine nx J12 (CN (sr λ_ J13=>P2 ?_));refine nx J13 (CN (ad (P2 ?_)));refine nx J11 (CN (sr λ_ J14=>P2 ?_));refine nx J14 (CN (sr λ_ J15=>P2 ?_));refine nx J15 (CN (sr λ_ J16=>P2 ?_));refine nx J16 (CN (sr λ_ J17=>P2 ?_));refine nx J17 (CY (sr λ_ J18=>PS ?_));refine FA 1 eI aO ?_;refine LT 0 Y3 (.int .i64 (((i:Nat):Int))) ?_ (hc:=by exact bM _ rfl);refine CR Mq (AR c n i D M P hi d hD hM e hok) (SM [1,1]) λvR HR hR=>?_
 rcases hR with⟨hn,rfl,rfl⟩| ⟨s,r,hn,rfl,rfl⟩
 refine PS ?_;exact nx J18 (ah (aH (ae (WK [0,0] (av rfl rfl (.inl ⟨hn,rfl,rfl⟩))))));refine PS ?_;exact nx J18 (ah (aH (ae (WK [0,0,0] (av rfl rfl (.inr ⟨s,r,hn,rfl,rfl⟩))))))
theorem DX(c n i:Nat)(D M P:Nat→Value)(hi:i<5)(r:Nat)(hM:M i= .pointer (some ⟨r,0,none⟩))(o:OpT):
 DT 25 #[(.pointer (some ⟨c,0,none⟩)),(.agg (ints (OpT.mk 11 ((i:Nat):Int) o.to' o.key o.n o.change o.mask o.torn o.cut).flat).toArray)] T0 [aj c (eG n D M P) 73] (RI (.int .i64 5) [aj c (eG n D M P) 73]):=by
 refine BD 114 Tryz.func25 rfl rfl rfl λw0 F hF=>sr λ_ J1=>XY (ints (OpT.mk 11 ((i:Nat):Int) o.to' o.key o.n o.change o.mask o.torn o.cut).flat) λb3=>?_
 refine PS ?_;refine nx J1 (aa λ_ J2=>sr λ_ J3=>PS ?_);refine FA 1 eI aO ?_;refine LT 0 Y3 (.int .i64 (((i:Nat):Int))) ?_ (hc:=by exact bM _ rfl);refine CE qa (ec c i hi) ID ?_;refine PS ?_;refine nx J3 (CN (qx J2 (aa λ_ J4=>sr λ_ J5=>FA 0 eI aO ?_)));refine LT 0 Y3 (.int .i64 11) ?_ (hc:=by exact cB _ rfl);refine nx J5 (am (aa λ_ J6=>sr λ_ J7=>P2 ?_));refine nx J7 (CN (sr λ_ J8=>P2 ?_));refine nx J8 (CN (sr λ_ J9=>P2 ?_));refine nx J9 (CN (sr λ_ J10=>P2 ?_));refine nx J10 (CN (ad (P2 ?_)));refine nx J6 (CN (aa λ_ J11=>sr λ_ J12=>P2 ?_));refine nx J12 (CN (sr λ_ J13=>P2 ?_));refine nx J13 (CN (ad (P2 ?_)));refine nx J11 (CN (sr λ_ J14=>P2 ?_));refine nx J14 (CN (sr λ_ J15=>P2 ?_));refine nx J15 (CN (sr λ_ J16=>P2 ?_));refine nx J16 (CN (sr λ_ J17=>P2 ?_));refine nx J17 (CY (sr λ_ J18=>PS ?_));refine FA 1 eI aO ?_;refine LT 0 Y3 (.int .i64 (((i:Nat):Int))) ?_ (hc:=by exact bM _ rfl);refine CE Mq (AQ c n i D M P hi r hM) (SM [1]) ?_;refine PS ?_;exact nx J18 (ah (aH (ae (WK [0] (av rfl rfl ⟨rfl,rfl⟩)))))
theorem AA(c n i:Nat)(D M P:Nat→Value)(hi:i<5)(to' k:Int)(o:OpT)(hv:dz ((i:Nat):Int) to'=false)(bs:List Nat):
 DT 46 #[(.pointer (some ⟨c,0,none⟩)),(.agg (ints (OpT.mk k ((i:Nat):Int) to' o.key o.n o.change o.mask o.torn o.cut).flat).toArray)] T0 [aj c (eG n D M P) 73,aj n (dp bs) 135] (RI (.int .i64 5) [aj c (eG n D M P) 73,aj n (dp bs) 135]):=by
 refine BD 91 Tryz.func46 rfl rfl rfl λw0 F hF=>sr λ_ J1=>XY (ints (OpT.mk k ((i:Nat):Int) to' o.key o.n o.change o.mask o.torn o.cut).flat) λb3=>?_
 refine PS ?_;refine nx J1 (aa λ_ J2=>D2 0 1 cN ?_);refine PD 0 ?_;refine PD 1 ?_;refine FD 2 0 oV zh ?_;refine LX 3 II (.pointer (some ⟨n,0,none⟩)) ?_ (hc:=by exact Ab n D M P);refine FD 4 1 eI aO ?_;refine LX 5 Y3 (.int .i64 (((i:Nat):Int))) ?_ (hc:=by exact bM _ rfl);refine FD 6 2 eI aO ?_;refine LX 7 Y3 (.int .i64 (to')) ?_ (hc:=by exact gN _ rfl);refine AL 8 ?_;refine CR Dq (mo n bs ((i:Nat):Int) to') (SM [2]) λvR HR hR=>?_
 obtain⟨hw,rfl⟩:=hR;obtain⟨_,rfl⟩:dz ((i:Nat):Int) to'=false∧vR= .pointer none:=hw.resolve_left (λq=>by rw[hv]at q;cases q.1);refine EN (PD 9 ?_);refine DN (ac J2 (aa λ_ J3=>sr λ_ J4=>PS ?_));refine tp (O8 rfl w8 rfl rfl) ?_;refine nx J4 (CY (sr λ_ J5=>PS ?_));exact nx J5 (ah (ae (WK [2,0] (av rfl rfl ⟨rfl,rfl⟩))))
theorem o7{n i j:Nat}{bs:List Nat}{W:List (List MsgT)}{l:List MsgT}{H:List HP}{h:Hl}(hv:dz ((i:Nat):Int) ((j:Nat):Int)=true)(hW:W.length=25)(q:bK (gE 184 5 (bs.getD (bD ((i:Nat):Int) ((j:Nat):Int)) 0) (List.map (kg (bD ((i:Nat):Int) ((j:Nat):Int))) l)::fo 184 5 bs (cK W) (bD ((i:Nat):Int) ((j:Nat):Int))::aj n (dp bs) 135::H) h):bK (eg 135 184 5 n (cK (W.set (bD ((i:Nat):Int) ((j:Nat):Int)) l))::H) h:=by
 have q2:=sL hv (o9 W) q;rw[u6 W (ic hv).1 hW]at q2;exact bo (p:=λbs:List Nat=>[aj n (dp bs) 135,ey 184 5 bs (cK (W.set (bD ((i:Nat):Int) ((j:Nat):Int)) l))]) bs (dY (List.Perm.swap _ _ _) q2)
theorem y5(c n i:Nat)(D M P:Nat→Value)(hi:i<5)(j:Nat)(hj:j<5)(hv:dz ((i:Nat):Int) ((j:Nat):Int)=true)(W:List (List MsgT))(hW:W.length=25)(l:List MsgT)(hl:W.getD (bD ((i:Nat):Int) ((j:Nat):Int)) []=l)(h8:l.length≤8)(hlen: ∀m∈l,0< (dP m).length)(o:OpT)(k:Int)(hn:l=[])(bs:List Nat):
 DT 46 #[(.pointer (some ⟨c,0,none⟩)),(.agg (ints (OpT.mk k ((i:Nat):Int) ((j:Nat):Int) o.key o.n o.change o.mask o.torn o.cut).flat).toArray)] T0 [aj n (dp bs) 135,ey 184 5 bs (cK W),aj c (eG n D M P) 73] (RI (.int .i64 10) [aj c (eG n D M P) 73,eg 135 184 5 n (cK (W.set (bD ((i:Nat):Int) ((j:Nat):Int)) l))]):=by
 refine BD 91 Tryz.func46 rfl rfl rfl λw0 F hF=>sr λ_ J1=>XY (ints (OpT.mk k ((i:Nat):Int) ((j:Nat):Int) o.key o.n o.change o.mask o.torn o.cut).flat) λb3=>?_
 refine PS ?_;refine nx J1 (aa λ_ J2=>D2 0 3 cN ?_);refine PD 0 ?_;refine PD 1 ?_;refine FD 2 0 oV zh ?_;refine LX 3 II (.pointer (some ⟨n,0,none⟩)) ?_ (hc:=by exact Ab n D M P);refine FD 4 1 eI aO ?_;refine LX 5 Y3 (.int .i64 (((i:Nat):Int))) ?_ (hc:=by exact bM _ rfl);refine FD 6 2 eI aO ?_;refine LX 7 Y3 (.int .i64 (((j:Nat):Int))) ?_ (hc:=by exact gN _ rfl);refine AL 8 ?_;refine CR Dq (mo n bs ((i:Nat):Int) ((j:Nat):Int)) (SM [1]) λvR HR hR=>?_
 obtain⟨hw,rfl⟩:=hR;obtain⟨_,rfl⟩:dz ((i:Nat):Int) ((j:Nat):Int)=true∧vR= .pointer (some ⟨(bs.getD (bD ((i:Nat):Int) ((j:Nat):Int)) 0),0,none⟩):=hw.resolve_right (λq=>by rw[hv]at q;cases q.1);refine EN (PD 9 ?_);refine DN (ac J2 (aa λ_ J3=>sr λ_ J4=>PS ?_));refine tp (fG rfl w8 rfl rfl) ?_;refine nx J4 (CN (qx J3 (aa λ_ J5=>sr λ_ J6=>ce (H':=[gE 184 5 (bs.getD (bD ((i:Nat):Int) ((j:Nat):Int)) 0) (List.map (kg (bD ((i:Nat):Int) ((j:Nat):Int))) l),fo 184 5 bs (cK W) (bD ((i:Nat):Int) ((j:Nat):Int)),aj n (dp bs) 135,aj b3 (ints (OpT.mk k ((i:Nat):Int) ((j:Nat):Int) o.key o.n o.change o.mask o.torn o.cut).flat) 63,aj c (eG n D M P) 73]) (λ_ q=>hl▸mX W (ic hv).1▸np hv (aA [2] rfl q)) (PS ?_))));refine CE Br (iU (bs.getD (bD ((i:Nat):Int) ((j:Nat):Int)) 0) (List.map (kg (bD ((i:Nat):Int) ((j:Nat):Int))) l)) ID ?_;rw[cb];refine PS ?_;refine ao ?_ ?_<;>intro h23;refine nx J6 (CY (sr λ_ J7=>PS ?_));exact nx J7 (ah (ae (aF (H':=[aj c (eG n D M P) 73,eg 135 184 5 n (cK (W.set (bD ((i:Nat):Int) ((j:Nat):Int)) l))]) (cZ _) (λ_ q=>dY (List.Perm.swap _ _ _) (o7 (bs:=bs) hv hW (ak [0,0,0,1] rfl q))) (av rfl rfl ⟨rfl,rfl⟩))))
 · exact absurd (by rw[hn];rfl) h23
theorem xi(c n i:Nat)(D M P:Nat→Value)(hi:i<5)(j:Nat)(hj:j<5)(hv:dz ((i:Nat):Int) ((j:Nat):Int)=true)(W:List (List MsgT))(hW:W.length=25)(l:List MsgT)(hl:W.getD (bD ((i:Nat):Int) ((j:Nat):Int)) []=l)(h8:l.length≤8)(hlen: ∀m∈l,0< (dP m).length)(o:OpT)(hn:l≠[])(bs:List Nat):
    DT 46 #[(.pointer (some ⟨c,0,none⟩)),(.agg (ints (OpT.mk 7 ((i:Nat):Int) ((j:Nat):Int) o.key o.n o.change o.mask o.torn o.cut).flat).toArray)] T0 [aj n (dp bs) 135,ey 184 5 bs (cK W),aj c (eG n D M P) 73] (RI (.int .i64 (if Hb l then 0 else 3)) [aj c (eG n D M P) 73,eg 135 184 5 n (cK (W.set (bD ((i:Nat):Int) ((j:Nat):Int)) (CK l)))]):=by
 refine BD 91 Tryz.func46 rfl rfl rfl λw0 F hF=>sr λ_ J1=>XY (ints (OpT.mk 7 ((i:Nat):Int) ((j:Nat):Int) o.key o.n o.change o.mask o.torn o.cut).flat) λb3=>?_
 refine PS ?_;refine nx J1 (aa λ_ J2=>D2 0 3 cN ?_);refine PD 0 ?_;refine PD 1 ?_;refine FD 2 0 oV zh ?_;refine LX 3 II (.pointer (some ⟨n,0,none⟩)) ?_ (hc:=by exact Ab n D M P);refine FD 4 1 eI aO ?_;refine LX 5 Y3 (.int .i64 (((i:Nat):Int))) ?_ (hc:=by exact bM _ rfl);refine FD 6 2 eI aO ?_;refine LX 7 Y3 (.int .i64 (((j:Nat):Int))) ?_ (hc:=by exact gN _ rfl);refine AL 8 ?_;refine CR Dq (mo n bs ((i:Nat):Int) ((j:Nat):Int)) (SM [1]) λvR HR hR=>?_
 obtain⟨hw,rfl⟩:=hR;obtain⟨_,rfl⟩:dz ((i:Nat):Int) ((j:Nat):Int)=true∧vR= .pointer (some ⟨(bs.getD (bD ((i:Nat):Int) ((j:Nat):Int)) 0),0,none⟩):=hw.resolve_right (λq=>by rw[hv]at q;cases q.1);refine EN (PD 9 ?_);refine DN (ac J2 (aa λ_ J3=>sr λ_ J4=>PS ?_));refine tp (fG rfl w8 rfl rfl) ?_;refine nx J4 (CN (qx J3 (aa λ_ J5=>sr λ_ J6=>ce (H':=[gE 184 5 (bs.getD (bD ((i:Nat):Int) ((j:Nat):Int)) 0) (List.map (kg (bD ((i:Nat):Int) ((j:Nat):Int))) l),fo 184 5 bs (cK W) (bD ((i:Nat):Int) ((j:Nat):Int)),aj n (dp bs) 135,aj b3 (ints (OpT.mk 7 ((i:Nat):Int) ((j:Nat):Int) o.key o.n o.change o.mask o.torn o.cut).flat) 63,aj c (eG n D M P) 73]) (λ_ q=>hl▸mX W (ic hv).1▸np hv (aA [2] rfl q)) (PS ?_))));refine CE Br (iU (bs.getD (bD ((i:Nat):Int) ((j:Nat):Int)) 0) (List.map (kg (bD ((i:Nat):Int) ((j:Nat):Int))) l)) ID ?_;rw[cb];refine PS ?_;refine ao ?_ ?_<;>intro h23
 · exact absurd (List.eq_nil_of_length_eq_zero (by omega)) hn
 refine nx J6 (CN (qx J5 (aa λ_ J7=>sr λ_ J8=>FA 0 eI aO ?_)));refine LT 3 Y3 (.int .i64 7) ?_ (hc:=by exact cB _ rfl);refine PS ?_;refine nx J8 (CY (aa λ_ J9=>sr λ_ J10=>PS ?_))
 refine dM (ab rfl) rfl rfl rfl N4 rfl (xI (bs.getD (bD ((i:Nat):Int) ((j:Nat):Int)) 0) (List.map (kg (bD ((i:Nat):Int) ((j:Nat):Int))) l) (by rw[cb];exact h8) (λx hx=>by
        obtain⟨m,_,rfl⟩:=fT.1 hx
        exact uZ _ m)) (λ_ s=>s) (λ_ _ _=>trivial) (λvR HR hR=>?_)
 obtain⟨rfl,rfl⟩:=hR;rw[I9,I8];refine bc ?_ ?_<;>intro h28;refine PS ?_;refine nx J10 (CN (qx J9 (sr λ_ J11=>PS ?_)));refine nx J11 (ah (ae (aF (H':=[aj c (eG n D M P) 73,eg 135 184 5 n (cK (W.set (bD ((i:Nat):Int) ((j:Nat):Int)) (CK l)))]) (cZ _) (λ_ q=>dY (List.Perm.swap _ _ _) (o7 (bs:=bs) hv hW (ak [0,0,0,1] rfl q))) (av rfl rfl ?_))));exact⟨by rw[h28];rfl,rfl⟩;refine PS ?_;refine nx J10 (CY (sr λ_ J12=>PS ?_));refine nx J12 (ah (ae (ae (aF (H':=[aj c (eG n D M P) 73,eg 135 184 5 n (cK (W.set (bD ((i:Nat):Int) ((j:Nat):Int)) (CK l)))]) (cZ _) (λ_ q=>dY (List.Perm.swap _ _ _) (o7 (bs:=bs) hv hW (ak [0,0,0,1] rfl q))) (av rfl rfl ?_)))));exact⟨by rw[h28];rfl,rfl⟩
theorem Et{i j:Nat}{W:List (List MsgT)}{m:MsgT}{l2:List MsgT}(hv:dz ((i:Nat):Int) ((j:Nat):Int)=true)(hW:W.length=25):(cK (W.set (bD ((i:Nat):Int) ((j:Nat):Int)) (m::l2))).getD (bD ((i:Nat):Int) ((j:Nat):Int)) []=iR ((i:Nat):Int) ((j:Nat):Int) (dP m)::List.map (kg (bD ((i:Nat):Int) ((j:Nat):Int))) l2:=by
 rw[mX _ (ic hv).1,List.getD_eq_getElem?_getD,List.getElem?_set_self (by rw[hW];exact(ic hv).1),←Az (ry hv).1 (ry hv).2];rfl
theorem AF{i j:Nat}{W:List (List MsgT)}{m:MsgT}{l2:List MsgT}(hv:dz ((i:Nat):Int) ((j:Nat):Int)=true)(hW:W.length=25):(cK (W.set (bD ((i:Nat):Int) ((j:Nat):Int)) (m::l2))).set (bD ((i:Nat):Int) ((j:Nat):Int)) (List.map (kg (bD ((i:Nat):Int) ((j:Nat):Int))) l2)=cK (W.set (bD ((i:Nat):Int) ((j:Nat):Int)) l2):=by
 rw[u6 _ (ic hv).1 (by rw[iG];exact hW),gv]
theorem rk(c n i:Nat)(D M P:Nat→Value)(hi:i<5)(j:Nat)(hj:j<5)(hv:dz ((i:Nat):Int) ((j:Nat):Int)=true)(W:List (List MsgT))(hW:W.length=25)(l:List MsgT)(hl:W.getD (bD ((i:Nat):Int) ((j:Nat):Int)) []=l)(h8:l.length≤8)(hlen: ∀m∈l,0< (dP m).length)(o:OpT)(m:MsgT)(l2:List MsgT)(ht:kL (max o.n 0% ((l.length:Nat):Int)).toNat l=m::l2)(bs:List Nat)(q:Int)(hk5:q=5∨q=6)(hk:q=6∨M j= .pointer none):
    DT 46 #[(.pointer (some ⟨c,0,none⟩)),(.agg (ints (OpT.mk q ((i:Nat):Int) ((j:Nat):Int) o.key o.n o.change o.mask o.torn o.cut).flat).toArray)] T0 [aj n (dp bs) 135,ey 184 5 bs (cK W),aj c (eG n D M P) 73] (RI (.int .i64 0) [aj c (eG n D M P) 73,eg 135 184 5 n (cK (W.set (bD ((i:Nat):Int) ((j:Nat):Int)) l2))]):=by
 refine BD 91 Tryz.func46 rfl rfl rfl λw0 F hF=>?_
 have hln:0<l.length:=by
     have:=jR (max o.n 0% ((l.length:Nat):Int)).toNat l;rw[ht]at this;rw[←this];exact Nat.succ_pos _
 have hm0:0< (dP m).length:=hlen m ((nV (max o.n 0% ((l.length:Nat):Int)).toNat l).1 (ht▸mW ..));have hrl:(max o.n 0% ((l.length:Nat):Int))< ((l.length:Nat):Int):=GX _ (by omega);refine sr λ_ J1=>XY (ints (OpT.mk q ((i:Nat):Int) ((j:Nat):Int) o.key o.n o.change o.mask o.torn o.cut).flat) λb3=>?_
 refine PS ?_;refine nx J1 (aa λ_ J2=>D2 0 3 cN ?_);refine PD 0 ?_;refine PD 1 ?_;refine FD 2 0 oV zh ?_;refine LX 3 II (.pointer (some ⟨n,0,none⟩)) ?_ (hc:=by exact Ab n D M P);refine FD 4 1 eI aO ?_;refine LX 5 Y3 (.int .i64 (((i:Nat):Int))) ?_ (hc:=by exact bM _ rfl);refine FD 6 2 eI aO ?_;refine LX 7 Y3 (.int .i64 (((j:Nat):Int))) ?_ (hc:=by exact gN _ rfl);refine AL 8 ?_;refine CR Dq (mo n bs ((i:Nat):Int) ((j:Nat):Int)) (SM [1]) λvR HR hR=>?_
 obtain⟨hw,rfl⟩:=hR;obtain⟨_,rfl⟩:dz ((i:Nat):Int) ((j:Nat):Int)=true∧vR= .pointer (some ⟨(bs.getD (bD ((i:Nat):Int) ((j:Nat):Int)) 0),0,none⟩):=hw.resolve_right (λq=>by rw[hv]at q;cases q.1);refine EN (PD 9 ?_);refine DN (ac J2 (aa λ_ J3=>sr λ_ J4=>PS ?_));refine tp (fG rfl w8 rfl rfl) ?_;refine nx J4 (CN (qx J3 (aa λ_ J5=>sr λ_ J6=>ce (H':=[gE 184 5 (bs.getD (bD ((i:Nat):Int) ((j:Nat):Int)) 0) (List.map (kg (bD ((i:Nat):Int) ((j:Nat):Int))) l),fo 184 5 bs (cK W) (bD ((i:Nat):Int) ((j:Nat):Int)),aj n (dp bs) 135,aj b3 (ints (OpT.mk q ((i:Nat):Int) ((j:Nat):Int) o.key o.n o.change o.mask o.torn o.cut).flat) 63,aj c (eG n D M P) 73]) (λ_ q=>hl▸mX W (ic hv).1▸np hv (aA [2] rfl q)) (PS ?_))));refine CE Br (iU (bs.getD (bD ((i:Nat):Int) ((j:Nat):Int)) 0) (List.map (kg (bD ((i:Nat):Int) ((j:Nat):Int))) l)) ID ?_;rw[cb];refine PS ?_;refine ao ?_ ?_<;>intro h23
 · exact absurd h23 (by omega)
 refine nx J6 (CN (qx J5 (aa λ_ J7=>sr λ_ J8=>FA 0 eI aO ?_)));refine LT 3 Y3 (.int .i64 (q)) ?_ (hc:=by exact cB _ rfl);refine PS ?_;refine ao ?_ ?_<;>intro h26
 · exact absurd h26 (by omega)
 refine nx J8 (CN (qx J7 (aa λ_ J9=>aa λ_ J10=>D1 3 cN ?_)));refine FD 0 4 eI aO ?_;refine LX 1 Y3 (.int .i64 (o.n)) ?_ (hc:=by exact pS _ rfl);refine ta 2 rfl (xT rfl rfl rfl) ?_;refine PD 3 ?_;refine PD 6 ?_;refine AL 4 ?_;refine CE Br (iU (bs.getD (bD ((i:Nat):Int) ((j:Nat):Int)) 0) (List.map (kg (bD ((i:Nat):Int) ((j:Nat):Int))) l)) ID ?_;rw[cb];refine EN (ta 5 rfl (PV.rem (r:=(max o.n 0% ((l.length:Nat):Int))) rfl rfl rfl (by omega) (sF (by omega))) ?_);refine DN (ac J10 (am ?_))
 refine bu (α:=(Nat)) (λk=>((k:Nat):Int)≤(max o.n 0% ((l.length:Nat):Int))) (λk=>[(0,(.pointer (some ⟨c,0,none⟩))),(3,(.pointer (some ⟨b3,0,none⟩))),(4,(.int .i64 0)),(5,(.pointer (some ⟨(bs.getD (bD ((i:Nat):Int) ((j:Nat):Int)) 0),0,none⟩))),(35,(.int .i64 ((max o.n 0% ((l.length:Nat):Int))))),(36,(.int .i64 (((k:Nat):Int))))]) (λk=>[gE 184 5 (bs.getD (bD ((i:Nat):Int) ((j:Nat):Int)) 0) (List.map (kg (bD ((i:Nat):Int) ((j:Nat):Int))) (kL k l)),fo 184 5 bs (cK W) (bD ((i:Nat):Int) ((j:Nat):Int)),aj n (dp bs) 135,aj b3 (ints (OpT.mk q ((i:Nat):Int) ((j:Nat):Int) o.key o.n o.change o.mask o.torn o.cut).flat) 63,aj c (eG n D M P) 73]) (λk=>(max o.n 0% ((l.length:Nat):Int)).toNat-k) 0
     (yX _ (by omega)) SB
     (λ_ s=>aA [0,0,0,0,0] rfl s) (λk hinv=>?_)
 obtain hk:=hinv;refine sr λ_ J11=>PS ?_
 refine ao ?_ ?_<;>intro h37;refine nx J11 (aa λ_ J12=>CY (qx J12 (aa λ_ J13=>am (ad (PS ?_)))))
 refine dM (ab rfl) rfl rfl rfl Ml rfl (sA (bs.getD (bD ((i:Nat):Int) ((j:Nat):Int)) 0) (List.map (kg (bD ((i:Nat):Int) ((j:Nat):Int))) (kL k l)) (by rw[cb,jR];exact h8) (λx hx=>by
        obtain⟨m,_,rfl⟩:=fT.1 hx
        exact uZ _ m)) (λ_ s=>s) (λ_ _ _=>trivial) (λvR HR hR=>?_)
 obtain rfl:=hR;rw[yd];refine ap (af (ac J13 (ad (AD ?_))));refine PS ?_;refine ap ?_
 exact aJ ((k+1):(Nat)) (by omega) (by show(max o.n 0% ((l.length:Nat):Int)).toNat- (k+1)< (max o.n 0% ((l.length:Nat):Int)).toNat-k;omega)
   SB
   (λ_ s=>aA [0,0,0,0,0] rfl s)
 have hkr:k=(max o.n 0% ((l.length:Nat):Int)).toNat:=by omega
 refine ce (H':=[gE 184 5 (bs.getD (bD ((i:Nat):Int) ((j:Nat):Int)) 0) (List.map (kg (bD ((i:Nat):Int) ((j:Nat):Int))) (m::l2)),fo 184 5 bs (cK W) (bD ((i:Nat):Int) ((j:Nat):Int)),aj n (dp bs) 135,aj b3 (ints (OpT.mk q ((i:Nat):Int) ((j:Nat):Int) o.key o.n o.change o.mask o.torn o.cut).flat) 63,aj c (eG n D M P) 73]) (λ_ q=>by rw[hkr,ht]at q;exact q) (nx J11 (aa λ_ J14=>CN (aV (ay (ay (bh (ac J9 (aa λ_ J15=>D2 3 4 cN ?_))))))));refine PD 0 ?_;refine PD 1 ?_;refine FD 2 0 oV zh ?_;refine LX 3 II (.pointer (some ⟨n,0,none⟩)) ?_ (hc:=by exact Ab n D M P);refine FD 4 1 eI aO ?_;refine LX 5 Y3 (.int .i64 (((i:Nat):Int))) ?_ (hc:=by exact bM _ rfl);refine FD 6 2 eI aO ?_;refine LX 7 Y3 (.int .i64 (((j:Nat):Int))) ?_ (hc:=by exact gN _ rfl);refine AL 8 ?_;refine ce (H':=[eg 135 184 5 n (cK (W.set (bD ((i:Nat):Int) ((j:Nat):Int)) (m::l2))),aj b3 (ints (OpT.mk q ((i:Nat):Int) ((j:Nat):Int) o.key o.n o.change o.mask o.torn o.cut).flat) 63,aj c (eG n D M P) 73]) (λ_ q=>o7 (bs:=bs) hv hW (aA [0,0,0] rfl q)) (CR Mk (qk n (cK (W.set (bD ((i:Nat):Int) ((j:Nat):Int)) (m::l2))) ((i:Nat):Int) ((j:Nat):Int) (dP m) (List.map (kg (bD ((i:Nat):Int) ((j:Nat):Int))) l2) hv (o9 _) (Et hv hW) hm0 (by have:=sv m;omega)) ID λvR HR hR=>?_);obtain⟨uv,rfl,rfl⟩:=hR;rw[AF hv hW];refine EN (PD 9 ?_);refine PD 10 ?_;refine PD 11 ?_;refine PD 12 ?_;refine PD 13 ?_
 refine DN (ac J15 (aa λ_ J16=>sr λ_ J17=>FA 0 eI aO ?_));refine LT 2 Y3 (.int .i64 (q)) ?_ (hc:=by exact cB _ rfl);refine PS ?_;refine ao ?_ ?_<;>intro h55;refine PS ?_;refine UT ?_;refine UT ?_;refine P2 ?_
 iterate 5 refine UT ?_
 refine PS ?_;refine nx J17 (CY (sr λ_ J18=>PS ?_));exact nx J18 (ah (ae (WK [3,0] (av rfl rfl ⟨rfl,rfl⟩))));refine P2 ?_;refine PS ?_;refine P3 ?_;refine FA 2 eI aO ?_;refine LT 2 Y3 (.int .i64 (((j:Nat):Int))) ?_ (hc:=by exact gN _ rfl);refine CE Bt (rA c n j D M P hj (hk.resolve_left h55)) (SM [3]) ?_;refine PS ?_;refine PS ?_;refine nx J17 (CY (sr λ_ J19=>PS ?_));exact nx J19 (ah (ae (WK [0,0] (av rfl rfl ⟨rfl,rfl⟩))))
theorem y6(c n i:Nat)(D M P:Nat→Value)(hi:i<5)(j:Nat)(hj:j<5)(hv:dz ((i:Nat):Int) ((j:Nat):Int)=true)(W:List (List MsgT))(hW:W.length=25)(l:List MsgT)(hl:W.getD (bD ((i:Nat):Int) ((j:Nat):Int)) []=l)(h8:l.length≤8)(hlen: ∀m∈l,0< (dP m).length)(o:OpT)(m:MsgT)(l2:List MsgT)(ht:kL (max o.n 0% ((l.length:Nat):Int)).toNat l=m::l2)(bs:List Nat)(d r:Nat)(s:MS LD)(hD:D j= .pointer (some ⟨d,0,none⟩))(hM:M j= .pointer (some ⟨r,0,none⟩))(ho:s.o=[])(hs:OkR KD s)(hto:((i:Nat):Int)≠s.id)(hrs:s.replies.length≤1000000):
    DT 46 #[(.pointer (some ⟨c,0,none⟩)),(.agg (ints (OpT.mk 5 ((i:Nat):Int) ((j:Nat):Int) o.key o.n o.change o.mask o.torn o.cut).flat).toArray)] T0 [aj n (dp bs) 135,ey 184 5 bs (cK W),aj c (eG n D M P) 73,dk d s.e.D,fA s d r] (c9 (λv H=>(s.e.D.dn=true∧v= .int .i64 0∧H=[aj c (eG n D M P) 73,dk d s.e.D,eg 135 184 5 n (cK ((W.set (bD ((i:Nat):Int) ((j:Nat):Int)) l2))),fA s d r])∨(s.e.D.dn=false∧(jr (dP m)).2≠0∧v= .int .i64 (jr (dP m)).2∧H=[aj c (eG n D M P) 73,dk d s.e.D,eg 135 184 5 n (cK ((W.set (bD ((i:Nat):Int) ((j:Nat):Int)) l2))),fA s d r])∨(s.e.D.dn=false∧(jr (dP m)).2=0∧v= .int .i64 0∧H=[aj c (eG n D M P) 73,dk d (gk KD s ((i:Nat):Int) (jr (dP m)).1).hush.e.D,eg 135 184 5 n (cK (gR (W.set (bD ((i:Nat):Int) ((j:Nat):Int)) l2) j (gk KD s ((i:Nat):Int) (jr (dP m)).1).o)),fA (gk KD s ((i:Nat):Int) (jr (dP m)).1).hush d r]))):=by
 refine BD 91 Tryz.func46 rfl rfl rfl λw0 F hF=>?_
 have hln:0<l.length:=by
     have:=jR (max o.n 0% ((l.length:Nat):Int)).toNat l;rw[ht]at this;rw[←this];exact Nat.succ_pos _
 have hm0:0< (dP m).length:=hlen m ((nV (max o.n 0% ((l.length:Nat):Int)).toNat l).1 (ht▸mW ..));have hrl:(max o.n 0% ((l.length:Nat):Int))< ((l.length:Nat):Int):=GX _ (by omega);refine sr λ_ J1=>XY (ints (OpT.mk 5 ((i:Nat):Int) ((j:Nat):Int) o.key o.n o.change o.mask o.torn o.cut).flat) λb3=>?_
 refine PS ?_;refine nx J1 (aa λ_ J2=>D2 0 3 cN ?_);refine PD 0 ?_;refine PD 1 ?_;refine FD 2 0 oV zh ?_;refine LX 3 II (.pointer (some ⟨n,0,none⟩)) ?_ (hc:=by exact Ab n D M P);refine FD 4 1 eI aO ?_;refine LX 5 Y3 (.int .i64 (((i:Nat):Int))) ?_ (hc:=by exact bM _ rfl);refine FD 6 2 eI aO ?_;refine LX 7 Y3 (.int .i64 (((j:Nat):Int))) ?_ (hc:=by exact gN _ rfl);refine AL 8 ?_;refine CR Dq (mo n bs ((i:Nat):Int) ((j:Nat):Int)) (SM [1]) λvR HR hR=>?_
 obtain⟨hw,rfl⟩:=hR;obtain⟨_,rfl⟩:dz ((i:Nat):Int) ((j:Nat):Int)=true∧vR= .pointer (some ⟨(bs.getD (bD ((i:Nat):Int) ((j:Nat):Int)) 0),0,none⟩):=hw.resolve_right (λq=>by rw[hv]at q;cases q.1);refine EN (PD 9 ?_);refine DN (ac J2 (aa λ_ J3=>sr λ_ J4=>PS ?_));refine tp (fG rfl w8 rfl rfl) ?_;refine nx J4 (CN (qx J3 (aa λ_ J5=>sr λ_ J6=>ce (H':=[gE 184 5 (bs.getD (bD ((i:Nat):Int) ((j:Nat):Int)) 0) (List.map (kg (bD ((i:Nat):Int) ((j:Nat):Int))) l),fo 184 5 bs (cK W) (bD ((i:Nat):Int) ((j:Nat):Int)),aj n (dp bs) 135,aj b3 (ints (OpT.mk 5 ((i:Nat):Int) ((j:Nat):Int) o.key o.n o.change o.mask o.torn o.cut).flat) 63,aj c (eG n D M P) 73,dk d s.e.D,fA s d r]) (λ_ q=>hl▸mX W (ic hv).1▸np hv (aA [2] rfl q)) (PS ?_))));refine CE Br (iU (bs.getD (bD ((i:Nat):Int) ((j:Nat):Int)) 0) (List.map (kg (bD ((i:Nat):Int) ((j:Nat):Int))) l)) ID ?_;rw[cb];refine PS ?_;refine ao ?_ ?_<;>intro h23
 · exact absurd h23 (by omega)
 refine nx J6 (CN (qx J5 (aa λ_ J7=>sr λ_ J8=>FA 0 eI aO ?_)));refine LT 3 Y3 (.int .i64 5) ?_ (hc:=by exact cB _ rfl);refine PS ?_;refine nx J8 (CN (qx J7 (aa λ_ J9=>aa λ_ J10=>D1 3 cN ?_)));refine FD 0 4 eI aO ?_;refine LX 1 Y3 (.int .i64 (o.n)) ?_ (hc:=by exact pS _ rfl);refine ta 2 rfl (xT rfl rfl rfl) ?_;refine PD 3 ?_;refine PD 6 ?_;refine AL 4 ?_;refine CE Br (iU (bs.getD (bD ((i:Nat):Int) ((j:Nat):Int)) 0) (List.map (kg (bD ((i:Nat):Int) ((j:Nat):Int))) l)) ID ?_;rw[cb];refine EN (ta 5 rfl (PV.rem (r:=(max o.n 0% ((l.length:Nat):Int))) rfl rfl rfl (by omega) (sF (by omega))) ?_);refine DN (ac J10 (am ?_))
 refine bu (α:=(Nat)) (λk=>((k:Nat):Int)≤(max o.n 0% ((l.length:Nat):Int))) (λk=>[(0,(.pointer (some ⟨c,0,none⟩))),(3,(.pointer (some ⟨b3,0,none⟩))),(4,(.int .i64 0)),(5,(.pointer (some ⟨(bs.getD (bD ((i:Nat):Int) ((j:Nat):Int)) 0),0,none⟩))),(35,(.int .i64 ((max o.n 0% ((l.length:Nat):Int))))),(36,(.int .i64 (((k:Nat):Int))))]) (λk=>[gE 184 5 (bs.getD (bD ((i:Nat):Int) ((j:Nat):Int)) 0) (List.map (kg (bD ((i:Nat):Int) ((j:Nat):Int))) (kL k l)),fo 184 5 bs (cK W) (bD ((i:Nat):Int) ((j:Nat):Int)),aj n (dp bs) 135,aj b3 (ints (OpT.mk 5 ((i:Nat):Int) ((j:Nat):Int) o.key o.n o.change o.mask o.torn o.cut).flat) 63,aj c (eG n D M P) 73,dk d s.e.D,fA s d r]) (λk=>(max o.n 0% ((l.length:Nat):Int)).toNat-k) 0
     (yX _ (by omega)) SB
     (λ_ s=>aA [0,0,0,0,0,0,0] rfl s) (λk hinv=>?_)
 obtain hk:=hinv;refine sr λ_ J11=>PS ?_
 refine ao ?_ ?_<;>intro h37;refine nx J11 (aa λ_ J12=>CY (qx J12 (aa λ_ J13=>am (ad (PS ?_)))))
 refine dM (ab rfl) rfl rfl rfl Ml rfl (sA (bs.getD (bD ((i:Nat):Int) ((j:Nat):Int)) 0) (List.map (kg (bD ((i:Nat):Int) ((j:Nat):Int))) (kL k l)) (by rw[cb,jR];exact h8) (λx hx=>by
        obtain⟨m,_,rfl⟩:=fT.1 hx
        exact uZ _ m)) (λ_ s=>s) (λ_ _ _=>trivial) (λvR HR hR=>?_)
 obtain rfl:=hR;rw[yd];refine ap (af (ac J13 (ad (AD ?_))));refine PS ?_;refine ap ?_
 exact aJ ((k+1):(Nat)) (by omega) (by show(max o.n 0% ((l.length:Nat):Int)).toNat- (k+1)< (max o.n 0% ((l.length:Nat):Int)).toNat-k;omega)
   SB
   (λ_ s=>aA [0,0,0,0,0,0,0] rfl s)
 have hkr:k=(max o.n 0% ((l.length:Nat):Int)).toNat:=by omega
 refine ce (H':=[gE 184 5 (bs.getD (bD ((i:Nat):Int) ((j:Nat):Int)) 0) (List.map (kg (bD ((i:Nat):Int) ((j:Nat):Int))) (m::l2)),fo 184 5 bs (cK W) (bD ((i:Nat):Int) ((j:Nat):Int)),aj n (dp bs) 135,aj b3 (ints (OpT.mk 5 ((i:Nat):Int) ((j:Nat):Int) o.key o.n o.change o.mask o.torn o.cut).flat) 63,aj c (eG n D M P) 73,dk d s.e.D,fA s d r]) (λ_ q=>by rw[hkr,ht]at q;exact q) (nx J11 (aa λ_ J14=>CN (aV (ay (ay (bh (ac J9 (aa λ_ J15=>D2 3 4 cN ?_))))))));refine PD 0 ?_;refine PD 1 ?_;refine FD 2 0 oV zh ?_;refine LX 3 II (.pointer (some ⟨n,0,none⟩)) ?_ (hc:=by exact Ab n D M P);refine FD 4 1 eI aO ?_;refine LX 5 Y3 (.int .i64 (((i:Nat):Int))) ?_ (hc:=by exact bM _ rfl);refine FD 6 2 eI aO ?_;refine LX 7 Y3 (.int .i64 (((j:Nat):Int))) ?_ (hc:=by exact gN _ rfl);refine AL 8 ?_;refine ce (H':=[eg 135 184 5 n (cK (W.set (bD ((i:Nat):Int) ((j:Nat):Int)) (m::l2))),aj b3 (ints (OpT.mk 5 ((i:Nat):Int) ((j:Nat):Int) o.key o.n o.change o.mask o.torn o.cut).flat) 63,aj c (eG n D M P) 73,dk d s.e.D,fA s d r]) (λ_ q=>o7 (bs:=bs) hv hW (aA [0,0,0] rfl q)) (CR Mk (qk n (cK (W.set (bD ((i:Nat):Int) ((j:Nat):Int)) (m::l2))) ((i:Nat):Int) ((j:Nat):Int) (dP m) (List.map (kg (bD ((i:Nat):Int) ((j:Nat):Int))) l2) hv (o9 _) (Et hv hW) hm0 (by have:=sv m;omega)) ID λvR HR hR=>?_);obtain⟨uv,rfl,rfl⟩:=hR;rw[AF hv hW];refine EN (PD 9 ?_);refine PD 10 ?_
 refine PD 11 ?_;refine PD 12 ?_;refine PD 13 ?_;refine DN (ac J15 (aa λ_ J16=>sr λ_ J17=>FA 0 eI aO ?_));refine LT 2 Y3 (.int .i64 5) ?_ (hc:=by exact cB _ rfl);refine P3 ?_;refine PS ?_;refine P3 ?_;refine FA 2 eI aO ?_;refine LT 2 Y3 (.int .i64 (((j:Nat):Int))) ?_ (hc:=by exact gN _ rfl);refine CE Bt (rz c n j D M P hj d r s.e.D hD hM) (SM [3,3]) ?_;refine bc ?_ ?_<;>intro h64;refine PS ?_;refine PS ?_;refine nx J17 (CN (qx J16 (sr λ_ J18=>PS ?_)));refine CF N3 (B9 uv (dP m)) ID (zR 3 rfl rfl) ?_;refine P3 ?_;refine XZ lX (ints MsgT.zero.flat) λb8=>?_
 refine SW 0 cf aG ?_;refine PS ?_;refine nx J18 (aa λ_ J19=>sr λ_ J20=>P2 ?_);refine ao ?_ ?_<;>intro h73;refine nx J20 (CY (oX (λw=>Frm F w∧w.heap[b3]?=some (.cells (ints (OpT.mk 5 ((i:Nat):Int) ((j:Nat):Int) o.key o.n o.change o.mask o.torn o.cut).flat).toArray 63 (0,0))∧w.heap[c]?=some (.cells (eG n D M P).toArray 73 (0,0))∧w.heap[b8]?=some (.cells (ints ((jr (dP m)).1).flat).toArray 163 (0,0))∧True) cN rfl (λ_ s=>⟨dG s,s.block 5 (lb rfl) rfl,s.block 1 (lb rfl) rfl,s.block 0 (lb rfl) rfl,trivial⟩) (PD 0 ?_)));refine FD 1 2 eI aO ?_;refine LX 2 Y3 (.int .i64 (((j:Nat):Int))) ?_ (hc:=by exact gN _ rfl);refine PD 3 ?_;refine FD 4 6 oV oL ?_;refine IY 5 (6+j) qd gY ?_;refine LX 6 nS (.pointer (some ⟨r,0,none⟩)) ?_ (hc:=by exact(wR n D M P hj).trans (congrArg some hM));refine PD 7 ?_;refine FD 8 2 eI aO ?_;refine LX 9 Y3 (.int .i64 (((j:Nat):Int))) ?_ (hc:=by exact gN _ rfl);refine ta 10 rfl (jF (cells:=#[(.pointer (some ⟨c,0,none⟩)),(.int .i64 (((j:Nat):Int)))]) rfl rfl (by as_aux_lemma=>kernel_rfl)) ?_;refine ta 11 rfl (oQ rfl Em rfl rfl) ?_;refine FD 12 1 eI aO ?_;refine LX 13 Y3 (.int .i64 (((i:Nat):Int))) ?_ (hc:=by exact bM _ rfl);refine LY 14 bd cf aG ?_;refine AL 15 ?_
 refine ce (H':=[cH (wK c n d j D M P hj hD (W.set (bD ((i:Nat):Int) ((j:Nat):Int)) l2) (by rw[iG];exact hW)) r s,aj b8 (ints ((jr (dP m)).1).flat) 163,gz uv (dP m) 5,aj b3 (ints (OpT.mk 5 ((i:Nat):Int) ((j:Nat):Int) o.key o.n o.change o.mask o.torn o.cut).flat) 63]) (λ_ q=>Dt ho (aA [1,1,1,3] rfl q)) (CZ Mj (@zg _ (wK c n d j D M P hj hD (W.set (bD ((i:Nat):Int) ((j:Nat):Int)) l2) (by rw[iG];exact hW)) r s ((i:Nat):Int) (jr (dP m)).1 hs (EZ _) hto hrs) ID λvR=>?_);change TL _ _ _ _ _ _ _ _ _ [cH (wK c n d j D M P hj hD (W.set (bD ((i:Nat):Int) ((j:Nat):Int)) l2) (by rw[iG];exact hW)) r (gk KD s ((i:Nat):Int) (jr (dP m)).1),aj b8 (ints ((jr (dP m)).1).flat) 163,gz uv (dP m) 5,aj b3 (ints (OpT.mk 5 ((i:Nat):Int) ((j:Nat):Int) o.key o.n o.change o.mask o.torn o.cut).flat) 63];refine ce (H':=[aj c (eG n D M P) 73,dk d ((gk KD s ((i:Nat):Int) (jr (dP m)).1).e.D),eg 135 184 5 n (cK (gR (W.set (bD ((i:Nat):Int) ((j:Nat):Int)) l2) j (gk KD s ((i:Nat):Int) (jr (dP m)).1).o)),fA ((gk KD s ((i:Nat):Int) (jr (dP m)).1).hush) d r,aj b8 (ints ((jr (dP m)).1).flat) 163,gz uv (dP m) 5,aj b3 (ints (OpT.mk 5 ((i:Nat):Int) ((j:Nat):Int) o.key o.n o.change o.mask o.torn o.cut).flat) 63]) (λ_ q=>zL (s:=(gk KD s ((i:Nat):Int) (jr (dP m)).1)) q) (EN (DN (ac J19 (sr λ_ J21=>P2 ?_))));refine nx J21 (ah (WK [0,0,0,0] (av rfl rfl ?_)))
 exact .inr (.inr ⟨(by simpa using h64),h73,(by rw[h73]),rfl⟩);refine nx J20 (CN (qx J19 (sr λ_ J22=>P2 ?_)));refine nx J22 (ah (WK [1,1,1,3] (av rfl rfl ?_)));exact .inr (.inl ⟨(by simpa using h64),h73,rfl,rfl⟩);refine PS ?_;refine PS ?_;refine nx J17 (CY (sr λ_ J23=>PS ?_));refine nx J23 (ah (ae (WK [0,0,0,2] (av rfl rfl ?_))));exact .inl ⟨(by simpa using h64),rfl,rfl⟩
end Go.Proofs.YtfocodjhmkokpaaGreatDoor
end

section
namespace Api
open Go Leg Codec Dsk Wal
class GdM(m:MsgT):Prop where
 kind:0≤m.kind∧m.kind≤9
class GdL(l:List SaidT):Prop where
 all: ∀x∈l,0≤x.msg.kind∧x.msg.kind≤9
theorem Im(n:Int):0< (uz n).length:=pF _
theorem BS(n:Int)(l:List Int):0< (bl (n::l)).length:=by
 show 0< (uz n++bl l).length;rw[ag];have:=Im n;omega
theorem Ll{m:MsgT}(h:0≤m.kind∧m.kind≤9):0< (dP m).length:=by
 have p: ∀(l:List Int) (r:List UInt8),0< (bl (m.kind::l)++r).length:=λl r=>by rw[ag];have:=BS m.kind l;omega
 unfold dP;split
 · exact p _ _
 rename_i h0;split
 · exact BS _ _
 split
 · exact p _ _
 rename_i h3;split
 · rw[aZ,aZ];exact p _ _
 split
 · rw[aZ];exact p _ _
 split
 · exact p _ _
 split
 · exact p _ _
 · exfalso
   simp only[e7,ff,decide_eq_true_eq]at h0 h3;omega
instance (v:Int):GdM (se v):=⟨(by decide:(0:Int)≤1∧(1:Int)≤9)⟩
instance (i:Int)(y:RowT):GdM (rW i y):=⟨(by decide:(0:Int)≤2∧(2:Int)≤9)⟩
instance (v:ViewT):GdM (jJ v):=⟨(by decide:(0:Int)≤7∧(7:Int)≤9)⟩
instance (i:Int)(v:ViewT):GdM (n4 i v):=⟨(by decide:(0:Int)≤8∧(8:Int)≤9)⟩
instance (i:Int)(y:RowT):GdM (gS i y):=⟨(by decide:(0:Int)≤9∧(9:Int)≤9)⟩
instance (e:Int)(b:BallotT):GdM (fx e b):=⟨(by decide:(0:Int)≤3∧(3:Int)≤9)⟩
instance (e:Int)(b h:BallotT)(c:ChangeT):GdM (kr e b h c):=⟨(by decide:(0:Int)≤4∧(4:Int)≤9)⟩
instance (e:Int)(b:BallotT)(c:ChangeT):GdM (iK e b c):=⟨(by decide:(0:Int)≤5∧(5:Int)≤9)⟩
instance (e:Int)(b:BallotT):GdM (ju e b):=⟨(by decide:(0:Int)≤6∧(6:Int)≤9)⟩
instance (t:Int)(m:MsgT)[h:GdM m]:GdL [⟨t,m⟩]:=⟨λx hx=>by rw[im]at hx;subst hx;exact h.kind⟩
instance (i:Int)(m:MsgT)(p:Nat→Bool)(k:Nat)[h:GdM m]:GdL (nA i m p k):=⟨λx hx=>by
 unfold nA at hx;obtain⟨j,_,rfl⟩:=fT.1 hx
 exact h.kind⟩
instance (x:RepT):GdL (pg x):=⟨λs hs=>by
 unfold pg at hs;rw[fT]at hs;obtain⟨w,_,rfl⟩:=hs
 exact(show(0:Int)≤0∧(0:Int)≤9 by decide)⟩
section
variable {δ:Type} {K:Dk δ} {s0 s:MS δ}
class Qt(s0 s:MS δ):Prop where
 id:s.id=s0.id
 replies:s.replies=s0.replies
 ops:s.ops=s0.ops
 waits:s.waits=s0.waits∨s.waits=0
 o: ∃l,s.o=s0.o++l∧∀x∈l,0≤x.msg.kind∧x.msg.kind≤9
instance Qt.rfl':Qt s s:=⟨rfl,rfl,rfl, .inl rfl,[],(a8 _).symm,λ_ h=>by cases h⟩
theorem Qt.trans{a b c:MS δ}(h:Qt a b)(g:Qt b c):Qt a c:=by
 obtain⟨l,e,hl⟩:=h.o;obtain⟨l2,e2,hl2⟩:=g.o;exact⟨g.id.trans h.id,g.replies.trans h.replies,g.ops.trans h.ops,g.waits.elim (λq=>h.waits.imp (q.trans ·) (q.trans ·)) .inr,l++l2,by rw[e2,e,aZ],λx hx=>(fz.1 hx).elim (hl x) (hl2 x)⟩
theorem Qt.same{t:MS δ}(h:Qt s0 s)(h1:t.id=s.id)(h2:t.replies=s.replies)(h3:t.ops=s.ops)(h4:t.waits=s.waits)(h5:t.o=s.o):Qt s0 t:=
 ⟨h1.trans h.id,h2.trans h.replies,h3.trans h.ops,by rw[h4];exact h.waits,by rw[h5];exact h.o⟩
instance [h:Qt s0 s](l:List SaidT)[g:GdL l]:Qt s0 (iA K s l):=by
 refine h.trans ⟨rfl,rfl,rfl, .inl rfl,?_⟩
 by_cases q:K.dn s.e=true
 · exact⟨[],by rw[iA,if_pos q,a8],λ_ h=>by cases h⟩
 · exact⟨l,by rw[iA,if_neg q],g.all⟩
instance [h:Qt s0 s](t:Int)(m:MsgT)[GdM m]:Qt s0 (Da K s t m):=inferInstanceAs (Qt s0 (iA K s _))
instance [h:Qt s0 s](r:RecT):Qt s0 (dZ K s r):=h.same rfl rfl rfl rfl rfl
instance [h:Qt s0 s](f:Int):Qt s0 (iz s f):=h.same rfl rfl rfl rfl rfl
instance [h:Qt s0 s](w:Int)(x:RowT):Qt s0 (E9 s w x):=h.same rfl rfl rfl rfl rfl
instance [h:Qt s0 s]:Qt s0 (gD s):=h.same rfl rfl rfl rfl rfl
instance [h:Qt s0 s](w:Int)(x:RowT):Qt s0 (ix s w x):=h.same rfl rfl rfl rfl rfl
instance [h:Qt s0 s](w:Int):Qt s0 (lL s w):=h.same rfl rfl rfl rfl rfl
instance [h:Qt s0 s](x:RowT):Qt s0 (tZ s x 0):=⟨h.id,h.replies,h.ops, .inr rfl,h.o⟩
instance [Qt s0 s]:Qt s0 (fk K s):=inferInstanceAs (Qt s0 (iA K s _))
instance [Qt s0 s](y:RowT):Qt s0 (mi K s y):=inferInstanceAs (Qt s0 (iA K s _))
instance [Qt s0 s](v:ViewT):Qt s0 (nr K s v):=inferInstanceAs (Qt s0 (iA K s _))
instance [Qt s0 s](m:MsgT)[GdM m]:Qt s0 (jq K s m):=inferInstanceAs (Qt s0 (iA K s _))
instance [Qt s0 s](x:RowT):Qt s0 (eS K s x 0).1:=by unfold eS;split<;>exact inferInstance
instance [h:Qt s0 s]:Qt s0 (mN K s):=by
 unfold mN;split
 · exact h
 split
 · exact inferInstance
 · exact h
instance [h:Qt s0 s](f:Int)(m:MsgT):Qt s0 (iI K s f m):=by
 unfold iI
 repeat' split
 all_goals exact inferInstance
instance [h:Qt s0 s](w:Int)(x:RowT):Qt s0 (lr s w x):=h.same rfl rfl rfl rfl rfl
instance [h:Qt s0 s](f w:Int)(y:RowT):Qt s0 (vd s f w y):=h.same rfl rfl rfl rfl rfl
instance [h:Qt s0 s](f:Int)(m:MsgT):Qt s0 (fX K s f m):=by unfold fX;split<;>exact inferInstance
theorem pm[Qt s0 s]{f:MS δ→MS δ}(hf:Qt s0 (f s))(t:Int)(m:MsgT)[GdM m]:Qt s0 (m4 K f s t m):=by unfold m4;split;exact hf;exact inferInstance
instance [h:Qt s0 s](f w:Int):Qt s0 (fu K s f w):=by
 unfold fu
 repeat' split
 · exact h
 · exact pm inferInstance _ _
 · exact inferInstance
 · exact pm inferInstance _ _
instance [h:Qt s0 s](i w:Int):Qt s0 (gW K s i w):=by
 unfold gW;split
 · exact h
 · exact pm inferInstance _ _
instance [Qt s0 s](i:Int):Qt s0 (pK K s i):=by unfold pK;exact inferInstance
theorem yO: ∀(l:List Int) (s:MS δ),Qt s0 s→Qt s0 (fW K l s)
 | [],_,h=>h
 |i::l,s,h=>yO l (pK K s i) inferInstance
instance [h:Qt s0 s]:Qt s0 (qW K s):=yO _ _ h
instance [h:Qt s0 s](v:ViewT):Qt s0 (mL s v):=h.same rfl rfl rfl rfl rfl
instance [h:Qt s0 s](v:ViewT):Qt s0 (hO K s v):=by
 unfold hO
 repeat' split
 all_goals exact inferInstance
instance [h:Qt s0 s](f:Int)(m:MsgT):Qt s0 (mj K s f m):=by unfold mj;exact inferInstance
instance [h:Qt s0 s](c:ChangeT):Qt s0 (kX K s c):=by
 unfold kX
 repeat' split
 all_goals exact inferInstance
instance [h:Qt s0 s](n:Int):Qt s0 (de s n):=h.same rfl rfl rfl rfl rfl
instance [h:Qt s0 s](v:VoteT):Qt s0 (kZ s v):=h.same rfl rfl rfl rfl rfl
instance [h:Qt s0 s](a:AccT):Qt s0 (w7 s a):=h.same rfl rfl rfl rfl rfl
instance [h:Qt s0 s](f:Int)(m:MsgT):Qt s0 (k8 K f m s):=by
 unfold k8;split
 · exact h
 · split<;>exact inferInstance
theorem rl[h:Qt s0 s]{f:MS δ→MS δ}(hf: ∀s:MS δ,Qt s0 s→Qt s0 (f s))(w:Int)(m:MsgT):Qt s0 (eL K f s w m):=by
 unfold eL
 repeat' split
 · exact inferInstance
 · exact h
 · exact h
 · exact hf _ inferInstance
instance [Qt s0 s](w:Int)(m:MsgT):Qt s0 (qD K s w m):=rl (λ_ _=>inferInstance) w m
instance [h:Qt s0 s](w:Int)(m:MsgT):Qt s0 (nz K w m s):=by unfold nz;exact pm inferInstance _ _
instance [h:Qt s0 s](w:Int)(m:MsgT):Qt s0 (oC K w m s):=by
 unfold oC
 repeat' split
 all_goals exact inferInstance
instance [Qt s0 s](w:Int)(m:MsgT):Qt s0 (sR K s w m):=rl (λ_ _=>inferInstance) w m
theorem tM[h:Qt s0 s]{f:MS δ→MsgT→MS δ}{m:MsgT}[GdM m](hf: ∀s:MS δ,Qt s0 s→Qt s0 (f s m)):Qt s0 (jw K f s m):=by
 unfold jw;split
 · exact hf _ inferInstance
 · exact inferInstance
instance [h:Qt s0 s](vt:VoteT):Qt s0 (ku K s vt):=tM λ_ _=>inferInstance
instance [h:Qt s0 s](f:Int)(m:MsgT):Qt s0 (pa K f m s):=by
 unfold pa;split
 · exact h
 · split<;>exact inferInstance
instance [Qt s0 s](w:Int)(m:MsgT):Qt s0 (qF K s w m):=rl (λ_ _=>inferInstance) w m
instance [h:Qt s0 s](w:Int)(m:MsgT)(a:AccT):Qt s0 (nM K w m a s):=by unfold nM;exact pm inferInstance _ _
instance [h:Qt s0 s](w:Int)(m:MsgT):Qt s0 (pN K w m s):=by
 unfold pN
 repeat' split
 all_goals exact inferInstance
instance [Qt s0 s](w:Int)(m:MsgT):Qt s0 (sS K s w m):=rl (λ_ _=>inferInstance) w m
instance [h:Qt s0 s](vt:VoteT):Qt s0 (mC K s vt):=tM λ_ _=>inferInstance
instance [h:Qt s0 s](vt:VoteT):Qt s0 (oD K s vt):=by unfold oD;split<;>exact inferInstance
instance [h:Qt s0 s](c:ChangeT):Qt s0 (qZ K s c):=by unfold qZ;exact inferInstance
instance [h:Qt s0 s](c:ChangeT):Qt s0 (cG K s c).1:=by
 unfold cG
 repeat' split
 all_goals exact inferInstance
instance [h:Qt s0 s]:Qt s0 (bX K s):=by unfold bX;split<;>exact inferInstance
instance [h:Qt s0 s]:Qt s0 (ck K s):=by unfold ck;split<;>exact inferInstance
instance [h:Qt s0 s]:Qt s0 (fY K s):=by unfold fY;split<;>exact inferInstance
instance [h:Qt s0 s]:Qt s0 (rD K s):=by
 unfold rD;split
 · exact h
 · repeat' split
   all_goals exact inferInstance
instance [h:Qt s0 s]:Qt s0 (iw K s):=by unfold iw;split<;>exact inferInstance
structure Rp(s0 s:MS δ)(l:List ReplyT):Prop where
 id:s.id=s0.id
 replies:s.replies=s0.replies++l
 o: ∃l,s.o=s0.o++l∧∀x∈l,0≤x.msg.kind∧x.msg.kind≤9
theorem Qt.rp(h:Qt s0 s):Rp s0 s []:=⟨h.id,by rw[h.replies,a8],h.o⟩
theorem Rp.then{l:List ReplyT}{t:MS δ}(h:Rp s0 s l)(g:Qt s t):Rp s0 t l:=by
 obtain⟨l1,e,hl⟩:=h.o;obtain⟨l2,e2,hl2⟩:=g.o;exact⟨g.id.trans h.id,g.replies.trans h.replies,l1++l2,by rw[e2,e,aZ],λx hx=>(fz.1 hx).elim (hl x) (hl2 x)⟩
theorem Hh(s:MS δ)(f:Int)(m:MsgT):Qt s (dF K s f m)∨(0<s.waits∧Rp s (dF K s f m) [⟨s.waits,0,0⟩]∧(dF K s f m).waits=0∧(dF K s f m).ops=s.ops):=by
 unfold dF;split
 · split
   · by_cases hw:0<s.waits
     · right
       have e:lR (gD (iz s f))= {dA (gD (iz s f)) s.waits 0 0 with waits:=0}:=ya (s:=gD (iz s f)) hw;have q:Qt (lR (gD (iz s f))) (lw K (iz s f)):=by unfold lw;exact inferInstance
       have hw0:(lR (gD (iz s f))).waits=0:=by rw[e]
       refine⟨hw,Rp.then (s:=lR (gD (iz s f))) ?_ q,(q.waits.elim (·.trans hw0) id),q.ops.trans (by rw[e];rfl)⟩;rw[e];exact⟨rfl,rfl,[],(a8 _).symm,λ_ h=>by cases h⟩
     · left
       unfold lw;rw[yb (s:=gD (iz s f)) hw];exact inferInstance
   · left;exact inferInstance
 · left;exact inferInstance
theorem Ja(s:MS δ)(f:Int)(m:MsgT):Qt s (gk K s f m)∨(0<s.waits∧Rp s (gk K s f m) [⟨s.waits,0,0⟩]∧(gk K s f m).waits=0∧(gk K s f m).ops=s.ops):=by
 unfold gk
 by_cases h1:m.kind=1
 · rw[if_neg (by omega),if_pos h1];exact Hh s f m
 · left
   rw[if_neg h1]
   repeat' split
   all_goals exact inferInstance
theorem JH(s:MS δ)(x:RowT)(op:Int):((eS K s x op).2≠0∧Qt s (eS K s x op).1)∨((eS K s x op).2=0∧Rp s (eS K s x op).1 []∧(eS K s x op).1.waits=op∧(eS K s x op).1.ops=s.ops):=by
 unfold eS;split
 · rename_i h;exact .inl ⟨h,inferInstance⟩
 · right
   have q:Qt (tZ (dZ K s (kn x)) x op) (fk K (tZ (dZ K s (kn x)) x op)):=inferInstance;refine⟨rfl,Rp.then (s:=tZ (dZ K s (kn x)) x op) ⟨rfl,(a8 _).symm,[],(a8 _).symm,λ_ h=>by cases h⟩ q,?_,q.ops⟩;show(fk K _).waits=_;rfl
theorem GJ(s:MS δ)(o:OpT):(∃e v,Rp s (cj K s o).1 [⟨gm (s.ops+1),e,v⟩]∧(cj K s o).2=e∧(cj K s o).1.ops=gm (s.ops+1)∧((cj K s o).1.waits=s.waits∨(cj K s o).1.waits=0))∨(Rp s (cj K s o).1 []∧(cj K s o).2=0∧(cj K s o).1.ops=gm (s.ops+1)∧(cj K s o).1.waits=gm (s.ops+1)):=by
 have e0:Rp s (bQ s) []:=⟨rfl,(a8 _).symm,[],(a8 _).symm,λ_ h=>by cases h⟩
 have rep: ∀(t:MS δ) (op e v:Int),Qt (bQ s) t→op=gm (s.ops+1)→Rp s (dA t op e v) [⟨gm (s.ops+1),e,v⟩]∧(dA t op e v).ops=gm (s.ops+1)∧((dA t op e v).waits=s.waits∨(dA t op e v).waits=0):=λt op e v h ho=>by
  subst ho;obtain⟨l,e1,hl⟩:=h.o;exact⟨⟨h.id,by show t.replies++_=_;rw[h.replies];rfl,l,e1,hl⟩,h.ops,h.waits⟩
 unfold cj;split
 · left
   unfold dW;split
   · obtain⟨a,b,c⟩:=rep (bQ s) _ (fK (bQ s) o.change) 0 inferInstance rfl
     exact⟨_,_,a,rfl,b,c⟩
   · split
     · obtain⟨a,b,c⟩:=rep (cG K (bQ s) o.change).1 _ (cG K (bQ s) o.change).2 0 inferInstance rfl
       exact⟨_,_,a,rfl,b,c⟩
     · obtain⟨a,b,c⟩:=rep (cG K (bQ s) o.change).1 _ 0 0 inferInstance rfl
       have q:Qt (dA (cG K (bQ s) o.change).1 (bQ s).ops 0 0) (oD K (dA (cG K (bQ s) o.change).1 (bQ s).ops 0 0) (jO (bQ s).view (eC (bQ s)) o.change)):=inferInstance;exact⟨_,_,a.then q,rfl,q.ops.trans b,q.waits.elim (λw=>c.imp (w.trans ·) (w.trans ·)) .inr⟩
 · unfold ow
   split
   · left
     obtain⟨a,b,c⟩:=rep (bQ s) _ (db (bQ s) o).2.2 (db (bQ s) o).2.1 inferInstance rfl;exact⟨_,_,a,rfl,b,c⟩
   · rcases JH (K:=K) (bQ s) (db (bQ s) o).1 (bQ s).ops with⟨h,q⟩| ⟨h,q,hw,ho⟩
     · rw[if_pos h]
       left;obtain⟨a,b,c⟩:=rep _ _ (eS K (bQ s) (db (bQ s) o).1 (bQ s).ops).2 0 q rfl;exact⟨_,_,a,rfl,b,c⟩
     · rw[if_neg (by omega)]
       right;obtain⟨l,e1,hl⟩:=q.o;exact⟨⟨q.id,q.replies,l,e1,hl⟩,rfl,ho,hw⟩
end
def Slot.pend(x:Slot):Nat:=match x.run with
 |some s=>if 0<s.waits then 1 else 0
 |none=>0
structure SlotOk(i n:Nat)(x:Slot):Prop where
 run: ∀s,x.run=some s→OkR KD s∧s.id=((i:Nat):Int)∧s.o=[]
 D:x.run=none→DkOk x.D
 reps:x.reps.length+x.pend≤n
structure CLOk(n:Nat)(a:CL):Prop where
 ms:a.ms.length=5
 W:a.W.length=25
 at': ∀i,i<5→SlotOk i n (a.at' i)
 way: ∀k,(a.W.getD k []).length≤8∧∀m∈a.W.getD k [],0< (dP m).length
structure OkOp(o:OpT):Prop where
 change:OkCh o.change
 n:o.n≤9223372036854775807
theorem SlotOk.dk{i n:Nat}{x:Slot}(h:SlotOk i n x):DkOk x.dk:=by
 unfold Slot.dk;split
 · rename_i s q;exact(h.run s q).1.e.dk
 · rename_i q;exact h.D q
theorem SlotOk.more{i n k:Nat}{x:Slot}(h:SlotOk i n x)(hk:n≤k):SlotOk i k x:=⟨h.run,h.D,re h.reps hk⟩
theorem CLOk.more{n k:Nat}{a:CL}(h:CLOk n a)(hk:n≤k):CLOk k a:=⟨h.ms,h.W,λi hi=>(h.at' i hi).more hk,h.way⟩
theorem wZ{ms:List Slot}{W:List (List MsgT)}{i:Nat}{x:Slot}(h:i<ms.length):(CL.mk (ms.set i x) W).at' i=x:=by
 unfold CL.at';rw[List.getD_eq_getElem?_getD,List.getElem?_set_self h];rfl
theorem w3{ms:List Slot}{W:List (List MsgT)}{i j:Nat}{x:Slot}(h:j≠i):(CL.mk (ms.set i x) W).at' j=ms.getD j .nil:=by
 unfold CL.at';rw[List.getD_eq_getElem?_getD,List.getElem?_set_ne (λe=>h e.symm),←List.getD_eq_getElem?_getD]
theorem CLOk.put{n k i:Nat}{a:CL}(h:CLOk n a)(hk:n≤k)(hi:i<5){x:Slot}(hx:SlotOk i k x){W:List (List MsgT)}(hW:W.length=25)(hw: ∀k,(W.getD k []).length≤8∧∀m∈W.getD k [],0< (dP m).length):CLOk k ⟨a.ms.set i x,W⟩:=
 ⟨by show(a.ms.set i x).length=5;rw[iG];exact h.ms,hW,λj hj=>by
  by_cases q:j=i
  · subst q;rw[wZ (by rw[h.ms];exact hi)];exact hx
  · rw[w3 q];exact(h.at' j hj).more hk,hw⟩
theorem Jk{W:List (List MsgT)}(hw: ∀k,(W.getD k []).length≤8∧∀m∈W.getD k [],0< (dP m).length)(f:Nat)(s:SaidT)(hs:0< (dP s.msg).length): ∀k,((rS W f s).getD k []).length≤8∧∀m∈(rS W f s).getD k [],0< (dP m).length:=λk=>by
 unfold rS;split
 · by_cases q:k=bD ((f:Nat):Int) s.to'
   · subst q
     by_cases hl:bD ((f:Nat):Int) s.to'<W.length
     · rw[List.getD_eq_getElem?_getD,List.getElem?_set_self hl]
       obtain⟨h1,h2⟩:=hw (bD ((f:Nat):Int) s.to');simp only[Option.getD_some];split
       · refine⟨by rw[ag,gh];omega,λm hm=>?_⟩
         rcases fz.1 hm with hm|hm
         · exact h2 m hm
         · rw[im]at hm;subst hm;exact hs
       · exact⟨h1,h2⟩
     · rw[OR (by omega)];exact hw _
   · rw[List.getD_eq_getElem?_getD,List.getElem?_set_ne (λe=>q e.symm),←List.getD_eq_getElem?_getD];exact hw k
 · exact hw k
theorem A4(f:Nat): ∀(l:List SaidT) {W:List (List MsgT)},(∀x∈l,0< (dP x.msg).length)→(∀k,(W.getD k []).length≤8∧∀m∈W.getD k [],0< (dP m).length)→∀k,((gR W f l).getD k []).length≤8∧∀m∈(gR W f l).getD k [],0< (dP m).length
 | [],_,_,hw=>hw
 |s::l,W,hl,hw=>A4 f l (W:=rS W f s) (λx hx=>hl x (List.mem_cons_of_mem _ hx)) (Jk hw f s (hl s (mW ..)))
theorem Bi(W:List (List MsgT))(f:Nat)(s:SaidT):(rS W f s).length=W.length:=by unfold rS;split<;>simp
theorem rJ(f:Nat): ∀(l:List SaidT) (W:List (List MsgT)),(gR W f l).length=W.length
 | [],_=>rfl
 |s::l,W=>(rJ f l _).trans (Bi W f s)
theorem JG{s:MS LD}(h:OkR KD s):OkR KD s.hush:=⟨h.e,h.id,h.view,h.own,h.mir,h.book,h.last,h.acc,h.vote⟩
def owe(s:MS LD):Nat:=if 0<s.waits then 1 else 0
theorem CLOk.did{n i k:Nat}{a:CL}(h:CLOk n a)(hk:n≤k)(hi:i<5){s s':MS LD}(hs:(a.at' i).run=some s)(h':OkR KD s'){l:List ReplyT}(r:Rp s s' l)(hl:l.length+owe s'+n≤k+owe s):CLOk k (a.did i s'):=by
 obtain⟨h1,h2,h3⟩:=(h.at' i hi).run s hs;obtain⟨lo,e,hlo⟩:=r.o;rw[h3,ca]at e;refine h.put hk hi ⟨λt q=>?_,(λq=>by cases q),?_⟩ (by rw[rJ];exact h.W) (A4 i _ (λx hx=>Ll (hlo x (by rw[←e];exact hx))) h.way)
 · obtain rfl:=dK q
   exact⟨JG h',r.id.trans h2,rfl⟩
 · have:=(h.at' i hi).reps
   unfold Slot.reps Slot.pend at this ⊢;rw[hs]at this;show((a.at' i).past++s'.replies).length+(if 0<s'.waits then 1 else 0)≤k;rw[r.replies];unfold owe at hl;simp only[ag]at this ⊢;omega
theorem Qt.owe{s s':MS LD}(q:Qt s s'):Api.owe s'≤Api.owe s:=by
 unfold Api.owe;rcases q.waits with e|e
 · rw[e];exact aQ _
 · rw[e];exact aN _
theorem Mb(s:MS LD):owe s≤1:=by unfold owe;split<;>omega
theorem CLOk.quiet{n i:Nat}{a:CL}(h:CLOk n a)(hi:i<5){s s':MS LD}(hs:(a.at' i).run=some s)(h':OkR KD s')(q:Qt s s'):CLOk n (a.did i s'):=
 h.did (aQ _) hi hs h' q.rp (by have:=q.owe;show 0+_+n≤_;omega)
theorem CLOk.onway{n k:Nat}{a:CL}(h:CLOk n a){l:List MsgT}(hl:l.length≤8∧∀m∈l,0< (dP m).length):CLOk n (a.way k l):=
 ⟨h.ms,by show(a.W.set k l).length=25;rw[iG];exact h.W,h.at',λj=>by
  show((a.W.set k l).getD j []).length≤8∧_
  by_cases q:j=k
  · subst q
    by_cases hk:j<a.W.length
    · show((a.W.set j l).getD j []).length≤8∧∀m∈(a.W.set j l).getD j [],_
      rw[List.getD_eq_getElem?_getD,List.getElem?_set_self hk];exact hl
    · show((a.W.set j l).getD j []).length≤8∧∀m∈(a.W.set j l).getD j [],_
      rw[OR (by omega)];exact h.way j
  · show((a.W.set k l).getD j []).length≤8∧∀m∈(a.W.set k l).getD j [],_
    rw[List.getD_eq_getElem?_getD,List.getElem?_set_ne (λe=>q e.symm),←List.getD_eq_getElem?_getD];exact h.way j⟩
theorem nF{w:Int}(h:iy w=true):w.toNat<5∧((w.toNat:Nat):Int)=w:=by
 have:0≤w∧w<5:=of_decide_eq_true h;omega
theorem JO{n f t:Nat}{a:CL}(h:CLOk n a)(ht:t<5)(m:MsgT):CLOk n (wQ a f t m).1:=by
 unfold wQ;split
 · exact h
 · rename_i s hs
   split
   · exact h
   · split
     · obtain⟨h1,_,_⟩:=(h.at' t ht).run s hs
       have hm:=EZ (dP m);rcases Ja (K:=KD) s ((f:Nat):Int) (jr (dP m)).1 with q| ⟨hw,q,q2,_⟩
       · exact h.quiet ht hs inferInstance q
       · refine h.did (aQ _) ht hs inferInstance q ?_
         unfold owe;rw[q2,if_pos hw];show 1+(if(0:Int)<0 then 1 else 0)+n≤n+1;rw[if_neg (by omega)];omega
     · exact h
theorem KK{n:Nat}{a:CL}(h:CLOk n a)(o:OpT):CLOk n (o8 a o).1:=by
 unfold o8;split
 · exact h
 · rename_i hv
   have hv:dz o.at' o.to'=true:=by simpa using hv
   have hw:=h.way (bD o.at' o.to');split
   · exact h
   · rename_i m l hl
     rw[hl]at hw;split
     · split
       · refine h.onway ⟨?_,λx hx=>?_⟩
         · rename_i q
           unfold Hb at q;have q:=of_decide_eq_true q;unfold CK;rw[if_pos q,ag,gh];omega
         · unfold CK at hx
           split at hx
           · rcases fz.1 hx with hx|hx
             · exact hw.2 x hx
             · rw[im]at hx;subst hx;exact hw.2 _ (mW ..)
           · exact hw.2 x hx
       · exact h
     · split
       · exact h
       · rename_i m2 l2 hl2
         have hlen:=jR (max o.n 0% ((m::l).length:Int)).toNat (m::l);have hmem:=λx=>(nV (x:=x) (max o.n 0% ((m::l).length:Int)).toNat (m::l)).1
         rw[hl2]at hlen hmem;have g:CLOk n (a.way (bD o.at' o.to') l2):=h.onway ⟨by simp only[aw]at hlen hw;omega,λx hx=>hw.2 x (hmem x (List.mem_cons_of_mem _ hx))⟩
         have ht:o.to'.toNat<5:=by
          unfold dz at hv;rw[au,au]at hv;exact(nF hv.1.2).1
         split
         · exact g
         · exact JO g ht m2
theorem AP{n i:Nat}(hi:i<5){x:Slot}(h:SlotOk i n x):SlotOk i n (jT i x).1:=by
 unfold jT;split
 · exact h
 · rename_i hr
   have hD:=h.D hr;refine⟨λs q=>?_,λ_=>hD.open.1,?_⟩
   · obtain⟨h1,f⟩:=yg hi hD q
     exact⟨h1,f.id,f.o⟩
   · have:=h.reps
     unfold Slot.reps Slot.pend at this ⊢;rw[hr,a8]at this;show(x.past++match(eu i x.D).1 with|some s=>s.replies|none=>[]).length+(match(eu i x.D).1 with|some s=>if 0<s.waits then 1 else 0|none=>0)≤n;cases q:(eu i x.D).1 with
     |some s=>
      have f:=(yg hi hD q).2;simp only[f.replies,f.waits,a8]
      simpa using this
     |none=>simpa using this
theorem Lr{n i:Nat}{x:Slot}(h:SlotOk i n x){k:Int}(hk:k≤9223372036854775807):SlotOk i n (xK x k):=by
 unfold xK;split
 · rename_i s hs
   obtain⟨h1,h2,h3⟩:=h.run s hs;refine⟨λt q=>?_,(λq=>by cases q),?_⟩
   · obtain rfl:=dK q
     exact⟨⟨⟨h1.e.dk.arm k hk,h1.e.used,h1.e.cnt⟩,h1.id,h1.view,h1.own,h1.mir,h1.book,h1.last,h1.acc,h1.vote⟩,h2,h3⟩
   · have:=h.reps
     unfold Slot.reps Slot.pend at this ⊢;rw[hs]at this;exact this
 · rename_i hr
   refine⟨λt q=>?_,λ_=>(h.D hr).arm k hk,?_⟩
   · rw[show x.run=some t from q]at hr;cases hr
   · have:=h.reps
     unfold Slot.reps Slot.pend at this ⊢;rw[hr]at this;simp only[hr];exact this
theorem crash_ok{n i:Nat}{x:Slot}(h:SlotOk i n x)(mask torn cut:Int):SlotOk i n (nh x mask torn cut):=
 ⟨(λt q=>by cases q),λ_=>h.dk.crash mask torn cut,by
  have:=h.reps;show(x.reps++[]).length+0≤n
  rw[a8];omega⟩
theorem DU{n:Nat}{a:CL}(h:CLOk n a){o:OpT}(ho:OkOp o)(hk: ¬(0≤o.kind∧o.kind≤4)):CLOk n (uA a o).1:=by
 unfold uA;split
 · exact h
 rename_i hm;have hm:iy o.at'=true:=by simpa using hm
 have hi:=(nF hm).1;split
 · exact KK h o
 split
 · unfold Ft
   split
   · exact h
   · rename_i s hs
     split
     · exact h
     · obtain⟨h1,_,_⟩:=(h.at' _ hi).run s hs
       exact h.quiet hi hs inferInstance inferInstance
 split
 · exact h.put (aQ _) hi (Lr (h.at' _ hi) ho.n) h.W h.way
 split
 · exact h.put (aQ _) hi (crash_ok (h.at' _ hi) _ _ _) h.W h.way
 split
 · exact h.put (aQ _) hi (AP hi (h.at' _ hi)) h.W h.way
 · exact h
theorem B3{n:Nat}{a:CL}(h:CLOk n a){o:OpT}(ho:OkOp o):CLOk (n+1) (uA a o).1:=by
 by_cases hk:0≤o.kind∧o.kind≤4
 · unfold uA
   split
   · exact h.more (by omega)
   rename_i hm;have hm:iy o.at'=true:=by simpa using hm
   have hi:=(nF hm).1;unfold GK;split
   · exact h.more (by omega)
   · rename_i s hs
     split
     · exact h.more (by omega)
     · obtain⟨h1,_,_⟩:=(h.at' _ hi).run s hs
       have:=ho.change;rcases GJ (K:=KD) s o with⟨e,v,q,_,_,w⟩| ⟨q,_⟩
       · refine h.did (by omega) hi hs inferInstance q ?_
         have:owe (cj KD s o).1≤owe s:=by
          unfold owe;rcases w with e|e
          · rw[e];exact aQ _
          · rw[e];exact aN _
         show 1+_+n≤_;omega
       · refine h.did (by omega) hi hs inferInstance q ?_
         have:=Mb (cj KD s o).1;show 0+_+n≤_;omega
 · exact(DU h ho hk).more (by omega)
theorem new_ok:CLOk 0 CL.new:=by
 refine⟨by simp[CL.new],by simp[CL.new],λi hi=>?_,λk=>?_⟩
 · have e:CL.new.at' i=rX i:=by simp[CL.new,CL.at',List.getD_eq_getElem?_getD,hi]
   rw[e];exact AP hi ⟨(λs q=>by cases q),λ_=>DkOk.new,aQ _⟩
 · have e:CL.new.W.getD k []=[]:=by
    show(List.replicate 25 ([]:List MsgT)).getD k []=[];rw[List.getD_eq_getElem?_getD,List.getElem?_replicate];split<;>rfl
   rw[e];exact⟨aN _,λm hm=>by cases hm⟩
end Api
end

section
namespace Go.Proofs.YtfocodjhmkokpaaGreatDoor
open Go Leg Codec Api Dsk Wal
theorem yr{f:Nat→HP}{k i:Nat}(hi:i<k){H:List HP}{h:Hl}(s:bK (bK ((List.range k).map f)::H) h):bK (f i::bK (((List.range k).map f).eraseIdx i)::H) h:=by
 have s1:bK ((List.range k).map f++H) h:=(bY _ _).2 s;have e:((List.range k).map f).getD i (λ_=>True)=f i:=by simp[List.getD_eq_getElem?_getD,hi]
 have p:=mD (λ_=>True) ((List.range k).map f) i (by simpa using hi);rw[e]at p;exact cD (dY (p.append_right H) s1) (λ_ a=>a) λ_ b=>(bY _ _).1 b
theorem yq{f g:Nat→HP}{k i:Nat}(hi:i<k)(hg: ∀j,j≠i→g j=f j){H:List HP}{h:Hl}(s:bK (g i::bK (((List.range k).map f).eraseIdx i)::H) h):bK (bK ((List.range k).map g)::H) h:=by
 have e0:((List.range k).map g).eraseIdx i=((List.range k).map f).eraseIdx i:=by
  refine List.ext_getElem? λj=>?_
  rw[List.getElem?_eraseIdx,List.getElem?_eraseIdx]
  have: ∀m,m≠i→((List.range k).map g)[m]?=((List.range k).map f)[m]?:=λm hm=>by
   rw[List.getElem?_map,List.getElem?_map]
   by_cases hk:m<k
   · simp[hk,hg m hm]
   · simp[hk]
  split
  · exact this j (by omega)
  · exact this (j+1) (by omega)
 have e:((List.range k).map g).getD i (λ_=>True)=g i:=by simp[List.getD_eq_getElem?_getD,hi]
 have p:=mD (λ_=>True) ((List.range k).map g) i (by simpa using hi);rw[e,e0]at p;have s2:bK ((g i::((List.range k).map f).eraseIdx i)++H) h:=cD s (λ_ a=>a) λ_ b=>(bY _ _).2 b
 exact(bY _ _).1 (dY (p.symm.append_right H) s2)
section
variable {f:FuncId} {args:Array Value} {Q:Value→Prop} {c i:Nat} {a a':CL}
theorem z0(hi:i<5){Z:Value→CL→Prop}(hne: ∀v a',Z v a'→∀j,j≠i→a'.at' j=a.at' j)
 (core: ∀g:CX,DT f args T0 (aj c (eG g.n (l8 g) (jy a g.r) g.p) 73::eg 135 184 5 g.n (cK a.W)::kl (a.at' i) (g.d i) (g.r i) (g.p i))
  (c9 λv H=>∃a',Z v a'∧∃g':CX,g'.n=g.n∧(∀j,j≠i→g'.d j=g.d j∧g'.r j=g.r j∧g'.p j=g.p j)∧H=aj c (eG g.n (l8 g') (jy a' g'.r) g'.p) 73::eg 135 184 5 g.n (cK a'.W)::kl (a'.at' i) (g'.d i) (g'.r i) (g'.p i))):
 DT f args T0 [fh c a] (c9 λv H=>∃a',Z v a'∧H=[fh c a']):=by
 refine Leg.Does.ex (A':=λg:CX=>(aj c (eG g.n (l8 g) (jy a g.r) g.p) 73::eg 135 184 5 g.n (cK a.W)::kl (a.at' i) (g.d i) (g.r i) (g.p i))++[bK (((List.range 5).map λi=>km (a.at' i) (g.d i) (g.r i) (g.p i)).eraseIdx i)]) (λh s=>?_) λg=>?_
 · obtain⟨g,s⟩:=e5 s
   have s2:=yr (f:=λi=>km (a.at' i) (g.d i) (g.r i) (g.p i)) hi (aA [2,0,0] rfl s);have s3:=(bY (kl (a.at' i) (g.d i) (g.r i) (g.p i)) _).2 s2;exact⟨g,aA [4,4,0,0,0,0] rfl s3⟩
 · refine Leg.Does.withinR (core g) (λ_ _ _ _=>trivial) (λh s=>s) λv H hp=>?_
   obtain⟨a',hz,g',hn,hg,rfl⟩:=hp;refine⟨[fh c a'],λh s=>?_,a',hz,rfl⟩;have s1:=aA [2,2,2,2,0,0] rfl s;have s2:=(bY (kl (a'.at' i) (g'.d i) (g'.r i) (g'.p i)) _).1 s1
   have s3:=yq (f:=λi=>km (a.at' i) (g.d i) (g.r i) (g.p i)) (g:=λi=>km (a'.at' i) (g'.d i) (g'.r i) (g'.p i)) hi (λj hj=>by
    obtain⟨h1,h2,h3⟩:=hg j hj
    rw[hne v a' hz j hj,h1,h2,h3]) s2
   refine bo (p:=pI c a') g' ?_;rw[←hn]at s3;exact aA [1,1,0] rfl s3
theorem wt(hne: ∀j,j≠i→a'.at' j=a.at' j)(r:Nat→Nat)(hi:xA (a'.at' i) (r i)=xA (a.at' i) (r i)):jy a' r=jy a r:=funext λj=>by
 by_cases q:j=i
 · subst q;exact hi
 · show xA (a'.at' j) (r j)=xA (a.at' j) (r j)
   rw[hne j q]
theorem D7(hl:a.ms.length=5)(hi:i<5){s:MS LD}(hs:(a.at' i).run=some s){R:Value→MS LD→List (List MsgT)→Prop}
 (core: ∀g:CX,jy a g.r i= .pointer (some ⟨g.r i,0,none⟩)→DT f args T0 [aj c (eG g.n (l8 g) (jy a g.r) g.p) 73,dk (g.d i) s.e.D,eg 135 184 5 g.n (cK a.W),fA s (g.d i) (g.r i)]
  (c9 λv H=>∃s' W',R v s' W'∧H=[aj c (eG g.n (l8 g) (jy a g.r) g.p) 73,dk (g.d i) s'.e.D,eg 135 184 5 g.n (cK W'),fA s' (g.d i) (g.r i)])):
 DT f args T0 [fh c a] (c9 λv H=>∃a',(∃s' W',R v s' W'∧a'=⟨a.ms.set i {a.at' i with run:=some s'},W'⟩)∧H=[fh c a']):=by
 refine z0 hi (λv a' hz j hj=>?_) λg=>?_
 · obtain⟨s',W',_,rfl⟩:=hz
   exact w3 hj
 · have em:jy a g.r i= .pointer (some ⟨g.r i,0,none⟩):=by show xA (a.at' i) _=_;unfold xA;rw[hs]
   have e1:p9 (a.at' i) (g.d i) (g.r i)=fA s (g.d i) (g.r i):=by unfold p9;rw[hs]
   have e2:(a.at' i).dk=s.e.D:=by unfold Slot.dk;rw[hs]
   refine Leg.Does.withinR (B:=[kF (g.p i) (a.at' i).past]) (core g em) (λ_ _ _ _=>trivial) (λh q=>?_) λv H hp=>?_
   · unfold kl at q
     rw[e1,e2]at q;exact aA [0,1,0,1,0] rfl q
   · obtain⟨s',W',hR,rfl⟩:=hp
     have ea:(CL.mk (a.ms.set i {a.at' i with run:=some s'}) W').at' i= {a.at' i with run:=some s'}:=wZ (by rw[hl];exact hi);have hm:jy ⟨a.ms.set i {a.at' i with run:=some s'},W'⟩ g.r=jy a g.r:=wt (λj hj=>w3 hj) g.r (by rw[ea];unfold xA;rw[hs]);refine⟨_,λh q=>?_,_,⟨s',W',hR,rfl⟩,g,rfl,λ_ _=>⟨rfl,rfl,rfl⟩,rfl⟩;rw[hm,ea];exact aA [0,1,0,1,0] rfl q
theorem zZ(core: ∀g:CX,DT f args T0 [aj c (eG g.n (l8 g) (jy a g.r) g.p) 73] (c9 λv H=>Q v∧H=[aj c (eG g.n (l8 g) (jy a g.r) g.p) 73])):
 DT f args T0 [fh c a] (c9 λv H=>Q v∧H=[fh c a]):=by
 refine Leg.Does.ex (A':=λg:CX=>[aj c (eG g.n (l8 g) (jy a g.r) g.p) 73]++[eg 135 184 5 g.n (cK a.W),bK ((List.range 5).map λi=>km (a.at' i) (g.d i) (g.r i) (g.p i))]) (λh s=>e5 s) λg=>?_
 refine Leg.Does.withinR (core g) (λ_ _ _ _=>trivial) (λh s=>s) λv H hp=>?_
 obtain⟨hQ,rfl⟩:=hp;exact⟨[fh c a],λh s=>bo (p:=pI c a) g s,hQ,rfl⟩
theorem Ir{R:Value→List (List MsgT)→Prop}(core: ∀g:CX,DT f args T0 [aj c (eG g.n (l8 g) (jy a g.r) g.p) 73,eg 135 184 5 g.n (cK a.W)] (c9 λv H=>∃W',R v W'∧H=[aj c (eG g.n (l8 g) (jy a g.r) g.p) 73,eg 135 184 5 g.n (cK W')])):
 DT f args T0 [fh c a] (c9 λv H=>∃W',R v W'∧H=[fh c ⟨a.ms,W'⟩]):=by
 refine Leg.Does.ex (A':=λg:CX=>[aj c (eG g.n (l8 g) (jy a g.r) g.p) 73,eg 135 184 5 g.n (cK a.W)]++[bK ((List.range 5).map λi=>km (a.at' i) (g.d i) (g.r i) (g.p i))]) (λh s=>e5 s) λg=>?_
 refine Leg.Does.withinR (core g) (λ_ _ _ _=>trivial) (λh s=>s) λv H hp=>?_
 obtain⟨W',hR,rfl⟩:=hp;exact⟨[fh c ⟨a.ms,W'⟩],λh s=>bo (p:=pI c ⟨a.ms,W'⟩) g s,W',hR,rfl⟩
theorem JK(hl:a.ms.length=5)(hi:i<5){x:Slot}(hm: ∀r,xA x r=xA (a.at' i) r)(hr: ∀d r,p9 x d r=p9 (a.at' i) d r)(hp:x.past=(a.at' i).past)
 (core: ∀g:CX,DT f args T0 [aj c (eG g.n (l8 g) (jy a g.r) g.p) 73,dk (g.d i) (a.at' i).dk] (c9 λv H=>Q v∧H=[aj c (eG g.n (l8 g) (jy a g.r) g.p) 73,dk (g.d i) x.dk])):
 DT f args T0 [fh c a] (c9 λv H=>∃a',(Q v∧a'=a.set i x)∧H=[fh c a']):=by
 have ea:(a.set i x).at' i=x:=wZ (by rw[hl];exact hi);refine z0 hi (λv a' hz j hj=>by rw[hz.2];exact w3 hj) λg=>?_
 refine Leg.Does.withinR (B:=[eg 135 184 5 g.n (cK a.W),kF (g.p i) (a.at' i).past,p9 (a.at' i) (g.d i) (g.r i)]) (core g) (λ_ _ _ _=>trivial) (λh q=>aA [0,1,0,0,0] rfl q) λv H hq=>?_
 obtain⟨hQ,rfl⟩:=hq;have hmm:jy (a.set i x) g.r=jy a g.r:=wt (λj hj=>w3 hj) g.r (by rw[show(CL.mk (a.ms.set i x) a.W).at' i=x from ea];exact hm _);refine⟨_,λh q=>?_,_,⟨hQ,rfl⟩,g,rfl,λ_ _=>⟨rfl,rfl,rfl⟩,rfl⟩;rw[hmm,ea];unfold kl;rw[hp,hr];exact aA [0,1,0,0,0] rfl q
end
theorem lI{f:FuncId}{args:Array Value}{R:Hl→Prop}{A:List HP}{p q:Value→List HP→Prop}(d:DT f args R A (c9 p))(k: ∀v H,p v H→q v H):DT f args R A (c9 q):=
 Leg.Does.fold d λe H hp=>by
  cases e with
  |returned v=>exact⟨H,λ_ s=>s,k v H hp⟩
  |panicked c=>exact hp.elim
  |outgrown=>exact hp.elim
theorem vB{H:List HP}{h:Hl}(s:bK H h):bK ((λ_=>True)::H) h:=⟨em,h,Cu h,(qn h).symm,trivial,s⟩
theorem vw{α:Type}{l:List α}{k:Nat}{d:α}(h:k<l.length):l.set k (l.getD k d)=l:=by
 refine List.ext_getElem? λj=>?_
 by_cases q:j=k
 · subst q;rw[List.getElem?_set_self h,List.getD_eq_getElem?_getD,List.getElem?_eq_getElem h];rfl
 · rw[List.getElem?_set_ne (λe=>q e.symm)]
section
variable {n c i:Nat} {a:CL} {o:OpT}
theorem A0(h:CLOk n a)(hi:i<5):a.set i (a.at' i)=a:=by
 show CL.mk (a.ms.set i (a.ms.getD i .nil)) a.W=a;rw[vw (by rw[h.ms];exact hi)]
theorem vK(h:CLOk n a)(hi:i<5){s:MS LD}(hs:(a.at' i).run=some s):(CL.mk (a.ms.set i {a.at' i with run:=some s}) a.W)=a:=by
 have e:({a.at' i with run:=some s}:Slot)=a.at' i:=by cases q:a.at' i with|mk r D p=>rw[q]at hs;simp only at hs;rw[hs]
 rw[e];exact A0 h hi
theorem oc{k:Int}(hk:o.kind=k)(hi:o.at'=((i:Nat):Int)):OpT.mk k ((i:Nat):Int) o.to' o.key o.n o.change o.mask o.torn o.cut=o:=by subst hk;rw[←hi]
theorem rV{k:Int}{j:Nat}(hk:o.kind=k)(hi:o.at'=((i:Nat):Int))(hj:o.to'=((j:Nat):Int)):OpT.mk k ((i:Nat):Int) ((j:Nat):Int) o.key o.n o.change o.mask o.torn o.cut=o:=by subst hk;rw[←hi,←hj]
theorem sc{g:CX}{s:MS LD}(hs:(a.at' i).run=some s):jy a g.r i= .pointer (some ⟨g.r i,0,none⟩):=by show xA (a.at' i) _=_;unfold xA;rw[hs]
theorem mJ{g:CX}(hs:(a.at' i).run=none):jy a g.r i= .pointer none:=by show xA (a.at' i) _=_;unfold xA;rw[hs]
theorem ET{a':CL}{r r':Nat→Nat}{v:Value}(hne: ∀j,j≠i→a'.at' j=a.at' j)(hr: ∀j,j≠i→r' j=r j)(hv:xA (a'.at' i) (r' i)=v):jy a' r'=mZ (jy a r) i v:=funext λj=>by
 by_cases q:j=i
 · subst q;rw[k0];exact hv
 · rw[pd _ _ q]
   show xA (a'.at' j) (r' j)=xA (a.at' j) (r j);rw[hne j q,hr j q]
theorem Iu(h:CLOk n a)(hn:n≤100000)(hi:i<5)(hat:o.at'=((i:Nat):Int))(hk:0≤o.kind∧o.kind≤4)(ho:OkOp o):DT 25 #[.pointer (some ⟨c,0,none⟩), .agg (ints o.flat).toArray] T0 [fh c a] (c9 λv H=>v= .int .i64 (GK a i o).2∧H=[fh c (GK a i o).1]):=by
 have eo:=oc (o:=o) rfl hat;cases hr:(a.at' i).run with
 |none=>
  refine lI (zZ (Q:=λv=>v= .int .i64 4) λg=>?_) λv H hp=>?_
  · have:=B6 c g.n i (l8 g) (jy a g.r) g.p hi (mJ hr) o o.kind hk
    rw[eo]at this;exact this
  · unfold GK;rw[hr];exact hp
 |some s=>
  obtain⟨hs,_,hso⟩:=(h.at' i hi).run s hr;have hrep:=(h.at' i hi).reps;unfold Slot.reps at hrep;rw[hr,ag]at hrep;simp only at hrep;refine lI (D7 h.ms hi hr (R:=λv s' W'=>(s.e.D.dn=true∧v= .int .i64 4∧s'=s∧W'=a.W)∨(s.e.D.dn=false∧v= .int .i64 (cj KD s o).2∧s'=(cj KD s o).1.hush∧W'=gR a.W i (cj KD s o).1.o)) λg em=>?_) λv H hp=>?_
  · have:=D4 c g.n i (l8 g) (jy a g.r) g.p hi (g.d i) (g.r i) s rfl em a.W h.W hso hs o o.kind hk ho.change (by omega)
    rw[eo]at this;refine lI this λv H hp=>?_
    rcases hp with⟨hd,rfl,rfl⟩| ⟨hd,rfl,rfl⟩
    · exact⟨s,a.W, .inl ⟨hd,rfl,rfl,rfl⟩,rfl⟩
    · exact⟨_,_, .inr ⟨hd,rfl,rfl,rfl⟩,rfl⟩
  · obtain⟨a',⟨s',W',hR,rfl⟩,rfl⟩:=hp
    unfold GK;rw[hr];rcases hR with⟨hd,rfl,rfl,rfl⟩| ⟨hd,rfl,rfl,rfl⟩
    · simp only[hd,if_true];exact⟨by first|rfl|trivial,by rw[vK h hi hr]⟩
    · simp only[hd];exact⟨rfl,rfl⟩
theorem Hd(h:CLOk n a)(hi:i<5)(hat:o.at'=((i:Nat):Int))(hk:o.kind=8):DT 25 #[.pointer (some ⟨c,0,none⟩), .agg (ints o.flat).toArray] T0 [fh c a] (c9 λv H=>v= .int .i64 (Ft a i).2∧H=[fh c (Ft a i).1]):=by
 have eo:=oc (o:=o) hk hat;cases hr:(a.at' i).run with
 |none=>
  refine lI (zZ (Q:=λv=>v= .int .i64 4) λg=>?_) λv H hp=>?_
  · have:=B4 c g.n i (l8 g) (jy a g.r) g.p hi (mJ hr) o
    rw[eo]at this;exact this
  · unfold Ft;rw[hr];exact hp
 |some s=>
  obtain⟨hs,_,hso⟩:=(h.at' i hi).run s hr;refine lI (D7 h.ms hi hr (R:=λv s' W'=>(s.e.D.dn=true∧v= .int .i64 4∧s'=s∧W'=a.W)∨(s.e.D.dn=false∧v= .int .i64 0∧s'=(iw KD s).hush∧W'=gR a.W i (iw KD s).o)) λg em=>?_) λv H hp=>?_
  · have:=DW c g.n i (l8 g) (jy a g.r) g.p hi (g.d i) (g.r i) s rfl em a.W h.W hso hs o
    rw[eo]at this;refine lI this λv H hp=>?_
    rcases hp with⟨hd,rfl,rfl⟩| ⟨hd,rfl,rfl⟩
    · exact⟨s,a.W, .inl ⟨hd,rfl,rfl,rfl⟩,rfl⟩
    · exact⟨_,_, .inr ⟨hd,rfl,rfl,rfl⟩,rfl⟩
  · obtain⟨a',⟨s',W',hR,rfl⟩,rfl⟩:=hp
    unfold Ft;rw[hr];rcases hR with⟨hd,rfl,rfl,rfl⟩| ⟨hd,rfl,rfl,rfl⟩
    · simp only[hd,if_true];exact⟨by first|rfl|trivial,by rw[vK h hi hr]⟩
    · simp only[hd];exact⟨rfl,rfl⟩
theorem IE(h:CLOk n a)(hi:i<5)(hat:o.at'=((i:Nat):Int))(hk:o.kind=9):DT 25 #[.pointer (some ⟨c,0,none⟩), .agg (ints o.flat).toArray] T0 [fh c a] (c9 λv H=>v= .int .i64 0∧H=[fh c (a.set i (xK (a.at' i) o.n))]):=by
 have eo:=oc (o:=o) hk hat
 have ed:(xK (a.at' i) o.n).dk=(a.at' i).dk.arm o.n:=by
  unfold xK Slot.dk;cases hr:(a.at' i).run with
  |none=>simp only[hr]
  |some s=>rfl
 refine lI (JK (x:=xK (a.at' i) o.n) (Q:=λv=>v= .int .i64 0) h.ms hi (λr=>?_) (λd r=>?_) ?_ λg=>?_) λv H hp=>?_
 · unfold xK xA
   cases hr:(a.at' i).run with
   |none=>simp only[hr]
   |some s=>rfl
 · unfold xK p9
   cases hr:(a.at' i).run with
   |none=>simp only[hr]
   |some s=>rfl
 · unfold xK;split<;>rfl
 · have:=D6 c g.n i (l8 g) (jy a g.r) g.p hi (g.d i) rfl (a.at' i).dk o
   rw[eo]at this;rw[ed];exact this
 · obtain⟨a',⟨rfl,rfl⟩,rfl⟩:=hp
   exact⟨rfl,rfl⟩
theorem D9(h:CLOk n a)(hn:n≤100000)(hi:i<5)(hat:o.at'=((i:Nat):Int))(hk:o.kind=10):DT 25 #[.pointer (some ⟨c,0,none⟩), .agg (ints o.flat).toArray] T0 [fh c a] (c9 λv H=>v= .int .i64 0∧H=[fh c (a.set i (nh (a.at' i) o.mask o.torn o.cut))]):=by
 have eo:=oc (o:=o) hk hat;have so:=h.at' i hi;have hrep:=so.reps;unfold Slot.reps at hrep;rw[ag]at hrep;have ea:(a.set i (nh (a.at' i) o.mask o.torn o.cut)).at' i=nh (a.at' i) o.mask o.torn o.cut:=wZ (by rw[h.ms];exact hi);have hne: ∀j,j≠i→(a.set i (nh (a.at' i) o.mask o.torn o.cut)).at' j=a.at' j:=λj hj=>w3 hj
 refine lI (z0 (Z:=λv a'=>v= .int .i64 0∧a'=a.set i (nh (a.at' i) o.mask o.torn o.cut)) hi (λv a' hz j hj=>by rw[hz.2];exact hne j hj) λg=>?_) λv H hp=>by obtain⟨_,⟨rfl,rfl⟩,rfl⟩:=hp;exact⟨rfl,rfl⟩
 have fin: ∀u,u.oneCell'=true→∀h,bK ([aj c (eG g.n (l8 g) (mZ (jy a g.r) i (.pointer none)) (mZ g.p i u)) 73,dk (g.d i) ((a.at' i).dk.crash o.mask o.torn o.cut),kF u (a.at' i).reps]++[eg 135 184 5 g.n (cK a.W)]) h→
  bK (aj c (eG g.n (l8 {g with p:=mZ g.p i u}) (jy (a.set i (nh (a.at' i) o.mask o.torn o.cut)) g.r) (mZ g.p i u)) 73::eg 135 184 5 g.n (cK (a.set i (nh (a.at' i) o.mask o.torn o.cut)).W)::kl ((a.set i (nh (a.at' i) o.mask o.torn o.cut)).at' i) (g.d i) (g.r i) (mZ g.p i u i)) h:=λu _ hh q=>by
  rw[ET (a:=a) (i:=i) (v:= .pointer none) (r:=g.r) hne (λ_ _=>rfl) (by rw[ea];rfl),ea,k0];have q2:=vB (aA [0,2,0,0] rfl q);exact aA [1,1,1,1,0] rfl q2
 cases hr:(a.at' i).run with
 |none=>
  have er:(a.at' i).reps=(a.at' i).past:=by unfold Slot.reps;rw[hr,a8]
  have:=D3 c g.n i (l8 g) (jy a g.r) g.p hi (g.d i) rfl (mJ hr) (a.at' i).past (by omega) (a.at' i).dk so.dk.ok o;rw[eo]at this;refine Leg.Does.withinR (B:=[eg 135 184 5 g.n (cK a.W)]) this (λ_ _ _ _=>trivial) (λhh q=>?_) λv H hp=>?_
  · exact ak [0,1,1,0] rfl q
  · obtain⟨u,hu,rfl,rfl⟩:=hp
    refine⟨_,λhh q=>fin u hu hh ?_,_,⟨rfl,rfl⟩,{g with p:=mZ g.p i u},rfl,λj hj=>⟨rfl,rfl,pd _ _ hj⟩,rfl⟩;rw[er];exact q
 |some s=>
  rw[hr]at hrep;simp only at hrep;have er:(a.at' i).reps=(a.at' i).past++s.replies:=by unfold Slot.reps;rw[hr]
  have e1:p9 (a.at' i) (g.d i) (g.r i)=fA s (g.d i) (g.r i):=by unfold p9;rw[hr]
  have:=DZ c g.n i (l8 g) (jy a g.r) g.p hi (g.d i) rfl (g.r i) s (sc hr) (a.at' i).past (by omega) (by omega) (a.at' i).dk so.dk.ok o;rw[eo]at this;refine Leg.Does.withinR (B:=[eg 135 184 5 g.n (cK a.W)]) this (λ_ _ _ _=>trivial) (λhh q=>?_) λv H hp=>?_
  · unfold kl at q
    rw[e1]at q;exact aA [0,1,1,1,0] rfl q
  · obtain⟨u,hu,rfl,rfl⟩:=hp
    refine⟨_,λhh q=>fin u hu hh ?_,_,⟨rfl,rfl⟩,{g with p:=mZ g.p i u},rfl,λj hj=>⟨rfl,rfl,pd _ _ hj⟩,rfl⟩;rw[er];exact q
end
section
variable {n c i:Nat} {a:CL} {o:OpT}
theorem AT{i:Nat}{D:DS}{s:MS LD}(h:(eu i D).1=some s):(eu i D).2=0:=by
 obtain⟨h1,h2⟩:=tE h;unfold eu;rw[if_neg (by rw[h1];decide),h2]
theorem AU(h:CLOk n a)(hi:i<5)(hat:o.at'=((i:Nat):Int))(hk:o.kind=11):DT 25 #[.pointer (some ⟨c,0,none⟩), .agg (ints o.flat).toArray] T0 [fh c a] (c9 λv H=>v= .int .i64 (jT i (a.at' i)).2∧H=[fh c (a.set i (jT i (a.at' i)).1)]):=by
 have eo:=oc (o:=o) hk hat;have so:=h.at' i hi;cases hr:(a.at' i).run with
 |some s=>
  have e:jT i (a.at' i)=(a.at' i,5):=by unfold jT;rw[hr]
  rw[e,show a.set i (a.at' i,(5:Int)).1=a from A0 h hi];refine zZ (Q:=λv=>v= .int .i64 5) λg=>?_
  have:=DX c g.n i (l8 g) (jy a g.r) g.p hi (g.r i) (sc hr) o;rw[eo]at this;exact this
 |none=>
  have e:jT i (a.at' i)=({a.at' i with run:=(eu i (a.at' i).D).1,D:=(bP (a.at' i).D).D},(eu i (a.at' i).D).2):=by unfold jT;rw[hr]
  have hD:=so.D hr;have ed:(a.at' i).dk=(a.at' i).D:=by unfold Slot.dk;rw[hr]
  have e1: ∀d r,p9 (a.at' i) d r= λ_=>True:=λd r=>by unfold p9;rw[hr]
  have hst: ∀x:Slot,(a.set i x).at' i=x:=λx=>wZ (by rw[h.ms];exact hi)
  have hne: ∀x:Slot,∀j,j≠i→(a.set i x).at' j=a.at' j:=λx j hj=>w3 hj
  refine lI (z0 (Z:=λv a'=>v= .int .i64 (jT i (a.at' i)).2∧a'=a.set i (jT i (a.at' i)).1) hi (λv a' hz j hj=>by rw[hz.2];exact hne _ j hj) λg=>?_) λv H hp=>by obtain⟨_,⟨rfl,rfl⟩,rfl⟩:=hp;exact⟨rfl,rfl⟩
  have:=DY c g.n i (l8 g) (jy a g.r) g.p hi (g.d i) rfl (mJ hr) (a.at' i).D hD o;rw[eo]at this;refine Leg.Does.withinR (B:=[eg 135 184 5 g.n (cK a.W),kF (g.p i) (a.at' i).past]) this (λ_ _ _ _=>trivial) (λhh q=>?_) λv H hp=>?_
  · unfold kl at q
    rw[ed]at q;exact ak [0,1,0,0] rfl q
  · rcases hp with⟨hn,rfl,rfl⟩| ⟨s,r,hn,rfl,rfl⟩
    · refine⟨_,λhh q=>?_,_,⟨by rw[e],rfl⟩,g,rfl,λj hj=>⟨rfl,rfl,rfl⟩,rfl⟩
      rw[hst,e];have em:jy (a.set i {a.at' i with run:=(eu i (a.at' i).D).1,D:=(bP (a.at' i).D).D}) g.r=jy a g.r:=wt (hne _) g.r (by rw[hst];unfold xA;rw[hr];simp only[hn]);rw[em];have q2:=vB (aA [0,1,0,0] rfl q);have q3:=aA [1,1,1,1,0] rfl q2;unfold kl Slot.dk p9;simp only[hn];exact q3
    · refine⟨_,λhh q=>?_,_,⟨by rw[e];simp only[AT hn],rfl⟩,{g with r:=mZ g.r i r},rfl,λj hj=>⟨rfl,pd _ _ hj,rfl⟩,rfl⟩
      rw[hst,e];have em:jy (a.set i {a.at' i with run:=(eu i (a.at' i).D).1,D:=(bP (a.at' i).D).D}) (mZ g.r i r)=mZ (jy a g.r) i (.pointer (some ⟨r,0,none⟩)):=ET (hne _) (λj hj=>pd _ _ hj) (by rw[hst,k0];unfold xA;simp only[hn]);rw[em];have q3:=aA [0,2,1,1,0] rfl q;unfold kl Slot.dk p9;simp only[hn,k0];exact q3
theorem Fm(h:CLOk n a)(hn:n≤100000)(hi:i<5)(hat:o.at'=((i:Nat):Int))(hk:o.kind=5∨o.kind=6∨o.kind=7):DT 46 #[.pointer (some ⟨c,0,none⟩), .agg (ints o.flat).toArray] T0 [fh c a] (c9 λv H=>v= .int .i64 (o8 a o).2∧H=[fh c (o8 a o).1]):=by
 cases hv:dz o.at' o.to' with
 |false=>
  have e:o8 a o=(a,5):=by unfold o8;rw[if_pos hv]
  rw[e];have eo:=oc (o:=o) rfl hat;refine lI (Ir (R:=λv W'=>v= .int .i64 5∧W'=a.W) λg=>?_) λv H hp=>by obtain⟨_,⟨rfl,rfl⟩,rfl⟩:=hp;exact⟨rfl,rfl⟩
  refine Leg.Does.ex (A':=λbs:List Nat=>[aj c (eG g.n (l8 g) (jy a g.r) g.p) 73,aj g.n (dp bs) 135]++[ey 184 5 bs (cK a.W)]) (λhh q=>?_) λbs=>?_
  · obtain⟨bs,q⟩:=e5 (dY (List.Perm.swap _ _ _) q)
    exact⟨bs,aA [2,0,0] rfl q⟩
  · rw[hat]at hv
    have:=AA c g.n i (l8 g) (jy a g.r) g.p hi o.to' o.kind o hv bs;rw[eo]at this;refine Leg.Does.withinR this (λ_ _ _ _=>trivial) (λhh q=>q) λv H hp=>?_
    obtain⟨rfl,rfl⟩:=hp;refine⟨_,λhh q=>?_,a.W,⟨rfl,rfl⟩,rfl⟩;exact dY (List.Perm.swap _ _ _) (bo (p:=λbs:List Nat=>[aj g.n (dp bs) 135,ey 184 5 bs (cK a.W)]) bs (aA [1,1,0] rfl q))
 |true=>
  obtain⟨j,hto⟩: ∃j:Nat,o.to'=((j:Nat):Int):=⟨o.to'.toNat,((nF (ry hv).2).2).symm⟩;have hj:j<5:=by have:=(nF (ry hv).2).1;rw[hto]at this;simpa using this
  have hv2:dz ((i:Nat):Int) ((j:Nat):Int)=true:=by rw[←hat,←hto];exact hv
  have eK:bD o.at' o.to'=bD ((i:Nat):Int) ((j:Nat):Int):=by rw[hat,hto]
  have hij:((i:Nat):Int)≠((j:Nat):Int):=λe=>by
   unfold dz at hv2;rw[decide_eq_true e]at hv2;simp at hv2
  obtain⟨h8,hlen⟩:=h.way (bD ((i:Nat):Int) ((j:Nat):Int));have hkl:bD ((i:Nat):Int) ((j:Nat):Int)<a.W.length:=by rw[h.W];exact(ic hv2).1
  -- the net alone
  have net: ∀{R:Value→List (List MsgT)→Prop},(∀(g:CX) (bs:List Nat),Leg.Does Tryz.prog 46 #[.pointer (some ⟨c,0,none⟩), .agg (ints o.flat).toArray] (λ_=>True) [aj g.n (dp bs) 135,ey 184 5 bs (cK a.W),aj c (eG g.n (l8 g) (jy a g.r) g.p) 73] (c9 λv H=>∃W',R v W'∧H=[aj c (eG g.n (l8 g) (jy a g.r) g.p) 73,eg 135 184 5 g.n (cK W')]))→
   Leg.Does Tryz.prog 46 #[.pointer (some ⟨c,0,none⟩), .agg (ints o.flat).toArray] (λ_=>True) [fh c a] (c9 λv H=>∃W',R v W'∧H=[fh c ⟨a.ms,W'⟩]):=λcore=>Ir λg=>Leg.Does.ex (A':=λbs:List Nat=>[aj g.n (dp bs) 135,ey 184 5 bs (cK a.W),aj c (eG g.n (l8 g) (jy a g.r) g.p) 73]) (λhh q=>e5 (dY (List.Perm.swap _ _ _) q)) (core g)
  cases hl:a.W.getD (bD ((i:Nat):Int) ((j:Nat):Int)) []with
  |nil=>
   have e:o8 a o=(a,10):=by unfold o8;rw[if_neg (by rw[hv];decide),eK,hl]
   rw[e];refine lI (net (R:=λv W'=>v= .int .i64 10∧W'=a.W) λg bs=>?_) λv H hp=>by obtain⟨_,⟨rfl,rfl⟩,rfl⟩:=hp;exact⟨rfl,rfl⟩
   have:=y5 c g.n i (l8 g) (jy a g.r) g.p hi j hj hv2 a.W h.W _ rfl h8 hlen o o.kind hl bs;rw[rV rfl hat hto,vw hkl]at this;exact lI this λv H hp=>⟨a.W,⟨hp.1,rfl⟩,hp.2⟩
  |cons m0 l0=>
   by_cases h7:o.kind=7
   · have e:o8 a o=(a.way (bD ((i:Nat):Int) ((j:Nat):Int)) (CK (m0::l0)),if Hb (m0::l0)then 0 else 3):=by
      unfold o8;rw[if_neg (by rw[hv];decide),eK,hl];simp only[if_pos h7];split
      · rfl
      · rename_i q
        have q2:CK (m0::l0)=m0::l0:=by unfold CK;unfold Hb at q;rw[if_neg (by simpa using q)]
        rw[q2];show(a,(3:Int))=(CL.mk a.ms (a.W.set _ (m0::l0)),3);rw[←hl,vw hkl]
     rw[e];refine lI (net (R:=λv W'=>v= .int .i64 (if Hb (m0::l0)then 0 else 3)∧W'=a.W.set (bD ((i:Nat):Int) ((j:Nat):Int)) (CK (m0::l0))) λg bs=>?_) λv H hp=>by obtain⟨_,⟨rfl,rfl⟩,rfl⟩:=hp;exact⟨rfl,rfl⟩
     have:=xi c g.n i (l8 g) (jy a g.r) g.p hi j hj hv2 a.W h.W (m0::l0) hl (by rw[←hl];exact h8) (by rw[←hl];exact hlen) o (by simp) bs;rw[rV h7 hat hto]at this;exact lI this λv H hp=>⟨_,⟨hp.1,rfl⟩,hp.2⟩
   · cases ht:kL (max o.n 0% ((m0::l0).length:Int)).toNat (m0::l0)with
     |nil=>have:=jR (max o.n 0% ((m0::l0).length:Int)).toNat (m0::l0);rw[ht]at this;simp at this
     |cons m l2=>
      by_cases h6:o.kind=6
      · have e:o8 a o=(a.way (bD ((i:Nat):Int) ((j:Nat):Int)) l2,0):=by
         unfold o8;rw[if_neg (by rw[hv];decide),eK,hl];simp only[if_neg h7];rw[ht];simp only[if_pos h6]
        rw[e];refine lI (net (R:=λv W'=>v= .int .i64 0∧W'=a.W.set (bD ((i:Nat):Int) ((j:Nat):Int)) l2) λg bs=>?_) λv H hp=>by obtain⟨_,⟨rfl,rfl⟩,rfl⟩:=hp;exact⟨rfl,rfl⟩
        have:=rk c g.n i (l8 g) (jy a g.r) g.p hi j hj hv2 a.W h.W (m0::l0) hl (by rw[←hl];exact h8) (by rw[←hl];exact hlen) o m l2 ht bs 6 (.inr rfl) (.inl rfl);rw[rV h6 hat hto]at this;exact lI this λv H hp=>⟨_,⟨hp.1,rfl⟩,hp.2⟩
      · have h5:o.kind=5:=by omega
        have e:o8 a o=wQ (a.way (bD ((i:Nat):Int) ((j:Nat):Int)) l2) i j m:=by
         unfold o8;rw[if_neg (by rw[hv];decide),eK,hl];simp only[if_neg h7];rw[ht];simp only[if_neg h6];rw[hat,hto];rfl
        rw[e];have ew:(a.way (bD ((i:Nat):Int) ((j:Nat):Int)) l2).at' j=a.at' j:=rfl;cases hr:(a.at' j).run with
        |none=>
         have e2:wQ (a.way (bD ((i:Nat):Int) ((j:Nat):Int)) l2) i j m=(a.way (bD ((i:Nat):Int) ((j:Nat):Int)) l2,0):=by unfold wQ;rw[ew,hr]
         rw[e2];refine lI (net (R:=λv W'=>v= .int .i64 0∧W'=a.W.set (bD ((i:Nat):Int) ((j:Nat):Int)) l2) λg bs=>?_) λv H hp=>by obtain⟨_,⟨rfl,rfl⟩,rfl⟩:=hp;exact⟨rfl,rfl⟩
         have:=rk c g.n i (l8 g) (jy a g.r) g.p hi j hj hv2 a.W h.W (m0::l0) hl (by rw[←hl];exact h8) (by rw[←hl];exact hlen) o m l2 ht bs 5 (.inl rfl) (.inr (mJ hr));rw[rV h5 hat hto]at this;exact lI this λv H hp=>⟨_,⟨hp.1,rfl⟩,hp.2⟩
        |some s=>
         obtain⟨hs,hid,hso⟩:=(h.at' j hj).run s hr;have hrep:=(h.at' j hj).reps;unfold Slot.reps at hrep;rw[hr,ag]at hrep;simp only at hrep;have W2:(a.W.set (bD ((i:Nat):Int) ((j:Nat):Int)) l2).length=25:=by rw[iG];exact h.W
         refine lI (D7 h.ms hj hr (R:=λv s' W'=>(s.e.D.dn=true∧v= .int .i64 0∧s'=s∧W'=a.W.set (bD ((i:Nat):Int) ((j:Nat):Int)) l2)∨(s.e.D.dn=false∧(jr (dP m)).2≠0∧v= .int .i64 (jr (dP m)).2∧s'=s∧W'=a.W.set (bD ((i:Nat):Int) ((j:Nat):Int)) l2)∨(s.e.D.dn=false∧(jr (dP m)).2=0∧v= .int .i64 0∧s'=(gk KD s ((i:Nat):Int) (jr (dP m)).1).hush∧W'=gR (a.W.set (bD ((i:Nat):Int) ((j:Nat):Int)) l2) j (gk KD s ((i:Nat):Int) (jr (dP m)).1).o)) λg em=>?_) λv H hp=>?_
         · refine Leg.Does.ex (A':=λbs:List Nat=>[aj g.n (dp bs) 135,ey 184 5 bs (cK a.W),aj c (eG g.n (l8 g) (jy a g.r) g.p) 73,dk (g.d j) s.e.D,fA s (g.d j) (g.r j)]) (λhh q=>e5 (aA [2,0,0,0] rfl q)) λbs=>?_
           have:=y6 c g.n i (l8 g) (jy a g.r) g.p hi j hj hv2 a.W h.W (m0::l0) hl (by rw[←hl];exact h8) (by rw[←hl];exact hlen) o m l2 ht bs (g.d j) (g.r j) s rfl em hso hs (by rw[hid];exact hij) (by omega);rw[rV h5 hat hto]at this;refine lI this λv H hp=>?_
           rcases hp with⟨hd,rfl,rfl⟩| ⟨hd,h1,rfl,rfl⟩| ⟨hd,h1,rfl,rfl⟩
           · exact⟨_,_, .inl ⟨hd,rfl,rfl,rfl⟩,rfl⟩
           · exact⟨_,_, .inr (.inl ⟨hd,h1,rfl,rfl,rfl⟩),rfl⟩
           · exact⟨_,_, .inr (.inr ⟨hd,h1,rfl,rfl,rfl⟩),rfl⟩
         · obtain⟨a',⟨s',W',hR,rfl⟩,rfl⟩:=hp
           have er: ∀W',CL.mk (a.ms.set j {a.at' j with run:=some s}) W'=CL.mk a.ms W':=λW'=>by
            have:=congrArg CL.ms (vK h hj hr);rw[show a.ms.set j {a.at' j with run:=some s}=a.ms from this]
           unfold wQ;rw[ew,hr];rcases hR with⟨hd,rfl,rfl,rfl⟩| ⟨hd,h1,rfl,rfl,rfl⟩| ⟨hd,h1,rfl,rfl,rfl⟩
           · simp only[hd,if_true];exact⟨by first|rfl|trivial,by rw[er];rfl⟩
           · simp only[hd,if_neg h1];exact⟨by first|rfl|trivial,by rw[er];rfl⟩
           · simp only[hd,if_pos h1];exact⟨by first|rfl|trivial,rfl⟩
end
theorem D5(c:Nat)(X:HP)(o:OpT)(hm:iy o.at'=false):
 DT 25 #[(.pointer (some ⟨c,0,none⟩)),(.agg (ints o.flat).toArray)] T0 [X] (RI (.int .i64 5) [X]):=by
 refine BD 114 Tryz.func25 rfl rfl rfl λw0 F hF=>sr λ_ J1=>XY (ints o.flat) λb3=>?_
 refine PS ?_;refine nx J1 (aa λ_ J2=>sr λ_ J3=>PS ?_);refine FA 1 eI aO ?_;refine LU 0 Y3 (bM o rfl) ?_;refine CE qa (vX c o.at') ID ?_;rw[hm];refine PS ?_;refine nx J3 (CY (sr λ_ J4=>PS ?_));exact nx J4 (ah (ae (WK [1] (av rfl rfl ⟨rfl,rfl⟩))))
theorem DV(c i:Nat)(hi:i<5)(X:HP)(o:OpT)(k:Int)(hk:k=5∨k=6∨k=7)(p:Int→HP→Prop)(hw:DT 46 #[(.pointer (some ⟨c,0,none⟩)),(.agg (ints (OpT.mk k ((i:Nat):Int) o.to' o.key o.n o.change o.mask o.torn o.cut).flat).toArray)] T0 [X] (c9 (λv H=>∃e X',v= .int .i64 e∧H=[X']∧p e X'))):
 DT 25 #[(.pointer (some ⟨c,0,none⟩)),(.agg (ints (OpT.mk k ((i:Nat):Int) o.to' o.key o.n o.change o.mask o.torn o.cut).flat).toArray)] T0 [X] (c9 (λv H=>∃e X',v= .int .i64 e∧H=[X']∧p e X')):=by
 refine BD 114 Tryz.func25 rfl rfl rfl λw0 F hF=>sr λ_ J1=>XY (ints (OpT.mk k ((i:Nat):Int) o.to' o.key o.n o.change o.mask o.torn o.cut).flat) λb3=>?_
 refine PS ?_;refine nx J1 (aa λ_ J2=>sr λ_ J3=>PS ?_);refine FA 1 eI aO ?_;refine LT 0 Y3 (.int .i64 (((i:Nat):Int))) ?_ (hc:=by exact bM _ rfl);refine CE qa (ec c i hi) ID ?_;refine PS ?_;refine nx J3 (CN (qx J2 (aa λ_ J4=>sr λ_ J5=>FA 0 eI aO ?_)));refine LT 0 Y3 (.int .i64 (k)) ?_ (hc:=by exact cB _ rfl);refine nx J5 (am (aa λ_ J6=>sr λ_ J7=>P2 ?_));refine ao ?_ ?_<;>intro h12
 · exact absurd h12 (by omega)
 refine nx J7 (CN (sr λ_ J8=>P2 ?_));refine ao ?_ ?_<;>intro h12
 · exact absurd h12 (by omega)
 refine nx J8 (CN (sr λ_ J9=>P2 ?_));refine ao ?_ ?_<;>intro h12
 · exact absurd h12 (by omega)
 refine nx J9 (CN (sr λ_ J10=>P2 ?_));refine ao ?_ ?_<;>intro h12
 · exact absurd h12 (by omega)
 refine nx J10 (CN (ad (PS ?_)));refine ao ?_ ?_<;>intro h17
 · exact absurd h17 (by omega)
 refine PS ?_;refine nx J6 (CN (aa λ_ J11=>eT (α:=Unit) (λ_u=>True) (λ_u=>[(0,(.pointer (some ⟨c,0,none⟩))),(3,(.pointer (some ⟨b3,0,none⟩))),(4,(.int .i64 0)),(11,(.int .i64 (k))),(37,(.bool true))]) (λ_u=>[aj b3 (ints (OpT.mk k ((i:Nat):Int) o.to' o.key o.n o.change o.mask o.torn o.cut).flat) 63,X]) (λ_u hinv=>?_) (λtl11=>?_)));have _:=hinv;refine ac J11 (CY (sr λ_ J12=>PS ?_));refine LW 0 eI qG gq ?_;refine CR Of (hw) (SM [1]) λvR HR hR=>?_
 obtain⟨e,X',rfl,rfl,hp⟩:=hR;refine PS ?_;exact nx J12 (ah (aH (ae (WK [0] (av rfl rfl ⟨e,X',rfl,rfl,hp⟩)))));refine sr λ_ J13=>P2 ?_
 refine ao ?_ ?_<;>intro h37;refine nx J13 (CY (aM ?_))
 exact aF
  SB
  (λ_ s=>ak [0,0] rfl s)
  (tl11 (():Unit) trivial)
 refine nx J13 (CN (sr λ_ J14=>P2 ?_));refine ao ?_ ?_<;>intro h37;refine nx J14 (CY (aM ?_))
 exact aF
  SB
  (λ_ s=>ak [0,0] rfl s)
  (tl11 (():Unit) trivial)
 refine nx J14 (CN (ad (PS ?_)));refine ao ?_ ?_<;>intro h40;refine PS ?_;refine ap ?_
 exact aF
  SB
  (λ_ s=>ak [0,0] rfl s)
  (tl11 (():Unit) trivial)
 · exact absurd h40 (by omega)
theorem B5(c i:Nat)(hi:i<5)(X:HP)(o:OpT)(k:Int)(hk:k<0∨11<k):
 DT 25 #[(.pointer (some ⟨c,0,none⟩)),(.agg (ints (OpT.mk k ((i:Nat):Int) o.to' o.key o.n o.change o.mask o.torn o.cut).flat).toArray)] T0 [X] (RI (.int .i64 5) [X]):=by
 refine BD 114 Tryz.func25 rfl rfl rfl λw0 F hF=>sr λ_ J1=>XY (ints (OpT.mk k ((i:Nat):Int) o.to' o.key o.n o.change o.mask o.torn o.cut).flat) λb3=>?_
 refine PS ?_;refine nx J1 (aa λ_ J2=>sr λ_ J3=>PS ?_);refine FA 1 eI aO ?_;refine LT 0 Y3 (.int .i64 (((i:Nat):Int))) ?_ (hc:=by exact bM _ rfl);refine CE qa (ec c i hi) ID ?_;refine PS ?_;refine nx J3 (CN (qx J2 (aa λ_ J4=>sr λ_ J5=>FA 0 eI aO ?_)));refine LT 0 Y3 (.int .i64 (k)) ?_ (hc:=by exact cB _ rfl);refine nx J5 (am (aa λ_ J6=>sr λ_ J7=>P2 ?_));refine ao ?_ ?_<;>intro h12
 · exact absurd h12 (by omega)
 refine nx J7 (CN (sr λ_ J8=>P2 ?_));refine ao ?_ ?_<;>intro h12
 · exact absurd h12 (by omega)
 refine nx J8 (CN (sr λ_ J9=>P2 ?_));refine ao ?_ ?_<;>intro h12
 · exact absurd h12 (by omega)
 refine nx J9 (CN (sr λ_ J10=>P2 ?_));refine ao ?_ ?_<;>intro h12
 · exact absurd h12 (by omega)
 refine nx J10 (CN (ad (PS ?_)));refine ao ?_ ?_<;>intro h17
 · exact absurd h17 (by omega)
 refine PS ?_;refine nx J6 (CN (aa λ_ J11=>sr λ_ J12=>P2 ?_));refine ao ?_ ?_<;>intro h37
 · exact absurd h37 (by omega)
 refine nx J12 (CN (sr λ_ J13=>P2 ?_));refine ao ?_ ?_<;>intro h37
 · exact absurd h37 (by omega)
 refine nx J13 (CN (ad (PS ?_)));refine ao ?_ ?_<;>intro h40
 · exact absurd h40 (by omega)
 refine PS ?_;refine nx J11 (CN (sr λ_ J14=>PS ?_));refine ao ?_ ?_<;>intro h45
 · exact absurd h45 (by omega)
 refine PS ?_;refine nx J14 (CN (sr λ_ J15=>PS ?_));refine ao ?_ ?_<;>intro h65
 · exact absurd h65 (by omega)
 refine PS ?_;refine nx J15 (CN (sr λ_ J16=>PS ?_));refine ao ?_ ?_<;>intro h77
 · exact absurd h77 (by omega)
 refine PS ?_;refine nx J16 (CN (sr λ_ J17=>PS ?_));refine ao ?_ ?_<;>intro h109
 · exact absurd h109 (by omega)
 refine PS ?_;refine nx J17 (CN (sr λ_ J18=>PS ?_));exact nx J18 (ah (aH (ae (WK [1] (av rfl rfl ⟨rfl,rfl⟩)))))
section
variable {n c:Nat} {a:CL} {o:OpT}
theorem pG(h:CLOk n a)(hn:n≤100000)(ho:OkOp o):DT 25 #[.pointer (some ⟨c,0,none⟩), .agg (ints o.flat).toArray] T0 [fh c a] (c9 λv H=>v= .int .i64 (uA a o).2∧H=[fh c (uA a o).1]):=by
 unfold uA
 by_cases hm:iy o.at'=false
 · rw[if_pos hm]
   exact D5 c (fh c a) o hm
 · rw[if_neg hm]
   have hm:iy o.at'=true:=by simpa using hm
   obtain⟨hi,hat⟩:=nF hm
   by_cases h1:0≤o.kind∧o.kind≤4
   · rw[if_pos h1];exact Iu h hn hi hat.symm h1 ho
   rw[if_neg h1]
   by_cases h2:o.kind=5∨o.kind=6∨o.kind=7
   · rw[if_pos h2]
     have:=DV c _ hi (fh c a) o o.kind h2 (λe X=>e=(o8 a o).2∧X=fh c (o8 a o).1) (by
      rw[oc rfl hat.symm]
      exact lI (Fm h hn hi hat.symm h2) λv H hp=>⟨_,_,hp.1,hp.2,rfl,rfl⟩)
     rw[oc rfl hat.symm]at this
     exact lI this λv H hp=>by
      obtain⟨e,X,rfl,rfl,rfl,rfl⟩:=hp;exact⟨rfl,rfl⟩
   rw[if_neg h2]
   by_cases h3:o.kind=8
   · rw[if_pos h3];exact Hd h hi hat.symm h3
   rw[if_neg h3]
   by_cases h4:o.kind=9
   · rw[if_pos h4];exact IE h hi hat.symm h4
   rw[if_neg h4]
   by_cases h5:o.kind=10
   · rw[if_pos h5];exact D9 h hn hi hat.symm h5
   rw[if_neg h5]
   by_cases h6:o.kind=11
   · rw[if_pos h6];exact AU h hi hat.symm h6
   rw[if_neg h6];have:=B5 c _ hi (fh c a) o o.kind (by omega);rw[oc rfl hat.symm]at this;exact this
end
theorem vv(i:Nat):(eu i .new).1≠none:=by
 obtain⟨D',e,_⟩:=LogD.new.open rfl rfl;unfold eu;rw[e];simp[lh]
theorem tQ{i:Nat}{s:MS LD}(h:(eu i .new).1=some s):rX i=⟨some s,(bP .new).D,[]⟩:=by
 show(jT i .nil).1=_;unfold jT;show Slot.mk (eu i DS.new).1 _ _=_;rw[h];rfl
def dJ(i:Nat)(d:Nat→Nat):Nat→Value:=λj=>if j<i then .pointer (some ⟨d j,0,none⟩)else .pointer none
def HM:Nat→Value:=λ_=> .slice none 0 0
theorem Ip(i:Nat)(d:Nat→Nat)(x:Nat):mZ (dJ i d) i (.pointer (some ⟨x,0,none⟩))=dJ (i+1) (mZ d i x):=funext λj=>by
 unfold dJ mZ
 by_cases hj:j=i
 · subst hj;simp
 · rw[if_neg hj,if_neg hj]
   show(if j<i then _ else _)=_
   by_cases h:j<i
   · rw[if_pos h,if_pos (by omega)]
   · rw[if_neg h,if_neg (by omega)]
theorem GL{n:Nat}{D M P D' M' P':Nat→Value}(h1: ∀i,i<5→D i=D' i)(h2: ∀i,i<5→M i=M' i)(h3: ∀i,i<5→P i=P' i):eG n D M P=eG n D' M' P':=by
 unfold eG;rw[eD (λi hi=>h1 i (dO.1 hi)),eD (λi hi=>h2 i (dO.1 hi)),eD (λi hi=>h3 i (dO.1 hi))]
theorem HB{f g:Nat→HP}{i:Nat}(hg: ∀j,j<i→g j=f j){H:List HP}{h:Hl}(s:bK (g i::bK ((List.range i).map f)::H) h):bK (bK ((List.range (i+1)).map g)::H) h:=by
 have e:(List.range (i+1)).map g=(List.range i).map f++[g i]:=by
  rw[cC,el,eD (λj hj=>hg j (dO.1 hj))];rfl
 rw[e];obtain⟨h1,h2,d,rfl,a,b⟩:=s;have s2:bK ((g i::(List.range i).map f)++H) (jn h1 h2):=⟨h1,h2,d,rfl,a,(bY _ _).2 b⟩;exact(bY _ _).1 (dY ((List.perm_append_comm (l₁:=[g i])).append_right H) s2)
abbrev wl(d r:Nat→Nat)(j:Nat):HP:=km (rX j) (d j) (r j) (.slice none 0 0)
theorem H9{d r:Nat→Nat}{i x y:Nat}{s:MS LD}(hs:(eu i .new).1=some s){X Y:HP}{h:Hl}(q:bK [fA s x y,dk x s.e.D,X,Y,bK ((List.range i).map (wl d r))] h):bK [X,Y,bK ((List.range (i+1)).map (wl (mZ d i x) (mZ r i y)))] h:=by
 have q2:=fq 47 3 q
 have e:wl (mZ d i x) (mZ r i y) i=bK [dk x s.e.D,kF (.slice none 0 0) [],fA s x y]:=by
  unfold wl km kl Slot.dk p9;rw[k0,k0,tQ hs]
 have q4:=(bY [dk x s.e.D,kF (.slice none 0 0) [],fA s x y] [bK ((List.range i).map (wl d r)),X,Y]).1 (aA [2,0,0,2,0,0] rfl q2);have q5:=HB (i:=i) (f:=wl d r) (g:=wl (mZ d i x) (mZ r i y)) (H:=[X,Y]) (λj hj=>by unfold wl;rw[pd d x (show j≠i by omega),pd r y (show j≠i by omega)]) (by rw[e];exact q4);exact aA [1,1,0] rfl q5
theorem H7(i:Nat)(hi:i<5):CL.new.at' i=rX i:=by simp[CL.new,CL.at',List.getD_eq_getElem?_getD,hi]
theorem H8{c n:Nat}{d r:Nat→Nat}{h:Hl}(s:bK [aj c (eG n (dJ 5 d) (dJ 5 r) HM) 73,eg 135 184 5 n (List.replicate 25 []),bK ((List.range 5).map (wl d r))] h):bK [fh c .new] h:=by
 have e1:eG n (l8 ⟨n,d,r,HM⟩) (jy .new r) HM=eG n (dJ 5 d) (dJ 5 r) HM:=GL (λi hi=>by unfold dJ;rw[if_pos hi]) (λi hi=>by
  unfold dJ;rw[if_pos hi];show xA (CL.new.at' i) (r i)=_;rw[H7 i hi];cases hs:(eu i .new).1 with
  |none=>exact absurd hs (vv i)
  |some s=>rw[tQ hs];rfl) (λ_ _=>rfl)
 have e2:(List.range 5).map (λi=>km (CL.new.at' i) (d i) (r i) (HM i))=(List.range 5).map (wl d r):=eD λi hi=>by
  rw[H7 i (dO.1 hi)];rfl
 have e3:cK CL.new.W=List.replicate 25 []:=rfl;refine bo (p:=pI c .new) (H:=[]) ⟨n,d,r,HM⟩ ?_;unfold pI;rw[e1,e2,e3];exact s
theorem yA:
 DT 20 #[] T0 [] (c9 (λv H=>∃c,v= .pointer (some ⟨c,0,none⟩)∧H=[fh c .new])):=by
 refine BD 33 Tryz.func20 rfl rfl rfl λw0 F hF=>sr λ_ J1=>PS ?_
 refine nx J1 (sr λ_ J2=>CR Oj (Bw) ID λvR HR hR=>?_);obtain⟨n,rfl,rfl⟩:=hR;refine BV #[(.pointer (some ⟨n,0,none⟩)),(.pointer none),(.pointer none),(.pointer none),(.pointer none),(.pointer none),(.pointer none),(.pointer none),(.pointer none),(.pointer none),(.pointer none),(.slice none 0 0),(.slice none 0 0),(.slice none 0 0),(.slice none 0 0),(.slice none 0 0)] ?_;refine XB λb5=>?_
 refine PS ?_;refine nx J2 (aa λ_ J3=>sr λ_ J4=>PS ?_);refine nx J4 (am ?_)
 refine bu (α:=(Nat)×(Nat→Nat)×(Nat→Nat)) (λ⟨i,d,r⟩=>i≤5) (λ⟨i,d,r⟩=>[(0,(.pointer none)),(1,(.pointer (some ⟨b5,0,none⟩))),(6,(.int .i64 (((i:Nat):Int))))]) (λ⟨i,d,r⟩=>[aj b5 (eG n (dJ i d) (dJ i r) HM) 73,eg 135 184 5 n (List.replicate 25 []),bK ((List.range i).map (wl d r))]) (λ⟨i,d,r⟩=>5-i) (0,λ_=>0,λ_=>0)
  (aN _) SB
  (λ_ s=>aA [1,1,0] rfl (vB s)) (λ⟨i,d,r⟩ hinv=>?_)
 obtain hi:=hinv;refine sr λ_ J5=>PS ?_
 refine ao ?_ ?_<;>intro h7;have hlt:i<5:=by omega
 refine nx J5 (aa λ_ J6=>CY (qx J6 (aa λ_ J7=>am (sr λ_ J8=>P2 ?_))));refine nx J8 (aa λ_ J9=>D0 cN ?_);refine PD 0 ?_;refine PD 1 ?_;refine PD 3 ?_;refine FD 4 1 oV AH ?_;refine AL 2 ?_;refine CR Oi (Lo) ID λvR HR hR=>?_
 obtain⟨dn,rfl,rfl⟩:=hR;refine EN (IY 5 (1+i) KC vn ?_);refine AL 6 ?_;refine bB (i:=1) (ab rfl) rfl rfl rfl rfl rfl vn rfl rfl (by rw[qX];omega) (JP n (dJ i d) (dJ i r) HM (.pointer (some ⟨dn,0,none⟩)) hlt) rfl (EN (DN (ac J9 (D0 cN ?_))));refine PD 0 ?_;refine PD 1 ?_;refine PD 2 ?_;refine PD 3 ?_;refine PD 4 ?_;refine PD 5 ?_;refine FD 6 1 oV AH ?_;refine IY 7 (1+i) KC vn ?_;refine PD 13 ?_;refine FD 14 6 oV oL ?_;refine AL 8 ?_;refine LT 1 IH (.pointer (some ⟨dn,0,none⟩)) ?_ (hc:=by exact(Ea n (mZ (dJ i d) i (.pointer (some ⟨dn,0,none⟩))) (dJ i r) HM hlt).trans (congrArg some (k0 (dJ i d) i _)));refine EN (AL 9 ?_);refine CR Ms (tD i dn .new DkOk.new) ID λvR HR hR=>?_
 rcases hR with⟨hn,_⟩| ⟨s,rn,hs,rfl,rfl⟩
 · exact absurd hn (vv i)
 refine EN (PD 10 ?_);refine PD 11 ?_;refine PD 12 ?_;refine IY 15 (6+i) qd gY ?_;refine AL 16 ?_;refine bB (i:=2) (ab rfl) rfl rfl rfl rfl rfl gY rfl rfl (by rw[qX];omega) (uQ n (mZ (dJ i d) i (.pointer (some ⟨dn,0,none⟩))) (dJ i r) HM (.pointer (some ⟨rn,0,none⟩)) hlt) rfl (EN (DN (af (ac J7 (ad (AD ?_))))));refine PS ?_;refine ap ?_
 exact aJ ((i+1,mZ d i dn,mZ r i rn):(Nat)×(Nat→Nat)×(Nat→Nat)) (by omega) (by show 5- (i+1)<5-i;omega)
  SB
  (λ_ q=>by
   show bK [aj b5 (eG n (dJ (i+1) (mZ d i dn)) (dJ (i+1) (mZ r i rn)) HM) 73,_,_] _;rw[←Ip,←Ip]
   exact H9 hs (aA [0,0,0,0,0] rfl q))
 refine nx J5 (aa λ_ J10=>CN (aV (ay (ay (bh (ac J3 (sr λ_ J11=>P2 ?_)))))));exact nx J11 (ah (aF (H':=[fh b5 .new]) (cZ _) (λ_ s=>by have h5:i=5:=(by omega);subst h5;exact H8 s) (av rfl rfl ⟨b5,rfl,rfl⟩)))
end Go.Proofs.YtfocodjhmkokpaaGreatDoor
end

section
namespace Api
open Go Leg Codec Dsk Wal
def C3(D:DS):Nat→DS
 |0=> .new
 |k+1=>if kM D.s ((k:Nat):Int)=zs then C3 D k else((C3 D k).write ((k:Nat):Int) (kM D.s ((k:Nat):Int))).2
def L2(D:DS):DS:=(C3 D 2048).sync.2
def EA(a:CL)(i:Nat):Option (MS LD):=if(a.at' i).up then(a.at' i).run else(eu i (L2 (a.at' i).dk)).1
def Lh(s:MS LD)(b:BookT)(i:Nat):BookT:=(eH b ((i:Nat):Int) (cJ s.mirror ((i:Nat):Int))).1
def kV(s:MS LD)(b:BookT):Nat→BookT
 |0=>b
 |i+1=>Lh s (kV s b i) i
def iv(a:CL):Nat→BookT
 |0=> .zero
 |j+1=>match EA a j with
  |some s=>kV s (iv a j) 5
  |none=>iv a j
def qy(a:CL):BookT:=iv a 5
theorem zd{a:CL}{j:Nat}{s:MS LD}(h:EA a j=some s):iv a (j+1)=kV s (iv a j) 5:=by rw[iv,h]
def LH(k i j:Int):OpT:=⟨k,i,j,0,0, .zero,0,0,0⟩
theorem Ed:OkCh ChangeT.zero:=⟨by
 have: ∀n∈ChangeT.zero.flat,(Lit.int IntKind.i64 n).wf=true:=by decide+kernel
 intro n hn;exact this n hn⟩
theorem zF(k i j:Int):OkOp (LH k i j):=⟨Ed,by show(0:Int)≤9223372036854775807;omega⟩
def vu(a:CL)(i j:Nat):CL:=if i=j then a else(uA a (LH 5 ((i:Nat):Int) ((j:Nat):Int))).1
def L0(a:CL)(i:Nat):CL:=(uA a (LH 8 ((i:Nat):Int) 0)).1
def tL(a:CL)(i:Nat):Nat→CL
 |0=>a
 |j+1=>vu (tL a i j) i j
def sweepTo(a:CL):Nat→CL
 |0=>a
 |i+1=>tL (sweepTo a i) i 5
def vq(a:CL):CL:=sweepTo a 5
def sP(a:CL):Nat→CL
 |0=>a
 |i+1=>L0 (sP a i) i
def Gl(W:List (List MsgT))(k:Nat):Nat:=((List.range k).map λq=>if q%6=0 then 0 else(W.getD q []).length).sum
theorem yE(W:List (List MsgT))(k:Nat):Gl W (k+1)=Gl W k+(if k%6=0 then 0 else(W.getD k []).length):=by simp[Gl,cC]
def y7(a:CL):Nat:=Gl a.W 25
def lZ:Nat→CL→CL
 |0,a=>a
 |k+1,a=>if y7 a=0 then a else lZ k (vq a)
def vN(a:CL):CL:=lZ 400 (sP a 5)
theorem FN(a:CL):lZ (400-0) (sP a 5)=vN a:=by unfold vN;rw[O9]
def jK(a:CL):Nat→CL
 |0=>a
 |k+1=>vN (jK a k)
theorem Ht{a:CL}{i j:Nat}(h:i≠j):tL a i (j+1)=(uA (tL a i j) (LH 5 ((i:Nat):Int) ((j:Nat):Int))).1:=by
 show vu _ i j=_;unfold vu;rw[if_neg h]
theorem Hu{a:CL}{i j:Nat}(h:i=j):tL a i (j+1)=tL a i j:=by
 show vu _ i j=_;unfold vu;rw[if_pos h]
theorem rE{k:Nat}(h:k<400)(d:CL):lZ (400-k) d=if y7 d=0 then d else lZ (400- (k+1)) (vq d):=by
 rw[show 400-k=(400- (k+1))+1 by omega];rfl
theorem zi{k:Nat}(h: ¬k<400)(d:CL):lZ (400-k) d=d:=by
 rw[show 400-k=0 by omega];rfl
section
variable {n:Nat} {a:CL}
theorem CLOk.step(h:CLOk n a)(i j:Nat):CLOk n (vu a i j):=by
 unfold vu;split
 · exact h
 · exact DU h (zF ..) (by show ¬((0:Int)≤5∧(5:Int)≤4);omega)
theorem CLOk.tik(h:CLOk n a)(i:Nat):CLOk n (L0 a i):=DU h (zF ..) (by show ¬((0:Int)≤8∧(8:Int)≤4);omega)
theorem CLOk.rows(h:CLOk n a)(i:Nat): ∀j,CLOk n (tL a i j)
 |0=>h
 |j+1=>(CLOk.rows h i j).step i j
theorem CLOk.sweepTo(h:CLOk n a): ∀i,CLOk n (sweepTo a i)
 |0=>h
 |i+1=>(CLOk.sweepTo h i).rows i 5
theorem CLOk.ticks(h:CLOk n a): ∀i,CLOk n (sP a i)
 |0=>h
 |i+1=>(CLOk.ticks h i).tik i
theorem CLOk.sweeps: ∀(k:Nat) {a:CL},CLOk n a→CLOk n (lZ k a)
 |0,_,h=>h
 |k+1,a,h=>by
  unfold lZ;split
  · exact h
  · exact CLOk.sweeps k (h.sweepTo 5)
theorem CLOk.settle(h:CLOk n a): ∀k,CLOk n (jK a k)
 |0=>h
 |k+1=>by
  rw[jK,vN];exact CLOk.sweeps 400 ((CLOk.settle h k).ticks 5)
theorem CLOk.len(h:CLOk n a): ∀k,Gl a.W k≤8*k
 |0=>aQ _
 |k+1=>by
  rw[yE];have:=CLOk.len h k;have:=(h.way k).1;split<;>omega
end
end Api
namespace Go.Proofs.YtfocodjhmkokpaaGreatDoor
open Go Leg Codec Api Dsk Wal
theorem qP(W:List (List MsgT)): ∀k,k≤25→lq (cK W) k=Gl W k
 |0,_=>rfl
 |k+1,h=>by
  rw[qQ,yE,qP W k (by omega),mX W (by omega),cb]
theorem CG{n:Nat}{a:CL}(h:CLOk n a): ∀k,k<25→lq (cK a.W) k+((cK a.W).getD k []).length≤1000000000:=λk hk=>by
 rw[qP a.W k (by omega),mX a.W hk,cb];have:=h.len k;have:=(h.way k).1;omega
theorem AK(c n:Nat)(a:CL)(h:CLOk n a)(hn:n≤100000):
 DT 52 #[(.pointer (some ⟨c,0,none⟩))] T0 [fh c a] (c9 (λ_ H=>H=[fh c (vq a)])):=by
 refine BD 20 Tryz.func52 rfl rfl rfl λw0 F hF=>sr λ_ J1=>PS ?_
 refine nx J1 (am ?_)
 refine bu (α:=(Nat)) (λi=>i≤5) (λi=>[(0,(.pointer (some ⟨c,0,none⟩))),(4,(.int .i64 (((i:Nat):Int))))]) (λi=>[fh c (sweepTo a i)]) (λi=>5-i) 0
  (aN _) SB
  (λ_ s=>s) (λi hinv=>?_)
 obtain hi:=hinv;refine sr λ_ J2=>PS ?_
 refine ao ?_ ?_<;>intro h5;refine nx J2 (aa λ_ J3=>CY (qx J3 (aa λ_ J4=>am (sr λ_ J5=>P2 ?_))));refine nx J5 (sr λ_ J6=>PS ?_);refine nx J6 (am ?_)
 refine bu (α:=(Nat)) (λj=>j≤5) (λj=>[(0,(.pointer (some ⟨c,0,none⟩))),(2,(.int .i64 (((i:Nat):Int)))),(4,(.int .i64 (((i:Nat):Int)))),(7,(.int .i64 (((j:Nat):Int))))]) (λj=>[fh c (tL (sweepTo a i) i j)]) (λj=>5-j) 0
  (aN _) SB
  (λ_ s=>s) (λj hinv=>?_)
 obtain hj:=hinv;refine sr λ_ J7=>PS ?_
 refine ao ?_ ?_<;>intro h8;refine nx J7 (aa λ_ J8=>CY (qx J8 (aa λ_ J9=>am (sr λ_ J10=>P2 ?_))));refine nx J10 (sr λ_ J11=>P3 ?_);refine ao ?_ ?_<;>intro h12;refine nx J11 (CY (ad (P3 ?_)));refine tp (ke OpT.zero (OpT.mk 5 ((i:Nat):Int) ((j:Nat):Int) 0 0 ChangeT.zero 0 0 0) [(0,[Value.int .i64 5]),(1,[Value.int .i64 ((i:Nat):Int)]),(2,[Value.int .i64 ((j:Nat):Int)])] eI il (g:=OpT.sg)) ?_;refine CE HQ (pG (c:=c) (o:=(LH 5 ((i:Nat):Int) ((j:Nat):Int))) ((h.sweepTo i).rows i j) hn (zF ..)) ID ?_;refine ap (af (ac J9 (ad (AD ?_))));refine PS ?_;refine ap ?_
 exact aJ ((j+1):(Nat)) (by omega) (by show 5- (j+1)<5-j;omega)
  SB
  (λ_ s=>by rw[Ht (by omega)];exact s)
 refine nx J11 (CN (aM (af (ac J9 (ad (AD ?_))))));refine PS ?_;refine ap ?_
 exact aJ ((j+1):(Nat)) (by omega) (by show 5- (j+1)<5-j;omega)
  SB
  (λ_ s=>by rw[Hu (by omega)];exact s)
 refine nx J7 (aa λ_ J12=>CN (aV (ay (ay (bh (af (ac J4 (ad (AD ?_)))))))));refine PS ?_;refine ap ?_
 exact aJ ((i+1):(Nat)) (by omega) (by show 5- (i+1)<5-i;omega)
  SB
  (λ_ s=>by rw[show j=5 by omega]at s;exact s)
 exact nx J2 (aa λ_ J13=>CN (aV (ay (ay (bh (aF (H':=[fh c (vq a)]) (cZ _) (λ_ s=>by rw[show i=5 by omega]at s;exact s) (br rfl rfl)))))))
theorem zl(c n:Nat)(a:CL)(h:CLOk n a)(hn:n≤100000)(rounds:Nat)(hrd:rounds≤1000):
 DT 26 #[(.pointer (some ⟨c,0,none⟩)),(.int .i64 (((rounds:Nat):Int)))] T0 [fh c a] (c9 (λ_ H=>H=[fh c (jK a rounds)])):=by
 refine BD 36 Tryz.func26 rfl rfl rfl λw0 F hF=>aa λ_ J1=>sr λ_ J2=>PS ?_
 refine tp (fG rfl Lv rfl rfl) ?_;refine nx J2 (CN (qx J1 (sr λ_ J3=>PS ?_)));refine nx J3 (am ?_)
 refine bu (α:=(Nat)) (λm=>m≤rounds) (λm=>[(0,(.pointer (some ⟨c,0,none⟩))),(1,(.int .i64 (((rounds:Nat):Int)))),(4,(.int .i64 (((m:Nat):Int))))]) (λm=>[fh c (jK a m)]) (λm=>rounds-m) 0
  (aN _) SB
  (λ_ s=>s) (λm hinv=>?_)
 obtain hm:=hinv;refine aa λ_ J4=>sr λ_ J5=>P3 ?_
 refine ao ?_ ?_<;>intro h11;refine nx J5 (CY (qx J4 (aa λ_ J6=>am (aa λ_ J7=>sr λ_ J8=>PS ?_))));refine nx J8 (am ?_)
 refine bu (α:=(Nat)) (λi=>i≤5) (λi=>[(0,(.pointer (some ⟨c,0,none⟩))),(1,(.int .i64 (((rounds:Nat):Int)))),(4,(.int .i64 (((m:Nat):Int)))),(14,(.int .i64 (((i:Nat):Int))))]) (λi=>[fh c (sP (jK a m) i)]) (λi=>5-i) 0
  (aN _) SB
  (λ_ s=>s) (λi hinv=>?_)
 obtain hi:=hinv;refine sr λ_ J9=>PS ?_
 refine ao ?_ ?_<;>intro h15;refine nx J9 (aa λ_ J10=>CY (qx J10 (aa λ_ J11=>am (sr λ_ J12=>P2 ?_))));refine nx J12 (ad (P2 ?_));refine tp (ke OpT.zero (OpT.mk 8 ((i:Nat):Int) 0 0 0 ChangeT.zero 0 0 0) [(0,[Value.int .i64 8]),(1,[Value.int .i64 ((i:Nat):Int)])] eI il (g:=OpT.sg)) ?_;refine CE HQ (pG (c:=c) (o:=(LH 8 ((i:Nat):Int) 0)) ((h.settle m).ticks i) hn (zF ..)) ID ?_;refine ap (af (ac J11 (ad (AD ?_))));refine PS ?_;refine ap ?_
 exact aJ ((i+1):(Nat)) (by omega) (by show 5- (i+1)<5-i;omega)
  SB
  (λ_ s=>s)
 refine nx J9 (aa λ_ J13=>CN (aV (ay (ay (bh (ac J7 (sr λ_ J14=>PS ?_)))))));refine nx J14 (am ?_)
 refine bu (α:=(Nat)×(CL)) (λ⟨k,d⟩=>k≤400∧CLOk n d∧lZ (400-k) d=vN (jK a m)) (λ⟨k,d⟩=>[(0,(.pointer (some ⟨c,0,none⟩))),(1,(.int .i64 (((rounds:Nat):Int)))),(4,(.int .i64 (((m:Nat):Int)))),(6,(.int .i64 (((k:Nat):Int))))]) (λ⟨k,d⟩=>[fh c d]) (λ⟨k,d⟩=>400-k) (0,sP (jK a m) i)
  ⟨aN _,(h.settle m).ticks i,by rw[show i=5 by omega];exact FN _⟩ SB
  (λ_ s=>s) (λ⟨k,d⟩ hinv=>?_)
 obtain⟨hk,hd,hs⟩:=hinv;refine aa λ_ J15=>sr λ_ J16=>P2 ?_
 refine ao ?_ ?_<;>intro h23;refine P3 ?_;refine FA 0 oV zh ?_;refine Nr (H':=λg:CX=>[aj c (eG g.n (l8 g) (jy d g.r) g.p) 73,eg 135 184 5 g.n (cK d.W),bK ((List.range 5).map λi=>km (d.at' i) (g.d i) (g.r i) (g.p i))]) (λ_ s=>e5 s) (λg=>LT 0 II (.pointer (some ⟨g.n,0,none⟩)) ?_ (hc:=by exact Ab g.n (l8 g) (jy d g.r) g.p));refine CE Oc (Bx g.n (cK d.W) (CG hd)) (SM [1]) ?_;rw[qP d.W 25 (aQ _)];change TL _ _ _ _ _ _ _ _ _ [eg 135 184 5 g.n (cK d.W),aj c (eG g.n (l8 g) (jy d g.r) g.p) 73,bK ((List.range 5).map λi=>km (d.at' i) (g.d i) (g.r i) (g.p i))];refine ce (H':=[fh c d]) (λ_ s=>bo (p:=pI c d) (H:=[]) g (aA [1,0,0] rfl s)) (PS ?_);refine ao ?_ ?_<;>intro h30;refine PS ?_;refine nx J16 (CY (qx J15 (aa λ_ J17=>am (ad (PS ?_)))));refine CZ Ob (AK c n d hd hn) ID λvR=>?_
 refine ap (af (ac J17 (ad (PS ?_))));refine AD ?_;refine PS ?_;refine ap ?_
 exact aJ ((k+1,vq d):(Nat)×(CL)) ⟨by omega,hd.sweepTo 5,by rw[rE (by omega),if_neg (by unfold y7 at*;omega)]at hs;exact hs⟩ (by show 400- (k+1)<400-k;omega)
  SB
  (λ_ s=>s)
 have hfin:d=jK a (m+1):=by rw[rE (by omega),if_pos (by unfold y7 at*;omega)]at hs;exact hs
 refine PS ?_;refine nx J16 (CN (aV (ay (ay (bh (af (ac J6 (ad (PS ?_)))))))));refine AD ?_;refine PS ?_;refine ap ?_
 exact aJ ((m+1):(Nat)) (by omega) (by show rounds- (m+1)<rounds-m;omega)
  SB
  (λ_ s=>by rw[hfin]at s;exact s)
 have hfin:d=jK a (m+1):=by rw[zi (by omega)]at hs;exact hs
 refine PS ?_
 iterate 6 refine UF ?_
 refine PS ?_;refine nx J16 (CN (aV (ay (ay (bh (af (ac J6 (ad (PS ?_)))))))));refine AD ?_;refine PS ?_;refine ap ?_
 exact aJ ((m+1):(Nat)) (by omega) (by show rounds- (m+1)<rounds-m;omega)
  SB
  (λ_ s=>by rw[hfin]at s;exact s)
 exact nx J5 (CN (aV (ay (ay (bh (aF (H':=[fh c (jK a rounds)]) (cZ _) (λ_ s=>by rw[show m=rounds by omega]at s;exact s) (br rfl rfl)))))))
end Go.Proofs.YtfocodjhmkokpaaGreatDoor
end

section
namespace Leg
open Go
theorem zk(bs:List UInt8):Lib.strCells ⟨bs.toArray⟩=dw bs:=by simp[Lib.strCells,dw]
theorem rG(bs:List UInt8):(⟨bs.toArray⟩:ByteArray).size=bs.length:=by simp[ByteArray.size]
section
variable {P:Program} {w0:World} {F:Hl} {n:Nat} {ops:Array Oper} {Q:QQ} {D:List Deferred} {L:List (Nat×Value)} {H:List HP} {o:Oper} {l:List Oper} {d:Nat} {S:World→Prop}
theorem A7{w:World}{k nn:Nat}{v:Value}{xs:List Value}{bs:List UInt8}{t u ty e:Nat}(s:Sat H F w)(ht:P.underlying t=some (.slice e))(hu:P.underlying u=some .string)
 (hi:(P.info? e).map (λi=>(i.zero,i.size,i.bytes))=some (some (.int .u8 0),1,1)) (hk:k<H.length) (hH:H.getD k (λ_=>True)=own v nn xs e 1) (hb:nn+bs.length≤maxLen) (hby:nn+bs.length≤140737488355328):
 ∃v' w',(Builtin.append_ #[t,u] ty #[v,jS bs]).run P w= .ok v' w'∧Same w w'∧Sat (H.set k (own v' (nn+bs.length) (xs++dw bs) e 1)) F w':=by
 obtain⟨i,hie,hz0,hs1,hb1⟩:=info_parts hi;have hlx:=s.own_len hk hH;have hsz:=rG bs;have hsc:=zk bs;have hll:(xs++dw bs).length=(nn+bs.length)*1:=by rw[ag,hlx,bj,e9];omega
 have hsmall:nn+bs.length≤9223372036854775807:=by simp only[maxLen]at hb;omega
 have hz1:(Value.int IntKind.u8 0).cells.size=1:=rfl
 have fresh: ∀old,old<nn+bs.length→(∀h,xf w.heap.size (.cells (xs.toArray++(dw bs).toArray++Builtin.zeroCells (Value.int .u8 0).cells (grownCap w (nn+bs.length) old e- (nn+bs.length))) e) h→
  own (.slice (some ⟨w.heap.size,0,none⟩) (nn+bs.length) (grownCap w (nn+bs.length) old e)) (nn+bs.length) (xs++dw bs) e 1 h):=λold _ h hh=>by
  have hge:=grownCap_ge w (nn+bs.length) old e;refine⟨hll, .inr ⟨_,_,_,rfl,hh,hge,grownCap_le_maxLen w (nn+bs.length) old e hb,?_,?_⟩⟩
  · simp only[Array.size_append,List.size_toArray,size_zeroCells,hz1,hlx,bj]
    omega
  · simp only[Array.toList_append,aZ]
    rw[←aZ,←hll];exact lD
 have same: ∀ob,Same w (w.drew.alloc ob):=λob=>⟨rfl,rfl,rfl,by simp⟩
 have u0:bs.length=0→dw bs=[]:=λhm=>List.eq_nil_of_length_eq_zero (by rw[bj];exact hm)
 rcases s.own_form hk hH with⟨rfl,rfl,rfl⟩| ⟨g,cap,rfl⟩
 · by_cases hm:bs.length=0
   · have hn:=u0 hm
     refine⟨.slice none 0 0,w,?_,oP w,s.turn k hk (λh hh=>by rw[hH]at hh;rw[hm,hn];simpa using hh)⟩;have hf:=Lib.run_firstCells_string (P:=P) w 1 ⟨bs.toArray⟩;rw[hsz,hm]at hf;simp[Builtin.append_,run_underlying ht,run_underlying hu,Go.sizeOf,typeInfo,hie,hs1,Builtin.lenOf,hsz,hm,hf]
   · have hr:=run_append_nil_string (P:=P) w t u ty e i (.int .u8 0) ht hu hie hz0 ⟨bs.toArray⟩ (by rw[hsz];omega) (by rw[hsz];omega) (by rw[hsz,hb1];omega)
     have e1:((⟨bs.toArray⟩:ByteArray).data.map λb=>Value.int .u8 b.toNat)=(dw bs).toArray:=by
      rw[←hsc];apply Array.ext';simp[Lib.strCells]
     rw[e1,hsz]at hr;refine⟨_,_,hr,same _,?_⟩;have:=fresh 0 (by omega);simp only[bi,ca,Array.empty_append]at this ⊢;exact Ns k hk (s.drew.alloc _) this
 · obtain⟨cur,hH1,hnc,hcm,hcs,htake⟩:=s.own_open hk hH
   have hlen:k< (H.set k (xf g (.cells cur e (0,0)))).length:=by simpa using hk
   have hg:=hH1.block k hlen (fl hk _);have hcs':cur.size=cap:=by simpa using hcs
   by_cases hroom:nn+bs.length≤cap
   · have hr:=Lib.run_append_room_string (P:=P) w t u ty e i ht hu hie hs1 g nn cap cur hg ⟨bs.toArray⟩ (by rw[hsz];exact hroom) (by rw[hsz];omega)
     rw[hsz,hsc]at hr;have h2:=hH1.write k hlen (fl hk _) (setRow_heap w g cur (cur.toList.take nn++dw bs++cur.toList.drop (nn+bs.length)).toArray e _ hg) (λj hj=>setRow_other w g j _ hj);rw[gv]at h2
     have h3:=h2.turn (q:=own (.slice (some ⟨g,0,none⟩) (nn+bs.length) cap) (nn+bs.length) (xs++dw bs) e 1) k (by simpa using hk) (λh hh=>by
      rw[fl hk]at hh;refine⟨hll, .inr ⟨g,cap,_,rfl,hh,hroom,hcm,?_,?_⟩⟩
      · simp only[List.size_toArray,ag,bq,bN,Array.length_toList,bj]
        omega
      · have ht':cur.toList.take nn=xs:=by simpa using htake
        rw[ht',←hll]
        exact lD)
     rw[gv]at h3;exact⟨_,_,hr,⟨rfl,rfl,rfl,by simp⟩,h3⟩
   · have holds: ∀j u,xs[j]?=some u→w.cell? ((⟨g,0,none⟩:Addr).add j)=some u:=λj u hj=>by
      rw[pO];subst htake;rw[List.getElem?_take]at hj;split at hj
      · simpa [World.cell?,hg]using hj
      · cases hj
     have hr:=Lib.run_append_grow_string (P:=P) w t u ty e i (.int .u8 0) ht hu hie hz0 ⟨g,0,none⟩ nn cap xs (by rw[hs1];simpa using hlx) holds ⟨bs.toArray⟩ (by rw[hsz];omega) (by rw[hsz];omega) (by rw[hsz,hb1];exact growslice_fits (by omega) (by omega));rw[hsz,hsc]at hr;exact⟨_,_,hr,same _,Ns k hk (s.drew.alloc _) (fresh cap (by omega))⟩
theorem TL.appendT{s x:Operand}{k:Nat}{v:Value}{bs ys:List UInt8}{t u e:Nat}(hw:Want n D ops o L)
 (ho:o.op= .call {callee:= .builtin .append,args:=#[s,x],argTypes:=#[t,u]}) (hd:o.dst=some d) (hn:Nat.blt d n=true) (ht:P.underlying t=some (.slice e)) (hu:P.underlying u=some .string)
 (hi:(P.info? e).map (λi=>(i.zero,i.size,i.bytes))=some (some (.int .u8 0),1,1)) (hs:cE L s=some v) (hx:cE L x=some (jS ys))
 (hk:Nat.blt k H.length=true) (hH:H.getD k (λ_=>True)=cu v bs e) (hb:bs.length+ys.length≤maxLen) (hby:bs.length+ys.length≤140737488355328)
 (h: ∀v',v'.oneCell'=true→TL P w0 F n ops Q l D ((d,v')::L) (H.set k (cu v' (bs++ys) e))):TL P w0 F n ops Q (o::l) D L H:=
 j9 hw λa w f sm q=>by
  obtain⟨v',w',hr,s',q'⟩:=A7 (ty:=o.type) (bs:=ys) q ht hu hi (lb hk) hH hb hby
  have e2:own v' (bs.length+ys.length) (dw bs++dw ys) e 1=cu v' (bs++ys) e:=by
   unfold cu;rw[ag,fL]
  have one:v'.oneCell'=true:=by
   rcases q'.own_form (i:=k) (by simpa using lb hk) (fl (lb hk) _)with⟨rfl,_⟩| ⟨g,c,rfl⟩<;>rfl
  rw[e2]at q';unfold Oper.wp execOp;simp only[ho,resolve,invoke,builtin,Sem.run_bind,Sem.run_pure,Result.andThen_ok,oS,eA,lQ,f.eval hs,f.eval hx,hr];rw[Oper.upon_value,hd];exact h v' one _ w' (f.put (lb hn) v') (sm.trans s') q'
end
section
variable {P:Program} {w0:World} {F:Hl} {n:Nat} {ops:Array Oper} {Q:QQ} {D:List Deferred} {L:List (Nat×Value)} {H:List HP} {o:Oper} {l:List Oper} {d:Nat} {S:World→Prop}
theorem Gz{w:World}{g:Nat}{cur:Array Value}{e:TypeId}(hg:w.heap[g]?=some (.cells cur e (0,0))){m:Nat}(hm:0<m):(w.freeze ⟨g,0,none⟩ m).heap[g]?=some (.cells cur e (0,m))∧(∀j,j≠g→(w.freeze ⟨g,0,none⟩ m).heap[j]?=w.heap[j]?)∧Same w (w.freeze ⟨g,0,none⟩ m):=by
 unfold World.freeze;rw[if_neg (by omega)];refine⟨?_,λj hj=>?_,⟨rfl,rfl,rfl,by simp⟩⟩
 · simp only[Array.getElem?_modify,hg]
   simp
 · simp only[Array.getElem?_modify]
   rw[if_neg (λe=>hj e.symm)]
theorem TL.unsafeStr{x y:Operand}{k g cap:Nat}{bs:List UInt8}{pt it e:TypeId}(hw:Want n D ops o L)(ho:o.op= .call {callee:= .builtin .unsafeString,args:=#[x,y],argTypes:=#[pt,it]})(hd:o.dst=some d)(hn:Nat.blt d n=true)
 (hp:P.underlying pt=some (.pointer e)) (hc:P.cellsOf e=1) (hx:cE L x=some (.pointer (some ⟨g,0,none⟩))) (hy:cE L y=some (.int .i64 ((bs.length:Nat):Int)))
 (hk:Nat.blt k H.length=true) (hH:H.getD k (λ_=>True)=cu (.slice (some ⟨g,0,none⟩) bs.length cap) bs e) (h0:0<bs.length) (h63:bs.length≤9223372036854775807)
 (h:TL P w0 F n ops Q l D ((d,jS bs)::L) (H.set k (λ_=>True))):TL P w0 F n ops Q (o::l) D L H:=
 j9 hw λa w f sm q=>by
  obtain⟨cur,hH1,hnc,hcm,hcs,htake⟩:=q.own_open (lb hk) hH;have hlen:k< (H.set k (xf g (.cells cur e (0,0)))).length:=by simpa using lb hk
  have hg:=hH1.block k hlen (fl (lb hk) _);have hcs':cur.size=cap:=by simpa using hcs
  have hcell: ∀j x,bs[j]?=some x→w.cell? ((⟨g,0,none⟩:Addr).add j)=some (.int .u8 x.toNat):=λj x hj=>by
   rw[pO];have hj':(dw bs)[j]?=some (.int .u8 ((x.toNat:Nat):Int)):=by simp[dw,hj]
   rw[←htake,List.getElem?_take]at hj';split at hj'
   · simpa [World.cell?,hg]using hj'
   · cases hj'
  have hr:=Lib.run_unsafeString_row (P:=P) w pt it o.type e hp hc g cur.size (by simp[World.shape?,hg]) bs (λe=>by rw[e]at h0;exact absurd h0 (by decide)) (by omega) h63 hcell;obtain⟨h1,h2,h3⟩:=Gz hg h0;have q':=hH1.write k hlen (fl (lb hk) _) h1 h2;rw[gv]at q';have q2:=q'.turn (q:=λ_=>True) k (by simpa using lb hk) (λ_ _=>trivial);rw[gv]at q2;unfold Oper.wp execOp;simp only[ho,resolve,invoke,builtin,Sem.run_bind,Sem.run_pure,Result.andThen_ok,oS,eA,lQ,f.eval hx,f.eval hy,hr];rw[Oper.upon_value,hd];exact h _ _ (f.put (lb hn) (jS bs)) (sm.trans h3) q2
theorem PV.sliceData{t:TypeId}{x:Operand}{g m cap:Nat}(ho:o.op= .call {callee:= .builtin .unsafeSliceData,args:=#[x],argTypes:=#[t]})(hx:cE L x=some (.slice (some ⟨g,0,none⟩) m cap))(hc:0<cap):PV P n D L S o (.pointer (some ⟨g,0,none⟩)):=λa w f _=>by
 have:=Lib.run_unsafeSliceData_row (P:=P) (w:=w) #[t] o.type ⟨g,0,none⟩ m cap (by omega);simp[execOp,ho,resolve,invoke,builtin,f.eval hx,this]
end
end Leg
end
