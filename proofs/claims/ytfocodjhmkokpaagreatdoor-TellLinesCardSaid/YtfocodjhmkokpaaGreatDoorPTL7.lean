/-
  Joined texts:what a statement's proof reaches.
-/
import Derived.Test.YtfocodjhmkokpaaGreatDoorPTL6
set_option maxHeartbeats 8000000
set_option maxRecDepth 100000
set_option linter.unusedSimpArgs false
set_option linter.unusedVariables false
section
namespace Go.Proofs.YtfocodjhmkokpaaGreatDoor
open Go Leg Codec Api Dsk Wal
theorem rz{δ:Type}(V:Env δ)(r:Nat)(s:MS δ)(from':Int)(m:MsgT)[OkR V.toDk s][OkMg m](hfe:from'=s.id→m.epoch=s.view.epoch)(hk:m.kind=6):TK V r 82 s from' m (rA V.toDk s from' m):=oK (.inr (.inr (.inr hk))) (by
 cases hv:s.vote with
 |none=>exact kK V r s (lF V.toDk from' m) from' m hfe (λe=>by omega) (λe=>by omega) (λ_=>by rw[lF,show(dv s (max s.round m.ballot.round)).vote=none from hv]) (λ_=>hv)
 |some vt=>
  have h:=pW V r s vt from' m hfe (.inr hk) hv (λe=>by omega)
  rwa [show(λs_:MS δ=>if m.kind=4 then pS V.toDk from' m s_ else lF V.toDk from' m s_)=lF V.toDk from' m from funext λ_=>if_neg (by omega)]at h)
theorem yi{δ:Type}(V:Env δ)(r:Nat)(s:MS δ)(from':Int)(m:MsgT)[OkR V.toDk s][OkMg m](hep:m.epoch=s.view.epoch):
 DT 161 #[(.pointer (some ⟨r,0,none⟩)),(.iface V.T V.ov),(.int .i64 (from')),(.agg (ints m.flat).toArray)] T0 [cJ V r s] (dm (λ_ H=>H=[cJ V r (pn V.toDk from' m s)])):=by
 refine BD 69 Tryz.func161 rfl rfl rfl λw0 F hF=>sr λ_ J1=>XY (ints m.flat) λb7=>?_
 refine nx J1 (ab λ_ J2=>ab λ_ J3=>e5 (α:=Unit) (λ_u=>True) (λ_u=>[(0,(.pointer (some ⟨r,0,none⟩))),(1,(.iface V.T V.ov)),(2,(.int .i64 (from'))),(7,(.pointer (some ⟨b7,0,none⟩))),(9,(.int .i64 ((dM s.view m.change).2)))]) (λ_u=>[cJ V r s,ah b7 (ints m.flat) 163]) (λ_u hinv=>?_) (λtl3=>?_));have _:=hinv;refine ac J3 (sr λ_ J4=>P2 ?_);refine ao ?_ ?_<;>intro h23;refine nx J4 (CY (ai (af (WK [0] (dK rfl ?_)))));exact MQ (by rw[pn,if_pos h23]);refine nx J4 (CN (qx J2 (ab λ_ J5=>e5 (α:=(Nat)) (λb10=>True) (λb10=>[(0,(.pointer (some ⟨r,0,none⟩))),(1,(.iface V.T V.ov)),(2,(.int .i64 (from'))),(7,(.pointer (some ⟨b7,0,none⟩))),(10,(.pointer (some ⟨b10,0,none⟩))),(11,(.bool ((gC s.acc m.epoch m.ballot m.change).2)))]) (λb10=>[cJ V r s,ah b7 (ints m.flat) 163,ah b10 (ints ((gC s.acc m.epoch m.ballot m.change).1).flat) 82]) (λb10 hinv=>?_) (λtl5=>?_))));have _:=hinv;refine ac J5 (ab λ_ J6=>sr λ_ J7=>PS ?_);refine bc ?_ ?_<;>intro h38;refine PS ?_;refine nx J7 (CN (qx J6 (ab λ_ J8=>ab λ_ J9=>DC mixed (BL 2) (cU 0 rfl rfl) ?_)));refine LY 0 pK fG a8 ?_;refine PD 1 ?_;refine PD 2 ?_;refine FD 3 1058 de fG ?_;refine ta 4 rfl (fX (vs:=ints s.acc.flat) rfl pK rfl fG rfl (λ_ h=>h.2.2.1) (a8 s.acc) (λa_=>(yL (s.rep a_) 0 rfl (by decide) (whole (a8 ((s.rep a_).acc)))))) ?_
 refine ta 5 rfl (L7 (a:=((gC s.acc m.epoch m.ballot m.change).1).flat) (b:=s.acc.flat) (m:=6) (c:=8) PQ PM rfl Qq (eZ (a8 ((gC s.acc m.epoch m.ballot m.change).1))) (eZ (a8 s.acc)) ⟨iE O7 Pb (eZ (a8 ((gC s.acc m.epoch m.ballot m.change).1))),iE O7 Pb (eZ (a8 s.acc))⟩ (OkAc.wf) (OkAc.wf) rfl rfl rfl) ?_;refine iT ?_ ?_<;>intro h45;refine DN (ac J9 (CY (ab λ_ J10=>sr λ_ J11=>PS ?_)));refine FA 177 be aR ?_;refine LU 1 Y3 (eL m rfl) ?_;refine FA 178 be cw ?_;refine LV 1 kf cw aq oA (y:=m.ballot) ?_;refine FA 182 be fq ?_;refine LV 1 ng fq aJ MsgT.sp_change (y:=m.change) ?_;refine tp (lv RecT.zero (RecT.mk 4 0 RowT.zero m.epoch m.ballot m.change ViewT.zero) [(0,[Value.int .i64 4]),(3,[Value.int .i64 m.epoch]),(4,ints m.ballot.flat),(5,ints m.change.flat)] ef e6 (g:=RecT.sg)) ?_;refine CE xa (lp V r s (mx m.epoch m.ballot m.change)) ID ?_;refine PS ?_;refine ao ?_ ?_<;>intro h55;refine nx J11 (CY (ai (af (af (WK [0] (dK rfl ?_))))));exact MQ (by rw[pn,if_neg h23,if_neg (by rw[h38];decide),if_pos h45,if_pos h55]);refine nx J11 (CN (qx J10 (ad (PS ?_))));refine LW 2 pK fG a8 ?_;refine PS ?_;refine FA 1058 de fG ?_
 refine gS (vs:=ints ((gC s.acc m.epoch m.ballot m.change).1).flat) (i:=0) (aa rfl) rfl rfl rfl rfl rfl (by rw[(a8 ((gC s.acc m.epoch m.ballot m.change).1))];exact fG) (bk _) rfl rfl (λ_=>LC (cT _) (a8 _)) (λa_=>(kE ((ej V.toDk s (mx m.epoch m.ballot m.change)).rep a_) 0 rfl (by have h1:=(a8 ((gC s.acc m.epoch m.ballot m.change).1));omega) (ct ((a8 (((ej V.toDk s (mx m.epoch m.ballot m.change)).rep a_).acc)).trans (a8 ((gC s.acc m.epoch m.ballot m.change).1)).symm)))) (nx J8 (ad (P3 ?_)));refine FA 177 be aR ?_;refine LU 1 Y3 (eL m rfl) ?_;refine FA 178 be cw ?_;refine LV 1 kf cw aq oA (y:=m.ballot) ?_;refine tp (lv MsgT.zero (MsgT.mk 6 0 RowT.zero 0 m.epoch m.ballot BallotT.zero ChangeT.zero ViewT.zero) [(0,[Value.int .i64 6]),(4,[Value.int .i64 m.epoch]),(5,ints m.ballot.flat)] be bv (g:=MsgT.sg)) ?_;refine CZ jh (gk V r (xZ (ej V.toDk s (mx m.epoch m.ballot m.change)) (gC s.acc m.epoch m.ballot m.change).1) from' (jR m.epoch m.ballot) (λs_=>rA V.toDk s_ s_.id (jR m.epoch m.ballot)) (λ_=>rz V r (xZ (ej V.toDk s (mx m.epoch m.ballot m.change)) (gC s.acc m.epoch m.ballot m.change).1) (xZ (ej V.toDk s (mx m.epoch m.ballot m.change)) (gC s.acc m.epoch m.ballot m.change).1).id (jR m.epoch m.ballot) (λ_=>hep) rfl)) ID λvR=>?_
 refine ap (WK [0] (bu rfl ?_));exact MQ (by rw[pn,if_neg h23,if_neg (by rw[h38];decide),if_pos h45,if_neg h55];rfl);refine DN (ac J9 (CN (qx J8 (ad (P3 ?_)))));refine FA 177 be aR ?_;refine LU 1 Y3 (eL m rfl) ?_;refine FA 178 be cw ?_;refine LV 1 kf cw aq oA (y:=m.ballot) ?_;refine tp (lv MsgT.zero (MsgT.mk 6 0 RowT.zero 0 m.epoch m.ballot BallotT.zero ChangeT.zero ViewT.zero) [(0,[Value.int .i64 6]),(4,[Value.int .i64 m.epoch]),(5,ints m.ballot.flat)] be bv (g:=MsgT.sg)) ?_;refine CZ jh (gk V r s from' (jR m.epoch m.ballot) (λs_=>rA V.toDk s_ s_.id (jR m.epoch m.ballot)) (λ_=>rz V r s s.id (jR m.epoch m.ballot) (λ_=>hep) rfl)) ID λvR=>?_
 refine ap (WK [0] (bu rfl ?_));exact MQ (by rw[pn,if_neg h23,if_neg (by rw[h38];decide),if_neg h45];rfl);refine PS ?_;refine nx J7 (CY (ai (af (WK [0] (dK rfl ?_)))));exact MQ (by rw[pn,if_neg h23,if_pos h38]);refine DC mixed (cU 0 rfl rfl) (BL 1) ?_;refine PD 0 ?_;refine PD 1 ?_;refine FD 2 1058 de fG ?_;refine ta 3 rfl (fX (vs:=ints s.acc.flat) rfl pK rfl fG rfl (λ_ h=>h.2.1) (a8 s.acc) (λa_=>(yL (s.rep a_) 0 rfl (by decide) (whole (a8 ((s.rep a_).acc)))))) ?_;refine FD 4 177 be aR ?_;refine LR 5 Y3 (eL m rfl) ?_;refine FD 6 178 be cw ?_;refine ta 7 rfl (aN (vs:=ints m.ballot.flat) rfl kf rfl cw rfl (λ_ h=>h.2.2.1) (aq m.ballot) (iY m 0 rfl (by decide) (whole (aq m.ballot)))) ?_;refine FD 8 182 be fq ?_;refine ta 9 rfl (aN (vs:=ints m.change.flat) rfl ng rfl fq rfl (λ_ h=>h.2.2.1) (aJ m.change) (nr m 0 rfl (by decide) (whole (aJ m.change)))) ?_;refine cE [10,14] (by kernel_rfl) rfl (aF rfl ?_ ?_);refine CE Ml (vf s.acc m.epoch m.ballot m.change) ID ?_;refine EN (PD 11 ?_);refine PD 12 ?_;refine PD 13 ?_;refine oy ?_ ?_<;>intro h37;refine AL 14 ?_;refine XZ Ir (ints AccT.zero.flat) λb10=>?_
 refine EN (AL 15 ?_);refine SW 0 fG a8 ?_;refine EN (PD 16 ?_);refine DN ?_
 exact aE
  (aK (aK (aK (aK (aK (bA rfl (by rw[h37]) SB))))))
  (λ_ s=>ak [1,1,0] rfl s)
  (tl5 ((b10):(Nat)) trivial)
 refine AL 14 ?_;refine XZ Ir (ints AccT.zero.flat) λb10=>?_
 refine EN (AL 15 ?_);refine SW 0 fG a8 ?_;refine EN (PD 16 ?_);refine DN ?_
 exact aE
  (aK (aK (aK (aK (aK (bA rfl (by rw[h37]) SB))))))
  (λ_ s=>ak [1,1,0] rfl s)
  (tl5 ((b10):(Nat)) trivial)
 refine aF rfl ?_ ?_;refine XZ Ir (ints AccT.zero.flat) λb10=>?_
 refine EN (AL 10 ?_);refine CE Ml (vf s.acc m.epoch m.ballot m.change) ID ?_;refine EN (PD 11 ?_);refine PD 12 ?_;refine PD 13 ?_;refine oy ?_ ?_<;>intro h37;refine AL 15 ?_;refine SW 0 fG a8 ?_;refine EN (PD 16 ?_);refine DN ?_
 exact aE
  (aK (aK (aK (aK (aK (bA rfl (by rw[h37]) SB))))))
  (λ_ s=>ak [1,1,0] rfl s)
  (tl5 ((b10):(Nat)) trivial)
 refine AL 15 ?_;refine SW 0 fG a8 ?_;refine EN (PD 16 ?_);refine DN ?_
 exact aE
  (aK (aK (aK (aK (aK (bA rfl (by rw[h37]) SB))))))
  (λ_ s=>ak [1,1,0] rfl s)
  (tl5 ((b10):(Nat)) trivial)
 exact bB;refine DC mixed (cU 1 rfl rfl) (BL 0) ?_;refine PD 0 ?_;refine PD 1 ?_;refine FD 2 2 de bg ?_;refine ta 3 rfl (fX (vs:=ints s.view.flat) rfl eH rfl bg rfl (λ_ h=>h.2.1) (an s.view) (λa_=>(fU (s.rep a_) 0 rfl (by decide) (whole (an ((s.rep a_).view)))))) ?_;refine FD 4 182 be fq ?_;refine ta 5 rfl (aN (vs:=ints m.change.flat) rfl ng rfl fq rfl (λ_ h=>h.2.2.1) (aJ m.change) (nr m 0 rfl (by decide) (whole (aJ m.change)))) ?_;refine cE [6,10] (by kernel_rfl) rfl (aF rfl ?_ ?_);refine CE m4 (dy s.view m.change OkVw.rng) ID ?_;refine EN (PD 7 ?_);refine PD 8 ?_;refine PD 9 ?_;refine AL 10 ?_;refine XZ sh (ints ViewT.zero.flat) λb8=>?_
 refine EN (AL 11 ?_);refine SW 0 bg an ?_;refine EN (PD 12 ?_);refine DN ?_
 exact aE
  SB
  (λ_ s=>ak [2,1] rfl s)
  (tl3 (():Unit) trivial)
 refine aF rfl ?_ ?_;refine XZ sh (ints ViewT.zero.flat) λb8=>?_
 refine EN (AL 6 ?_);refine CE m4 (dy s.view m.change OkVw.rng) ID ?_;refine EN (PD 7 ?_);refine PD 8 ?_;refine PD 9 ?_;refine AL 11 ?_;refine SW 0 bg an ?_;refine EN (PD 12 ?_);refine DN ?_
 exact aE
  SB
  (λ_ s=>ak [2,1] rfl s)
  (tl3 (():Unit) trivial)
 exact bB
theorem wo{δ:Type}(V:Env δ)(r:Nat)(s:MS δ)(from':Int)(m:MsgT)[OkR V.toDk s][OkMg m](hfe:from'=s.id→m.epoch=s.view.epoch)(hk:m.kind=5):TK V r 82 s from' m (tH V.toDk s from' m):=oK (by omega) (kK V r s (pn V.toDk from' m) from' m hfe (λe _=>by omega) (λ_ hep=>yi V r (dv s (max s.round m.ballot.round)) from' m hep) (λe=>by omega) (λe=>by omega))
theorem yn{δ:Type}(V:Env δ)(r vb:Nat)(s:MS δ)(vt:VoteT)(hv:s.vote=some vt)(hpt:vt.putting=true)[OkR V.toDk s][OkVt vt]:
 DT 92 #[(.pointer (some ⟨r,0,none⟩)),(.iface V.T V.ov)] T0 [vT V r s (.pointer (some ⟨vb,0,none⟩)),ah vb (VoteT.cells vt) 207] (dm (λ_ H=>H=[cJ V r (kU V.toDk s vt)])):=by
 refine BD 68 Tryz.func92 rfl rfl rfl λw0 F hF=>ab λ_ J1=>e5 (α:=(Nat)) (λb4=>True) (λb4=>[(0,(.pointer (some ⟨r,0,none⟩))),(1,(.iface V.T V.ov)),(4,(.pointer (some ⟨b4,0,none⟩)))]) (λb4=>[vT V r s (.pointer (some ⟨vb,0,none⟩)),ah vb (VoteT.cells vt) 207,ah b4 (ints (fB s.view.epoch vt.ballot).flat) 163]) (λb4 hinv=>?_) (λtl1=>?_)
 have _:=hinv;refine ac J1 (ab λ_ J2=>sr λ_ J3=>P2 ?_);refine FA 1067 de mU ?_;refine LG 0 pA (.pointer (some ⟨vb,0,none⟩)) ?_ (hc:=by exact λa_=>(bX _ rfl));refine CE Mu (nV vb vt) (SM [1]) ?_;refine bc ?_ ?_<;>intro h22;refine nx J3 (CY (ad (P2 ?_)));refine FA 1067 de mU ?_;refine LG 1 pA (.pointer (some ⟨vb,0,none⟩)) ?_ (hc:=by exact λa_=>(bX _ rfl));refine CE ub (dd vb vt) ID ?_;refine FA 0 be aR ?_;refine SS 2 aR (aG _) (MsgT.set_kind _ rfl _) ?_;refine FA 182 be fq ?_;refine SP 2 fq aJ aG Pj ?_;refine nx J2 (sr λ_ J4=>cm (H':=cJ V r s::[ah b4 (ints (MsgT.mk 5 ((fB s.view.epoch vt.ballot).whose) ((fB s.view.epoch vt.ballot).row) ((fB s.view.epoch vt.ballot).version) ((fB s.view.epoch vt.ballot).epoch) ((fB s.view.epoch vt.ballot).ballot) ((fB s.view.epoch vt.ballot).had) vt.change ((fB s.view.epoch vt.ballot).view)).flat) 163]) (λ_ q=>og hv (aC [1,0] rfl q)) (P2 ?_));refine FA 2 de bg ?_;refine LZ 0 eH bg an s.view ?_ (hc:=by exact λ_=>cS _);refine XZ sh (ints ViewT.zero.flat) λb5=>?_
 refine SW 0 bg an ?_;refine nx J4 (ab λ_ J5=>sr λ_ J6=>PS ?_);refine nx J6 (au ?_)
 refine bn (α:=(Nat)) (λk=>k≤5) (λk=>[(0,(.pointer (some ⟨r,0,none⟩))),(1,(.iface V.T V.ov)),(4,(.pointer (some ⟨b4,0,none⟩))),(5,(.pointer (some ⟨b5,0,none⟩))),(34,(.int .i64 (((k:Nat):Int))))]) (λk=>[ah b5 (ints s.view.flat) 32,ah b4 (ints (je s.view.epoch vt.ballot vt.change).flat) 163,cJ V r (iP V.toDk s (oa s.id (je s.view.epoch vt.ballot vt.change) (λi=>iQ s.view ((i:Nat):Int)) k))]) (λk=>5-k) 0
  (aM _) SB
  (λ_ q=>by
  rw[show oa s.id (je s.view.epoch vt.ballot vt.change) (λi=>iQ s.view ((i:Nat):Int)) 0=[]from rfl,p4]
  exact ak [0,1,0] rfl q) (λk hinv=>?_)
 obtain hk:=hinv;refine sr λ_ J7=>PS ?_
 refine ao ?_ ?_<;>intro h35;refine nx J7 (ab λ_ J8=>CY (qx J8 (ab λ_ J9=>au (sr λ_ J10=>P2 ?_))));refine nx J10 (sr λ_ J11=>P3 ?_);refine FA 0 de aR ?_;refine LG 2 Y3 (.int .i64 (s.id)) ?_ (hc:=by exact λa_=>(cF _ rfl));refine PS ?_;refine ao ?_ ?_<;>intro h42;refine PS ?_;refine LW 0 eH bg an ?_;refine PS ?_;refine CE qa (dE s.view ((k:Nat):Int)) ID ?_;refine bc ?_ ?_<;>intro h46;refine PS ?_;refine nx J11 (CY (ad (P3 ?_)));refine LW 1 be cd aG ?_;refine CZ jh (nZ V r s (oa s.id (je s.view.epoch vt.ballot vt.change) (λi=>iQ s.view ((i:Nat):Int)) k) ((k:Nat):Int) (je s.view.epoch vt.ballot vt.change) h42) (SM [2]) λvR=>?_
 refine ap (ag (ac J9 (ad (AD ?_))));refine PS ?_;refine ap ?_
 exact aI ((k+1):(Nat)) (by omega) (by show 5- (k+1)<5-k;omega)
  SB
  (λ_ q=>by
   rw[iD,if_pos ⟨h42,h46⟩]
   exact ak [1,1,0] rfl q)
 refine PS ?_;refine nx J11 (CN (aT (ag (ac J9 (ad (AD ?_))))));refine PS ?_;refine ap ?_
 exact aI ((k+1):(Nat)) (by omega) (by show 5- (k+1)<5-k;omega)
  SB
  (λ_ q=>by
   rw[iD,if_neg (λh=>by have:=h.2;rw[h46]at this;cases this)];rw[aP]
   exact ak [0,0,0] rfl q)
 refine PS ?_
 iterate 3 refine UF ?_
 refine PS ?_;refine nx J11 (CN (aT (ag (ac J9 (ad (AD ?_))))));refine PS ?_;refine ap ?_
 exact aI ((k+1):(Nat)) (by omega) (by show 5- (k+1)<5-k;omega)
  SB
  (λ_ q=>by
   rw[iD,if_neg (λh=>h42 h.1)];rw[aP]
   exact ak [0,0,0] rfl q)
 obtain rfl:k=5:=by omega
 refine nx J7 (ab λ_ J12=>CN (aX (aA (aA (bl (ac J5 (ab λ_ J13=>DC mixed (BL 0) (cU 2 rfl rfl) ?_)))))));refine LY 0 eH bg an ?_;refine PD 1 ?_;refine PD 2 ?_;refine FD 3 0 de aR ?_;refine ta 4 rfl (di (v:=(.int .i64 ((jM V.toDk s (je s.view.epoch vt.ballot vt.change)).id))) rfl Y3 rfl rfl (λ_ h=>h.2.2.1) (λa_=>(cF _ rfl))) ?_;refine AL 5 ?_;refine CE qa (dE s.view ((jM V.toDk s (je s.view.epoch vt.ballot vt.change)).id)) ID ?_;refine bc ?_ ?_<;>intro h59;refine EN (DN (ac J13 (CY (D1 1 mixed ?_))));refine PD 0 ?_;refine PD 1 ?_;refine PD 2 ?_;refine PD 3 ?_;refine FD 4 0 de aR ?_;refine LY 6 be cd aG ?_;refine AL 5 ?_;refine LG 2 Y3 (.int .i64 ((jM V.toDk s (je s.view.epoch vt.ballot vt.change)).id)) ?_ (hc:=by exact λa_=>(cF _ rfl));refine EN (AL 7 ?_);refine CZ jh (gk V r (jM V.toDk s (je s.view.epoch vt.ballot vt.change)) s.id (je s.view.epoch vt.ballot vt.change) (λs_=>tH V.toDk s_ s_.id (je s.view.epoch vt.ballot vt.change)) (λ_=>wo V r (jM V.toDk s (je s.view.epoch vt.ballot vt.change)) s.id (je s.view.epoch vt.ballot vt.change) (λ_=>rfl) rfl)) (SM [2]) λvR=>?_
 refine EN (DN (WK [0] (bu rfl ?_)));exact MQ (by rw[kU,jT,if_pos (show iQ s.view s.id=true from h59),nz,if_pos (show s.id=(jM V.toDk s (je s.view.epoch vt.ballot vt.change)).id from rfl)]<;>rfl);refine EN (DN (ac J13 (CN (aT (WK [2] (bu rfl ?_))))));exact MQ (by rw[kU,jT,if_neg (by rw[show iQ s.view s.id=false from h59];decide)]<;>rfl)
 · rw[hpt]at h22;cases h22
 refine D1 1 mixed ?_;refine PD 0 ?_;refine PD 1 ?_;refine FD 2 2 de bg ?_;refine FD 3 2 eH aR ?_;refine PD 5 ?_;refine PD 6 ?_;refine FD 7 1067 de mU ?_;refine cE [4,8,11] (by kernel_rfl) rfl (aF rfl ?_ ?_);refine LG 0 Y3 (.int .i64 (s.view.epoch)) ?_ (hc:=by exact λa_=>(cg (s.rep ⟨(a_:Nat×Value).1,(.pointer (some ⟨vb,0,none⟩)),a_.2⟩) 0 rfl (by decide) (bb _ rfl)));refine EN (cE [8,11] (by kernel_rfl) rfl (aF rfl ?_ ?_));refine LG 0 pA (.pointer (some ⟨vb,0,none⟩)) ?_ (hc:=by exact λa_=>(bX _ rfl));refine EN (cE [9,11] (by kernel_rfl) rfl (aF rfl ?_ ?_));refine CE jI (bM vb vt) (SM [1]) ?_;refine EN (ta 10 rfl (lv MsgT.zero (MsgT.mk 3 0 RowT.zero 0 s.view.epoch vt.ballot BallotT.zero ChangeT.zero ViewT.zero) [(0,[Value.int .i64 3]),(4,[Value.int .i64 s.view.epoch]),(5,ints vt.ballot.flat)] be bv (g:=MsgT.sg)) ?_);refine AL 11 ?_;refine XZ mw (ints MsgT.zero.flat) λb4=>?_
 refine EN (AL 12 ?_);refine SW 0 cd aG ?_;refine EN (DN ?_)
 exact aE
  SB
  (λ_ s=>ak [2,1,0] rfl s)
  (tl1 ((b4):(Nat)) trivial)
 refine aF rfl ?_ ?_;refine XZ mw (ints MsgT.zero.flat) λb4=>?_
 refine EN (AL 9 ?_);refine CE jI (bM vb vt) (SM [2]) ?_;refine EN (ta 10 rfl (lv MsgT.zero (MsgT.mk 3 0 RowT.zero 0 s.view.epoch vt.ballot BallotT.zero ChangeT.zero ViewT.zero) [(0,[Value.int .i64 3]),(4,[Value.int .i64 s.view.epoch]),(5,ints vt.ballot.flat)] be bv (g:=MsgT.sg)) ?_);refine AL 12 ?_;refine SW 1 cd aG ?_;refine EN (DN ?_)
 exact aE
  SB
  (λ_ s=>ak [2,0,0] rfl s)
  (tl1 ((b4):(Nat)) trivial)
 exact bB;refine aF rfl ?_ ?_;refine XZ mw (ints MsgT.zero.flat) λb4=>?_
 refine EN (AL 8 ?_);refine LG 1 pA (.pointer (some ⟨vb,0,none⟩)) ?_ (hc:=by exact λa_=>(bX _ rfl));refine EN (AL 9 ?_);refine CE jI (bM vb vt) (SM [2]) ?_;refine EN (ta 10 rfl (lv MsgT.zero (MsgT.mk 3 0 RowT.zero 0 s.view.epoch vt.ballot BallotT.zero ChangeT.zero ViewT.zero) [(0,[Value.int .i64 3]),(4,[Value.int .i64 s.view.epoch]),(5,ints vt.ballot.flat)] be bv (g:=MsgT.sg)) ?_);refine AL 12 ?_;refine SW 1 cd aG ?_;refine EN (DN ?_)
 exact aE
  SB
  (λ_ s=>ak [2,0,0] rfl s)
  (tl1 ((b4):(Nat)) trivial)
 exact bB;refine aF rfl ?_ ?_;refine LG 0 pA (.pointer (some ⟨vb,0,none⟩)) ?_ (hc:=by exact λa_=>(bX _ rfl));refine EN (cE [4,9,11] (by kernel_rfl) rfl (aF rfl ?_ ?_));refine LG 0 Y3 (.int .i64 (s.view.epoch)) ?_ (hc:=by exact λa_=>(cg (s.rep ⟨(a_:Nat×Value).1,(.pointer (some ⟨vb,0,none⟩)),a_.2⟩) 0 rfl (by decide) (bb _ rfl)));refine EN (cE [9,11] (by kernel_rfl) rfl (aF rfl ?_ ?_));refine CE jI (bM vb vt) (SM [1]) ?_;refine EN (ta 10 rfl (lv MsgT.zero (MsgT.mk 3 0 RowT.zero 0 s.view.epoch vt.ballot BallotT.zero ChangeT.zero ViewT.zero) [(0,[Value.int .i64 3]),(4,[Value.int .i64 s.view.epoch]),(5,ints vt.ballot.flat)] be bv (g:=MsgT.sg)) ?_);refine AL 11 ?_;refine XZ mw (ints MsgT.zero.flat) λb4=>?_
 refine EN (AL 12 ?_);refine SW 0 cd aG ?_;refine EN (DN ?_)
 exact aE
  SB
  (λ_ s=>ak [2,1,0] rfl s)
  (tl1 ((b4):(Nat)) trivial)
 refine aF rfl ?_ ?_;refine XZ mw (ints MsgT.zero.flat) λb4=>?_
 refine EN (AL 9 ?_);refine CE jI (bM vb vt) (SM [2]) ?_;refine EN (ta 10 rfl (lv MsgT.zero (MsgT.mk 3 0 RowT.zero 0 s.view.epoch vt.ballot BallotT.zero ChangeT.zero ViewT.zero) [(0,[Value.int .i64 3]),(4,[Value.int .i64 s.view.epoch]),(5,ints vt.ballot.flat)] be bv (g:=MsgT.sg)) ?_);refine AL 12 ?_;refine SW 1 cd aG ?_;refine EN (DN ?_)
 exact aE
  SB
  (λ_ s=>ak [2,0,0] rfl s)
  (tl1 ((b4):(Nat)) trivial)
 exact bB;refine aF rfl ?_ ?_;refine CE jI (bM vb vt) (SM [1]) ?_;refine EN (cE [4,11] (by kernel_rfl) rfl (aF rfl ?_ ?_));refine LG 1 Y3 (.int .i64 (s.view.epoch)) ?_ (hc:=by exact λa_=>(cg (s.rep ⟨(a_:Nat×Value).1,(.pointer (some ⟨vb,0,none⟩)),a_.2⟩) 0 rfl (by decide) (bb _ rfl)));refine EN (ta 10 rfl (lv MsgT.zero (MsgT.mk 3 0 RowT.zero 0 s.view.epoch vt.ballot BallotT.zero ChangeT.zero ViewT.zero) [(0,[Value.int .i64 3]),(4,[Value.int .i64 s.view.epoch]),(5,ints vt.ballot.flat)] be bv (g:=MsgT.sg)) ?_);refine AL 11 ?_;refine XZ mw (ints MsgT.zero.flat) λb4=>?_
 refine EN (AL 12 ?_);refine SW 0 cd aG ?_;refine EN (DN ?_)
 exact aE
  SB
  (λ_ s=>ak [2,1,0] rfl s)
  (tl1 ((b4):(Nat)) trivial)
 refine aF rfl ?_ ?_;refine XZ mw (ints MsgT.zero.flat) λb4=>?_
 refine EN (AL 4 ?_);refine LG 2 Y3 (.int .i64 (s.view.epoch)) ?_ (hc:=by exact λa_=>(cg (s.rep ⟨(a_:Nat×Value).1,(.pointer (some ⟨vb,0,none⟩)),a_.2⟩) 0 rfl (by decide) (bb _ rfl)));refine EN (ta 10 rfl (lv MsgT.zero (MsgT.mk 3 0 RowT.zero 0 s.view.epoch vt.ballot BallotT.zero ChangeT.zero ViewT.zero) [(0,[Value.int .i64 3]),(4,[Value.int .i64 s.view.epoch]),(5,ints vt.ballot.flat)] be bv (g:=MsgT.sg)) ?_);refine AL 12 ?_;refine SW 0 cd aG ?_;refine EN (DN ?_)
 exact aE
  SB
  (λ_ s=>ak [2,1,0] rfl s)
  (tl1 ((b4):(Nat)) trivial)
 exact bB;refine aF rfl ?_ ?_;refine XZ mw (ints MsgT.zero.flat) λb4=>?_
 refine EN (cE [4,9] (by kernel_rfl) rfl (aF rfl ?_ ?_));refine LG 1 Y3 (.int .i64 (s.view.epoch)) ?_ (hc:=by exact λa_=>(cg (s.rep ⟨(a_:Nat×Value).1,(.pointer (some ⟨vb,0,none⟩)),a_.2⟩) 0 rfl (by decide) (bb _ rfl)));refine EN (AL 9 ?_);refine CE jI (bM vb vt) (SM [2]) ?_;refine EN (ta 10 rfl (lv MsgT.zero (MsgT.mk 3 0 RowT.zero 0 s.view.epoch vt.ballot BallotT.zero ChangeT.zero ViewT.zero) [(0,[Value.int .i64 3]),(4,[Value.int .i64 s.view.epoch]),(5,ints vt.ballot.flat)] be bv (g:=MsgT.sg)) ?_);refine AL 12 ?_;refine SW 1 cd aG ?_;refine EN (DN ?_)
 exact aE
  SB
  (λ_ s=>ak [2,0,0] rfl s)
  (tl1 ((b4):(Nat)) trivial)
 refine aF rfl ?_ ?_;refine CE jI (bM vb vt) (SM [2]) ?_;refine EN (AL 4 ?_);refine LG 2 Y3 (.int .i64 (s.view.epoch)) ?_ (hc:=by exact λa_=>(cg (s.rep ⟨(a_:Nat×Value).1,(.pointer (some ⟨vb,0,none⟩)),a_.2⟩) 0 rfl (by decide) (bb _ rfl)));refine EN (ta 10 rfl (lv MsgT.zero (MsgT.mk 3 0 RowT.zero 0 s.view.epoch vt.ballot BallotT.zero ChangeT.zero ViewT.zero) [(0,[Value.int .i64 3]),(4,[Value.int .i64 s.view.epoch]),(5,ints vt.ballot.flat)] be bv (g:=MsgT.sg)) ?_);refine AL 12 ?_;refine SW 1 cd aG ?_;refine EN (DN ?_)
 exact aE
  SB
  (λ_ s=>ak [2,0,0] rfl s)
  (tl1 ((b4):(Nat)) trivial)
 exact bB;exact bB;refine aF rfl ?_ ?_;refine XZ mw (ints MsgT.zero.flat) λb4=>?_
 refine EN (cE [4,8] (by kernel_rfl) rfl (aF rfl ?_ ?_));refine LG 1 Y3 (.int .i64 (s.view.epoch)) ?_ (hc:=by exact λa_=>(cg (s.rep ⟨(a_:Nat×Value).1,(.pointer (some ⟨vb,0,none⟩)),a_.2⟩) 0 rfl (by decide) (bb _ rfl)));refine EN (AL 8 ?_);refine LG 1 pA (.pointer (some ⟨vb,0,none⟩)) ?_ (hc:=by exact λa_=>(bX _ rfl));refine EN (AL 9 ?_);refine CE jI (bM vb vt) (SM [2]) ?_;refine EN (ta 10 rfl (lv MsgT.zero (MsgT.mk 3 0 RowT.zero 0 s.view.epoch vt.ballot BallotT.zero ChangeT.zero ViewT.zero) [(0,[Value.int .i64 3]),(4,[Value.int .i64 s.view.epoch]),(5,ints vt.ballot.flat)] be bv (g:=MsgT.sg)) ?_);refine AL 12 ?_;refine SW 1 cd aG ?_;refine EN (DN ?_)
 exact aE
  SB
  (λ_ s=>ak [2,0,0] rfl s)
  (tl1 ((b4):(Nat)) trivial)
 refine aF rfl ?_ ?_;refine LG 1 pA (.pointer (some ⟨vb,0,none⟩)) ?_ (hc:=by exact λa_=>(bX _ rfl));refine EN (cE [4,9] (by kernel_rfl) rfl (aF rfl ?_ ?_));refine LG 1 Y3 (.int .i64 (s.view.epoch)) ?_ (hc:=by exact λa_=>(cg (s.rep ⟨(a_:Nat×Value).1,(.pointer (some ⟨vb,0,none⟩)),a_.2⟩) 0 rfl (by decide) (bb _ rfl)));refine EN (AL 9 ?_);refine CE jI (bM vb vt) (SM [2]) ?_;refine EN (ta 10 rfl (lv MsgT.zero (MsgT.mk 3 0 RowT.zero 0 s.view.epoch vt.ballot BallotT.zero ChangeT.zero ViewT.zero) [(0,[Value.int .i64 3]),(4,[Value.int .i64 s.view.epoch]),(5,ints vt.ballot.flat)] be bv (g:=MsgT.sg)) ?_);refine AL 12 ?_;refine SW 1 cd aG ?_;refine EN (DN ?_)
 exact aE
  SB
  (λ_ s=>ak [2,0,0] rfl s)
  (tl1 ((b4):(Nat)) trivial)
 refine aF rfl ?_ ?_;refine CE jI (bM vb vt) (SM [2]) ?_;refine EN (AL 4 ?_);refine LG 2 Y3 (.int .i64 (s.view.epoch)) ?_ (hc:=by exact λa_=>(cg (s.rep ⟨(a_:Nat×Value).1,(.pointer (some ⟨vb,0,none⟩)),a_.2⟩) 0 rfl (by decide) (bb _ rfl)));refine EN (ta 10 rfl (lv MsgT.zero (MsgT.mk 3 0 RowT.zero 0 s.view.epoch vt.ballot BallotT.zero ChangeT.zero ViewT.zero) [(0,[Value.int .i64 3]),(4,[Value.int .i64 s.view.epoch]),(5,ints vt.ballot.flat)] be bv (g:=MsgT.sg)) ?_);refine AL 12 ?_;refine SW 1 cd aG ?_;refine EN (DN ?_)
 exact aE
  SB
  (λ_ s=>ak [2,0,0] rfl s)
  (tl1 ((b4):(Nat)) trivial)
 exact bB;exact bB;exact bB
theorem sR{δ:Type}(V:Env δ)(r:Nat)(s:MS δ)(vt:VoteT)(hv:s.vote=some vt)(hpt:vt.putting=true)[OkR V.toDk s]:DT 92 #[.pointer (some ⟨r,0,none⟩), .iface V.T V.ov] T0 [cJ V r s] (dm (λ_ H=>H=[cJ V r (kU V.toDk s vt)])):=
 have:OkVt vt:=OkR.vote vt hv
 Leg.Does.ex (λ_ q=>m6 hv q) λvb=>yn V r vb s vt hv hpt
theorem rB{δ:Type}(V:Env δ)(r:Nat)(s:MS δ)(from':Int)(m:MsgT)[OkR V.toDk s][OkMg m](hfe:from'=s.id→m.epoch=s.view.epoch)(hk:m.kind=4):TK V r 82 s from' m (rC V.toDk s from' m):=oK (by omega) (by
 cases hv:s.vote with
 |none=>exact kK V r s (pS V.toDk from' m) from' m hfe (λe=>by omega) (λe=>by omega) (λ_=>by rw[pS,show(dv s (max s.round m.ballot.round)).vote=none from hv]) (λ_=>hv)
 |some vt=>
  have hov:OkVt vt:=OkR.vote vt hv;have h:=pW V r s vt from' m hfe (.inl hk) hv (λ_ h2=>sR V r (lE (dv s (max s.round m.ballot.round)) (eQ vt from' m.ballot m.had m.change).1) (eQ vt from' m.ballot m.had m.change).1 rfl (D5 h2))
  rwa [show(λs_:MS δ=>if m.kind=4 then pS V.toDk from' m s_ else lF V.toDk from' m s_)=pS V.toDk from' m from funext λ_=>if_pos hk]at h)
theorem yj{δ:Type}(V:Env δ)(r:Nat)(s:MS δ)(from':Int)(m:MsgT)[OkR V.toDk s][OkMg m](hep:m.epoch=s.view.epoch):
 DT 160 #[(.pointer (some ⟨r,0,none⟩)),(.iface V.T V.ov),(.int .i64 (from')),(.agg (ints m.flat).toArray)] T0 [cJ V r s] (dm (λ_ H=>H=[cJ V r (qy V.toDk from' m s)])):=by
 refine BD 57 Tryz.func160 rfl rfl rfl λw0 F hF=>?_
 have hpm:OkMg (kT m.epoch m.ballot (bW s.acc m.epoch m.ballot).1.had (bW s.acc m.epoch m.ballot).1.change):=OkMg.promM m.epoch inferInstance;refine sr λ_ J1=>XY (ints m.flat) λb7=>?_
 refine nx J1 (ab λ_ J2=>e5 (α:=(Nat)) (λb8=>True) (λb8=>[(0,(.pointer (some ⟨r,0,none⟩))),(1,(.iface V.T V.ov)),(2,(.int .i64 (from'))),(7,(.pointer (some ⟨b7,0,none⟩))),(8,(.pointer (some ⟨b8,0,none⟩))),(9,(.bool ((bW s.acc m.epoch m.ballot).2)))]) (λb8=>[cJ V r s,ah b7 (ints m.flat) 163,ah b8 (ints ((bW s.acc m.epoch m.ballot).1).flat) 82]) (λb8 hinv=>?_) (λtl2=>?_));have _:=hinv;refine ac J2 (ab λ_ J3=>sr λ_ J4=>PS ?_);refine bc ?_ ?_<;>intro h22;refine PS ?_;refine nx J4 (CN (qx J3 (ab λ_ J5=>ab λ_ J6=>DC mixed (BL 2) (cU 0 rfl rfl) ?_)));refine FD 0 1 pK cw ?_;refine ta 1 rfl (aN (vs:=ints (((bW s.acc m.epoch m.ballot).1).vow).flat) rfl kf rfl cw rfl (λ_ h=>h.2.1) (aq (((bW s.acc m.epoch m.ballot).1).vow)) (Q2 ((bW s.acc m.epoch m.ballot).1) 0 rfl (by decide) (whole (aq (((bW s.acc m.epoch m.ballot).1).vow))))) ?_;refine PD 2 ?_;refine PD 3 ?_;refine FD 4 1058 de fG ?_;refine FD 5 1059 pK cw ?_;refine ta 6 rfl (fX (vs:=ints s.acc.vow.flat) rfl kf rfl cw rfl (λ_ h=>h.2.2.1) (aq s.acc.vow) (λa_=>(yL (s.rep a_) 1 rfl (by decide) (Q2 ((s.rep a_).acc) 0 rfl (by decide) (whole (aq (((s.rep a_).acc).vow))))))) ?_
 refine ta 7 rfl (L7 (a:=(((bW s.acc m.epoch m.ballot).1).vow).flat) (b:=s.acc.vow.flat) (m:=6) (c:=2) M1 MY rfl Nu (eZ (aq (((bW s.acc m.epoch m.ballot).1).vow))) (eZ (aq s.acc.vow)) ⟨iE HZ Ib (eZ (aq (((bW s.acc m.epoch m.ballot).1).vow))),iE HZ Ib (eZ (aq s.acc.vow))⟩ (OkAc.vow inferInstance) (OkAc.vow inferInstance) rfl rfl rfl) ?_;refine iT ?_ ?_<;>intro h31;refine DN (ac J6 (CY (ab λ_ J7=>sr λ_ J8=>PS ?_)));refine FA 177 be aR ?_;refine LU 1 Y3 (eL m rfl) ?_;refine FA 178 be cw ?_;refine LV 1 kf cw aq oA (y:=m.ballot) ?_;refine tp (lv RecT.zero (RecT.mk 3 0 RowT.zero m.epoch m.ballot ChangeT.zero ViewT.zero) [(0,[Value.int .i64 3]),(3,[Value.int .i64 m.epoch]),(4,ints m.ballot.flat)] ef e6 (g:=RecT.sg)) ?_;refine CE xa (lp V r s (gZ m.epoch m.ballot)) ID ?_;refine PS ?_;refine ao ?_ ?_<;>intro h39;refine nx J8 (CY (ai (af (af (WK [0] (dK rfl ?_))))));exact MQ (by rw[qy,if_neg (by rw[h22];decide),if_pos h31,if_pos h39]);refine nx J8 (CN (qx J7 (ad (PS ?_))));refine LW 2 pK fG a8 ?_;refine PS ?_;refine FA 1058 de fG ?_
 refine gS (vs:=ints ((bW s.acc m.epoch m.ballot).1).flat) (i:=0) (aa rfl) rfl rfl rfl rfl rfl (by rw[(a8 ((bW s.acc m.epoch m.ballot).1))];exact fG) (bk _) rfl rfl (λ_=>LC (cT _) (a8 _)) (λa_=>(kE ((ej V.toDk s (gZ m.epoch m.ballot)).rep a_) 0 rfl (by have h1:=(a8 ((bW s.acc m.epoch m.ballot).1));omega) (ct ((a8 (((ej V.toDk s (gZ m.epoch m.ballot)).rep a_).acc)).trans (a8 ((bW s.acc m.epoch m.ballot).1)).symm)))) (nx J5 (ad (P3 ?_)));refine FA 177 be aR ?_;refine LU 1 Y3 (eL m rfl) ?_;refine FA 178 be cw ?_;refine LV 1 kf cw aq oA (y:=m.ballot) ?_;refine FA 3 pK cw ?_;refine LV 2 kf cw aq AccT.sp_had (y:=(((bW s.acc m.epoch m.ballot).1).had)) ?_;refine FA 5 pK fq ?_;refine LV 2 ng fq aJ AccT.sp_change (y:=(((bW s.acc m.epoch m.ballot).1).change)) ?_;refine tp (lv MsgT.zero (MsgT.mk 4 0 RowT.zero 0 m.epoch m.ballot (((bW s.acc m.epoch m.ballot).1).had) (((bW s.acc m.epoch m.ballot).1).change) ViewT.zero) [(0,[Value.int .i64 4]),(4,[Value.int .i64 m.epoch]),(5,ints m.ballot.flat),(6,ints (((bW s.acc m.epoch m.ballot).1).had).flat),(7,ints (((bW s.acc m.epoch m.ballot).1).change).flat)] be bv (g:=MsgT.sg)) ?_
 refine CZ jh (gk V r (xZ (ej V.toDk s (gZ m.epoch m.ballot)) (bW s.acc m.epoch m.ballot).1) from' (kT m.epoch m.ballot (bW s.acc m.epoch m.ballot).1.had (bW s.acc m.epoch m.ballot).1.change) (λs_=>rC V.toDk s_ s_.id (kT m.epoch m.ballot (bW s.acc m.epoch m.ballot).1.had (bW s.acc m.epoch m.ballot).1.change)) (λ_=>rB V r (xZ (ej V.toDk s (gZ m.epoch m.ballot)) (bW s.acc m.epoch m.ballot).1) (xZ (ej V.toDk s (gZ m.epoch m.ballot)) (bW s.acc m.epoch m.ballot).1).id (kT m.epoch m.ballot (bW s.acc m.epoch m.ballot).1.had (bW s.acc m.epoch m.ballot).1.change) (λ_=>hep) rfl)) ID λvR=>?_
 refine ap (WK [0] (bu rfl ?_));exact MQ (by rw[qy,if_neg (by rw[h22];decide),if_pos h31,if_neg h39];rfl);refine DN (ac J6 (CN (qx J5 (ad (P3 ?_)))));refine FA 177 be aR ?_;refine LU 1 Y3 (eL m rfl) ?_;refine FA 178 be cw ?_;refine LV 1 kf cw aq oA (y:=m.ballot) ?_;refine FA 3 pK cw ?_;refine LV 2 kf cw aq AccT.sp_had (y:=(((bW s.acc m.epoch m.ballot).1).had)) ?_;refine FA 5 pK fq ?_;refine LV 2 ng fq aJ AccT.sp_change (y:=(((bW s.acc m.epoch m.ballot).1).change)) ?_;refine tp (lv MsgT.zero (MsgT.mk 4 0 RowT.zero 0 m.epoch m.ballot (((bW s.acc m.epoch m.ballot).1).had) (((bW s.acc m.epoch m.ballot).1).change) ViewT.zero) [(0,[Value.int .i64 4]),(4,[Value.int .i64 m.epoch]),(5,ints m.ballot.flat),(6,ints (((bW s.acc m.epoch m.ballot).1).had).flat),(7,ints (((bW s.acc m.epoch m.ballot).1).change).flat)] be bv (g:=MsgT.sg)) ?_;refine CZ jh (gk V r s from' (kT m.epoch m.ballot (bW s.acc m.epoch m.ballot).1.had (bW s.acc m.epoch m.ballot).1.change) (λs_=>rC V.toDk s_ s_.id (kT m.epoch m.ballot (bW s.acc m.epoch m.ballot).1.had (bW s.acc m.epoch m.ballot).1.change)) (λ_=>rB V r s s.id (kT m.epoch m.ballot (bW s.acc m.epoch m.ballot).1.had (bW s.acc m.epoch m.ballot).1.change) (λ_=>hep) rfl)) ID λvR=>?_
 refine ap (WK [0] (bu rfl ?_));exact MQ (by rw[qy,if_neg (by rw[h22];decide),if_neg h31];rfl);refine PS ?_;refine nx J4 (CY (ai (af (WK [0] (dK rfl ?_)))));exact MQ (by rw[qy,if_pos h22]);refine DC mixed (cU 1 rfl rfl) (BL 0) ?_;refine PD 0 ?_;refine PD 1 ?_;refine FD 2 1058 de fG ?_;refine ta 3 rfl (fX (vs:=ints s.acc.flat) rfl pK rfl fG rfl (λ_ h=>h.2.1) (a8 s.acc) (λa_=>(yL (s.rep a_) 0 rfl (by decide) (whole (a8 ((s.rep a_).acc)))))) ?_;refine FD 4 177 be aR ?_;refine LR 5 Y3 (eL m rfl) ?_;refine FD 6 178 be cw ?_;refine ta 7 rfl (aN (vs:=ints m.ballot.flat) rfl kf rfl cw rfl (λ_ h=>h.2.2.1) (aq m.ballot) (iY m 0 rfl (by decide) (whole (aq m.ballot)))) ?_;refine cE [8,12] (by kernel_rfl) rfl (aF rfl ?_ ?_);refine CE F4 (nE s.acc m.epoch m.ballot) ID ?_;refine EN (PD 9 ?_);refine PD 10 ?_;refine PD 11 ?_;refine oy ?_ ?_<;>intro h21;refine AL 12 ?_;refine XZ Ir (ints AccT.zero.flat) λb8=>?_
 refine EN (AL 13 ?_);refine SW 0 fG a8 ?_;refine EN (PD 14 ?_);refine DN ?_
 exact aE
  (aK (aK (aK (aK (aK (bA rfl (by rw[h21]) SB))))))
  (λ_ s=>ak [2,1,0] rfl s)
  (tl2 ((b8):(Nat)) trivial)
 refine AL 12 ?_;refine XZ Ir (ints AccT.zero.flat) λb8=>?_
 refine EN (AL 13 ?_);refine SW 0 fG a8 ?_;refine EN (PD 14 ?_);refine DN ?_
 exact aE
  (aK (aK (aK (aK (aK (bA rfl (by rw[h21]) SB))))))
  (λ_ s=>ak [2,1,0] rfl s)
  (tl2 ((b8):(Nat)) trivial)
 refine aF rfl ?_ ?_;refine XZ Ir (ints AccT.zero.flat) λb8=>?_
 refine EN (AL 8 ?_);refine CE F4 (nE s.acc m.epoch m.ballot) ID ?_;refine EN (PD 9 ?_);refine PD 10 ?_;refine PD 11 ?_;refine oy ?_ ?_<;>intro h21;refine AL 13 ?_;refine SW 0 fG a8 ?_;refine EN (PD 14 ?_);refine DN ?_
 exact aE
  (aK (aK (aK (aK (aK (bA rfl (by rw[h21]) SB))))))
  (λ_ s=>ak [2,1,0] rfl s)
  (tl2 ((b8):(Nat)) trivial)
 refine AL 13 ?_;refine SW 0 fG a8 ?_;refine EN (PD 14 ?_);refine DN ?_
 exact aE
  (aK (aK (aK (aK (aK (bA rfl (by rw[h21]) SB))))))
  (λ_ s=>ak [2,1,0] rfl s)
  (tl2 ((b8):(Nat)) trivial)
 exact bB
theorem wq{δ:Type}(V:Env δ)(r:Nat)(s:MS δ)(from':Int)(m:MsgT)[OkR V.toDk s][OkMg m](hfe:from'=s.id→m.epoch=s.view.epoch)(hk:m.kind=3):TK V r 82 s from' m (tI V.toDk s from' m):=oK (by omega) (kK V r s (qy V.toDk from' m) from' m hfe (λ_ hep=>yj V r (dv s (max s.round m.ballot.round)) from' m hep) (λe _=>by omega) (λe=>by omega) (λe=>by omega))
theorem yo{δ:Type}(V:Env δ)(r vb:Nat)(s:MS δ)(vt:VoteT)(hv:s.vote=some vt)(hpt:vt.putting=false)[OkR V.toDk s][OkVt vt]:
 DT 92 #[(.pointer (some ⟨r,0,none⟩)),(.iface V.T V.ov)] T0 [vT V r s (.pointer (some ⟨vb,0,none⟩)),ah vb (VoteT.cells vt) 207] (dm (λ_ H=>H=[cJ V r (mZ V.toDk s vt)])):=by
 refine BD 68 Tryz.func92 rfl rfl rfl λw0 F hF=>ab λ_ J1=>e5 (α:=(Nat)) (λb4=>True) (λb4=>[(0,(.pointer (some ⟨r,0,none⟩))),(1,(.iface V.T V.ov)),(4,(.pointer (some ⟨b4,0,none⟩)))]) (λb4=>[vT V r s (.pointer (some ⟨vb,0,none⟩)),ah vb (VoteT.cells vt) 207,ah b4 (ints (fB s.view.epoch vt.ballot).flat) 163]) (λb4 hinv=>?_) (λtl1=>?_)
 have _:=hinv;refine ac J1 (ab λ_ J2=>sr λ_ J3=>P2 ?_);refine FA 1067 de mU ?_;refine LG 0 pA (.pointer (some ⟨vb,0,none⟩)) ?_ (hc:=by exact λa_=>(bX _ rfl));refine CE Mu (nV vb vt) (SM [1]) ?_;refine bc ?_ ?_<;>intro h22
 · rw[hpt]at h22;cases h22
 refine nx J3 (CN (qx J2 (sr λ_ J4=>cm (H':=cJ V r s::[ah b4 (ints (fB s.view.epoch vt.ballot).flat) 163]) (λ_ q=>og hv (aC [1,0] rfl q)) (P2 ?_))));refine FA 2 de bg ?_;refine LZ 0 eH bg an s.view ?_ (hc:=by exact λ_=>cS _);refine XZ sh (ints ViewT.zero.flat) λb5=>?_
 refine SW 0 bg an ?_;refine nx J4 (ab λ_ J5=>sr λ_ J6=>PS ?_);refine nx J6 (au ?_)
 refine bn (α:=(Nat)) (λk=>k≤5) (λk=>[(0,(.pointer (some ⟨r,0,none⟩))),(1,(.iface V.T V.ov)),(4,(.pointer (some ⟨b4,0,none⟩))),(5,(.pointer (some ⟨b5,0,none⟩))),(34,(.int .i64 (((k:Nat):Int))))]) (λk=>[ah b5 (ints s.view.flat) 32,ah b4 (ints (fB s.view.epoch vt.ballot).flat) 163,cJ V r (iP V.toDk s (oa s.id (fB s.view.epoch vt.ballot) (λi=>iQ s.view ((i:Nat):Int)) k))]) (λk=>5-k) 0
  (aM _) SB
  (λ_ q=>by
  rw[show oa s.id (fB s.view.epoch vt.ballot) (λi=>iQ s.view ((i:Nat):Int)) 0=[]from rfl,p4]
  exact ak [0,1,0] rfl q) (λk hinv=>?_)
 obtain hk:=hinv;refine sr λ_ J7=>PS ?_
 refine ao ?_ ?_<;>intro h35;refine nx J7 (ab λ_ J8=>CY (qx J8 (ab λ_ J9=>au (sr λ_ J10=>P2 ?_))));refine nx J10 (sr λ_ J11=>P3 ?_);refine FA 0 de aR ?_;refine LG 2 Y3 (.int .i64 (s.id)) ?_ (hc:=by exact λa_=>(cF _ rfl));refine PS ?_;refine ao ?_ ?_<;>intro h42;refine PS ?_;refine LW 0 eH bg an ?_;refine PS ?_;refine CE qa (dE s.view ((k:Nat):Int)) ID ?_;refine bc ?_ ?_<;>intro h46;refine PS ?_;refine nx J11 (CY (ad (P3 ?_)));refine LW 1 be cd aG ?_;refine CZ jh (nZ V r s (oa s.id (fB s.view.epoch vt.ballot) (λi=>iQ s.view ((i:Nat):Int)) k) ((k:Nat):Int) (fB s.view.epoch vt.ballot) h42) (SM [2]) λvR=>?_
 refine ap (ag (ac J9 (ad (AD ?_))));refine PS ?_;refine ap ?_
 exact aI ((k+1):(Nat)) (by omega) (by show 5- (k+1)<5-k;omega)
  SB
  (λ_ q=>by
   rw[iD,if_pos ⟨h42,h46⟩]
   exact ak [1,1,0] rfl q)
 refine PS ?_;refine nx J11 (CN (aT (ag (ac J9 (ad (AD ?_))))));refine PS ?_;refine ap ?_
 exact aI ((k+1):(Nat)) (by omega) (by show 5- (k+1)<5-k;omega)
  SB
  (λ_ q=>by
   rw[iD,if_neg (λh=>by have:=h.2;rw[h46]at this;cases this)];rw[aP]
   exact ak [0,0,0] rfl q)
 refine PS ?_
 iterate 3 refine UF ?_
 refine PS ?_;refine nx J11 (CN (aT (ag (ac J9 (ad (AD ?_))))));refine PS ?_;refine ap ?_
 exact aI ((k+1):(Nat)) (by omega) (by show 5- (k+1)<5-k;omega)
  SB
  (λ_ q=>by
   rw[iD,if_neg (λh=>h42 h.1)];rw[aP]
   exact ak [0,0,0] rfl q)
 obtain rfl:k=5:=by omega
 refine nx J7 (ab λ_ J12=>CN (aX (aA (aA (bl (ac J5 (ab λ_ J13=>DC mixed (BL 0) (cU 2 rfl rfl) ?_)))))));refine LY 0 eH bg an ?_;refine PD 1 ?_;refine PD 2 ?_;refine FD 3 0 de aR ?_;refine ta 4 rfl (di (v:=(.int .i64 ((jM V.toDk s (fB s.view.epoch vt.ballot)).id))) rfl Y3 rfl rfl (λ_ h=>h.2.2.1) (λa_=>(cF _ rfl))) ?_;refine AL 5 ?_;refine CE qa (dE s.view ((jM V.toDk s (fB s.view.epoch vt.ballot)).id)) ID ?_;refine bc ?_ ?_<;>intro h59;refine EN (DN (ac J13 (CY (D1 1 mixed ?_))));refine PD 0 ?_;refine PD 1 ?_;refine PD 2 ?_;refine PD 3 ?_;refine FD 4 0 de aR ?_;refine LY 6 be cd aG ?_;refine AL 5 ?_;refine LG 2 Y3 (.int .i64 ((jM V.toDk s (fB s.view.epoch vt.ballot)).id)) ?_ (hc:=by exact λa_=>(cF _ rfl));refine EN (AL 7 ?_);refine CZ jh (gk V r (jM V.toDk s (fB s.view.epoch vt.ballot)) s.id (fB s.view.epoch vt.ballot) (λs_=>tI V.toDk s_ s_.id (fB s.view.epoch vt.ballot)) (λ_=>wq V r (jM V.toDk s (fB s.view.epoch vt.ballot)) s.id (fB s.view.epoch vt.ballot) (λ_=>rfl) rfl)) (SM [2]) λvR=>?_
 refine EN (DN (WK [0] (bu rfl ?_)));exact MQ (by rw[mZ,jT,if_pos (show iQ s.view s.id=true from h59),nz,if_pos (show s.id=(jM V.toDk s (fB s.view.epoch vt.ballot)).id from rfl)]<;>rfl);refine EN (DN (ac J13 (CN (aT (WK [2] (bu rfl ?_))))));exact MQ (by rw[mZ,jT,if_neg (by rw[show iQ s.view s.id=false from h59];decide)]<;>rfl);refine D1 1 mixed ?_;refine PD 0 ?_;refine PD 1 ?_;refine FD 2 2 de bg ?_;refine FD 3 2 eH aR ?_;refine PD 5 ?_;refine PD 6 ?_;refine FD 7 1067 de mU ?_;refine cE [4,8,11] (by kernel_rfl) rfl (aF rfl ?_ ?_);refine LG 0 Y3 (.int .i64 (s.view.epoch)) ?_ (hc:=by exact λa_=>(cg (s.rep ⟨(a_:Nat×Value).1,(.pointer (some ⟨vb,0,none⟩)),a_.2⟩) 0 rfl (by decide) (bb _ rfl)));refine EN (cE [8,11] (by kernel_rfl) rfl (aF rfl ?_ ?_));refine LG 0 pA (.pointer (some ⟨vb,0,none⟩)) ?_ (hc:=by exact λa_=>(bX _ rfl));refine EN (cE [9,11] (by kernel_rfl) rfl (aF rfl ?_ ?_));refine CE jI (bM vb vt) (SM [1]) ?_;refine EN (ta 10 rfl (lv MsgT.zero (MsgT.mk 3 0 RowT.zero 0 s.view.epoch vt.ballot BallotT.zero ChangeT.zero ViewT.zero) [(0,[Value.int .i64 3]),(4,[Value.int .i64 s.view.epoch]),(5,ints vt.ballot.flat)] be bv (g:=MsgT.sg)) ?_);refine AL 11 ?_;refine XZ mw (ints MsgT.zero.flat) λb4=>?_
 refine EN (AL 12 ?_);refine SW 0 cd aG ?_;refine EN (DN ?_)
 exact aE
  SB
  (λ_ s=>ak [2,1,0] rfl s)
  (tl1 ((b4):(Nat)) trivial)
 refine aF rfl ?_ ?_;refine XZ mw (ints MsgT.zero.flat) λb4=>?_
 refine EN (AL 9 ?_);refine CE jI (bM vb vt) (SM [2]) ?_;refine EN (ta 10 rfl (lv MsgT.zero (MsgT.mk 3 0 RowT.zero 0 s.view.epoch vt.ballot BallotT.zero ChangeT.zero ViewT.zero) [(0,[Value.int .i64 3]),(4,[Value.int .i64 s.view.epoch]),(5,ints vt.ballot.flat)] be bv (g:=MsgT.sg)) ?_);refine AL 12 ?_;refine SW 1 cd aG ?_;refine EN (DN ?_)
 exact aE
  SB
  (λ_ s=>ak [2,0,0] rfl s)
  (tl1 ((b4):(Nat)) trivial)
 exact bB;refine aF rfl ?_ ?_;refine XZ mw (ints MsgT.zero.flat) λb4=>?_
 refine EN (AL 8 ?_);refine LG 1 pA (.pointer (some ⟨vb,0,none⟩)) ?_ (hc:=by exact λa_=>(bX _ rfl));refine EN (AL 9 ?_);refine CE jI (bM vb vt) (SM [2]) ?_;refine EN (ta 10 rfl (lv MsgT.zero (MsgT.mk 3 0 RowT.zero 0 s.view.epoch vt.ballot BallotT.zero ChangeT.zero ViewT.zero) [(0,[Value.int .i64 3]),(4,[Value.int .i64 s.view.epoch]),(5,ints vt.ballot.flat)] be bv (g:=MsgT.sg)) ?_);refine AL 12 ?_;refine SW 1 cd aG ?_;refine EN (DN ?_)
 exact aE
  SB
  (λ_ s=>ak [2,0,0] rfl s)
  (tl1 ((b4):(Nat)) trivial)
 exact bB;refine aF rfl ?_ ?_;refine LG 0 pA (.pointer (some ⟨vb,0,none⟩)) ?_ (hc:=by exact λa_=>(bX _ rfl));refine EN (cE [4,9,11] (by kernel_rfl) rfl (aF rfl ?_ ?_));refine LG 0 Y3 (.int .i64 (s.view.epoch)) ?_ (hc:=by exact λa_=>(cg (s.rep ⟨(a_:Nat×Value).1,(.pointer (some ⟨vb,0,none⟩)),a_.2⟩) 0 rfl (by decide) (bb _ rfl)));refine EN (cE [9,11] (by kernel_rfl) rfl (aF rfl ?_ ?_));refine CE jI (bM vb vt) (SM [1]) ?_;refine EN (ta 10 rfl (lv MsgT.zero (MsgT.mk 3 0 RowT.zero 0 s.view.epoch vt.ballot BallotT.zero ChangeT.zero ViewT.zero) [(0,[Value.int .i64 3]),(4,[Value.int .i64 s.view.epoch]),(5,ints vt.ballot.flat)] be bv (g:=MsgT.sg)) ?_);refine AL 11 ?_;refine XZ mw (ints MsgT.zero.flat) λb4=>?_
 refine EN (AL 12 ?_);refine SW 0 cd aG ?_;refine EN (DN ?_)
 exact aE
  SB
  (λ_ s=>ak [2,1,0] rfl s)
  (tl1 ((b4):(Nat)) trivial)
 refine aF rfl ?_ ?_;refine XZ mw (ints MsgT.zero.flat) λb4=>?_
 refine EN (AL 9 ?_);refine CE jI (bM vb vt) (SM [2]) ?_;refine EN (ta 10 rfl (lv MsgT.zero (MsgT.mk 3 0 RowT.zero 0 s.view.epoch vt.ballot BallotT.zero ChangeT.zero ViewT.zero) [(0,[Value.int .i64 3]),(4,[Value.int .i64 s.view.epoch]),(5,ints vt.ballot.flat)] be bv (g:=MsgT.sg)) ?_);refine AL 12 ?_;refine SW 1 cd aG ?_;refine EN (DN ?_)
 exact aE
  SB
  (λ_ s=>ak [2,0,0] rfl s)
  (tl1 ((b4):(Nat)) trivial)
 exact bB;refine aF rfl ?_ ?_;refine CE jI (bM vb vt) (SM [1]) ?_;refine EN (cE [4,11] (by kernel_rfl) rfl (aF rfl ?_ ?_));refine LG 1 Y3 (.int .i64 (s.view.epoch)) ?_ (hc:=by exact λa_=>(cg (s.rep ⟨(a_:Nat×Value).1,(.pointer (some ⟨vb,0,none⟩)),a_.2⟩) 0 rfl (by decide) (bb _ rfl)));refine EN (ta 10 rfl (lv MsgT.zero (MsgT.mk 3 0 RowT.zero 0 s.view.epoch vt.ballot BallotT.zero ChangeT.zero ViewT.zero) [(0,[Value.int .i64 3]),(4,[Value.int .i64 s.view.epoch]),(5,ints vt.ballot.flat)] be bv (g:=MsgT.sg)) ?_);refine AL 11 ?_;refine XZ mw (ints MsgT.zero.flat) λb4=>?_
 refine EN (AL 12 ?_);refine SW 0 cd aG ?_;refine EN (DN ?_)
 exact aE
  SB
  (λ_ s=>ak [2,1,0] rfl s)
  (tl1 ((b4):(Nat)) trivial)
 refine aF rfl ?_ ?_;refine XZ mw (ints MsgT.zero.flat) λb4=>?_
 refine EN (AL 4 ?_);refine LG 2 Y3 (.int .i64 (s.view.epoch)) ?_ (hc:=by exact λa_=>(cg (s.rep ⟨(a_:Nat×Value).1,(.pointer (some ⟨vb,0,none⟩)),a_.2⟩) 0 rfl (by decide) (bb _ rfl)));refine EN (ta 10 rfl (lv MsgT.zero (MsgT.mk 3 0 RowT.zero 0 s.view.epoch vt.ballot BallotT.zero ChangeT.zero ViewT.zero) [(0,[Value.int .i64 3]),(4,[Value.int .i64 s.view.epoch]),(5,ints vt.ballot.flat)] be bv (g:=MsgT.sg)) ?_);refine AL 12 ?_;refine SW 0 cd aG ?_;refine EN (DN ?_)
 exact aE
  SB
  (λ_ s=>ak [2,1,0] rfl s)
  (tl1 ((b4):(Nat)) trivial)
 exact bB;refine aF rfl ?_ ?_;refine XZ mw (ints MsgT.zero.flat) λb4=>?_
 refine EN (cE [4,9] (by kernel_rfl) rfl (aF rfl ?_ ?_));refine LG 1 Y3 (.int .i64 (s.view.epoch)) ?_ (hc:=by exact λa_=>(cg (s.rep ⟨(a_:Nat×Value).1,(.pointer (some ⟨vb,0,none⟩)),a_.2⟩) 0 rfl (by decide) (bb _ rfl)));refine EN (AL 9 ?_);refine CE jI (bM vb vt) (SM [2]) ?_;refine EN (ta 10 rfl (lv MsgT.zero (MsgT.mk 3 0 RowT.zero 0 s.view.epoch vt.ballot BallotT.zero ChangeT.zero ViewT.zero) [(0,[Value.int .i64 3]),(4,[Value.int .i64 s.view.epoch]),(5,ints vt.ballot.flat)] be bv (g:=MsgT.sg)) ?_);refine AL 12 ?_;refine SW 1 cd aG ?_;refine EN (DN ?_)
 exact aE
  SB
  (λ_ s=>ak [2,0,0] rfl s)
  (tl1 ((b4):(Nat)) trivial)
 refine aF rfl ?_ ?_;refine CE jI (bM vb vt) (SM [2]) ?_;refine EN (AL 4 ?_);refine LG 2 Y3 (.int .i64 (s.view.epoch)) ?_ (hc:=by exact λa_=>(cg (s.rep ⟨(a_:Nat×Value).1,(.pointer (some ⟨vb,0,none⟩)),a_.2⟩) 0 rfl (by decide) (bb _ rfl)));refine EN (ta 10 rfl (lv MsgT.zero (MsgT.mk 3 0 RowT.zero 0 s.view.epoch vt.ballot BallotT.zero ChangeT.zero ViewT.zero) [(0,[Value.int .i64 3]),(4,[Value.int .i64 s.view.epoch]),(5,ints vt.ballot.flat)] be bv (g:=MsgT.sg)) ?_);refine AL 12 ?_;refine SW 1 cd aG ?_;refine EN (DN ?_)
 exact aE
  SB
  (λ_ s=>ak [2,0,0] rfl s)
  (tl1 ((b4):(Nat)) trivial)
 exact bB;exact bB;refine aF rfl ?_ ?_;refine XZ mw (ints MsgT.zero.flat) λb4=>?_
 refine EN (cE [4,8] (by kernel_rfl) rfl (aF rfl ?_ ?_));refine LG 1 Y3 (.int .i64 (s.view.epoch)) ?_ (hc:=by exact λa_=>(cg (s.rep ⟨(a_:Nat×Value).1,(.pointer (some ⟨vb,0,none⟩)),a_.2⟩) 0 rfl (by decide) (bb _ rfl)));refine EN (AL 8 ?_);refine LG 1 pA (.pointer (some ⟨vb,0,none⟩)) ?_ (hc:=by exact λa_=>(bX _ rfl));refine EN (AL 9 ?_);refine CE jI (bM vb vt) (SM [2]) ?_;refine EN (ta 10 rfl (lv MsgT.zero (MsgT.mk 3 0 RowT.zero 0 s.view.epoch vt.ballot BallotT.zero ChangeT.zero ViewT.zero) [(0,[Value.int .i64 3]),(4,[Value.int .i64 s.view.epoch]),(5,ints vt.ballot.flat)] be bv (g:=MsgT.sg)) ?_);refine AL 12 ?_;refine SW 1 cd aG ?_;refine EN (DN ?_)
 exact aE
  SB
  (λ_ s=>ak [2,0,0] rfl s)
  (tl1 ((b4):(Nat)) trivial)
 refine aF rfl ?_ ?_;refine LG 1 pA (.pointer (some ⟨vb,0,none⟩)) ?_ (hc:=by exact λa_=>(bX _ rfl));refine EN (cE [4,9] (by kernel_rfl) rfl (aF rfl ?_ ?_));refine LG 1 Y3 (.int .i64 (s.view.epoch)) ?_ (hc:=by exact λa_=>(cg (s.rep ⟨(a_:Nat×Value).1,(.pointer (some ⟨vb,0,none⟩)),a_.2⟩) 0 rfl (by decide) (bb _ rfl)));refine EN (AL 9 ?_);refine CE jI (bM vb vt) (SM [2]) ?_;refine EN (ta 10 rfl (lv MsgT.zero (MsgT.mk 3 0 RowT.zero 0 s.view.epoch vt.ballot BallotT.zero ChangeT.zero ViewT.zero) [(0,[Value.int .i64 3]),(4,[Value.int .i64 s.view.epoch]),(5,ints vt.ballot.flat)] be bv (g:=MsgT.sg)) ?_);refine AL 12 ?_;refine SW 1 cd aG ?_;refine EN (DN ?_)
 exact aE
  SB
  (λ_ s=>ak [2,0,0] rfl s)
  (tl1 ((b4):(Nat)) trivial)
 refine aF rfl ?_ ?_;refine CE jI (bM vb vt) (SM [2]) ?_;refine EN (AL 4 ?_);refine LG 2 Y3 (.int .i64 (s.view.epoch)) ?_ (hc:=by exact λa_=>(cg (s.rep ⟨(a_:Nat×Value).1,(.pointer (some ⟨vb,0,none⟩)),a_.2⟩) 0 rfl (by decide) (bb _ rfl)));refine EN (ta 10 rfl (lv MsgT.zero (MsgT.mk 3 0 RowT.zero 0 s.view.epoch vt.ballot BallotT.zero ChangeT.zero ViewT.zero) [(0,[Value.int .i64 3]),(4,[Value.int .i64 s.view.epoch]),(5,ints vt.ballot.flat)] be bv (g:=MsgT.sg)) ?_);refine AL 12 ?_;refine SW 1 cd aG ?_;refine EN (DN ?_)
 exact aE
  SB
  (λ_ s=>ak [2,0,0] rfl s)
  (tl1 ((b4):(Nat)) trivial)
 exact bB;exact bB;exact bB
theorem AJ{δ:Type}(V:Env δ)(r:Nat)(s:MS δ)(vt:VoteT)(hv:s.vote=some vt)(hpt:vt.putting=false)[OkR V.toDk s]:DT 92 #[.pointer (some ⟨r,0,none⟩), .iface V.T V.ov] T0 [cJ V r s] (dm (λ_ H=>H=[cJ V r (mZ V.toDk s vt)])):=
 have:OkVt vt:=OkR.vote vt hv
 Leg.Does.ex (λ_ q=>m6 hv q) λvb=>yo V r vb s vt hv hpt
theorem rI{δ:Type}(V:Env δ)(r:Nat)(s:MS δ)(vt:VoteT)(hv:s.vote=some vt)[OkR V.toDk s]:DT 92 #[.pointer (some ⟨r,0,none⟩), .iface V.T V.ov] T0 [cJ V r s] (dm (λ_ H=>H=[cJ V r (n9 V.toDk s vt)])):=by
 cases hp:vt.putting with
 |true=>rw[n9,if_pos hp];exact sR V r s vt hv hp
 |false=>rw[n9,if_neg (by rw[hp];decide)];exact AJ V r s vt hv hp
theorem Aj{δ:Type}(V:Env δ)(r:Nat)(s:MS δ)(from':Int)(m:MsgT)[OkR V.toDk s][OkMg m](hto:from'≠s.id)(hrs:s.replies.length≤1000000):TK V r 82 s from' m (gj V.toDk s from' m):=by
 have hfe:from'=s.id→m.epoch=s.view.epoch:=λe=>absurd e hto
 by_cases h3:m.kind=3
 · rw[gj];simp only[h3];exact wq V r s from' m hfe h3
 by_cases h4:m.kind=4
 · rw[gj];simp only[h4];exact rB V r s from' m hfe h4
 by_cases h5:m.kind=5
 · rw[gj];simp only[h5];exact wo V r s from' m hfe h5
 by_cases h6:m.kind=6
 · rw[gj];simp only[h6];exact rz V r s from' m hfe h6
 refine oL V r s _ from' m (λh=>?_) (λh=>?_) (λh=>?_) (λh=>?_) (λh=>?_) (λh=>?_) (λh=>by omega) (λh=>?_)
 · rw[gj,if_pos h];exact yh V r s from' m hto
 · rw[gj,if_neg (by omega),if_pos h];exact wn V r s from' m hrs
 · rw[gj,if_neg (by omega),if_neg (by omega),if_pos h]
 · rw[gj,if_neg (by omega),if_neg (by omega),if_neg (by omega),if_pos h];exact uV V r s m.view
 · rw[gj,if_neg (by omega),if_neg (by omega),if_neg (by omega),if_neg (by omega),if_pos h];exact wm V r s from' m
 · rw[gj,if_neg (by omega),if_neg (by omega),if_neg (by omega),if_neg (by omega),if_neg (by omega),if_pos h];exact nX V r s from' m
 · rw[gj,if_neg h.1,if_neg h.2.1,if_neg h.2.2.1,if_neg h.2.2.2.1,if_neg h.2.2.2.2.1,if_neg h.2.2.2.2.2.1,if_neg h3,if_neg h4,if_neg h5,if_neg h6]
theorem qv{δ:Type}(V:Env δ)(r:Nat)(s:MS δ)(c:ChangeT)[OkR V.toDk s][OkCh c]:
 DT 91 #[(.pointer (some ⟨r,0,none⟩)),(.agg (ints c.flat).toArray)] T0 [cJ V r s] (RI (.int .i64 (cp V.toDk s c).2) [cJ V r (cp V.toDk s c).1]):=by
 refine BD 66 Tryz.func91 rfl rfl rfl λw0 F hF=>sr λ_ J1=>XY (ints c.flat) λb3=>?_
 refine PS ?_;refine nx J1 (ab λ_ J2=>e5 (α:=(Nat)) (λb5=>True) (λb5=>[(0,(.pointer (some ⟨r,0,none⟩))),(3,(.pointer (some ⟨b3,0,none⟩))),(4,(.int .i64 0)),(5,(.pointer (some ⟨b5,0,none⟩)))]) (λb5=>[cJ V r s,ah b3 (ints c.flat) 61,ah b5 (ints (eG s).flat) 80]) (λb5 hinv=>?_) (λtl2=>?_));have _:=hinv;refine ac J2 (ab λ_ J3=>e5 (α:=(Nat)) (λb6=>True) (λb6=>[(0,(.pointer (some ⟨r,0,none⟩))),(3,(.pointer (some ⟨b3,0,none⟩))),(4,(.int .i64 0)),(5,(.pointer (some ⟨b5,0,none⟩))),(6,(.pointer (some ⟨b6,0,none⟩))),(7,(.bool ((bW s.acc s.view.epoch (eG s)).2)))]) (λb6=>[cJ V r s,ah b3 (ints c.flat) 61,ah b5 (ints (eG s).flat) 80,ah b6 (ints ((bW s.acc s.view.epoch (eG s)).1).flat) 82]) (λb6 hinv=>?_) (λtl3=>?_));have _:=hinv;refine ac J3 (ab λ_ J4=>sr λ_ J5=>PS ?_);refine bc ?_ ?_<;>intro h33;refine PS ?_;refine nx J5 (CN (qx J4 (ab λ_ J6=>ab λ_ J7=>DC mixed (cU 0 rfl rfl) (BL 2) ?_)));refine PD 0 ?_;refine PD 1 ?_;refine PD 2 ?_;refine FD 3 2 de bg ?_;refine FD 4 2 eH aR ?_;refine ta 5 rfl (di (v:=(.int .i64 (s.view.epoch))) rfl Y3 rfl rfl (λ_ h=>h.2.1) (λa_=>(cg (s.rep a_) 0 rfl (by decide) (bb _ rfl)))) ?_;refine LY 6 kf cw aq ?_;refine ta 7 rfl (lv RecT.zero (RecT.mk 3 0 RowT.zero s.view.epoch (eG s) ChangeT.zero ViewT.zero) [(0,[Value.int .i64 3]),(3,[Value.int .i64 s.view.epoch]),(4,ints (eG s).flat)] ef e6 (g:=RecT.sg)) ?_
 refine AL 8 ?_;refine CE xa (lp V r s (gZ s.view.epoch (eG s))) ID ?_;refine EN (PD 9 ?_);refine DN (ac J7 (sr λ_ J8=>P2 ?_));refine ao ?_ ?_<;>intro h45;refine nx J8 (CY (sr λ_ J9=>P2 ?_));refine nx J9 (ai (af (WK [0] (av rfl rfl ?_))));have e:cp V.toDk s c=(ej V.toDk s (gZ s.view.epoch (eG s)),sQ V.toDk s (gZ s.view.epoch (eG s))):=by rw[cp,if_neg (by rw[h33];decide),if_pos h45]
 exact jH e;refine QJ (H':=λvo:Value=>vT V r (ej V.toDk s (gZ s.view.epoch (eG s))) vo::[ah b3 (ints c.flat) 61,ah b5 (ints (eG s).flat) 80,ah b6 (ints ((bW s.acc s.view.epoch (eG s)).1).flat) 82]) (λ_ q=>F8 q) (λvo=>nx J8 (CN (qx J6 (ab λ_ J10=>D2 3 2 mixed ?_))));refine PD 0 ?_;refine PD 1 ?_;refine LY 2 pK fG a8 ?_;refine FD 3 0 kf aR ?_;refine LX 4 Y3 (.int .i64 ((eG s).round)) ?_ (hc:=by exact e9 _ rfl);refine PD 5 ?_;refine FD 6 1058 de fG ?_;refine AL 7 ?_;refine gS (vs:=ints ((bW s.acc s.view.epoch (eG s)).1).flat) (i:=0) (aa rfl) rfl rfl rfl rfl rfl (by rw[(a8 ((bW s.acc s.view.epoch (eG s)).1))];exact fG) (bk _) rfl rfl (λ_=>LC (cT _) (a8 _)) (λa_=>(kE ((ej V.toDk s (gZ s.view.epoch (eG s))).rep ⟨(a_:Nat×Value).1,vo,a_.2⟩) 0 rfl (by have h1:=(a8 ((bW s.acc s.view.epoch (eG s)).1));omega) (ct ((a8 (((ej V.toDk s (gZ s.view.epoch (eG s))).rep ⟨(a_:Nat×Value).1,vo,a_.2⟩).acc)).trans (a8 ((bW s.acc s.view.epoch (eG s)).1)).symm)))) (EN (PD 8 ?_));refine FD 9 1066 de aR ?_;refine AL 10 ?_;refine SK 0 aR (λ_=>cT _) ?_ (hc:=by exact λa_=>(l4 _ rfl _));refine EN (DN (ac J10 (ab λ_ J11=>D2 2 1 mixed ?_)));refine PD 0 ?_;refine PD 1 ?_;refine PD 2 ?_;refine FD 3 2 de bg ?_;refine LY 5 kf cw aq ?_;refine LY 6 ng fq aJ ?_;refine AL 4 ?_;refine LZ 0 eH bg an s.view ?_ (hc:=by exact λ_=>cS _);refine EN (AL 7 ?_);refine CR OO (Aa s.view (eG s) c) ID λvR HR hR=>?_
 obtain⟨vb,rfl,rfl⟩:=hR;refine EN (PD 8 ?_);refine FD 9 1067 de mU ?_;refine AL 10 ?_;refine SK 1 mU (λ_=>cT _) ?_ (hc:=by exact λa_=>(Qz _ rfl _));refine EN (DN (ac J11 (sr λ_ J12=>PS ?_)));refine nx J12 (ai (aE (H':=[cJ V r (rX V.toDk s c)]) (db _) (λ_ q=>oe (ak [1,0] rfl q)) (av rfl rfl ?_)));have e:cp V.toDk s c=(rX V.toDk s c,0):=by rw[cp,if_neg (by rw[h33];decide),if_neg h45]
 exact jH e;refine PS ?_;refine nx J5 (CY (sr λ_ J13=>PS ?_));refine nx J13 (ai (af (WK [0] (av rfl rfl ?_))));have e:cp V.toDk s c=(s,6):=if_pos h33;exact jH e;refine DC mixed (cU 0 rfl rfl) (BL 2) ?_;refine PD 0 ?_;refine PD 1 ?_;refine FD 2 1058 de fG ?_;refine ta 3 rfl (fX (vs:=ints s.acc.flat) rfl pK rfl fG rfl (λ_ h=>h.2.1) (a8 s.acc) (λa_=>(yL (s.rep a_) 0 rfl (by decide) (whole (a8 ((s.rep a_).acc)))))) ?_;refine PD 4 ?_;refine PD 5 ?_;refine FD 6 2 de bg ?_;refine FD 7 2 eH aR ?_;refine ta 8 rfl (di (v:=(.int .i64 (s.view.epoch))) rfl Y3 rfl rfl (λ_ h=>h.2.1) (λa_=>(cg (s.rep a_) 0 rfl (by decide) (bb _ rfl)))) ?_;refine LY 9 kf cw aq ?_;refine cE [10,14] (by kernel_rfl) rfl (aF rfl ?_ ?_);refine CE F4 (nE s.acc s.view.epoch (eG s)) ID ?_;refine EN (PD 11 ?_);refine PD 12 ?_;refine PD 13 ?_;refine oy ?_ ?_<;>intro h32;refine AL 14 ?_;refine XZ Ir (ints AccT.zero.flat) λb6=>?_
 refine EN (AL 15 ?_);refine SW 0 fG a8 ?_;refine EN (PD 16 ?_);refine DN ?_
 exact aE
  (aK (aK (aK (aK (aK (bA rfl (by rw[h32]) SB))))))
  (λ_ s=>ak [1,1,1,0] rfl s)
  (tl3 ((b6):(Nat)) trivial)
 refine AL 14 ?_;refine XZ Ir (ints AccT.zero.flat) λb6=>?_
 refine EN (AL 15 ?_);refine SW 0 fG a8 ?_;refine EN (PD 16 ?_);refine DN ?_
 exact aE
  (aK (aK (aK (aK (aK (bA rfl (by rw[h32]) SB))))))
  (λ_ s=>ak [1,1,1,0] rfl s)
  (tl3 ((b6):(Nat)) trivial)
 refine aF rfl ?_ ?_;refine XZ Ir (ints AccT.zero.flat) λb6=>?_
 refine EN (AL 10 ?_);refine CE F4 (nE s.acc s.view.epoch (eG s)) ID ?_;refine EN (PD 11 ?_);refine PD 12 ?_;refine PD 13 ?_;refine oy ?_ ?_<;>intro h32;refine AL 15 ?_;refine SW 0 fG a8 ?_;refine EN (PD 16 ?_);refine DN ?_
 exact aE
  (aK (aK (aK (aK (aK (bA rfl (by rw[h32]) SB))))))
  (λ_ s=>ak [1,1,1,0] rfl s)
  (tl3 ((b6):(Nat)) trivial)
 refine AL 15 ?_;refine SW 0 fG a8 ?_;refine EN (PD 16 ?_);refine DN ?_
 exact aE
  (aK (aK (aK (aK (aK (bA rfl (by rw[h32]) SB))))))
  (λ_ s=>ak [1,1,1,0] rfl s)
  (tl3 ((b6):(Nat)) trivial)
 exact bB;refine DB mixed (cU 1 rfl rfl) ?_;refine PD 0 ?_;refine PD 1 ?_;refine FD 2 1066 de aR ?_;refine ta 3 rfl (di (v:=(.int .i64 (s.round))) rfl Y3 rfl rfl (λ_ h=>h.2.1) (λa_=>(vD _ rfl))) ?_;refine ta 4 rfl (cr (r:=(fQ (s.round+1))) rfl rfl rfl rfl) ?_;refine PD 5 ?_;refine PD 6 ?_;refine FD 7 0 de aR ?_;refine ta 8 rfl (di (v:=(.int .i64 (s.id))) rfl Y3 rfl rfl (λ_ h=>h.2.1) (λa_=>(cF _ rfl))) ?_;refine ta 9 rfl (lv BallotT.zero (BallotT.mk (fQ (s.round+1)) s.id) [(0,[Value.int .i64 (fQ (s.round+1))]),(1,[Value.int .i64 s.id])] kf Px (g:=BallotT.sg)) ?_;refine AL 10 ?_;refine XZ Pz (ints BallotT.zero.flat) λb5=>?_
 refine EN (AL 11 ?_);refine SW 0 cw aq ?_;refine EN (DN ?_)
 exact aE
  SB
  (λ_ s=>ak [2,1,0] rfl s)
  (tl2 ((b5):(Nat)) trivial)
theorem Bg{δ:Type}(V:Env δ)(r:Nat)(s:MS δ)(op:Int)(c:ChangeT)[OkR V.toDk s][OkCh c](hrs:s.replies.length≤1000000)(hv:s.vote=none):
 DT 72 #[(.pointer (some ⟨r,0,none⟩)),(.iface V.T V.ov),(.int .i64 (op)),(.agg (ints c.flat).toArray)] T0 [cJ V r s] (RI (.int .i64 (dX V.toDk s op c).2) [cJ V r (dX V.toDk s op c).1]):=by
 refine BD 44 Tryz.func72 rfl rfl rfl λw0 F hF=>sr λ_ J1=>XY (ints c.flat) λb7=>?_
 refine PS ?_;refine nx J1 (ab λ_ J2=>e5 (α:=Unit) (λ_u=>True) (λ_u=>[(0,(.pointer (some ⟨r,0,none⟩))),(1,(.iface V.T V.ov)),(2,(.int .i64 (op))),(7,(.pointer (some ⟨b7,0,none⟩))),(8,(.int .i64 0)),(10,(.int .i64 ((dM s.view c).2)))]) (λ_u=>[cJ V r s,ah b7 (ints c.flat) 61]) (λ_u hinv=>?_) (λtl2=>?_));have _:=hinv;refine ac J2 (ab λ_ J3=>sr λ_ J4=>cm (H':=vT V r s (.pointer none)::[ah b7 (ints c.flat) 61]) (λ_ q=>sV hv q) (P2 ?_));refine ao ?_ ?_<;>intro h21;refine P3 ?_;refine FA 1067 de mU ?_;refine LG 0 pA (.pointer none) ?_ (hc:=by exact λa_=>(bX _ rfl));refine tq (iX rfl pA rfl rfl) ?_;refine PS ?_;refine nx J4 (CN (qx J3 (ab λ_ J5=>sr λ_ J6=>cm (H':=cJ V r s::[ah b7 (ints c.flat) 61]) (λ_ q=>oh hv (aC [0] rfl q)) (P2 ?_))));refine ao ?_ ?_<;>intro h30;refine nx J6 (CY (ad (PS ?_)));refine LW 1 ng fq aJ ?_;refine CE Na (qv V r s c) ID ?_;refine PS ?_;refine nx J5 (sr λ_ J7=>P3 ?_);refine CZ ug (eY V r ((cp V.toDk s c).1) op ((cp V.toDk s c).2) 0 (by first|exact hrs| (rw[iF];exact hrs))) ID λvR=>?_
 refine nx J7 (ab λ_ J8=>sr λ_ J9=>P2 ?_);refine ao ?_ ?_<;>intro h39;refine nx J9 (CY (ad (P2 ?_)));refine CZ Lg (rI V r (dw ((cp V.toDk s c).1) op ((cp V.toDk s c).2) 0) (jy s.view (eG s) c) (rV h39)) ID λvR=>?_
 refine nx J8 (sr λ_ J10=>P2 ?_);refine nx J10 (ai (WK [0] (av rfl rfl ?_)));have e:dX V.toDk s op c=((n9 V.toDk (dw ((cp V.toDk s c).1) op ((cp V.toDk s c).2) 0) (jy s.view (eG s) c)),(cp V.toDk s c).2):=by rw[dX,show fF s c=(dM s.view c).2 by rw[fF,if_neg (λh=>by rw[hv]at h;exact absurd h.2 (by decide))],if_neg (by rw[h30];decide),if_neg (by rw[h39];decide),h39]
 exact jH e;refine nx J9 (CN (qx J8 (sr λ_ J11=>P2 ?_)));refine nx J11 (ai (WK [0] (av rfl rfl ?_)));have e:dX V.toDk s op c=((dw ((cp V.toDk s c).1) op ((cp V.toDk s c).2) 0),(cp V.toDk s c).2):=by rw[dX,show fF s c=(dM s.view c).2 by rw[fF,if_neg (λh=>by rw[hv]at h;exact absurd h.2 (by decide))],if_neg (by rw[h30];decide),if_pos h39]
 exact jH e;refine nx J6 (CN (qx J5 (sr λ_ J12=>P3 ?_)));refine CZ ug (eY V r s op ((dM s.view c).2) 0 (by first|exact hrs| (rw[iF];exact hrs))) ID λvR=>?_
 refine nx J12 (ab λ_ J13=>sr λ_ J14=>P2 ?_);refine ao ?_ ?_<;>intro h39
 · exact absurd h39 h30
 refine nx J14 (CN (qx J13 (sr λ_ J15=>P2 ?_)));refine nx J15 (ai (WK [0] (av rfl rfl ?_)));have e:dX V.toDk s op c=((dw s op ((dM s.view c).2) 0),(dM s.view c).2):=by rw[dX,show fF s c=(dM s.view c).2 by rw[fF,if_neg (λh=>h30 h.1)]];exact if_pos (by exact h30)
 exact jH e;refine PS ?_
 iterate 5 refine UF ?_
 refine PS ?_;refine nx J4 (CN (qx J3 (ab λ_ J16=>sr λ_ J17=>cm (H':=cJ V r s::[ah b7 (ints c.flat) 61]) (λ_ q=>oh hv (aC [0] rfl q)) (P2 ?_))));refine ao ?_ ?_<;>intro h30;refine nx J17 (CY (ad (PS ?_)));refine LW 1 ng fq aJ ?_;refine CE Na (qv V r s c) ID ?_;refine PS ?_;refine nx J16 (sr λ_ J18=>P3 ?_);refine CZ ug (eY V r ((cp V.toDk s c).1) op ((cp V.toDk s c).2) 0 (by first|exact hrs| (rw[iF];exact hrs))) ID λvR=>?_
 refine nx J18 (ab λ_ J19=>sr λ_ J20=>P2 ?_);refine ao ?_ ?_<;>intro h39;refine nx J20 (CY (ad (P2 ?_)));refine CZ Lg (rI V r (dw ((cp V.toDk s c).1) op ((cp V.toDk s c).2) 0) (jy s.view (eG s) c) (rV h39)) ID λvR=>?_
 refine nx J19 (sr λ_ J21=>P2 ?_);refine nx J21 (ai (WK [0] (av rfl rfl ?_)));have e:dX V.toDk s op c=((n9 V.toDk (dw ((cp V.toDk s c).1) op ((cp V.toDk s c).2) 0) (jy s.view (eG s) c)),(cp V.toDk s c).2):=by rw[dX,show fF s c=(dM s.view c).2 by rw[fF,if_neg (λh=>by rw[hv]at h;exact absurd h.2 (by decide))],if_neg (by rw[h30];decide),if_neg (by rw[h39];decide),h39]
 exact jH e;refine nx J20 (CN (qx J19 (sr λ_ J22=>P2 ?_)));refine nx J22 (ai (WK [0] (av rfl rfl ?_)));have e:dX V.toDk s op c=((dw ((cp V.toDk s c).1) op ((cp V.toDk s c).2) 0),(cp V.toDk s c).2):=by rw[dX,show fF s c=(dM s.view c).2 by rw[fF,if_neg (λh=>by rw[hv]at h;exact absurd h.2 (by decide))],if_neg (by rw[h30];decide),if_pos h39]
 exact jH e;refine nx J17 (CN (qx J16 (sr λ_ J23=>P3 ?_)));refine CZ ug (eY V r s op ((dM s.view c).2) 0 (by first|exact hrs| (rw[iF];exact hrs))) ID λvR=>?_
 refine nx J23 (ab λ_ J24=>sr λ_ J25=>P2 ?_);refine ao ?_ ?_<;>intro h39
 · exact absurd h39 h30
 refine nx J25 (CN (qx J24 (sr λ_ J26=>P2 ?_)));refine nx J26 (ai (WK [0] (av rfl rfl ?_)));have e:dX V.toDk s op c=((dw s op ((dM s.view c).2) 0),(dM s.view c).2):=by rw[dX,show fF s c=(dM s.view c).2 by rw[fF,if_neg (λh=>h30 h.1)]];exact if_pos (by exact h30)
 exact jH e;refine DC mixed (cU 1 rfl rfl) (BL 0) ?_;refine PD 0 ?_;refine PD 1 ?_;refine FD 2 2 de bg ?_;refine ta 3 rfl (fX (vs:=ints s.view.flat) rfl eH rfl bg rfl (λ_ h=>h.2.1) (an s.view) (λa_=>(fU (s.rep a_) 0 rfl (by decide) (whole (an ((s.rep a_).view)))))) ?_;refine LY 4 ng fq aJ ?_;refine cE [5,9] (by kernel_rfl) rfl (aF rfl ?_ ?_);refine CE m4 (dy s.view c OkVw.rng) ID ?_;refine EN (PD 6 ?_);refine PD 7 ?_;refine PD 8 ?_;refine AL 9 ?_;refine XZ sh (ints ViewT.zero.flat) λb9=>?_
 refine EN (AL 10 ?_);refine SW 0 bg an ?_;refine EN (PD 11 ?_);refine DN ?_
 exact aE
  SB
  (λ_ s=>ak [2,1] rfl s)
  (tl2 (():Unit) trivial)
 refine aF rfl ?_ ?_;refine XZ sh (ints ViewT.zero.flat) λb9=>?_
 refine EN (AL 5 ?_);refine CE m4 (dy s.view c OkVw.rng) ID ?_;refine EN (PD 6 ?_);refine PD 7 ?_;refine PD 8 ?_;refine AL 10 ?_;refine SW 0 bg an ?_;refine EN (PD 11 ?_);refine DN ?_
 exact aE
  SB
  (λ_ s=>ak [2,1] rfl s)
  (tl2 (():Unit) trivial)
 exact bB
theorem Bf{δ:Type}(V:Env δ)(r:Nat)(s:MS δ)(vt:VoteT)(op:Int)(c:ChangeT)[OkR V.toDk s][OkCh c](hrs:s.replies.length≤1000000)(hv:s.vote=some vt):
 DT 72 #[(.pointer (some ⟨r,0,none⟩)),(.iface V.T V.ov),(.int .i64 (op)),(.agg (ints c.flat).toArray)] T0 [cJ V r s] (RI (.int .i64 (dX V.toDk s op c).2) [cJ V r (dX V.toDk s op c).1]):=by
 refine BD 44 Tryz.func72 rfl rfl rfl λw0 F hF=>sr λ_ J1=>XY (ints c.flat) λb7=>?_
 refine PS ?_;refine nx J1 (ab λ_ J2=>e5 (α:=Unit) (λ_u=>True) (λ_u=>[(0,(.pointer (some ⟨r,0,none⟩))),(1,(.iface V.T V.ov)),(2,(.int .i64 (op))),(7,(.pointer (some ⟨b7,0,none⟩))),(8,(.int .i64 0)),(10,(.int .i64 ((dM s.view c).2)))]) (λ_u=>[cJ V r s,ah b7 (ints c.flat) 61]) (λ_u hinv=>?_) (λtl2=>?_));have _:=hinv;refine ac J2 (ab λ_ J3=>sr λ_ J4=>QJ (H':=λvb:Nat=>vT V r s (.pointer (some ⟨vb,0,none⟩))::ah vb (VoteT.cells vt) 207::[ah b7 (ints c.flat) 61]) (λ_ q=>m6 hv q) (λvb=>P2 ?_));refine ao ?_ ?_<;>intro h21;refine P3 ?_;refine FA 1067 de mU ?_;refine LG 0 pA (.pointer (some ⟨vb,0,none⟩)) ?_ (hc:=by exact λa_=>(bX _ rfl));refine tq (jq rfl pA rfl rfl) ?_;refine PS ?_;refine nx J4 (CY (ad (cm (H':=cJ V r s::[ah b7 (ints c.flat) 61]) (λ_ q=>og hv (aC [0,0] rfl q)) (PS ?_))));refine nx J3 (ab λ_ J5=>sr λ_ J6=>P2 ?_);refine nx J6 (CN (qx J5 (sr λ_ J7=>P3 ?_)));refine CZ ug (eY V r s op 8 0 (by first|exact hrs| (rw[iF];exact hrs))) ID λvR=>?_
 refine nx J7 (ab λ_ J8=>sr λ_ J9=>P2 ?_);refine nx J9 (CN (qx J8 (sr λ_ J10=>P2 ?_)));refine nx J10 (ai (WK [0] (av rfl rfl ?_)));have e:dX V.toDk s op c=((dw s op 8 0),8):=by rw[dX,show fF s c=8 by rw[fF,if_pos ⟨h21,by rw[hv];rfl⟩]];exact if_pos (by decide)
 exact jH e;refine PS ?_
 iterate 5 refine UF ?_
 refine PS ?_;refine nx J4 (CN (qx J3 (ab λ_ J11=>sr λ_ J12=>cm (H':=cJ V r s::[ah b7 (ints c.flat) 61]) (λ_ q=>og hv (aC [0,0] rfl q)) (P2 ?_))));refine ao ?_ ?_<;>intro h30
 · exact absurd h30 (by first|decide|exact h21)
 refine nx J12 (CN (qx J11 (sr λ_ J13=>P3 ?_)));refine CZ ug (eY V r s op ((dM s.view c).2) 0 (by first|exact hrs| (rw[iF];exact hrs))) ID λvR=>?_
 refine nx J13 (ab λ_ J14=>sr λ_ J15=>P2 ?_);refine ao ?_ ?_<;>intro h39
 · exact absurd h39 (by first|decide|exact h30)
 refine nx J15 (CN (qx J14 (sr λ_ J16=>P2 ?_)));refine nx J16 (ai (WK [0] (av rfl rfl ?_)));have e:dX V.toDk s op c=((dw s op ((dM s.view c).2) 0),(dM s.view c).2):=by rw[dX,show fF s c=(dM s.view c).2 by rw[fF,if_neg (λh=>h30 h.1)]];exact if_pos (by exact h30)
 exact jH e;refine DC mixed (cU 1 rfl rfl) (BL 0) ?_;refine PD 0 ?_;refine PD 1 ?_;refine FD 2 2 de bg ?_;refine ta 3 rfl (fX (vs:=ints s.view.flat) rfl eH rfl bg rfl (λ_ h=>h.2.1) (an s.view) (λa_=>(fU (s.rep a_) 0 rfl (by decide) (whole (an ((s.rep a_).view)))))) ?_;refine LY 4 ng fq aJ ?_;refine cE [5,9] (by kernel_rfl) rfl (aF rfl ?_ ?_);refine CE m4 (dy s.view c OkVw.rng) ID ?_;refine EN (PD 6 ?_);refine PD 7 ?_;refine PD 8 ?_;refine AL 9 ?_;refine XZ sh (ints ViewT.zero.flat) λb9=>?_
 refine EN (AL 10 ?_);refine SW 0 bg an ?_;refine EN (PD 11 ?_);refine DN ?_
 exact aE
  SB
  (λ_ s=>ak [2,1] rfl s)
  (tl2 (():Unit) trivial)
 refine aF rfl ?_ ?_;refine XZ sh (ints ViewT.zero.flat) λb9=>?_
 refine EN (AL 5 ?_);refine CE m4 (dy s.view c OkVw.rng) ID ?_;refine EN (PD 6 ?_);refine PD 7 ?_;refine PD 8 ?_;refine AL 10 ?_;refine SW 0 bg an ?_;refine EN (PD 11 ?_);refine DN ?_
 exact aE
  SB
  (λ_ s=>ak [2,1] rfl s)
  (tl2 (():Unit) trivial)
 exact bB
theorem Be{δ:Type}(V:Env δ)(r:Nat)(s:MS δ)(op:Int)(c:ChangeT)[OkR V.toDk s][OkCh c](hrs:s.replies.length≤1000000):DT 72 #[.pointer (some ⟨r,0,none⟩), .iface V.T V.ov, .int .i64 op, .agg (ints c.flat).toArray] T0 [cJ V r s] (RI (.int .i64 (dX V.toDk s op c).2) [cJ V r (dX V.toDk s op c).1]):=by
 cases hv:s.vote with
 |none=>exact Bg V r s op c hrs hv
 |some vt=>exact Bf V r s vt op c hrs hv
theorem wY{δ:Type}(V:Env δ)(r:Nat)(s:MS δ)(o:OpT):DT 73 #[.pointer (some ⟨r,0,none⟩), .agg (ints o.flat).toArray] T0 [cJ V r s] (RI (.tuple #[.agg (ints (dh s o).1.flat).toArray, .int .i64 (dh s o).2.1, .int .i64 (dh s o).2.2]) [cJ V r s]):=Leg.Does.hid (λa=>Hj r (s.rep a) o)
theorem Bb{δ:Type}(V:Env δ)(r:Nat)(s:MS δ)(o:OpT)[OkR V.toDk s][OkCh o.change](hrs:s.replies.length≤1000000):
 DT 45 #[(.pointer (some ⟨r,0,none⟩)),(.iface V.T V.ov),(.agg (ints o.flat).toArray)] T0 [cJ V r s] (RI (.int .i64 (bV V.toDk s o).2) [cJ V r (bV V.toDk s o).1]):=by
 refine BD 74 Tryz.func45 rfl rfl rfl λw0 F hF=>sr λ_ J1=>XY (ints o.flat) λb5=>?_
 refine PS ?_;refine nx J1 (sr λ_ J2=>P2 ?_);refine FA 1941 de aR ?_;refine LG 1 Y3 (.int .i64 (s.ops)) ?_ (hc:=by exact λa_=>(RepT.at_ops _ rfl));refine tp (cr (r:=(fQ (s.ops+1))) rfl rfl rfl rfl) ?_;refine PS ?_;refine FA 1941 de aR ?_;refine SK 1 aR (λ_=>cT _) ?_ (hc:=by exact λa_=>(RepT.set_ops _ rfl _));refine nx J2 (sr λ_ J3=>P2 ?_);refine FA 1941 de aR ?_;refine LG 1 Y3 (.int .i64 ((bF s).ops)) ?_ (hc:=by exact λa_=>(RepT.at_ops _ rfl));refine PS ?_;refine nx J3 (ab λ_ J4=>ab λ_ J5=>DC mixed (cU 1 rfl rfl) (BL 0) ?_);refine PD 0 ?_;refine PD 1 ?_;refine FD 2 2 de bg ?_;refine ta 3 rfl (fX (vs:=ints ((bF s).view).flat) rfl eH rfl bg rfl (λ_ h=>h.2.1) (an ((bF s).view)) (λa_=>(fU ((bF s).rep a_) 0 rfl (by decide) (whole (an (((bF s).rep a_).view)))))) ?_;refine PD 4 ?_;refine PD 5 ?_;refine FD 6 0 de aR ?_;refine ta 7 rfl (di (v:=(.int .i64 ((bF s).id))) rfl Y3 rfl rfl (λ_ h=>h.2.1) (λa_=>(cF _ rfl))) ?_;refine AL 8 ?_;refine CE qa (dE ((bF s).view) ((bF s).id)) ID ?_;refine bc ?_ ?_<;>intro h30;refine EN (PD 9 ?_);refine FD 10 0 ff aR ?_;refine LR 11 Y3 (cN o rfl) ?_;refine PD 12 ?_;refine iT ?_ ?_<;>intro h34;refine PD 13 ?_;refine DN (ac J5 (CY (sr λ_ J6=>P3 ?_)));refine FA 5 ff fq ?_;refine LV 0 ng fq aJ OpT.sp_change (y:=o.change) ?_;refine CE PY (Be V r (bF s) ((bF s).ops) o.change hrs) (SM [1]) ?_;refine PS ?_;refine nx J6 (ai (af (WK [0] (av rfl rfl ?_))))
 have e:bV V.toDk s o=((dX V.toDk (bF s) ((bF s).ops) o.change).1,(dX V.toDk (bF s) (bF s).ops o.change).2):=by rw[bV,show iQ s.view s.id=true from h30,decide_eq_true h34,if_pos (by rfl)]
 exact jH e;refine PD 13 ?_;refine DN (ac J5 (CN (qx J4 (sr λ_ J7=>PS ?_))));refine LW 0 ff qT gg ?_;refine CE Oa (wY V r (bF s) o) (SM [1]) ?_;refine P4 ?_;refine XZ uB (ints RowT.zero.flat) λb8=>?_
 refine SW 0 ba aj ?_;refine P2 ?_;refine nx J7 (ab λ_ J8=>sr λ_ J9=>P2 ?_);refine ao ?_ ?_<;>intro h50;refine PS ?_
 iterate 3 refine UT ?_
 refine PS ?_;refine nx J9 (CY (sr λ_ J10=>P4 ?_));refine CZ ug (eY V r (bF s) ((bF s).ops) ((dh (bF s) o).2.2) ((dh (bF s) o).2.1) (by first|exact hrs| (rw[jz];exact hrs))) (SM [1]) λvR=>?_
 refine nx J10 (sr λ_ J11=>P2 ?_);refine nx J11 (ai (af (WK [0] (av rfl rfl ?_))));have e:bV V.toDk s o=((dw (bF s) ((bF s).ops) ((dh (bF s) o).2.2) ((dh (bF s) o).2.1)),(dh (bF s) o).2.2):=by rw[bV,show iQ s.view s.id=true from h30,decide_eq_false h34,if_neg (by decide),nR,if_pos (.inl h50)]
 exact jH e;refine PS ?_;refine FA 0 ff aR ?_;refine LU 2 Y3 (cN o rfl) ?_;refine PS ?_;refine ao ?_ ?_<;>intro h54;refine PS ?_;refine nx J9 (CY (sr λ_ J12=>P4 ?_));refine CZ ug (eY V r (bF s) ((bF s).ops) ((dh (bF s) o).2.2) ((dh (bF s) o).2.1) (by first|exact hrs| (rw[jz];exact hrs))) (SM [1]) λvR=>?_
 refine nx J12 (sr λ_ J13=>P2 ?_);refine nx J13 (ai (af (WK [0] (av rfl rfl ?_))));have e:bV V.toDk s o=((dw (bF s) ((bF s).ops) ((dh (bF s) o).2.2) ((dh (bF s) o).2.1)),(dh (bF s) o).2.2):=by rw[bV,show iQ s.view s.id=true from h30,decide_eq_false h34,if_neg (by decide),nR,if_pos (.inr h54)]
 exact jH e;refine PS ?_;refine nx J9 (CN (qx J8 (ab λ_ J14=>sr λ_ J15=>P2 ?_)));refine LW 0 dV ba aj ?_;refine PS ?_;refine CE Ng (rR V r (bF s) ((dh (bF s) o).1) ((bF s).ops)) (SM [1]) ?_;refine PS ?_;refine nx J15 (sr λ_ J16=>P2 ?_);refine ao ?_ ?_<;>intro h68;refine nx J16 (CY (ad (P3 ?_)));refine CZ ug (eY V r ((eS V.toDk (bF s) ((dh (bF s) o).1) ((bF s).ops)).1) ((bF s).ops) ((eS V.toDk (bF s) ((dh (bF s) o).1) ((bF s).ops)).2) 0 (by first|exact hrs| (rw[jz];exact hrs))) ID λvR=>?_
 refine nx J14 (sr λ_ J17=>P2 ?_);refine nx J17 (ai (WK [0] (av rfl rfl ?_)));have e:bV V.toDk s o=((dw ((eS V.toDk (bF s) ((dh (bF s) o).1) ((bF s).ops)).1) ((bF s).ops) ((eS V.toDk (bF s) ((dh (bF s) o).1) ((bF s).ops)).2) 0),(eS V.toDk (bF s) (dh (bF s) o).1 (bF s).ops).2):=by rw[bV,show iQ s.view s.id=true from h30,decide_eq_false h34,if_neg (by decide),nR,if_neg (λh=>h.elim (λh=>h50 h) (λh=>h54 h)),if_pos h68]
 exact jH e;refine nx J16 (CN (qx J14 (sr λ_ J18=>P2 ?_)));refine nx J18 (ai (WK [0] (av rfl rfl ?_)));have e:bV V.toDk s o=((eS V.toDk (bF s) ((dh (bF s) o).1) ((bF s).ops)).1,(eS V.toDk (bF s) (dh (bF s) o).1 (bF s).ops).2):=by rw[bV,show iQ s.view s.id=true from h30,decide_eq_false h34,if_neg (by decide),nR,if_neg (λh=>h.elim (λh=>h50 h) (λh=>h54 h)),if_neg h68,show(eS V.toDk (bF s) (dh (bF s) o).1 (bF s).ops).2=0 from Decidable.not_not.1 h68]
 exact jH e;refine EN (PD 9 ?_);refine NT 10 ?_;refine NT 11 ?_;refine NT 12 ?_;refine PD 13 ?_;refine DN (ac J5 (CN (qx J4 (sr λ_ J19=>PS ?_))));refine LW 0 ff qT gg ?_;refine CE Oa (wY V r (bF s) o) (SM [1]) ?_;refine P4 ?_;refine XZ uB (ints RowT.zero.flat) λb8=>?_
 refine SW 0 ba aj ?_;refine P2 ?_;refine nx J19 (ab λ_ J20=>sr λ_ J21=>P2 ?_);refine ao ?_ ?_<;>intro h50;refine PS ?_
 iterate 3 refine UT ?_
 refine PS ?_;refine nx J21 (CY (sr λ_ J22=>P4 ?_));refine CZ ug (eY V r (bF s) ((bF s).ops) ((dh (bF s) o).2.2) ((dh (bF s) o).2.1) (by first|exact hrs| (rw[jz];exact hrs))) (SM [1]) λvR=>?_
 refine nx J22 (sr λ_ J23=>P2 ?_);refine nx J23 (ai (af (WK [0] (av rfl rfl ?_))));have e:bV V.toDk s o=((dw (bF s) ((bF s).ops) ((dh (bF s) o).2.2) ((dh (bF s) o).2.1)),(dh (bF s) o).2.2):=by rw[bV,show iQ s.view s.id=false from h30,if_neg (by rw[gO];decide),nR,if_pos (.inl h50)]
 exact jH e;refine PS ?_;refine FA 0 ff aR ?_;refine LU 2 Y3 (cN o rfl) ?_;refine PS ?_;refine ao ?_ ?_<;>intro h54;refine PS ?_;refine nx J21 (CY (sr λ_ J24=>P4 ?_));refine CZ ug (eY V r (bF s) ((bF s).ops) ((dh (bF s) o).2.2) ((dh (bF s) o).2.1) (by first|exact hrs| (rw[jz];exact hrs))) (SM [1]) λvR=>?_
 refine nx J24 (sr λ_ J25=>P2 ?_);refine nx J25 (ai (af (WK [0] (av rfl rfl ?_))));have e:bV V.toDk s o=((dw (bF s) ((bF s).ops) ((dh (bF s) o).2.2) ((dh (bF s) o).2.1)),(dh (bF s) o).2.2):=by rw[bV,show iQ s.view s.id=false from h30,if_neg (by rw[gO];decide),nR,if_pos (.inr h54)]
 exact jH e;refine PS ?_;refine nx J21 (CN (qx J20 (ab λ_ J26=>sr λ_ J27=>P2 ?_)));refine LW 0 dV ba aj ?_;refine PS ?_;refine CE Ng (rR V r (bF s) ((dh (bF s) o).1) ((bF s).ops)) (SM [1]) ?_;refine PS ?_;refine nx J27 (sr λ_ J28=>P2 ?_);refine ao ?_ ?_<;>intro h68;refine nx J28 (CY (ad (P3 ?_)));refine CZ ug (eY V r ((eS V.toDk (bF s) ((dh (bF s) o).1) ((bF s).ops)).1) ((bF s).ops) ((eS V.toDk (bF s) ((dh (bF s) o).1) ((bF s).ops)).2) 0 (by first|exact hrs| (rw[jz];exact hrs))) ID λvR=>?_
 refine nx J26 (sr λ_ J29=>P2 ?_);refine nx J29 (ai (WK [0] (av rfl rfl ?_)));have e:bV V.toDk s o=((dw ((eS V.toDk (bF s) ((dh (bF s) o).1) ((bF s).ops)).1) ((bF s).ops) ((eS V.toDk (bF s) ((dh (bF s) o).1) ((bF s).ops)).2) 0),(eS V.toDk (bF s) (dh (bF s) o).1 (bF s).ops).2):=by rw[bV,show iQ s.view s.id=false from h30,if_neg (by rw[gO];decide),nR,if_neg (λh=>h.elim (λh=>h50 h) (λh=>h54 h)),if_pos h68]
 exact jH e;refine nx J28 (CN (qx J26 (sr λ_ J30=>P2 ?_)));refine nx J30 (ai (WK [0] (av rfl rfl ?_)));have e:bV V.toDk s o=((eS V.toDk (bF s) ((dh (bF s) o).1) ((bF s).ops)).1,(eS V.toDk (bF s) (dh (bF s) o).1 (bF s).ops).2):=by rw[bV,show iQ s.view s.id=false from h30,if_neg (by rw[gO];decide),nR,if_neg (λh=>h.elim (λh=>h50 h) (λh=>h54 h)),if_neg h68,show(eS V.toDk (bF s) (dh (bF s) o).1 (bF s).ops).2=0 from Decidable.not_not.1 h68]
 exact jH e
theorem Ed{δ:Type}(V:Env δ)(r:Nat)(s:MS δ)[OkR V.toDk s](hv:(gi V.toDk (cf V.toDk (bY V.toDk s))).vote=none):
 DT 47 #[(.pointer (some ⟨r,0,none⟩)),(.iface V.T V.ov)] T0 [cJ V r s] (dm (λ_ H=>H=[cJ V r (iw V.toDk s)])):=by
 refine BD 89 Tryz.func47 rfl rfl rfl λw0 F hF=>ab λ_ J1=>e5 (α:=Unit) (λ_u=>True) (λ_u=>[(0,(.pointer (some ⟨r,0,none⟩))),(1,(.iface V.T V.ov))]) (λ_u=>[cJ V r (if s.busy=true then fp V.toDk s else s)]) (λ_u hinv=>?_) (λtl1=>?_)
 have _:=hinv;refine ac J1 (sr λ_ J2=>P2 ?_);refine CZ Li (pa V r (if s.busy=true then fp V.toDk s else s)) ID λvR=>?_
 refine nx J2 (sr λ_ J3=>P2 ?_);refine CZ Nd (qp V r (nd V.toDk (if s.busy=true then fp V.toDk s else s))) ID λvR=>?_
 refine nx J3 (ab λ_ J4=>e5 (α:=Unit) (λ_u=>True) (λ_u=>[(0,(.pointer (some ⟨r,0,none⟩))),(1,(.iface V.T V.ov))]) (λ_u=>[cJ V r (cf V.toDk (bY V.toDk s))]) (λ_u hinv=>?_) (λtl4=>?_));have _:=hinv;refine ac J4 (ab λ_ J5=>ab λ_ J6=>DB mixed (cU 0 rfl rfl) ?_);refine PD 0 ?_;refine PD 1 ?_;refine FD 2 2 de bg ?_;refine ta 3 rfl (fX (vs:=ints ((cf V.toDk (bY V.toDk s)).view).flat) rfl eH rfl bg rfl (λ_ h=>h.2.1) (an ((cf V.toDk (bY V.toDk s)).view)) (λa_=>(fU ((cf V.toDk (bY V.toDk s)).rep a_) 0 rfl (by decide) (whole (an (((cf V.toDk (bY V.toDk s)).rep a_).view)))))) ?_;refine PD 4 ?_;refine PD 5 ?_;refine FD 6 0 de aR ?_;refine ta 7 rfl (di (v:=(.int .i64 ((cf V.toDk (bY V.toDk s)).id))) rfl Y3 rfl rfl (λ_ h=>h.2.1) (λa_=>(cF _ rfl))) ?_;refine AL 8 ?_;refine CE qa (dE ((cf V.toDk (bY V.toDk s)).view) ((cf V.toDk (bY V.toDk s)).id)) ID ?_;refine bc ?_ ?_<;>intro h42;refine EN (PD 9 ?_);refine DN (ac J6 (CN (qx J5 (ab λ_ J7=>e5 (α:=Unit) (λ_u=>True) (λ_u=>[(0,(.pointer (some ⟨r,0,none⟩))),(1,(.iface V.T V.ov))]) (λ_u=>[cJ V r (gi V.toDk (cf V.toDk (bY V.toDk s)))]) (λ_u hinv=>?_) (λtl7=>?_)))));have _:=hinv;refine ac J7 (ab λ_ J8=>sr λ_ J9=>cm (H':=vT V r (gi V.toDk (cf V.toDk (bY V.toDk s))) (.pointer none)::[]) (λ_ q=>sV hv q) (P2 ?_));refine FA 1067 de mU ?_;refine LG 0 pA (.pointer none) ?_ (hc:=by exact λa_=>(bX _ rfl))
 refine tp (sc rfl pA rfl rfl) ?_;refine nx J9 (CY (ai (af (aE (H':=[cJ V r (gi V.toDk (cf V.toDk (bY V.toDk s)))]) (db _) (λ_ q=>oh hv (ak [0] rfl q)) (dK rfl ?_)))));exact MQ (by rw[iw,if_pos h42,sE,hv]);refine ab λ_ J10=>e5 (α:=(Nat)) (λb4=>True) (λb4=>[(0,(.pointer (some ⟨r,0,none⟩))),(1,(.iface V.T V.ov)),(4,(.pointer (some ⟨b4,0,none⟩)))]) (λb4=>[cJ V r (cf V.toDk (bY V.toDk s)),ah b4 (ints (cC (cf V.toDk (bY V.toDk s)).book (cf V.toDk (bY V.toDk s)).id).flat) 39]) (λb4 hinv=>?_) (λtl10=>?_)
 have _:=hinv;refine ac J10 (sr λ_ J11=>FA 0 dV aR ?_);refine LT 1 Y3 (.int .i64 ((cC (cf V.toDk (bY V.toDk s)).book (cf V.toDk (bY V.toDk s)).id).version)) ?_ (hc:=by exact cy _ rfl);refine PS ?_;refine ao ?_ ?_<;>intro h54;refine nx J11 (CY (ad (P2 ?_)));refine LW 1 dV ba aj ?_;refine CZ Nb (mS V r (cf V.toDk (bY V.toDk s)) (cC (cf V.toDk (bY V.toDk s)).book (cf V.toDk (bY V.toDk s)).id)) ID λvR=>?_
 refine ap ?_
 exact aE
  SB
  (λ_ q=>by
   rw[gi,if_pos h54]
   exact ak [0] rfl q)
  (tl7 (():Unit) trivial)
 refine nx J11 (CN (aT ?_))
 exact aE
  SB
  (λ_ q=>by
   rw[gi,if_neg h54]
   exact ak [0] rfl q)
  (tl7 (():Unit) trivial)
 refine DB mixed (cU 0 rfl rfl) ?_;refine PD 0 ?_;refine PD 1 ?_;refine FD 2 1068 de Ei ?_;refine PD 3 ?_;refine PD 4 ?_;refine FD 5 0 de aR ?_;refine ta 6 rfl (di (v:=(.int .i64 ((cf V.toDk (bY V.toDk s)).id))) rfl Y3 rfl rfl (λ_ h=>h.2.1) (λa_=>(cF _ rfl))) ?_;refine cE [7,8] (by kernel_rfl) rfl (aF rfl ?_ ?_);refine CE Lh (Leg.Does.hid (λa_=>mE r 1068 87 _ (gM ((cf V.toDk (bY V.toDk s)).rep a_)) (cf V.toDk (bY V.toDk s)).book ((cf V.toDk (bY V.toDk s)).id))) ID ?_;refine EN (AL 8 ?_);refine XZ uB (ints RowT.zero.flat) λb4=>?_
 refine EN (AL 9 ?_);refine SW 0 ba aj ?_;refine EN (DN ?_)
 exact aE
  SB
  (λ_ s=>ak [1,0] rfl s)
  (tl10 ((b4):(Nat)) trivial)
 refine aF rfl ?_ ?_;refine XZ uB (ints RowT.zero.flat) λb4=>?_
 refine EN (AL 7 ?_);refine CE Lh (Leg.Does.hid (λa_=>mE r 1068 87 _ (gM ((cf V.toDk (bY V.toDk s)).rep a_)) (cf V.toDk (bY V.toDk s)).book ((cf V.toDk (bY V.toDk s)).id))) (SM [1]) ?_;refine EN (AL 9 ?_);refine SW 1 ba aj ?_;refine EN (DN ?_)
 exact aE
  SB
  (λ_ s=>ak [0,0] rfl s)
  (tl10 ((b4):(Nat)) trivial)
 exact bB;refine EN (PD 9 ?_);refine DN (ac J6 (CY (ai (af (WK [0] (dK rfl ?_))))));exact MQ (by rw[iw,if_neg (by rw[h42];decide)]);refine sr λ_ J12=>P2 ?_
 refine FA 2 de bg ?_;refine FA 2 eH aR ?_;refine LG 0 Y3 (.int .i64 (((bY V.toDk s).view).epoch)) ?_ (hc:=by exact λa_=>(cg ((bY V.toDk s).rep a_) 0 rfl (by decide) (bb _ rfl)));refine PS ?_;refine ao ?_ ?_<;>intro h26;refine nx J12 (CY (ad (P4 ?_)));refine FA 2 de bg ?_;refine LZ 0 eH bg an ((bY V.toDk s).view) ?_ (hc:=by exact λ_=>cS _);refine CZ Nc (mR V r (bY V.toDk s) ((bY V.toDk s).view)) ID λvR=>?_
 refine ap ?_
 exact aE
  SB
  (λ_ q=>by
   rw[cf,if_pos h26]
   exact ak [0] rfl q)
  (tl4 (():Unit) trivial)
 refine nx J12 (CN (aT ?_))
 exact aE
  SB
  (λ_ q=>by
   rw[cf,if_neg h26]
   exact ak [0] rfl q)
  (tl4 (():Unit) trivial)
 refine sr λ_ J13=>P2 ?_
 refine FA 1938 de lc ?_;refine LG 0 Y4 (.bool (s.busy)) ?_ (hc:=by exact λa_=>(yM _ rfl));refine bc ?_ ?_<;>intro h11;refine nx J13 (CY (ad (P2 ?_)));refine CZ Nf (nJ V r s) ID λvR=>?_
 refine ap ?_
 exact aE
  SB
  (λ_ q=>by
   rw[if_pos h11]
   exact ak [0] rfl q)
  (tl1 (():Unit) trivial)
 refine nx J13 (CN (aT ?_))
 exact aE
  SB
  (λ_ q=>by
   rw[if_neg (by rw[h11];decide)]
   exact ak [0] rfl q)
  (tl1 (():Unit) trivial)
theorem Ec{δ:Type}(V:Env δ)(r:Nat)(s:MS δ)(vt:VoteT)[OkR V.toDk s](hv:(gi V.toDk (cf V.toDk (bY V.toDk s))).vote=some vt):
 DT 47 #[(.pointer (some ⟨r,0,none⟩)),(.iface V.T V.ov)] T0 [cJ V r s] (dm (λ_ H=>H=[cJ V r (iw V.toDk s)])):=by
 refine BD 89 Tryz.func47 rfl rfl rfl λw0 F hF=>?_
 have hov:OkVt vt:=OkR.vote vt hv;refine ab λ_ J1=>e5 (α:=Unit) (λ_u=>True) (λ_u=>[(0,(.pointer (some ⟨r,0,none⟩))),(1,(.iface V.T V.ov))]) (λ_u=>[cJ V r (if s.busy=true then fp V.toDk s else s)]) (λ_u hinv=>?_) (λtl1=>?_)
 have _:=hinv;refine ac J1 (sr λ_ J2=>P2 ?_);refine CZ Li (pa V r (if s.busy=true then fp V.toDk s else s)) ID λvR=>?_
 refine nx J2 (sr λ_ J3=>P2 ?_);refine CZ Nd (qp V r (nd V.toDk (if s.busy=true then fp V.toDk s else s))) ID λvR=>?_
 refine nx J3 (ab λ_ J4=>e5 (α:=Unit) (λ_u=>True) (λ_u=>[(0,(.pointer (some ⟨r,0,none⟩))),(1,(.iface V.T V.ov))]) (λ_u=>[cJ V r (cf V.toDk (bY V.toDk s))]) (λ_u hinv=>?_) (λtl4=>?_));have _:=hinv;refine ac J4 (ab λ_ J5=>ab λ_ J6=>DB mixed (cU 0 rfl rfl) ?_);refine PD 0 ?_;refine PD 1 ?_;refine FD 2 2 de bg ?_;refine ta 3 rfl (fX (vs:=ints ((cf V.toDk (bY V.toDk s)).view).flat) rfl eH rfl bg rfl (λ_ h=>h.2.1) (an ((cf V.toDk (bY V.toDk s)).view)) (λa_=>(fU ((cf V.toDk (bY V.toDk s)).rep a_) 0 rfl (by decide) (whole (an (((cf V.toDk (bY V.toDk s)).rep a_).view)))))) ?_;refine PD 4 ?_;refine PD 5 ?_;refine FD 6 0 de aR ?_;refine ta 7 rfl (di (v:=(.int .i64 ((cf V.toDk (bY V.toDk s)).id))) rfl Y3 rfl rfl (λ_ h=>h.2.1) (λa_=>(cF _ rfl))) ?_;refine AL 8 ?_;refine CE qa (dE ((cf V.toDk (bY V.toDk s)).view) ((cf V.toDk (bY V.toDk s)).id)) ID ?_;refine bc ?_ ?_<;>intro h42;refine EN (PD 9 ?_);refine DN (ac J6 (CN (qx J5 (ab λ_ J7=>e5 (α:=Unit) (λ_u=>True) (λ_u=>[(0,(.pointer (some ⟨r,0,none⟩))),(1,(.iface V.T V.ov))]) (λ_u=>[cJ V r (gi V.toDk (cf V.toDk (bY V.toDk s)))]) (λ_u hinv=>?_) (λtl7=>?_)))));have _:=hinv;refine ac J7 (ab λ_ J8=>sr λ_ J9=>QJ (H':=λvb:Nat=>vT V r (gi V.toDk (cf V.toDk (bY V.toDk s))) (.pointer (some ⟨vb,0,none⟩))::ah vb (VoteT.cells vt) 207::[]) (λ_ q=>m6 hv q) (λvb=>P2 ?_));refine FA 1067 de mU ?_
 refine LG 0 pA (.pointer (some ⟨vb,0,none⟩)) ?_ (hc:=by exact λa_=>(bX _ rfl));refine tp (iW rfl pA rfl rfl) ?_;refine nx J9 (CN (qx J8 (sr λ_ J10=>P2 ?_)));refine FA 1067 de mU ?_;refine LG 0 pA (.pointer (some ⟨vb,0,none⟩)) ?_ (hc:=by exact λa_=>(bX _ rfl));refine CE ub (dd vb vt) (SM [1]) ?_;change TL _ _ _ _ _ _ _ _ _ [ah vb (VoteT.cells vt) 207,vT V r (gi V.toDk (cf V.toDk (bY V.toDk s))) (.pointer (some ⟨vb,0,none⟩))];refine cm (H':=cJ V r (gi V.toDk (cf V.toDk (bY V.toDk s)))::[]) (λ_ q=>og hv (aC [1,0] rfl q)) (XZ PA (ints ChangeT.zero.flat) λb5=>?_);refine SW 0 fq aJ ?_;refine nx J10 (ab λ_ J11=>e5 (α:=Unit) (λ_u=>True) (λ_u=>[(0,(.pointer (some ⟨r,0,none⟩))),(1,(.iface V.T V.ov)),(5,(.pointer (some ⟨b5,0,none⟩))),(7,(.int .i64 ((dM (gi V.toDk (cf V.toDk (bY V.toDk s))).view vt.change).2)))]) (λ_u=>[cJ V r (gi V.toDk (cf V.toDk (bY V.toDk s))),ah b5 (ints vt.change.flat) 61]) (λ_u hinv=>?_) (λtl11=>?_));have _:=hinv;refine ac J11 (sr λ_ J12=>P2 ?_);refine ao ?_ ?_<;>intro h79;refine P2 ?_;refine LW 1 ng fq aJ ?_;refine CE Na (qv V r (gi V.toDk (cf V.toDk (bY V.toDk s))) vt.change) ID ?_;refine PS ?_;refine ao ?_ ?_<;>intro h84;refine PS ?_;refine nx J12 (CY (ad (P2 ?_)))
 refine CZ Lg (rI V r ((cp V.toDk (gi V.toDk (cf V.toDk (bY V.toDk s))) vt.change).1) (jy (gi V.toDk (cf V.toDk (bY V.toDk s))).view (eG (gi V.toDk (cf V.toDk (bY V.toDk s)))) vt.change) (rV h84)) ID λvR=>?_
 refine ap (WK [0] (bu rfl ?_));exact MQ (by rw[iw,if_pos h42,sE,hv];simp only[];rw[if_pos h79,if_pos h84]);refine PS ?_;refine nx J12 (CN (aT (WK [0] (bu rfl ?_))));exact MQ (by rw[iw,if_pos h42,sE,hv];simp only[];rw[if_pos h79,if_neg h84]);refine PS ?_
 iterate 4 refine UF ?_
 refine PS ?_;refine nx J12 (CN (aT (WK [0] (bu rfl ?_))));exact MQ (by rw[iw,if_pos h42,sE,hv];simp only[];rw[if_neg h79]);refine DC mixed (cU 1 rfl rfl) (BL 0) ?_;refine PD 0 ?_;refine PD 1 ?_;refine FD 2 2 de bg ?_;refine ta 3 rfl (fX (vs:=ints ((gi V.toDk (cf V.toDk (bY V.toDk s))).view).flat) rfl eH rfl bg rfl (λ_ h=>h.2.1) (an ((gi V.toDk (cf V.toDk (bY V.toDk s))).view)) (λa_=>(fU ((gi V.toDk (cf V.toDk (bY V.toDk s))).rep a_) 0 rfl (by decide) (whole (an (((gi V.toDk (cf V.toDk (bY V.toDk s))).rep a_).view)))))) ?_;refine LY 4 ng fq aJ ?_;refine cE [5,9] (by kernel_rfl) rfl (aF rfl ?_ ?_);refine CE m4 (dy ((gi V.toDk (cf V.toDk (bY V.toDk s))).view) vt.change OkVw.rng) ID ?_;refine EN (PD 6 ?_);refine PD 7 ?_;refine PD 8 ?_;refine AL 9 ?_;refine XZ sh (ints ViewT.zero.flat) λb6=>?_
 refine EN (AL 10 ?_);refine SW 0 bg an ?_;refine EN (PD 11 ?_);refine DN ?_
 exact aE
  SB
  (λ_ s=>ak [2,1] rfl s)
  (tl11 (():Unit) trivial)
 refine aF rfl ?_ ?_;refine XZ sh (ints ViewT.zero.flat) λb6=>?_
 refine EN (AL 5 ?_);refine CE m4 (dy ((gi V.toDk (cf V.toDk (bY V.toDk s))).view) vt.change OkVw.rng) ID ?_;refine EN (PD 6 ?_);refine PD 7 ?_;refine PD 8 ?_;refine AL 10 ?_;refine SW 0 bg an ?_;refine EN (PD 11 ?_);refine DN ?_
 exact aE
  SB
  (λ_ s=>ak [2,1] rfl s)
  (tl11 (():Unit) trivial)
 exact bB;refine ab λ_ J13=>e5 (α:=(Nat)) (λb4=>True) (λb4=>[(0,(.pointer (some ⟨r,0,none⟩))),(1,(.iface V.T V.ov)),(4,(.pointer (some ⟨b4,0,none⟩)))]) (λb4=>[cJ V r (cf V.toDk (bY V.toDk s)),ah b4 (ints (cC (cf V.toDk (bY V.toDk s)).book (cf V.toDk (bY V.toDk s)).id).flat) 39]) (λb4 hinv=>?_) (λtl13=>?_)
 have _:=hinv;refine ac J13 (sr λ_ J14=>FA 0 dV aR ?_);refine LT 1 Y3 (.int .i64 ((cC (cf V.toDk (bY V.toDk s)).book (cf V.toDk (bY V.toDk s)).id).version)) ?_ (hc:=by exact cy _ rfl);refine PS ?_;refine ao ?_ ?_<;>intro h54;refine nx J14 (CY (ad (P2 ?_)));refine LW 1 dV ba aj ?_;refine CZ Nb (mS V r (cf V.toDk (bY V.toDk s)) (cC (cf V.toDk (bY V.toDk s)).book (cf V.toDk (bY V.toDk s)).id)) ID λvR=>?_
 refine ap ?_
 exact aE
  SB
  (λ_ q=>by
   rw[gi,if_pos h54]
   exact ak [0] rfl q)
  (tl7 (():Unit) trivial)
 refine nx J14 (CN (aT ?_))
 exact aE
  SB
  (λ_ q=>by
   rw[gi,if_neg h54]
   exact ak [0] rfl q)
  (tl7 (():Unit) trivial)
 refine DB mixed (cU 0 rfl rfl) ?_;refine PD 0 ?_;refine PD 1 ?_;refine FD 2 1068 de Ei ?_;refine PD 3 ?_;refine PD 4 ?_;refine FD 5 0 de aR ?_;refine ta 6 rfl (di (v:=(.int .i64 ((cf V.toDk (bY V.toDk s)).id))) rfl Y3 rfl rfl (λ_ h=>h.2.1) (λa_=>(cF _ rfl))) ?_;refine cE [7,8] (by kernel_rfl) rfl (aF rfl ?_ ?_);refine CE Lh (Leg.Does.hid (λa_=>mE r 1068 87 _ (gM ((cf V.toDk (bY V.toDk s)).rep a_)) (cf V.toDk (bY V.toDk s)).book ((cf V.toDk (bY V.toDk s)).id))) ID ?_;refine EN (AL 8 ?_);refine XZ uB (ints RowT.zero.flat) λb4=>?_
 refine EN (AL 9 ?_);refine SW 0 ba aj ?_;refine EN (DN ?_)
 exact aE
  SB
  (λ_ s=>ak [1,0] rfl s)
  (tl13 ((b4):(Nat)) trivial)
 refine aF rfl ?_ ?_;refine XZ uB (ints RowT.zero.flat) λb4=>?_
 refine EN (AL 7 ?_);refine CE Lh (Leg.Does.hid (λa_=>mE r 1068 87 _ (gM ((cf V.toDk (bY V.toDk s)).rep a_)) (cf V.toDk (bY V.toDk s)).book ((cf V.toDk (bY V.toDk s)).id))) (SM [1]) ?_;refine EN (AL 9 ?_);refine SW 1 ba aj ?_;refine EN (DN ?_)
 exact aE
  SB
  (λ_ s=>ak [0,0] rfl s)
  (tl13 ((b4):(Nat)) trivial)
 exact bB;refine EN (PD 9 ?_);refine DN (ac J6 (CY (ai (af (WK [0] (dK rfl ?_))))));exact MQ (by rw[iw,if_neg (by rw[h42];decide)]);refine sr λ_ J15=>P2 ?_
 refine FA 2 de bg ?_;refine FA 2 eH aR ?_;refine LG 0 Y3 (.int .i64 (((bY V.toDk s).view).epoch)) ?_ (hc:=by exact λa_=>(cg ((bY V.toDk s).rep a_) 0 rfl (by decide) (bb _ rfl)));refine PS ?_;refine ao ?_ ?_<;>intro h26;refine nx J15 (CY (ad (P4 ?_)));refine FA 2 de bg ?_;refine LZ 0 eH bg an ((bY V.toDk s).view) ?_ (hc:=by exact λ_=>cS _);refine CZ Nc (mR V r (bY V.toDk s) ((bY V.toDk s).view)) ID λvR=>?_
 refine ap ?_
 exact aE
  SB
  (λ_ q=>by
   rw[cf,if_pos h26]
   exact ak [0] rfl q)
  (tl4 (():Unit) trivial)
 refine nx J15 (CN (aT ?_))
 exact aE
  SB
  (λ_ q=>by
   rw[cf,if_neg h26]
   exact ak [0] rfl q)
  (tl4 (():Unit) trivial)
 refine sr λ_ J16=>P2 ?_
 refine FA 1938 de lc ?_;refine LG 0 Y4 (.bool (s.busy)) ?_ (hc:=by exact λa_=>(yM _ rfl));refine bc ?_ ?_<;>intro h11;refine nx J16 (CY (ad (P2 ?_)));refine CZ Nf (nJ V r s) ID λvR=>?_
 refine ap ?_
 exact aE
  SB
  (λ_ q=>by
   rw[if_pos h11]
   exact ak [0] rfl q)
  (tl1 (():Unit) trivial)
 refine nx J16 (CN (aT ?_))
 exact aE
  SB
  (λ_ q=>by
   rw[if_neg (by rw[h11];decide)]
   exact ak [0] rfl q)
  (tl1 (():Unit) trivial)
theorem Eb{δ:Type}(V:Env δ)(r:Nat)(s:MS δ)[OkR V.toDk s]:DT 47 #[.pointer (some ⟨r,0,none⟩), .iface V.T V.ov] T0 [cJ V r s] (dm (λ_ H=>H=[cJ V r (iw V.toDk s)])):=by
 cases hv:(gi V.toDk (cf V.toDk (bY V.toDk s))).vote with
 |none=>exact Ed V r s hv
 |some vt=>exact Ec V r s vt hv
abbrev DX{δ:Type}(lg r:Nat)(s:MS δ):HP:=hid r (λ_:Unit=>RepT.cells (s.rep ⟨lg, .pointer none, .slice none 0 0⟩)) 87 (λ_=>[])
theorem u7{δ:Type}(lg r:Nat)(s:MS δ)(v:ViewT):
 DT 67 #[(.pointer (some ⟨r,0,none⟩)),(.agg (ints v.flat).toArray)] T0 [DX lg r s] (dm (λ_ H=>H=[DX lg r (nb s v)])):=by
 refine BD 20 Tryz.func67 rfl rfl rfl λw0 F hF=>sr λ_ J1=>XY (ints v.flat) λb3=>?_
 refine nx J1 (sr λ_ J2=>PS ?_);refine LW 0 eH bg an ?_;refine PS ?_;refine FA 2 de bg ?_;refine gS (vs:=ints v.flat) (i:=1) (aa rfl) rfl rfl rfl rfl rfl (by rw[(an v)];exact bg) (bk _) rfl rfl (λ_=>LC (cT _) (an _)) (λa_=>(Qy (s.rep ⟨lg, .pointer none, .slice none 0 0⟩) 0 rfl (by have h1:=(an v);omega) (ct ((an ((s.rep ⟨lg, .pointer none, .slice none 0 0⟩).view)).trans (an v).symm)))) (nx J2 (sr λ_ J3=>PS ?_));refine FA 0 eH aR ?_;refine LU 0 Y3 (bb v rfl) ?_;refine tp (lv AccT.zero (AccT.mk v.epoch BallotT.zero BallotT.zero ChangeT.zero) [(0,[Value.int .i64 v.epoch])] pK oC (g:=AccT.sg)) ?_;refine PS ?_;refine FA 1058 de fG ?_;refine gS (vs:=ints (AccT.mk v.epoch BallotT.zero BallotT.zero ChangeT.zero).flat) (i:=1) (aa rfl) rfl rfl rfl rfl rfl (by rw[(a8 (AccT.mk v.epoch BallotT.zero BallotT.zero ChangeT.zero))];exact fG) (bk _) rfl rfl (λ_=>LC (cT _) (a8 _)) (λa_=>(kE ((MS.setView s v).rep ⟨lg, .pointer none, .slice none 0 0⟩) 0 rfl (by have h1:=(a8 (AccT.mk v.epoch BallotT.zero BallotT.zero ChangeT.zero));omega) (ct ((a8 (((MS.setView s v).rep ⟨lg, .pointer none, .slice none 0 0⟩).acc)).trans (a8 (AccT.mk v.epoch BallotT.zero BallotT.zero ChangeT.zero)).symm)))) (nx J3 (sr λ_ J4=>P2 ?_));refine FA 1067 de mU ?_;refine SK 1 mU (λ_=>cT _) ?_ (hc:=by exact λa_=>(Qz _ rfl _));refine nx J4 (ad (P2 ?_));refine FA 1066 de aR ?_;refine SK 1 aR (λ_=>cT _) ?_ (hc:=by exact λa_=>(l4 _ rfl _))
 exact ap (WK [1] (bu rfl rfl))
theorem ym{δ:Type}(lg r:Nat)(s:MS δ)(m:RecT)(hw:WF m.row.flat):
 DT 69 #[(.pointer (some ⟨r,0,none⟩)),(.agg (ints m.flat).toArray)] T0 [DX lg r s] (dm (λ_ H=>H=[DX lg r (jG s m)])):=by
 refine BD 93 Tryz.func69 rfl rfl rfl λw0 F hF=>sr λ_ J1=>XY (ints m.flat) λb3=>?_
 refine nx J1 (sr λ_ J2=>FA 0 ef aR ?_);refine LU 0 Y3 (kF m rfl) ?_;refine nx J2 (au (sr λ_ J3=>PS ?_));refine ao ?_ ?_<;>intro h7;refine PS ?_;refine nx J3 (CY (ad (P3 ?_)));refine FA 2 ef ba ?_;refine LV 0 dV ba aj RecT.sp_row (y:=m.row) ?_;refine PS ?_;refine FA 9 de ba ?_;refine gS (vs:=ints m.row.flat) (i:=1) (aa rfl) rfl rfl rfl rfl rfl (by rw[(aj m.row)];exact ba) (bk _) rfl rfl (λ_=>LC (cT _) (aj _)) (λa_=>(QW (s.rep ⟨lg, .pointer none, .slice none 0 0⟩) 0 rfl (by have h1:=(aj m.row);omega) (ct ((aj ((s.rep ⟨lg, .pointer none, .slice none 0 0⟩).own)).trans (aj m.row).symm)))) (PS ?_);refine FA 1938 de lc ?_;refine SK 1 lc (λ_=>cT _) ?_ (hc:=by exact λa_=>(QB _ rfl _));refine PS ?_;refine FA 1939 de aR ?_;refine SK 1 aR (λ_=>cT _) ?_ (hc:=by exact λa_=>(QA _ rfl _));refine ap (ag (WK [1] (bu rfl ?_)));exact congrArg (λq=>[DX lg r q]) (show(MS.setKept (MS.setBusy (MS.setOwn s m.row) true) 0)=jG s m by rw[jG,if_pos h7]<;>rfl);refine PS ?_;refine nx J3 (CN (sr λ_ J4=>PS ?_));refine ao ?_ ?_<;>intro h20;refine PS ?_;refine nx J4 (CY (D1 0 mixed ?_));refine PD 0 ?_;refine PD 1 ?_;refine FD 2 183 de tJ ?_;refine FD 3 1 ef aR ?_;refine LR 4 Y3 (Gt m rfl) ?_;refine FD 5 2 ef ba ?_;refine ta 6 rfl (aN (vs:=ints m.row.flat) rfl dV rfl ba rfl (λ_ h=>h.2.1) (aj m.row) (sa m 0 rfl (by decide) (whole (aj m.row)))) ?_;refine AL 7 ?_
 refine CE MB (Leg.Does.hid (λa_=>sX r 183 87 _ (dY (s.rep ⟨lg, .pointer none, .slice none 0 0⟩)) s.mirror m.whose m.row hw)) (SM [1]) ?_;refine EN (DN (ag (WK [0] (bu rfl ?_))));exact congrArg (λq=>[DX lg r q]) (show(iM s m.whose m.row)=jG s m by rw[jG,if_neg h7,if_pos h20]<;>rfl);refine PS ?_;refine nx J4 (CN (sr λ_ J5=>PS ?_));refine ao ?_ ?_<;>intro h30;refine PS ?_;refine nx J5 (CY (D1 0 mixed ?_));refine PD 0 ?_;refine PD 1 ?_;refine FD 2 183 de tJ ?_;refine FD 3 1 ef aR ?_;refine LR 4 Y3 (Gt m rfl) ?_;refine AL 5 ?_;refine CE MA (Leg.Does.hid (λa_=>sW r 183 87 _ (dY (s.rep ⟨lg, .pointer none, .slice none 0 0⟩)) s.mirror m.whose)) (SM [1]) ?_;refine EN (DN (ag (WK [0] (bu rfl ?_))));exact congrArg (λq=>[DX lg r q]) (show(mg s m.whose)=jG s m by rw[jG,if_neg h7,if_neg h20,if_pos h30]<;>rfl);refine PS ?_;refine nx J5 (CN (sr λ_ J6=>PS ?_));refine ao ?_ ?_<;>intro h38;refine PS ?_;refine nx J6 (CY (sr λ_ J7=>PS ?_));refine FA 177 ef cw ?_;refine LV 0 kf cw aq RecT.sp_ballot (y:=m.ballot) ?_;refine PS ?_;refine FA 1058 de fG ?_;refine FA 1059 pK cw ?_
 refine gS (vs:=ints m.ballot.flat) (i:=1) (aa rfl) rfl rfl rfl rfl rfl (by rw[(aq m.ballot)];exact cw) (bk _) rfl rfl (λ_=>LC (cT _) (aq _)) (λa_=>(kE (s.rep ⟨lg, .pointer none, .slice none 0 0⟩) 1 rfl (by have h1:=(aq m.ballot);omega) (Q1 ((s.rep ⟨lg, .pointer none, .slice none 0 0⟩).acc) 0 rfl (by have h1:=(aq m.ballot);omega) (ct ((aq (((s.rep ⟨lg, .pointer none, .slice none 0 0⟩).acc).vow)).trans (aq m.ballot).symm))))) (nx J7 (D1 0 mixed ?_));refine PD 0 ?_;refine PD 1 ?_;refine PD 2 ?_;refine FD 3 1066 de aR ?_;refine FD 5 177 ef cw ?_;refine FD 6 177 kf aR ?_;refine LX 7 Y3 (.int .i64 (m.ballot.round)) ?_ (hc:=by exact RecT.pt_ballot m 0 rfl (by decide) (e9 m.ballot rfl));refine AL 4 ?_;refine LG 1 Y3 (.int .i64 (s.round)) ?_ (hc:=by exact λa_=>(vD _ rfl));refine EN (ta 8 rfl (yP rfl rfl rfl) ?_);refine PD 9 ?_;refine FD 10 1066 de aR ?_;refine AL 11 ?_;refine SK 1 aR (λ_=>cT _) ?_ (hc:=by exact λa_=>(l4 _ rfl _));refine EN (DN (ag (WK [1] (bu rfl ?_))));exact congrArg (λq=>[DX lg r q]) (show(MS.setRound (MS.setAcc s (AccT.mk s.acc.epoch m.ballot s.acc.had s.acc.change)) (max s.round m.ballot.round))=jG s m by rw[jG,if_neg h7,if_neg h20,if_neg h30,if_pos h38]<;>rfl);refine PS ?_;refine nx J6 (CN (sr λ_ J8=>PS ?_));refine ao ?_ ?_<;>intro h57;refine PS ?_;refine nx J8 (CY (ab λ_ J9=>D1 0 mixed ?_));refine PD 0 ?_;refine PD 1 ?_;refine PD 2 ?_;refine FD 3 177 ef cw ?_
 refine ta 4 rfl (aN (vs:=ints m.ballot.flat) rfl kf rfl cw rfl (λ_ h=>h.2.1) (aq m.ballot) (qW m 0 rfl (by decide) (whole (aq m.ballot)))) ?_;refine FD 5 177 ef cw ?_;refine ta 6 rfl (aN (vs:=ints m.ballot.flat) rfl kf rfl cw rfl (λ_ h=>h.2.1) (aq m.ballot) (qW m 0 rfl (by decide) (whole (aq m.ballot)))) ?_;refine FD 7 179 ef fq ?_;refine ta 8 rfl (aN (vs:=ints m.change.flat) rfl ng rfl fq rfl (λ_ h=>h.2.1) (aJ m.change) (NJ m 0 rfl (by decide) (whole (aJ m.change)))) ?_;refine PD 9 ?_;refine FD 10 1058 de fG ?_;refine FD 11 1059 pK cw ?_;refine AL 12 ?_;refine gS (vs:=ints m.ballot.flat) (i:=1) (aa rfl) rfl rfl rfl rfl rfl (by rw[(aq m.ballot)];exact cw) (bk _) rfl rfl (λ_=>LC (cT _) (aq _)) (λa_=>(kE (s.rep ⟨lg, .pointer none, .slice none 0 0⟩) 1 rfl (by have h1:=(aq m.ballot);omega) (Q1 ((s.rep ⟨lg, .pointer none, .slice none 0 0⟩).acc) 0 rfl (by have h1:=(aq m.ballot);omega) (ct ((aq (((s.rep ⟨lg, .pointer none, .slice none 0 0⟩).acc).vow)).trans (aq m.ballot).symm))))) (EN (PD 13 ?_));refine FD 14 1058 de fG ?_;refine FD 15 1061 pK cw ?_;refine AL 16 ?_
 refine gS (vs:=ints m.ballot.flat) (i:=1) (aa rfl) rfl rfl rfl rfl rfl (by rw[(aq m.ballot)];exact cw) (bk _) rfl rfl (λ_=>LC (cT _) (aq _)) (λa_=>(kE ((MS.setAcc s (AccT.mk s.acc.epoch m.ballot s.acc.had s.acc.change)).rep ⟨lg, .pointer none, .slice none 0 0⟩) 3 rfl (by have h1:=(aq m.ballot);omega) (AccT.wr_had_ (((MS.setAcc s (AccT.mk s.acc.epoch m.ballot s.acc.had s.acc.change)).rep ⟨lg, .pointer none, .slice none 0 0⟩).acc) 0 rfl (by have h1:=(aq m.ballot);omega) (ct ((aq ((((MS.setAcc s (AccT.mk s.acc.epoch m.ballot s.acc.had s.acc.change)).rep ⟨lg, .pointer none, .slice none 0 0⟩).acc).had)).trans (aq m.ballot).symm))))) (EN (PD 17 ?_));refine FD 18 1058 de fG ?_;refine FD 19 1063 pK fq ?_;refine AL 20 ?_;refine gS (vs:=ints m.change.flat) (i:=1) (aa rfl) rfl rfl rfl rfl rfl (by rw[(aJ m.change)];exact fq) (bk _) rfl rfl (λ_=>LC (cT _) (aJ _)) (λa_=>(kE ((MS.setAcc s (AccT.mk s.acc.epoch m.ballot m.ballot s.acc.change)).rep ⟨lg, .pointer none, .slice none 0 0⟩) 5 rfl (by have h1:=(aJ m.change);omega) (AccT.wr_change_ (((MS.setAcc s (AccT.mk s.acc.epoch m.ballot m.ballot s.acc.change)).rep ⟨lg, .pointer none, .slice none 0 0⟩).acc) 0 rfl (by have h1:=(aJ m.change);omega) (ct ((aJ ((((MS.setAcc s (AccT.mk s.acc.epoch m.ballot m.ballot s.acc.change)).rep ⟨lg, .pointer none, .slice none 0 0⟩).acc).change)).trans (aJ m.change).symm))))) (EN (DN (ac J9 (D1 0 mixed ?_))));refine PD 0 ?_;refine PD 1 ?_;refine PD 2 ?_
 refine FD 3 1066 de aR ?_;refine FD 5 177 ef cw ?_;refine FD 6 177 kf aR ?_;refine LX 7 Y3 (.int .i64 (m.ballot.round)) ?_ (hc:=by exact RecT.pt_ballot m 0 rfl (by decide) (e9 m.ballot rfl));refine AL 4 ?_;refine LG 1 Y3 (.int .i64 (s.round)) ?_ (hc:=by exact λa_=>(vD _ rfl));refine EN (ta 8 rfl (yP rfl rfl rfl) ?_);refine PD 9 ?_;refine FD 10 1066 de aR ?_;refine AL 11 ?_;refine SK 1 aR (λ_=>cT _) ?_ (hc:=by exact λa_=>(l4 _ rfl _));refine EN (DN (ag (WK [1] (bu rfl ?_))));exact congrArg (λq=>[DX lg r q]) (show(MS.setRound (MS.setAcc s (AccT.mk s.acc.epoch m.ballot m.ballot m.change)) (max s.round m.ballot.round))=jG s m by rw[jG,if_neg h7,if_neg h20,if_neg h30,if_neg h38,if_pos h57]<;>rfl);refine PS ?_;refine nx J8 (CN (sr λ_ J10=>PS ?_));refine ao ?_ ?_<;>intro h88;refine PS ?_;refine nx J10 (CY (ad (PS ?_)));refine FA 182 ef bg ?_;refine LV 0 eH bg an RecT.sp_view (y:=m.view) ?_;refine CZ Nh (u7 lg r s m.view) (SM [1]) λvR=>?_
 refine ap (ag (WK [0] (bu rfl ?_)));exact congrArg (λq=>[DX lg r q]) (show(nb s m.view)=jG s m by rw[jG,if_neg h7,if_neg h20,if_neg h30,if_neg h38,if_neg h57,if_pos h88]<;>rfl);refine PS ?_;refine nx J10 (CN (aT (ag (WK [1] (bu rfl ?_)))));exact congrArg (λq=>[DX lg r q]) (show s=jG s m by rw[jG,if_neg h7,if_neg h20,if_neg h30,if_neg h38,if_neg h57,if_neg h88]<;>rfl)
theorem LF{bs:List UInt8}(h: ¬(oo bs).2≠0):WF (oo bs).1.row.flat:=by
 rcases JU bs with⟨m,e,_,_,hw⟩|e
 · rw[e];exact hw
 · rw[e]at h;exact absurd (by decide) h
theorem BU{δ:Type}(e0:δ)(i:Int)(d:Nat)(D:DS)(hD:D.Ok)(hI:Wal.DS.In D)(hb:D.ws.length≤1000000):
 DT 43 #[(.int .i64 (i)),(.pointer (some ⟨d,0,none⟩))] T0 [dk d D] (dm (λr' H=>((bP D).err≠0∧r'= .tuple #[.pointer none, .int .i64 (bP D).err]∧H=[dk d (bP D).D])∨((bP D).err=0∧((lL (bP D).recs (Cu i e0)=none∧r'= .tuple #[.pointer none, .int .i64 1]∧H=[dk d (bP D).D])∨∃s r lg,lL (bP D).recs (Cu i e0)=some s∧r'= .tuple #[.pointer (some ⟨r,0,none⟩), .int .i64 0]∧H=[DX lg r s,Gf lg d (((bP D).recs.length:Nat):Int) (bP D).used,dk d (bP D).D])))):=by
 refine BD 50 Tryz.func43 rfl rfl rfl λw0 F hF=>sr λ_ J1=>P2 ?_
 refine nx J1 (ab λ_ J2=>sr λ_ J3=>PS ?_);refine tp (iW rfl Ih rfl rfl) ?_;refine nx J3 (CN (qx J2 (sr λ_ J4=>PS ?_)));refine CR P5 (Hu d D hD hI hb) ID λvR HR hR=>?_
 rcases hR with⟨he,rfl,rfl⟩| ⟨he,lg,vr,rfl,rfl⟩
 refine P4 ?_;refine P3 ?_;refine nx J4 (ab λ_ J5=>sr λ_ J6=>P2 ?_);refine ao ?_ ?_<;>intro h23;refine nx J6 (CY (sr λ_ J7=>P3 ?_));exact nx J7 (ai (af (WK [0] (gU rfl rfl rfl (.inl ⟨he,rfl,rfl⟩)))))
 · exact absurd he h23
 change TL _ _ _ _ _ _ _ _ _ [ah lg [(.pointer (some ⟨d,0,none⟩)),(.int .i64 ((((bP D).recs.length:Nat):Int))),(.int .i64 ((bP D).used))] 186,PB vr (bP D).recs,dk d (bP D).D];refine yH (p:=pq vr (bP D).recs.length∧vr.oneCell'=true) (λw m=>by obtain⟨h,_,_,hs⟩:=m;obtain⟨_,_,_,_,a,_⟩:=eE 1 (lb rfl) hs;exact uJ a) (λ⟨hsl,hvr⟩=>P4 ?_);refine P3 ?_;refine nx J4 (ab λ_ J8=>sr λ_ J9=>P2 ?_);refine nx J9 (CN (qx J8 (sr λ_ J10=>P2 ?_)))
 refine tp (yQ (cs:=RepT.cells (RepT.mk i (.pointer (some ⟨lg,0,none⟩)) ViewT.zero RowT.zero MirT.zero AccT.zero 0 (.pointer none) BookT.zero false 0 0 0 (.slice none 0 0) (#v[0,0,0,0,0]) (#v[RowT.zero,RowT.zero,RowT.zero,RowT.zero,RowT.zero]))) (segs:=[[Value.int .i64 0],[(.pointer none)],ints ViewT.zero.flat,ints RowT.zero.flat,MirT.cells MirT.zero,ints AccT.zero.flat,[Value.int .i64 0],[(.pointer none)],ints BookT.zero.flat,[Value.bool false],[Value.int .i64 0],[Value.int .i64 0],[Value.int .i64 0],[(.slice none 0 0)],ints (#v[0,0,0,0,0]).toList,ints ((#v[RowT.zero,RowT.zero,RowT.zero,RowT.zero,RowT.zero]).toList.flatMap RowT.flat)]) (res:=[[Value.int .i64 i],[(.pointer (some ⟨lg,0,none⟩))],ints ViewT.zero.flat,ints RowT.zero.flat,MirT.cells MirT.zero,ints AccT.zero.flat,[Value.int .i64 0],[(.pointer none)],ints BookT.zero.flat,[Value.bool false],[Value.int .i64 0],[Value.int .i64 0],[Value.int .i64 0],[(.slice none 0 0)],ints (#v[0,0,0,0,0]).toList,ints ((#v[RowT.zero,RowT.zero,RowT.zero,RowT.zero,RowT.zero]).toList.flatMap RowT.flat)]) (parts:=[(0,[Value.int .i64 i]),(1,[(.pointer (some ⟨lg,0,none⟩))])]) rfl rfl de (by kernel_rfl) (by kernel_rfl) rfl (fa rfl rfl (fa rfl ((rfl:[(.pointer (some ⟨lg,0,none⟩))].length=1).trans (rfl:[(.pointer none)].length=1).symm) lM)) (eA (RepT.mk i (.pointer (some ⟨lg,0,none⟩)) ViewT.zero RowT.zero MirT.zero AccT.zero 0 (.pointer none) BookT.zero false 0 0 0 (.slice none 0 0) (#v[0,0,0,0,0]) (#v[RowT.zero,RowT.zero,RowT.zero,RowT.zero,RowT.zero]))).symm) ?_
 refine XY (RepT.cells (RepT.mk i (.pointer (some ⟨lg,0,none⟩)) ViewT.zero RowT.zero MirT.zero AccT.zero 0 (.pointer none) BookT.zero false 0 0 0 (.slice none 0 0) (#v[0,0,0,0,0]) (#v[RowT.zero,RowT.zero,RowT.zero,RowT.zero,RowT.zero]))) λb28=>?_
 refine PS ?_;refine nx J10 (sr λ_ J11=>cm (H':=DX lg b28 (FK i e0)::[ah lg [(.pointer (some ⟨d,0,none⟩)),(.int .i64 ((((bP D).recs.length:Nat):Int))),(.int .i64 ((bP D).used))] 186,PB vr (bP D).recs,dk d (bP D).D]) (λ_ q=>bp (p:=λ_:Unit=>[ah b28 (RepT.cells ((FK i e0).rep ⟨lg, .pointer none, .slice none 0 0⟩)) 87]) () (aC [0] rfl q)) (PS ?_));refine CE Oc (xC) ID ?_;refine CZ Nh (u7 lg b28 (FK i e0) firstV) ID λvR=>?_
 refine nx J11 (ab λ_ J12=>sr λ_ J13=>PS ?_);refine tp (df rfl vA rfl hsl) ?_;refine PS ?_;refine nx J13 (au ?_)
 refine bn (α:=(Nat)×(MS δ)) (λ⟨k,s⟩=>k≤(bP D).recs.length∧lL (bP D).recs (Cu i e0)=lL ((bP D).recs.drop k) s) (λ⟨k,s⟩=>[(9,(.pointer (some ⟨b28,0,none⟩))),(32,vr),(33,(.int .i64 ((((bP D).recs.length:Nat):Int)))),(34,(.int .i64 (((k:Nat):Int))))]) (λ⟨k,s⟩=>[DX lg b28 s,ah lg [(.pointer (some ⟨d,0,none⟩)),(.int .i64 ((((bP D).recs.length:Nat):Int))),(.int .i64 ((bP D).used))] 186,PB vr (bP D).recs,dk d (bP D).D]) (λ⟨k,s⟩=>(bP D).recs.length-k) (0,(Cu i e0))
  ⟨aM _,rfl⟩ SB
  (λ_ s=>ak [0,0,0,0] rfl s) (λ⟨k,s⟩ hinv=>?_)
 obtain⟨hk,hrs⟩:=hinv;refine sr λ_ J14=>PS ?_
 refine ao ?_ ?_<;>intro h35;refine cm (λ_ s=>aC [2] rfl s) (MN (λus=>?_));change TL _ _ _ _ _ _ _ _ _ [own vr ((bP D).recs.length) (us) 53 1,eD us (bP D).recs 5,DX lg b28 s,ah lg [(.pointer (some ⟨d,0,none⟩)),(.int .i64 ((((bP D).recs.length:Nat):Int))),(.int .i64 ((bP D).used))] 186,dk d (bP D).D];refine yH (p:=us.length=(bP D).recs.length*1) (λw m=>m.own_len (i:=0) (lb rfl) rfl) (λhul=>?_);rw[fM]at hul;have hkl:k< (bP D).recs.length:=by omega
 refine hY 0 rfl rfl (by omega) (λg cap hv hcap=>?_);have hvq:vr= .slice (some ⟨g,0,none⟩) (bP D).recs.length cap:=hv;refine nx J14 (ab λ_ J15=>CY (qx J15 (ab λ_ J16=>au (sr λ_ J17=>tp (bd (r:=k) hv rfl vA kL rfl rfl (by omega) (by omega) (by omega)) ?_))));refine tp (ca (v:=(us.getD k undef)) rfl fE rfl rfl (fD 0 rfl hvq rfl) (by simp[List.getD_eq_getElem?_getD,show k<us.length by omega])) ?_;refine PS ?_;refine nx J17 (sr λ_ J18=>PS ?_);refine CF P0 (vk (us.getD k undef) (bP D).recs[k]) ID (λg d s=>uk 1 hkl rfl rfl g d s) ?_;refine P3 ?_;refine XZ Is (ints RecT.zero.flat) λb12=>?_
 refine SW 0 fH bm ?_;refine PS ?_;refine nx J18 (ab λ_ J19=>sr λ_ J20=>P2 ?_);refine ao ?_ ?_<;>intro h44;refine nx J20 (CY (sr λ_ J21=>P2 ?_));exact nx J21 (ai (af (aH (af (af (aH (af (WK [5] (gU rfl rfl rfl (.inr ⟨he, .inl ⟨hrs.trans (G8 hkl h44),rfl,rfl⟩⟩))))))))));refine nx J20 (CN (qx J19 (ad (PS ?_))));refine LW 0 ef fH bm ?_;refine CZ PZ (ym lg b28 s (oo (bP D).recs[k]).1 (LF h44)) (SM [3]) λvR=>?_
 refine ap (ag (ac J16 (ad (AD ?_))));refine PS ?_;refine ap ?_
 exact aI ((k+1,(jG s (oo (bP D).recs[k]).1)):(Nat)×(MS δ)) ⟨by omega,hrs.trans (I4 hkl h44)⟩ (by show(bP D).recs.length- (k+1)< (bP D).recs.length-k;omega)
  SB
  (λ_ s=>aC [1,1,0,0] rfl (bp (p:=λus:List Value=>[own vr (bP D).recs.length us 53 1,eD us (bP D).recs 5]) us (ak [2,2,0,1,1] rfl s)))
 refine nx J14 (ab λ_ J22=>CN (aX (aA (aA (bl (ac J12 (sr λ_ J23=>P3 ?_)))))));refine nx J23 (ai (WK [0,0,1] (gU rfl rfl rfl ?_)));exact .inr ⟨he, .inr ⟨s,b28,lg,by rw[hrs,cL (by omega)];rfl,rfl,rfl⟩⟩
def kH(k:Nat)(m:MsgT):List UInt8:=jo ((k / 5:Nat):Int) ((k%5:Nat):Int) (dR m)
def c8(W:List (List MsgT)):List (List (List UInt8)):=(List.range 25).map λk=>(W.getD k []).map (kH k)
theorem pR(W:List (List MsgT)):(c8 W).length=25:=by simp[c8]
theorem qG(W:List (List MsgT)){k:Nat}(h:k<25):(c8 W).getD k []=(W.getD k []).map (kH k):=by simp[c8,h,List.getD_eq_getElem?_getD]
theorem wc(W:List (List MsgT)){k:Nat}(h:k<25)(hW:W.length=25)(l:List MsgT):(c8 W).set k (l.map (kH k))=c8 (W.set k l):=by
 refine List.ext_getElem? λj=>?_
 by_cases hj:j=k
 · subst hj
   rw[List.getElem?_set_self (by rw[pR];exact h)];simp[c8,h,List.getD_eq_getElem?_getD,List.getElem?_set_self (show j<W.length by omega)]
 · rw[List.getElem?_set_ne (λe=>hj e.symm)]
   unfold c8;rw[List.getElem?_map,List.getElem?_map]
   by_cases hk:j<25
   · simp[hk,List.getD_eq_getElem?_getD,List.getElem?_set_ne (λe=>hj e.symm)]
   · simp[hk]
theorem BA{f t:Int}(hf:gQ f=true)(ht:gQ t=true)(m:MsgT):kH (bC f t) m=jo f t (dR m):=by
 have h1:0≤f∧f<5:=of_decide_eq_true hf;have h2:0≤t∧t<5:=of_decide_eq_true ht;unfold kH bC;rw[show(((f.toNat*5+t.toNat) / 5:Nat):Int)=f by omega,show(((f.toNat*5+t.toNat)%5:Nat):Int)=t by omega]
theorem sz{f t:Int}(h:dL f t=true):gQ f=true∧gQ t=true:=by
 unfold dL at h;rw[ay,ay]at h;exact h.1
theorem Ix{W:List (List MsgT)}(hW:W.length=25){f:Nat}(s:SaidT):oW (c8 W) ((f:Nat):Int) s.to' (jo ((f:Nat):Int) s.to' (dR s.msg))=c8 (sP W f s):=by
 unfold oW sP;cases hv:dL ((f:Nat):Int) s.to'
 · rfl
 · obtain⟨h1,h2⟩:=iv hv
   obtain⟨h3,h4⟩:=sz hv;rw[if_pos rfl,if_pos rfl,qG W h1,←BA h3 h4,←wc W h1 hW];unfold AI;rw[bT];split
   · rw[cz];rfl
   · rfl
theorem I7(W:List (List MsgT))(f:Nat)(s:SaidT):(sP W f s).length=W.length:=by unfold sP;split<;>simp
theorem GR(W:List (List MsgT))(f:Nat)(l:List SaidT):(gJ W f l).length=W.length:=by
 induction l generalizing W with
 |nil=>rfl
 |cons s l ih=>exact(ih _).trans (I7 _ _ _)
theorem GS(W:List (List MsgT))(f:Nat)(l:List SaidT)(s:SaidT):gJ W f (l++[s])=sP (gJ W f l) f s:=by simp[gJ]
theorem vZ(k:Nat)(m:MsgT):(kH k m).length≤1000000:=by
 unfold kH;rw[rS];have:=tf m;omega
end Go.Proofs.YtfocodjhmkokpaaGreatDoor
end

section
namespace Api
open Go Leg Codec Dsk Wal
def kN(D:DS):Nat→DS
 |0=> .new
 |k+1=>if jb D.s ((k:Nat):Int)=zs then kN D k else((kN D k).write ((k:Nat):Int) (jb D.s ((k:Nat):Int))).2
def nw(D:DS):DS:=(kN D 2048).sync.2
def NF(a:CL)(i:Nat):Option (MS LD):=if(a.at' i).up then none else(cO i (nw (a.at' i).dk)).1
def jc(a:CL)(i:Nat):Option (MS LD):=if(a.at' i).up then(a.at' i).run else(cO i (nw (a.at' i).dk)).1
def Np(s:MS LD)(b:BookT)(i:Nat):BookT:=(fA b ((i:Nat):Int) (dr s.mirror ((i:Nat):Int))).1
def sY(s:MS LD)(b:BookT):Nat→BookT
 |0=>b
 |i+1=>Np s (sY s b i) i
def iJ(a:CL):Nat→BookT
 |0=> .zero
 |j+1=>match jc a j with
  |some s=>sY s (iJ a j) 5
  |none=>iJ a j
def bi(a:CL):BookT:=iJ a 5
theorem Af{a:CL}{j:Nat}{s:MS LD}(h:jc a j=some s):iJ a (j+1)=sY s (iJ a j) 5:=by rw[iJ,h]
theorem Ag{a:CL}{j:Nat}(h:jc a j=none):iJ a (j+1)=iJ a j:=by rw[iJ,h]
def fS(a:CL):Nat→ViewT×Bool
 |0=>(firstV,false)
 |j+1=>match jc a j with
  |some s=>if(fS a j).2=false∨s.view.epoch>(fS a j).1.epoch then(s.view,true)else fS a j
  |none=>fS a j
def fK(a:CL):ViewT:=(fS a 5).1
theorem qh{a:CL}{j:Nat}(h:jc a j=none):fS a (j+1)=fS a j:=by rw[fS,h]
theorem ky{a:CL}{j:Nat}{s:MS LD}(h:jc a j=some s):fS a (j+1)=if(fS a j).2=false∨s.view.epoch>(fS a j).1.epoch then(s.view,true)else fS a j:=by rw[fS,h]
theorem uW{a:CL}{j:Nat}{s:MS LD}(h:jc a j=some s)(hk:(fS a j).2=true)(he: ¬s.view.epoch>(fS a j).1.epoch):fS a (j+1)=fS a j:=by
 rw[ky h,if_neg (λq=>q.elim (λz=>by rw[hk]at z;cases z) he)]
def tV(v:ViewT)(i:Nat):Int:=(jJ v ((i:Nat):Int)).getD ((i:Nat):Int)
def iy(B:BookT)(key:Int)(i:Nat):CellT:=c9 B ((i:Nat):Int) key
def IT(B:BookT)(key:Int)(i ow:Nat)(S:List Int):List Int:=S.set ow (fQ (S.getD ow 0+fQ ((iy B key i).inn- (iy B key i).out)))
def M0(B:BookT)(key:Int)(i ow j:Nat)(S:List Int):List Int:=S.set ow (fQ (S.getD ow 0+fQ ((iy B key j).given.toList.getD i 0- (iy B key i).given.toList.getD j 0)))
def KP(B:BookT)(key:Int)(i ow:Nat)(S:List Int):Nat→List Int
 |0=>S
 |j+1=>M0 B key i ow j (KP B key i ow S j)
def qJ(B:BookT)(key:Int)(v:ViewT):Nat→List Int
 |0=>List.replicate 5 0
 |i+1=>if 0≤tV v i∧tV v i<5 then KP B key i (tV v i).toNat (IT B key i (tV v i).toNat (qJ B key v i)) 5 else qJ B key v i
theorem qK(B:BookT)(key:Int)(i ow:Nat)(S:List Int): ∀j,(KP B key i ow S j).length=S.length
 |0=>rfl
 |j+1=>by rw[KP,M0,cA];exact qK B key i ow S j
theorem iK(B:BookT)(key:Int)(v:ViewT): ∀i,(qJ B key v i).length=5
 |0=>by simp[qJ]
 |i+1=>by
  rw[qJ];split
  · rw[qK,IT,cA];exact iK B key v i
  · exact iK B key v i
def ko(B:BookT)(key:Int)(k:Nat):Vector CellT 5:=Vector.ofFn λj:Fin 5=>if j.val<k then iy B key j.val else .zero
theorem Kg{B:BookT}{key:Int}{j:Nat}(hj:j<5):(ko B key 5)[j]=iy B key j:=by simp[ko,hj]
theorem Kf{B:BookT}{key:Int}{i:Nat}(hi:i<5):(ko B key i).set i (iy B key i) hi=ko B key (i+1):=by
 ext j hj
 rw[Vector.getElem_set];simp only[ko,Vector.getElem_ofFn];split
 · rename_i h;subst h;rw[if_pos (by omega)]
 · by_cases h:j<i
   · rw[if_pos h,if_pos (by omega)]
   · rw[if_neg h,if_neg (by omega)]
section
variable {n:Nat} {a:CL}
end
end Api
namespace Go.Proofs.YtfocodjhmkokpaaGreatDoor
open Go Leg Codec Api Dsk Wal
end Go.Proofs.YtfocodjhmkokpaaGreatDoor
end

section
namespace Api
open Go Leg Codec Dsk Wal
structure RepOk(m:Nat)(s:MS LD):Prop where
 ops:0≤s.ops∧s.ops≤((m:Nat):Int)
 r: ∀x∈s.replies,1≤x.op∧x.op≤s.ops
 one:(s.replies.map (·.op)).Nodup
 w:0<s.waits→s.waits≤s.ops∧∀x∈s.replies,x.op≠s.waits
theorem RepOk.more{m k:Nat}{s:MS LD}(h:RepOk m s)(hk:m≤k):RepOk k s:=⟨⟨h.ops.1,by have:=h.ops.2;omega⟩,h.r,h.one,h.w⟩
theorem RepOk.qt{m:Nat}{s t:MS LD}(h:RepOk m s)(q:Qt s t):RepOk m t:=by
 refine⟨by rw[q.ops];exact h.ops,by rw[q.ops,q.replies];exact h.r,by rw[q.replies];exact h.one,λhw=>?_⟩;rw[q.replies,q.ops];rcases q.waits with e|e
 · rw[e]at hw ⊢;exact h.w hw
 · rw[e]at hw;exact absurd hw (by decide)
theorem w8{l:List Int}{x:Int}(h:l.Nodup)(hx: ∀y∈l,y≠x):(l++[x]).Nodup:=by
 rw[List.nodup_append];exact⟨h,by simp,λa ha b hb=>by rw[cG]at hb;subst hb;exact hx a ha⟩
theorem RepOk.rp{m:Nat}{s t:MS LD}{e v:Int}(h:RepOk m s)(hw:0<s.waits)(q:Rp s t [⟨s.waits,e,v⟩])(w0:t.waits=0)(ho:t.ops=s.ops):RepOk m t:=by
 obtain⟨h1,h2⟩:=h.w hw;refine⟨by rw[ho];exact h.ops,λx hx=>?_,?_,λz=>by rw[w0]at z;exact absurd z (by decide)⟩
 · rw[q.replies]at hx
   rw[ho];rcases ci.1 hx with hx|hx
   · exact h.r x hx
   · rw[cG]at hx;subst hx
     exact⟨by show 1≤s.waits;omega,h1⟩
 · rw[q.replies,cz]
   exact w8 h.one λy hy=>by
    obtain⟨x,hx,rfl⟩:=eB.1 hy;exact h2 x hx
theorem RepOk.cli{m:Nat}{s:MS LD}(h:RepOk m s)(hm:m≤1000000)(o:OpT):RepOk (m+1) (bV KD s o).1:=by
 have ew:fQ (s.ops+1)=s.ops+1:=by
  have:=h.ops;exact bH (by omega) (by omega)
 have r1: ∀x∈s.replies,x.op≠s.ops+1:=λx hx=>by have:=(h.r x hx).2;omega
 rcases zE (K:=KD) s o with⟨e,v,q,_,ho,hw⟩| ⟨q,_,ho,hw⟩
 · rw[ew]at q ho
   refine⟨by rw[ho];have:=h.ops;omega,λx hx=>?_,?_,λz=>?_⟩
   · rw[q.replies]at hx
     rw[ho];rcases ci.1 hx with hx|hx
     · have:=h.r x hx;omega
     · rw[cG]at hx;subst hx
       have:=h.ops;show 1≤s.ops+1∧s.ops+1≤s.ops+1;omega
   · rw[q.replies,cz]
     exact w8 h.one λy hy=>by
      obtain⟨x,hx,rfl⟩:=eB.1 hy;exact r1 x hx
   · rcases hw with hw|hw
     · rw[hw]at z ⊢
       obtain⟨h1,h2⟩:=h.w z;rw[ho,q.replies];refine⟨by omega,λx hx=>?_⟩;rcases ci.1 hx with hx|hx
       · exact h2 x hx
       · rw[cG]at hx;subst hx
         show s.ops+1≠s.waits;omega
     · rw[hw]at z;exact absurd z (by decide)
 · rw[ew]at ho hw
   have er:(bV KD s o).1.replies=s.replies:=by rw[q.replies,aP]
   refine⟨by rw[ho];have:=h.ops;omega,λx hx=>?_,by rw[er];exact h.one,λz=>?_⟩
   · rw[er]at hx
     rw[ho];have:=h.r x hx;omega
   · rw[hw,ho,er]
     exact⟨by omega,r1⟩
theorem RepOk.hush{m:Nat}{s:MS LD}(h:RepOk m s):RepOk m s.hush:=⟨h.ops,h.r,h.one,h.w⟩
theorem RepOk.fresh{m:Nat}{i:Int}{e:LD}{s:MS LD}(f:Fresh i e s):RepOk m s:=by
 refine⟨by rw[f.ops];omega,λx hx=>?_,by rw[f.replies];exact List.nodup_nil,λz=>?_⟩
 · rw[f.replies]at hx;cases hx
 · rw[f.waits]at z;exact absurd z (by decide)
theorem CL.set_at{a:CL}{i j:Nat}{x:Slot}{W:List (List MsgT)}(hi:i<a.ms.length):(CL.mk (a.ms.set i x) W).at' j=if j=i then x else a.at' j:=by
 split
 · rename_i h;subst h;exact ux hi
 · rename_i h;exact ve h
structure RepsOk(m:Nat)(a:CL):Prop where
 ok: ∀i s,(a.at' i).run=some s→RepOk m s
theorem RepsOk.more{m k:Nat}{a:CL}(h:RepsOk m a)(hk:m≤k):RepsOk k a:=⟨λi s q=>(h.ok i s q).more hk⟩
theorem RepsOk.put{m:Nat}{a:CL}(h:RepsOk m a){i:Nat}(hi:i<a.ms.length){x:Slot}{W:List (List MsgT)}(hx: ∀s,x.run=some s→RepOk m s):RepsOk m ⟨a.ms.set i x,W⟩:=⟨λj s q=>by
 rw[CL.set_at hi]at q;split at q
 · exact hx s q
 · exact h.ok j s q⟩
theorem p7{x:Slot}{s:MS LD}(h:x.run=some s):x.reps=x.past++s.replies:=by unfold Slot.reps;rw[h]
theorem n4{x:Slot}(h:x.run=none):x.reps=x.past:=by unfold Slot.reps;rw[h];exact aP _
theorem H5{n m:Nat}{a:CL}(h:CLOk n a)(g:RepsOk m a)(hm:m≤1000000)(o:OpT):RepsOk (m+1) (zA a o).1:=by
 have none':RepsOk (m+1) a:=g.more (by omega)
 have did: ∀{i:Nat} {s t:MS LD},i<5→(a.at' i).run=some s→RepOk (m+1) t→RepsOk (m+1) (a.did i t):=λhi _ ht=>RepsOk.put none' (by rw[h.ms];exact hi) λs q=>by
  obtain rfl:=cY q;exact ht.hush
 unfold zA
 by_cases hm':gQ o.at'=false
 · rw[if_pos hm'];exact none'
 rw[if_neg hm'];obtain⟨hi,_⟩:=lT (show gQ o.at'=true by simpa using hm');have hi2:o.at'.toNat<a.ms.length:=by rw[h.ms];exact hi
 split
 · unfold Dr
   split
   · exact none'
   · rename_i s hs
     split
     · exact none'
     · exact did hi hs ((g.ok _ s hs).cli hm o)
 split
 · unfold oF
   split
   · exact none'
   split
   · exact none'
   split
   · split
     · exact⟨none'.ok⟩
     · exact none'
   split
   · exact none'
   split
   · exact⟨none'.ok⟩
   · rename_i m' l _ _
     unfold ti;split
     · exact⟨none'.ok⟩
     · rename_i s hs
       split
       · exact⟨none'.ok⟩
       · split
         · have hs':(a.at' o.to'.toNat).run=some s:=hs
           have ok:RepOk (m+1) (gj KD s ((o.at'.toNat:Nat):Int) (iR (dR m')).1):=by
            have h0:=(g.ok _ s hs').more (Nat.le_succ m);rcases Ai (K:=KD) s ((o.at'.toNat:Nat):Int) (iR (dR m')).1 with q| ⟨hw,q,q2,q3⟩
            · exact h0.qt q
            · exact h0.rp hw q q2 q3
           unfold CL.did
           by_cases ht:o.to'.toNat<5
           · exact RepsOk.put (a:=a) none' (by rw[h.ms];exact ht) λs q=>by
              obtain rfl:=cY q;exact ok.hush
           · rw[show((a.way (bC o.at' o.to') l).ms.set o.to'.toNat _)=a.ms from ni (by show a.ms.length≤_;rw[h.ms];omega)]
             exact⟨none'.ok⟩
         · exact⟨none'.ok⟩
 split
 · unfold BG
   split
   · exact none'
   · rename_i s hs
     split
     · exact none'
     · exact did hi hs (((g.ok _ s hs).more (Nat.le_succ m)).qt inferInstance)
 split
 · refine none'.put hi2 λs q=>?_
   unfold vu at q;split at q
   · rename_i t ht
     obtain rfl:=cY q;have:=none'.ok _ t ht;exact⟨this.ops,this.r,this.one,this.w⟩
   · rename_i ht
     have q:(a.at' o.at'.toNat).run=some s:=q;rw[ht]at q;cases q
 split
 · exact none'.put hi2 λs q=>by cases q
 split
 · refine none'.put hi2 λs q=>?_
   unfold g8 at q;split at q
   · exact none'.ok _ s q
   · obtain⟨_,hr⟩:=kr q
     exact RepOk.fresh (tw _ (DY _ _) hr)
 · exact none'
theorem Ek{i:Nat}{x:Slot}{s:MS LD}(h:(g8 i x).1.run=some s):x.run=some s∨(cO i x.D).1=some s:=by
 unfold g8 at h;split at h
 · exact .inl h
 · exact .inr h
theorem EK:RepsOk 0 CL.new:=⟨λi s q=>by
 by_cases hi:i<5
 · have e:CL.new.at' i=mA i:=by simp[CL.new,CL.at',List.getD_eq_getElem?_getD,hi]
   rw[e]at q;unfold mA at q;rcases Ek q with q|q
   · cases q
   obtain⟨_,hr⟩:=kr q;exact RepOk.fresh (tw _ (DY _ _) hr)
 · have e:CL.new.at' i= .nil:=by
    unfold CL.at' CL.new;rw[List.getD_eq_getElem?_getD,List.getElem?_eq_none (by rw[bT,js];omega),Option.getD_none]
   rw[e]at q;cases q⟩
theorem G1(a:CL)(l:List OpT)(o:OpT):gy a (l++[o])=(zA (gy a l) o).1:=by simp[gy]
theorem tQ(a:CL)(l:List OpT){k:Nat}(hk:k<l.length):gy a (l.take (k+1))=(zA (gy a (l.take k)) (l[k])).1:=by
 rw[br hk,G1]
def qn:CL→List OpT→Nat
 |_,[]=>0
 |a,o::l=>(if(zA a o).2=0 then 1 else 0)+qn (zA a o).1 l
theorem xJ: ∀(l:List OpT) (a:CL) (o:OpT),qn a (l++[o])=qn a l+(if(zA (gy a l) o).2=0 then 1 else 0)
 | [],a,o=>by
  show(if(zA a o).2=0 then 1 else 0)+0=0+_;rw[yS,bf];rfl
 |x::l,a,o=>by
  rw[iu,qn,qn,xJ l];show _=_+_+_;rw[vE];rfl
theorem xI(a:CL)(l:List OpT){k:Nat}(hk:k<l.length):qn a (l.take (k+1))=qn a (l.take k)+(if(zA (gy a (l.take k)) (l[k])).2=0 then 1 else 0):=by
 rw[br hk,xJ]
theorem C9: ∀(l:List OpT) (a:CL),qn a l≤l.length
 | [],_=>aL _
 |o::l,a=>by
  rw[qn,am];have:=C9 l (zA a o).1;split<;>omega
def Sml(n:Int):Prop:=0≤n∧n≤20
theorem Sml.inr{n:Int}(h:Sml n):rj n:=⟨by have:=h.1;omega,by have:=h.2;omega⟩
abbrev QU:= @Sml.inr
theorem pj{k:Int}(h:decide (0≤k∧k≤20)=true):Sml k:=by
 have:0≤k∧k≤20:=of_decide_eq_true h;exact this
theorem IQ(v:ViewT)(c:ChangeT):Sml (dM v c).2:=by
 unfold dM
 repeat' split
 all_goals exact pj rfl
theorem GO(D:DS)(at':Int)(bs:List UInt8):Sml (D.write at' bs).1:=by
 unfold DS.write
 repeat' split
 all_goals exact pj rfl
theorem ww: ∀(ss:List jP) (at':Int) (D:DS),Sml (gv ss at' D).1
 | [],_,_=>pj rfl
 |s::ss,at',D=>by
  rw[gv];split
  · exact ww ss _ _
  · exact GO _ _ _
theorem FR(e:LD)(bs:List UInt8):Sml (e.put bs).2:=by
 unfold LD.put n7 DS.sync;simp only
 repeat' split
 all_goals first|exact pj rfl|exact ww _ _ _
theorem IR(x:RowT)(key n k:Int)(c:CellT):Sml (kW x key n k c).2:=by
 unfold kW;split<;>exact pj rfl
theorem IS(x:RepT)(o:OpT):Sml (gB x o).2:=by
 unfold gB oP oQ ly
 repeat' split
 all_goals first|exact pj rfl|exact IR _ _ _ _ _
theorem IP(x:RepT)(o:OpT):Sml (iL x o).2.2:=by
 unfold iL
 repeat' split
 all_goals first|exact pj rfl|exact IS _ _
theorem JI(b:BookT)(key:Int):rj (gF b key):=by
 unfold gF;rw[show qH b key 5=_ from oI b key 4];exact kI _
theorem JH(x:RepT)(o:OpT):rj (iL x o).2.1:=by
 unfold iL
 repeat' split
 all_goals first|exact QU (pj rfl)|exact JI _ _
structure RW(r:ReplyT):Prop where
 op:rj r.op
 err:rj r.err
 value:rj r.value
theorem RW.wf{r:ReplyT}(h:RW r):WF r.flat:=λn hn=>by
 simp only[ReplyT.flat,bJ,List.not_mem_nil,or_false]at hn;rcases hn with rfl|rfl|rfl
 · exact nu h.op
 · exact nu h.err
 · exact nu h.value
theorem H9(s:MS LD)(o:OpT): ∀r∈(bV KD s o).1.replies,r∈s.replies∨RW r:=by
 have rep: ∀(t u:MS LD) (op e v:Int),t.replies=s.replies→rj op→rj e→rj v→u.replies=(dw t op e v).replies→∀r∈u.replies,r∈s.replies∨RW r:=λt u op e v ht h1 h2 h3 hu r hr=>by
  rw[hu]at hr;have hr:r∈t.replies++[⟨op,e,v⟩]:=hr;rcases ci.1 hr with hr|hr
  · rw[ht]at hr;exact .inl hr
  · rw[cG]at hr;subst hr;exact .inr ⟨h1,h2,h3⟩
 have z:rj 0:=QU (pj rfl);have ho:rj (bF s).ops:=kI _
 have hb:Sml (cp KD (bF s) o.change).2:=by
  unfold cp
  repeat' split
  all_goals first|exact pj rfl|exact FR _ _
 unfold bV;split
 · unfold dX
   split
   · refine rep (bF s) _ _ _ 0 rfl ho (QU ?_) z rfl
     unfold fF;split
     · exact pj rfl
     · exact IQ _ _
   · have q:Qt (bF s) (cp KD (bF s) o.change).1:=inferInstance
     split
     · exact rep (cp KD (bF s) o.change).1 _ _ _ 0 q.replies ho hb.inr z rfl
     · have q2:Qt (dw (cp KD (bF s) o.change).1 (bF s).ops 0 0) (n9 KD (dw (cp KD (bF s) o.change).1 (bF s).ops 0 0) (jy (bF s).view (eG (bF s)) o.change)):=inferInstance
       exact rep (cp KD (bF s) o.change).1 _ _ 0 0 q.replies ho z z q2.replies
 · unfold nR
   split
   · exact rep (bF s) _ _ _ _ rfl ho (IP _ _).inr (JH _ _) rfl
   · have hg:Sml (eS KD (bF s) (dh (bF s) o).1 (bF s).ops).2:=by
      unfold eS;split
      · exact FR _ _
      · exact pj rfl
     rcases Gi (K:=KD) (bF s) (dh (bF s) o).1 (bF s).ops with⟨h,q⟩| ⟨h,q,_⟩
     · rw[if_pos h]
       exact rep (eS KD (bF s) (dh (bF s) o).1 (bF s).ops).1 _ _ _ 0 q.replies ho hg.inr z rfl
     · rw[if_neg (by omega)]
       intro r hr;rw[q.replies,aP]at hr;exact .inl hr
def MP(a:CL):Prop:=∀i,∀r∈(a.at' i).reps,RW r
theorem Ln:MP CL.new:=λi r hr=>by
 by_cases hi:i<5
 · have e:CL.new.at' i=mA i:=by simp[CL.new,CL.at',List.getD_eq_getElem?_getD,hi]
   rw[e]at hr;unfold mA g8 at hr;have hr:r∈(Slot.mk (cO i Slot.nil.D).1 (bP Slot.nil.D).D []).reps:=hr;cases hs:(cO i Slot.nil.D).1 with
   |none=>rw[hs]at hr;unfold Slot.reps at hr;simp at hr
   |some s=>
    rw[hs]at hr;obtain⟨_,hr'⟩:=kr hs;have f:=tw _ (DY _ _) hr';unfold Slot.reps at hr;simp[f.replies]at hr
 · have e:CL.new.at' i= .nil:=by
    unfold CL.at' CL.new;rw[List.getD_eq_getElem?_getD,List.getElem?_eq_none (by rw[bT,js];omega),Option.getD_none]
   rw[e]at hr;unfold Slot.reps Slot.nil at hr;simp at hr
theorem Nw{n m:Nat}{a:CL}(h:CLOk n a)(g:RepsOk m a)(hm:m≤1000000)(hw:MP a)(o:OpT):MP (zA a o).1:=by
 have did: ∀{i:Nat} {s t:MS LD} {W:List (List MsgT)},i<5→(a.at' i).run=some s→(∀r∈t.replies,r∈s.replies∨RW r)→MP ⟨a.ms.set i {a.at' i with run:=some t.hush},W⟩:=λ {i s t W} hi hs ht j r hr=>by
  rw[CL.set_at (by rw[h.ms];exact hi)]at hr;split at hr
  · rw[p7 (x:= {a.at' i with run:=some t.hush}) rfl]at hr
    have hsl: ∀r∈(a.at' i).past++s.replies,RW r:=λr hr=>hw i r (by rw[p7 hs];exact hr)
    rcases ci.1 hr with hr|hr
    · exact hsl r (List.mem_append_left _ hr)
    · rcases ht r hr with hr|hr
      · exact hsl r (Q4 _ hr)
      · exact hr
  · exact hw j r hr
 have put: ∀{i:Nat} {x:Slot},i<5→x.reps=(a.at' i).reps→MP (a.set i x):=λ {i x} hi hx j r hr=>by
  have hr:r∈((CL.mk (a.ms.set i x) a.W).at' j).reps:=hr;rw[CL.set_at (by rw[h.ms];exact hi)]at hr;split at hr
  · rw[hx]at hr;exact hw i r hr
  · exact hw j r hr
 unfold zA
 by_cases hm':gQ o.at'=false
 · rw[if_pos hm'];exact hw
 rw[if_neg hm'];obtain⟨hi,_⟩:=lT (show gQ o.at'=true by simpa using hm');split
 · unfold Dr
   split
   · exact hw
   · rename_i s hs
     split
     · exact hw
     · exact did hi hs (H9 s o)
 split
 · unfold oF
   split
   · exact hw
   split
   · exact hw
   split
   · split
     · exact hw
     · exact hw
   split
   · exact hw
   split
   · exact hw
   · rename_i m' l _ _
     unfold ti;split
     · exact hw
     · rename_i s hs
       split
       · exact hw
       · split
         · have hs':(a.at' o.to'.toNat).run=some s:=hs
           by_cases ht:o.to'.toNat<5
           · refine did (W:=gJ (a.W.set (bC o.at' o.to') l) o.to'.toNat _) ht hs' λr hr=>?_
             rcases Ai (K:=KD) s ((o.at'.toNat:Nat):Int) (iR (dR m')).1 with q| ⟨hw',q,_,_⟩
             · rw[q.replies]at hr;exact .inl hr
             · rw[q.replies]at hr
               rcases ci.1 hr with hr|hr
               · exact .inl hr
               · rw[cG]at hr;subst hr
                 have h1:=(g.ok _ s hs').w hw';have h2:=(g.ok _ s hs').ops;exact .inr ⟨⟨by show-9223372036854775808≤s.waits;omega,by show s.waits<9223372036854775808;omega⟩,QU ⟨Int.le_refl _,by show(0:Int)≤20;omega⟩,QU ⟨Int.le_refl _,by show(0:Int)≤20;omega⟩⟩
           · intro j r hr
             unfold CL.did at hr;rw[show((a.way (bC o.at' o.to') l).ms.set o.to'.toNat _)=a.ms from ni (by show a.ms.length≤_;rw[h.ms];omega)]at hr;exact hw j r hr
         · exact hw
 split
 · unfold BG
   split
   · exact hw
   · rename_i s hs
     split
     · exact hw
     · refine did (W:=gJ a.W o.at'.toNat _) hi hs λr hr=>?_
       have q:Qt s (iw KD s):=inferInstance;rw[q.replies]at hr;exact .inl hr
 split
 · refine put hi ?_
   unfold vu;split
   · rename_i s hs
     rw[p7 hs,p7 (x:= {a.at' o.at'.toNat with run:=some (s.dsk (s.e.D.arm o.n))}) rfl];rfl
   · rename_i hs
     rw[n4 hs];exact n4 hs
 split
 · exact put hi (n4 rfl)
 split
 · refine put hi ?_
   unfold g8;split
   · rfl
   · rename_i hs
     rw[n4 hs];cases hd:(cO o.at'.toNat (a.at' o.at'.toNat).D).1 with
     |none=>exact n4 rfl
     |some s=>
      obtain⟨_,hr⟩:=kr hd;have f:=tw _ (DY _ _) hr;show(Slot.mk (some s) _ (a.at' o.at'.toNat).past).reps=_;rw[p7 (x:=Slot.mk (some s) _ (a.at' o.at'.toNat).past) rfl,f.replies,aP]
 · exact hw
theorem FU: ∀(l:List OpT) {n m:Nat} {a:CL},CLOk n a→RepsOk m a→MP a→(∀o∈l,OkOp o)→m+l.length≤1000000→MP (gy a l)
 | [],_,_,_,_,_,hw,_,_=>hw
 |o::l,n,m,a,h,g,hw,ho,hl=>by
  rw[am]at hl;exact FU l (MK h (ho o (eC ..))) (H5 h g (by omega) o) (Nw h g (by omega) hw o) (λx hx=>ho x (gN _ hx)) (by omega)
end Api
end

section
namespace Go.Proofs.YtfocodjhmkokpaaGreatDoor
open Go Leg Codec Api Dsk Wal
def mW:List UInt8:=[109,97,99,104,105,110,101,32]
def rW:List UInt8:=[114,101,112,108,121]
def cW:List UInt8:=[99,111,117,110,116,101,114]
def DV(i:Nat):List UInt8:=m9 (mW++Lib.itoa ((i:Nat):Int)++[32,100,111,119,110]) []
def D8(s:MS LD):List Int:=s.view.epoch::s.own.version::px s.view.members
def uD(i:Nat)(s:MS LD):List UInt8:=m9 (mW++Lib.itoa ((i:Nat):Int)++[32,117,112]) (D8 s)
def xw(a:CL)(i:Nat):List UInt8:=match(a.at' i).run with
 |some s=>if(a.at' i).up then uD i s else DV i
 |none=>DV i
def G4(r:ReplyT):List UInt8:=m9 rW [r.op,r.err,r.value]
def fJ(l:List ReplyT):List UInt8:=l.flatMap G4
def lU(a:CL)(i:Nat):List UInt8:=xw a i++fJ (a.at' i).reps
def ji(a:CL)(i:Nat):List UInt8:=(List.range i).flatMap (lU a)
def yz(a:CL)(k:Nat):List Int:=((k:Nat):Int)::gF (bi a) ((k:Nat):Int)::qJ (bi a) ((k:Nat):Int) (fK a) 5
def Dg(a:CL)(k:Nat):List UInt8:=m9 cW (yz a k)
def oq(a:CL)(k:Nat):List UInt8:=(List.range k).flatMap (Dg a)
def gG(a:CL):List UInt8:=ji a 5++oq a 4
theorem wV{α:Type}(f:Nat→List α)(k:Nat):(List.range (k+1)).flatMap f=(List.range k).flatMap f++f k:=by rw[cZ,ri];simp
theorem qe(a:CL)(i:Nat):ji a (i+1)=ji a i++lU a i:=wV ..
theorem o9(a:CL)(k:Nat):oq a (k+1)=oq a k++Dg a k:=wV ..
theorem rH(l:List ReplyT){k:Nat}(h:k<l.length):fJ (l.take (k+1))=fJ (l.take k)++G4 l[k]:=by
 unfold fJ;rw[br h,ri];simp
theorem AX{n:Int}(h:rj n):yV n:=⟨h.1,by have:=h.2;omega⟩
theorem kl{n:Int}(h:0≤n∧n≤1000):yV n:=⟨by omega,by omega⟩
theorem E5(n:Int):yV (fQ n):=AX (kI n)
theorem zO:All64 []:=λ_ h=>by cases h
theorem pe{n:Int}{l:List Int}(h:yV n)(g:All64 l):All64 (n::l):=λm hm=>by
 rcases bJ.1 hm with rfl|hm
 · exact h
 · exact g m hm
theorem Gh{l:List Int}(h:WF l){n:Int}(hn:n∈l):yV n:=AX (vW (h n hn))
theorem qS{r:ReplyT}(h:RW r):All64 [r.op,r.err,r.value]:=λn hn=>Gh (l:=r.flat) h.wf (by simpa [ReplyT.flat]using hn)
theorem Em{b n:Int}(h:n∈px b):0≤n∧n<5:=by
 unfold px kw at h;obtain⟨i,hi,rfl⟩:=eB.1 h;have:=dZ.1 (NK.1 hi).1;omega
theorem wz(b:Int):(px b).length≤5:=by
 unfold px kw;rw[bT];exact ml (pv ..) (by simp)
theorem xX{s:MS LD}[h:OkR KD s]:All64 (D8 s):=pe (Gh h.view.wf (by simp[ViewT.flat])) (pe (AX h.own.version) λn hn=>by have:=Em hn;exact kl (by omega))
theorem E6(b:BookT)(key:Int):yV (gF b key):=by
 unfold gF;rw[oI];exact E5 _
theorem zN{l:List Int}(h:All64 l)(i:Nat){n:Int}(hn:yV n):All64 (l.set i n):=λm hm=>by
 rcases List.mem_or_eq_of_mem_set hm with hm|rfl
 · exact h m hm
 · exact hn
theorem zM{B:BookT}{key:Int}{i ow:Nat}{S:List Int}(h:All64 S): ∀j,All64 (KP B key i ow S j)
 |0=>h
 |j+1=>zN (zM h j) _ (E5 _)
theorem uy(B:BookT)(key:Int)(v:ViewT): ∀i,All64 (qJ B key v i)
 |0=>λn hn=>by obtain rfl:=List.eq_of_mem_replicate hn;exact kl (by omega)
 |i+1=>by
  rw[qJ];split
  · exact zM (zN (uy B key v i) _ (E5 _)) 5
  · exact uy B key v i
theorem zP(a:CL){k:Nat}(hk:k<4):All64 (yz a k):=pe (kl (by omega)) (pe (E6 ..) (uy (bi a) ((k:Nat):Int) (fK a) 5))
theorem xN(a:CL)(k:Nat):(yz a k).length=7:=by simp[yz,iK]
theorem Ae(s:MS LD):(D8 s).length≤7:=by have:=wz s.view.members;simp only[D8,am];omega
theorem I2{r:ReplyT}(h:RW r):(G4 r).length≤72:=qN (qS h)
theorem n5: ∀{l:List ReplyT},(∀r∈l,RW r)→(fJ l).length≤72*l.length
 | [],_=>aL _
 |r::l,h=>by
  have h1:=I2 (h r (eC ..));have h2:=n5 (l:=l) λx hx=>h x (gN _ hx)
  show(G4 r++fJ l).length≤_;simp only[ae,am];omega
theorem A1{i:Nat}(h:i<5):(DV i).length≤200:=by
 have h1:=qN (ws:=mW++Lib.itoa ((i:Nat):Int)++[32,100,111,119,110]) zO;have h2:=vK (kl (n:=((i:Nat):Int)) (by omega));unfold DV;simp only[ae,am,aw,mW]at h1 ⊢;omega
theorem Ad{i:Nat}(h:i<5){s:MS LD}[OkR KD s]:(uD i s).length≤200:=by
 have h1:=qN (ws:=mW++Lib.itoa ((i:Nat):Int)++[32,117,112]) (xX (s:=s));have h2:=vK (kl (n:=((i:Nat):Int)) (by omega));have h3:=Ae s;unfold uD;simp only[ae,am,aw,mW]at h1 ⊢;omega
structure TOk(n:Nat)(a:CL):Prop where
 ok:CLOk n a
 rws:MP a
theorem TOk.run{n:Nat}{a:CL}(h:TOk n a){i:Nat}(hi:i<5){s:MS LD}(hs:(a.at' i).run=some s):OkR KD s:=((h.ok.at' i hi).run s hs).1
theorem TOk.reps{n:Nat}{a:CL}(h:TOk n a){i:Nat}(hi:i<5):(a.at' i).reps.length≤n:=by have:=(h.ok.at' i hi).reps;omega
theorem HW{n:Nat}{a:CL}(h:TOk n a){i:Nat}(hi:i<5):(xw a i).length≤200:=by
 unfold xw;split
 · rename_i s hs
   have:=h.run hi hs;split
   · exact Ad hi
   · exact A1 hi
 · exact A1 hi
theorem HF{n:Nat}{a:CL}(h:TOk n a){i:Nat}(hi:i<5):(lU a i).length≤200+72*n:=by
 have h1:=HW h hi;have h2:=n5 (l:=(a.at' i).reps) (h.rws i);have h3:=h.reps hi;unfold lU;rw[ae];omega
theorem rM{n:Nat}{a:CL}(h:TOk n a): ∀{i:Nat},i≤5→(ji a i).length≤i* (200+72*n)
 |0,_=>aM _
 |i+1,hi=>by
  have h1:=rM h (i:=i) (by omega);have h2:=HF h (i:=i) (by omega);rw[qe,ae,Ku];omega
theorem JY(a:CL){k:Nat}(hk:k<4):(Dg a k).length≤162:=by
 have h1:=qN (ws:=cW) (zP a hk);rw[xN]at h1;exact h1
theorem uo(a:CL): ∀{k:Nat},k≤4→(oq a k).length≤k*162
 |0,_=>aM _
 |k+1,hk=>by
  have h1:=uo a (k:=k) (by omega);have h2:=JY a (k:=k) (by omega);rw[o9,ae,Ku];omega
theorem wZ(c:Nat)(w:Int):
 DT 30 #[(.pointer (some ⟨c,0,none⟩)),(.int .i64 (w))] T0 [] (RI (.bool (gQ w)) []):=by
 refine BD 15 Tryz.func30 rfl rfl rfl λw0 F hF=>sr λ_ J1=>PS ?_
 refine nx J1 (sr λ_ J2=>PS ?_);refine tp (jq rfl NH rfl rfl) ?_;refine P3 ?_;refine ao ?_ ?_<;>intro h9
 iterate 6 refine PS ?_
 refine nx J2 (ai (WK [] (av rfl rfl ?_)));exact⟨congrArg Value.bool (by unfold gQ;simp only[decide_eq_decide];omega),rfl⟩;refine P2 ?_;refine UF ?_;refine UF ?_;refine P2 ?_;refine nx J2 (ai (WK [] (av rfl rfl ?_)));exact⟨congrArg Value.bool (by unfold gQ;symm;exact decide_eq_false (by omega)),rfl⟩
theorem dT(c i:Nat)(hi:i<5):DT 30 #[.pointer (some ⟨c,0,none⟩), .int .i64 ((i:Nat):Int)] T0 [] (RI (.bool true) []):=by
 have:=wZ c ((i:Nat):Int)
 rwa [show gQ ((i:Nat):Int)=true from decide_eq_true ⟨by omega,by omega⟩]at this
theorem sB(c n i:Nat)(D M P:Nat→Value)(hi:i<5)(hM:M i= .pointer none):
 DT 29 #[(.pointer (some ⟨c,0,none⟩)),(.int .i64 (((i:Nat):Int)))] T0 [ah c (eN n D M P) 73] (RI (.bool false) [ah c (eN n D M P) 73]):=by
 refine BD 27 Tryz.func29 rfl rfl rfl λw0 F hF=>sr λ_ J1=>PS ?_
 refine nx J1 (sr λ_ J2=>P2 ?_);refine CE qb (dT c i hi) ID ?_;refine P4 ?_;refine FA 6 pL pw ?_;refine IX (6+i) vw kh ?_;refine LT 0 uA (.pointer none) ?_ (hc:=by exact(xP n D M P hi).trans (congrArg some hM));refine tq (iX rfl uA rfl rfl) ?_;refine P2 ?_
 iterate 8 refine UF ?_
 refine P2 ?_;exact nx J2 (ai (WK [0] (av rfl rfl ⟨rfl,rfl⟩)))
theorem N4 (c i : Nat) : x9 Tryz.prog 113 (N3 c i) "Send" 215 := fun w => by kernel_rfl
theorem sA(c n i:Nat)(D M P:Nat→Value)(hi:i<5)(d r:Nat)(e:DS)(hD:D i= .pointer (some ⟨d,0,none⟩))(hM:M i= .pointer (some ⟨r,0,none⟩)):
 DT 29 #[(.pointer (some ⟨c,0,none⟩)),(.int .i64 (((i:Nat):Int)))] T0 [ah c (eN n D M P) 73,dk d e] (RI (.bool (!e.dn)) [ah c (eN n D M P) 73,dk d e]):=by
 refine BD 27 Tryz.func29 rfl rfl rfl λw0 F hF=>sr λ_ J1=>PS ?_
 refine nx J1 (sr λ_ J2=>P2 ?_);refine CE qb (dT c i hi) ID ?_;refine P4 ?_;refine FA 6 pL pw ?_;refine IX (6+i) vw kh ?_;refine LT 0 uA (.pointer (some ⟨r,0,none⟩)) ?_ (hc:=by exact(xP n D M P hi).trans (congrArg some hM));refine tq (jq rfl uA rfl rfl) ?_
 iterate 5 refine PS ?_
 refine FA 1 pL Ak ?_;refine IX (1+i) L1 vi ?_;refine LT 0 Ih (.pointer (some ⟨d,0,none⟩)) ?_ (hc:=by exact(Du n D M P hi).trans (congrArg some hD));refine CE Oe (Gk d e) (SM [1]) ?_;refine tq (mG rfl rfl rfl) ?_;refine P2 ?_;exact nx J2 (ai (WK [1,0] (av rfl rfl ⟨rfl,rfl⟩)))
theorem Eo(c n i:Nat)(D M P:Nat→Value)(hi:i<5)(d:Nat)(e:DS)(hD:D i= .pointer (some ⟨d,0,none⟩))(W:List (List MsgT))(hW:W.length=25)(to':Int)(m:MsgT):
 DT 215 #[(.agg #[(.pointer (some ⟨c,0,none⟩)),(.int .i64 (((i:Nat):Int)))]),(.int .i64 (to')),(.agg (ints m.flat).toArray)] T0 [ah c (eN n D M P) 73,dk d e,eJ 135 184 5 n (c8 W)] (dm (λ_ H=>H=[ah c (eN n D M P) 73,dk d e,eJ 135 184 5 n (c8 (if e.dn then W else sP W i ⟨to',m⟩))])):=by
 refine BD 27 Tryz.func215 rfl rfl rfl λw0 F hF=>sr λ_ J1=>XB λb3=>?_
 refine XY (ints m.flat) λb5=>?_
 refine nx J1 (ab λ_ J2=>D2 1 2 dp ?_);refine FD 0 0 FJ GK ?_;refine LX 1 NH (.pointer (some ⟨c,0,none⟩)) ?_ (hc:=by exact rfl);refine FD 2 1 FJ aR ?_;refine LX 3 Y3 (.int .i64 (((i:Nat):Int))) ?_ (hc:=by exact rfl);refine PD 4 ?_;refine FD 5 1 pL Ak ?_;refine IY 6 (1+i) L1 vi ?_;refine LX 7 Ih (.pointer (some ⟨d,0,none⟩)) ?_ (hc:=by exact(Du n D M P hi).trans (congrArg some hD));refine AL 8 ?_;refine CE Oe (Gk d e) (SM [3]) ?_;refine bc ?_ ?_<;>intro h14;refine EN (PD 9 ?_);refine DN (ac J2 (CN (aT (WK [3,0,2] (bu rfl ?_)))));exact by rw[show e.dn=true by assumption];rfl
 refine EN (PD 9 ?_);refine DN (ac J2 (CY (oz (λw=>Frm F w∧w.heap[b3]?=some (.cells ([(.pointer (some ⟨c,0,none⟩)),(.int .i64 (((i:Nat):Int)))]).toArray 113 (0,0))∧w.heap[c]?=some (.cells (eN n D M P).toArray 73 (0,0))∧w.heap[b5]?=some (.cells (ints m.flat).toArray 163 (0,0))∧True) dp rfl (λ_ s=>⟨eb s,s.block 2 (lb rfl) rfl,s.block 3 (lb rfl) rfl,s.block 1 (lb rfl) rfl,trivial⟩) (FD 0 0 FJ GK ?_))));refine LX 1 NH (.pointer (some ⟨c,0,none⟩)) ?_ (hc:=by exact rfl);refine PD 2 ?_;refine FD 3 0 pL BI ?_;refine LX 4 KE (.pointer (some ⟨n,0,none⟩)) ?_ (hc:=by exact Dt n D M P);refine FD 5 1 FJ aR ?_;refine LX 6 Y3 (.int .i64 (((i:Nat):Int))) ?_ (hc:=by exact rfl);refine PD 7 ?_;refine LY 8 be cd aG ?_;refine AL 9 ?_;refine CR Om (C3 m) ID λvR HR hR=>?_
 obtain⟨_,rfl,rfl⟩:=hR;revert vR;intro ue;refine EN (AL 10 ?_);refine CQ On (yv n (c8 W) ((i:Nat):Int) to' ue (dR m) (tf m) (pR W)) (SM [5]) (λg d s=>Gv (vL 0 rfl rfl g d s)) λvR HR hR=>?_
 obtain⟨_,rfl⟩:=hR;rw[Ix hW ⟨to',m⟩];refine EN (DN (WK [5,2,0] (bu rfl ?_)));exact by rw[show e.dn=false by assumption];rfl
def Hr(c n d i:Nat)(D M P:Nat→Value)(W:List (List MsgT))(e:LD)(l:List SaidT):HP:=bD [ah c (eN n D M P) 73,dk d e.D,eJ 135 184 5 n (c8 (gJ W i l))]
section
variable {c n d i:Nat} {D M P:Nat→Value} {W:List (List MsgT)} {e:LD} {l:List SaidT} {H:List HP} {h:Hl}
theorem tX(s:bD (Hr c n d i D M P W e l::H) h):bD (ah c (eN n D M P) 73::dk d e.D::eJ 135 184 5 n (c8 (gJ W i l))::H) h:=(bZ [_,_,_] H).2 s
theorem tW(s:bD (ah c (eN n D M P) 73::dk d e.D::eJ 135 184 5 n (c8 (gJ W i l))::H) h):bD (Hr c n d i D M P W e l::H) h:=(bZ [_,_,_] H).1 s
end
def xD(c n d i:Nat)(D M P:Nat→Value)(hi:i<5)(hD:D i= .pointer (some ⟨d,0,none⟩))(W:List (List MsgT))(hW:W.length=25):Env LD where
 toDk:=KD
 T:=113
 ov:=N3 c i
 sf:=215
 E:=Hr c n d i D M P W
 lg g e:=Gf g d ((e.cnt:Nat):Int) e.used
 me:=N4 c i
 nm:=Oo
 say e l to' m _:=by
  refine Leg.Does.conv (Eo c n i D M P hi d e.D hD (gJ W i l) (by rw[GR];exact hW) to' m) (λh s=>tX s) λx H F w hp hs=>?_
  cases x with
  |returned v=>
   obtain rfl:=hp;refine⟨_,hs.mono (λh s=>tW (l:=if KD.dn e then l else l++[SaidT.mk to' m]) ?_),rfl⟩
   have q:gJ W i (if KD.dn e then l else l++[SaidT.mk to' m])=if e.D.dn then gJ W i l else sP (gJ W i l) i ⟨to',m⟩:=by
    show gJ W i (if e.D.dn then l else _)=_;split
    · rfl
    · exact GS ..
   rw[q];exact s
  |panicked c=>exact hp.elim
  |outgrown=>exact hp.elim
 put g x bs e l hok hlen:=by
  refine Leg.Does.withinR (A:=[Gf g d ((e.cnt:Nat):Int) e.used,dk d e.D]) (B:=[ah c (eN n D M P) 73,eJ 135 184 5 n (c8 (gJ W i l))]) (BC g d e.cnt e.used x bs e.D hok.dk.ok (by have:=hok.dk.ws;omega) hok.used (by have:=hok.cnt;have:=hok.used;omega)) (λF g h dj=>Po h dj) (λh s=>?_) λv H hp=>?_
  · exact aC [3,1,0,0] rfl (tX (aC [1,0] rfl s))
  · obtain⟨hv,rfl⟩:=hp
    exact⟨[Gf g d (((e.put bs).1.cnt:Nat):Int) (e.put bs).1.used,Hr c n d i D M P W (e.put bs).1 l],λh s=>aC [1,0] rfl (tW (e:=(e.put bs).1) (l:=l) (aC [2,1,1,0] rfl s)),hv,rfl⟩
abbrev kV(v:Value)(l:List ReplyT):HP:=own v l.length (ints (List.flatMap ReplyT.flat l)) 47 3
abbrev G0(s:MS LD)(d r:Nat)(a:Adr):List HP:=[ah r (RepT.cells (s.rep a)) 87,Gf a.lg d ((s.e.cnt:Nat):Int) s.e.used,kV a.rs s.replies,FL a.vo s.vote]
abbrev eX(s:MS LD)(d r:Nat):HP:=pack (G0 s d r)
def p5(x:Slot)(d r:Nat):HP:=match x.run with
 |some s=>eX s d r
 |none=>λ_=>True
abbrev ku(x:Slot)(d r:Nat)(p:Value):List HP:=[dk d x.dk,kV p x.past,p5 x d r]
def lI(x:Slot)(d r:Nat)(p:Value):HP:=bD (ku x d r p)
structure CX where
 n:Nat
 d:Nat→Nat
 r:Nat→Nat
 p:Nat→Value
abbrev mC(g:CX):Nat→Value:=λi=> .pointer (some ⟨g.d i,0,none⟩)
def yu(x:Slot)(r:Nat):Value:=match x.run with
 |some _=> .pointer (some ⟨r,0,none⟩)
 |none=> .pointer none
abbrev jX(a:CL)(r:Nat→Nat):Nat→Value:=λi=>yu (a.at' i) (r i)
abbrev rf(c:Nat)(a:CL)(g:CX):List HP:=[ah c (eN g.n (mC g) (jX a g.r) g.p) 73,eJ 135 184 5 g.n (c8 a.W),bD ((List.range 5).map λi=>lI (a.at' i) (g.d i) (g.r i) (g.p i))]
def fY(c:Nat)(a:CL):HP:=pack (rf c a)
section
variable {c n d i r:Nat} {D M P:Nat→Value} {W:List (List MsgT)} {s:MS LD} {H:List HP} {h:Hl} {hi:i<5} {hD:D i= .pointer (some ⟨d,0,none⟩)} {hW:W.length=25}
theorem EM(ho:s.o=[])(q:bD (ah c (eN n D M P) 73::dk d s.e.D::eJ 135 184 5 n (c8 W)::eX s d r::H) h):bD (cJ (xD c n d i D M P hi hD W hW) r s::H) h:=by
 obtain⟨a,q⟩:=fu (aC [3,0,0,0] rfl q);have q2:=aC [4,4,4,0,0,0,0] rfl q;have q3:=tW (i:=i) (W:=W) (e:=s.e) (l:=[]) q2;refine bp (p:=λa:Adr=>[ah r (RepT.cells (s.rep a)) 87,Gf a.lg d ((s.e.cnt:Nat):Int) s.e.used,kV a.rs s.replies,FL a.vo s.vote,Hr c n d i D M P W s.e s.o]) a ?_;rw[ho];exact aC [1,1,1,1,0] rfl q3
theorem AQ(q:bD (cJ (xD c n d i D M P hi hD W hW) r s::H) h):bD (ah c (eN n D M P) 73::dk d s.e.D::eJ 135 184 5 n (c8 (gJ W i s.o))::eX s.hush d r::H) h:=by
 obtain⟨a,q⟩:=fu q;have q1:bD ([ah r (RepT.cells (s.rep a)) 87,Gf a.lg d ((s.e.cnt:Nat):Int) s.e.used,kV a.rs s.replies,FL a.vo s.vote,Hr c n d i D M P W s.e s.o]++H) h:=q;have q2:=tX (aC [4,0,0,0,0] rfl q1);have q3:=bp (p:=G0 s.hush d r) a (aC [3,3,3,3,0,0,0] rfl q2);exact aC [1,1,1,0] rfl q3
end
theorem Fm(c n i:Nat)(D M P:Nat→Value)(hi:i<5)(d r:Nat)(s:MS LD)(hD:D i= .pointer (some ⟨d,0,none⟩))(hM:M i= .pointer (some ⟨r,0,none⟩))(W:List (List MsgT))(hW:W.length=25)(ho:s.o=[])(hs:OkR KD s)(o:OpT)(k:Int)(hk:0≤k∧k≤4)(hch:OkCh o.change)(hrs:s.replies.length≤1000000):
 DT 25 #[(.pointer (some ⟨c,0,none⟩)),(.agg (ints (OpT.mk k ((i:Nat):Int) o.to' o.key o.n o.change o.mask o.torn o.cut).flat).toArray)] T0 [ah c (eN n D M P) 73,dk d s.e.D,eJ 135 184 5 n (c8 W),eX s d r] (dm (λv H=>(s.e.D.dn=true∧v= .int .i64 4∧H=[ah c (eN n D M P) 73,dk d s.e.D,eJ 135 184 5 n (c8 (W)),eX s d r])∨(s.e.D.dn=false∧v= .int .i64 (bV KD s ((OpT.mk k ((i:Nat):Int) o.to' o.key o.n o.change o.mask o.torn o.cut))).2∧H=[ah c (eN n D M P) 73,dk d (bV KD s ((OpT.mk k ((i:Nat):Int) o.to' o.key o.n o.change o.mask o.torn o.cut))).1.hush.e.D,eJ 135 184 5 n (c8 (gJ W i (bV KD s ((OpT.mk k ((i:Nat):Int) o.to' o.key o.n o.change o.mask o.torn o.cut))).1.o)),eX (bV KD s ((OpT.mk k ((i:Nat):Int) o.to' o.key o.n o.change o.mask o.torn o.cut))).1.hush d r]))):=by
 refine BD 114 Tryz.func25 rfl rfl rfl λw0 F hF=>sr λ_ J1=>XY (ints (OpT.mk k ((i:Nat):Int) o.to' o.key o.n o.change o.mask o.torn o.cut).flat) λb3=>?_
 refine PS ?_;refine nx J1 (ab λ_ J2=>sr λ_ J3=>PS ?_);refine FA 1 ff aR ?_;refine LT 0 Y3 (.int .i64 (((i:Nat):Int))) ?_ (hc:=by exact bN _ rfl);refine CE qb (dT c i hi) ID ?_;refine PS ?_;refine nx J3 (CN (qx J2 (ab λ_ J4=>sr λ_ J5=>FA 0 ff aR ?_)));refine LT 0 Y3 (.int .i64 (k)) ?_ (hc:=by exact cN _ rfl);refine nx J5 (au (ab λ_ J6=>e5 (α:=Unit) (λ_u=>True) (λ_u=>[(0,(.pointer (some ⟨c,0,none⟩))),(3,(.pointer (some ⟨b3,0,none⟩))),(4,(.int .i64 0)),(11,(.int .i64 (k))),(12,(.bool true))]) (λ_u=>[ah b3 (ints (OpT.mk k ((i:Nat):Int) o.to' o.key o.n o.change o.mask o.torn o.cut).flat) 63,ah c (eN n D M P) 73,dk d s.e.D,eJ 135 184 5 n (c8 W),eX s d r]) (λ_u hinv=>?_) (λtl6=>?_)));have _:=hinv;refine ac J6 (CY (ab λ_ J7=>sr λ_ J8=>PS ?_));refine FA 1 ff aR ?_;refine LT 0 Y3 (.int .i64 (((i:Nat):Int))) ?_ (hc:=by exact bN _ rfl);refine CE Cr (sA c n i D M P hi d r s.e.D hD hM) (SM [1,1]) ?_;refine bc ?_ ?_<;>intro h21;refine PS ?_;refine nx J8 (CN (qx J7 (ab λ_ J9=>D2 2 0 dp ?_)));refine PD 0 ?_;refine FD 1 1 ff aR ?_;refine LX 2 Y3 (.int .i64 (((i:Nat):Int))) ?_ (hc:=by exact bN _ rfl);refine PD 3 ?_;refine FD 4 6 pL pw ?_;refine IY 5 (6+i) vw kh ?_;refine LX 6 uA (.pointer (some ⟨r,0,none⟩)) ?_ (hc:=by exact(xP n D M P hi).trans (congrArg some hM));refine PD 7 ?_;refine FD 8 1 ff aR ?_
 refine LX 9 Y3 (.int .i64 (((i:Nat):Int))) ?_ (hc:=by exact bN _ rfl);refine ta 10 rfl (j6 (cells:=#[(.pointer (some ⟨c,0,none⟩)),(.int .i64 (((i:Nat):Int)))]) rfl rfl (by as_aux_lemma=>kernel_rfl)) ?_;refine ta 11 rfl (pE rfl FJ rfl rfl) ?_;refine LY 12 ff qT gg ?_;refine AL 13 ?_;refine cm (H':=[cJ (xD c n d i D M P hi hD W hW) r s,ah b3 (ints (OpT.mk k ((i:Nat):Int) o.to' o.key o.n o.change o.mask o.torn o.cut).flat) 63]) (λ_ q=>EM ho (aC [0,0,1,1] rfl q)) (CE Qc (@Bb _ (xD c n d i D M P hi hD W hW) r s ((OpT.mk k ((i:Nat):Int) o.to' o.key o.n o.change o.mask o.torn o.cut)) hs hch hrs) ID ?_);change TL _ _ _ _ _ _ _ _ _ [cJ (xD c n d i D M P hi hD W hW) r ((bV KD s ((OpT.mk k ((i:Nat):Int) o.to' o.key o.n o.change o.mask o.torn o.cut))).1),ah b3 (ints (OpT.mk k ((i:Nat):Int) o.to' o.key o.n o.change o.mask o.torn o.cut).flat) 63];refine cm (H':=[ah c (eN n D M P) 73,dk d (((bV KD s ((OpT.mk k ((i:Nat):Int) o.to' o.key o.n o.change o.mask o.torn o.cut))).1).e.D),eJ 135 184 5 n (c8 (gJ W i ((bV KD s ((OpT.mk k ((i:Nat):Int) o.to' o.key o.n o.change o.mask o.torn o.cut))).1).o)),eX (((bV KD s ((OpT.mk k ((i:Nat):Int) o.to' o.key o.n o.change o.mask o.torn o.cut))).1).hush) d r,ah b3 (ints (OpT.mk k ((i:Nat):Int) o.to' o.key o.n o.change o.mask o.torn o.cut).flat) 63]) (λ_ q=>AQ (s:=(bV KD s ((OpT.mk k ((i:Nat):Int) o.to' o.key o.n o.change o.mask o.torn o.cut))).1) q) (EN (PD 14 ?_))
 refine DN (ac J9 (ai (aH (af (WK [0,0,0,0] (av rfl rfl ?_))))));exact .inr ⟨(by simpa using h21),rfl,rfl⟩;refine PS ?_;refine nx J8 (CY (sr λ_ J10=>PS ?_));refine nx J10 (ai (af (aH (af (WK [0,0,1,1] (av rfl rfl ?_))))));exact .inl ⟨(by simpa using h21),rfl,rfl⟩;refine sr λ_ J11=>P2 ?_
 refine ao ?_ ?_<;>intro h12;refine nx J11 (CY (aT ?_))
 exact aE
  SB
  (λ_ s=>ak [0,0,0,0,0] rfl s)
  (tl6 (():Unit) trivial)
 refine nx J11 (CN (sr λ_ J12=>P2 ?_));refine ao ?_ ?_<;>intro h12;refine nx J12 (CY (aT ?_))
 exact aE
  SB
  (λ_ s=>ak [0,0,0,0,0] rfl s)
  (tl6 (():Unit) trivial)
 refine nx J12 (CN (sr λ_ J13=>P2 ?_));refine ao ?_ ?_<;>intro h12;refine nx J13 (CY (aT ?_))
 exact aE
  SB
  (λ_ s=>ak [0,0,0,0,0] rfl s)
  (tl6 (():Unit) trivial)
 refine nx J13 (CN (sr λ_ J14=>P2 ?_));refine ao ?_ ?_<;>intro h12;refine nx J14 (CY (aT ?_))
 exact aE
  SB
  (λ_ s=>ak [0,0,0,0,0] rfl s)
  (tl6 (():Unit) trivial)
 refine nx J14 (CN (ad (PS ?_)));refine ao ?_ ?_<;>intro h17;refine PS ?_;refine ap ?_
 exact aE
  SB
  (λ_ s=>ak [0,0,0,0,0] rfl s)
  (tl6 (():Unit) trivial)
 · exact absurd h17 (by omega)
theorem Dd(c n i:Nat)(D M P:Nat→Value)(hi:i<5)(hM:M i= .pointer none)(o:OpT)(k:Int)(hk:0≤k∧k≤4):
 DT 25 #[(.pointer (some ⟨c,0,none⟩)),(.agg (ints (OpT.mk k ((i:Nat):Int) o.to' o.key o.n o.change o.mask o.torn o.cut).flat).toArray)] T0 [ah c (eN n D M P) 73] (RI (.int .i64 4) [ah c (eN n D M P) 73]):=by
 refine BD 114 Tryz.func25 rfl rfl rfl λw0 F hF=>sr λ_ J1=>XY (ints (OpT.mk k ((i:Nat):Int) o.to' o.key o.n o.change o.mask o.torn o.cut).flat) λb3=>?_
 refine PS ?_;refine nx J1 (ab λ_ J2=>sr λ_ J3=>PS ?_);refine FA 1 ff aR ?_;refine LT 0 Y3 (.int .i64 (((i:Nat):Int))) ?_ (hc:=by exact bN _ rfl);refine CE qb (dT c i hi) ID ?_;refine PS ?_;refine nx J3 (CN (qx J2 (ab λ_ J4=>sr λ_ J5=>FA 0 ff aR ?_)));refine LT 0 Y3 (.int .i64 (k)) ?_ (hc:=by exact cN _ rfl);refine nx J5 (au (ab λ_ J6=>e5 (α:=Unit) (λ_u=>True) (λ_u=>[(0,(.pointer (some ⟨c,0,none⟩))),(3,(.pointer (some ⟨b3,0,none⟩))),(4,(.int .i64 0)),(11,(.int .i64 (k))),(12,(.bool true))]) (λ_u=>[ah b3 (ints (OpT.mk k ((i:Nat):Int) o.to' o.key o.n o.change o.mask o.torn o.cut).flat) 63,ah c (eN n D M P) 73]) (λ_u hinv=>?_) (λtl6=>?_)));have _:=hinv;refine ac J6 (CY (ab λ_ J7=>sr λ_ J8=>PS ?_));refine FA 1 ff aR ?_;refine LT 0 Y3 (.int .i64 (((i:Nat):Int))) ?_ (hc:=by exact bN _ rfl);refine CE Cr (sB c n i D M P hi hM) (SM [1]) ?_;refine PS ?_;refine nx J8 (CY (sr λ_ J9=>PS ?_));exact nx J9 (ai (af (aH (af (WK [0] (av rfl rfl ⟨rfl,rfl⟩))))));refine sr λ_ J10=>P2 ?_
 refine ao ?_ ?_<;>intro h12;refine nx J10 (CY (aT ?_))
 exact aE
  SB
  (λ_ s=>ak [0,0] rfl s)
  (tl6 (():Unit) trivial)
 refine nx J10 (CN (sr λ_ J11=>P2 ?_));refine ao ?_ ?_<;>intro h12;refine nx J11 (CY (aT ?_))
 exact aE
  SB
  (λ_ s=>ak [0,0] rfl s)
  (tl6 (():Unit) trivial)
 refine nx J11 (CN (sr λ_ J12=>P2 ?_));refine ao ?_ ?_<;>intro h12;refine nx J12 (CY (aT ?_))
 exact aE
  SB
  (λ_ s=>ak [0,0] rfl s)
  (tl6 (():Unit) trivial)
 refine nx J12 (CN (sr λ_ J13=>P2 ?_));refine ao ?_ ?_<;>intro h12;refine nx J13 (CY (aT ?_))
 exact aE
  SB
  (λ_ s=>ak [0,0] rfl s)
  (tl6 (():Unit) trivial)
 refine nx J13 (CN (ad (PS ?_)));refine ao ?_ ?_<;>intro h17;refine PS ?_;refine ap ?_
 exact aE
  SB
  (λ_ s=>ak [0,0] rfl s)
  (tl6 (():Unit) trivial)
 · exact absurd h17 (by omega)
theorem Fh(c n i:Nat)(D M P:Nat→Value)(hi:i<5)(d r:Nat)(s:MS LD)(hD:D i= .pointer (some ⟨d,0,none⟩))(hM:M i= .pointer (some ⟨r,0,none⟩))(W:List (List MsgT))(hW:W.length=25)(ho:s.o=[])(hs:OkR KD s)(o:OpT):
 DT 25 #[(.pointer (some ⟨c,0,none⟩)),(.agg (ints (OpT.mk 8 ((i:Nat):Int) o.to' o.key o.n o.change o.mask o.torn o.cut).flat).toArray)] T0 [ah c (eN n D M P) 73,dk d s.e.D,eJ 135 184 5 n (c8 W),eX s d r] (dm (λv H=>(s.e.D.dn=true∧v= .int .i64 4∧H=[ah c (eN n D M P) 73,dk d s.e.D,eJ 135 184 5 n (c8 (W)),eX s d r])∨(s.e.D.dn=false∧v= .int .i64 0∧H=[ah c (eN n D M P) 73,dk d (iw KD s).hush.e.D,eJ 135 184 5 n (c8 (gJ W i (iw KD s).o)),eX (iw KD s).hush d r]))):=by
 refine BD 114 Tryz.func25 rfl rfl rfl λw0 F hF=>sr λ_ J1=>XY (ints (OpT.mk 8 ((i:Nat):Int) o.to' o.key o.n o.change o.mask o.torn o.cut).flat) λb3=>?_
 refine PS ?_;refine nx J1 (ab λ_ J2=>sr λ_ J3=>PS ?_);refine FA 1 ff aR ?_;refine LT 0 Y3 (.int .i64 (((i:Nat):Int))) ?_ (hc:=by exact bN _ rfl);refine CE qb (dT c i hi) ID ?_;refine PS ?_;refine nx J3 (CN (qx J2 (ab λ_ J4=>sr λ_ J5=>FA 0 ff aR ?_)));refine LT 0 Y3 (.int .i64 8) ?_ (hc:=by exact cN _ rfl);refine nx J5 (au (ab λ_ J6=>sr λ_ J7=>P2 ?_));refine nx J7 (CN (sr λ_ J8=>P2 ?_));refine nx J8 (CN (sr λ_ J9=>P2 ?_));refine nx J9 (CN (sr λ_ J10=>P2 ?_));refine nx J10 (CN (ad (P2 ?_)));refine nx J6 (CN (ab λ_ J11=>sr λ_ J12=>P2 ?_));refine nx J12 (CN (sr λ_ J13=>P2 ?_));refine nx J13 (CN (ad (P2 ?_)));refine nx J11 (CN (sr λ_ J14=>P2 ?_));refine nx J14 (CY (ab λ_ J15=>sr λ_ J16=>PS ?_));refine FA 1 ff aR ?_;refine LT 0 Y3 (.int .i64 (((i:Nat):Int))) ?_ (hc:=by exact bN _ rfl);refine CE Cr (sA c n i D M P hi d r s.e.D hD hM) (SM [1,1]) ?_;refine bc ?_ ?_<;>intro h49;refine PS ?_;refine nx J16 (CN (qx J15 (D2 2 0 dp ?_)));refine PD 0 ?_;refine FD 1 1 ff aR ?_;refine LX 2 Y3 (.int .i64 (((i:Nat):Int))) ?_ (hc:=by exact bN _ rfl);refine PD 3 ?_;refine FD 4 6 pL pw ?_;refine IY 5 (6+i) vw kh ?_;refine LX 6 uA (.pointer (some ⟨r,0,none⟩)) ?_ (hc:=by exact(xP n D M P hi).trans (congrArg some hM));refine PD 7 ?_;refine FD 8 1 ff aR ?_;refine LX 9 Y3 (.int .i64 (((i:Nat):Int))) ?_ (hc:=by exact bN _ rfl)
 refine ta 10 rfl (j6 (cells:=#[(.pointer (some ⟨c,0,none⟩)),(.int .i64 (((i:Nat):Int)))]) rfl rfl (by as_aux_lemma=>kernel_rfl)) ?_;refine ta 11 rfl (pE rfl FJ rfl rfl) ?_;refine AL 12 ?_;refine cm (H':=[cJ (xD c n d i D M P hi hD W hW) r s,ah b3 (ints (OpT.mk 8 ((i:Nat):Int) o.to' o.key o.n o.change o.mask o.torn o.cut).flat) 63]) (λ_ q=>EM ho (aC [0,0,1,1] rfl q)) (CZ Qa (@Eb _ (xD c n d i D M P hi hD W hW) r s hs) ID λvR=>?_);change TL _ _ _ _ _ _ _ _ _ [cJ (xD c n d i D M P hi hD W hW) r (iw KD s),ah b3 (ints (OpT.mk 8 ((i:Nat):Int) o.to' o.key o.n o.change o.mask o.torn o.cut).flat) 63];refine cm (H':=[ah c (eN n D M P) 73,dk d ((iw KD s).e.D),eJ 135 184 5 n (c8 (gJ W i (iw KD s).o)),eX ((iw KD s).hush) d r,ah b3 (ints (OpT.mk 8 ((i:Nat):Int) o.to' o.key o.n o.change o.mask o.torn o.cut).flat) 63]) (λ_ q=>AQ (s:=(iw KD s)) q) (EN (DN (ag (ac J4 (sr λ_ J17=>PS ?_)))));refine nx J17 (ai (WK [0,0,0,0] (av rfl rfl ?_)));exact .inr ⟨(by simpa using h49),rfl,rfl⟩;refine PS ?_;refine nx J16 (CY (sr λ_ J18=>PS ?_));refine nx J18 (ai (af (aH (af (WK [0,0,1,1] (av rfl rfl ?_))))));exact .inl ⟨(by simpa using h49),rfl,rfl⟩
theorem Db(c n i:Nat)(D M P:Nat→Value)(hi:i<5)(hM:M i= .pointer none)(o:OpT):
 DT 25 #[(.pointer (some ⟨c,0,none⟩)),(.agg (ints (OpT.mk 8 ((i:Nat):Int) o.to' o.key o.n o.change o.mask o.torn o.cut).flat).toArray)] T0 [ah c (eN n D M P) 73] (RI (.int .i64 4) [ah c (eN n D M P) 73]):=by
 refine BD 114 Tryz.func25 rfl rfl rfl λw0 F hF=>sr λ_ J1=>XY (ints (OpT.mk 8 ((i:Nat):Int) o.to' o.key o.n o.change o.mask o.torn o.cut).flat) λb3=>?_
 refine PS ?_;refine nx J1 (ab λ_ J2=>sr λ_ J3=>PS ?_);refine FA 1 ff aR ?_;refine LT 0 Y3 (.int .i64 (((i:Nat):Int))) ?_ (hc:=by exact bN _ rfl);refine CE qb (dT c i hi) ID ?_;refine PS ?_;refine nx J3 (CN (qx J2 (ab λ_ J4=>sr λ_ J5=>FA 0 ff aR ?_)));refine LT 0 Y3 (.int .i64 8) ?_ (hc:=by exact cN _ rfl);refine nx J5 (au (ab λ_ J6=>sr λ_ J7=>P2 ?_));refine nx J7 (CN (sr λ_ J8=>P2 ?_));refine nx J8 (CN (sr λ_ J9=>P2 ?_));refine nx J9 (CN (sr λ_ J10=>P2 ?_));refine nx J10 (CN (ad (P2 ?_)));refine nx J6 (CN (ab λ_ J11=>sr λ_ J12=>P2 ?_));refine nx J12 (CN (sr λ_ J13=>P2 ?_));refine nx J13 (CN (ad (P2 ?_)));refine nx J11 (CN (sr λ_ J14=>P2 ?_));refine nx J14 (CY (ab λ_ J15=>sr λ_ J16=>PS ?_));refine FA 1 ff aR ?_;refine LT 0 Y3 (.int .i64 (((i:Nat):Int))) ?_ (hc:=by exact bN _ rfl);refine CE Cr (sB c n i D M P hi hM) (SM [1]) ?_;refine PS ?_;refine nx J16 (CY (sr λ_ J17=>PS ?_));exact nx J17 (ai (af (aH (af (WK [0] (av rfl rfl ⟨rfl,rfl⟩))))))
theorem G5(s:MS LD)(d r:Nat)(h:s.replies.length≤1000000):DT 31 #[.pointer (some ⟨r,0,none⟩)] T0 [eX s d r] (dm λv H=>∃u,v=u∧H=[eX s d r,kV u s.replies]):=
 Leg.Does.pack (B:=[]) λa=>Leg.Does.withinR (A:=[ah r (RepT.cells (s.rep a)) 87,kV a.rs s.replies]) (B:=[Gf a.lg d ((s.e.cnt:Nat):Int) s.e.used,FL a.vo s.vote]) (AA r (s.rep a) s.replies h) (λ_ _ _ _=>trivial) (λ_ q=>aC [0,1,0,0] rfl q) λv H hp=>by
  obtain⟨u,rfl,rfl⟩:=hp;exact⟨_,λ_ q=>bp (p:=G0 s d r) (H:=[kV v s.replies]) a (aC [0,2,0,1,0] rfl q),v,rfl,rfl⟩
theorem wR(c n i:Nat)(D M P:Nat→Value)(hi:i<5)(hM:M i= .pointer none)(pl:List ReplyT)(hpl:pl.length≤100000):
 DT 15 #[(.pointer (some ⟨c,0,none⟩)),(.int .i64 (((i:Nat):Int)))] T0 [ah c (eN n D M P) 73,own (P i) ((pl).length) (ints (List.flatMap ReplyT.flat (pl))) 47 3] (dm (λv H=>∃u,u.oneCell'=true∧v=u∧H=[ah c (eN n D M P) 73,kV (P i) pl,kV u pl])):=by
 refine BD 34 Tryz.func15 rfl rfl rfl λw0 F hF=>sr λ_ J1=>PS ?_
 refine nx J1 (ab λ_ J2=>sr λ_ J3=>P2 ?_);refine CE qb (dT c i hi) ID ?_;refine PS ?_;refine nx J3 (CN (qx J2 (sr λ_ J4=>P3 ?_)));refine FA 11 pL KN ?_;refine IX (11+i) PF yk ?_;refine LT 0 DI (P i) ?_ (hc:=by exact Pa n D M P hi);refine Pg 47 3 (λ_=>cj (k:=0) (news:=ints (List.flatMap ReplyT.flat (pl))) (nn':=(pl).length) (xs':=ints (List.flatMap ReplyT.flat (pl))) (aa rfl) rfl rfl rfl DI HT rfl rfl rfl rfl rfl rfl (λ_ s=>Kr 2 rfl rfl s) (bk _) (by simp only[maxLen];omega) (by omega) (by simp) (by simp) (λv16 ov16=>PS ?_));refine nx J4 (ab λ_ J5=>sr λ_ J6=>P3 ?_);refine FA 6 pL pw ?_;refine IX (6+i) vw kh ?_;refine LT 1 uA (.pointer none) ?_ (hc:=by exact(xP n D M P hi).trans (congrArg some hM));refine tp (iX rfl uA rfl rfl) ?_;refine nx J6 (CN (qx J5 (sr λ_ J7=>P2 ?_)));exact nx J7 (ai (WK [1,1,0] (av rfl rfl ⟨_,ov16,rfl,rfl⟩)))
theorem wQ(c n i:Nat)(D M P:Nat→Value)(hi:i<5)(d:Nat)(r:Nat)(s:MS LD)(hM:M i= .pointer (some ⟨r,0,none⟩))(pl:List ReplyT)(hpl:pl.length≤100000)(hrs:s.replies.length≤100000):
 DT 15 #[(.pointer (some ⟨c,0,none⟩)),(.int .i64 (((i:Nat):Int)))] T0 [ah c (eN n D M P) 73,own (P i) ((pl).length) (ints (List.flatMap ReplyT.flat (pl))) 47 3,eX s d r] (dm (λv H=>∃u,u.oneCell'=true∧v=u∧H=[ah c (eN n D M P) 73,kV (P i) pl,eX s d r,kV u (pl++s.replies)])):=by
 refine BD 34 Tryz.func15 rfl rfl rfl λw0 F hF=>sr λ_ J1=>PS ?_
 refine nx J1 (ab λ_ J2=>sr λ_ J3=>P2 ?_);refine CE qb (dT c i hi) ID ?_;refine PS ?_;refine nx J3 (CN (qx J2 (sr λ_ J4=>P3 ?_)));refine FA 11 pL KN ?_;refine IX (11+i) PF yk ?_;refine LT 0 DI (P i) ?_ (hc:=by exact Pa n D M P hi);refine Pg 47 3 (λ_=>cj (k:=0) (news:=ints (List.flatMap ReplyT.flat (pl))) (nn':=(pl).length) (xs':=ints (List.flatMap ReplyT.flat (pl))) (aa rfl) rfl rfl rfl DI HT rfl rfl rfl rfl rfl rfl (λ_ s=>Kr 2 rfl rfl s) (bk _) (by simp only[maxLen];omega) (by omega) (by simp) (by simp) (λv16 ov16=>PS ?_));refine nx J4 (ab λ_ J5=>sr λ_ J6=>P3 ?_);refine FA 6 pL pw ?_;refine IX (6+i) vw kh ?_;refine LT 1 uA (.pointer (some ⟨r,0,none⟩)) ?_ (hc:=by exact(xP n D M P hi).trans (congrArg some hM));refine tp (jq rfl uA rfl rfl) ?_;refine nx J6 (CY (ad (P4 ?_)));refine FA 6 pL pw ?_;refine IX (6+i) vw kh ?_;refine LT 1 uA (.pointer (some ⟨r,0,none⟩)) ?_ (hc:=by exact(xP n D M P hi).trans (congrArg some hM));refine CR Qj (G5 s d r (by omega)) (SM [3]) λvR HR hR=>?_
 obtain⟨_,rfl,rfl⟩:=hR;revert vR;intro ur;refine cj (k:=2) (news:=ints (List.flatMap ReplyT.flat (s.replies))) (nn':=(pl++s.replies).length) (xs':=ints (List.flatMap ReplyT.flat (pl++s.replies))) (aa rfl) rfl rfl rfl DI HT rfl rfl rfl rfl rfl rfl (λ_ s=>Kr 1 rfl rfl s) (bk _) (by simp only[maxLen];omega) (by omega) (by rw[ae]) (by simp[ints]) (λv32 ov32=>PS ?_);refine nx J5 (sr λ_ J7=>P2 ?_);exact nx J7 (ai (WK [3,3,0,1] (av rfl rfl ⟨_,ov32,rfl,rfl⟩)))
theorem Fp(c n i:Nat)(D M P:Nat→Value)(hi:i<5)(d:Nat)(hD:D i= .pointer (some ⟨d,0,none⟩))(e:DS)(o:OpT):
 DT 25 #[(.pointer (some ⟨c,0,none⟩)),(.agg (ints (OpT.mk 9 ((i:Nat):Int) o.to' o.key o.n o.change o.mask o.torn o.cut).flat).toArray)] T0 [ah c (eN n D M P) 73,dk d e] (RI (.int .i64 0) [ah c (eN n D M P) 73,dk d (e.arm o.n)]):=by
 refine BD 114 Tryz.func25 rfl rfl rfl λw0 F hF=>sr λ_ J1=>XY (ints (OpT.mk 9 ((i:Nat):Int) o.to' o.key o.n o.change o.mask o.torn o.cut).flat) λb3=>?_
 refine PS ?_;refine nx J1 (ab λ_ J2=>sr λ_ J3=>PS ?_);refine FA 1 ff aR ?_;refine LT 0 Y3 (.int .i64 (((i:Nat):Int))) ?_ (hc:=by exact bN _ rfl);refine CE qb (dT c i hi) ID ?_;refine PS ?_;refine nx J3 (CN (qx J2 (ab λ_ J4=>sr λ_ J5=>FA 0 ff aR ?_)));refine LT 0 Y3 (.int .i64 9) ?_ (hc:=by exact cN _ rfl);refine nx J5 (au (ab λ_ J6=>sr λ_ J7=>P2 ?_));refine nx J7 (CN (sr λ_ J8=>P2 ?_));refine nx J8 (CN (sr λ_ J9=>P2 ?_));refine nx J9 (CN (sr λ_ J10=>P2 ?_));refine nx J10 (CN (ad (P2 ?_)));refine nx J6 (CN (ab λ_ J11=>sr λ_ J12=>P2 ?_));refine nx J12 (CN (sr λ_ J13=>P2 ?_));refine nx J13 (CN (ad (P2 ?_)));refine nx J11 (CN (sr λ_ J14=>P2 ?_));refine nx J14 (CN (sr λ_ J15=>P2 ?_));refine nx J15 (CY (D2 0 1 dp ?_));refine PD 0 ?_;refine FD 1 1 ff aR ?_;refine LX 2 Y3 (.int .i64 (((i:Nat):Int))) ?_ (hc:=by exact bN _ rfl);refine PD 3 ?_;refine FD 4 1 pL Ak ?_;refine IY 5 (1+i) L1 vi ?_;refine LX 6 Ih (.pointer (some ⟨d,0,none⟩)) ?_ (hc:=by exact(Du n D M P hi).trans (congrArg some hD));refine FD 7 4 ff aR ?_;refine LX 8 Y3 (.int .i64 (o.n)) ?_ (hc:=by exact tu _ rfl);refine AL 9 ?_;refine CR P9 (Ny d e o.n) (SM [2]) λvR HR hR=>?_
 obtain⟨_,rfl⟩:=hR;refine EN (DN (ag (ac J4 (sr λ_ J16=>PS ?_))));exact nx J16 (ai (WK [2,0] (av rfl rfl ⟨rfl,rfl⟩)))
theorem Fk(c n i:Nat)(D M P:Nat→Value)(hi:i<5)(d:Nat)(hD:D i= .pointer (some ⟨d,0,none⟩))(r:Nat)(s:MS LD)(hM:M i= .pointer (some ⟨r,0,none⟩))(pl:List ReplyT)(hpl:pl.length≤100000)(hrs:s.replies.length≤100000)(e:DS)(hok:e.Ok)(o:OpT):
 DT 25 #[(.pointer (some ⟨c,0,none⟩)),(.agg (ints (OpT.mk 10 ((i:Nat):Int) o.to' o.key o.n o.change o.mask o.torn o.cut).flat).toArray)] T0 [ah c (eN n D M P) 73,dk d e,own (P i) ((pl).length) (ints (List.flatMap ReplyT.flat (pl))) 47 3,eX s d r] (dm (λv H=>∃u,u.oneCell'=true∧v= .int .i64 0∧H=[ah c (eN n D (la M i (.pointer none)) (la P i u)) 73,dk d (e.crash o.mask o.torn o.cut),kV u (pl++s.replies)])):=by
 refine BD 114 Tryz.func25 rfl rfl rfl λw0 F hF=>sr λ_ J1=>XY (ints (OpT.mk 10 ((i:Nat):Int) o.to' o.key o.n o.change o.mask o.torn o.cut).flat) λb3=>?_
 refine PS ?_;refine nx J1 (ab λ_ J2=>sr λ_ J3=>PS ?_);refine FA 1 ff aR ?_;refine LT 0 Y3 (.int .i64 (((i:Nat):Int))) ?_ (hc:=by exact bN _ rfl);refine CE qb (dT c i hi) ID ?_;refine PS ?_;refine nx J3 (CN (qx J2 (ab λ_ J4=>sr λ_ J5=>FA 0 ff aR ?_)));refine LT 0 Y3 (.int .i64 10) ?_ (hc:=by exact cN _ rfl);refine nx J5 (au (ab λ_ J6=>sr λ_ J7=>P2 ?_));refine nx J7 (CN (sr λ_ J8=>P2 ?_));refine nx J8 (CN (sr λ_ J9=>P2 ?_));refine nx J9 (CN (sr λ_ J10=>P2 ?_));refine nx J10 (CN (ad (P2 ?_)));refine nx J6 (CN (ab λ_ J11=>sr λ_ J12=>P2 ?_));refine nx J12 (CN (sr λ_ J13=>P2 ?_));refine nx J13 (CN (ad (P2 ?_)));refine nx J11 (CN (sr λ_ J14=>P2 ?_));refine nx J14 (CN (sr λ_ J15=>P2 ?_));refine nx J15 (CN (sr λ_ J16=>P2 ?_));refine nx J16 (CY (ab λ_ J17=>D1 0 dp ?_));refine PD 0 ?_;refine FD 1 1 ff aR ?_;refine LX 2 Y3 (.int .i64 (((i:Nat):Int))) ?_ (hc:=by exact bN _ rfl);refine PD 3 ?_;refine FD 4 1 ff aR ?_;refine LX 5 Y3 (.int .i64 (((i:Nat):Int))) ?_ (hc:=by exact bN _ rfl);refine PD 7 ?_;refine FD 8 11 pL KN ?_;refine AL 6 ?_;refine CR HC (wQ c n i D M P hi d r s hM pl hpl hrs) (SM [1,2,2]) λvR HR hR=>?_
 obtain⟨_,huc,rfl,rfl⟩:=hR;revert vR;intro uc huc;refine EN (IY 9 (11+i) PF yk ?_);refine AL 10 ?_;refine bz (i:=0) (aa rfl) rfl rfl rfl rfl huc yk rfl rfl (by rw[rU];omega) (Gn n D M P uc hi) rfl (EN (DN (ac J17 (ab λ_ J18=>D1 4 dp ?_))));refine PD 0 ?_;refine FD 1 1 ff aR ?_;refine LX 2 Y3 (.int .i64 (((i:Nat):Int))) ?_ (hc:=by exact bN _ rfl);refine PD 3 ?_;refine FD 4 6 pL pw ?_;refine IY 5 (6+i) vw kh ?_;refine AL 6 ?_;refine bz (i:=0) (aa rfl) rfl rfl rfl rfl rfl kh rfl rfl (by rw[rU];omega) (vN n D M (la P i uc) (.pointer none) hi) rfl (EN (DN (ac J18 (D2 4 0 dp ?_))));refine PD 0 ?_;refine FD 1 1 ff aR ?_;refine LX 2 Y3 (.int .i64 (((i:Nat):Int))) ?_ (hc:=by exact bN _ rfl);refine PD 3 ?_;refine FD 4 1 pL Ak ?_;refine IY 5 (1+i) L1 vi ?_;refine LX 6 Ih (.pointer (some ⟨d,0,none⟩)) ?_ (hc:=by exact(Du n D (la M i (.pointer none)) (la P i uc) hi).trans (congrArg some hD));refine FD 7 8 ff aR ?_;refine LX 8 Y3 (.int .i64 (o.mask)) ?_ (hc:=by exact OpT.at_mask _ rfl);refine FD 9 9 ff aR ?_;refine LX 10 Y3 (.int .i64 (o.torn)) ?_ (hc:=by exact OpT.at_torn _ rfl);refine FD 11 10 ff aR ?_;refine LX 12 Y3 (.int .i64 (o.cut)) ?_ (hc:=by exact OpT.at_cut _ rfl);refine AL 13 ?_;refine CR Og (De d e o.mask o.torn o.cut hok) (SM [5]) λvR HR hR=>?_
 obtain⟨_,rfl⟩:=hR;refine EN (DN (ag (ac J4 (sr λ_ J19=>PS ?_))));exact nx J19 (ai (WK [1,0,2] (av rfl rfl ⟨uc,huc,rfl,rfl⟩)))
theorem Fl(c n i:Nat)(D M P:Nat→Value)(hi:i<5)(d:Nat)(hD:D i= .pointer (some ⟨d,0,none⟩))(hM:M i= .pointer none)(pl:List ReplyT)(hpl:pl.length≤100000)(e:DS)(hok:e.Ok)(o:OpT):
 DT 25 #[(.pointer (some ⟨c,0,none⟩)),(.agg (ints (OpT.mk 10 ((i:Nat):Int) o.to' o.key o.n o.change o.mask o.torn o.cut).flat).toArray)] T0 [ah c (eN n D M P) 73,dk d e,own (P i) ((pl).length) (ints (List.flatMap ReplyT.flat (pl))) 47 3] (dm (λv H=>∃u,u.oneCell'=true∧v= .int .i64 0∧H=[ah c (eN n D (la M i (.pointer none)) (la P i u)) 73,dk d (e.crash o.mask o.torn o.cut),kV u pl])):=by
 refine BD 114 Tryz.func25 rfl rfl rfl λw0 F hF=>sr λ_ J1=>XY (ints (OpT.mk 10 ((i:Nat):Int) o.to' o.key o.n o.change o.mask o.torn o.cut).flat) λb3=>?_
 refine PS ?_;refine nx J1 (ab λ_ J2=>sr λ_ J3=>PS ?_);refine FA 1 ff aR ?_;refine LT 0 Y3 (.int .i64 (((i:Nat):Int))) ?_ (hc:=by exact bN _ rfl);refine CE qb (dT c i hi) ID ?_;refine PS ?_;refine nx J3 (CN (qx J2 (ab λ_ J4=>sr λ_ J5=>FA 0 ff aR ?_)));refine LT 0 Y3 (.int .i64 10) ?_ (hc:=by exact cN _ rfl);refine nx J5 (au (ab λ_ J6=>sr λ_ J7=>P2 ?_));refine nx J7 (CN (sr λ_ J8=>P2 ?_));refine nx J8 (CN (sr λ_ J9=>P2 ?_));refine nx J9 (CN (sr λ_ J10=>P2 ?_));refine nx J10 (CN (ad (P2 ?_)));refine nx J6 (CN (ab λ_ J11=>sr λ_ J12=>P2 ?_));refine nx J12 (CN (sr λ_ J13=>P2 ?_));refine nx J13 (CN (ad (P2 ?_)));refine nx J11 (CN (sr λ_ J14=>P2 ?_));refine nx J14 (CN (sr λ_ J15=>P2 ?_));refine nx J15 (CN (sr λ_ J16=>P2 ?_));refine nx J16 (CY (ab λ_ J17=>D1 0 dp ?_));refine PD 0 ?_;refine FD 1 1 ff aR ?_;refine LX 2 Y3 (.int .i64 (((i:Nat):Int))) ?_ (hc:=by exact bN _ rfl);refine PD 3 ?_;refine FD 4 1 ff aR ?_;refine LX 5 Y3 (.int .i64 (((i:Nat):Int))) ?_ (hc:=by exact bN _ rfl);refine PD 7 ?_;refine FD 8 11 pL KN ?_;refine AL 6 ?_;refine CR HC (wR c n i D M P hi hM pl hpl) (SM [1,2]) λvR HR hR=>?_
 obtain⟨_,huc,rfl,rfl⟩:=hR;revert vR;intro uc huc;refine EN (IY 9 (11+i) PF yk ?_);refine AL 10 ?_;refine bz (i:=0) (aa rfl) rfl rfl rfl rfl huc yk rfl rfl (by rw[rU];omega) (Gn n D M P uc hi) rfl (EN (DN (ac J17 (ab λ_ J18=>D1 3 dp ?_))));refine PD 0 ?_;refine FD 1 1 ff aR ?_;refine LX 2 Y3 (.int .i64 (((i:Nat):Int))) ?_ (hc:=by exact bN _ rfl);refine PD 3 ?_;refine FD 4 6 pL pw ?_;refine IY 5 (6+i) vw kh ?_;refine AL 6 ?_;refine bz (i:=0) (aa rfl) rfl rfl rfl rfl rfl kh rfl rfl (by rw[rU];omega) (vN n D M (la P i uc) (.pointer none) hi) rfl (EN (DN (ac J18 (D2 3 0 dp ?_))));refine PD 0 ?_;refine FD 1 1 ff aR ?_;refine LX 2 Y3 (.int .i64 (((i:Nat):Int))) ?_ (hc:=by exact bN _ rfl);refine PD 3 ?_;refine FD 4 1 pL Ak ?_;refine IY 5 (1+i) L1 vi ?_;refine LX 6 Ih (.pointer (some ⟨d,0,none⟩)) ?_ (hc:=by exact(Du n D (la M i (.pointer none)) (la P i uc) hi).trans (congrArg some hD));refine FD 7 8 ff aR ?_;refine LX 8 Y3 (.int .i64 (o.mask)) ?_ (hc:=by exact OpT.at_mask _ rfl);refine FD 9 9 ff aR ?_;refine LX 10 Y3 (.int .i64 (o.torn)) ?_ (hc:=by exact OpT.at_torn _ rfl);refine FD 11 10 ff aR ?_;refine LX 12 Y3 (.int .i64 (o.cut)) ?_ (hc:=by exact OpT.at_cut _ rfl);refine AL 13 ?_;refine CR Og (De d e o.mask o.torn o.cut hok) (SM [4]) λvR HR hR=>?_
 obtain⟨_,rfl⟩:=hR;refine EN (DN (ag (ac J4 (sr λ_ J19=>PS ?_))));exact nx J19 (ai (WK [1,0,1] (av rfl rfl ⟨uc,huc,rfl,rfl⟩)))
theorem KT{s:MS LD}{lg d r:Nat}{e:LD}{i:Int}(f:Fresh i e s){H:List HP}{h:Hl}(q:bD (DX lg r s::Gf lg d ((e.cnt:Nat):Int) e.used::H) h):bD (eX s d r::H) h:=by
 obtain⟨_,q⟩:=fu (p:=λ_:Unit=>[ah r (RepT.cells (s.rep ⟨lg, .pointer none, .slice none 0 0⟩)) 87]) q;refine bp (p:=G0 s d r) ⟨lg, .pointer none, .slice none 0 0⟩ ?_;have q2:=fR 47 3 q;have q3:bD (FL (.pointer none) (none:Option VoteT)::own (.slice none 0 0) 0 [] 47 3::ah r (RepT.cells (s.rep ⟨lg, .pointer none, .slice none 0 0⟩)) 87::Gf lg d ((e.cnt:Nat):Int) e.used::H) h:=⟨em,h,DR h,(rc h).symm,rfl,q2⟩;have q4:=aC [2,2,1,0] rfl q3;simp only[G0,f.e,f.replies,f.vote];exact q4
theorem pZ(i d:Nat)(e:DS)(hok:DkOk e):DT 43 #[.int .i64 ((i:Nat):Int), .pointer (some ⟨d,0,none⟩)] T0 [dk d e] (dm (λv H=>((cO i e).1=none∧(cO i e).2≠0∧v= .tuple #[.pointer none, .int .i64 (cO i e).2]∧H=[dk d (bP e).D])∨∃s r,(cO i e).1=some s∧v= .tuple #[.pointer (some ⟨r,0,none⟩), .int .i64 0]∧H=[eX s d r,dk d s.e.D])):=
 Leg.Does.fold (BU (⟨(bP e).recs.length,(bP e).used,(bP e).D⟩:LD) ((i:Nat):Int) d e hok.ok hok.inn (by have:=hok.ws;omega)) λx H hp=>by
  cases x with
  |returned v=>
   unfold cO;rcases hp with⟨he,rfl,rfl⟩| ⟨he,⟨hn,rfl,rfl⟩| ⟨s,r,lg,hn,rfl,rfl⟩⟩
   · rw[if_pos he];exact⟨_,λ_ q=>q, .inl ⟨rfl,he,rfl,rfl⟩⟩
   · rw[if_neg (by rw[he];decide),hn];exact⟨_,λ_ q=>q, .inl ⟨rfl,(by decide),rfl,rfl⟩⟩
   · rw[if_neg (by rw[he];decide),hn]
     have f:=tw _ (DY _ _) hn;refine⟨[eX s d r,dk d s.e.D],λ_ q=>KT (lg:=lg) f ?_, .inr ⟨s,r,rfl,rfl,rfl⟩⟩;rw[f.e];exact q
  |panicked c=>exact hp.elim
  |outgrown=>exact hp.elim
theorem BS(c n i:Nat)(D M P:Nat→Value)(hi:i<5)(d:Nat)(hD:D i= .pointer (some ⟨d,0,none⟩))(hM:M i= .pointer none)(e:DS)(hok:DkOk e):
 DT 50 #[(.pointer (some ⟨c,0,none⟩)),(.int .i64 (((i:Nat):Int)))] T0 [ah c (eN n D M P) 73,dk d e] (dm (λv H=>((cO i e).1=none∧v= .int .i64 (cO i e).2∧H=[ah c (eN n D M P) 73,dk d (bP e).D])∨∃s r,(cO i e).1=some s∧v= .int .i64 0∧H=[ah c (eN n D (la M i (.pointer (some ⟨r,0,none⟩))) P) 73,eX s d r,dk d s.e.D])):=by
 refine BD 34 Tryz.func50 rfl rfl rfl λw0 F hF=>sr λ_ J1=>PS ?_
 refine nx J1 (ab λ_ J2=>sr λ_ J3=>P3 ?_);refine FA 6 pL pw ?_;refine IX (6+i) vw kh ?_;refine LT 0 uA (.pointer none) ?_ (hc:=by exact(xP n D M P hi).trans (congrArg some hM));refine tp (iX rfl uA rfl rfl) ?_;refine nx J3 (CN (qx J2 (sr λ_ J4=>P4 ?_)));refine FA 1 pL Ak ?_;refine IX (1+i) L1 vi ?_;refine LT 0 Ih (.pointer (some ⟨d,0,none⟩)) ?_ (hc:=by exact(Du n D M P hi).trans (congrArg some hD));refine CR Nl (pZ i d e hok) (SM [1]) λvR HR hR=>?_
 rcases hR with⟨hn,h0,rfl,rfl⟩| ⟨s,r,hn,rfl,rfl⟩
 refine P4 ?_;refine PS ?_;refine nx J4 (ab λ_ J5=>sr λ_ J6=>P2 ?_);refine ao ?_ ?_<;>intro h26
 · exact absurd h26 h0
 refine nx J6 (CN (qx J5 (sr λ_ J7=>P2 ?_)));exact nx J7 (ai (WK [1,0] (av rfl rfl (.inl ⟨hn,rfl,rfl⟩))));refine P4 ?_;refine PS ?_;refine nx J4 (ab λ_ J8=>sr λ_ J9=>P2 ?_);refine nx J9 (CY (ad (P4 ?_)));refine FA 6 pL pw ?_;refine IX (6+i) vw kh ?_;refine bz (i:=2) (aa rfl) rfl rfl rfl rfl rfl kh rfl rfl (by rw[rU];omega) (vN n D M P (.pointer (some ⟨r,0,none⟩)) hi) rfl (nx J8 (sr λ_ J10=>P2 ?_));exact nx J10 (ai (WK [2,0,0] (av rfl rfl (.inr ⟨s,r,hn,rfl,rfl⟩))))
theorem BR(c n i:Nat)(D M P:Nat→Value)(hi:i<5)(r:Nat)(hM:M i= .pointer (some ⟨r,0,none⟩)):
 DT 50 #[(.pointer (some ⟨c,0,none⟩)),(.int .i64 (((i:Nat):Int)))] T0 [ah c (eN n D M P) 73] (RI (.int .i64 5) [ah c (eN n D M P) 73]):=by
 refine BD 34 Tryz.func50 rfl rfl rfl λw0 F hF=>sr λ_ J1=>PS ?_
 refine nx J1 (ab λ_ J2=>sr λ_ J3=>P3 ?_);refine FA 6 pL pw ?_;refine IX (6+i) vw kh ?_;refine LT 0 uA (.pointer (some ⟨r,0,none⟩)) ?_ (hc:=by exact(xP n D M P hi).trans (congrArg some hM));refine tp (jq rfl uA rfl rfl) ?_;refine nx J3 (CY (sr λ_ J4=>PS ?_));exact nx J4 (ai (af (WK [0] (av rfl rfl ⟨rfl,rfl⟩))))
theorem Fj(c n i:Nat)(D M P:Nat→Value)(hi:i<5)(d:Nat)(hD:D i= .pointer (some ⟨d,0,none⟩))(hM:M i= .pointer none)(e:DS)(hok:DkOk e)(o:OpT):
 DT 25 #[(.pointer (some ⟨c,0,none⟩)),(.agg (ints (OpT.mk 11 ((i:Nat):Int) o.to' o.key o.n o.change o.mask o.torn o.cut).flat).toArray)] T0 [ah c (eN n D M P) 73,dk d e] (dm (λv H=>((cO i e).1=none∧v= .int .i64 (cO i e).2∧H=[ah c (eN n D M P) 73,dk d (bP e).D])∨∃s r,(cO i e).1=some s∧v= .int .i64 0∧H=[ah c (eN n D (la M i (.pointer (some ⟨r,0,none⟩))) P) 73,eX s d r,dk d s.e.D])):=by
 refine BD 114 Tryz.func25 rfl rfl rfl λw0 F hF=>sr λ_ J1=>XY (ints (OpT.mk 11 ((i:Nat):Int) o.to' o.key o.n o.change o.mask o.torn o.cut).flat) λb3=>?_
 refine PS ?_;refine nx J1 (ab λ_ J2=>sr λ_ J3=>PS ?_);refine FA 1 ff aR ?_;refine LT 0 Y3 (.int .i64 (((i:Nat):Int))) ?_ (hc:=by exact bN _ rfl);refine CE qb (dT c i hi) ID ?_;refine PS ?_;refine nx J3 (CN (qx J2 (ab λ_ J4=>sr λ_ J5=>FA 0 ff aR ?_)));refine LT 0 Y3 (.int .i64 11) ?_ (hc:=by exact cN _ rfl);refine nx J5 (au (ab λ_ J6=>sr λ_ J7=>P2 ?_));refine nx J7 (CN (sr λ_ J8=>P2 ?_));refine nx J8 (CN (sr λ_ J9=>P2 ?_));refine nx J9 (CN (sr λ_ J10=>P2 ?_));refine nx J10 (CN (ad (P2 ?_)));refine nx J6 (CN (ab λ_ J11=>sr λ_ J12=>P2 ?_));refine nx J12 (CN (sr λ_ J13=>P2 ?_));refine nx J13 (CN (ad (P2 ?_)));refine nx J11 (CN (sr λ_ J14=>P2 ?_));refine nx J14 (CN (sr λ_ J15=>P2 ?_));refine nx J15 (CN (sr λ_ J16=>P2 ?_));refine nx J16 (CN (sr λ_ J17=>P2 ?_));refine nx J17 (CY (sr λ_ J18=>PS ?_));refine FA 1 ff aR ?_;refine LT 0 Y3 (.int .i64 (((i:Nat):Int))) ?_ (hc:=by exact bN _ rfl);refine CR Of (BS c n i D M P hi d hD hM e hok) (SM [1,1]) λvR HR hR=>?_
 rcases hR with⟨hn,rfl,rfl⟩| ⟨s,r,hn,rfl,rfl⟩
 refine PS ?_;exact nx J18 (ai (aH (af (WK [0,0] (av rfl rfl (.inl ⟨hn,rfl,rfl⟩))))));refine PS ?_;exact nx J18 (ai (aH (af (WK [0,0,0] (av rfl rfl (.inr ⟨s,r,hn,rfl,rfl⟩))))))
theorem Fi(c n i:Nat)(D M P:Nat→Value)(hi:i<5)(r:Nat)(hM:M i= .pointer (some ⟨r,0,none⟩))(o:OpT):
 DT 25 #[(.pointer (some ⟨c,0,none⟩)),(.agg (ints (OpT.mk 11 ((i:Nat):Int) o.to' o.key o.n o.change o.mask o.torn o.cut).flat).toArray)] T0 [ah c (eN n D M P) 73] (RI (.int .i64 5) [ah c (eN n D M P) 73]):=by
 refine BD 114 Tryz.func25 rfl rfl rfl λw0 F hF=>sr λ_ J1=>XY (ints (OpT.mk 11 ((i:Nat):Int) o.to' o.key o.n o.change o.mask o.torn o.cut).flat) λb3=>?_
 refine PS ?_;refine nx J1 (ab λ_ J2=>sr λ_ J3=>PS ?_);refine FA 1 ff aR ?_;refine LT 0 Y3 (.int .i64 (((i:Nat):Int))) ?_ (hc:=by exact bN _ rfl);refine CE qb (dT c i hi) ID ?_;refine PS ?_;refine nx J3 (CN (qx J2 (ab λ_ J4=>sr λ_ J5=>FA 0 ff aR ?_)));refine LT 0 Y3 (.int .i64 11) ?_ (hc:=by exact cN _ rfl);refine nx J5 (au (ab λ_ J6=>sr λ_ J7=>P2 ?_));refine nx J7 (CN (sr λ_ J8=>P2 ?_));refine nx J8 (CN (sr λ_ J9=>P2 ?_));refine nx J9 (CN (sr λ_ J10=>P2 ?_));refine nx J10 (CN (ad (P2 ?_)));refine nx J6 (CN (ab λ_ J11=>sr λ_ J12=>P2 ?_));refine nx J12 (CN (sr λ_ J13=>P2 ?_));refine nx J13 (CN (ad (P2 ?_)));refine nx J11 (CN (sr λ_ J14=>P2 ?_));refine nx J14 (CN (sr λ_ J15=>P2 ?_));refine nx J15 (CN (sr λ_ J16=>P2 ?_));refine nx J16 (CN (sr λ_ J17=>P2 ?_));refine nx J17 (CY (sr λ_ J18=>PS ?_));refine FA 1 ff aR ?_;refine LT 0 Y3 (.int .i64 (((i:Nat):Int))) ?_ (hc:=by exact bN _ rfl);refine CE Of (BR c n i D M P hi r hM) (SM [1]) ?_;refine PS ?_;exact nx J18 (ai (aH (af (WK [0] (av rfl rfl ⟨rfl,rfl⟩)))))
end Go.Proofs.YtfocodjhmkokpaaGreatDoor
end
