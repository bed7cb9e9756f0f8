/-
  Joined texts:what a statement's proof reaches.
-/
import Derived.Test.YtfocodjhmkokpaaGreatDoorPTC6
set_option maxHeartbeats 8000000
set_option maxRecDepth 100000
set_option linter.unusedSimpArgs false
set_option linter.unusedVariables false
section
namespace Go.Proofs.YtfocodjhmkokpaaGreatDoor
open Go Leg Codec Api Dsk Wal
theorem sF{δ:Type}(V:Env δ)(r:Nat)(s:MS δ)(from':Int)(m:MsgT)[OkR V.toDk s][OkMg m](hfe:from'=s.id→m.epoch=s.view.epoch)(hk:m.kind=6):TK V r 82 s from' m (pw V.toDk s from' m):=pu (.inr (.inr (.inr hk))) (by
 cases hv:s.vote with
 |none=>exact lc V r s (kh V.toDk from' m) from' m hfe (λe=>by omega) (λe=>by omega) (λ_=>by rw[kh,show(dB s (max s.round m.ballot.round)).vote=none from hv]) (λ_=>hv)
 |some vt=>
  have h:=qF V r s vt from' m hfe (.inr hk) hv (λe=>by omega)
  rwa [show(λs_:MS δ=>if m.kind=4 then oA V.toDk from' m s_ else kh V.toDk from' m s_)=kh V.toDk from' m from funext λ_=>if_neg (by omega)]at h)
theorem zg{δ:Type}(V:Env δ)(r:Nat)(s:MS δ)(from':Int)(m:MsgT)[OkR V.toDk s][OkMg m](hep:m.epoch=s.view.epoch):
 DT 161 #[(.pointer (some ⟨r,0,none⟩)),(.iface V.T V.ov),(.int .i64 (from')),(.agg (ints m.flat).toArray)] T0 [cU V r s] (dA (λ_ H=>H=[cU V r (mU V.toDk from' m s)])):=by
 refine BD 69 Tryz.func161 rfl rfl rfl λw0 F hF=>sr λ_ J1=>XY (ints m.flat) λb7=>?_
 refine nx J1 (aa λ_ J2=>aa λ_ J3=>e7 (α:=Unit) (λ_u=>True) (λ_u=>[(0,(.pointer (some ⟨r,0,none⟩))),(1,(.iface V.T V.ov)),(2,(.int .i64 (from'))),(7,(.pointer (some ⟨b7,0,none⟩))),(9,(.int .i64 ((dW s.view m.change).2)))]) (λ_u=>[cU V r s,ak b7 (ints m.flat) 163]) (λ_u hinv=>?_) (λtl3=>?_));have _:=hinv;refine ae J3 (sr λ_ J4=>P2 ?_);refine aq ?_ ?_<;>intro h23;refine nx J4 (CY (aj (ag (WK [0] (dV rfl ?_)))));exact MQ (by rw[mU,if_pos h23]);refine nx J4 (CN (qx J2 (aa λ_ J5=>e7 (α:=(Nat)) (λb10=>True) (λb10=>[(0,(.pointer (some ⟨r,0,none⟩))),(1,(.iface V.T V.ov)),(2,(.int .i64 (from'))),(7,(.pointer (some ⟨b7,0,none⟩))),(10,(.pointer (some ⟨b10,0,none⟩))),(11,(.bool ((gZ s.acc m.epoch m.ballot m.change).2)))]) (λb10=>[cU V r s,ak b7 (ints m.flat) 163,ak b10 (ints ((gZ s.acc m.epoch m.ballot m.change).1).flat) 82]) (λb10 hinv=>?_) (λtl5=>?_))));have _:=hinv;refine ae J5 (aa λ_ J6=>sr λ_ J7=>PS ?_);refine bh ?_ ?_<;>intro h38;refine PS ?_;refine nx J7 (CN (qx J6 (aa λ_ J8=>aa λ_ J9=>DC mixed (BL 2) (db 0 rfl rfl) ?_)));refine LY 0 qo fV bf ?_;refine PD 1 ?_;refine PD 2 ?_;refine FD 3 1058 dw fV ?_;refine ta 4 rfl (gx (vs:=ints s.acc.flat) rfl qo rfl fV rfl (λ_ h=>h.2.2.1) (bf s.acc) (λa_=>(zM (s.rep a_) 0 rfl (by decide) (whole (bf ((s.rep a_).acc)))))) ?_
 refine ta 5 rfl (No (a:=((gZ s.acc m.epoch m.ballot m.change).1).flat) (b:=s.acc.flat) (m:=6) (c:=8) Rn Rj rfl RX (ff (bf ((gZ s.acc m.epoch m.ballot m.change).1))) (ff (bf s.acc)) ⟨jm Qv QC (ff (bf ((gZ s.acc m.epoch m.ballot m.change).1))),jm Qv QC (ff (bf s.acc))⟩ (OkAc.wf) (OkAc.wf) rfl rfl rfl) ?_;refine jA ?_ ?_<;>intro h45;refine DN (ae J9 (CY (aa λ_ J10=>sr λ_ J11=>PS ?_)));refine FA 177 bj aR ?_;refine LU 1 Y3 (eS m rfl) ?_;refine FA 178 bj cH ?_;refine LV 1 kG cH au pm (y:=m.ballot) ?_;refine FA 182 bj fT ?_;refine LV 1 n5 fT aN MsgT.sp_change (y:=m.change) ?_;refine tp (mI RecT.zero (RecT.mk 4 0 RowT.zero m.epoch m.ballot m.change ViewT.zero) [(0,[Value.int .i64 4]),(3,[Value.int .i64 m.epoch]),(4,ints m.ballot.flat),(5,ints m.change.flat)] en fi (g:=RecT.sg)) ?_;refine CE yg (lX V r s (l4 m.epoch m.ballot m.change)) ID ?_;refine PS ?_;refine aq ?_ ?_<;>intro h55;refine nx J11 (CY (aj (ag (ag (WK [0] (dV rfl ?_))))));exact MQ (by rw[mU,if_neg h23,if_neg (by rw[h38];decide),if_pos h45,if_pos h55]);refine nx J11 (CN (qx J10 (af (PS ?_))));refine LW 2 qo fV bf ?_;refine PS ?_;refine FA 1058 dw fV ?_
 refine ir (vs:=ints ((gZ s.acc m.epoch m.ballot m.change).1).flat) (i:=0) (ab rfl) rfl rfl rfl rfl rfl (by rw[(bf ((gZ s.acc m.epoch m.ballot m.change).1))];exact fV) (bw _) rfl rfl (λ_=>LC (da _) (bf _)) (λa_=>(kW ((dN V.toDk s (l4 m.epoch m.ballot m.change)).rep a_) 0 rfl (by have h1:=(bf ((gZ s.acc m.epoch m.ballot m.change).1));omega) (cC ((bf (((dN V.toDk s (l4 m.epoch m.ballot m.change)).rep a_).acc)).trans (bf ((gZ s.acc m.epoch m.ballot m.change).1)).symm)))) (nx J8 (af (P3 ?_)));refine FA 177 bj aR ?_;refine LU 1 Y3 (eS m rfl) ?_;refine FA 178 bj cH ?_;refine LV 1 kG cH au pm (y:=m.ballot) ?_;refine tp (mI MsgT.zero (MsgT.mk 6 0 RowT.zero 0 m.epoch m.ballot BallotT.zero ChangeT.zero ViewT.zero) [(0,[Value.int .i64 6]),(4,[Value.int .i64 m.epoch]),(5,ints m.ballot.flat)] bj bA (g:=MsgT.sg)) ?_;refine CZ jM (gK V r (vC (dN V.toDk s (l4 m.epoch m.ballot m.change)) (gZ s.acc m.epoch m.ballot m.change).1) from' (ki m.epoch m.ballot) (λs_=>pw V.toDk s_ s_.id (ki m.epoch m.ballot)) (λ_=>sF V r (vC (dN V.toDk s (l4 m.epoch m.ballot m.change)) (gZ s.acc m.epoch m.ballot m.change).1) (vC (dN V.toDk s (l4 m.epoch m.ballot m.change)) (gZ s.acc m.epoch m.ballot m.change).1).id (ki m.epoch m.ballot) (λ_=>hep) rfl)) ID λvR=>?_
 refine ax (WK [0] (bC rfl ?_));exact MQ (by rw[mU,if_neg h23,if_neg (by rw[h38];decide),if_pos h45,if_neg h55];rfl);refine DN (ae J9 (CN (qx J8 (af (P3 ?_)))));refine FA 177 bj aR ?_;refine LU 1 Y3 (eS m rfl) ?_;refine FA 178 bj cH ?_;refine LV 1 kG cH au pm (y:=m.ballot) ?_;refine tp (mI MsgT.zero (MsgT.mk 6 0 RowT.zero 0 m.epoch m.ballot BallotT.zero ChangeT.zero ViewT.zero) [(0,[Value.int .i64 6]),(4,[Value.int .i64 m.epoch]),(5,ints m.ballot.flat)] bj bA (g:=MsgT.sg)) ?_;refine CZ jM (gK V r s from' (ki m.epoch m.ballot) (λs_=>pw V.toDk s_ s_.id (ki m.epoch m.ballot)) (λ_=>sF V r s s.id (ki m.epoch m.ballot) (λ_=>hep) rfl)) ID λvR=>?_
 refine ax (WK [0] (bC rfl ?_));exact MQ (by rw[mU,if_neg h23,if_neg (by rw[h38];decide),if_neg h45];rfl);refine PS ?_;refine nx J7 (CY (aj (ag (WK [0] (dV rfl ?_)))));exact MQ (by rw[mU,if_neg h23,if_pos h38]);refine DC mixed (db 0 rfl rfl) (BL 1) ?_;refine PD 0 ?_;refine PD 1 ?_;refine FD 2 1058 dw fV ?_;refine ta 3 rfl (gx (vs:=ints s.acc.flat) rfl qo rfl fV rfl (λ_ h=>h.2.1) (bf s.acc) (λa_=>(zM (s.rep a_) 0 rfl (by decide) (whole (bf ((s.rep a_).acc)))))) ?_;refine FD 4 177 bj aR ?_;refine LR 5 Y3 (eS m rfl) ?_;refine FD 6 178 bj cH ?_;refine ta 7 rfl (aP (vs:=ints m.ballot.flat) rfl kG rfl cH rfl (λ_ h=>h.2.2.1) (au m.ballot) (jE m 0 rfl (by decide) (whole (au m.ballot)))) ?_;refine FD 8 182 bj fT ?_;refine ta 9 rfl (aP (vs:=ints m.change.flat) rfl n5 rfl fT rfl (λ_ h=>h.2.2.1) (aN m.change) (n8 m 0 rfl (by decide) (whole (aN m.change)))) ?_;refine cZ [10,14] (by kernel_rfl) rfl (aG rfl ?_ ?_);refine CE NC (wn s.acc m.epoch m.ballot m.change) ID ?_;refine EN (PD 11 ?_);refine PD 12 ?_;refine PD 13 ?_;refine pj ?_ ?_<;>intro h37;refine AL 14 ?_;refine XZ JK (ints AccT.zero.flat) λb10=>?_
 refine EN (AL 15 ?_);refine SW 0 fV bf ?_;refine EN (PD 16 ?_);refine DN ?_
 exact aF
  (aS (aS (aS (aS (aS (bJ rfl (by rw[h37]) SB))))))
  (λ_ s=>an [1,1,0] rfl s)
  (tl5 ((b10):(Nat)) trivial)
 refine AL 14 ?_;refine XZ JK (ints AccT.zero.flat) λb10=>?_
 refine EN (AL 15 ?_);refine SW 0 fV bf ?_;refine EN (PD 16 ?_);refine DN ?_
 exact aF
  (aS (aS (aS (aS (aS (bJ rfl (by rw[h37]) SB))))))
  (λ_ s=>an [1,1,0] rfl s)
  (tl5 ((b10):(Nat)) trivial)
 refine aG rfl ?_ ?_;refine XZ JK (ints AccT.zero.flat) λb10=>?_
 refine EN (AL 10 ?_);refine CE NC (wn s.acc m.epoch m.ballot m.change) ID ?_;refine EN (PD 11 ?_);refine PD 12 ?_;refine PD 13 ?_;refine pj ?_ ?_<;>intro h37;refine AL 15 ?_;refine SW 0 fV bf ?_;refine EN (PD 16 ?_);refine DN ?_
 exact aF
  (aS (aS (aS (aS (aS (bJ rfl (by rw[h37]) SB))))))
  (λ_ s=>an [1,1,0] rfl s)
  (tl5 ((b10):(Nat)) trivial)
 refine AL 15 ?_;refine SW 0 fV bf ?_;refine EN (PD 16 ?_);refine DN ?_
 exact aF
  (aS (aS (aS (aS (aS (bJ rfl (by rw[h37]) SB))))))
  (λ_ s=>an [1,1,0] rfl s)
  (tl5 ((b10):(Nat)) trivial)
 exact bM;refine DC mixed (db 1 rfl rfl) (BL 0) ?_;refine PD 0 ?_;refine PD 1 ?_;refine FD 2 2 dw bm ?_;refine ta 3 rfl (gx (vs:=ints s.view.flat) rfl eO rfl bm rfl (λ_ h=>h.2.1) (ap s.view) (λa_=>(gn (s.rep a_) 0 rfl (by decide) (whole (ap ((s.rep a_).view)))))) ?_;refine FD 4 182 bj fT ?_;refine ta 5 rfl (aP (vs:=ints m.change.flat) rfl n5 rfl fT rfl (λ_ h=>h.2.2.1) (aN m.change) (n8 m 0 rfl (by decide) (whole (aN m.change)))) ?_;refine cZ [6,10] (by kernel_rfl) rfl (aG rfl ?_ ?_);refine CE nL (dG s.view m.change OkVw.rng) ID ?_;refine EN (PD 7 ?_);refine PD 8 ?_;refine PD 9 ?_;refine AL 10 ?_;refine XZ tj (ints ViewT.zero.flat) λb8=>?_
 refine EN (AL 11 ?_);refine SW 0 bm ap ?_;refine EN (PD 12 ?_);refine DN ?_
 exact aF
  SB
  (λ_ s=>an [2,1] rfl s)
  (tl3 (():Unit) trivial)
 refine aG rfl ?_ ?_;refine XZ tj (ints ViewT.zero.flat) λb8=>?_
 refine EN (AL 6 ?_);refine CE nL (dG s.view m.change OkVw.rng) ID ?_;refine EN (PD 7 ?_);refine PD 8 ?_;refine PD 9 ?_;refine AL 11 ?_;refine SW 0 bm ap ?_;refine EN (PD 12 ?_);refine DN ?_
 exact aF
  SB
  (λ_ s=>an [2,1] rfl s)
  (tl3 (():Unit) trivial)
 exact bM
theorem xo{δ:Type}(V:Env δ)(r:Nat)(s:MS δ)(from':Int)(m:MsgT)[OkR V.toDk s][OkMg m](hfe:from'=s.id→m.epoch=s.view.epoch)(hk:m.kind=5):TK V r 82 s from' m (qH V.toDk s from' m):=pu (by omega) (lc V r s (mU V.toDk from' m) from' m hfe (λe _=>by omega) (λ_ hep=>zg V r (dB s (max s.round m.ballot.round)) from' m hep) (λe=>by omega) (λe=>by omega))
theorem zl{δ:Type}(V:Env δ)(r vb:Nat)(s:MS δ)(vt:VoteT)(hv:s.vote=some vt)(hpt:vt.putting=true)[OkR V.toDk s][OkVt vt]:
 DT 92 #[(.pointer (some ⟨r,0,none⟩)),(.iface V.T V.ov)] T0 [w5 V r s (.pointer (some ⟨vb,0,none⟩)),ak vb (VoteT.cells vt) 207] (dA (λ_ H=>H=[cU V r (jJ V.toDk s vt)])):=by
 refine BD 68 Tryz.func92 rfl rfl rfl λw0 F hF=>aa λ_ J1=>e7 (α:=(Nat)) (λb4=>True) (λb4=>[(0,(.pointer (some ⟨r,0,none⟩))),(1,(.iface V.T V.ov)),(4,(.pointer (some ⟨b4,0,none⟩)))]) (λb4=>[w5 V r s (.pointer (some ⟨vb,0,none⟩)),ak vb (VoteT.cells vt) 207,ak b4 (ints (fP s.view.epoch vt.ballot).flat) 163]) (λb4 hinv=>?_) (λtl1=>?_)
 have _:=hinv;refine ae J1 (aa λ_ J2=>sr λ_ J3=>P2 ?_);refine FA 1067 dw nF ?_;refine LG 0 qf (.pointer (some ⟨vb,0,none⟩)) ?_ (hc:=by exact λa_=>(cd _ rfl));refine CE NL (oP vb vt) (SM [1]) ?_;refine bh ?_ ?_<;>intro h22;refine nx J3 (CY (af (P2 ?_)));refine FA 1067 dw nF ?_;refine LG 1 qf (.pointer (some ⟨vb,0,none⟩)) ?_ (hc:=by exact λa_=>(cd _ rfl));refine CE vf (du vb vt) ID ?_;refine FA 0 bj aR ?_;refine SS 2 aR (aJ _) (MsgT.set_kind _ rfl _) ?_;refine FA 182 bj fT ?_;refine SP 2 fT aN aJ QM ?_;refine nx J2 (sr λ_ J4=>cz (H':=cU V r s::[ak b4 (ints (MsgT.mk 5 ((fP s.view.epoch vt.ballot).whose) ((fP s.view.epoch vt.ballot).row) ((fP s.view.epoch vt.ballot).version) ((fP s.view.epoch vt.ballot).epoch) ((fP s.view.epoch vt.ballot).ballot) ((fP s.view.epoch vt.ballot).had) vt.change ((fP s.view.epoch vt.ballot).view)).flat) 163]) (λ_ q=>o7 hv (aD [1,0] rfl q)) (P2 ?_));refine FA 2 dw bm ?_;refine LZ 0 eO bm ap s.view ?_ (hc:=by exact λ_=>c9 _);refine XZ tj (ints ViewT.zero.flat) λb5=>?_
 refine SW 0 bm ap ?_;refine nx J4 (aa λ_ J5=>sr λ_ J6=>PS ?_);refine nx J6 (av ?_)
 refine bz (α:=(Nat)) (λk=>k≤5) (λk=>[(0,(.pointer (some ⟨r,0,none⟩))),(1,(.iface V.T V.ov)),(4,(.pointer (some ⟨b4,0,none⟩))),(5,(.pointer (some ⟨b5,0,none⟩))),(34,(.int .i64 (((k:Nat):Int))))]) (λk=>[ak b5 (ints s.view.flat) 32,ak b4 (ints (jI s.view.epoch vt.ballot vt.change).flat) 163,cU V r (ja V.toDk s (oY s.id (jI s.view.epoch vt.ballot vt.change) (λi=>jr s.view ((i:Nat):Int)) k))]) (λk=>5-k) 0
  (aO _) SB
  (λ_ q=>by
  rw[show oY s.id (jI s.view.epoch vt.ballot vt.change) (λi=>jr s.view ((i:Nat):Int)) 0=[]from rfl,qP]
  exact an [0,1,0] rfl q) (λk hinv=>?_)
 obtain hk:=hinv;refine sr λ_ J7=>PS ?_
 refine aq ?_ ?_<;>intro h35;refine nx J7 (aa λ_ J8=>CY (qx J8 (aa λ_ J9=>av (sr λ_ J10=>P2 ?_))));refine nx J10 (sr λ_ J11=>P3 ?_);refine FA 0 dw aR ?_;refine LG 2 Y3 (.int .i64 (s.id)) ?_ (hc:=by exact λa_=>(cR _ rfl));refine PS ?_;refine aq ?_ ?_<;>intro h42;refine PS ?_;refine LW 0 eO bm ap ?_;refine PS ?_;refine CE qU (dR s.view ((k:Nat):Int)) ID ?_;refine bh ?_ ?_<;>intro h46;refine PS ?_;refine nx J11 (CY (af (P3 ?_)));refine LW 1 bj cp aJ ?_;refine CZ jM (oW V r s (oY s.id (jI s.view.epoch vt.ballot vt.change) (λi=>jr s.view ((i:Nat):Int)) k) ((k:Nat):Int) (jI s.view.epoch vt.ballot vt.change) h42) (SM [2]) λvR=>?_
 refine ax (ai (ae J9 (af (AD ?_))));refine PS ?_;refine ax ?_
 exact aM ((k+1):(Nat)) (by omega) (by show 5- (k+1)<5-k;omega)
  SB
  (λ_ q=>by
   rw[jl,if_pos ⟨h42,h46⟩]
   exact an [1,1,0] rfl q)
 refine PS ?_;refine nx J11 (CN (aV (ai (ae J9 (af (AD ?_))))));refine PS ?_;refine ax ?_
 exact aM ((k+1):(Nat)) (by omega) (by show 5- (k+1)<5-k;omega)
  SB
  (λ_ q=>by
   rw[jl,if_neg (λh=>by have:=h.2;rw[h46]at this;cases this)];rw[aL]
   exact an [0,0,0] rfl q)
 refine PS ?_
 iterate 3 refine UF ?_
 refine PS ?_;refine nx J11 (CN (aV (ai (ae J9 (af (AD ?_))))));refine PS ?_;refine ax ?_
 exact aM ((k+1):(Nat)) (by omega) (by show 5- (k+1)<5-k;omega)
  SB
  (λ_ q=>by
   rw[jl,if_neg (λh=>h42 h.1)];rw[aL]
   exact an [0,0,0] rfl q)
 obtain rfl:k=5:=by omega
 refine nx J7 (aa λ_ J12=>CN (aX (aC (aC (bq (ae J5 (aa λ_ J13=>DC mixed (BL 0) (db 2 rfl rfl) ?_)))))));refine LY 0 eO bm ap ?_;refine PD 1 ?_;refine PD 2 ?_;refine FD 3 0 dw aR ?_;refine ta 4 rfl (dz (v:=(.int .i64 ((jq V.toDk s (jI s.view.epoch vt.ballot vt.change)).id))) rfl Y3 rfl rfl (λ_ h=>h.2.2.1) (λa_=>(cR _ rfl))) ?_;refine AL 5 ?_;refine CE qU (dR s.view ((jq V.toDk s (jI s.view.epoch vt.ballot vt.change)).id)) ID ?_;refine bh ?_ ?_<;>intro h59;refine EN (DN (ae J13 (CY (D1 1 mixed ?_))));refine PD 0 ?_;refine PD 1 ?_;refine PD 2 ?_;refine PD 3 ?_;refine FD 4 0 dw aR ?_;refine LY 6 bj cp aJ ?_;refine AL 5 ?_;refine LG 2 Y3 (.int .i64 ((jq V.toDk s (jI s.view.epoch vt.ballot vt.change)).id)) ?_ (hc:=by exact λa_=>(cR _ rfl));refine EN (AL 7 ?_);refine CZ jM (gK V r (jq V.toDk s (jI s.view.epoch vt.ballot vt.change)) s.id (jI s.view.epoch vt.ballot vt.change) (λs_=>qH V.toDk s_ s_.id (jI s.view.epoch vt.ballot vt.change)) (λ_=>xo V r (jq V.toDk s (jI s.view.epoch vt.ballot vt.change)) s.id (jI s.view.epoch vt.ballot vt.change) (λ_=>rfl) rfl)) (SM [2]) λvR=>?_
 refine EN (DN (WK [0] (bC rfl ?_)));exact MQ (by rw[jJ,hY,if_pos (show jr s.view s.id=true from h59),lO,if_pos (show s.id=(jq V.toDk s (jI s.view.epoch vt.ballot vt.change)).id from rfl)]<;>rfl);refine EN (DN (ae J13 (CN (aV (WK [2] (bC rfl ?_))))));exact MQ (by rw[jJ,hY,if_neg (by rw[show jr s.view s.id=false from h59];decide)]<;>rfl)
 · rw[hpt]at h22;cases h22
 refine D1 1 mixed ?_;refine PD 0 ?_;refine PD 1 ?_;refine FD 2 2 dw bm ?_;refine FD 3 2 eO aR ?_;refine PD 5 ?_;refine PD 6 ?_;refine FD 7 1067 dw nF ?_;refine cZ [4,8,11] (by kernel_rfl) rfl (aG rfl ?_ ?_);refine LG 0 Y3 (.int .i64 (s.view.epoch)) ?_ (hc:=by exact λa_=>(cr (s.rep ⟨(a_:Nat×Value).1,(.pointer (some ⟨vb,0,none⟩)),a_.2⟩) 0 rfl (by decide) (be _ rfl)));refine EN (cZ [8,11] (by kernel_rfl) rfl (aG rfl ?_ ?_));refine LG 0 qf (.pointer (some ⟨vb,0,none⟩)) ?_ (hc:=by exact λa_=>(cd _ rfl));refine EN (cZ [9,11] (by kernel_rfl) rfl (aG rfl ?_ ?_));refine CE j9 (bN vb vt) (SM [1]) ?_;refine EN (ta 10 rfl (mI MsgT.zero (MsgT.mk 3 0 RowT.zero 0 s.view.epoch vt.ballot BallotT.zero ChangeT.zero ViewT.zero) [(0,[Value.int .i64 3]),(4,[Value.int .i64 s.view.epoch]),(5,ints vt.ballot.flat)] bj bA (g:=MsgT.sg)) ?_);refine AL 11 ?_;refine XZ mZ (ints MsgT.zero.flat) λb4=>?_
 refine EN (AL 12 ?_);refine SW 0 cp aJ ?_;refine EN (DN ?_)
 exact aF
  SB
  (λ_ s=>an [2,1,0] rfl s)
  (tl1 ((b4):(Nat)) trivial)
 refine aG rfl ?_ ?_;refine XZ mZ (ints MsgT.zero.flat) λb4=>?_
 refine EN (AL 9 ?_);refine CE j9 (bN vb vt) (SM [2]) ?_;refine EN (ta 10 rfl (mI MsgT.zero (MsgT.mk 3 0 RowT.zero 0 s.view.epoch vt.ballot BallotT.zero ChangeT.zero ViewT.zero) [(0,[Value.int .i64 3]),(4,[Value.int .i64 s.view.epoch]),(5,ints vt.ballot.flat)] bj bA (g:=MsgT.sg)) ?_);refine AL 12 ?_;refine SW 1 cp aJ ?_;refine EN (DN ?_)
 exact aF
  SB
  (λ_ s=>an [2,0,0] rfl s)
  (tl1 ((b4):(Nat)) trivial)
 exact bM;refine aG rfl ?_ ?_;refine XZ mZ (ints MsgT.zero.flat) λb4=>?_
 refine EN (AL 8 ?_);refine LG 1 qf (.pointer (some ⟨vb,0,none⟩)) ?_ (hc:=by exact λa_=>(cd _ rfl));refine EN (AL 9 ?_);refine CE j9 (bN vb vt) (SM [2]) ?_;refine EN (ta 10 rfl (mI MsgT.zero (MsgT.mk 3 0 RowT.zero 0 s.view.epoch vt.ballot BallotT.zero ChangeT.zero ViewT.zero) [(0,[Value.int .i64 3]),(4,[Value.int .i64 s.view.epoch]),(5,ints vt.ballot.flat)] bj bA (g:=MsgT.sg)) ?_);refine AL 12 ?_;refine SW 1 cp aJ ?_;refine EN (DN ?_)
 exact aF
  SB
  (λ_ s=>an [2,0,0] rfl s)
  (tl1 ((b4):(Nat)) trivial)
 exact bM;refine aG rfl ?_ ?_;refine LG 0 qf (.pointer (some ⟨vb,0,none⟩)) ?_ (hc:=by exact λa_=>(cd _ rfl));refine EN (cZ [4,9,11] (by kernel_rfl) rfl (aG rfl ?_ ?_));refine LG 0 Y3 (.int .i64 (s.view.epoch)) ?_ (hc:=by exact λa_=>(cr (s.rep ⟨(a_:Nat×Value).1,(.pointer (some ⟨vb,0,none⟩)),a_.2⟩) 0 rfl (by decide) (be _ rfl)));refine EN (cZ [9,11] (by kernel_rfl) rfl (aG rfl ?_ ?_));refine CE j9 (bN vb vt) (SM [1]) ?_;refine EN (ta 10 rfl (mI MsgT.zero (MsgT.mk 3 0 RowT.zero 0 s.view.epoch vt.ballot BallotT.zero ChangeT.zero ViewT.zero) [(0,[Value.int .i64 3]),(4,[Value.int .i64 s.view.epoch]),(5,ints vt.ballot.flat)] bj bA (g:=MsgT.sg)) ?_);refine AL 11 ?_;refine XZ mZ (ints MsgT.zero.flat) λb4=>?_
 refine EN (AL 12 ?_);refine SW 0 cp aJ ?_;refine EN (DN ?_)
 exact aF
  SB
  (λ_ s=>an [2,1,0] rfl s)
  (tl1 ((b4):(Nat)) trivial)
 refine aG rfl ?_ ?_;refine XZ mZ (ints MsgT.zero.flat) λb4=>?_
 refine EN (AL 9 ?_);refine CE j9 (bN vb vt) (SM [2]) ?_;refine EN (ta 10 rfl (mI MsgT.zero (MsgT.mk 3 0 RowT.zero 0 s.view.epoch vt.ballot BallotT.zero ChangeT.zero ViewT.zero) [(0,[Value.int .i64 3]),(4,[Value.int .i64 s.view.epoch]),(5,ints vt.ballot.flat)] bj bA (g:=MsgT.sg)) ?_);refine AL 12 ?_;refine SW 1 cp aJ ?_;refine EN (DN ?_)
 exact aF
  SB
  (λ_ s=>an [2,0,0] rfl s)
  (tl1 ((b4):(Nat)) trivial)
 exact bM;refine aG rfl ?_ ?_;refine CE j9 (bN vb vt) (SM [1]) ?_;refine EN (cZ [4,11] (by kernel_rfl) rfl (aG rfl ?_ ?_));refine LG 1 Y3 (.int .i64 (s.view.epoch)) ?_ (hc:=by exact λa_=>(cr (s.rep ⟨(a_:Nat×Value).1,(.pointer (some ⟨vb,0,none⟩)),a_.2⟩) 0 rfl (by decide) (be _ rfl)));refine EN (ta 10 rfl (mI MsgT.zero (MsgT.mk 3 0 RowT.zero 0 s.view.epoch vt.ballot BallotT.zero ChangeT.zero ViewT.zero) [(0,[Value.int .i64 3]),(4,[Value.int .i64 s.view.epoch]),(5,ints vt.ballot.flat)] bj bA (g:=MsgT.sg)) ?_);refine AL 11 ?_;refine XZ mZ (ints MsgT.zero.flat) λb4=>?_
 refine EN (AL 12 ?_);refine SW 0 cp aJ ?_;refine EN (DN ?_)
 exact aF
  SB
  (λ_ s=>an [2,1,0] rfl s)
  (tl1 ((b4):(Nat)) trivial)
 refine aG rfl ?_ ?_;refine XZ mZ (ints MsgT.zero.flat) λb4=>?_
 refine EN (AL 4 ?_);refine LG 2 Y3 (.int .i64 (s.view.epoch)) ?_ (hc:=by exact λa_=>(cr (s.rep ⟨(a_:Nat×Value).1,(.pointer (some ⟨vb,0,none⟩)),a_.2⟩) 0 rfl (by decide) (be _ rfl)));refine EN (ta 10 rfl (mI MsgT.zero (MsgT.mk 3 0 RowT.zero 0 s.view.epoch vt.ballot BallotT.zero ChangeT.zero ViewT.zero) [(0,[Value.int .i64 3]),(4,[Value.int .i64 s.view.epoch]),(5,ints vt.ballot.flat)] bj bA (g:=MsgT.sg)) ?_);refine AL 12 ?_;refine SW 0 cp aJ ?_;refine EN (DN ?_)
 exact aF
  SB
  (λ_ s=>an [2,1,0] rfl s)
  (tl1 ((b4):(Nat)) trivial)
 exact bM;refine aG rfl ?_ ?_;refine XZ mZ (ints MsgT.zero.flat) λb4=>?_
 refine EN (cZ [4,9] (by kernel_rfl) rfl (aG rfl ?_ ?_));refine LG 1 Y3 (.int .i64 (s.view.epoch)) ?_ (hc:=by exact λa_=>(cr (s.rep ⟨(a_:Nat×Value).1,(.pointer (some ⟨vb,0,none⟩)),a_.2⟩) 0 rfl (by decide) (be _ rfl)));refine EN (AL 9 ?_);refine CE j9 (bN vb vt) (SM [2]) ?_;refine EN (ta 10 rfl (mI MsgT.zero (MsgT.mk 3 0 RowT.zero 0 s.view.epoch vt.ballot BallotT.zero ChangeT.zero ViewT.zero) [(0,[Value.int .i64 3]),(4,[Value.int .i64 s.view.epoch]),(5,ints vt.ballot.flat)] bj bA (g:=MsgT.sg)) ?_);refine AL 12 ?_;refine SW 1 cp aJ ?_;refine EN (DN ?_)
 exact aF
  SB
  (λ_ s=>an [2,0,0] rfl s)
  (tl1 ((b4):(Nat)) trivial)
 refine aG rfl ?_ ?_;refine CE j9 (bN vb vt) (SM [2]) ?_;refine EN (AL 4 ?_);refine LG 2 Y3 (.int .i64 (s.view.epoch)) ?_ (hc:=by exact λa_=>(cr (s.rep ⟨(a_:Nat×Value).1,(.pointer (some ⟨vb,0,none⟩)),a_.2⟩) 0 rfl (by decide) (be _ rfl)));refine EN (ta 10 rfl (mI MsgT.zero (MsgT.mk 3 0 RowT.zero 0 s.view.epoch vt.ballot BallotT.zero ChangeT.zero ViewT.zero) [(0,[Value.int .i64 3]),(4,[Value.int .i64 s.view.epoch]),(5,ints vt.ballot.flat)] bj bA (g:=MsgT.sg)) ?_);refine AL 12 ?_;refine SW 1 cp aJ ?_;refine EN (DN ?_)
 exact aF
  SB
  (λ_ s=>an [2,0,0] rfl s)
  (tl1 ((b4):(Nat)) trivial)
 exact bM;exact bM;refine aG rfl ?_ ?_;refine XZ mZ (ints MsgT.zero.flat) λb4=>?_
 refine EN (cZ [4,8] (by kernel_rfl) rfl (aG rfl ?_ ?_));refine LG 1 Y3 (.int .i64 (s.view.epoch)) ?_ (hc:=by exact λa_=>(cr (s.rep ⟨(a_:Nat×Value).1,(.pointer (some ⟨vb,0,none⟩)),a_.2⟩) 0 rfl (by decide) (be _ rfl)));refine EN (AL 8 ?_);refine LG 1 qf (.pointer (some ⟨vb,0,none⟩)) ?_ (hc:=by exact λa_=>(cd _ rfl));refine EN (AL 9 ?_);refine CE j9 (bN vb vt) (SM [2]) ?_;refine EN (ta 10 rfl (mI MsgT.zero (MsgT.mk 3 0 RowT.zero 0 s.view.epoch vt.ballot BallotT.zero ChangeT.zero ViewT.zero) [(0,[Value.int .i64 3]),(4,[Value.int .i64 s.view.epoch]),(5,ints vt.ballot.flat)] bj bA (g:=MsgT.sg)) ?_);refine AL 12 ?_;refine SW 1 cp aJ ?_;refine EN (DN ?_)
 exact aF
  SB
  (λ_ s=>an [2,0,0] rfl s)
  (tl1 ((b4):(Nat)) trivial)
 refine aG rfl ?_ ?_;refine LG 1 qf (.pointer (some ⟨vb,0,none⟩)) ?_ (hc:=by exact λa_=>(cd _ rfl));refine EN (cZ [4,9] (by kernel_rfl) rfl (aG rfl ?_ ?_));refine LG 1 Y3 (.int .i64 (s.view.epoch)) ?_ (hc:=by exact λa_=>(cr (s.rep ⟨(a_:Nat×Value).1,(.pointer (some ⟨vb,0,none⟩)),a_.2⟩) 0 rfl (by decide) (be _ rfl)));refine EN (AL 9 ?_);refine CE j9 (bN vb vt) (SM [2]) ?_;refine EN (ta 10 rfl (mI MsgT.zero (MsgT.mk 3 0 RowT.zero 0 s.view.epoch vt.ballot BallotT.zero ChangeT.zero ViewT.zero) [(0,[Value.int .i64 3]),(4,[Value.int .i64 s.view.epoch]),(5,ints vt.ballot.flat)] bj bA (g:=MsgT.sg)) ?_);refine AL 12 ?_;refine SW 1 cp aJ ?_;refine EN (DN ?_)
 exact aF
  SB
  (λ_ s=>an [2,0,0] rfl s)
  (tl1 ((b4):(Nat)) trivial)
 refine aG rfl ?_ ?_;refine CE j9 (bN vb vt) (SM [2]) ?_;refine EN (AL 4 ?_);refine LG 2 Y3 (.int .i64 (s.view.epoch)) ?_ (hc:=by exact λa_=>(cr (s.rep ⟨(a_:Nat×Value).1,(.pointer (some ⟨vb,0,none⟩)),a_.2⟩) 0 rfl (by decide) (be _ rfl)));refine EN (ta 10 rfl (mI MsgT.zero (MsgT.mk 3 0 RowT.zero 0 s.view.epoch vt.ballot BallotT.zero ChangeT.zero ViewT.zero) [(0,[Value.int .i64 3]),(4,[Value.int .i64 s.view.epoch]),(5,ints vt.ballot.flat)] bj bA (g:=MsgT.sg)) ?_);refine AL 12 ?_;refine SW 1 cp aJ ?_;refine EN (DN ?_)
 exact aF
  SB
  (λ_ s=>an [2,0,0] rfl s)
  (tl1 ((b4):(Nat)) trivial)
 exact bM;exact bM;exact bM
theorem tZ{δ:Type}(V:Env δ)(r:Nat)(s:MS δ)(vt:VoteT)(hv:s.vote=some vt)(hpt:vt.putting=true)[OkR V.toDk s]:DT 92 #[.pointer (some ⟨r,0,none⟩), .iface V.T V.ov] T0 [cU V r s] (dA (λ_ H=>H=[cU V r (jJ V.toDk s vt)])):=
 have:OkVt vt:=OkR.vote vt hv
 Leg.Does.ex (λ_ q=>nN hv q) λvb=>zl V r vb s vt hv hpt
theorem sG{δ:Type}(V:Env δ)(r:Nat)(s:MS δ)(from':Int)(m:MsgT)[OkR V.toDk s][OkMg m](hfe:from'=s.id→m.epoch=s.view.epoch)(hk:m.kind=4):TK V r 82 s from' m (px V.toDk s from' m):=pu (by omega) (by
 cases hv:s.vote with
 |none=>exact lc V r s (oA V.toDk from' m) from' m hfe (λe=>by omega) (λe=>by omega) (λ_=>by rw[oA,show(dB s (max s.round m.ballot.round)).vote=none from hv]) (λ_=>hv)
 |some vt=>
  have hov:OkVt vt:=OkR.vote vt hv;have h:=qF V r s vt from' m hfe (.inl hk) hv (λ_ h2=>tZ V r (la (dB s (max s.round m.ballot.round)) (eX vt from' m.ballot m.had m.change).1) (eX vt from' m.ballot m.had m.change).1 rfl (Fx h2))
  rwa [show(λs_:MS δ=>if m.kind=4 then oA V.toDk from' m s_ else kh V.toDk from' m s_)=oA V.toDk from' m from funext λ_=>if_pos hk]at h)
theorem zh{δ:Type}(V:Env δ)(r:Nat)(s:MS δ)(from':Int)(m:MsgT)[OkR V.toDk s][OkMg m](hep:m.epoch=s.view.epoch):
 DT 160 #[(.pointer (some ⟨r,0,none⟩)),(.iface V.T V.ov),(.int .i64 (from')),(.agg (ints m.flat).toArray)] T0 [cU V r s] (dA (λ_ H=>H=[cU V r (nZ V.toDk from' m s)])):=by
 refine BD 57 Tryz.func160 rfl rfl rfl λw0 F hF=>?_
 have hpm:OkMg (lv m.epoch m.ballot (cb s.acc m.epoch m.ballot).1.had (cb s.acc m.epoch m.ballot).1.change):=OkMg.promM m.epoch inferInstance;refine sr λ_ J1=>XY (ints m.flat) λb7=>?_
 refine nx J1 (aa λ_ J2=>e7 (α:=(Nat)) (λb8=>True) (λb8=>[(0,(.pointer (some ⟨r,0,none⟩))),(1,(.iface V.T V.ov)),(2,(.int .i64 (from'))),(7,(.pointer (some ⟨b7,0,none⟩))),(8,(.pointer (some ⟨b8,0,none⟩))),(9,(.bool ((cb s.acc m.epoch m.ballot).2)))]) (λb8=>[cU V r s,ak b7 (ints m.flat) 163,ak b8 (ints ((cb s.acc m.epoch m.ballot).1).flat) 82]) (λb8 hinv=>?_) (λtl2=>?_));have _:=hinv;refine ae J2 (aa λ_ J3=>sr λ_ J4=>PS ?_);refine bh ?_ ?_<;>intro h22;refine PS ?_;refine nx J4 (CN (qx J3 (aa λ_ J5=>aa λ_ J6=>DC mixed (BL 2) (db 0 rfl rfl) ?_)));refine FD 0 1 qo cH ?_;refine ta 1 rfl (aP (vs:=ints (((cb s.acc m.epoch m.ballot).1).vow).flat) rfl kG rfl cH rfl (λ_ h=>h.2.1) (au (((cb s.acc m.epoch m.ballot).1).vow)) (Sz ((cb s.acc m.epoch m.ballot).1) 0 rfl (by decide) (whole (au (((cb s.acc m.epoch m.ballot).1).vow))))) ?_;refine PD 2 ?_;refine PD 3 ?_;refine FD 4 1058 dw fV ?_;refine FD 5 1059 qo cH ?_;refine ta 6 rfl (gx (vs:=ints s.acc.vow.flat) rfl kG rfl cH rfl (λ_ h=>h.2.2.1) (au s.acc.vow) (λa_=>(zM (s.rep a_) 1 rfl (by decide) (Sz ((s.rep a_).acc) 0 rfl (by decide) (whole (au (((s.rep a_).acc).vow))))))) ?_
 refine ta 7 rfl (No (a:=(((cb s.acc m.epoch m.ballot).1).vow).flat) (b:=s.acc.vow.flat) (m:=6) (c:=2) Oe Oc rfl OM (ff (au (((cb s.acc m.epoch m.ballot).1).vow))) (ff (au s.acc.vow)) ⟨jm Jl Jx (ff (au (((cb s.acc m.epoch m.ballot).1).vow))),jm Jl Jx (ff (au s.acc.vow))⟩ (OkAc.vow inferInstance) (OkAc.vow inferInstance) rfl rfl rfl) ?_;refine jA ?_ ?_<;>intro h31;refine DN (ae J6 (CY (aa λ_ J7=>sr λ_ J8=>PS ?_)));refine FA 177 bj aR ?_;refine LU 1 Y3 (eS m rfl) ?_;refine FA 178 bj cH ?_;refine LV 1 kG cH au pm (y:=m.ballot) ?_;refine tp (mI RecT.zero (RecT.mk 3 0 RowT.zero m.epoch m.ballot ChangeT.zero ViewT.zero) [(0,[Value.int .i64 3]),(3,[Value.int .i64 m.epoch]),(4,ints m.ballot.flat)] en fi (g:=RecT.sg)) ?_;refine CE yg (lX V r s (ik m.epoch m.ballot)) ID ?_;refine PS ?_;refine aq ?_ ?_<;>intro h39;refine nx J8 (CY (aj (ag (ag (WK [0] (dV rfl ?_))))));exact MQ (by rw[nZ,if_neg (by rw[h22];decide),if_pos h31,if_pos h39]);refine nx J8 (CN (qx J7 (af (PS ?_))));refine LW 2 qo fV bf ?_;refine PS ?_;refine FA 1058 dw fV ?_
 refine ir (vs:=ints ((cb s.acc m.epoch m.ballot).1).flat) (i:=0) (ab rfl) rfl rfl rfl rfl rfl (by rw[(bf ((cb s.acc m.epoch m.ballot).1))];exact fV) (bw _) rfl rfl (λ_=>LC (da _) (bf _)) (λa_=>(kW ((dN V.toDk s (ik m.epoch m.ballot)).rep a_) 0 rfl (by have h1:=(bf ((cb s.acc m.epoch m.ballot).1));omega) (cC ((bf (((dN V.toDk s (ik m.epoch m.ballot)).rep a_).acc)).trans (bf ((cb s.acc m.epoch m.ballot).1)).symm)))) (nx J5 (af (P3 ?_)));refine FA 177 bj aR ?_;refine LU 1 Y3 (eS m rfl) ?_;refine FA 178 bj cH ?_;refine LV 1 kG cH au pm (y:=m.ballot) ?_;refine FA 3 qo cH ?_;refine LV 2 kG cH au AccT.sp_had (y:=(((cb s.acc m.epoch m.ballot).1).had)) ?_;refine FA 5 qo fT ?_;refine LV 2 n5 fT aN AccT.sp_change (y:=(((cb s.acc m.epoch m.ballot).1).change)) ?_;refine tp (mI MsgT.zero (MsgT.mk 4 0 RowT.zero 0 m.epoch m.ballot (((cb s.acc m.epoch m.ballot).1).had) (((cb s.acc m.epoch m.ballot).1).change) ViewT.zero) [(0,[Value.int .i64 4]),(4,[Value.int .i64 m.epoch]),(5,ints m.ballot.flat),(6,ints (((cb s.acc m.epoch m.ballot).1).had).flat),(7,ints (((cb s.acc m.epoch m.ballot).1).change).flat)] bj bA (g:=MsgT.sg)) ?_
 refine CZ jM (gK V r (vC (dN V.toDk s (ik m.epoch m.ballot)) (cb s.acc m.epoch m.ballot).1) from' (lv m.epoch m.ballot (cb s.acc m.epoch m.ballot).1.had (cb s.acc m.epoch m.ballot).1.change) (λs_=>px V.toDk s_ s_.id (lv m.epoch m.ballot (cb s.acc m.epoch m.ballot).1.had (cb s.acc m.epoch m.ballot).1.change)) (λ_=>sG V r (vC (dN V.toDk s (ik m.epoch m.ballot)) (cb s.acc m.epoch m.ballot).1) (vC (dN V.toDk s (ik m.epoch m.ballot)) (cb s.acc m.epoch m.ballot).1).id (lv m.epoch m.ballot (cb s.acc m.epoch m.ballot).1.had (cb s.acc m.epoch m.ballot).1.change) (λ_=>hep) rfl)) ID λvR=>?_
 refine ax (WK [0] (bC rfl ?_));exact MQ (by rw[nZ,if_neg (by rw[h22];decide),if_pos h31,if_neg h39];rfl);refine DN (ae J6 (CN (qx J5 (af (P3 ?_)))));refine FA 177 bj aR ?_;refine LU 1 Y3 (eS m rfl) ?_;refine FA 178 bj cH ?_;refine LV 1 kG cH au pm (y:=m.ballot) ?_;refine FA 3 qo cH ?_;refine LV 2 kG cH au AccT.sp_had (y:=(((cb s.acc m.epoch m.ballot).1).had)) ?_;refine FA 5 qo fT ?_;refine LV 2 n5 fT aN AccT.sp_change (y:=(((cb s.acc m.epoch m.ballot).1).change)) ?_;refine tp (mI MsgT.zero (MsgT.mk 4 0 RowT.zero 0 m.epoch m.ballot (((cb s.acc m.epoch m.ballot).1).had) (((cb s.acc m.epoch m.ballot).1).change) ViewT.zero) [(0,[Value.int .i64 4]),(4,[Value.int .i64 m.epoch]),(5,ints m.ballot.flat),(6,ints (((cb s.acc m.epoch m.ballot).1).had).flat),(7,ints (((cb s.acc m.epoch m.ballot).1).change).flat)] bj bA (g:=MsgT.sg)) ?_;refine CZ jM (gK V r s from' (lv m.epoch m.ballot (cb s.acc m.epoch m.ballot).1.had (cb s.acc m.epoch m.ballot).1.change) (λs_=>px V.toDk s_ s_.id (lv m.epoch m.ballot (cb s.acc m.epoch m.ballot).1.had (cb s.acc m.epoch m.ballot).1.change)) (λ_=>sG V r s s.id (lv m.epoch m.ballot (cb s.acc m.epoch m.ballot).1.had (cb s.acc m.epoch m.ballot).1.change) (λ_=>hep) rfl)) ID λvR=>?_
 refine ax (WK [0] (bC rfl ?_));exact MQ (by rw[nZ,if_neg (by rw[h22];decide),if_neg h31];rfl);refine PS ?_;refine nx J4 (CY (aj (ag (WK [0] (dV rfl ?_)))));exact MQ (by rw[nZ,if_pos h22]);refine DC mixed (db 1 rfl rfl) (BL 0) ?_;refine PD 0 ?_;refine PD 1 ?_;refine FD 2 1058 dw fV ?_;refine ta 3 rfl (gx (vs:=ints s.acc.flat) rfl qo rfl fV rfl (λ_ h=>h.2.1) (bf s.acc) (λa_=>(zM (s.rep a_) 0 rfl (by decide) (whole (bf ((s.rep a_).acc)))))) ?_;refine FD 4 177 bj aR ?_;refine LR 5 Y3 (eS m rfl) ?_;refine FD 6 178 bj cH ?_;refine ta 7 rfl (aP (vs:=ints m.ballot.flat) rfl kG rfl cH rfl (λ_ h=>h.2.2.1) (au m.ballot) (jE m 0 rfl (by decide) (whole (au m.ballot)))) ?_;refine cZ [8,12] (by kernel_rfl) rfl (aG rfl ?_ ?_);refine CE Hc (oq s.acc m.epoch m.ballot) ID ?_;refine EN (PD 9 ?_);refine PD 10 ?_;refine PD 11 ?_;refine pj ?_ ?_<;>intro h21;refine AL 12 ?_;refine XZ JK (ints AccT.zero.flat) λb8=>?_
 refine EN (AL 13 ?_);refine SW 0 fV bf ?_;refine EN (PD 14 ?_);refine DN ?_
 exact aF
  (aS (aS (aS (aS (aS (bJ rfl (by rw[h21]) SB))))))
  (λ_ s=>an [2,1,0] rfl s)
  (tl2 ((b8):(Nat)) trivial)
 refine AL 12 ?_;refine XZ JK (ints AccT.zero.flat) λb8=>?_
 refine EN (AL 13 ?_);refine SW 0 fV bf ?_;refine EN (PD 14 ?_);refine DN ?_
 exact aF
  (aS (aS (aS (aS (aS (bJ rfl (by rw[h21]) SB))))))
  (λ_ s=>an [2,1,0] rfl s)
  (tl2 ((b8):(Nat)) trivial)
 refine aG rfl ?_ ?_;refine XZ JK (ints AccT.zero.flat) λb8=>?_
 refine EN (AL 8 ?_);refine CE Hc (oq s.acc m.epoch m.ballot) ID ?_;refine EN (PD 9 ?_);refine PD 10 ?_;refine PD 11 ?_;refine pj ?_ ?_<;>intro h21;refine AL 13 ?_;refine SW 0 fV bf ?_;refine EN (PD 14 ?_);refine DN ?_
 exact aF
  (aS (aS (aS (aS (aS (bJ rfl (by rw[h21]) SB))))))
  (λ_ s=>an [2,1,0] rfl s)
  (tl2 ((b8):(Nat)) trivial)
 refine AL 13 ?_;refine SW 0 fV bf ?_;refine EN (PD 14 ?_);refine DN ?_
 exact aF
  (aS (aS (aS (aS (aS (bJ rfl (by rw[h21]) SB))))))
  (λ_ s=>an [2,1,0] rfl s)
  (tl2 ((b8):(Nat)) trivial)
 exact bM
theorem xp{δ:Type}(V:Env δ)(r:Nat)(s:MS δ)(from':Int)(m:MsgT)[OkR V.toDk s][OkMg m](hfe:from'=s.id→m.epoch=s.view.epoch)(hk:m.kind=3):TK V r 82 s from' m (qI V.toDk s from' m):=pu (by omega) (lc V r s (nZ V.toDk from' m) from' m hfe (λ_ hep=>zh V r (dB s (max s.round m.ballot.round)) from' m hep) (λe _=>by omega) (λe=>by omega) (λe=>by omega))
theorem zm{δ:Type}(V:Env δ)(r vb:Nat)(s:MS δ)(vt:VoteT)(hv:s.vote=some vt)(hpt:vt.putting=false)[OkR V.toDk s][OkVt vt]:
 DT 92 #[(.pointer (some ⟨r,0,none⟩)),(.iface V.T V.ov)] T0 [w5 V r s (.pointer (some ⟨vb,0,none⟩)),ak vb (VoteT.cells vt) 207] (dA (λ_ H=>H=[cU V r (lw V.toDk s vt)])):=by
 refine BD 68 Tryz.func92 rfl rfl rfl λw0 F hF=>aa λ_ J1=>e7 (α:=(Nat)) (λb4=>True) (λb4=>[(0,(.pointer (some ⟨r,0,none⟩))),(1,(.iface V.T V.ov)),(4,(.pointer (some ⟨b4,0,none⟩)))]) (λb4=>[w5 V r s (.pointer (some ⟨vb,0,none⟩)),ak vb (VoteT.cells vt) 207,ak b4 (ints (fP s.view.epoch vt.ballot).flat) 163]) (λb4 hinv=>?_) (λtl1=>?_)
 have _:=hinv;refine ae J1 (aa λ_ J2=>sr λ_ J3=>P2 ?_);refine FA 1067 dw nF ?_;refine LG 0 qf (.pointer (some ⟨vb,0,none⟩)) ?_ (hc:=by exact λa_=>(cd _ rfl));refine CE NL (oP vb vt) (SM [1]) ?_;refine bh ?_ ?_<;>intro h22
 · rw[hpt]at h22;cases h22
 refine nx J3 (CN (qx J2 (sr λ_ J4=>cz (H':=cU V r s::[ak b4 (ints (fP s.view.epoch vt.ballot).flat) 163]) (λ_ q=>o7 hv (aD [1,0] rfl q)) (P2 ?_))));refine FA 2 dw bm ?_;refine LZ 0 eO bm ap s.view ?_ (hc:=by exact λ_=>c9 _);refine XZ tj (ints ViewT.zero.flat) λb5=>?_
 refine SW 0 bm ap ?_;refine nx J4 (aa λ_ J5=>sr λ_ J6=>PS ?_);refine nx J6 (av ?_)
 refine bz (α:=(Nat)) (λk=>k≤5) (λk=>[(0,(.pointer (some ⟨r,0,none⟩))),(1,(.iface V.T V.ov)),(4,(.pointer (some ⟨b4,0,none⟩))),(5,(.pointer (some ⟨b5,0,none⟩))),(34,(.int .i64 (((k:Nat):Int))))]) (λk=>[ak b5 (ints s.view.flat) 32,ak b4 (ints (fP s.view.epoch vt.ballot).flat) 163,cU V r (ja V.toDk s (oY s.id (fP s.view.epoch vt.ballot) (λi=>jr s.view ((i:Nat):Int)) k))]) (λk=>5-k) 0
  (aO _) SB
  (λ_ q=>by
  rw[show oY s.id (fP s.view.epoch vt.ballot) (λi=>jr s.view ((i:Nat):Int)) 0=[]from rfl,qP]
  exact an [0,1,0] rfl q) (λk hinv=>?_)
 obtain hk:=hinv;refine sr λ_ J7=>PS ?_
 refine aq ?_ ?_<;>intro h35;refine nx J7 (aa λ_ J8=>CY (qx J8 (aa λ_ J9=>av (sr λ_ J10=>P2 ?_))));refine nx J10 (sr λ_ J11=>P3 ?_);refine FA 0 dw aR ?_;refine LG 2 Y3 (.int .i64 (s.id)) ?_ (hc:=by exact λa_=>(cR _ rfl));refine PS ?_;refine aq ?_ ?_<;>intro h42;refine PS ?_;refine LW 0 eO bm ap ?_;refine PS ?_;refine CE qU (dR s.view ((k:Nat):Int)) ID ?_;refine bh ?_ ?_<;>intro h46;refine PS ?_;refine nx J11 (CY (af (P3 ?_)));refine LW 1 bj cp aJ ?_;refine CZ jM (oW V r s (oY s.id (fP s.view.epoch vt.ballot) (λi=>jr s.view ((i:Nat):Int)) k) ((k:Nat):Int) (fP s.view.epoch vt.ballot) h42) (SM [2]) λvR=>?_
 refine ax (ai (ae J9 (af (AD ?_))));refine PS ?_;refine ax ?_
 exact aM ((k+1):(Nat)) (by omega) (by show 5- (k+1)<5-k;omega)
  SB
  (λ_ q=>by
   rw[jl,if_pos ⟨h42,h46⟩]
   exact an [1,1,0] rfl q)
 refine PS ?_;refine nx J11 (CN (aV (ai (ae J9 (af (AD ?_))))));refine PS ?_;refine ax ?_
 exact aM ((k+1):(Nat)) (by omega) (by show 5- (k+1)<5-k;omega)
  SB
  (λ_ q=>by
   rw[jl,if_neg (λh=>by have:=h.2;rw[h46]at this;cases this)];rw[aL]
   exact an [0,0,0] rfl q)
 refine PS ?_
 iterate 3 refine UF ?_
 refine PS ?_;refine nx J11 (CN (aV (ai (ae J9 (af (AD ?_))))));refine PS ?_;refine ax ?_
 exact aM ((k+1):(Nat)) (by omega) (by show 5- (k+1)<5-k;omega)
  SB
  (λ_ q=>by
   rw[jl,if_neg (λh=>h42 h.1)];rw[aL]
   exact an [0,0,0] rfl q)
 obtain rfl:k=5:=by omega
 refine nx J7 (aa λ_ J12=>CN (aX (aC (aC (bq (ae J5 (aa λ_ J13=>DC mixed (BL 0) (db 2 rfl rfl) ?_)))))));refine LY 0 eO bm ap ?_;refine PD 1 ?_;refine PD 2 ?_;refine FD 3 0 dw aR ?_;refine ta 4 rfl (dz (v:=(.int .i64 ((jq V.toDk s (fP s.view.epoch vt.ballot)).id))) rfl Y3 rfl rfl (λ_ h=>h.2.2.1) (λa_=>(cR _ rfl))) ?_;refine AL 5 ?_;refine CE qU (dR s.view ((jq V.toDk s (fP s.view.epoch vt.ballot)).id)) ID ?_;refine bh ?_ ?_<;>intro h59;refine EN (DN (ae J13 (CY (D1 1 mixed ?_))));refine PD 0 ?_;refine PD 1 ?_;refine PD 2 ?_;refine PD 3 ?_;refine FD 4 0 dw aR ?_;refine LY 6 bj cp aJ ?_;refine AL 5 ?_;refine LG 2 Y3 (.int .i64 ((jq V.toDk s (fP s.view.epoch vt.ballot)).id)) ?_ (hc:=by exact λa_=>(cR _ rfl));refine EN (AL 7 ?_);refine CZ jM (gK V r (jq V.toDk s (fP s.view.epoch vt.ballot)) s.id (fP s.view.epoch vt.ballot) (λs_=>qI V.toDk s_ s_.id (fP s.view.epoch vt.ballot)) (λ_=>xp V r (jq V.toDk s (fP s.view.epoch vt.ballot)) s.id (fP s.view.epoch vt.ballot) (λ_=>rfl) rfl)) (SM [2]) λvR=>?_
 refine EN (DN (WK [0] (bC rfl ?_)));exact MQ (by rw[lw,hY,if_pos (show jr s.view s.id=true from h59),lO,if_pos (show s.id=(jq V.toDk s (fP s.view.epoch vt.ballot)).id from rfl)]<;>rfl);refine EN (DN (ae J13 (CN (aV (WK [2] (bC rfl ?_))))));exact MQ (by rw[lw,hY,if_neg (by rw[show jr s.view s.id=false from h59];decide)]<;>rfl);refine D1 1 mixed ?_;refine PD 0 ?_;refine PD 1 ?_;refine FD 2 2 dw bm ?_;refine FD 3 2 eO aR ?_;refine PD 5 ?_;refine PD 6 ?_;refine FD 7 1067 dw nF ?_;refine cZ [4,8,11] (by kernel_rfl) rfl (aG rfl ?_ ?_);refine LG 0 Y3 (.int .i64 (s.view.epoch)) ?_ (hc:=by exact λa_=>(cr (s.rep ⟨(a_:Nat×Value).1,(.pointer (some ⟨vb,0,none⟩)),a_.2⟩) 0 rfl (by decide) (be _ rfl)));refine EN (cZ [8,11] (by kernel_rfl) rfl (aG rfl ?_ ?_));refine LG 0 qf (.pointer (some ⟨vb,0,none⟩)) ?_ (hc:=by exact λa_=>(cd _ rfl));refine EN (cZ [9,11] (by kernel_rfl) rfl (aG rfl ?_ ?_));refine CE j9 (bN vb vt) (SM [1]) ?_;refine EN (ta 10 rfl (mI MsgT.zero (MsgT.mk 3 0 RowT.zero 0 s.view.epoch vt.ballot BallotT.zero ChangeT.zero ViewT.zero) [(0,[Value.int .i64 3]),(4,[Value.int .i64 s.view.epoch]),(5,ints vt.ballot.flat)] bj bA (g:=MsgT.sg)) ?_);refine AL 11 ?_;refine XZ mZ (ints MsgT.zero.flat) λb4=>?_
 refine EN (AL 12 ?_);refine SW 0 cp aJ ?_;refine EN (DN ?_)
 exact aF
  SB
  (λ_ s=>an [2,1,0] rfl s)
  (tl1 ((b4):(Nat)) trivial)
 refine aG rfl ?_ ?_;refine XZ mZ (ints MsgT.zero.flat) λb4=>?_
 refine EN (AL 9 ?_);refine CE j9 (bN vb vt) (SM [2]) ?_;refine EN (ta 10 rfl (mI MsgT.zero (MsgT.mk 3 0 RowT.zero 0 s.view.epoch vt.ballot BallotT.zero ChangeT.zero ViewT.zero) [(0,[Value.int .i64 3]),(4,[Value.int .i64 s.view.epoch]),(5,ints vt.ballot.flat)] bj bA (g:=MsgT.sg)) ?_);refine AL 12 ?_;refine SW 1 cp aJ ?_;refine EN (DN ?_)
 exact aF
  SB
  (λ_ s=>an [2,0,0] rfl s)
  (tl1 ((b4):(Nat)) trivial)
 exact bM;refine aG rfl ?_ ?_;refine XZ mZ (ints MsgT.zero.flat) λb4=>?_
 refine EN (AL 8 ?_);refine LG 1 qf (.pointer (some ⟨vb,0,none⟩)) ?_ (hc:=by exact λa_=>(cd _ rfl));refine EN (AL 9 ?_);refine CE j9 (bN vb vt) (SM [2]) ?_;refine EN (ta 10 rfl (mI MsgT.zero (MsgT.mk 3 0 RowT.zero 0 s.view.epoch vt.ballot BallotT.zero ChangeT.zero ViewT.zero) [(0,[Value.int .i64 3]),(4,[Value.int .i64 s.view.epoch]),(5,ints vt.ballot.flat)] bj bA (g:=MsgT.sg)) ?_);refine AL 12 ?_;refine SW 1 cp aJ ?_;refine EN (DN ?_)
 exact aF
  SB
  (λ_ s=>an [2,0,0] rfl s)
  (tl1 ((b4):(Nat)) trivial)
 exact bM;refine aG rfl ?_ ?_;refine LG 0 qf (.pointer (some ⟨vb,0,none⟩)) ?_ (hc:=by exact λa_=>(cd _ rfl));refine EN (cZ [4,9,11] (by kernel_rfl) rfl (aG rfl ?_ ?_));refine LG 0 Y3 (.int .i64 (s.view.epoch)) ?_ (hc:=by exact λa_=>(cr (s.rep ⟨(a_:Nat×Value).1,(.pointer (some ⟨vb,0,none⟩)),a_.2⟩) 0 rfl (by decide) (be _ rfl)));refine EN (cZ [9,11] (by kernel_rfl) rfl (aG rfl ?_ ?_));refine CE j9 (bN vb vt) (SM [1]) ?_;refine EN (ta 10 rfl (mI MsgT.zero (MsgT.mk 3 0 RowT.zero 0 s.view.epoch vt.ballot BallotT.zero ChangeT.zero ViewT.zero) [(0,[Value.int .i64 3]),(4,[Value.int .i64 s.view.epoch]),(5,ints vt.ballot.flat)] bj bA (g:=MsgT.sg)) ?_);refine AL 11 ?_;refine XZ mZ (ints MsgT.zero.flat) λb4=>?_
 refine EN (AL 12 ?_);refine SW 0 cp aJ ?_;refine EN (DN ?_)
 exact aF
  SB
  (λ_ s=>an [2,1,0] rfl s)
  (tl1 ((b4):(Nat)) trivial)
 refine aG rfl ?_ ?_;refine XZ mZ (ints MsgT.zero.flat) λb4=>?_
 refine EN (AL 9 ?_);refine CE j9 (bN vb vt) (SM [2]) ?_;refine EN (ta 10 rfl (mI MsgT.zero (MsgT.mk 3 0 RowT.zero 0 s.view.epoch vt.ballot BallotT.zero ChangeT.zero ViewT.zero) [(0,[Value.int .i64 3]),(4,[Value.int .i64 s.view.epoch]),(5,ints vt.ballot.flat)] bj bA (g:=MsgT.sg)) ?_);refine AL 12 ?_;refine SW 1 cp aJ ?_;refine EN (DN ?_)
 exact aF
  SB
  (λ_ s=>an [2,0,0] rfl s)
  (tl1 ((b4):(Nat)) trivial)
 exact bM;refine aG rfl ?_ ?_;refine CE j9 (bN vb vt) (SM [1]) ?_;refine EN (cZ [4,11] (by kernel_rfl) rfl (aG rfl ?_ ?_));refine LG 1 Y3 (.int .i64 (s.view.epoch)) ?_ (hc:=by exact λa_=>(cr (s.rep ⟨(a_:Nat×Value).1,(.pointer (some ⟨vb,0,none⟩)),a_.2⟩) 0 rfl (by decide) (be _ rfl)));refine EN (ta 10 rfl (mI MsgT.zero (MsgT.mk 3 0 RowT.zero 0 s.view.epoch vt.ballot BallotT.zero ChangeT.zero ViewT.zero) [(0,[Value.int .i64 3]),(4,[Value.int .i64 s.view.epoch]),(5,ints vt.ballot.flat)] bj bA (g:=MsgT.sg)) ?_);refine AL 11 ?_;refine XZ mZ (ints MsgT.zero.flat) λb4=>?_
 refine EN (AL 12 ?_);refine SW 0 cp aJ ?_;refine EN (DN ?_)
 exact aF
  SB
  (λ_ s=>an [2,1,0] rfl s)
  (tl1 ((b4):(Nat)) trivial)
 refine aG rfl ?_ ?_;refine XZ mZ (ints MsgT.zero.flat) λb4=>?_
 refine EN (AL 4 ?_);refine LG 2 Y3 (.int .i64 (s.view.epoch)) ?_ (hc:=by exact λa_=>(cr (s.rep ⟨(a_:Nat×Value).1,(.pointer (some ⟨vb,0,none⟩)),a_.2⟩) 0 rfl (by decide) (be _ rfl)));refine EN (ta 10 rfl (mI MsgT.zero (MsgT.mk 3 0 RowT.zero 0 s.view.epoch vt.ballot BallotT.zero ChangeT.zero ViewT.zero) [(0,[Value.int .i64 3]),(4,[Value.int .i64 s.view.epoch]),(5,ints vt.ballot.flat)] bj bA (g:=MsgT.sg)) ?_);refine AL 12 ?_;refine SW 0 cp aJ ?_;refine EN (DN ?_)
 exact aF
  SB
  (λ_ s=>an [2,1,0] rfl s)
  (tl1 ((b4):(Nat)) trivial)
 exact bM;refine aG rfl ?_ ?_;refine XZ mZ (ints MsgT.zero.flat) λb4=>?_
 refine EN (cZ [4,9] (by kernel_rfl) rfl (aG rfl ?_ ?_));refine LG 1 Y3 (.int .i64 (s.view.epoch)) ?_ (hc:=by exact λa_=>(cr (s.rep ⟨(a_:Nat×Value).1,(.pointer (some ⟨vb,0,none⟩)),a_.2⟩) 0 rfl (by decide) (be _ rfl)));refine EN (AL 9 ?_);refine CE j9 (bN vb vt) (SM [2]) ?_;refine EN (ta 10 rfl (mI MsgT.zero (MsgT.mk 3 0 RowT.zero 0 s.view.epoch vt.ballot BallotT.zero ChangeT.zero ViewT.zero) [(0,[Value.int .i64 3]),(4,[Value.int .i64 s.view.epoch]),(5,ints vt.ballot.flat)] bj bA (g:=MsgT.sg)) ?_);refine AL 12 ?_;refine SW 1 cp aJ ?_;refine EN (DN ?_)
 exact aF
  SB
  (λ_ s=>an [2,0,0] rfl s)
  (tl1 ((b4):(Nat)) trivial)
 refine aG rfl ?_ ?_;refine CE j9 (bN vb vt) (SM [2]) ?_;refine EN (AL 4 ?_);refine LG 2 Y3 (.int .i64 (s.view.epoch)) ?_ (hc:=by exact λa_=>(cr (s.rep ⟨(a_:Nat×Value).1,(.pointer (some ⟨vb,0,none⟩)),a_.2⟩) 0 rfl (by decide) (be _ rfl)));refine EN (ta 10 rfl (mI MsgT.zero (MsgT.mk 3 0 RowT.zero 0 s.view.epoch vt.ballot BallotT.zero ChangeT.zero ViewT.zero) [(0,[Value.int .i64 3]),(4,[Value.int .i64 s.view.epoch]),(5,ints vt.ballot.flat)] bj bA (g:=MsgT.sg)) ?_);refine AL 12 ?_;refine SW 1 cp aJ ?_;refine EN (DN ?_)
 exact aF
  SB
  (λ_ s=>an [2,0,0] rfl s)
  (tl1 ((b4):(Nat)) trivial)
 exact bM;exact bM;refine aG rfl ?_ ?_;refine XZ mZ (ints MsgT.zero.flat) λb4=>?_
 refine EN (cZ [4,8] (by kernel_rfl) rfl (aG rfl ?_ ?_));refine LG 1 Y3 (.int .i64 (s.view.epoch)) ?_ (hc:=by exact λa_=>(cr (s.rep ⟨(a_:Nat×Value).1,(.pointer (some ⟨vb,0,none⟩)),a_.2⟩) 0 rfl (by decide) (be _ rfl)));refine EN (AL 8 ?_);refine LG 1 qf (.pointer (some ⟨vb,0,none⟩)) ?_ (hc:=by exact λa_=>(cd _ rfl));refine EN (AL 9 ?_);refine CE j9 (bN vb vt) (SM [2]) ?_;refine EN (ta 10 rfl (mI MsgT.zero (MsgT.mk 3 0 RowT.zero 0 s.view.epoch vt.ballot BallotT.zero ChangeT.zero ViewT.zero) [(0,[Value.int .i64 3]),(4,[Value.int .i64 s.view.epoch]),(5,ints vt.ballot.flat)] bj bA (g:=MsgT.sg)) ?_);refine AL 12 ?_;refine SW 1 cp aJ ?_;refine EN (DN ?_)
 exact aF
  SB
  (λ_ s=>an [2,0,0] rfl s)
  (tl1 ((b4):(Nat)) trivial)
 refine aG rfl ?_ ?_;refine LG 1 qf (.pointer (some ⟨vb,0,none⟩)) ?_ (hc:=by exact λa_=>(cd _ rfl));refine EN (cZ [4,9] (by kernel_rfl) rfl (aG rfl ?_ ?_));refine LG 1 Y3 (.int .i64 (s.view.epoch)) ?_ (hc:=by exact λa_=>(cr (s.rep ⟨(a_:Nat×Value).1,(.pointer (some ⟨vb,0,none⟩)),a_.2⟩) 0 rfl (by decide) (be _ rfl)));refine EN (AL 9 ?_);refine CE j9 (bN vb vt) (SM [2]) ?_;refine EN (ta 10 rfl (mI MsgT.zero (MsgT.mk 3 0 RowT.zero 0 s.view.epoch vt.ballot BallotT.zero ChangeT.zero ViewT.zero) [(0,[Value.int .i64 3]),(4,[Value.int .i64 s.view.epoch]),(5,ints vt.ballot.flat)] bj bA (g:=MsgT.sg)) ?_);refine AL 12 ?_;refine SW 1 cp aJ ?_;refine EN (DN ?_)
 exact aF
  SB
  (λ_ s=>an [2,0,0] rfl s)
  (tl1 ((b4):(Nat)) trivial)
 refine aG rfl ?_ ?_;refine CE j9 (bN vb vt) (SM [2]) ?_;refine EN (AL 4 ?_);refine LG 2 Y3 (.int .i64 (s.view.epoch)) ?_ (hc:=by exact λa_=>(cr (s.rep ⟨(a_:Nat×Value).1,(.pointer (some ⟨vb,0,none⟩)),a_.2⟩) 0 rfl (by decide) (be _ rfl)));refine EN (ta 10 rfl (mI MsgT.zero (MsgT.mk 3 0 RowT.zero 0 s.view.epoch vt.ballot BallotT.zero ChangeT.zero ViewT.zero) [(0,[Value.int .i64 3]),(4,[Value.int .i64 s.view.epoch]),(5,ints vt.ballot.flat)] bj bA (g:=MsgT.sg)) ?_);refine AL 12 ?_;refine SW 1 cp aJ ?_;refine EN (DN ?_)
 exact aF
  SB
  (λ_ s=>an [2,0,0] rfl s)
  (tl1 ((b4):(Nat)) trivial)
 exact bM;exact bM;exact bM
theorem BR{δ:Type}(V:Env δ)(r:Nat)(s:MS δ)(vt:VoteT)(hv:s.vote=some vt)(hpt:vt.putting=false)[OkR V.toDk s]:DT 92 #[.pointer (some ⟨r,0,none⟩), .iface V.T V.ov] T0 [cU V r s] (dA (λ_ H=>H=[cU V r (lw V.toDk s vt)])):=
 have:OkVt vt:=OkR.vote vt hv
 Leg.Does.ex (λ_ q=>nN hv q) λvb=>zm V r vb s vt hv hpt
theorem sL{δ:Type}(V:Env δ)(r:Nat)(s:MS δ)(vt:VoteT)(hv:s.vote=some vt)[OkR V.toDk s]:DT 92 #[.pointer (some ⟨r,0,none⟩), .iface V.T V.ov] T0 [cU V r s] (dA (λ_ H=>H=[cU V r (lP V.toDk s vt)])):=by
 cases hp:vt.putting with
 |true=>rw[lP,if_pos hp];exact tZ V r s vt hv hp
 |false=>rw[lP,if_neg (by rw[hp];decide)];exact BR V r s vt hv hp
theorem Bu{δ:Type}(V:Env δ)(r:Nat)(s:MS δ)(from':Int)(m:MsgT)[OkR V.toDk s][OkMg m](hto:from'≠s.id)(hrs:s.replies.length≤1000000):TK V r 82 s from' m (fS V.toDk s from' m):=by
 have hfe:from'=s.id→m.epoch=s.view.epoch:=λe=>absurd e hto
 by_cases h3:m.kind=3
 · rw[fS];simp only[h3];exact xp V r s from' m hfe h3
 by_cases h4:m.kind=4
 · rw[fS];simp only[h4];exact sG V r s from' m hfe h4
 by_cases h5:m.kind=5
 · rw[fS];simp only[h5];exact xo V r s from' m hfe h5
 by_cases h6:m.kind=6
 · rw[fS];simp only[h6];exact sF V r s from' m hfe h6
 refine pv V r s _ from' m (λh=>?_) (λh=>?_) (λh=>?_) (λh=>?_) (λh=>?_) (λh=>?_) (λh=>by omega) (λh=>?_)
 · rw[fS,if_pos h];exact zf V r s from' m hto
 · rw[fS,if_neg (by omega),if_pos h];exact xn V r s from' m hrs
 · rw[fS,if_neg (by omega),if_neg (by omega),if_pos h]
 · rw[fS,if_neg (by omega),if_neg (by omega),if_neg (by omega),if_pos h];exact wc V r s m.view
 · rw[fS,if_neg (by omega),if_neg (by omega),if_neg (by omega),if_neg (by omega),if_pos h];exact xm V r s from' m
 · rw[fS,if_neg (by omega),if_neg (by omega),if_neg (by omega),if_neg (by omega),if_neg (by omega),if_pos h];exact oU V r s from' m
 · rw[fS,if_neg h.1,if_neg h.2.1,if_neg h.2.2.1,if_neg h.2.2.2.1,if_neg h.2.2.2.2.1,if_neg h.2.2.2.2.2.1,if_neg h3,if_neg h4,if_neg h5,if_neg h6]
theorem rk{δ:Type}(V:Env δ)(r:Nat)(s:MS δ)(c:ChangeT)[OkR V.toDk s][OkCh c]:
 DT 91 #[(.pointer (some ⟨r,0,none⟩)),(.agg (ints c.flat).toArray)] T0 [cU V r s] (RI (.int .i64 (bW V.toDk s c).2) [cU V r (bW V.toDk s c).1]):=by
 refine BD 66 Tryz.func91 rfl rfl rfl λw0 F hF=>sr λ_ J1=>XY (ints c.flat) λb3=>?_
 refine PS ?_;refine nx J1 (aa λ_ J2=>e7 (α:=(Nat)) (λb5=>True) (λb5=>[(0,(.pointer (some ⟨r,0,none⟩))),(3,(.pointer (some ⟨b3,0,none⟩))),(4,(.int .i64 0)),(5,(.pointer (some ⟨b5,0,none⟩)))]) (λb5=>[cU V r s,ak b3 (ints c.flat) 61,ak b5 (ints (eI s).flat) 80]) (λb5 hinv=>?_) (λtl2=>?_));have _:=hinv;refine ae J2 (aa λ_ J3=>e7 (α:=(Nat)) (λb6=>True) (λb6=>[(0,(.pointer (some ⟨r,0,none⟩))),(3,(.pointer (some ⟨b3,0,none⟩))),(4,(.int .i64 0)),(5,(.pointer (some ⟨b5,0,none⟩))),(6,(.pointer (some ⟨b6,0,none⟩))),(7,(.bool ((cb s.acc s.view.epoch (eI s)).2)))]) (λb6=>[cU V r s,ak b3 (ints c.flat) 61,ak b5 (ints (eI s).flat) 80,ak b6 (ints ((cb s.acc s.view.epoch (eI s)).1).flat) 82]) (λb6 hinv=>?_) (λtl3=>?_));have _:=hinv;refine ae J3 (aa λ_ J4=>sr λ_ J5=>PS ?_);refine bh ?_ ?_<;>intro h33;refine PS ?_;refine nx J5 (CN (qx J4 (aa λ_ J6=>aa λ_ J7=>DC mixed (db 0 rfl rfl) (BL 2) ?_)));refine PD 0 ?_;refine PD 1 ?_;refine PD 2 ?_;refine FD 3 2 dw bm ?_;refine FD 4 2 eO aR ?_;refine ta 5 rfl (dz (v:=(.int .i64 (s.view.epoch))) rfl Y3 rfl rfl (λ_ h=>h.2.1) (λa_=>(cr (s.rep a_) 0 rfl (by decide) (be _ rfl)))) ?_;refine LY 6 kG cH au ?_;refine ta 7 rfl (mI RecT.zero (RecT.mk 3 0 RowT.zero s.view.epoch (eI s) ChangeT.zero ViewT.zero) [(0,[Value.int .i64 3]),(3,[Value.int .i64 s.view.epoch]),(4,ints (eI s).flat)] en fi (g:=RecT.sg)) ?_
 refine AL 8 ?_;refine CE yg (lX V r s (ik s.view.epoch (eI s))) ID ?_;refine EN (PD 9 ?_);refine DN (ae J7 (sr λ_ J8=>P2 ?_));refine aq ?_ ?_<;>intro h45;refine nx J8 (CY (sr λ_ J9=>P2 ?_));refine nx J9 (aj (ag (WK [0] (aw rfl rfl ?_))));have e:bW V.toDk s c=(dN V.toDk s (ik s.view.epoch (eI s)),tY V.toDk s (ik s.view.epoch (eI s))):=by rw[bW,if_neg (by rw[h33];decide),if_pos h45]
 exact j8 e;refine Sf (H':=λvo:Value=>w5 V r (dN V.toDk s (ik s.view.epoch (eI s))) vo::[ak b3 (ints c.flat) 61,ak b5 (ints (eI s).flat) 80,ak b6 (ints ((cb s.acc s.view.epoch (eI s)).1).flat) 82]) (λ_ q=>Hi q) (λvo=>nx J8 (CN (qx J6 (aa λ_ J10=>D2 3 2 mixed ?_))));refine PD 0 ?_;refine PD 1 ?_;refine LY 2 qo fV bf ?_;refine FD 3 0 kG aR ?_;refine LX 4 Y3 (.int .i64 ((eI s).round)) ?_ (hc:=by exact fo _ rfl);refine PD 5 ?_;refine FD 6 1058 dw fV ?_;refine AL 7 ?_;refine ir (vs:=ints ((cb s.acc s.view.epoch (eI s)).1).flat) (i:=0) (ab rfl) rfl rfl rfl rfl rfl (by rw[(bf ((cb s.acc s.view.epoch (eI s)).1))];exact fV) (bw _) rfl rfl (λ_=>LC (da _) (bf _)) (λa_=>(kW ((dN V.toDk s (ik s.view.epoch (eI s))).rep ⟨(a_:Nat×Value).1,vo,a_.2⟩) 0 rfl (by have h1:=(bf ((cb s.acc s.view.epoch (eI s)).1));omega) (cC ((bf (((dN V.toDk s (ik s.view.epoch (eI s))).rep ⟨(a_:Nat×Value).1,vo,a_.2⟩).acc)).trans (bf ((cb s.acc s.view.epoch (eI s)).1)).symm)))) (EN (PD 8 ?_));refine FD 9 1066 dw aR ?_;refine AL 10 ?_;refine SK 0 aR (λ_=>da _) ?_ (hc:=by exact λa_=>(mz _ rfl _));refine EN (DN (ae J10 (aa λ_ J11=>D2 2 1 mixed ?_)));refine PD 0 ?_;refine PD 1 ?_;refine PD 2 ?_;refine FD 3 2 dw bm ?_;refine LY 5 kG cH au ?_;refine LY 6 n5 fT aN ?_;refine AL 4 ?_;refine LZ 0 eO bm ap s.view ?_ (hc:=by exact λ_=>c9 _);refine EN (AL 7 ?_);refine CR Qb (Bm s.view (eI s) c) ID λvR HR hR=>?_
 obtain⟨vb,rfl,rfl⟩:=hR;refine EN (PD 8 ?_);refine FD 9 1067 dw nF ?_;refine AL 10 ?_;refine SK 1 nF (λ_=>da _) ?_ (hc:=by exact λa_=>(R3 _ rfl _));refine EN (DN (ae J11 (sr λ_ J12=>PS ?_)));refine nx J12 (aj (aF (H':=[cU V r (nY V.toDk s c)]) (dH _) (λ_ q=>o6 (an [1,0] rfl q)) (aw rfl rfl ?_)));have e:bW V.toDk s c=(nY V.toDk s c,0):=by rw[bW,if_neg (by rw[h33];decide),if_neg h45]
 exact j8 e;refine PS ?_;refine nx J5 (CY (sr λ_ J13=>PS ?_));refine nx J13 (aj (ag (WK [0] (aw rfl rfl ?_))));have e:bW V.toDk s c=(s,6):=if_pos h33;exact j8 e;refine DC mixed (db 0 rfl rfl) (BL 2) ?_;refine PD 0 ?_;refine PD 1 ?_;refine FD 2 1058 dw fV ?_;refine ta 3 rfl (gx (vs:=ints s.acc.flat) rfl qo rfl fV rfl (λ_ h=>h.2.1) (bf s.acc) (λa_=>(zM (s.rep a_) 0 rfl (by decide) (whole (bf ((s.rep a_).acc)))))) ?_;refine PD 4 ?_;refine PD 5 ?_;refine FD 6 2 dw bm ?_;refine FD 7 2 eO aR ?_;refine ta 8 rfl (dz (v:=(.int .i64 (s.view.epoch))) rfl Y3 rfl rfl (λ_ h=>h.2.1) (λa_=>(cr (s.rep a_) 0 rfl (by decide) (be _ rfl)))) ?_;refine LY 9 kG cH au ?_;refine cZ [10,14] (by kernel_rfl) rfl (aG rfl ?_ ?_);refine CE Hc (oq s.acc s.view.epoch (eI s)) ID ?_;refine EN (PD 11 ?_);refine PD 12 ?_;refine PD 13 ?_;refine pj ?_ ?_<;>intro h32;refine AL 14 ?_;refine XZ JK (ints AccT.zero.flat) λb6=>?_
 refine EN (AL 15 ?_);refine SW 0 fV bf ?_;refine EN (PD 16 ?_);refine DN ?_
 exact aF
  (aS (aS (aS (aS (aS (bJ rfl (by rw[h32]) SB))))))
  (λ_ s=>an [1,1,1,0] rfl s)
  (tl3 ((b6):(Nat)) trivial)
 refine AL 14 ?_;refine XZ JK (ints AccT.zero.flat) λb6=>?_
 refine EN (AL 15 ?_);refine SW 0 fV bf ?_;refine EN (PD 16 ?_);refine DN ?_
 exact aF
  (aS (aS (aS (aS (aS (bJ rfl (by rw[h32]) SB))))))
  (λ_ s=>an [1,1,1,0] rfl s)
  (tl3 ((b6):(Nat)) trivial)
 refine aG rfl ?_ ?_;refine XZ JK (ints AccT.zero.flat) λb6=>?_
 refine EN (AL 10 ?_);refine CE Hc (oq s.acc s.view.epoch (eI s)) ID ?_;refine EN (PD 11 ?_);refine PD 12 ?_;refine PD 13 ?_;refine pj ?_ ?_<;>intro h32;refine AL 15 ?_;refine SW 0 fV bf ?_;refine EN (PD 16 ?_);refine DN ?_
 exact aF
  (aS (aS (aS (aS (aS (bJ rfl (by rw[h32]) SB))))))
  (λ_ s=>an [1,1,1,0] rfl s)
  (tl3 ((b6):(Nat)) trivial)
 refine AL 15 ?_;refine SW 0 fV bf ?_;refine EN (PD 16 ?_);refine DN ?_
 exact aF
  (aS (aS (aS (aS (aS (bJ rfl (by rw[h32]) SB))))))
  (λ_ s=>an [1,1,1,0] rfl s)
  (tl3 ((b6):(Nat)) trivial)
 exact bM;refine DB mixed (db 1 rfl rfl) ?_;refine PD 0 ?_;refine PD 1 ?_;refine FD 2 1066 dw aR ?_;refine ta 3 rfl (dz (v:=(.int .i64 (s.round))) rfl Y3 rfl rfl (λ_ h=>h.2.1) (λa_=>(wJ _ rfl))) ?_;refine ta 4 rfl (cN (r:=(fR (s.round+1))) rfl rfl rfl rfl) ?_;refine PD 5 ?_;refine PD 6 ?_;refine FD 7 0 dw aR ?_;refine ta 8 rfl (dz (v:=(.int .i64 (s.id))) rfl Y3 rfl rfl (λ_ h=>h.2.1) (λa_=>(cR _ rfl))) ?_;refine ta 9 rfl (mI BallotT.zero (BallotT.mk (fR (s.round+1)) s.id) [(0,[Value.int .i64 (fR (s.round+1))]),(1,[Value.int .i64 s.id])] kG Q2 (g:=BallotT.sg)) ?_;refine AL 10 ?_;refine XZ Q6 (ints BallotT.zero.flat) λb5=>?_
 refine EN (AL 11 ?_);refine SW 0 cH au ?_;refine EN (DN ?_)
 exact aF
  SB
  (λ_ s=>an [2,1,0] rfl s)
  (tl2 ((b5):(Nat)) trivial)
theorem Cs{δ:Type}(V:Env δ)(r:Nat)(s:MS δ)(op:Int)(c:ChangeT)[OkR V.toDk s][OkCh c](hrs:s.replies.length≤1000000)(hv:s.vote=none):
 DT 72 #[(.pointer (some ⟨r,0,none⟩)),(.iface V.T V.ov),(.int .i64 (op)),(.agg (ints c.flat).toArray)] T0 [cU V r s] (RI (.int .i64 (dD V.toDk s op c).2) [cU V r (dD V.toDk s op c).1]):=by
 refine BD 44 Tryz.func72 rfl rfl rfl λw0 F hF=>sr λ_ J1=>XY (ints c.flat) λb7=>?_
 refine PS ?_;refine nx J1 (aa λ_ J2=>e7 (α:=Unit) (λ_u=>True) (λ_u=>[(0,(.pointer (some ⟨r,0,none⟩))),(1,(.iface V.T V.ov)),(2,(.int .i64 (op))),(7,(.pointer (some ⟨b7,0,none⟩))),(8,(.int .i64 0)),(10,(.int .i64 ((dW s.view c).2)))]) (λ_u=>[cU V r s,ak b7 (ints c.flat) 61]) (λ_u hinv=>?_) (λtl2=>?_));have _:=hinv;refine ae J2 (aa λ_ J3=>sr λ_ J4=>cz (H':=w5 V r s (.pointer none)::[ak b7 (ints c.flat) 61]) (λ_ q=>ui hv q) (P2 ?_));refine aq ?_ ?_<;>intro h21;refine P3 ?_;refine FA 1067 dw nF ?_;refine LG 0 qf (.pointer none) ?_ (hc:=by exact λa_=>(cd _ rfl));refine tq (jD rfl qf rfl rfl) ?_;refine PS ?_;refine nx J4 (CN (qx J3 (aa λ_ J5=>sr λ_ J6=>cz (H':=cU V r s::[ak b7 (ints c.flat) 61]) (λ_ q=>o8 hv (aD [0] rfl q)) (P2 ?_))));refine aq ?_ ?_<;>intro h30;refine nx J6 (CY (af (PS ?_)));refine LW 1 n5 fT aN ?_;refine CE On (rk V r s c) ID ?_;refine PS ?_;refine nx J5 (sr λ_ J7=>P3 ?_);refine CZ vg (fe V r ((bW V.toDk s c).1) op ((bW V.toDk s c).2) 0 (by first|exact hrs| (rw[jo];exact hrs))) ID λvR=>?_
 refine nx J7 (aa λ_ J8=>sr λ_ J9=>P2 ?_);refine aq ?_ ?_<;>intro h39;refine nx J9 (CY (af (P2 ?_)));refine CZ MH (sL V r (dp ((bW V.toDk s c).1) op ((bW V.toDk s c).2) 0) (jv s.view (eI s) c) (sZ h39)) ID λvR=>?_
 refine nx J8 (sr λ_ J10=>P2 ?_);refine nx J10 (aj (WK [0] (aw rfl rfl ?_)));have e:dD V.toDk s op c=((lP V.toDk (dp ((bW V.toDk s c).1) op ((bW V.toDk s c).2) 0) (jv s.view (eI s) c)),(bW V.toDk s c).2):=by rw[dD,show fI s c=(dW s.view c).2 by rw[fI,if_neg (λh=>by rw[hv]at h;exact absurd h.2 (by decide))],if_neg (by rw[h30];decide),if_neg (by rw[h39];decide),h39]
 exact j8 e;refine nx J9 (CN (qx J8 (sr λ_ J11=>P2 ?_)));refine nx J11 (aj (WK [0] (aw rfl rfl ?_)));have e:dD V.toDk s op c=((dp ((bW V.toDk s c).1) op ((bW V.toDk s c).2) 0),(bW V.toDk s c).2):=by rw[dD,show fI s c=(dW s.view c).2 by rw[fI,if_neg (λh=>by rw[hv]at h;exact absurd h.2 (by decide))],if_neg (by rw[h30];decide),if_pos h39]
 exact j8 e;refine nx J6 (CN (qx J5 (sr λ_ J12=>P3 ?_)));refine CZ vg (fe V r s op ((dW s.view c).2) 0 (by first|exact hrs| (rw[jo];exact hrs))) ID λvR=>?_
 refine nx J12 (aa λ_ J13=>sr λ_ J14=>P2 ?_);refine aq ?_ ?_<;>intro h39
 · exact absurd h39 h30
 refine nx J14 (CN (qx J13 (sr λ_ J15=>P2 ?_)));refine nx J15 (aj (WK [0] (aw rfl rfl ?_)));have e:dD V.toDk s op c=((dp s op ((dW s.view c).2) 0),(dW s.view c).2):=by rw[dD,show fI s c=(dW s.view c).2 by rw[fI,if_neg (λh=>h30 h.1)]];exact if_pos (by exact h30)
 exact j8 e;refine PS ?_
 iterate 5 refine UF ?_
 refine PS ?_;refine nx J4 (CN (qx J3 (aa λ_ J16=>sr λ_ J17=>cz (H':=cU V r s::[ak b7 (ints c.flat) 61]) (λ_ q=>o8 hv (aD [0] rfl q)) (P2 ?_))));refine aq ?_ ?_<;>intro h30;refine nx J17 (CY (af (PS ?_)));refine LW 1 n5 fT aN ?_;refine CE On (rk V r s c) ID ?_;refine PS ?_;refine nx J16 (sr λ_ J18=>P3 ?_);refine CZ vg (fe V r ((bW V.toDk s c).1) op ((bW V.toDk s c).2) 0 (by first|exact hrs| (rw[jo];exact hrs))) ID λvR=>?_
 refine nx J18 (aa λ_ J19=>sr λ_ J20=>P2 ?_);refine aq ?_ ?_<;>intro h39;refine nx J20 (CY (af (P2 ?_)));refine CZ MH (sL V r (dp ((bW V.toDk s c).1) op ((bW V.toDk s c).2) 0) (jv s.view (eI s) c) (sZ h39)) ID λvR=>?_
 refine nx J19 (sr λ_ J21=>P2 ?_);refine nx J21 (aj (WK [0] (aw rfl rfl ?_)));have e:dD V.toDk s op c=((lP V.toDk (dp ((bW V.toDk s c).1) op ((bW V.toDk s c).2) 0) (jv s.view (eI s) c)),(bW V.toDk s c).2):=by rw[dD,show fI s c=(dW s.view c).2 by rw[fI,if_neg (λh=>by rw[hv]at h;exact absurd h.2 (by decide))],if_neg (by rw[h30];decide),if_neg (by rw[h39];decide),h39]
 exact j8 e;refine nx J20 (CN (qx J19 (sr λ_ J22=>P2 ?_)));refine nx J22 (aj (WK [0] (aw rfl rfl ?_)));have e:dD V.toDk s op c=((dp ((bW V.toDk s c).1) op ((bW V.toDk s c).2) 0),(bW V.toDk s c).2):=by rw[dD,show fI s c=(dW s.view c).2 by rw[fI,if_neg (λh=>by rw[hv]at h;exact absurd h.2 (by decide))],if_neg (by rw[h30];decide),if_pos h39]
 exact j8 e;refine nx J17 (CN (qx J16 (sr λ_ J23=>P3 ?_)));refine CZ vg (fe V r s op ((dW s.view c).2) 0 (by first|exact hrs| (rw[jo];exact hrs))) ID λvR=>?_
 refine nx J23 (aa λ_ J24=>sr λ_ J25=>P2 ?_);refine aq ?_ ?_<;>intro h39
 · exact absurd h39 h30
 refine nx J25 (CN (qx J24 (sr λ_ J26=>P2 ?_)));refine nx J26 (aj (WK [0] (aw rfl rfl ?_)));have e:dD V.toDk s op c=((dp s op ((dW s.view c).2) 0),(dW s.view c).2):=by rw[dD,show fI s c=(dW s.view c).2 by rw[fI,if_neg (λh=>h30 h.1)]];exact if_pos (by exact h30)
 exact j8 e;refine DC mixed (db 1 rfl rfl) (BL 0) ?_;refine PD 0 ?_;refine PD 1 ?_;refine FD 2 2 dw bm ?_;refine ta 3 rfl (gx (vs:=ints s.view.flat) rfl eO rfl bm rfl (λ_ h=>h.2.1) (ap s.view) (λa_=>(gn (s.rep a_) 0 rfl (by decide) (whole (ap ((s.rep a_).view)))))) ?_;refine LY 4 n5 fT aN ?_;refine cZ [5,9] (by kernel_rfl) rfl (aG rfl ?_ ?_);refine CE nL (dG s.view c OkVw.rng) ID ?_;refine EN (PD 6 ?_);refine PD 7 ?_;refine PD 8 ?_;refine AL 9 ?_;refine XZ tj (ints ViewT.zero.flat) λb9=>?_
 refine EN (AL 10 ?_);refine SW 0 bm ap ?_;refine EN (PD 11 ?_);refine DN ?_
 exact aF
  SB
  (λ_ s=>an [2,1] rfl s)
  (tl2 (():Unit) trivial)
 refine aG rfl ?_ ?_;refine XZ tj (ints ViewT.zero.flat) λb9=>?_
 refine EN (AL 5 ?_);refine CE nL (dG s.view c OkVw.rng) ID ?_;refine EN (PD 6 ?_);refine PD 7 ?_;refine PD 8 ?_;refine AL 10 ?_;refine SW 0 bm ap ?_;refine EN (PD 11 ?_);refine DN ?_
 exact aF
  SB
  (λ_ s=>an [2,1] rfl s)
  (tl2 (():Unit) trivial)
 exact bM
theorem Cr{δ:Type}(V:Env δ)(r:Nat)(s:MS δ)(vt:VoteT)(op:Int)(c:ChangeT)[OkR V.toDk s][OkCh c](hrs:s.replies.length≤1000000)(hv:s.vote=some vt):
 DT 72 #[(.pointer (some ⟨r,0,none⟩)),(.iface V.T V.ov),(.int .i64 (op)),(.agg (ints c.flat).toArray)] T0 [cU V r s] (RI (.int .i64 (dD V.toDk s op c).2) [cU V r (dD V.toDk s op c).1]):=by
 refine BD 44 Tryz.func72 rfl rfl rfl λw0 F hF=>sr λ_ J1=>XY (ints c.flat) λb7=>?_
 refine PS ?_;refine nx J1 (aa λ_ J2=>e7 (α:=Unit) (λ_u=>True) (λ_u=>[(0,(.pointer (some ⟨r,0,none⟩))),(1,(.iface V.T V.ov)),(2,(.int .i64 (op))),(7,(.pointer (some ⟨b7,0,none⟩))),(8,(.int .i64 0)),(10,(.int .i64 ((dW s.view c).2)))]) (λ_u=>[cU V r s,ak b7 (ints c.flat) 61]) (λ_u hinv=>?_) (λtl2=>?_));have _:=hinv;refine ae J2 (aa λ_ J3=>sr λ_ J4=>Sf (H':=λvb:Nat=>w5 V r s (.pointer (some ⟨vb,0,none⟩))::ak vb (VoteT.cells vt) 207::[ak b7 (ints c.flat) 61]) (λ_ q=>nN hv q) (λvb=>P2 ?_));refine aq ?_ ?_<;>intro h21;refine P3 ?_;refine FA 1067 dw nF ?_;refine LG 0 qf (.pointer (some ⟨vb,0,none⟩)) ?_ (hc:=by exact λa_=>(cd _ rfl));refine tq (jU rfl qf rfl rfl) ?_;refine PS ?_;refine nx J4 (CY (af (cz (H':=cU V r s::[ak b7 (ints c.flat) 61]) (λ_ q=>o7 hv (aD [0,0] rfl q)) (PS ?_))));refine nx J3 (aa λ_ J5=>sr λ_ J6=>P2 ?_);refine nx J6 (CN (qx J5 (sr λ_ J7=>P3 ?_)));refine CZ vg (fe V r s op 8 0 (by first|exact hrs| (rw[jo];exact hrs))) ID λvR=>?_
 refine nx J7 (aa λ_ J8=>sr λ_ J9=>P2 ?_);refine nx J9 (CN (qx J8 (sr λ_ J10=>P2 ?_)));refine nx J10 (aj (WK [0] (aw rfl rfl ?_)));have e:dD V.toDk s op c=((dp s op 8 0),8):=by rw[dD,show fI s c=8 by rw[fI,if_pos ⟨h21,by rw[hv];rfl⟩]];exact if_pos (by decide)
 exact j8 e;refine PS ?_
 iterate 5 refine UF ?_
 refine PS ?_;refine nx J4 (CN (qx J3 (aa λ_ J11=>sr λ_ J12=>cz (H':=cU V r s::[ak b7 (ints c.flat) 61]) (λ_ q=>o7 hv (aD [0,0] rfl q)) (P2 ?_))));refine aq ?_ ?_<;>intro h30
 · exact absurd h30 (by first|decide|exact h21)
 refine nx J12 (CN (qx J11 (sr λ_ J13=>P3 ?_)));refine CZ vg (fe V r s op ((dW s.view c).2) 0 (by first|exact hrs| (rw[jo];exact hrs))) ID λvR=>?_
 refine nx J13 (aa λ_ J14=>sr λ_ J15=>P2 ?_);refine aq ?_ ?_<;>intro h39
 · exact absurd h39 (by first|decide|exact h30)
 refine nx J15 (CN (qx J14 (sr λ_ J16=>P2 ?_)));refine nx J16 (aj (WK [0] (aw rfl rfl ?_)));have e:dD V.toDk s op c=((dp s op ((dW s.view c).2) 0),(dW s.view c).2):=by rw[dD,show fI s c=(dW s.view c).2 by rw[fI,if_neg (λh=>h30 h.1)]];exact if_pos (by exact h30)
 exact j8 e;refine DC mixed (db 1 rfl rfl) (BL 0) ?_;refine PD 0 ?_;refine PD 1 ?_;refine FD 2 2 dw bm ?_;refine ta 3 rfl (gx (vs:=ints s.view.flat) rfl eO rfl bm rfl (λ_ h=>h.2.1) (ap s.view) (λa_=>(gn (s.rep a_) 0 rfl (by decide) (whole (ap ((s.rep a_).view)))))) ?_;refine LY 4 n5 fT aN ?_;refine cZ [5,9] (by kernel_rfl) rfl (aG rfl ?_ ?_);refine CE nL (dG s.view c OkVw.rng) ID ?_;refine EN (PD 6 ?_);refine PD 7 ?_;refine PD 8 ?_;refine AL 9 ?_;refine XZ tj (ints ViewT.zero.flat) λb9=>?_
 refine EN (AL 10 ?_);refine SW 0 bm ap ?_;refine EN (PD 11 ?_);refine DN ?_
 exact aF
  SB
  (λ_ s=>an [2,1] rfl s)
  (tl2 (():Unit) trivial)
 refine aG rfl ?_ ?_;refine XZ tj (ints ViewT.zero.flat) λb9=>?_
 refine EN (AL 5 ?_);refine CE nL (dG s.view c OkVw.rng) ID ?_;refine EN (PD 6 ?_);refine PD 7 ?_;refine PD 8 ?_;refine AL 10 ?_;refine SW 0 bm ap ?_;refine EN (PD 11 ?_);refine DN ?_
 exact aF
  SB
  (λ_ s=>an [2,1] rfl s)
  (tl2 (():Unit) trivial)
 exact bM
theorem Cq{δ:Type}(V:Env δ)(r:Nat)(s:MS δ)(op:Int)(c:ChangeT)[OkR V.toDk s][OkCh c](hrs:s.replies.length≤1000000):DT 72 #[.pointer (some ⟨r,0,none⟩), .iface V.T V.ov, .int .i64 op, .agg (ints c.flat).toArray] T0 [cU V r s] (RI (.int .i64 (dD V.toDk s op c).2) [cU V r (dD V.toDk s op c).1]):=by
 cases hv:s.vote with
 |none=>exact Cs V r s op c hrs hv
 |some vt=>exact Cr V r s vt op c hrs hv
theorem x8{δ:Type}(V:Env δ)(r:Nat)(s:MS δ)(o:OpT):DT 73 #[.pointer (some ⟨r,0,none⟩), .agg (ints o.flat).toArray] T0 [cU V r s] (RI (.tuple #[.agg (ints (cS s o).1.flat).toArray, .int .i64 (cS s o).2.1, .int .i64 (cS s o).2.2]) [cU V r s]):=Leg.Does.hid (λa=>IH r (s.rep a) o)
theorem Cn{δ:Type}(V:Env δ)(r:Nat)(s:MS δ)(o:OpT)[OkR V.toDk s][OkCh o.change](hrs:s.replies.length≤1000000):
 DT 45 #[(.pointer (some ⟨r,0,none⟩)),(.iface V.T V.ov),(.agg (ints o.flat).toArray)] T0 [cU V r s] (RI (.int .i64 (bL V.toDk s o).2) [cU V r (bL V.toDk s o).1]):=by
 refine BD 74 Tryz.func45 rfl rfl rfl λw0 F hF=>sr λ_ J1=>XY (ints o.flat) λb5=>?_
 refine PS ?_;refine nx J1 (sr λ_ J2=>P2 ?_);refine FA 1941 dw aR ?_;refine LG 1 Y3 (.int .i64 (s.ops)) ?_ (hc:=by exact λa_=>(RepT.at_ops _ rfl));refine tp (cN (r:=(fR (s.ops+1))) rfl rfl rfl rfl) ?_;refine PS ?_;refine FA 1941 dw aR ?_;refine SK 1 aR (λ_=>da _) ?_ (hc:=by exact λa_=>(RepT.set_ops _ rfl _));refine nx J2 (sr λ_ J3=>P2 ?_);refine FA 1941 dw aR ?_;refine LG 1 Y3 (.int .i64 ((bo s).ops)) ?_ (hc:=by exact λa_=>(RepT.at_ops _ rfl));refine PS ?_;refine nx J3 (aa λ_ J4=>aa λ_ J5=>DC mixed (db 1 rfl rfl) (BL 0) ?_);refine PD 0 ?_;refine PD 1 ?_;refine FD 2 2 dw bm ?_;refine ta 3 rfl (gx (vs:=ints ((bo s).view).flat) rfl eO rfl bm rfl (λ_ h=>h.2.1) (ap ((bo s).view)) (λa_=>(gn ((bo s).rep a_) 0 rfl (by decide) (whole (ap (((bo s).rep a_).view)))))) ?_;refine PD 4 ?_;refine PD 5 ?_;refine FD 6 0 dw aR ?_;refine ta 7 rfl (dz (v:=(.int .i64 ((bo s).id))) rfl Y3 rfl rfl (λ_ h=>h.2.1) (λa_=>(cR _ rfl))) ?_;refine AL 8 ?_;refine CE qU (dR ((bo s).view) ((bo s).id)) ID ?_;refine bh ?_ ?_<;>intro h30;refine EN (PD 9 ?_);refine FD 10 0 gk aR ?_;refine LR 11 Y3 (dm o rfl) ?_;refine PD 12 ?_;refine jA ?_ ?_<;>intro h34;refine PD 13 ?_;refine DN (ae J5 (CY (sr λ_ J6=>P3 ?_)));refine FA 5 gk fT ?_;refine LV 0 n5 fT aN OpT.sp_change (y:=o.change) ?_;refine CE Rt (Cq V r (bo s) ((bo s).ops) o.change hrs) (SM [1]) ?_;refine PS ?_;refine nx J6 (aj (ag (WK [0] (aw rfl rfl ?_))))
 have e:bL V.toDk s o=((dD V.toDk (bo s) ((bo s).ops) o.change).1,(dD V.toDk (bo s) (bo s).ops o.change).2):=by rw[bL,show jr s.view s.id=true from h30,decide_eq_true h34,if_pos (by rfl)]
 exact j8 e;refine PD 13 ?_;refine DN (ae J5 (CN (qx J4 (sr λ_ J7=>PS ?_))));refine LW 0 gk C8 L3 ?_;refine CE Pv (x8 V r (bo s) o) (SM [1]) ?_;refine P4 ?_;refine XZ vD (ints RowT.zero.flat) λb8=>?_
 refine SW 0 bg am ?_;refine P2 ?_;refine nx J7 (aa λ_ J8=>sr λ_ J9=>P2 ?_);refine aq ?_ ?_<;>intro h50;refine PS ?_
 iterate 3 refine UT ?_
 refine PS ?_;refine nx J9 (CY (sr λ_ J10=>P4 ?_));refine CZ vg (fe V r (bo s) ((bo s).ops) ((cS (bo s) o).2.2) ((cS (bo s) o).2.1) (by first|exact hrs| (rw[jZ];exact hrs))) (SM [1]) λvR=>?_
 refine nx J10 (sr λ_ J11=>P2 ?_);refine nx J11 (aj (ag (WK [0] (aw rfl rfl ?_))));have e:bL V.toDk s o=((dp (bo s) ((bo s).ops) ((cS (bo s) o).2.2) ((cS (bo s) o).2.1)),(cS (bo s) o).2.2):=by rw[bL,show jr s.view s.id=true from h30,decide_eq_false h34,if_neg (by decide),l9,if_pos (.inl h50)]
 exact j8 e;refine PS ?_;refine FA 0 gk aR ?_;refine LU 2 Y3 (dm o rfl) ?_;refine PS ?_;refine aq ?_ ?_<;>intro h54;refine PS ?_;refine nx J9 (CY (sr λ_ J12=>P4 ?_));refine CZ vg (fe V r (bo s) ((bo s).ops) ((cS (bo s) o).2.2) ((cS (bo s) o).2.1) (by first|exact hrs| (rw[jZ];exact hrs))) (SM [1]) λvR=>?_
 refine nx J12 (sr λ_ J13=>P2 ?_);refine nx J13 (aj (ag (WK [0] (aw rfl rfl ?_))));have e:bL V.toDk s o=((dp (bo s) ((bo s).ops) ((cS (bo s) o).2.2) ((cS (bo s) o).2.1)),(cS (bo s) o).2.2):=by rw[bL,show jr s.view s.id=true from h30,decide_eq_false h34,if_neg (by decide),l9,if_pos (.inr h54)]
 exact j8 e;refine PS ?_;refine nx J9 (CN (qx J8 (aa λ_ J14=>sr λ_ J15=>P2 ?_)));refine LW 0 ec bg am ?_;refine PS ?_;refine CE Ov (sV V r (bo s) ((cS (bo s) o).1) ((bo s).ops)) (SM [1]) ?_;refine PS ?_;refine nx J15 (sr λ_ J16=>P2 ?_);refine aq ?_ ?_<;>intro h68;refine nx J16 (CY (af (P3 ?_)));refine CZ vg (fe V r ((dX V.toDk (bo s) ((cS (bo s) o).1) ((bo s).ops)).1) ((bo s).ops) ((dX V.toDk (bo s) ((cS (bo s) o).1) ((bo s).ops)).2) 0 (by first|exact hrs| (rw[jZ];exact hrs))) ID λvR=>?_
 refine nx J14 (sr λ_ J17=>P2 ?_);refine nx J17 (aj (WK [0] (aw rfl rfl ?_)));have e:bL V.toDk s o=((dp ((dX V.toDk (bo s) ((cS (bo s) o).1) ((bo s).ops)).1) ((bo s).ops) ((dX V.toDk (bo s) ((cS (bo s) o).1) ((bo s).ops)).2) 0),(dX V.toDk (bo s) (cS (bo s) o).1 (bo s).ops).2):=by rw[bL,show jr s.view s.id=true from h30,decide_eq_false h34,if_neg (by decide),l9,if_neg (λh=>h.elim (λh=>h50 h) (λh=>h54 h)),if_pos h68]
 exact j8 e;refine nx J16 (CN (qx J14 (sr λ_ J18=>P2 ?_)));refine nx J18 (aj (WK [0] (aw rfl rfl ?_)));have e:bL V.toDk s o=((dX V.toDk (bo s) ((cS (bo s) o).1) ((bo s).ops)).1,(dX V.toDk (bo s) (cS (bo s) o).1 (bo s).ops).2):=by rw[bL,show jr s.view s.id=true from h30,decide_eq_false h34,if_neg (by decide),l9,if_neg (λh=>h.elim (λh=>h50 h) (λh=>h54 h)),if_neg h68,show(dX V.toDk (bo s) (cS (bo s) o).1 (bo s).ops).2=0 from Decidable.not_not.1 h68]
 exact j8 e;refine EN (PD 9 ?_);refine NT 10 ?_;refine NT 11 ?_;refine NT 12 ?_;refine PD 13 ?_;refine DN (ae J5 (CN (qx J4 (sr λ_ J19=>PS ?_))));refine LW 0 gk C8 L3 ?_;refine CE Pv (x8 V r (bo s) o) (SM [1]) ?_;refine P4 ?_;refine XZ vD (ints RowT.zero.flat) λb8=>?_
 refine SW 0 bg am ?_;refine P2 ?_;refine nx J19 (aa λ_ J20=>sr λ_ J21=>P2 ?_);refine aq ?_ ?_<;>intro h50;refine PS ?_
 iterate 3 refine UT ?_
 refine PS ?_;refine nx J21 (CY (sr λ_ J22=>P4 ?_));refine CZ vg (fe V r (bo s) ((bo s).ops) ((cS (bo s) o).2.2) ((cS (bo s) o).2.1) (by first|exact hrs| (rw[jZ];exact hrs))) (SM [1]) λvR=>?_
 refine nx J22 (sr λ_ J23=>P2 ?_);refine nx J23 (aj (ag (WK [0] (aw rfl rfl ?_))));have e:bL V.toDk s o=((dp (bo s) ((bo s).ops) ((cS (bo s) o).2.2) ((cS (bo s) o).2.1)),(cS (bo s) o).2.2):=by rw[bL,show jr s.view s.id=false from h30,if_neg (by rw[ij];decide),l9,if_pos (.inl h50)]
 exact j8 e;refine PS ?_;refine FA 0 gk aR ?_;refine LU 2 Y3 (dm o rfl) ?_;refine PS ?_;refine aq ?_ ?_<;>intro h54;refine PS ?_;refine nx J21 (CY (sr λ_ J24=>P4 ?_));refine CZ vg (fe V r (bo s) ((bo s).ops) ((cS (bo s) o).2.2) ((cS (bo s) o).2.1) (by first|exact hrs| (rw[jZ];exact hrs))) (SM [1]) λvR=>?_
 refine nx J24 (sr λ_ J25=>P2 ?_);refine nx J25 (aj (ag (WK [0] (aw rfl rfl ?_))));have e:bL V.toDk s o=((dp (bo s) ((bo s).ops) ((cS (bo s) o).2.2) ((cS (bo s) o).2.1)),(cS (bo s) o).2.2):=by rw[bL,show jr s.view s.id=false from h30,if_neg (by rw[ij];decide),l9,if_pos (.inr h54)]
 exact j8 e;refine PS ?_;refine nx J21 (CN (qx J20 (aa λ_ J26=>sr λ_ J27=>P2 ?_)));refine LW 0 ec bg am ?_;refine PS ?_;refine CE Ov (sV V r (bo s) ((cS (bo s) o).1) ((bo s).ops)) (SM [1]) ?_;refine PS ?_;refine nx J27 (sr λ_ J28=>P2 ?_);refine aq ?_ ?_<;>intro h68;refine nx J28 (CY (af (P3 ?_)));refine CZ vg (fe V r ((dX V.toDk (bo s) ((cS (bo s) o).1) ((bo s).ops)).1) ((bo s).ops) ((dX V.toDk (bo s) ((cS (bo s) o).1) ((bo s).ops)).2) 0 (by first|exact hrs| (rw[jZ];exact hrs))) ID λvR=>?_
 refine nx J26 (sr λ_ J29=>P2 ?_);refine nx J29 (aj (WK [0] (aw rfl rfl ?_)));have e:bL V.toDk s o=((dp ((dX V.toDk (bo s) ((cS (bo s) o).1) ((bo s).ops)).1) ((bo s).ops) ((dX V.toDk (bo s) ((cS (bo s) o).1) ((bo s).ops)).2) 0),(dX V.toDk (bo s) (cS (bo s) o).1 (bo s).ops).2):=by rw[bL,show jr s.view s.id=false from h30,if_neg (by rw[ij];decide),l9,if_neg (λh=>h.elim (λh=>h50 h) (λh=>h54 h)),if_pos h68]
 exact j8 e;refine nx J28 (CN (qx J26 (sr λ_ J30=>P2 ?_)));refine nx J30 (aj (WK [0] (aw rfl rfl ?_)));have e:bL V.toDk s o=((dX V.toDk (bo s) ((cS (bo s) o).1) ((bo s).ops)).1,(dX V.toDk (bo s) (cS (bo s) o).1 (bo s).ops).2):=by rw[bL,show jr s.view s.id=false from h30,if_neg (by rw[ij];decide),l9,if_neg (λh=>h.elim (λh=>h50 h) (λh=>h54 h)),if_neg h68,show(dX V.toDk (bo s) (cS (bo s) o).1 (bo s).ops).2=0 from Decidable.not_not.1 h68]
 exact j8 e
theorem FG{δ:Type}(V:Env δ)(r:Nat)(s:MS δ)[OkR V.toDk s](hv:(fU V.toDk (cj V.toDk (bX V.toDk s))).vote=none):
 DT 47 #[(.pointer (some ⟨r,0,none⟩)),(.iface V.T V.ov)] T0 [cU V r s] (dA (λ_ H=>H=[cU V r (gG V.toDk s)])):=by
 refine BD 89 Tryz.func47 rfl rfl rfl λw0 F hF=>aa λ_ J1=>e7 (α:=Unit) (λ_u=>True) (λ_u=>[(0,(.pointer (some ⟨r,0,none⟩))),(1,(.iface V.T V.ov))]) (λ_u=>[cU V r (if s.busy=true then eY V.toDk s else s)]) (λ_u hinv=>?_) (λtl1=>?_)
 have _:=hinv;refine ae J1 (sr λ_ J2=>P2 ?_);refine CZ MJ (pQ V r (if s.busy=true then eY V.toDk s else s)) ID λvR=>?_
 refine nx J2 (sr λ_ J3=>P2 ?_);refine CZ Ot (rh V r (lC V.toDk (if s.busy=true then eY V.toDk s else s))) ID λvR=>?_
 refine nx J3 (aa λ_ J4=>e7 (α:=Unit) (λ_u=>True) (λ_u=>[(0,(.pointer (some ⟨r,0,none⟩))),(1,(.iface V.T V.ov))]) (λ_u=>[cU V r (cj V.toDk (bX V.toDk s))]) (λ_u hinv=>?_) (λtl4=>?_));have _:=hinv;refine ae J4 (aa λ_ J5=>aa λ_ J6=>DB mixed (db 0 rfl rfl) ?_);refine PD 0 ?_;refine PD 1 ?_;refine FD 2 2 dw bm ?_;refine ta 3 rfl (gx (vs:=ints ((cj V.toDk (bX V.toDk s)).view).flat) rfl eO rfl bm rfl (λ_ h=>h.2.1) (ap ((cj V.toDk (bX V.toDk s)).view)) (λa_=>(gn ((cj V.toDk (bX V.toDk s)).rep a_) 0 rfl (by decide) (whole (ap (((cj V.toDk (bX V.toDk s)).rep a_).view)))))) ?_;refine PD 4 ?_;refine PD 5 ?_;refine FD 6 0 dw aR ?_;refine ta 7 rfl (dz (v:=(.int .i64 ((cj V.toDk (bX V.toDk s)).id))) rfl Y3 rfl rfl (λ_ h=>h.2.1) (λa_=>(cR _ rfl))) ?_;refine AL 8 ?_;refine CE qU (dR ((cj V.toDk (bX V.toDk s)).view) ((cj V.toDk (bX V.toDk s)).id)) ID ?_;refine bh ?_ ?_<;>intro h42;refine EN (PD 9 ?_);refine DN (ae J6 (CN (qx J5 (aa λ_ J7=>e7 (α:=Unit) (λ_u=>True) (λ_u=>[(0,(.pointer (some ⟨r,0,none⟩))),(1,(.iface V.T V.ov))]) (λ_u=>[cU V r (fU V.toDk (cj V.toDk (bX V.toDk s)))]) (λ_u hinv=>?_) (λtl7=>?_)))));have _:=hinv;refine ae J7 (aa λ_ J8=>sr λ_ J9=>cz (H':=w5 V r (fU V.toDk (cj V.toDk (bX V.toDk s))) (.pointer none)::[]) (λ_ q=>ui hv q) (P2 ?_));refine FA 1067 dw nF ?_;refine LG 0 qf (.pointer none) ?_ (hc:=by exact λa_=>(cd _ rfl))
 refine tp (pk rfl qf rfl rfl) ?_;refine nx J9 (CY (aj (ag (aF (H':=[cU V r (fU V.toDk (cj V.toDk (bX V.toDk s)))]) (dH _) (λ_ q=>o8 hv (an [0] rfl q)) (dV rfl ?_)))));exact MQ (by rw[gG,if_pos h42,oS,hv]);refine aa λ_ J10=>e7 (α:=(Nat)) (λb4=>True) (λb4=>[(0,(.pointer (some ⟨r,0,none⟩))),(1,(.iface V.T V.ov)),(4,(.pointer (some ⟨b4,0,none⟩)))]) (λb4=>[cU V r (cj V.toDk (bX V.toDk s)),ak b4 (ints (cD (cj V.toDk (bX V.toDk s)).book (cj V.toDk (bX V.toDk s)).id).flat) 39]) (λb4 hinv=>?_) (λtl10=>?_)
 have _:=hinv;refine ae J10 (sr λ_ J11=>FA 0 ec aR ?_);refine LT 1 Y3 (.int .i64 ((cD (cj V.toDk (bX V.toDk s)).book (cj V.toDk (bX V.toDk s)).id).version)) ?_ (hc:=by exact cB _ rfl);refine PS ?_;refine aq ?_ ?_<;>intro h54;refine nx J11 (CY (af (P2 ?_)));refine LW 1 ec bg am ?_;refine CZ Oo (nE V r (cj V.toDk (bX V.toDk s)) (cD (cj V.toDk (bX V.toDk s)).book (cj V.toDk (bX V.toDk s)).id)) ID λvR=>?_
 refine ax ?_
 exact aF
  SB
  (λ_ q=>by
   rw[fU,if_pos h54]
   exact an [0] rfl q)
  (tl7 (():Unit) trivial)
 refine nx J11 (CN (aV ?_))
 exact aF
  SB
  (λ_ q=>by
   rw[fU,if_neg h54]
   exact an [0] rfl q)
  (tl7 (():Unit) trivial)
 refine DB mixed (db 0 rfl rfl) ?_;refine PD 0 ?_;refine PD 1 ?_;refine FD 2 1068 dw FL ?_;refine PD 3 ?_;refine PD 4 ?_;refine FD 5 0 dw aR ?_;refine ta 6 rfl (dz (v:=(.int .i64 ((cj V.toDk (bX V.toDk s)).id))) rfl Y3 rfl rfl (λ_ h=>h.2.1) (λa_=>(cR _ rfl))) ?_;refine cZ [7,8] (by kernel_rfl) rfl (aG rfl ?_ ?_);refine CE MI (Leg.Does.hid (λa_=>nl r 1068 87 _ (ib ((cj V.toDk (bX V.toDk s)).rep a_)) (cj V.toDk (bX V.toDk s)).book ((cj V.toDk (bX V.toDk s)).id))) ID ?_;refine EN (AL 8 ?_);refine XZ vD (ints RowT.zero.flat) λb4=>?_
 refine EN (AL 9 ?_);refine SW 0 bg am ?_;refine EN (DN ?_)
 exact aF
  SB
  (λ_ s=>an [1,0] rfl s)
  (tl10 ((b4):(Nat)) trivial)
 refine aG rfl ?_ ?_;refine XZ vD (ints RowT.zero.flat) λb4=>?_
 refine EN (AL 7 ?_);refine CE MI (Leg.Does.hid (λa_=>nl r 1068 87 _ (ib ((cj V.toDk (bX V.toDk s)).rep a_)) (cj V.toDk (bX V.toDk s)).book ((cj V.toDk (bX V.toDk s)).id))) (SM [1]) ?_;refine EN (AL 9 ?_);refine SW 1 bg am ?_;refine EN (DN ?_)
 exact aF
  SB
  (λ_ s=>an [0,0] rfl s)
  (tl10 ((b4):(Nat)) trivial)
 exact bM;refine EN (PD 9 ?_);refine DN (ae J6 (CY (aj (ag (WK [0] (dV rfl ?_))))));exact MQ (by rw[gG,if_neg (by rw[h42];decide)]);refine sr λ_ J12=>P2 ?_
 refine FA 2 dw bm ?_;refine FA 2 eO aR ?_;refine LG 0 Y3 (.int .i64 (((bX V.toDk s).view).epoch)) ?_ (hc:=by exact λa_=>(cr ((bX V.toDk s).rep a_) 0 rfl (by decide) (be _ rfl)));refine PS ?_;refine aq ?_ ?_<;>intro h26;refine nx J12 (CY (af (P4 ?_)));refine FA 2 dw bm ?_;refine LZ 0 eO bm ap ((bX V.toDk s).view) ?_ (hc:=by exact λ_=>c9 _);refine CZ Oq (nD V r (bX V.toDk s) ((bX V.toDk s).view)) ID λvR=>?_
 refine ax ?_
 exact aF
  SB
  (λ_ q=>by
   rw[cj,if_pos h26]
   exact an [0] rfl q)
  (tl4 (():Unit) trivial)
 refine nx J12 (CN (aV ?_))
 exact aF
  SB
  (λ_ q=>by
   rw[cj,if_neg h26]
   exact an [0] rfl q)
  (tl4 (():Unit) trivial)
 refine sr λ_ J13=>P2 ?_
 refine FA 1938 dw lK ?_;refine LG 0 Y4 (.bool (s.busy)) ?_ (hc:=by exact λa_=>(zN _ rfl));refine bh ?_ ?_<;>intro h11;refine nx J13 (CY (af (P2 ?_)));refine CZ Ou (oD V r s) ID λvR=>?_
 refine ax ?_
 exact aF
  SB
  (λ_ q=>by
   rw[if_pos h11]
   exact an [0] rfl q)
  (tl1 (():Unit) trivial)
 refine nx J13 (CN (aV ?_))
 exact aF
  SB
  (λ_ q=>by
   rw[if_neg (by rw[h11];decide)]
   exact an [0] rfl q)
  (tl1 (():Unit) trivial)
theorem FF{δ:Type}(V:Env δ)(r:Nat)(s:MS δ)(vt:VoteT)[OkR V.toDk s](hv:(fU V.toDk (cj V.toDk (bX V.toDk s))).vote=some vt):
 DT 47 #[(.pointer (some ⟨r,0,none⟩)),(.iface V.T V.ov)] T0 [cU V r s] (dA (λ_ H=>H=[cU V r (gG V.toDk s)])):=by
 refine BD 89 Tryz.func47 rfl rfl rfl λw0 F hF=>?_
 have hov:OkVt vt:=OkR.vote vt hv;refine aa λ_ J1=>e7 (α:=Unit) (λ_u=>True) (λ_u=>[(0,(.pointer (some ⟨r,0,none⟩))),(1,(.iface V.T V.ov))]) (λ_u=>[cU V r (if s.busy=true then eY V.toDk s else s)]) (λ_u hinv=>?_) (λtl1=>?_)
 have _:=hinv;refine ae J1 (sr λ_ J2=>P2 ?_);refine CZ MJ (pQ V r (if s.busy=true then eY V.toDk s else s)) ID λvR=>?_
 refine nx J2 (sr λ_ J3=>P2 ?_);refine CZ Ot (rh V r (lC V.toDk (if s.busy=true then eY V.toDk s else s))) ID λvR=>?_
 refine nx J3 (aa λ_ J4=>e7 (α:=Unit) (λ_u=>True) (λ_u=>[(0,(.pointer (some ⟨r,0,none⟩))),(1,(.iface V.T V.ov))]) (λ_u=>[cU V r (cj V.toDk (bX V.toDk s))]) (λ_u hinv=>?_) (λtl4=>?_));have _:=hinv;refine ae J4 (aa λ_ J5=>aa λ_ J6=>DB mixed (db 0 rfl rfl) ?_);refine PD 0 ?_;refine PD 1 ?_;refine FD 2 2 dw bm ?_;refine ta 3 rfl (gx (vs:=ints ((cj V.toDk (bX V.toDk s)).view).flat) rfl eO rfl bm rfl (λ_ h=>h.2.1) (ap ((cj V.toDk (bX V.toDk s)).view)) (λa_=>(gn ((cj V.toDk (bX V.toDk s)).rep a_) 0 rfl (by decide) (whole (ap (((cj V.toDk (bX V.toDk s)).rep a_).view)))))) ?_;refine PD 4 ?_;refine PD 5 ?_;refine FD 6 0 dw aR ?_;refine ta 7 rfl (dz (v:=(.int .i64 ((cj V.toDk (bX V.toDk s)).id))) rfl Y3 rfl rfl (λ_ h=>h.2.1) (λa_=>(cR _ rfl))) ?_;refine AL 8 ?_;refine CE qU (dR ((cj V.toDk (bX V.toDk s)).view) ((cj V.toDk (bX V.toDk s)).id)) ID ?_;refine bh ?_ ?_<;>intro h42;refine EN (PD 9 ?_);refine DN (ae J6 (CN (qx J5 (aa λ_ J7=>e7 (α:=Unit) (λ_u=>True) (λ_u=>[(0,(.pointer (some ⟨r,0,none⟩))),(1,(.iface V.T V.ov))]) (λ_u=>[cU V r (fU V.toDk (cj V.toDk (bX V.toDk s)))]) (λ_u hinv=>?_) (λtl7=>?_)))));have _:=hinv;refine ae J7 (aa λ_ J8=>sr λ_ J9=>Sf (H':=λvb:Nat=>w5 V r (fU V.toDk (cj V.toDk (bX V.toDk s))) (.pointer (some ⟨vb,0,none⟩))::ak vb (VoteT.cells vt) 207::[]) (λ_ q=>nN hv q) (λvb=>P2 ?_));refine FA 1067 dw nF ?_
 refine LG 0 qf (.pointer (some ⟨vb,0,none⟩)) ?_ (hc:=by exact λa_=>(cd _ rfl));refine tp (iW rfl qf rfl rfl) ?_;refine nx J9 (CN (qx J8 (sr λ_ J10=>P2 ?_)));refine FA 1067 dw nF ?_;refine LG 0 qf (.pointer (some ⟨vb,0,none⟩)) ?_ (hc:=by exact λa_=>(cd _ rfl));refine CE vf (du vb vt) (SM [1]) ?_;change TL _ _ _ _ _ _ _ _ _ [ak vb (VoteT.cells vt) 207,w5 V r (fU V.toDk (cj V.toDk (bX V.toDk s))) (.pointer (some ⟨vb,0,none⟩))];refine cz (H':=cU V r (fU V.toDk (cj V.toDk (bX V.toDk s)))::[]) (λ_ q=>o7 hv (aD [1,0] rfl q)) (XZ Q7 (ints ChangeT.zero.flat) λb5=>?_);refine SW 0 fT aN ?_;refine nx J10 (aa λ_ J11=>e7 (α:=Unit) (λ_u=>True) (λ_u=>[(0,(.pointer (some ⟨r,0,none⟩))),(1,(.iface V.T V.ov)),(5,(.pointer (some ⟨b5,0,none⟩))),(7,(.int .i64 ((dW (fU V.toDk (cj V.toDk (bX V.toDk s))).view vt.change).2)))]) (λ_u=>[cU V r (fU V.toDk (cj V.toDk (bX V.toDk s))),ak b5 (ints vt.change.flat) 61]) (λ_u hinv=>?_) (λtl11=>?_));have _:=hinv;refine ae J11 (sr λ_ J12=>P2 ?_);refine aq ?_ ?_<;>intro h79;refine P2 ?_;refine LW 1 n5 fT aN ?_;refine CE On (rk V r (fU V.toDk (cj V.toDk (bX V.toDk s))) vt.change) ID ?_;refine PS ?_;refine aq ?_ ?_<;>intro h84;refine PS ?_;refine nx J12 (CY (af (P2 ?_)))
 refine CZ MH (sL V r ((bW V.toDk (fU V.toDk (cj V.toDk (bX V.toDk s))) vt.change).1) (jv (fU V.toDk (cj V.toDk (bX V.toDk s))).view (eI (fU V.toDk (cj V.toDk (bX V.toDk s)))) vt.change) (sZ h84)) ID λvR=>?_
 refine ax (WK [0] (bC rfl ?_));exact MQ (by rw[gG,if_pos h42,oS,hv];simp only[];rw[if_pos h79,if_pos h84]);refine PS ?_;refine nx J12 (CN (aV (WK [0] (bC rfl ?_))));exact MQ (by rw[gG,if_pos h42,oS,hv];simp only[];rw[if_pos h79,if_neg h84]);refine PS ?_
 iterate 4 refine UF ?_
 refine PS ?_;refine nx J12 (CN (aV (WK [0] (bC rfl ?_))));exact MQ (by rw[gG,if_pos h42,oS,hv];simp only[];rw[if_neg h79]);refine DC mixed (db 1 rfl rfl) (BL 0) ?_;refine PD 0 ?_;refine PD 1 ?_;refine FD 2 2 dw bm ?_;refine ta 3 rfl (gx (vs:=ints ((fU V.toDk (cj V.toDk (bX V.toDk s))).view).flat) rfl eO rfl bm rfl (λ_ h=>h.2.1) (ap ((fU V.toDk (cj V.toDk (bX V.toDk s))).view)) (λa_=>(gn ((fU V.toDk (cj V.toDk (bX V.toDk s))).rep a_) 0 rfl (by decide) (whole (ap (((fU V.toDk (cj V.toDk (bX V.toDk s))).rep a_).view)))))) ?_;refine LY 4 n5 fT aN ?_;refine cZ [5,9] (by kernel_rfl) rfl (aG rfl ?_ ?_);refine CE nL (dG ((fU V.toDk (cj V.toDk (bX V.toDk s))).view) vt.change OkVw.rng) ID ?_;refine EN (PD 6 ?_);refine PD 7 ?_;refine PD 8 ?_;refine AL 9 ?_;refine XZ tj (ints ViewT.zero.flat) λb6=>?_
 refine EN (AL 10 ?_);refine SW 0 bm ap ?_;refine EN (PD 11 ?_);refine DN ?_
 exact aF
  SB
  (λ_ s=>an [2,1] rfl s)
  (tl11 (():Unit) trivial)
 refine aG rfl ?_ ?_;refine XZ tj (ints ViewT.zero.flat) λb6=>?_
 refine EN (AL 5 ?_);refine CE nL (dG ((fU V.toDk (cj V.toDk (bX V.toDk s))).view) vt.change OkVw.rng) ID ?_;refine EN (PD 6 ?_);refine PD 7 ?_;refine PD 8 ?_;refine AL 10 ?_;refine SW 0 bm ap ?_;refine EN (PD 11 ?_);refine DN ?_
 exact aF
  SB
  (λ_ s=>an [2,1] rfl s)
  (tl11 (():Unit) trivial)
 exact bM;refine aa λ_ J13=>e7 (α:=(Nat)) (λb4=>True) (λb4=>[(0,(.pointer (some ⟨r,0,none⟩))),(1,(.iface V.T V.ov)),(4,(.pointer (some ⟨b4,0,none⟩)))]) (λb4=>[cU V r (cj V.toDk (bX V.toDk s)),ak b4 (ints (cD (cj V.toDk (bX V.toDk s)).book (cj V.toDk (bX V.toDk s)).id).flat) 39]) (λb4 hinv=>?_) (λtl13=>?_)
 have _:=hinv;refine ae J13 (sr λ_ J14=>FA 0 ec aR ?_);refine LT 1 Y3 (.int .i64 ((cD (cj V.toDk (bX V.toDk s)).book (cj V.toDk (bX V.toDk s)).id).version)) ?_ (hc:=by exact cB _ rfl);refine PS ?_;refine aq ?_ ?_<;>intro h54;refine nx J14 (CY (af (P2 ?_)));refine LW 1 ec bg am ?_;refine CZ Oo (nE V r (cj V.toDk (bX V.toDk s)) (cD (cj V.toDk (bX V.toDk s)).book (cj V.toDk (bX V.toDk s)).id)) ID λvR=>?_
 refine ax ?_
 exact aF
  SB
  (λ_ q=>by
   rw[fU,if_pos h54]
   exact an [0] rfl q)
  (tl7 (():Unit) trivial)
 refine nx J14 (CN (aV ?_))
 exact aF
  SB
  (λ_ q=>by
   rw[fU,if_neg h54]
   exact an [0] rfl q)
  (tl7 (():Unit) trivial)
 refine DB mixed (db 0 rfl rfl) ?_;refine PD 0 ?_;refine PD 1 ?_;refine FD 2 1068 dw FL ?_;refine PD 3 ?_;refine PD 4 ?_;refine FD 5 0 dw aR ?_;refine ta 6 rfl (dz (v:=(.int .i64 ((cj V.toDk (bX V.toDk s)).id))) rfl Y3 rfl rfl (λ_ h=>h.2.1) (λa_=>(cR _ rfl))) ?_;refine cZ [7,8] (by kernel_rfl) rfl (aG rfl ?_ ?_);refine CE MI (Leg.Does.hid (λa_=>nl r 1068 87 _ (ib ((cj V.toDk (bX V.toDk s)).rep a_)) (cj V.toDk (bX V.toDk s)).book ((cj V.toDk (bX V.toDk s)).id))) ID ?_;refine EN (AL 8 ?_);refine XZ vD (ints RowT.zero.flat) λb4=>?_
 refine EN (AL 9 ?_);refine SW 0 bg am ?_;refine EN (DN ?_)
 exact aF
  SB
  (λ_ s=>an [1,0] rfl s)
  (tl13 ((b4):(Nat)) trivial)
 refine aG rfl ?_ ?_;refine XZ vD (ints RowT.zero.flat) λb4=>?_
 refine EN (AL 7 ?_);refine CE MI (Leg.Does.hid (λa_=>nl r 1068 87 _ (ib ((cj V.toDk (bX V.toDk s)).rep a_)) (cj V.toDk (bX V.toDk s)).book ((cj V.toDk (bX V.toDk s)).id))) (SM [1]) ?_;refine EN (AL 9 ?_);refine SW 1 bg am ?_;refine EN (DN ?_)
 exact aF
  SB
  (λ_ s=>an [0,0] rfl s)
  (tl13 ((b4):(Nat)) trivial)
 exact bM;refine EN (PD 9 ?_);refine DN (ae J6 (CY (aj (ag (WK [0] (dV rfl ?_))))));exact MQ (by rw[gG,if_neg (by rw[h42];decide)]);refine sr λ_ J15=>P2 ?_
 refine FA 2 dw bm ?_;refine FA 2 eO aR ?_;refine LG 0 Y3 (.int .i64 (((bX V.toDk s).view).epoch)) ?_ (hc:=by exact λa_=>(cr ((bX V.toDk s).rep a_) 0 rfl (by decide) (be _ rfl)));refine PS ?_;refine aq ?_ ?_<;>intro h26;refine nx J15 (CY (af (P4 ?_)));refine FA 2 dw bm ?_;refine LZ 0 eO bm ap ((bX V.toDk s).view) ?_ (hc:=by exact λ_=>c9 _);refine CZ Oq (nD V r (bX V.toDk s) ((bX V.toDk s).view)) ID λvR=>?_
 refine ax ?_
 exact aF
  SB
  (λ_ q=>by
   rw[cj,if_pos h26]
   exact an [0] rfl q)
  (tl4 (():Unit) trivial)
 refine nx J15 (CN (aV ?_))
 exact aF
  SB
  (λ_ q=>by
   rw[cj,if_neg h26]
   exact an [0] rfl q)
  (tl4 (():Unit) trivial)
 refine sr λ_ J16=>P2 ?_
 refine FA 1938 dw lK ?_;refine LG 0 Y4 (.bool (s.busy)) ?_ (hc:=by exact λa_=>(zN _ rfl));refine bh ?_ ?_<;>intro h11;refine nx J16 (CY (af (P2 ?_)));refine CZ Ou (oD V r s) ID λvR=>?_
 refine ax ?_
 exact aF
  SB
  (λ_ q=>by
   rw[if_pos h11]
   exact an [0] rfl q)
  (tl1 (():Unit) trivial)
 refine nx J16 (CN (aV ?_))
 exact aF
  SB
  (λ_ q=>by
   rw[if_neg (by rw[h11];decide)]
   exact an [0] rfl q)
  (tl1 (():Unit) trivial)
theorem FE{δ:Type}(V:Env δ)(r:Nat)(s:MS δ)[OkR V.toDk s]:DT 47 #[.pointer (some ⟨r,0,none⟩), .iface V.T V.ov] T0 [cU V r s] (dA (λ_ H=>H=[cU V r (gG V.toDk s)])):=by
 cases hv:(fU V.toDk (cj V.toDk (bX V.toDk s))).vote with
 |none=>exact FG V r s hv
 |some vt=>exact FF V r s vt hv
abbrev Ft{δ:Type}(lg r:Nat)(s:MS δ):HP:=hid r (λ_:Unit=>RepT.cells (s.rep ⟨lg, .pointer none, .slice none 0 0⟩)) 87 (λ_=>[])
theorem wj{δ:Type}(lg r:Nat)(s:MS δ)(v:ViewT):
 DT 67 #[(.pointer (some ⟨r,0,none⟩)),(.agg (ints v.flat).toArray)] T0 [Ft lg r s] (dA (λ_ H=>H=[Ft lg r (lB s v)])):=by
 refine BD 20 Tryz.func67 rfl rfl rfl λw0 F hF=>sr λ_ J1=>XY (ints v.flat) λb3=>?_
 refine nx J1 (sr λ_ J2=>PS ?_);refine LW 0 eO bm ap ?_;refine PS ?_;refine FA 2 dw bm ?_;refine ir (vs:=ints v.flat) (i:=1) (ab rfl) rfl rfl rfl rfl rfl (by rw[(ap v)];exact bm) (bw _) rfl rfl (λ_=>LC (da _) (ap _)) (λa_=>(R2 (s.rep ⟨lg, .pointer none, .slice none 0 0⟩) 0 rfl (by have h1:=(ap v);omega) (cC ((ap ((s.rep ⟨lg, .pointer none, .slice none 0 0⟩).view)).trans (ap v).symm)))) (nx J2 (sr λ_ J3=>PS ?_));refine FA 0 eO aR ?_;refine LU 0 Y3 (be v rfl) ?_;refine tp (mI AccT.zero (AccT.mk v.epoch BallotT.zero BallotT.zero ChangeT.zero) [(0,[Value.int .i64 v.epoch])] qo po (g:=AccT.sg)) ?_;refine PS ?_;refine FA 1058 dw fV ?_;refine ir (vs:=ints (AccT.mk v.epoch BallotT.zero BallotT.zero ChangeT.zero).flat) (i:=1) (ab rfl) rfl rfl rfl rfl rfl (by rw[(bf (AccT.mk v.epoch BallotT.zero BallotT.zero ChangeT.zero))];exact fV) (bw _) rfl rfl (λ_=>LC (da _) (bf _)) (λa_=>(kW ((MS.setView s v).rep ⟨lg, .pointer none, .slice none 0 0⟩) 0 rfl (by have h1:=(bf (AccT.mk v.epoch BallotT.zero BallotT.zero ChangeT.zero));omega) (cC ((bf (((MS.setView s v).rep ⟨lg, .pointer none, .slice none 0 0⟩).acc)).trans (bf (AccT.mk v.epoch BallotT.zero BallotT.zero ChangeT.zero)).symm)))) (nx J3 (sr λ_ J4=>P2 ?_));refine FA 1067 dw nF ?_;refine SK 1 nF (λ_=>da _) ?_ (hc:=by exact λa_=>(R3 _ rfl _));refine nx J4 (af (P2 ?_));refine FA 1066 dw aR ?_;refine SK 1 aR (λ_=>da _) ?_ (hc:=by exact λa_=>(mz _ rfl _))
 exact ax (WK [1] (bC rfl rfl))
theorem zk{δ:Type}(lg r:Nat)(s:MS δ)(m:RecT)(hw:WF m.row.flat):
 DT 69 #[(.pointer (some ⟨r,0,none⟩)),(.agg (ints m.flat).toArray)] T0 [Ft lg r s] (dA (λ_ H=>H=[Ft lg r (im s m)])):=by
 refine BD 93 Tryz.func69 rfl rfl rfl λw0 F hF=>sr λ_ J1=>XY (ints m.flat) λb3=>?_
 refine nx J1 (sr λ_ J2=>FA 0 en aR ?_);refine LU 0 Y3 (kX m rfl) ?_;refine nx J2 (av (sr λ_ J3=>PS ?_));refine aq ?_ ?_<;>intro h7;refine PS ?_;refine nx J3 (CY (af (P3 ?_)));refine FA 2 en bg ?_;refine LV 0 ec bg am RecT.sp_row (y:=m.row) ?_;refine PS ?_;refine FA 9 dw bg ?_;refine ir (vs:=ints m.row.flat) (i:=1) (ab rfl) rfl rfl rfl rfl rfl (by rw[(am m.row)];exact bg) (bw _) rfl rfl (λ_=>LC (da _) (am _)) (λa_=>(Sr (s.rep ⟨lg, .pointer none, .slice none 0 0⟩) 0 rfl (by have h1:=(am m.row);omega) (cC ((am ((s.rep ⟨lg, .pointer none, .slice none 0 0⟩).own)).trans (am m.row).symm)))) (PS ?_);refine FA 1938 dw lK ?_;refine SK 1 lK (λ_=>da _) ?_ (hc:=by exact λa_=>(R5 _ rfl _));refine PS ?_;refine FA 1939 dw aR ?_;refine SK 1 aR (λ_=>da _) ?_ (hc:=by exact λa_=>(R4 _ rfl _));refine ax (ai (WK [1] (bC rfl ?_)));exact congrArg (λq=>[Ft lg r q]) (show(MS.setKept (MS.setBusy (MS.setOwn s m.row) true) 0)=im s m by rw[im,if_pos h7]<;>rfl);refine PS ?_;refine nx J3 (CN (sr λ_ J4=>PS ?_));refine aq ?_ ?_<;>intro h20;refine PS ?_;refine nx J4 (CY (D1 0 mixed ?_));refine PD 0 ?_;refine PD 1 ?_;refine FD 2 183 dw uT ?_;refine FD 3 1 en aR ?_;refine LR 4 Y3 (HL m rfl) ?_;refine FD 5 2 en bg ?_;refine ta 6 rfl (aP (vs:=ints m.row.flat) rfl ec rfl bg rfl (λ_ h=>h.2.1) (am m.row) (tf m 0 rfl (by decide) (whole (am m.row)))) ?_;refine AL 7 ?_
 refine CE NU (Leg.Does.hid (λa_=>uk r 183 87 _ (eg (s.rep ⟨lg, .pointer none, .slice none 0 0⟩)) s.mirror m.whose m.row hw)) (SM [1]) ?_;refine EN (DN (ai (WK [0] (bC rfl ?_))));exact congrArg (λq=>[Ft lg r q]) (show(iz s m.whose m.row)=im s m by rw[im,if_neg h7,if_pos h20]<;>rfl);refine PS ?_;refine nx J4 (CN (sr λ_ J5=>PS ?_));refine aq ?_ ?_<;>intro h30;refine PS ?_;refine nx J5 (CY (D1 0 mixed ?_));refine PD 0 ?_;refine PD 1 ?_;refine FD 2 183 dw uT ?_;refine FD 3 1 en aR ?_;refine LR 4 Y3 (HL m rfl) ?_;refine AL 5 ?_;refine CE NS (Leg.Does.hid (λa_=>uj r 183 87 _ (eg (s.rep ⟨lg, .pointer none, .slice none 0 0⟩)) s.mirror m.whose)) (SM [1]) ?_;refine EN (DN (ai (WK [0] (bC rfl ?_))));exact congrArg (λq=>[Ft lg r q]) (show(lD s m.whose)=im s m by rw[im,if_neg h7,if_neg h20,if_pos h30]<;>rfl);refine PS ?_;refine nx J5 (CN (sr λ_ J6=>PS ?_));refine aq ?_ ?_<;>intro h38;refine PS ?_;refine nx J6 (CY (sr λ_ J7=>PS ?_));refine FA 177 en cH ?_;refine LV 0 kG cH au RecT.sp_ballot (y:=m.ballot) ?_;refine PS ?_;refine FA 1058 dw fV ?_;refine FA 1059 qo cH ?_
 refine ir (vs:=ints m.ballot.flat) (i:=1) (ab rfl) rfl rfl rfl rfl rfl (by rw[(au m.ballot)];exact cH) (bw _) rfl rfl (λ_=>LC (da _) (au _)) (λa_=>(kW (s.rep ⟨lg, .pointer none, .slice none 0 0⟩) 1 rfl (by have h1:=(au m.ballot);omega) (Sy ((s.rep ⟨lg, .pointer none, .slice none 0 0⟩).acc) 0 rfl (by have h1:=(au m.ballot);omega) (cC ((au (((s.rep ⟨lg, .pointer none, .slice none 0 0⟩).acc).vow)).trans (au m.ballot).symm))))) (nx J7 (D1 0 mixed ?_));refine PD 0 ?_;refine PD 1 ?_;refine PD 2 ?_;refine FD 3 1066 dw aR ?_;refine FD 5 177 en cH ?_;refine FD 6 177 kG aR ?_;refine LX 7 Y3 (.int .i64 (m.ballot.round)) ?_ (hc:=by exact RecT.pt_ballot m 0 rfl (by decide) (fo m.ballot rfl));refine AL 4 ?_;refine LG 1 Y3 (.int .i64 (s.round)) ?_ (hc:=by exact λa_=>(wJ _ rfl));refine EN (ta 8 rfl (zR rfl rfl rfl) ?_);refine PD 9 ?_;refine FD 10 1066 dw aR ?_;refine AL 11 ?_;refine SK 1 aR (λ_=>da _) ?_ (hc:=by exact λa_=>(mz _ rfl _));refine EN (DN (ai (WK [1] (bC rfl ?_))));exact congrArg (λq=>[Ft lg r q]) (show(MS.setRound (MS.setAcc s (AccT.mk s.acc.epoch m.ballot s.acc.had s.acc.change)) (max s.round m.ballot.round))=im s m by rw[im,if_neg h7,if_neg h20,if_neg h30,if_pos h38]<;>rfl);refine PS ?_;refine nx J6 (CN (sr λ_ J8=>PS ?_));refine aq ?_ ?_<;>intro h57;refine PS ?_;refine nx J8 (CY (aa λ_ J9=>D1 0 mixed ?_));refine PD 0 ?_;refine PD 1 ?_;refine PD 2 ?_;refine FD 3 177 en cH ?_
 refine ta 4 rfl (aP (vs:=ints m.ballot.flat) rfl kG rfl cH rfl (λ_ h=>h.2.1) (au m.ballot) (rY m 0 rfl (by decide) (whole (au m.ballot)))) ?_;refine FD 5 177 en cH ?_;refine ta 6 rfl (aP (vs:=ints m.ballot.flat) rfl kG rfl cH rfl (λ_ h=>h.2.1) (au m.ballot) (rY m 0 rfl (by decide) (whole (au m.ballot)))) ?_;refine FD 7 179 en fT ?_;refine ta 8 rfl (aP (vs:=ints m.change.flat) rfl n5 rfl fT rfl (λ_ h=>h.2.1) (aN m.change) (O1 m 0 rfl (by decide) (whole (aN m.change)))) ?_;refine PD 9 ?_;refine FD 10 1058 dw fV ?_;refine FD 11 1059 qo cH ?_;refine AL 12 ?_;refine ir (vs:=ints m.ballot.flat) (i:=1) (ab rfl) rfl rfl rfl rfl rfl (by rw[(au m.ballot)];exact cH) (bw _) rfl rfl (λ_=>LC (da _) (au _)) (λa_=>(kW (s.rep ⟨lg, .pointer none, .slice none 0 0⟩) 1 rfl (by have h1:=(au m.ballot);omega) (Sy ((s.rep ⟨lg, .pointer none, .slice none 0 0⟩).acc) 0 rfl (by have h1:=(au m.ballot);omega) (cC ((au (((s.rep ⟨lg, .pointer none, .slice none 0 0⟩).acc).vow)).trans (au m.ballot).symm))))) (EN (PD 13 ?_));refine FD 14 1058 dw fV ?_;refine FD 15 1061 qo cH ?_;refine AL 16 ?_
 refine ir (vs:=ints m.ballot.flat) (i:=1) (ab rfl) rfl rfl rfl rfl rfl (by rw[(au m.ballot)];exact cH) (bw _) rfl rfl (λ_=>LC (da _) (au _)) (λa_=>(kW ((MS.setAcc s (AccT.mk s.acc.epoch m.ballot s.acc.had s.acc.change)).rep ⟨lg, .pointer none, .slice none 0 0⟩) 3 rfl (by have h1:=(au m.ballot);omega) (AccT.wr_had_ (((MS.setAcc s (AccT.mk s.acc.epoch m.ballot s.acc.had s.acc.change)).rep ⟨lg, .pointer none, .slice none 0 0⟩).acc) 0 rfl (by have h1:=(au m.ballot);omega) (cC ((au ((((MS.setAcc s (AccT.mk s.acc.epoch m.ballot s.acc.had s.acc.change)).rep ⟨lg, .pointer none, .slice none 0 0⟩).acc).had)).trans (au m.ballot).symm))))) (EN (PD 17 ?_));refine FD 18 1058 dw fV ?_;refine FD 19 1063 qo fT ?_;refine AL 20 ?_;refine ir (vs:=ints m.change.flat) (i:=1) (ab rfl) rfl rfl rfl rfl rfl (by rw[(aN m.change)];exact fT) (bw _) rfl rfl (λ_=>LC (da _) (aN _)) (λa_=>(kW ((MS.setAcc s (AccT.mk s.acc.epoch m.ballot m.ballot s.acc.change)).rep ⟨lg, .pointer none, .slice none 0 0⟩) 5 rfl (by have h1:=(aN m.change);omega) (AccT.wr_change_ (((MS.setAcc s (AccT.mk s.acc.epoch m.ballot m.ballot s.acc.change)).rep ⟨lg, .pointer none, .slice none 0 0⟩).acc) 0 rfl (by have h1:=(aN m.change);omega) (cC ((aN ((((MS.setAcc s (AccT.mk s.acc.epoch m.ballot m.ballot s.acc.change)).rep ⟨lg, .pointer none, .slice none 0 0⟩).acc).change)).trans (aN m.change).symm))))) (EN (DN (ae J9 (D1 0 mixed ?_))));refine PD 0 ?_;refine PD 1 ?_;refine PD 2 ?_
 refine FD 3 1066 dw aR ?_;refine FD 5 177 en cH ?_;refine FD 6 177 kG aR ?_;refine LX 7 Y3 (.int .i64 (m.ballot.round)) ?_ (hc:=by exact RecT.pt_ballot m 0 rfl (by decide) (fo m.ballot rfl));refine AL 4 ?_;refine LG 1 Y3 (.int .i64 (s.round)) ?_ (hc:=by exact λa_=>(wJ _ rfl));refine EN (ta 8 rfl (zR rfl rfl rfl) ?_);refine PD 9 ?_;refine FD 10 1066 dw aR ?_;refine AL 11 ?_;refine SK 1 aR (λ_=>da _) ?_ (hc:=by exact λa_=>(mz _ rfl _));refine EN (DN (ai (WK [1] (bC rfl ?_))));exact congrArg (λq=>[Ft lg r q]) (show(MS.setRound (MS.setAcc s (AccT.mk s.acc.epoch m.ballot m.ballot m.change)) (max s.round m.ballot.round))=im s m by rw[im,if_neg h7,if_neg h20,if_neg h30,if_neg h38,if_pos h57]<;>rfl);refine PS ?_;refine nx J8 (CN (sr λ_ J10=>PS ?_));refine aq ?_ ?_<;>intro h88;refine PS ?_;refine nx J10 (CY (af (PS ?_)));refine FA 182 en bm ?_;refine LV 0 eO bm ap RecT.sp_view (y:=m.view) ?_;refine CZ Ow (wj lg r s m.view) (SM [1]) λvR=>?_
 refine ax (ai (WK [0] (bC rfl ?_)));exact congrArg (λq=>[Ft lg r q]) (show(lB s m.view)=im s m by rw[im,if_neg h7,if_neg h20,if_neg h30,if_neg h38,if_neg h57,if_pos h88]<;>rfl);refine PS ?_;refine nx J10 (CN (aV (ai (WK [1] (bC rfl ?_)))));exact congrArg (λq=>[Ft lg r q]) (show s=im s m by rw[im,if_neg h7,if_neg h20,if_neg h30,if_neg h38,if_neg h57,if_neg h88]<;>rfl)
theorem M4{bs:List UInt8}(h: ¬(fO bs).2≠0):WF (fO bs).1.row.flat:=by
 rcases Lw bs with⟨m,e,_,_,hw⟩|e
 · rw[e];exact hw
 · rw[e]at h;exact absurd (by decide) h
theorem Do{δ:Type}(e0:δ)(i:Int)(d:Nat)(D:DS)(hD:D.Ok)(hI:Wal.DS.In D)(hb:D.ws.length≤1000000):
 DT 43 #[(.int .i64 (i)),(.pointer (some ⟨d,0,none⟩))] T0 [dk d D] (dA (λr' H=>((bI D).err≠0∧r'= .tuple #[.pointer none, .int .i64 (bI D).err]∧H=[dk d (bI D).D])∨((bI D).err=0∧((gN (bI D).recs (yi i e0)=none∧r'= .tuple #[.pointer none, .int .i64 1]∧H=[dk d (bI D).D])∨∃s r lg,gN (bI D).recs (yi i e0)=some s∧r'= .tuple #[.pointer (some ⟨r,0,none⟩), .int .i64 0]∧H=[Ft lg r s,Hs lg d (((bI D).recs.length:Nat):Int) (bI D).used,dk d (bI D).D])))):=by
 refine BD 50 Tryz.func43 rfl rfl rfl λw0 F hF=>sr λ_ J1=>P2 ?_
 refine nx J1 (aa λ_ J2=>sr λ_ J3=>PS ?_);refine tp (iW rfl JD rfl rfl) ?_;refine nx J3 (CN (qx J2 (sr λ_ J4=>PS ?_)));refine CR Rw (IQ d D hD hI hb) ID λvR HR hR=>?_
 rcases hR with⟨he,rfl,rfl⟩| ⟨he,lg,vr,rfl,rfl⟩
 refine P4 ?_;refine P3 ?_;refine nx J4 (aa λ_ J5=>sr λ_ J6=>P2 ?_);refine aq ?_ ?_<;>intro h23;refine nx J6 (CY (sr λ_ J7=>P3 ?_));exact nx J7 (aj (ag (WK [0] (iu rfl rfl rfl (.inl ⟨he,rfl,rfl⟩)))))
 · exact absurd he h23
 change TL _ _ _ _ _ _ _ _ _ [ak lg [(.pointer (some ⟨d,0,none⟩)),(.int .i64 ((((bI D).recs.length:Nat):Int))),(.int .i64 ((bI D).used))] 186,Q8 vr (bI D).recs,dk d (bI D).D];refine zH (p:=p5 vr (bI D).recs.length∧vr.oneCell'=true) (λw m=>by obtain⟨h,_,_,hs⟩:=m;obtain⟨_,_,_,_,a,_⟩:=eU 1 (lb rfl) hs;exact vL a) (λ⟨hsl,hvr⟩=>P4 ?_);refine P3 ?_;refine nx J4 (aa λ_ J8=>sr λ_ J9=>P2 ?_);refine nx J9 (CN (qx J8 (sr λ_ J10=>P2 ?_)))
 refine tp (zS (cs:=RepT.cells (RepT.mk i (.pointer (some ⟨lg,0,none⟩)) ViewT.zero RowT.zero MirT.zero AccT.zero 0 (.pointer none) BookT.zero false 0 0 0 (.slice none 0 0) (#v[0,0,0,0,0]) (#v[RowT.zero,RowT.zero,RowT.zero,RowT.zero,RowT.zero]))) (segs:=[[Value.int .i64 0],[(.pointer none)],ints ViewT.zero.flat,ints RowT.zero.flat,MirT.cells MirT.zero,ints AccT.zero.flat,[Value.int .i64 0],[(.pointer none)],ints BookT.zero.flat,[Value.bool false],[Value.int .i64 0],[Value.int .i64 0],[Value.int .i64 0],[(.slice none 0 0)],ints (#v[0,0,0,0,0]).toList,ints ((#v[RowT.zero,RowT.zero,RowT.zero,RowT.zero,RowT.zero]).toList.flatMap RowT.flat)]) (res:=[[Value.int .i64 i],[(.pointer (some ⟨lg,0,none⟩))],ints ViewT.zero.flat,ints RowT.zero.flat,MirT.cells MirT.zero,ints AccT.zero.flat,[Value.int .i64 0],[(.pointer none)],ints BookT.zero.flat,[Value.bool false],[Value.int .i64 0],[Value.int .i64 0],[Value.int .i64 0],[(.slice none 0 0)],ints (#v[0,0,0,0,0]).toList,ints ((#v[RowT.zero,RowT.zero,RowT.zero,RowT.zero,RowT.zero]).toList.flatMap RowT.flat)]) (parts:=[(0,[Value.int .i64 i]),(1,[(.pointer (some ⟨lg,0,none⟩))])]) rfl rfl dw (by kernel_rfl) (by kernel_rfl) rfl (fw rfl rfl (fw rfl ((rfl:[(.pointer (some ⟨lg,0,none⟩))].length=1).trans (rfl:[(.pointer none)].length=1).symm) mi)) (eG (RepT.mk i (.pointer (some ⟨lg,0,none⟩)) ViewT.zero RowT.zero MirT.zero AccT.zero 0 (.pointer none) BookT.zero false 0 0 0 (.slice none 0 0) (#v[0,0,0,0,0]) (#v[RowT.zero,RowT.zero,RowT.zero,RowT.zero,RowT.zero]))).symm) ?_
 refine XY (RepT.cells (RepT.mk i (.pointer (some ⟨lg,0,none⟩)) ViewT.zero RowT.zero MirT.zero AccT.zero 0 (.pointer none) BookT.zero false 0 0 0 (.slice none 0 0) (#v[0,0,0,0,0]) (#v[RowT.zero,RowT.zero,RowT.zero,RowT.zero,RowT.zero]))) λb28=>?_
 refine PS ?_;refine nx J10 (sr λ_ J11=>cz (H':=Ft lg b28 (GX i e0)::[ak lg [(.pointer (some ⟨d,0,none⟩)),(.int .i64 ((((bI D).recs.length:Nat):Int))),(.int .i64 ((bI D).used))] 186,Q8 vr (bI D).recs,dk d (bI D).D]) (λ_ q=>bv (p:=λ_:Unit=>[ak b28 (RepT.cells ((GX i e0).rep ⟨lg, .pointer none, .slice none 0 0⟩)) 87]) () (aD [0] rfl q)) (PS ?_));refine CE Px (yH) ID ?_;refine CZ Ow (wj lg b28 (GX i e0) firstV) ID λvR=>?_
 refine nx J11 (aa λ_ J12=>sr λ_ J13=>PS ?_);refine tp (dI rfl wG rfl hsl) ?_;refine PS ?_;refine nx J13 (av ?_)
 refine bz (α:=(Nat)×(MS δ)) (λ⟨k,s⟩=>k≤(bI D).recs.length∧gN (bI D).recs (yi i e0)=gN ((bI D).recs.drop k) s) (λ⟨k,s⟩=>[(9,(.pointer (some ⟨b28,0,none⟩))),(32,vr),(33,(.int .i64 ((((bI D).recs.length:Nat):Int)))),(34,(.int .i64 (((k:Nat):Int))))]) (λ⟨k,s⟩=>[Ft lg b28 s,ak lg [(.pointer (some ⟨d,0,none⟩)),(.int .i64 ((((bI D).recs.length:Nat):Int))),(.int .i64 ((bI D).used))] 186,Q8 vr (bI D).recs,dk d (bI D).D]) (λ⟨k,s⟩=>(bI D).recs.length-k) (0,(yi i e0))
  ⟨aO _,rfl⟩ SB
  (λ_ s=>an [0,0,0,0] rfl s) (λ⟨k,s⟩ hinv=>?_)
 obtain⟨hk,hrs⟩:=hinv;refine sr λ_ J14=>PS ?_
 refine aq ?_ ?_<;>intro h35;refine cz (λ_ s=>aD [2] rfl s) (N3 (λus=>?_));change TL _ _ _ _ _ _ _ _ _ [own vr ((bI D).recs.length) (us) 53 1,eJ us (bI D).recs 5,Ft lg b28 s,ak lg [(.pointer (some ⟨d,0,none⟩)),(.int .i64 ((((bI D).recs.length:Nat):Int))),(.int .i64 ((bI D).used))] 186,dk d (bI D).D];refine zH (p:=us.length=(bI D).recs.length*1) (λw m=>m.own_len (i:=0) (lb rfl) rfl) (λhul=>?_);rw[gi]at hul;have hkl:k< (bI D).recs.length:=by omega
 refine iI 0 rfl rfl (by omega) (λg cap hv hcap=>?_);have hvq:vr= .slice (some ⟨g,0,none⟩) (bI D).recs.length cap:=hv;refine nx J14 (aa λ_ J15=>CY (qx J15 (aa λ_ J16=>av (sr λ_ J17=>tp (bO (r:=k) hv rfl wG ld rfl rfl (by omega) (by omega) (by omega)) ?_))));refine tp (de (v:=(us.getD k undef)) rfl gA rfl rfl (fQ 0 rfl hvq rfl) (by simp[List.getD_eq_getElem?_getD,show k<us.length by omega])) ?_;refine PS ?_;refine nx J17 (sr λ_ J18=>PS ?_);refine CF Rv (wy (us.getD k undef) (bI D).recs[k]) ID (λg d s=>vl 1 hkl rfl rfl g d s) ?_;refine P3 ?_;refine XZ JL (ints RecT.zero.flat) λb12=>?_
 refine SW 0 fW br ?_;refine PS ?_;refine nx J18 (aa λ_ J19=>sr λ_ J20=>P2 ?_);refine aq ?_ ?_<;>intro h44;refine nx J20 (CY (sr λ_ J21=>P2 ?_));exact nx J21 (aj (ag (aK (ag (ag (aK (ag (WK [5] (iu rfl rfl rfl (.inr ⟨he, .inl ⟨hrs.trans (Ix hkl h44),rfl,rfl⟩⟩))))))))));refine nx J20 (CN (qx J19 (af (PS ?_))));refine LW 0 en fW br ?_;refine CZ Ru (zk lg b28 s (fO (bI D).recs[k]).1 (M4 h44)) (SM [3]) λvR=>?_
 refine ax (ai (ae J16 (af (AD ?_))));refine PS ?_;refine ax ?_
 exact aM ((k+1,(im s (fO (bI D).recs[k]).1)):(Nat)×(MS δ)) ⟨by omega,hrs.trans (Kt hkl h44)⟩ (by show(bI D).recs.length- (k+1)< (bI D).recs.length-k;omega)
  SB
  (λ_ s=>aD [1,1,0,0] rfl (bv (p:=λus:List Value=>[own vr (bI D).recs.length us 53 1,eJ us (bI D).recs 5]) us (an [2,2,0,1,1] rfl s)))
 refine nx J14 (aa λ_ J22=>CN (aX (aC (aC (bq (ae J12 (sr λ_ J23=>P3 ?_)))))));refine nx J23 (aj (WK [0,0,1] (iu rfl rfl rfl ?_)));exact .inr ⟨he, .inr ⟨s,b28,lg,by rw[hrs,ct (by omega)];rfl,rfl,rfl⟩⟩
def kZ(k:Nat)(m:MsgT):List UInt8:=jR ((k / 5:Nat):Int) ((k%5:Nat):Int) (dy m)
def dq(W:List (List MsgT)):List (List (List UInt8)):=(List.range 25).map λk=>(W.getD k []).map (kZ k)
theorem qz(W:List (List MsgT)):(dq W).length=25:=by simp[dq]
theorem rD(W:List (List MsgT)){k:Nat}(h:k<25):(dq W).getD k []=(W.getD k []).map (kZ k):=by simp[dq,h,List.getD_eq_getElem?_getD]
theorem xe(W:List (List MsgT)){k:Nat}(h:k<25)(hW:W.length=25)(l:List MsgT):(dq W).set k (l.map (kZ k))=dq (W.set k l):=by
 refine List.ext_getElem? λj=>?_
 by_cases hj:j=k
 · subst hj
   rw[List.getElem?_set_self (by rw[qz];exact h)];simp[dq,h,List.getD_eq_getElem?_getD,List.getElem?_set_self (show j<W.length by omega)]
 · rw[List.getElem?_set_ne (λe=>hj e.symm)]
   unfold dq;rw[List.getElem?_map,List.getElem?_map]
   by_cases hk:j<25
   · simp[hk,List.getD_eq_getElem?_getD,List.getElem?_set_ne (λe=>hj e.symm)]
   · simp[hk]
theorem CV{f t:Int}(hf:gp f=true)(ht:gp t=true)(m:MsgT):kZ (bB f t) m=jR f t (dy m):=by
 have h1:0≤f∧f<5:=of_decide_eq_true hf;have h2:0≤t∧t<5:=of_decide_eq_true ht;unfold kZ bB;rw[show(((f.toNat*5+t.toNat) / 5:Nat):Int)=f by omega,show(((f.toNat*5+t.toNat)%5:Nat):Int)=t by omega]
theorem tC{f t:Int}(h:dM f t=true):gp f=true∧gp t=true:=by
 unfold dM at h;rw[ay,ay]at h;exact h.1
theorem JQ{W:List (List MsgT)}(hW:W.length=25){f:Nat}(s:SaidT):pG (dq W) ((f:Nat):Int) s.to' (jR ((f:Nat):Int) s.to' (dy s.msg))=dq (tX W f s):=by
 unfold pG tX;cases hv:dM ((f:Nat):Int) s.to'
 · rfl
 · obtain⟨h1,h2⟩:=iY hv
   obtain⟨h3,h4⟩:=tC hv;rw[if_pos rfl,if_pos rfl,rD W h1,←CV h3 h4,←xe W h1 hW];unfold BQ;rw[bQ];split
   · rw[cJ];rfl
   · rfl
theorem Ky(W:List (List MsgT))(f:Nat)(s:SaidT):(tX W f s).length=W.length:=by unfold tX;split<;>simp
theorem Ic(W:List (List MsgT))(f:Nat)(l:List SaidT):(gJ W f l).length=W.length:=by
 induction l generalizing W with
 |nil=>rfl
 |cons s l ih=>exact(ih _).trans (Ky _ _ _)
theorem Ie(W:List (List MsgT))(f:Nat)(l:List SaidT)(s:SaidT):gJ W f (l++[s])=tX (gJ W f l) f s:=by simp[gJ]
theorem xd(k:Nat)(m:MsgT):(kZ k m).length≤1000000:=by
 unfold kZ;rw[sW];have:=uz m;omega
end Go.Proofs.YtfocodjhmkokpaaGreatDoor
end

section
namespace Api
open Go Leg Codec Dsk Wal
def li(D:DS):Nat→DS
 |0=> .new
 |k+1=>if fu D.s ((k:Nat):Int)=zs then li D k else((li D k).write ((k:Nat):Int) (fu D.s ((k:Nat):Int))).2
def oi(D:DS):DS:=(li D 2048).sync.2
def OX(a:CL)(i:Nat):Option (MS LD):=if(a.at' i).up then none else(cf i (oi (a.at' i).dk)).1
def jH(a:CL)(i:Nat):Option (MS LD):=if(a.at' i).up then(a.at' i).run else(cf i (oi (a.at' i).dk)).1
def OH(s:MS LD)(b:BookT)(i:Nat):BookT:=(fh b ((i:Nat):Int) (dF s.mirror ((i:Nat):Int))).1
def rI(s:MS LD)(b:BookT):Nat→BookT
 |0=>b
 |i+1=>OH s (rI s b i) i
def iy(a:CL):Nat→BookT
 |0=> .zero
 |j+1=>match jH a j with
  |some s=>rI s (iy a j) 5
  |none=>iy a j
def ce(a:CL):BookT:=iy a 5
theorem Bq{a:CL}{j:Nat}{s:MS LD}(h:jH a j=some s):iy a (j+1)=rI s (iy a j) 5:=by rw[iy,h]
theorem Br{a:CL}{j:Nat}(h:jH a j=none):iy a (j+1)=iy a j:=by rw[iy,h]
def gm(a:CL):Nat→ViewT×Bool
 |0=>(firstV,false)
 |j+1=>match jH a j with
  |some s=>if(gm a j).2=false∨s.view.epoch>(gm a j).1.epoch then(s.view,true)else gm a j
  |none=>gm a j
def io(a:CL):ViewT:=(gm a 5).1
theorem q7{a:CL}{j:Nat}(h:jH a j=none):gm a (j+1)=gm a j:=by rw[gm,h]
theorem kS{a:CL}{j:Nat}{s:MS LD}(h:jH a j=some s):gm a (j+1)=if(gm a j).2=false∨s.view.epoch>(gm a j).1.epoch then(s.view,true)else gm a j:=by rw[gm,h]
theorem we{a:CL}{j:Nat}{s:MS LD}(h:jH a j=some s)(hk:(gm a j).2=true)(he: ¬s.view.epoch>(gm a j).1.epoch):gm a (j+1)=gm a j:=by
 rw[kS h,if_neg (λq=>q.elim (λz=>by rw[hk]at z;cases z) he)]
def ua(v:ViewT)(i:Nat):Int:=(jQ v ((i:Nat):Int)).getD ((i:Nat):Int)
def je(B:BookT)(key:Int)(i:Nat):CellT:=cT B ((i:Nat):Int) key
def Kl(B:BookT)(key:Int)(i ow:Nat)(S:List Int):List Int:=S.set ow (fR (S.getD ow 0+fR ((je B key i).inn- (je B key i).out)))
def Od(B:BookT)(key:Int)(i ow j:Nat)(S:List Int):List Int:=S.set ow (fR (S.getD ow 0+fR ((je B key j).given.toList.getD i 0- (je B key i).given.toList.getD j 0)))
def L9(B:BookT)(key:Int)(i ow:Nat)(S:List Int):Nat→List Int
 |0=>S
 |j+1=>Od B key i ow j (L9 B key i ow S j)
def tN(B:BookT)(key:Int)(v:ViewT):Nat→List Int
 |0=>List.replicate 5 0
 |i+1=>if 0≤ua v i∧ua v i<5 then L9 B key i (ua v i).toNat (Kl B key i (ua v i).toNat (tN B key v i)) 5 else tN B key v i
theorem rE(B:BookT)(key:Int)(i ow:Nat)(S:List Int): ∀j,(L9 B key i ow S j).length=S.length
 |0=>rfl
 |j+1=>by rw[L9,Od,cK];exact rE B key i ow S j
theorem iP(B:BookT)(key:Int)(v:ViewT): ∀i,(tN B key v i).length=5
 |0=>by simp[tN]
 |i+1=>by
  rw[tN];split
  · rw[rE,Kl,cK];exact iP B key v i
  · exact iP B key v i
def qc(B:BookT)(key:Int)(k:Nat):Vector CellT 5:=Vector.ofFn λj:Fin 5=>if j.val<k then je B key j.val else .zero
theorem LK{B:BookT}{key:Int}{j:Nat}(hj:j<5):(qc B key 5)[j]=je B key j:=by simp[qc,hj]
theorem LJ{B:BookT}{key:Int}{i:Nat}(hi:i<5):(qc B key i).set i (je B key i) hi=qc B key (i+1):=by
 ext j hj
 rw[Vector.getElem_set];simp only[qc,Vector.getElem_ofFn];split
 · rename_i h;subst h;rw[if_pos (by omega)]
 · by_cases h:j<i
   · rw[if_pos h,if_pos (by omega)]
   · rw[if_neg h,if_neg (by omega)]
section
variable {n:Nat} {a:CL}
end
end Api
namespace Go.Proofs.YtfocodjhmkokpaaGreatDoor
open Go Leg Codec Api Dsk Wal
end Go.Proofs.YtfocodjhmkokpaaGreatDoor
end

section
namespace Api
open Go Leg Codec Dsk Wal
structure RepOk(m:Nat)(s:MS LD):Prop where
 ops:0≤s.ops∧s.ops≤((m:Nat):Int)
 r: ∀x∈s.replies,1≤x.op∧x.op≤s.ops
 one:(s.replies.map (·.op)).Nodup
 w:0<s.waits→s.waits≤s.ops∧∀x∈s.replies,x.op≠s.waits
theorem RepOk.more{m k:Nat}{s:MS LD}(h:RepOk m s)(hk:m≤k):RepOk k s:=⟨⟨h.ops.1,by have:=h.ops.2;omega⟩,h.r,h.one,h.w⟩
theorem RepOk.qt{m:Nat}{s t:MS LD}(h:RepOk m s)(q:Qt s t):RepOk m t:=by
 refine⟨by rw[q.ops];exact h.ops,by rw[q.ops,q.replies];exact h.r,by rw[q.replies];exact h.one,λhw=>?_⟩;rw[q.replies,q.ops];rcases q.waits with e|e
 · rw[e]at hw ⊢;exact h.w hw
 · rw[e]at hw;exact absurd hw (by decide)
theorem ye{l:List Int}{x:Int}(h:l.Nodup)(hx: ∀y∈l,y≠x):(l++[x]).Nodup:=by
 rw[List.nodup_append];exact⟨h,by simp,λa ha b hb=>by rw[cm]at hb;subst hb;exact hx a ha⟩
theorem RepOk.rp{m:Nat}{s t:MS LD}{e v:Int}(h:RepOk m s)(hw:0<s.waits)(q:Rp s t [⟨s.waits,e,v⟩])(w0:t.waits=0)(ho:t.ops=s.ops):RepOk m t:=by
 obtain⟨h1,h2⟩:=h.w hw;refine⟨by rw[ho];exact h.ops,λx hx=>?_,?_,λz=>by rw[w0]at z;exact absurd z (by decide)⟩
 · rw[q.replies]at hx
   rw[ho];rcases bP.1 hx with hx|hx
   · exact h.r x hx
   · rw[cm]at hx;subst hx
     exact⟨by show 1≤s.waits;omega,h1⟩
 · rw[q.replies,cJ]
   exact ye h.one λy hy=>by
    obtain⟨x,hx,rfl⟩:=eH.1 hy;exact h2 x hx
theorem RepOk.cli{m:Nat}{s:MS LD}(h:RepOk m s)(hm:m≤1000000)(o:OpT):RepOk (m+1) (bL KD s o).1:=by
 have ew:fR (s.ops+1)=s.ops+1:=by
  have:=h.ops;exact bY (by omega) (by omega)
 have r1: ∀x∈s.replies,x.op≠s.ops+1:=λx hx=>by have:=(h.r x hx).2;omega
 rcases AX (K:=KD) s o with⟨e,v,q,_,ho,hw⟩| ⟨q,_,ho,hw⟩
 · rw[ew]at q ho
   refine⟨by rw[ho];have:=h.ops;omega,λx hx=>?_,?_,λz=>?_⟩
   · rw[q.replies]at hx
     rw[ho];rcases bP.1 hx with hx|hx
     · have:=h.r x hx;omega
     · rw[cm]at hx;subst hx
       have:=h.ops;show 1≤s.ops+1∧s.ops+1≤s.ops+1;omega
   · rw[q.replies,cJ]
     exact ye h.one λy hy=>by
      obtain⟨x,hx,rfl⟩:=eH.1 hy;exact r1 x hx
   · rcases hw with hw|hw
     · rw[hw]at z ⊢
       obtain⟨h1,h2⟩:=h.w z;rw[ho,q.replies];refine⟨by omega,λx hx=>?_⟩;rcases bP.1 hx with hx|hx
       · exact h2 x hx
       · rw[cm]at hx;subst hx
         show s.ops+1≠s.waits;omega
     · rw[hw]at z;exact absurd z (by decide)
 · rw[ew]at ho hw
   have er:(bL KD s o).1.replies=s.replies:=by rw[q.replies,aL]
   refine⟨by rw[ho];have:=h.ops;omega,λx hx=>?_,by rw[er];exact h.one,λz=>?_⟩
   · rw[er]at hx
     rw[ho];have:=h.r x hx;omega
   · rw[hw,ho,er]
     exact⟨by omega,r1⟩
theorem RepOk.hush{m:Nat}{s:MS LD}(h:RepOk m s):RepOk m s.hush:=⟨h.ops,h.r,h.one,h.w⟩
theorem RepOk.fresh{m:Nat}{i:Int}{e:LD}{s:MS LD}(f:Fresh i e s):RepOk m s:=by
 refine⟨by rw[f.ops];omega,λx hx=>?_,by rw[f.replies];exact List.nodup_nil,λz=>?_⟩
 · rw[f.replies]at hx;cases hx
 · rw[f.waits]at z;exact absurd z (by decide)
theorem CL.set_at{a:CL}{i j:Nat}{x:Slot}{W:List (List MsgT)}(hi:i<a.ms.length):(CL.mk (a.ms.set i x) W).at' j=if j=i then x else a.at' j:=by
 split
 · rename_i h;subst h;exact rl hi
 · rename_i h;exact sv h
abbrev Fu:= @CL.set_at
structure RepsOk(m:Nat)(a:CL):Prop where
 ok: ∀i s,(a.at' i).run=some s→RepOk m s
theorem RepsOk.more{m k:Nat}{a:CL}(h:RepsOk m a)(hk:m≤k):RepsOk k a:=⟨λi s q=>(h.ok i s q).more hk⟩
theorem RepsOk.put{m:Nat}{a:CL}(h:RepsOk m a){i:Nat}(hi:i<a.ms.length){x:Slot}{W:List (List MsgT)}(hx: ∀s,x.run=some s→RepOk m s):RepsOk m ⟨a.ms.set i x,W⟩:=⟨λj s q=>by
 rw[Fu hi]at q;split at q
 · exact hx s q
 · exact h.ok j s q⟩
theorem km{x:Slot}{s:MS LD}(h:x.run=some s):x.reps=x.past++s.replies:=by unfold Slot.reps;rw[h]
theorem jk{x:Slot}(h:x.run=none):x.reps=x.past:=by unfold Slot.reps;rw[h];exact aL _
theorem AT{n m:Nat}{a:CL}(h:CLOk n a)(g:RepsOk m a)(hm:m≤1000000)(o:OpT):RepsOk (m+1) (zy a o).1:=by
 have none':RepsOk (m+1) a:=g.more (by omega)
 have did: ∀{i:Nat} {s t:MS LD},i<5→(a.at' i).run=some s→RepOk (m+1) t→RepsOk (m+1) (a.did i t):=λhi _ ht=>RepsOk.put none' (by rw[h.ms];exact hi) λs q=>by
  obtain rfl:=bK q;exact ht.hush
 unfold zy
 by_cases hm':gp o.at'=false
 · rw[if_pos hm'];exact none'
 rw[if_neg hm'];obtain⟨hi,_⟩:=jd (show gp o.at'=true by simpa using hm');have hi2:o.at'.toNat<a.ms.length:=by rw[h.ms];exact hi
 split
 · unfold yQ
   split
   · exact none'
   · rename_i s hs
     split
     · exact none'
     · exact did hi hs ((g.ok _ s hs).cli hm o)
 split
 · unfold n9
   split
   · exact none'
   split
   · exact none'
   split
   · split
     · exact⟨none'.ok⟩
     · exact none'
   split
   · exact none'
   split
   · exact⟨none'.ok⟩
   · rename_i m' l _ _
     unfold p3;split
     · exact⟨none'.ok⟩
     · rename_i s hs
       split
       · exact⟨none'.ok⟩
       · split
         · have hs':(a.at' o.to'.toNat).run=some s:=hs
           have ok:RepOk (m+1) (fS KD s ((o.at'.toNat:Nat):Int) (js (dy m')).1):=by
            have h0:=(g.ok _ s hs').more (Nat.le_succ m);rcases wR (K:=KD) s ((o.at'.toNat:Nat):Int) (js (dy m')).1 with q| ⟨hw,q,q2,q3⟩
            · exact h0.qt q
            · exact h0.rp hw q q2 q3
           unfold CL.did
           by_cases ht:o.to'.toNat<5
           · exact RepsOk.put (a:=a) none' (by rw[h.ms];exact ht) λs q=>by
              obtain rfl:=bK q;exact ok.hush
           · rw[show((a.way (bB o.at' o.to') l).ms.set o.to'.toNat _)=a.ms from g9 (by show a.ms.length≤_;rw[h.ms];omega)]
             exact⟨none'.ok⟩
         · exact⟨none'.ok⟩
 split
 · unfold xj
   split
   · exact none'
   · rename_i s hs
     split
     · exact none'
     · exact did hi hs (((g.ok _ s hs).more (Nat.le_succ m)).qt inferInstance)
 split
 · refine none'.put hi2 λs q=>?_
   unfold qe at q;split at q
   · rename_i t ht
     obtain rfl:=bK q;have:=none'.ok _ t ht;exact⟨this.ops,this.r,this.one,this.w⟩
   · rename_i ht
     have q:(a.at' o.at'.toNat).run=some s:=q;rw[ht]at q;cases q
 split
 · exact none'.put hi2 λs q=>by cases q
 split
 · refine none'.put hi2 λs q=>?_
   unfold fq at q;split at q
   · exact none'.ok _ s q
   · obtain⟨_,hr⟩:=gB q
     exact RepOk.fresh (mE _ (qm _ _) hr)
 · exact none'
theorem xt{i:Nat}{x:Slot}{s:MS LD}(h:(fq i x).1.run=some s):x.run=some s∨(cf i x.D).1=some s:=by
 unfold fq at h;split at h
 · exact .inl h
 · exact .inr h
theorem yh:RepsOk 0 CL.new:=⟨λi s q=>by
 by_cases hi:i<5
 · have e:CL.new.at' i=iQ i:=by simp[CL.new,CL.at',List.getD_eq_getElem?_getD,hi]
   rw[e]at q;unfold iQ at q;rcases xt q with q|q
   · cases q
   obtain⟨_,hr⟩:=gB q;exact RepOk.fresh (mE _ (qm _ _) hr)
 · have e:CL.new.at' i= .nil:=by
    unfold CL.at' CL.new;rw[List.getD_eq_getElem?_getD,List.getElem?_eq_none (by rw[bQ,gv];omega),y6]
   rw[e]at q;cases q⟩
theorem Ip(a:CL)(l:List OpT)(o:OpT):qR a (l++[o])=(zy (qR a l) o).1:=by simp[qR]
theorem Io(a:CL)(l:List OpT){k:Nat}(hk:k<l.length):qR a (l.take (k+1))=(zy (qR a (l.take k)) (l[k])).1:=by
 rw[bU hk,Ip]
def Sml(n:Int):Prop:=0≤n∧n≤20
theorem Sml.inr{n:Int}(h:Sml n):rz n:=⟨by have:=h.1;omega,by have:=h.2;omega⟩
abbrev Sq:= @Sml.inr
theorem mc{k:Int}(h:decide (0≤k∧k≤20)=true):Sml k:=by
 have:0≤k∧k≤20:=of_decide_eq_true h;exact this
theorem Dt(v:ViewT)(c:ChangeT):Sml (dW v c).2:=by
 unfold dW
 repeat' split
 all_goals exact mc rfl
theorem H8(D:DS)(at':Int)(bs:List UInt8):Sml (D.write at' bs).1:=by
 unfold DS.write
 repeat' split
 all_goals exact mc rfl
theorem xv: ∀(ss:List il) (at':Int) (D:DS),Sml (fp ss at' D).1
 | [],_,_=>mc rfl
 |s::ss,at',D=>by
  rw[fp];split
  · exact xv ss _ _
  · exact H8 _ _ _
theorem wT(e:LD)(bs:List UInt8):Sml (e.put bs).2:=by
 unfold LD.put lu DS.sync;simp only
 repeat' split
 all_goals first|exact mc rfl|exact xv _ _ _
theorem Kh(x:RowT)(key n k:Int)(c:CellT):Sml (ka x key n k c).2:=by
 unfold ka;split<;>exact mc rfl
theorem Ki(x:RepT)(o:OpT):Sml (gd x o).2:=by
 unfold gd oE oF ln
 repeat' split
 all_goals first|exact mc rfl|exact Kh _ _ _ _ _
theorem Ds(x:RepT)(o:OpT):Sml (iD x o).2.2:=by
 unfold iD
 repeat' split
 all_goals first|exact mc rfl|exact Ki _ _
theorem Lj(b:BookT)(key:Int):rz (eN b key):=by
 unfold eN;rw[show m4 b key 5=_ from m3 b key 4];exact k8 _
theorem Li(x:RepT)(o:OpT):rz (iD x o).2.1:=by
 unfold iD
 repeat' split
 all_goals first|exact Sq (mc rfl)|exact Lj _ _
structure RW(r:ReplyT):Prop where
 op:rz r.op
 err:rz r.err
 value:rz r.value
theorem RW.wf{r:ReplyT}(h:RW r):WF r.flat:=λn hn=>by
 simp only[ReplyT.flat,cg,List.not_mem_nil,or_false]at hn;rcases hn with rfl|rfl|rfl
 · exact oe h.op
 · exact oe h.err
 · exact oe h.value
theorem Ju(s:MS LD)(o:OpT): ∀r∈(bL KD s o).1.replies,r∈s.replies∨RW r:=by
 have rep: ∀(t u:MS LD) (op e v:Int),t.replies=s.replies→rz op→rz e→rz v→u.replies=(dp t op e v).replies→∀r∈u.replies,r∈s.replies∨RW r:=λt u op e v ht h1 h2 h3 hu r hr=>by
  rw[hu]at hr;have hr:r∈t.replies++[⟨op,e,v⟩]:=hr;rcases bP.1 hr with hr|hr
  · rw[ht]at hr;exact .inl hr
  · rw[cm]at hr;subst hr;exact .inr ⟨h1,h2,h3⟩
 have z:rz 0:=Sq (mc rfl);have ho:rz (bo s).ops:=k8 _
 have hb:Sml (bW KD (bo s) o.change).2:=by
  unfold bW
  repeat' split
  all_goals first|exact mc rfl|exact wT _ _
 unfold bL;split
 · unfold dD
   split
   · refine rep (bo s) _ _ _ 0 rfl ho (Sq ?_) z rfl
     unfold fI;split
     · exact mc rfl
     · exact Dt _ _
   · have q:Qt (bo s) (bW KD (bo s) o.change).1:=inferInstance
     split
     · exact rep (bW KD (bo s) o.change).1 _ _ _ 0 q.replies ho hb.inr z rfl
     · have q2:Qt (dp (bW KD (bo s) o.change).1 (bo s).ops 0 0) (lP KD (dp (bW KD (bo s) o.change).1 (bo s).ops 0 0) (jv (bo s).view (eI (bo s)) o.change)):=inferInstance
       exact rep (bW KD (bo s) o.change).1 _ _ 0 0 q.replies ho z z q2.replies
 · unfold l9
   split
   · exact rep (bo s) _ _ _ _ rfl ho (Ds _ _).inr (Li _ _) rfl
   · have hg:Sml (dX KD (bo s) (cS (bo s) o).1 (bo s).ops).2:=by
      unfold dX;split
      · exact wT _ _
      · exact mc rfl
     rcases Ca (K:=KD) (bo s) (cS (bo s) o).1 (bo s).ops with⟨h,q⟩| ⟨h,q,_⟩
     · rw[if_pos h]
       exact rep (dX KD (bo s) (cS (bo s) o).1 (bo s).ops).1 _ _ _ 0 q.replies ho hg.inr z rfl
     · rw[if_neg (by omega)]
       intro r hr;rw[q.replies,aL]at hr;exact .inl hr
def N5(a:CL):Prop:=∀i,∀r∈(a.at' i).reps,RW r
theorem Hg:N5 CL.new:=λi r hr=>by
 by_cases hi:i<5
 · have e:CL.new.at' i=iQ i:=by simp[CL.new,CL.at',List.getD_eq_getElem?_getD,hi]
   rw[e]at hr;unfold iQ fq at hr;have hr:r∈(Slot.mk (cf i Slot.nil.D).1 (bI Slot.nil.D).D []).reps:=hr;cases hs:(cf i Slot.nil.D).1 with
   |none=>rw[hs]at hr;unfold Slot.reps at hr;simp at hr
   |some s=>
    rw[hs]at hr;obtain⟨_,hr'⟩:=gB hs;have f:=mE _ (qm _ _) hr';unfold Slot.reps at hr;simp[f.replies]at hr
 · have e:CL.new.at' i= .nil:=by
    unfold CL.at' CL.new;rw[List.getD_eq_getElem?_getD,List.getElem?_eq_none (by rw[bQ,gv];omega),y6]
   rw[e]at hr;unfold Slot.reps Slot.nil at hr;simp at hr
theorem OR{n m:Nat}{a:CL}(h:CLOk n a)(g:RepsOk m a)(hm:m≤1000000)(hw:N5 a)(o:OpT):N5 (zy a o).1:=by
 have did: ∀{i:Nat} {s t:MS LD} {W:List (List MsgT)},i<5→(a.at' i).run=some s→(∀r∈t.replies,r∈s.replies∨RW r)→N5 ⟨a.ms.set i {a.at' i with run:=some t.hush},W⟩:=λ {i s t W} hi hs ht j r hr=>by
  rw[Fu (by rw[h.ms];exact hi)]at hr;split at hr
  · rw[km (x:= {a.at' i with run:=some t.hush}) rfl]at hr
    have hsl: ∀r∈(a.at' i).past++s.replies,RW r:=λr hr=>hw i r (by rw[km hs];exact hr)
    rcases bP.1 hr with hr|hr
    · exact hsl r (Fk _ hr)
    · rcases ht r hr with hr|hr
      · exact hsl r (CA _ hr)
      · exact hr
  · exact hw j r hr
 have put: ∀{i:Nat} {x:Slot},i<5→x.reps=(a.at' i).reps→N5 (a.set i x):=λ {i x} hi hx j r hr=>by
  have hr:r∈((CL.mk (a.ms.set i x) a.W).at' j).reps:=hr;rw[Fu (by rw[h.ms];exact hi)]at hr;split at hr
  · rw[hx]at hr;exact hw i r hr
  · exact hw j r hr
 unfold zy
 by_cases hm':gp o.at'=false
 · rw[if_pos hm'];exact hw
 rw[if_neg hm'];obtain⟨hi,_⟩:=jd (show gp o.at'=true by simpa using hm');split
 · unfold yQ
   split
   · exact hw
   · rename_i s hs
     split
     · exact hw
     · exact did hi hs (Ju s o)
 split
 · unfold n9
   split
   · exact hw
   split
   · exact hw
   split
   · split
     · exact hw
     · exact hw
   split
   · exact hw
   split
   · exact hw
   · rename_i m' l _ _
     unfold p3;split
     · exact hw
     · rename_i s hs
       split
       · exact hw
       · split
         · have hs':(a.at' o.to'.toNat).run=some s:=hs
           by_cases ht:o.to'.toNat<5
           · refine did (W:=gJ (a.W.set (bB o.at' o.to') l) o.to'.toNat _) ht hs' λr hr=>?_
             rcases wR (K:=KD) s ((o.at'.toNat:Nat):Int) (js (dy m')).1 with q| ⟨hw',q,_,_⟩
             · rw[q.replies]at hr;exact .inl hr
             · rw[q.replies]at hr
               rcases bP.1 hr with hr|hr
               · exact .inl hr
               · rw[cm]at hr;subst hr
                 have h1:=(g.ok _ s hs').w hw';have h2:=(g.ok _ s hs').ops;exact .inr ⟨⟨by show-9223372036854775808≤s.waits;omega,by show s.waits<9223372036854775808;omega⟩,Sq ⟨Int.le_refl _,by show(0:Int)≤20;omega⟩,Sq ⟨Int.le_refl _,by show(0:Int)≤20;omega⟩⟩
           · intro j r hr
             unfold CL.did at hr;rw[show((a.way (bB o.at' o.to') l).ms.set o.to'.toNat _)=a.ms from g9 (by show a.ms.length≤_;rw[h.ms];omega)]at hr;exact hw j r hr
         · exact hw
 split
 · unfold xj
   split
   · exact hw
   · rename_i s hs
     split
     · exact hw
     · refine did (W:=gJ a.W o.at'.toNat _) hi hs λr hr=>?_
       have q:Qt s (gG KD s):=inferInstance;rw[q.replies]at hr;exact .inl hr
 split
 · refine put hi ?_
   unfold qe;split
   · rename_i s hs
     rw[km hs,km (x:= {a.at' o.at'.toNat with run:=some (s.dsk (s.e.D.arm o.n))}) rfl];rfl
   · rename_i hs
     rw[jk hs];exact jk hs
 split
 · exact put hi (jk rfl)
 split
 · refine put hi ?_
   unfold fq;split
   · rfl
   · rename_i hs
     rw[jk hs];cases hd:(cf o.at'.toNat (a.at' o.at'.toNat).D).1 with
     |none=>exact jk rfl
     |some s=>
      obtain⟨_,hr⟩:=gB hd;have f:=mE _ (qm _ _) hr;show(Slot.mk (some s) _ (a.at' o.at'.toNat).past).reps=_;rw[km (x:=Slot.mk (some s) _ (a.at' o.at'.toNat).past) rfl,f.replies,aL]
 · exact hw
theorem G6: ∀(l:List OpT) {n m:Nat} {a:CL},CLOk n a→RepsOk m a→N5 a→(∀o∈l,OkOp o)→m+l.length≤1000000→N5 (qR a l)
 | [],_,_,_,_,_,hw,_,_=>hw
 |o::l,n,m,a,h,g,hw,ho,hl=>by
  rw[ah]at hl;exact G6 l (HB h (ho o (cn ..))) (AT h g (by omega) o) (OR h g (by omega) hw o) (λx hx=>ho x (cI _ hx)) (by omega)
end Api
end

section
namespace Go.Proofs.YtfocodjhmkokpaaGreatDoor
open Go Leg Codec Api Dsk Wal
def mW:List UInt8:=[109,97,99,104,105,110,101,32]
def rW:List UInt8:=[114,101,112,108,121]
def cW:List UInt8:=[99,111,117,110,116,101,114]
def OP(i:Nat):List UInt8:=mV (mW++Lib.itoa ((i:Nat):Int)++[32,100,111,119,110]) []
def uR(s:MS LD):List Int:=s.view.epoch::s.own.version::jy s.view.members
def O6(i:Nat)(s:MS LD):List UInt8:=mV (mW++Lib.itoa ((i:Nat):Int)++[32,117,112]) (uR s)
def iF(a:CL)(i:Nat):List UInt8:=match(a.at' i).run with
 |some s=>if(a.at' i).up then O6 i s else OP i
 |none=>OP i
def Ks(r:ReplyT):List UInt8:=mV rW [r.op,r.err,r.value]
def lp(l:List ReplyT):List UInt8:=l.flatMap Ks
def p1(a:CL)(i:Nat):List UInt8:=iF a i++lp (a.at' i).reps
def eM(a:CL)(i:Nat):List UInt8:=(List.range i).flatMap (p1 a)
def pP(a:CL)(k:Nat):List Int:=((k:Nat):Int)::eN (ce a) ((k:Nat):Int)::tN (ce a) ((k:Nat):Int) (io a) 5
def EO(a:CL)(k:Nat):List UInt8:=mV cW (pP a k)
def kT(a:CL)(k:Nat):List UInt8:=(List.range k).flatMap (EO a)
def oT(a:CL):List UInt8:=eM a 5++kT a 4
theorem xX{α:Type}(f:Nat→List α)(k:Nat):(List.range (k+1)).flatMap f=(List.range k).flatMap f++f k:=by rw[dh,sw];simp
theorem qY(a:CL)(i:Nat):eM a (i+1)=eM a i++p1 a i:=xX ..
theorem pO(a:CL)(k:Nat):kT a (k+1)=kT a k++EO a k:=xX ..
theorem xO(l:List ReplyT){k:Nat}(h:k<l.length):lp (l.take (k+1))=lp (l.take k)++Ks l[k]:=by
 unfold lp;rw[bU h,sw];simp
theorem rP{n:Int}(h:rz n):zX n:=⟨h.1,by have:=h.2;omega⟩
theorem kK{n:Int}(h:0≤n∧n≤1000):zX n:=⟨by omega,by omega⟩
theorem Gi(n:Int):zX (fR n):=rP (k8 n)
theorem Bb:All64 []:=λ_ h=>by cases h
theorem pU{n:Int}{l:List Int}(h:zX n)(g:All64 l):All64 (n::l):=λm hm=>by
 rcases cg.1 hm with rfl|hm
 · exact h
 · exact g m hm
theorem Hv{l:List Int}(h:WF l){n:Int}(hn:n∈l):zX n:=rP (tn (h n hn))
theorem Ba{r:ReplyT}(h:RW r):All64 [r.op,r.err,r.value]:=λn hn=>Hv (l:=r.flat) h.wf (by simpa [ReplyT.flat]using hn)
theorem xy{b n:Int}(h:n∈jy b):0≤n∧n<5:=by
 unfold jy kQ at h;obtain⟨i,hi,rfl⟩:=eH.1 h;have:=ei.1 (O2.1 hi).1;omega
theorem tO(b:Int):(jy b).length≤5:=by
 unfold jy kQ;rw[bQ];exact tg (p7 ..) (by simp)
theorem all64_up{s:MS LD}[h:OkR KD s]:All64 (uR s):=pU (Hv h.view.wf (by simp[ViewT.flat])) (pU (rP h.own.version) λn hn=>by have:=xy hn;exact kK (by omega))
theorem Gj(b:BookT)(key:Int):zX (eN b key):=by
 unfold eN;rw[m3];exact Gi _
theorem A9{l:List Int}(h:All64 l)(i:Nat){n:Int}(hn:zX n):All64 (l.set i n):=λm hm=>by
 rcases Re hm with hm|rfl
 · exact h m hm
 · exact hn
theorem A8{B:BookT}{key:Int}{i ow:Nat}{S:List Int}(h:All64 S): ∀j,All64 (L9 B key i ow S j)
 |0=>h
 |j+1=>A9 (A8 h j) _ (Gi _)
theorem vA(B:BookT)(key:Int)(v:ViewT): ∀i,All64 (tN B key v i)
 |0=>λn hn=>by obtain rfl:=List.eq_of_mem_replicate hn;exact kK (by omega)
 |i+1=>by
  rw[tN];split
  · exact A8 (A9 (vA B key v i) _ (Gi _)) 5
  · exact vA B key v i
theorem vB(a:CL){k:Nat}(hk:k<4):All64 (pP a k):=pU (kK (by omega)) (pU (Gj ..) (vA (ce a) ((k:Nat):Int) (io a) 5))
theorem pe(a:CL)(k:Nat):(pP a k).length=7:=by simp[pP,iP]
theorem wP(s:MS LD):(uR s).length≤7:=by have:=tO s.view.members;simp only[uR,ah];omega
theorem Kr{r:ReplyT}(h:RW r):(Ks r).length≤72:=rM (Ba h)
theorem rG: ∀{l:List ReplyT},(∀r∈l,RW r)→(lp l).length≤72*l.length
 | [],_=>aH _
 |r::l,h=>by
  have h1:=Kr (h r (cn ..));have h2:=rG (l:=l) λx hx=>h x (cI _ hx)
  show(Ks r++lp l).length≤_;simp only[ac,ah];omega
theorem HA{i:Nat}(h:i<5):(OP i).length≤200:=by
 have h1:=rM (ws:=mW++Lib.itoa ((i:Nat):Int)++[32,100,111,119,110]) Bb;have h2:=ol (kK (n:=((i:Nat):Int)) (by omega));unfold OP;simp only[ac,ah,ao,mW]at h1 ⊢;omega
theorem Mj{i:Nat}(h:i<5){s:MS LD}[OkR KD s]:(O6 i s).length≤200:=by
 have h1:=rM (ws:=mW++Lib.itoa ((i:Nat):Int)++[32,117,112]) (all64_up (s:=s));have h2:=ol (kK (n:=((i:Nat):Int)) (by omega));have h3:=wP s;unfold O6;simp only[ac,ah,ao,mW]at h1 ⊢;omega
structure TOk(n:Nat)(a:CL):Prop where
 ok:CLOk n a
 rws:N5 a
theorem TOk.run{n:Nat}{a:CL}(h:TOk n a){i:Nat}(hi:i<5){s:MS LD}(hs:(a.at' i).run=some s):OkR KD s:=((h.ok.at' i hi).run s hs).1
theorem TOk.reps{n:Nat}{a:CL}(h:TOk n a){i:Nat}(hi:i<5):(a.at' i).reps.length≤n:=by have:=(h.ok.at' i hi).reps;omega
theorem rR{n:Nat}{a:CL}(h:TOk n a){i:Nat}(hi:i<5):(iF a i).length≤200:=by
 unfold iF;split
 · rename_i s hs
   have:=h.run hi hs;split
   · exact Mj hi
   · exact HA hi
 · exact HA hi
theorem I3{n:Nat}{a:CL}(h:TOk n a){i:Nat}(hi:i<5):(p1 a i).length≤200+72*n:=by
 have h1:=rR h hi;have h2:=rG (l:=(a.at' i).reps) (h.rws i);have h3:=h.reps hi;unfold p1;rw[ac];omega
theorem nP{n:Nat}{a:CL}(h:TOk n a): ∀{i:Nat},i≤5→(eM a i).length≤i* (200+72*n)
 |0,_=>aO _
 |i+1,hi=>by
  have h1:=nP h (i:=i) (by omega);have h2:=I3 h (i:=i) (by omega);rw[qY,ac,Nat.succ_mul];omega
theorem LF(a:CL){k:Nat}(hk:k<4):(EO a k).length≤162:=by
 have h1:=rM (ws:=cW) (vB a hk);rw[pe]at h1;exact h1
theorem rT(a:CL): ∀{k:Nat},k≤4→(kT a k).length≤k*162
 |0,_=>aO _
 |k+1,hk=>by
  have h1:=rT a (k:=k) (by omega);have h2:=LF a (k:=k) (by omega);rw[pO,ac,Nat.succ_mul];omega
theorem x9(c:Nat)(w:Int):
 DT 30 #[(.pointer (some ⟨c,0,none⟩)),(.int .i64 (w))] T0 [] (RI (.bool (gp w)) []):=by
 refine BD 15 Tryz.func30 rfl rfl rfl λw0 F hF=>sr λ_ J1=>PS ?_
 refine nx J1 (sr λ_ J2=>PS ?_);refine tp (jU rfl QH rfl rfl) ?_;refine P3 ?_;refine aq ?_ ?_<;>intro h9
 iterate 6 refine PS ?_
 refine nx J2 (aj (WK [] (aw rfl rfl ?_)));exact⟨congrArg Value.bool (by unfold gp;simp only[decide_eq_decide];omega),rfl⟩;refine P2 ?_;refine UF ?_;refine UF ?_;refine P2 ?_;refine nx J2 (aj (WK [] (aw rfl rfl ?_)));exact⟨congrArg Value.bool (by unfold gp;symm;exact decide_eq_false (by omega)),rfl⟩
theorem eb(c i:Nat)(hi:i<5):DT 30 #[.pointer (some ⟨c,0,none⟩), .int .i64 ((i:Nat):Int)] T0 [] (RI (.bool true) []):=by
 have:=x9 c ((i:Nat):Int)
 rwa [show gp ((i:Nat):Int)=true from decide_eq_true ⟨by omega,by omega⟩]at this
theorem tE(c n i:Nat)(D M P:Nat→Value)(hi:i<5)(hM:M i= .pointer none):
 DT 29 #[(.pointer (some ⟨c,0,none⟩)),(.int .i64 (((i:Nat):Int)))] T0 [ak c (eV n D M P) 73] (RI (.bool false) [ak c (eV n D M P) 73]):=by
 refine BD 27 Tryz.func29 rfl rfl rfl λw0 F hF=>sr λ_ J1=>PS ?_
 refine nx J1 (sr λ_ J2=>P2 ?_);refine CE qV (eb c i hi) ID ?_;refine P4 ?_;refine FA 6 qp p9 ?_;refine IX (6+i) wE kI ?_;refine LT 0 uG (.pointer none) ?_ (hc:=by exact(yR n D M P hi).trans (congrArg some hM));refine tq (jD rfl uG rfl rfl) ?_;refine P2 ?_
 iterate 8 refine UF ?_
 refine P2 ?_;exact nx J2 (aj (WK [0] (aw rfl rfl ⟨rfl,rfl⟩)))
theorem Po (c i : Nat) : y8 Tryz.prog 113 (Pn c i) "Send" 215 := fun w => by kernel_rfl
theorem tD(c n i:Nat)(D M P:Nat→Value)(hi:i<5)(d r:Nat)(e:DS)(hD:D i= .pointer (some ⟨d,0,none⟩))(hM:M i= .pointer (some ⟨r,0,none⟩)):
 DT 29 #[(.pointer (some ⟨c,0,none⟩)),(.int .i64 (((i:Nat):Int)))] T0 [ak c (eV n D M P) 73,dk d e] (RI (.bool (!e.dn)) [ak c (eV n D M P) 73,dk d e]):=by
 refine BD 27 Tryz.func29 rfl rfl rfl λw0 F hF=>sr λ_ J1=>PS ?_
 refine nx J1 (sr λ_ J2=>P2 ?_);refine CE qV (eb c i hi) ID ?_;refine P4 ?_;refine FA 6 qp p9 ?_;refine IX (6+i) wE kI ?_;refine LT 0 uG (.pointer (some ⟨r,0,none⟩)) ?_ (hc:=by exact(yR n D M P hi).trans (congrArg some hM));refine tq (jU rfl uG rfl rfl) ?_
 iterate 5 refine PS ?_
 refine FA 1 qp Bv ?_;refine IX (1+i) Nh ww ?_;refine LT 0 JD (.pointer (some ⟨d,0,none⟩)) ?_ (hc:=by exact(EU n D M P hi).trans (congrArg some hD));refine CE Pz (HC d e) (SM [1]) ?_;refine tq (nq rfl rfl rfl) ?_;refine P2 ?_;exact nx J2 (aj (WK [1,0] (aw rfl rfl ⟨rfl,rfl⟩)))
theorem FP(c n i:Nat)(D M P:Nat→Value)(hi:i<5)(d:Nat)(e:DS)(hD:D i= .pointer (some ⟨d,0,none⟩))(W:List (List MsgT))(hW:W.length=25)(to':Int)(m:MsgT):
 DT 215 #[(.agg #[(.pointer (some ⟨c,0,none⟩)),(.int .i64 (((i:Nat):Int)))]),(.int .i64 (to')),(.agg (ints m.flat).toArray)] T0 [ak c (eV n D M P) 73,dk d e,eR 135 184 5 n (dq W)] (dA (λ_ H=>H=[ak c (eV n D M P) 73,dk d e,eR 135 184 5 n (dq (if e.dn then W else tX W i ⟨to',m⟩))])):=by
 refine BD 27 Tryz.func215 rfl rfl rfl λw0 F hF=>sr λ_ J1=>XB λb3=>?_
 refine XY (ints m.flat) λb5=>?_
 refine nx J1 (aa λ_ J2=>D2 1 2 dx ?_);refine FD 0 0 GT Mp ?_;refine LX 1 QH (.pointer (some ⟨c,0,none⟩)) ?_ (hc:=by exact rfl);refine FD 2 1 GT aR ?_;refine LX 3 Y3 (.int .i64 (((i:Nat):Int))) ?_ (hc:=by exact rfl);refine PD 4 ?_;refine FD 5 1 qp Bv ?_;refine IY 6 (1+i) Nh ww ?_;refine LX 7 JD (.pointer (some ⟨d,0,none⟩)) ?_ (hc:=by exact(EU n D M P hi).trans (congrArg some hD));refine AL 8 ?_;refine CE Pz (HC d e) (SM [3]) ?_;refine bh ?_ ?_<;>intro h14;refine EN (PD 9 ?_);refine DN (ae J2 (CN (aV (WK [3,0,2] (bC rfl ?_)))));exact by rw[show e.dn=true by assumption];rfl
 refine EN (PD 9 ?_);refine DN (ae J2 (CY (s8 (λw=>Frm F w∧w.heap[b3]?=some (.cells ([(.pointer (some ⟨c,0,none⟩)),(.int .i64 (((i:Nat):Int)))]).toArray 113 (0,0))∧w.heap[c]?=some (.cells (eV n D M P).toArray 73 (0,0))∧w.heap[b5]?=some (.cells (ints m.flat).toArray 163 (0,0))∧True) dx rfl (λ_ s=>⟨fm s,s.block 2 (lb rfl) rfl,s.block 3 (lb rfl) rfl,s.block 1 (lb rfl) rfl,trivial⟩) (FD 0 0 GT Mp ?_))));refine LX 1 QH (.pointer (some ⟨c,0,none⟩)) ?_ (hc:=by exact rfl);refine PD 2 ?_;refine FD 3 0 qp C7 ?_;refine LX 4 Md (.pointer (some ⟨n,0,none⟩)) ?_ (hc:=by exact ET n D M P);refine FD 5 1 GT aR ?_;refine LX 6 Y3 (.int .i64 (((i:Nat):Int))) ?_ (hc:=by exact rfl);refine PD 7 ?_;refine LY 8 bj cp aJ ?_;refine AL 9 ?_;refine CR PG (Ex m) ID λvR HR hR=>?_
 obtain⟨_,rfl,rfl⟩:=hR;revert vR;intro ue;refine EN (AL 10 ?_);refine CQ PH (zu n (dq W) ((i:Nat):Int) to' ue (dy m) (uz m) (qz W)) (SM [5]) (λg d s=>L6 (wX 0 rfl rfl g d s)) λvR HR hR=>?_
 obtain⟨_,rfl⟩:=hR;rw[JQ hW ⟨to',m⟩];refine EN (DN (WK [5,2,0] (bC rfl ?_)));exact by rw[show e.dn=false by assumption];rfl
def IN(c n d i:Nat)(D M P:Nat→Value)(W:List (List MsgT))(e:LD)(l:List SaidT):HP:=bH [ak c (eV n D M P) 73,dk d e.D,eR 135 184 5 n (dq (gJ W i l))]
section
variable {c n d i:Nat} {D M P:Nat→Value} {W:List (List MsgT)} {e:LD} {l:List SaidT} {H:List HP} {h:Hl}
theorem vd(s:bH (IN c n d i D M P W e l::H) h):bH (ak c (eV n D M P) 73::dk d e.D::eR 135 184 5 n (dq (gJ W i l))::H) h:=(ci [_,_,_] H).2 s
theorem vc(s:bH (ak c (eV n D M P) 73::dk d e.D::eR 135 184 5 n (dq (gJ W i l))::H) h):bH (IN c n d i D M P W e l::H) h:=(ci [_,_,_] H).1 s
end
def yI(c n d i:Nat)(D M P:Nat→Value)(hi:i<5)(hD:D i= .pointer (some ⟨d,0,none⟩))(W:List (List MsgT))(hW:W.length=25):Env LD where
 toDk:=KD
 T:=113
 ov:=Pn c i
 sf:=215
 E:=IN c n d i D M P W
 lg g e:=Hs g d ((e.cnt:Nat):Int) e.used
 me:=Po c i
 nm:=PI
 say e l to' m _:=by
  refine Leg.Does.conv (FP c n i D M P hi d e.D hD (gJ W i l) (by rw[Ic];exact hW) to' m) (λh s=>vd s) λx H F w hp hs=>?_
  cases x with
  |returned v=>
   obtain rfl:=hp;refine⟨_,hs.mono (λh s=>vc (l:=if KD.dn e then l else l++[SaidT.mk to' m]) ?_),rfl⟩
   have q:gJ W i (if KD.dn e then l else l++[SaidT.mk to' m])=if e.D.dn then gJ W i l else tX (gJ W i l) i ⟨to',m⟩:=by
    show gJ W i (if e.D.dn then l else _)=_;split
    · rfl
    · exact Ie ..
   rw[q];exact s
  |panicked c=>exact hp.elim
  |outgrown=>exact hp.elim
 put g x bs e l hok hlen:=by
  refine Leg.Does.withinR (A:=[Hs g d ((e.cnt:Nat):Int) e.used,dk d e.D]) (B:=[ak c (eV n D M P) 73,eR 135 184 5 n (dq (gJ W i l))]) (C1 g d e.cnt e.used x bs e.D hok.dk.ok (by have:=hok.dk.ws;omega) hok.used (by have:=hok.cnt;have:=hok.used;omega)) (λF g h dj=>QR h dj) (λh s=>?_) λv H hp=>?_
  · exact aD [3,1,0,0] rfl (vd (aD [1,0] rfl s))
  · obtain⟨hv,rfl⟩:=hp
    exact⟨[Hs g d (((e.put bs).1.cnt:Nat):Int) (e.put bs).1.used,IN c n d i D M P W (e.put bs).1 l],λh s=>aD [1,0] rfl (vc (e:=(e.put bs).1) (l:=l) (aD [2,1,1,0] rfl s)),hv,rfl⟩
abbrev lx(v:Value)(l:List ReplyT):HP:=own v l.length (ints (List.flatMap ReplyT.flat l)) 47 3
abbrev Im(s:MS LD)(d r:Nat)(a:Adr):List HP:=[ak r (RepT.cells (s.rep a)) 87,Hs a.lg d ((s.e.cnt:Nat):Int) s.e.used,lx a.rs s.replies,GY a.vo s.vote]
abbrev fc(s:MS LD)(d r:Nat):HP:=pack (Im s d r)
def qQ(x:Slot)(d r:Nat):HP:=match x.run with
 |some s=>fc s d r
 |none=>λ_=>True
abbrev kP(x:Slot)(d r:Nat)(p:Value):List HP:=[dk d x.dk,lx p x.past,qQ x d r]
def mf(x:Slot)(d r:Nat)(p:Value):HP:=bH (kP x d r p)
structure CX where
 n:Nat
 d:Nat→Nat
 r:Nat→Nat
 p:Nat→Value
abbrev ng(g:CX):Nat→Value:=λi=> .pointer (some ⟨g.d i,0,none⟩)
def zr(x:Slot)(r:Nat):Value:=match x.run with
 |some _=> .pointer (some ⟨r,0,none⟩)
 |none=> .pointer none
abbrev kr(a:CL)(r:Nat→Nat):Nat→Value:=λi=>zr (a.at' i) (r i)
abbrev sq(c:Nat)(a:CL)(g:CX):List HP:=[ak c (eV g.n (ng g) (kr a g.r) g.p) 73,eR 135 184 5 g.n (dq a.W),bH ((List.range 5).map λi=>mf (a.at' i) (g.d i) (g.r i) (g.p i))]
def gU(c:Nat)(a:CL):HP:=pack (sq c a)
section
variable {c n d i r:Nat} {D M P:Nat→Value} {W:List (List MsgT)} {s:MS LD} {H:List HP} {h:Hl} {hi:i<5} {hD:D i= .pointer (some ⟨d,0,none⟩)} {hW:W.length=25}
theorem F6(ho:s.o=[])(q:bH (ak c (eV n D M P) 73::dk d s.e.D::eR 135 184 5 n (dq W)::fc s d r::H) h):bH (cU (yI c n d i D M P hi hD W hW) r s::H) h:=by
 obtain⟨a,q⟩:=fK (aD [3,0,0,0] rfl q);have q2:=aD [4,4,4,0,0,0,0] rfl q;have q3:=vc (i:=i) (W:=W) (e:=s.e) (l:=[]) q2;refine bv (p:=λa:Adr=>[ak r (RepT.cells (s.rep a)) 87,Hs a.lg d ((s.e.cnt:Nat):Int) s.e.used,lx a.rs s.replies,GY a.vo s.vote,IN c n d i D M P W s.e s.o]) a ?_;rw[ho];exact aD [1,1,1,1,0] rfl q3
theorem B2(q:bH (cU (yI c n d i D M P hi hD W hW) r s::H) h):bH (ak c (eV n D M P) 73::dk d s.e.D::eR 135 184 5 n (dq (gJ W i s.o))::fc s.hush d r::H) h:=by
 obtain⟨a,q⟩:=fK q;have q1:bH ([ak r (RepT.cells (s.rep a)) 87,Hs a.lg d ((s.e.cnt:Nat):Int) s.e.used,lx a.rs s.replies,GY a.vo s.vote,IN c n d i D M P W s.e s.o]++H) h:=q;have q2:=vd (aD [4,0,0,0,0] rfl q1);have q3:=bv (p:=Im s.hush d r) a (aD [3,3,3,3,0,0,0] rfl q2);exact aD [1,1,1,0] rfl q3
end
theorem Gz(c n i:Nat)(D M P:Nat→Value)(hi:i<5)(d r:Nat)(s:MS LD)(hD:D i= .pointer (some ⟨d,0,none⟩))(hM:M i= .pointer (some ⟨r,0,none⟩))(W:List (List MsgT))(hW:W.length=25)(ho:s.o=[])(hs:OkR KD s)(o:OpT)(k:Int)(hk:0≤k∧k≤4)(hch:OkCh o.change)(hrs:s.replies.length≤1000000):
 DT 25 #[(.pointer (some ⟨c,0,none⟩)),(.agg (ints (OpT.mk k ((i:Nat):Int) o.to' o.key o.n o.change o.mask o.torn o.cut).flat).toArray)] T0 [ak c (eV n D M P) 73,dk d s.e.D,eR 135 184 5 n (dq W),fc s d r] (dA (λv H=>(s.e.D.dn=true∧v= .int .i64 4∧H=[ak c (eV n D M P) 73,dk d s.e.D,eR 135 184 5 n (dq (W)),fc s d r])∨(s.e.D.dn=false∧v= .int .i64 (bL KD s ((OpT.mk k ((i:Nat):Int) o.to' o.key o.n o.change o.mask o.torn o.cut))).2∧H=[ak c (eV n D M P) 73,dk d (bL KD s ((OpT.mk k ((i:Nat):Int) o.to' o.key o.n o.change o.mask o.torn o.cut))).1.hush.e.D,eR 135 184 5 n (dq (gJ W i (bL KD s ((OpT.mk k ((i:Nat):Int) o.to' o.key o.n o.change o.mask o.torn o.cut))).1.o)),fc (bL KD s ((OpT.mk k ((i:Nat):Int) o.to' o.key o.n o.change o.mask o.torn o.cut))).1.hush d r]))):=by
 refine BD 114 Tryz.func25 rfl rfl rfl λw0 F hF=>sr λ_ J1=>XY (ints (OpT.mk k ((i:Nat):Int) o.to' o.key o.n o.change o.mask o.torn o.cut).flat) λb3=>?_
 refine PS ?_;refine nx J1 (aa λ_ J2=>sr λ_ J3=>PS ?_);refine FA 1 gk aR ?_;refine LT 0 Y3 (.int .i64 (((i:Nat):Int))) ?_ (hc:=by exact bR _ rfl);refine CE qV (eb c i hi) ID ?_;refine PS ?_;refine nx J3 (CN (qx J2 (aa λ_ J4=>sr λ_ J5=>FA 0 gk aR ?_)));refine LT 0 Y3 (.int .i64 (k)) ?_ (hc:=by exact dm _ rfl);refine nx J5 (av (aa λ_ J6=>e7 (α:=Unit) (λ_u=>True) (λ_u=>[(0,(.pointer (some ⟨c,0,none⟩))),(3,(.pointer (some ⟨b3,0,none⟩))),(4,(.int .i64 0)),(11,(.int .i64 (k))),(12,(.bool true))]) (λ_u=>[ak b3 (ints (OpT.mk k ((i:Nat):Int) o.to' o.key o.n o.change o.mask o.torn o.cut).flat) 63,ak c (eV n D M P) 73,dk d s.e.D,eR 135 184 5 n (dq W),fc s d r]) (λ_u hinv=>?_) (λtl6=>?_)));have _:=hinv;refine ae J6 (CY (aa λ_ J7=>sr λ_ J8=>PS ?_));refine FA 1 gk aR ?_;refine LT 0 Y3 (.int .i64 (((i:Nat):Int))) ?_ (hc:=by exact bR _ rfl);refine CE DZ (tD c n i D M P hi d r s.e.D hD hM) (SM [1,1]) ?_;refine bh ?_ ?_<;>intro h21;refine PS ?_;refine nx J8 (CN (qx J7 (aa λ_ J9=>D2 2 0 dx ?_)));refine PD 0 ?_;refine FD 1 1 gk aR ?_;refine LX 2 Y3 (.int .i64 (((i:Nat):Int))) ?_ (hc:=by exact bR _ rfl);refine PD 3 ?_;refine FD 4 6 qp p9 ?_;refine IY 5 (6+i) wE kI ?_;refine LX 6 uG (.pointer (some ⟨r,0,none⟩)) ?_ (hc:=by exact(yR n D M P hi).trans (congrArg some hM));refine PD 7 ?_;refine FD 8 1 gk aR ?_
 refine LX 9 Y3 (.int .i64 (((i:Nat):Int))) ?_ (hc:=by exact bR _ rfl);refine ta 10 rfl (kA (cells:=#[(.pointer (some ⟨c,0,none⟩)),(.int .i64 (((i:Nat):Int)))]) rfl rfl (by as_aux_lemma=>kernel_rfl)) ?_;refine ta 11 rfl (qi rfl GT rfl rfl) ?_;refine LY 12 gk C8 L3 ?_;refine AL 13 ?_;refine cz (H':=[cU (yI c n d i D M P hi hD W hW) r s,ak b3 (ints (OpT.mk k ((i:Nat):Int) o.to' o.key o.n o.change o.mask o.torn o.cut).flat) 63]) (λ_ q=>F6 ho (aD [0,0,1,1] rfl q)) (CE RF (@Cn _ (yI c n d i D M P hi hD W hW) r s ((OpT.mk k ((i:Nat):Int) o.to' o.key o.n o.change o.mask o.torn o.cut)) hs hch hrs) ID ?_);change TL _ _ _ _ _ _ _ _ _ [cU (yI c n d i D M P hi hD W hW) r ((bL KD s ((OpT.mk k ((i:Nat):Int) o.to' o.key o.n o.change o.mask o.torn o.cut))).1),ak b3 (ints (OpT.mk k ((i:Nat):Int) o.to' o.key o.n o.change o.mask o.torn o.cut).flat) 63];refine cz (H':=[ak c (eV n D M P) 73,dk d (((bL KD s ((OpT.mk k ((i:Nat):Int) o.to' o.key o.n o.change o.mask o.torn o.cut))).1).e.D),eR 135 184 5 n (dq (gJ W i ((bL KD s ((OpT.mk k ((i:Nat):Int) o.to' o.key o.n o.change o.mask o.torn o.cut))).1).o)),fc (((bL KD s ((OpT.mk k ((i:Nat):Int) o.to' o.key o.n o.change o.mask o.torn o.cut))).1).hush) d r,ak b3 (ints (OpT.mk k ((i:Nat):Int) o.to' o.key o.n o.change o.mask o.torn o.cut).flat) 63]) (λ_ q=>B2 (s:=(bL KD s ((OpT.mk k ((i:Nat):Int) o.to' o.key o.n o.change o.mask o.torn o.cut))).1) q) (EN (PD 14 ?_))
 refine DN (ae J9 (aj (aK (ag (WK [0,0,0,0] (aw rfl rfl ?_))))));exact .inr ⟨(by simpa using h21),rfl,rfl⟩;refine PS ?_;refine nx J8 (CY (sr λ_ J10=>PS ?_));refine nx J10 (aj (ag (aK (ag (WK [0,0,1,1] (aw rfl rfl ?_))))));exact .inl ⟨(by simpa using h21),rfl,rfl⟩;refine sr λ_ J11=>P2 ?_
 refine aq ?_ ?_<;>intro h12;refine nx J11 (CY (aV ?_))
 exact aF
  SB
  (λ_ s=>an [0,0,0,0,0] rfl s)
  (tl6 (():Unit) trivial)
 refine nx J11 (CN (sr λ_ J12=>P2 ?_));refine aq ?_ ?_<;>intro h12;refine nx J12 (CY (aV ?_))
 exact aF
  SB
  (λ_ s=>an [0,0,0,0,0] rfl s)
  (tl6 (():Unit) trivial)
 refine nx J12 (CN (sr λ_ J13=>P2 ?_));refine aq ?_ ?_<;>intro h12;refine nx J13 (CY (aV ?_))
 exact aF
  SB
  (λ_ s=>an [0,0,0,0,0] rfl s)
  (tl6 (():Unit) trivial)
 refine nx J13 (CN (sr λ_ J14=>P2 ?_));refine aq ?_ ?_<;>intro h12;refine nx J14 (CY (aV ?_))
 exact aF
  SB
  (λ_ s=>an [0,0,0,0,0] rfl s)
  (tl6 (():Unit) trivial)
 refine nx J14 (CN (af (PS ?_)));refine aq ?_ ?_<;>intro h17;refine PS ?_;refine ax ?_
 exact aF
  SB
  (λ_ s=>an [0,0,0,0,0] rfl s)
  (tl6 (():Unit) trivial)
 · exact absurd h17 (by omega)
theorem EI(c n i:Nat)(D M P:Nat→Value)(hi:i<5)(hM:M i= .pointer none)(o:OpT)(k:Int)(hk:0≤k∧k≤4):
 DT 25 #[(.pointer (some ⟨c,0,none⟩)),(.agg (ints (OpT.mk k ((i:Nat):Int) o.to' o.key o.n o.change o.mask o.torn o.cut).flat).toArray)] T0 [ak c (eV n D M P) 73] (RI (.int .i64 4) [ak c (eV n D M P) 73]):=by
 refine BD 114 Tryz.func25 rfl rfl rfl λw0 F hF=>sr λ_ J1=>XY (ints (OpT.mk k ((i:Nat):Int) o.to' o.key o.n o.change o.mask o.torn o.cut).flat) λb3=>?_
 refine PS ?_;refine nx J1 (aa λ_ J2=>sr λ_ J3=>PS ?_);refine FA 1 gk aR ?_;refine LT 0 Y3 (.int .i64 (((i:Nat):Int))) ?_ (hc:=by exact bR _ rfl);refine CE qV (eb c i hi) ID ?_;refine PS ?_;refine nx J3 (CN (qx J2 (aa λ_ J4=>sr λ_ J5=>FA 0 gk aR ?_)));refine LT 0 Y3 (.int .i64 (k)) ?_ (hc:=by exact dm _ rfl);refine nx J5 (av (aa λ_ J6=>e7 (α:=Unit) (λ_u=>True) (λ_u=>[(0,(.pointer (some ⟨c,0,none⟩))),(3,(.pointer (some ⟨b3,0,none⟩))),(4,(.int .i64 0)),(11,(.int .i64 (k))),(12,(.bool true))]) (λ_u=>[ak b3 (ints (OpT.mk k ((i:Nat):Int) o.to' o.key o.n o.change o.mask o.torn o.cut).flat) 63,ak c (eV n D M P) 73]) (λ_u hinv=>?_) (λtl6=>?_)));have _:=hinv;refine ae J6 (CY (aa λ_ J7=>sr λ_ J8=>PS ?_));refine FA 1 gk aR ?_;refine LT 0 Y3 (.int .i64 (((i:Nat):Int))) ?_ (hc:=by exact bR _ rfl);refine CE DZ (tE c n i D M P hi hM) (SM [1]) ?_;refine PS ?_;refine nx J8 (CY (sr λ_ J9=>PS ?_));exact nx J9 (aj (ag (aK (ag (WK [0] (aw rfl rfl ⟨rfl,rfl⟩))))));refine sr λ_ J10=>P2 ?_
 refine aq ?_ ?_<;>intro h12;refine nx J10 (CY (aV ?_))
 exact aF
  SB
  (λ_ s=>an [0,0] rfl s)
  (tl6 (():Unit) trivial)
 refine nx J10 (CN (sr λ_ J11=>P2 ?_));refine aq ?_ ?_<;>intro h12;refine nx J11 (CY (aV ?_))
 exact aF
  SB
  (λ_ s=>an [0,0] rfl s)
  (tl6 (():Unit) trivial)
 refine nx J11 (CN (sr λ_ J12=>P2 ?_));refine aq ?_ ?_<;>intro h12;refine nx J12 (CY (aV ?_))
 exact aF
  SB
  (λ_ s=>an [0,0] rfl s)
  (tl6 (():Unit) trivial)
 refine nx J12 (CN (sr λ_ J13=>P2 ?_));refine aq ?_ ?_<;>intro h12;refine nx J13 (CY (aV ?_))
 exact aF
  SB
  (λ_ s=>an [0,0] rfl s)
  (tl6 (():Unit) trivial)
 refine nx J13 (CN (af (PS ?_)));refine aq ?_ ?_<;>intro h17;refine PS ?_;refine ax ?_
 exact aF
  SB
  (λ_ s=>an [0,0] rfl s)
  (tl6 (():Unit) trivial)
 · exact absurd h17 (by omega)
theorem Gu(c n i:Nat)(D M P:Nat→Value)(hi:i<5)(d r:Nat)(s:MS LD)(hD:D i= .pointer (some ⟨d,0,none⟩))(hM:M i= .pointer (some ⟨r,0,none⟩))(W:List (List MsgT))(hW:W.length=25)(ho:s.o=[])(hs:OkR KD s)(o:OpT):
 DT 25 #[(.pointer (some ⟨c,0,none⟩)),(.agg (ints (OpT.mk 8 ((i:Nat):Int) o.to' o.key o.n o.change o.mask o.torn o.cut).flat).toArray)] T0 [ak c (eV n D M P) 73,dk d s.e.D,eR 135 184 5 n (dq W),fc s d r] (dA (λv H=>(s.e.D.dn=true∧v= .int .i64 4∧H=[ak c (eV n D M P) 73,dk d s.e.D,eR 135 184 5 n (dq (W)),fc s d r])∨(s.e.D.dn=false∧v= .int .i64 0∧H=[ak c (eV n D M P) 73,dk d (gG KD s).hush.e.D,eR 135 184 5 n (dq (gJ W i (gG KD s).o)),fc (gG KD s).hush d r]))):=by
 refine BD 114 Tryz.func25 rfl rfl rfl λw0 F hF=>sr λ_ J1=>XY (ints (OpT.mk 8 ((i:Nat):Int) o.to' o.key o.n o.change o.mask o.torn o.cut).flat) λb3=>?_
 refine PS ?_;refine nx J1 (aa λ_ J2=>sr λ_ J3=>PS ?_);refine FA 1 gk aR ?_;refine LT 0 Y3 (.int .i64 (((i:Nat):Int))) ?_ (hc:=by exact bR _ rfl);refine CE qV (eb c i hi) ID ?_;refine PS ?_;refine nx J3 (CN (qx J2 (aa λ_ J4=>sr λ_ J5=>FA 0 gk aR ?_)));refine LT 0 Y3 (.int .i64 8) ?_ (hc:=by exact dm _ rfl);refine nx J5 (av (aa λ_ J6=>sr λ_ J7=>P2 ?_));refine nx J7 (CN (sr λ_ J8=>P2 ?_));refine nx J8 (CN (sr λ_ J9=>P2 ?_));refine nx J9 (CN (sr λ_ J10=>P2 ?_));refine nx J10 (CN (af (P2 ?_)));refine nx J6 (CN (aa λ_ J11=>sr λ_ J12=>P2 ?_));refine nx J12 (CN (sr λ_ J13=>P2 ?_));refine nx J13 (CN (af (P2 ?_)));refine nx J11 (CN (sr λ_ J14=>P2 ?_));refine nx J14 (CY (aa λ_ J15=>sr λ_ J16=>PS ?_));refine FA 1 gk aR ?_;refine LT 0 Y3 (.int .i64 (((i:Nat):Int))) ?_ (hc:=by exact bR _ rfl);refine CE DZ (tD c n i D M P hi d r s.e.D hD hM) (SM [1,1]) ?_;refine bh ?_ ?_<;>intro h49;refine PS ?_;refine nx J16 (CN (qx J15 (D2 2 0 dx ?_)));refine PD 0 ?_;refine FD 1 1 gk aR ?_;refine LX 2 Y3 (.int .i64 (((i:Nat):Int))) ?_ (hc:=by exact bR _ rfl);refine PD 3 ?_;refine FD 4 6 qp p9 ?_;refine IY 5 (6+i) wE kI ?_;refine LX 6 uG (.pointer (some ⟨r,0,none⟩)) ?_ (hc:=by exact(yR n D M P hi).trans (congrArg some hM));refine PD 7 ?_;refine FD 8 1 gk aR ?_;refine LX 9 Y3 (.int .i64 (((i:Nat):Int))) ?_ (hc:=by exact bR _ rfl)
 refine ta 10 rfl (kA (cells:=#[(.pointer (some ⟨c,0,none⟩)),(.int .i64 (((i:Nat):Int)))]) rfl rfl (by as_aux_lemma=>kernel_rfl)) ?_;refine ta 11 rfl (qi rfl GT rfl rfl) ?_;refine AL 12 ?_;refine cz (H':=[cU (yI c n d i D M P hi hD W hW) r s,ak b3 (ints (OpT.mk 8 ((i:Nat):Int) o.to' o.key o.n o.change o.mask o.torn o.cut).flat) 63]) (λ_ q=>F6 ho (aD [0,0,1,1] rfl q)) (CZ RB (@FE _ (yI c n d i D M P hi hD W hW) r s hs) ID λvR=>?_);change TL _ _ _ _ _ _ _ _ _ [cU (yI c n d i D M P hi hD W hW) r (gG KD s),ak b3 (ints (OpT.mk 8 ((i:Nat):Int) o.to' o.key o.n o.change o.mask o.torn o.cut).flat) 63];refine cz (H':=[ak c (eV n D M P) 73,dk d ((gG KD s).e.D),eR 135 184 5 n (dq (gJ W i (gG KD s).o)),fc ((gG KD s).hush) d r,ak b3 (ints (OpT.mk 8 ((i:Nat):Int) o.to' o.key o.n o.change o.mask o.torn o.cut).flat) 63]) (λ_ q=>B2 (s:=(gG KD s)) q) (EN (DN (ai (ae J4 (sr λ_ J17=>PS ?_)))));refine nx J17 (aj (WK [0,0,0,0] (aw rfl rfl ?_)));exact .inr ⟨(by simpa using h49),rfl,rfl⟩;refine PS ?_;refine nx J16 (CY (sr λ_ J18=>PS ?_));refine nx J18 (aj (ag (aK (ag (WK [0,0,1,1] (aw rfl rfl ?_))))));exact .inl ⟨(by simpa using h49),rfl,rfl⟩
theorem EG(c n i:Nat)(D M P:Nat→Value)(hi:i<5)(hM:M i= .pointer none)(o:OpT):
 DT 25 #[(.pointer (some ⟨c,0,none⟩)),(.agg (ints (OpT.mk 8 ((i:Nat):Int) o.to' o.key o.n o.change o.mask o.torn o.cut).flat).toArray)] T0 [ak c (eV n D M P) 73] (RI (.int .i64 4) [ak c (eV n D M P) 73]):=by
 refine BD 114 Tryz.func25 rfl rfl rfl λw0 F hF=>sr λ_ J1=>XY (ints (OpT.mk 8 ((i:Nat):Int) o.to' o.key o.n o.change o.mask o.torn o.cut).flat) λb3=>?_
 refine PS ?_;refine nx J1 (aa λ_ J2=>sr λ_ J3=>PS ?_);refine FA 1 gk aR ?_;refine LT 0 Y3 (.int .i64 (((i:Nat):Int))) ?_ (hc:=by exact bR _ rfl);refine CE qV (eb c i hi) ID ?_;refine PS ?_;refine nx J3 (CN (qx J2 (aa λ_ J4=>sr λ_ J5=>FA 0 gk aR ?_)));refine LT 0 Y3 (.int .i64 8) ?_ (hc:=by exact dm _ rfl);refine nx J5 (av (aa λ_ J6=>sr λ_ J7=>P2 ?_));refine nx J7 (CN (sr λ_ J8=>P2 ?_));refine nx J8 (CN (sr λ_ J9=>P2 ?_));refine nx J9 (CN (sr λ_ J10=>P2 ?_));refine nx J10 (CN (af (P2 ?_)));refine nx J6 (CN (aa λ_ J11=>sr λ_ J12=>P2 ?_));refine nx J12 (CN (sr λ_ J13=>P2 ?_));refine nx J13 (CN (af (P2 ?_)));refine nx J11 (CN (sr λ_ J14=>P2 ?_));refine nx J14 (CY (aa λ_ J15=>sr λ_ J16=>PS ?_));refine FA 1 gk aR ?_;refine LT 0 Y3 (.int .i64 (((i:Nat):Int))) ?_ (hc:=by exact bR _ rfl);refine CE DZ (tE c n i D M P hi hM) (SM [1]) ?_;refine PS ?_;refine nx J16 (CY (sr λ_ J17=>PS ?_));exact nx J17 (aj (ag (aK (ag (WK [0] (aw rfl rfl ⟨rfl,rfl⟩))))))
theorem Is(s:MS LD)(d r:Nat)(h:s.replies.length≤1000000):DT 31 #[.pointer (some ⟨r,0,none⟩)] T0 [fc s d r] (dA λv H=>∃u,v=u∧H=[fc s d r,lx u s.replies]):=
 Leg.Does.pack (B:=[]) λa=>Leg.Does.withinR (A:=[ak r (RepT.cells (s.rep a)) 87,lx a.rs s.replies]) (B:=[Hs a.lg d ((s.e.cnt:Nat):Int) s.e.used,GY a.vo s.vote]) (BJ r (s.rep a) s.replies h) (λ_ _ _ _=>trivial) (λ_ q=>aD [0,1,0,0] rfl q) λv H hp=>by
  obtain⟨u,rfl,rfl⟩:=hp;exact⟨_,λ_ q=>bv (p:=Im s d r) (H:=[lx v s.replies]) a (aD [0,2,0,1,0] rfl q),v,rfl,rfl⟩
theorem xR(c n i:Nat)(D M P:Nat→Value)(hi:i<5)(hM:M i= .pointer none)(pl:List ReplyT)(hpl:pl.length≤100000):
 DT 15 #[(.pointer (some ⟨c,0,none⟩)),(.int .i64 (((i:Nat):Int)))] T0 [ak c (eV n D M P) 73,own (P i) ((pl).length) (ints (List.flatMap ReplyT.flat (pl))) 47 3] (dA (λv H=>∃u,u.oneCell'=true∧v=u∧H=[ak c (eV n D M P) 73,lx (P i) pl,lx u pl])):=by
 refine BD 34 Tryz.func15 rfl rfl rfl λw0 F hF=>sr λ_ J1=>PS ?_
 refine nx J1 (aa λ_ J2=>sr λ_ J3=>P2 ?_);refine CE qV (eb c i hi) ID ?_;refine PS ?_;refine nx J3 (CN (qx J2 (sr λ_ J4=>P3 ?_)));refine FA 11 qp Mo ?_;refine IX (11+i) Rb zi ?_;refine LT 0 HI (P i) ?_ (hc:=by exact QB n D M P hi);refine QI 47 3 (λ_=>cF (k:=0) (news:=ints (List.flatMap ReplyT.flat (pl))) (nn':=(pl).length) (xs':=ints (List.flatMap ReplyT.flat (pl))) (ab rfl) rfl rfl rfl HI Je rfl rfl rfl rfl rfl rfl (λ_ s=>Fp 2 rfl rfl s) (bw _) (by simp only[maxLen];omega) (by omega) (by simp) (by simp) (λv16 ov16=>PS ?_));refine nx J4 (aa λ_ J5=>sr λ_ J6=>P3 ?_);refine FA 6 qp p9 ?_;refine IX (6+i) wE kI ?_;refine LT 1 uG (.pointer none) ?_ (hc:=by exact(yR n D M P hi).trans (congrArg some hM));refine tp (jD rfl uG rfl rfl) ?_;refine nx J6 (CN (qx J5 (sr λ_ J7=>P2 ?_)));exact nx J7 (aj (WK [1,1,0] (aw rfl rfl ⟨_,ov16,rfl,rfl⟩)))
theorem xQ(c n i:Nat)(D M P:Nat→Value)(hi:i<5)(d:Nat)(r:Nat)(s:MS LD)(hM:M i= .pointer (some ⟨r,0,none⟩))(pl:List ReplyT)(hpl:pl.length≤100000)(hrs:s.replies.length≤100000):
 DT 15 #[(.pointer (some ⟨c,0,none⟩)),(.int .i64 (((i:Nat):Int)))] T0 [ak c (eV n D M P) 73,own (P i) ((pl).length) (ints (List.flatMap ReplyT.flat (pl))) 47 3,fc s d r] (dA (λv H=>∃u,u.oneCell'=true∧v=u∧H=[ak c (eV n D M P) 73,lx (P i) pl,fc s d r,lx u (pl++s.replies)])):=by
 refine BD 34 Tryz.func15 rfl rfl rfl λw0 F hF=>sr λ_ J1=>PS ?_
 refine nx J1 (aa λ_ J2=>sr λ_ J3=>P2 ?_);refine CE qV (eb c i hi) ID ?_;refine PS ?_;refine nx J3 (CN (qx J2 (sr λ_ J4=>P3 ?_)));refine FA 11 qp Mo ?_;refine IX (11+i) Rb zi ?_;refine LT 0 HI (P i) ?_ (hc:=by exact QB n D M P hi);refine QI 47 3 (λ_=>cF (k:=0) (news:=ints (List.flatMap ReplyT.flat (pl))) (nn':=(pl).length) (xs':=ints (List.flatMap ReplyT.flat (pl))) (ab rfl) rfl rfl rfl HI Je rfl rfl rfl rfl rfl rfl (λ_ s=>Fp 2 rfl rfl s) (bw _) (by simp only[maxLen];omega) (by omega) (by simp) (by simp) (λv16 ov16=>PS ?_));refine nx J4 (aa λ_ J5=>sr λ_ J6=>P3 ?_);refine FA 6 qp p9 ?_;refine IX (6+i) wE kI ?_;refine LT 1 uG (.pointer (some ⟨r,0,none⟩)) ?_ (hc:=by exact(yR n D M P hi).trans (congrArg some hM));refine tp (jU rfl uG rfl rfl) ?_;refine nx J6 (CY (af (P4 ?_)));refine FA 6 qp p9 ?_;refine IX (6+i) wE kI ?_;refine LT 1 uG (.pointer (some ⟨r,0,none⟩)) ?_ (hc:=by exact(yR n D M P hi).trans (congrArg some hM));refine CR RN (Is s d r (by omega)) (SM [3]) λvR HR hR=>?_
 obtain⟨_,rfl,rfl⟩:=hR;revert vR;intro ur;refine cF (k:=2) (news:=ints (List.flatMap ReplyT.flat (s.replies))) (nn':=(pl++s.replies).length) (xs':=ints (List.flatMap ReplyT.flat (pl++s.replies))) (ab rfl) rfl rfl rfl HI Je rfl rfl rfl rfl rfl rfl (λ_ s=>Fp 1 rfl rfl s) (bw _) (by simp only[maxLen];omega) (by omega) (by rw[ac]) (by simp[ints]) (λv32 ov32=>PS ?_);refine nx J5 (sr λ_ J7=>P2 ?_);exact nx J7 (aj (WK [3,3,0,1] (aw rfl rfl ⟨_,ov32,rfl,rfl⟩)))
theorem GB(c n i:Nat)(D M P:Nat→Value)(hi:i<5)(d:Nat)(hD:D i= .pointer (some ⟨d,0,none⟩))(e:DS)(o:OpT):
 DT 25 #[(.pointer (some ⟨c,0,none⟩)),(.agg (ints (OpT.mk 9 ((i:Nat):Int) o.to' o.key o.n o.change o.mask o.torn o.cut).flat).toArray)] T0 [ak c (eV n D M P) 73,dk d e] (RI (.int .i64 0) [ak c (eV n D M P) 73,dk d (e.arm o.n)]):=by
 refine BD 114 Tryz.func25 rfl rfl rfl λw0 F hF=>sr λ_ J1=>XY (ints (OpT.mk 9 ((i:Nat):Int) o.to' o.key o.n o.change o.mask o.torn o.cut).flat) λb3=>?_
 refine PS ?_;refine nx J1 (aa λ_ J2=>sr λ_ J3=>PS ?_);refine FA 1 gk aR ?_;refine LT 0 Y3 (.int .i64 (((i:Nat):Int))) ?_ (hc:=by exact bR _ rfl);refine CE qV (eb c i hi) ID ?_;refine PS ?_;refine nx J3 (CN (qx J2 (aa λ_ J4=>sr λ_ J5=>FA 0 gk aR ?_)));refine LT 0 Y3 (.int .i64 9) ?_ (hc:=by exact dm _ rfl);refine nx J5 (av (aa λ_ J6=>sr λ_ J7=>P2 ?_));refine nx J7 (CN (sr λ_ J8=>P2 ?_));refine nx J8 (CN (sr λ_ J9=>P2 ?_));refine nx J9 (CN (sr λ_ J10=>P2 ?_));refine nx J10 (CN (af (P2 ?_)));refine nx J6 (CN (aa λ_ J11=>sr λ_ J12=>P2 ?_));refine nx J12 (CN (sr λ_ J13=>P2 ?_));refine nx J13 (CN (af (P2 ?_)));refine nx J11 (CN (sr λ_ J14=>P2 ?_));refine nx J14 (CN (sr λ_ J15=>P2 ?_));refine nx J15 (CY (D2 0 1 dx ?_));refine PD 0 ?_;refine FD 1 1 gk aR ?_;refine LX 2 Y3 (.int .i64 (((i:Nat):Int))) ?_ (hc:=by exact bR _ rfl);refine PD 3 ?_;refine FD 4 1 qp Bv ?_;refine IY 5 (1+i) Nh ww ?_;refine LX 6 JD (.pointer (some ⟨d,0,none⟩)) ?_ (hc:=by exact(EU n D M P hi).trans (congrArg some hD));refine FD 7 4 gk aR ?_;refine LX 8 Y3 (.int .i64 (o.n)) ?_ (hc:=by exact y7 _ rfl);refine AL 9 ?_;refine CR RA (OU d e o.n) (SM [2]) λvR HR hR=>?_
 obtain⟨_,rfl⟩:=hR;refine EN (DN (ai (ae J4 (sr λ_ J16=>PS ?_))));exact nx J16 (aj (WK [2,0] (aw rfl rfl ⟨rfl,rfl⟩)))
theorem Gx(c n i:Nat)(D M P:Nat→Value)(hi:i<5)(d:Nat)(hD:D i= .pointer (some ⟨d,0,none⟩))(r:Nat)(s:MS LD)(hM:M i= .pointer (some ⟨r,0,none⟩))(pl:List ReplyT)(hpl:pl.length≤100000)(hrs:s.replies.length≤100000)(e:DS)(hok:e.Ok)(o:OpT):
 DT 25 #[(.pointer (some ⟨c,0,none⟩)),(.agg (ints (OpT.mk 10 ((i:Nat):Int) o.to' o.key o.n o.change o.mask o.torn o.cut).flat).toArray)] T0 [ak c (eV n D M P) 73,dk d e,own (P i) ((pl).length) (ints (List.flatMap ReplyT.flat (pl))) 47 3,fc s d r] (dA (λv H=>∃u,u.oneCell'=true∧v= .int .i64 0∧H=[ak c (eV n D (lJ M i (.pointer none)) (lJ P i u)) 73,dk d (e.crash o.mask o.torn o.cut),lx u (pl++s.replies)])):=by
 refine BD 114 Tryz.func25 rfl rfl rfl λw0 F hF=>sr λ_ J1=>XY (ints (OpT.mk 10 ((i:Nat):Int) o.to' o.key o.n o.change o.mask o.torn o.cut).flat) λb3=>?_
 refine PS ?_;refine nx J1 (aa λ_ J2=>sr λ_ J3=>PS ?_);refine FA 1 gk aR ?_;refine LT 0 Y3 (.int .i64 (((i:Nat):Int))) ?_ (hc:=by exact bR _ rfl);refine CE qV (eb c i hi) ID ?_;refine PS ?_;refine nx J3 (CN (qx J2 (aa λ_ J4=>sr λ_ J5=>FA 0 gk aR ?_)));refine LT 0 Y3 (.int .i64 10) ?_ (hc:=by exact dm _ rfl);refine nx J5 (av (aa λ_ J6=>sr λ_ J7=>P2 ?_));refine nx J7 (CN (sr λ_ J8=>P2 ?_));refine nx J8 (CN (sr λ_ J9=>P2 ?_));refine nx J9 (CN (sr λ_ J10=>P2 ?_));refine nx J10 (CN (af (P2 ?_)));refine nx J6 (CN (aa λ_ J11=>sr λ_ J12=>P2 ?_));refine nx J12 (CN (sr λ_ J13=>P2 ?_));refine nx J13 (CN (af (P2 ?_)));refine nx J11 (CN (sr λ_ J14=>P2 ?_));refine nx J14 (CN (sr λ_ J15=>P2 ?_));refine nx J15 (CN (sr λ_ J16=>P2 ?_));refine nx J16 (CY (aa λ_ J17=>D1 0 dx ?_));refine PD 0 ?_;refine FD 1 1 gk aR ?_;refine LX 2 Y3 (.int .i64 (((i:Nat):Int))) ?_ (hc:=by exact bR _ rfl);refine PD 3 ?_;refine FD 4 1 gk aR ?_;refine LX 5 Y3 (.int .i64 (((i:Nat):Int))) ?_ (hc:=by exact bR _ rfl);refine PD 7 ?_;refine FD 8 11 qp Mo ?_;refine AL 6 ?_;refine CR MM (xQ c n i D M P hi d r s hM pl hpl hrs) (SM [1,2,2]) λvR HR hR=>?_
 obtain⟨_,huc,rfl,rfl⟩:=hR;revert vR;intro uc huc;refine EN (IY 9 (11+i) Rb zi ?_);refine AL 10 ?_;refine bF (i:=0) (ab rfl) rfl rfl rfl rfl huc zi rfl rfl (by rw[sY];omega) (HF n D M P uc hi) rfl (EN (DN (ae J17 (aa λ_ J18=>D1 4 dx ?_))));refine PD 0 ?_;refine FD 1 1 gk aR ?_;refine LX 2 Y3 (.int .i64 (((i:Nat):Int))) ?_ (hc:=by exact bR _ rfl);refine PD 3 ?_;refine FD 4 6 qp p9 ?_;refine IY 5 (6+i) wE kI ?_;refine AL 6 ?_;refine bF (i:=0) (ab rfl) rfl rfl rfl rfl rfl kI rfl rfl (by rw[sY];omega) (wY n D M (lJ P i uc) (.pointer none) hi) rfl (EN (DN (ae J18 (D2 4 0 dx ?_))));refine PD 0 ?_;refine FD 1 1 gk aR ?_;refine LX 2 Y3 (.int .i64 (((i:Nat):Int))) ?_ (hc:=by exact bR _ rfl);refine PD 3 ?_;refine FD 4 1 qp Bv ?_;refine IY 5 (1+i) Nh ww ?_;refine LX 6 JD (.pointer (some ⟨d,0,none⟩)) ?_ (hc:=by exact(EU n D (lJ M i (.pointer none)) (lJ P i uc) hi).trans (congrArg some hD));refine FD 7 8 gk aR ?_;refine LX 8 Y3 (.int .i64 (o.mask)) ?_ (hc:=by exact OpT.at_mask _ rfl);refine FD 9 9 gk aR ?_;refine LX 10 Y3 (.int .i64 (o.torn)) ?_ (hc:=by exact OpT.at_torn _ rfl);refine FD 11 10 gk aR ?_;refine LX 12 Y3 (.int .i64 (o.cut)) ?_ (hc:=by exact OpT.at_cut _ rfl);refine AL 13 ?_;refine CR PB (EJ d e o.mask o.torn o.cut hok) (SM [5]) λvR HR hR=>?_
 obtain⟨_,rfl⟩:=hR;refine EN (DN (ai (ae J4 (sr λ_ J19=>PS ?_))));exact nx J19 (aj (WK [1,0,2] (aw rfl rfl ⟨uc,huc,rfl,rfl⟩)))
theorem Gy(c n i:Nat)(D M P:Nat→Value)(hi:i<5)(d:Nat)(hD:D i= .pointer (some ⟨d,0,none⟩))(hM:M i= .pointer none)(pl:List ReplyT)(hpl:pl.length≤100000)(e:DS)(hok:e.Ok)(o:OpT):
 DT 25 #[(.pointer (some ⟨c,0,none⟩)),(.agg (ints (OpT.mk 10 ((i:Nat):Int) o.to' o.key o.n o.change o.mask o.torn o.cut).flat).toArray)] T0 [ak c (eV n D M P) 73,dk d e,own (P i) ((pl).length) (ints (List.flatMap ReplyT.flat (pl))) 47 3] (dA (λv H=>∃u,u.oneCell'=true∧v= .int .i64 0∧H=[ak c (eV n D (lJ M i (.pointer none)) (lJ P i u)) 73,dk d (e.crash o.mask o.torn o.cut),lx u pl])):=by
 refine BD 114 Tryz.func25 rfl rfl rfl λw0 F hF=>sr λ_ J1=>XY (ints (OpT.mk 10 ((i:Nat):Int) o.to' o.key o.n o.change o.mask o.torn o.cut).flat) λb3=>?_
 refine PS ?_;refine nx J1 (aa λ_ J2=>sr λ_ J3=>PS ?_);refine FA 1 gk aR ?_;refine LT 0 Y3 (.int .i64 (((i:Nat):Int))) ?_ (hc:=by exact bR _ rfl);refine CE qV (eb c i hi) ID ?_;refine PS ?_;refine nx J3 (CN (qx J2 (aa λ_ J4=>sr λ_ J5=>FA 0 gk aR ?_)));refine LT 0 Y3 (.int .i64 10) ?_ (hc:=by exact dm _ rfl);refine nx J5 (av (aa λ_ J6=>sr λ_ J7=>P2 ?_));refine nx J7 (CN (sr λ_ J8=>P2 ?_));refine nx J8 (CN (sr λ_ J9=>P2 ?_));refine nx J9 (CN (sr λ_ J10=>P2 ?_));refine nx J10 (CN (af (P2 ?_)));refine nx J6 (CN (aa λ_ J11=>sr λ_ J12=>P2 ?_));refine nx J12 (CN (sr λ_ J13=>P2 ?_));refine nx J13 (CN (af (P2 ?_)));refine nx J11 (CN (sr λ_ J14=>P2 ?_));refine nx J14 (CN (sr λ_ J15=>P2 ?_));refine nx J15 (CN (sr λ_ J16=>P2 ?_));refine nx J16 (CY (aa λ_ J17=>D1 0 dx ?_));refine PD 0 ?_;refine FD 1 1 gk aR ?_;refine LX 2 Y3 (.int .i64 (((i:Nat):Int))) ?_ (hc:=by exact bR _ rfl);refine PD 3 ?_;refine FD 4 1 gk aR ?_;refine LX 5 Y3 (.int .i64 (((i:Nat):Int))) ?_ (hc:=by exact bR _ rfl);refine PD 7 ?_;refine FD 8 11 qp Mo ?_;refine AL 6 ?_;refine CR MM (xR c n i D M P hi hM pl hpl) (SM [1,2]) λvR HR hR=>?_
 obtain⟨_,huc,rfl,rfl⟩:=hR;revert vR;intro uc huc;refine EN (IY 9 (11+i) Rb zi ?_);refine AL 10 ?_;refine bF (i:=0) (ab rfl) rfl rfl rfl rfl huc zi rfl rfl (by rw[sY];omega) (HF n D M P uc hi) rfl (EN (DN (ae J17 (aa λ_ J18=>D1 3 dx ?_))));refine PD 0 ?_;refine FD 1 1 gk aR ?_;refine LX 2 Y3 (.int .i64 (((i:Nat):Int))) ?_ (hc:=by exact bR _ rfl);refine PD 3 ?_;refine FD 4 6 qp p9 ?_;refine IY 5 (6+i) wE kI ?_;refine AL 6 ?_;refine bF (i:=0) (ab rfl) rfl rfl rfl rfl rfl kI rfl rfl (by rw[sY];omega) (wY n D M (lJ P i uc) (.pointer none) hi) rfl (EN (DN (ae J18 (D2 3 0 dx ?_))));refine PD 0 ?_;refine FD 1 1 gk aR ?_;refine LX 2 Y3 (.int .i64 (((i:Nat):Int))) ?_ (hc:=by exact bR _ rfl);refine PD 3 ?_;refine FD 4 1 qp Bv ?_;refine IY 5 (1+i) Nh ww ?_;refine LX 6 JD (.pointer (some ⟨d,0,none⟩)) ?_ (hc:=by exact(EU n D (lJ M i (.pointer none)) (lJ P i uc) hi).trans (congrArg some hD));refine FD 7 8 gk aR ?_;refine LX 8 Y3 (.int .i64 (o.mask)) ?_ (hc:=by exact OpT.at_mask _ rfl);refine FD 9 9 gk aR ?_;refine LX 10 Y3 (.int .i64 (o.torn)) ?_ (hc:=by exact OpT.at_torn _ rfl);refine FD 11 10 gk aR ?_;refine LX 12 Y3 (.int .i64 (o.cut)) ?_ (hc:=by exact OpT.at_cut _ rfl);refine AL 13 ?_;refine CR PB (EJ d e o.mask o.torn o.cut hok) (SM [4]) λvR HR hR=>?_
 obtain⟨_,rfl⟩:=hR;refine EN (DN (ai (ae J4 (sr λ_ J19=>PS ?_))));exact nx J19 (aj (WK [1,0,1] (aw rfl rfl ⟨uc,huc,rfl,rfl⟩)))
theorem Mu{s:MS LD}{lg d r:Nat}{e:LD}{i:Int}(f:Fresh i e s){H:List HP}{h:Hl}(q:bH (Ft lg r s::Hs lg d ((e.cnt:Nat):Int) e.used::H) h):bH (fc s d r::H) h:=by
 obtain⟨_,q⟩:=fK (p:=λ_:Unit=>[ak r (RepT.cells (s.rep ⟨lg, .pointer none, .slice none 0 0⟩)) 87]) q;refine bv (p:=Im s d r) ⟨lg, .pointer none, .slice none 0 0⟩ ?_;have q2:=gI 47 3 q;have q3:bH (GY (.pointer none) (none:Option VoteT)::own (.slice none 0 0) 0 [] 47 3::ak r (RepT.cells (s.rep ⟨lg, .pointer none, .slice none 0 0⟩)) 87::Hs lg d ((e.cnt:Nat):Int) e.used::H) h:=⟨em,h,Fm h,(sj h).symm,rfl,q2⟩;have q4:=aD [2,2,1,0] rfl q3;simp only[Im,f.e,f.replies,f.vote];exact q4
theorem qK(i d:Nat)(e:DS)(hok:DkOk e):DT 43 #[.int .i64 ((i:Nat):Int), .pointer (some ⟨d,0,none⟩)] T0 [dk d e] (dA (λv H=>((cf i e).1=none∧(cf i e).2≠0∧v= .tuple #[.pointer none, .int .i64 (cf i e).2]∧H=[dk d (bI e).D])∨∃s r,(cf i e).1=some s∧v= .tuple #[.pointer (some ⟨r,0,none⟩), .int .i64 0]∧H=[fc s d r,dk d s.e.D])):=
 Leg.Does.fold (Do (⟨(bI e).recs.length,(bI e).used,(bI e).D⟩:LD) ((i:Nat):Int) d e hok.ok hok.inn (by have:=hok.ws;omega)) λx H hp=>by
  cases x with
  |returned v=>
   unfold cf;rcases hp with⟨he,rfl,rfl⟩| ⟨he,⟨hn,rfl,rfl⟩| ⟨s,r,lg,hn,rfl,rfl⟩⟩
   · rw[if_pos he];exact⟨_,λ_ q=>q, .inl ⟨rfl,he,rfl,rfl⟩⟩
   · rw[if_neg (by rw[he];decide),hn];exact⟨_,λ_ q=>q, .inl ⟨rfl,(by decide),rfl,rfl⟩⟩
   · rw[if_neg (by rw[he];decide),hn]
     have f:=mE _ (qm _ _) hn;refine⟨[fc s d r,dk d s.e.D],λ_ q=>Mu (lg:=lg) f ?_, .inr ⟨s,r,rfl,rfl,rfl⟩⟩;rw[f.e];exact q
  |panicked c=>exact hp.elim
  |outgrown=>exact hp.elim
theorem Dl(c n i:Nat)(D M P:Nat→Value)(hi:i<5)(d:Nat)(hD:D i= .pointer (some ⟨d,0,none⟩))(hM:M i= .pointer none)(e:DS)(hok:DkOk e):
 DT 50 #[(.pointer (some ⟨c,0,none⟩)),(.int .i64 (((i:Nat):Int)))] T0 [ak c (eV n D M P) 73,dk d e] (dA (λv H=>((cf i e).1=none∧v= .int .i64 (cf i e).2∧H=[ak c (eV n D M P) 73,dk d (bI e).D])∨∃s r,(cf i e).1=some s∧v= .int .i64 0∧H=[ak c (eV n D (lJ M i (.pointer (some ⟨r,0,none⟩))) P) 73,fc s d r,dk d s.e.D])):=by
 refine BD 34 Tryz.func50 rfl rfl rfl λw0 F hF=>sr λ_ J1=>PS ?_
 refine nx J1 (aa λ_ J2=>sr λ_ J3=>P3 ?_);refine FA 6 qp p9 ?_;refine IX (6+i) wE kI ?_;refine LT 0 uG (.pointer none) ?_ (hc:=by exact(yR n D M P hi).trans (congrArg some hM));refine tp (jD rfl uG rfl rfl) ?_;refine nx J3 (CN (qx J2 (sr λ_ J4=>P4 ?_)));refine FA 1 qp Bv ?_;refine IX (1+i) Nh ww ?_;refine LT 0 JD (.pointer (some ⟨d,0,none⟩)) ?_ (hc:=by exact(EU n D M P hi).trans (congrArg some hD));refine CR OA (qK i d e hok) (SM [1]) λvR HR hR=>?_
 rcases hR with⟨hn,h0,rfl,rfl⟩| ⟨s,r,hn,rfl,rfl⟩
 refine P4 ?_;refine PS ?_;refine nx J4 (aa λ_ J5=>sr λ_ J6=>P2 ?_);refine aq ?_ ?_<;>intro h26
 · exact absurd h26 h0
 refine nx J6 (CN (qx J5 (sr λ_ J7=>P2 ?_)));exact nx J7 (aj (WK [1,0] (aw rfl rfl (.inl ⟨hn,rfl,rfl⟩))));refine P4 ?_;refine PS ?_;refine nx J4 (aa λ_ J8=>sr λ_ J9=>P2 ?_);refine nx J9 (CY (af (P4 ?_)));refine FA 6 qp p9 ?_;refine IX (6+i) wE kI ?_;refine bF (i:=2) (ab rfl) rfl rfl rfl rfl rfl kI rfl rfl (by rw[sY];omega) (wY n D M P (.pointer (some ⟨r,0,none⟩)) hi) rfl (nx J8 (sr λ_ J10=>P2 ?_));exact nx J10 (aj (WK [2,0,0] (aw rfl rfl (.inr ⟨s,r,hn,rfl,rfl⟩))))
theorem Di(c n i:Nat)(D M P:Nat→Value)(hi:i<5)(r:Nat)(hM:M i= .pointer (some ⟨r,0,none⟩)):
 DT 50 #[(.pointer (some ⟨c,0,none⟩)),(.int .i64 (((i:Nat):Int)))] T0 [ak c (eV n D M P) 73] (RI (.int .i64 5) [ak c (eV n D M P) 73]):=by
 refine BD 34 Tryz.func50 rfl rfl rfl λw0 F hF=>sr λ_ J1=>PS ?_
 refine nx J1 (aa λ_ J2=>sr λ_ J3=>P3 ?_);refine FA 6 qp p9 ?_;refine IX (6+i) wE kI ?_;refine LT 0 uG (.pointer (some ⟨r,0,none⟩)) ?_ (hc:=by exact(yR n D M P hi).trans (congrArg some hM));refine tp (jU rfl uG rfl rfl) ?_;refine nx J3 (CY (sr λ_ J4=>PS ?_));exact nx J4 (aj (ag (WK [0] (aw rfl rfl ⟨rfl,rfl⟩))))
theorem Gw(c n i:Nat)(D M P:Nat→Value)(hi:i<5)(d:Nat)(hD:D i= .pointer (some ⟨d,0,none⟩))(hM:M i= .pointer none)(e:DS)(hok:DkOk e)(o:OpT):
 DT 25 #[(.pointer (some ⟨c,0,none⟩)),(.agg (ints (OpT.mk 11 ((i:Nat):Int) o.to' o.key o.n o.change o.mask o.torn o.cut).flat).toArray)] T0 [ak c (eV n D M P) 73,dk d e] (dA (λv H=>((cf i e).1=none∧v= .int .i64 (cf i e).2∧H=[ak c (eV n D M P) 73,dk d (bI e).D])∨∃s r,(cf i e).1=some s∧v= .int .i64 0∧H=[ak c (eV n D (lJ M i (.pointer (some ⟨r,0,none⟩))) P) 73,fc s d r,dk d s.e.D])):=by
 refine BD 114 Tryz.func25 rfl rfl rfl λw0 F hF=>sr λ_ J1=>XY (ints (OpT.mk 11 ((i:Nat):Int) o.to' o.key o.n o.change o.mask o.torn o.cut).flat) λb3=>?_
 refine PS ?_;refine nx J1 (aa λ_ J2=>sr λ_ J3=>PS ?_);refine FA 1 gk aR ?_;refine LT 0 Y3 (.int .i64 (((i:Nat):Int))) ?_ (hc:=by exact bR _ rfl);refine CE qV (eb c i hi) ID ?_;refine PS ?_;refine nx J3 (CN (qx J2 (aa λ_ J4=>sr λ_ J5=>FA 0 gk aR ?_)));refine LT 0 Y3 (.int .i64 11) ?_ (hc:=by exact dm _ rfl);refine nx J5 (av (aa λ_ J6=>sr λ_ J7=>P2 ?_));refine nx J7 (CN (sr λ_ J8=>P2 ?_));refine nx J8 (CN (sr λ_ J9=>P2 ?_));refine nx J9 (CN (sr λ_ J10=>P2 ?_));refine nx J10 (CN (af (P2 ?_)));refine nx J6 (CN (aa λ_ J11=>sr λ_ J12=>P2 ?_));refine nx J12 (CN (sr λ_ J13=>P2 ?_));refine nx J13 (CN (af (P2 ?_)));refine nx J11 (CN (sr λ_ J14=>P2 ?_));refine nx J14 (CN (sr λ_ J15=>P2 ?_));refine nx J15 (CN (sr λ_ J16=>P2 ?_));refine nx J16 (CN (sr λ_ J17=>P2 ?_));refine nx J17 (CY (sr λ_ J18=>PS ?_));refine FA 1 gk aR ?_;refine LT 0 Y3 (.int .i64 (((i:Nat):Int))) ?_ (hc:=by exact bR _ rfl);refine CR PA (Dl c n i D M P hi d hD hM e hok) (SM [1,1]) λvR HR hR=>?_
 rcases hR with⟨hn,rfl,rfl⟩| ⟨s,r,hn,rfl,rfl⟩
 refine PS ?_;exact nx J18 (aj (aK (ag (WK [0,0] (aw rfl rfl (.inl ⟨hn,rfl,rfl⟩))))));refine PS ?_;exact nx J18 (aj (aK (ag (WK [0,0,0] (aw rfl rfl (.inr ⟨s,r,hn,rfl,rfl⟩))))))
theorem Gv(c n i:Nat)(D M P:Nat→Value)(hi:i<5)(r:Nat)(hM:M i= .pointer (some ⟨r,0,none⟩))(o:OpT):
 DT 25 #[(.pointer (some ⟨c,0,none⟩)),(.agg (ints (OpT.mk 11 ((i:Nat):Int) o.to' o.key o.n o.change o.mask o.torn o.cut).flat).toArray)] T0 [ak c (eV n D M P) 73] (RI (.int .i64 5) [ak c (eV n D M P) 73]):=by
 refine BD 114 Tryz.func25 rfl rfl rfl λw0 F hF=>sr λ_ J1=>XY (ints (OpT.mk 11 ((i:Nat):Int) o.to' o.key o.n o.change o.mask o.torn o.cut).flat) λb3=>?_
 refine PS ?_;refine nx J1 (aa λ_ J2=>sr λ_ J3=>PS ?_);refine FA 1 gk aR ?_;refine LT 0 Y3 (.int .i64 (((i:Nat):Int))) ?_ (hc:=by exact bR _ rfl);refine CE qV (eb c i hi) ID ?_;refine PS ?_;refine nx J3 (CN (qx J2 (aa λ_ J4=>sr λ_ J5=>FA 0 gk aR ?_)));refine LT 0 Y3 (.int .i64 11) ?_ (hc:=by exact dm _ rfl);refine nx J5 (av (aa λ_ J6=>sr λ_ J7=>P2 ?_));refine nx J7 (CN (sr λ_ J8=>P2 ?_));refine nx J8 (CN (sr λ_ J9=>P2 ?_));refine nx J9 (CN (sr λ_ J10=>P2 ?_));refine nx J10 (CN (af (P2 ?_)));refine nx J6 (CN (aa λ_ J11=>sr λ_ J12=>P2 ?_));refine nx J12 (CN (sr λ_ J13=>P2 ?_));refine nx J13 (CN (af (P2 ?_)));refine nx J11 (CN (sr λ_ J14=>P2 ?_));refine nx J14 (CN (sr λ_ J15=>P2 ?_));refine nx J15 (CN (sr λ_ J16=>P2 ?_));refine nx J16 (CN (sr λ_ J17=>P2 ?_));refine nx J17 (CY (sr λ_ J18=>PS ?_));refine FA 1 gk aR ?_;refine LT 0 Y3 (.int .i64 (((i:Nat):Int))) ?_ (hc:=by exact bR _ rfl);refine CE PA (Di c n i D M P hi r hM) (SM [1]) ?_;refine PS ?_;exact nx J18 (aj (aK (ag (WK [0] (aw rfl rfl ⟨rfl,rfl⟩)))))
end Go.Proofs.YtfocodjhmkokpaaGreatDoor
end
