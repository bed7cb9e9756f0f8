/-
  Joined texts:what a statement's proof reaches.
-/
import Derived.Test.YtfocodjhmkokpaaGreatDoorPTR6
set_option maxHeartbeats 8000000
set_option maxRecDepth 100000
set_option linter.unusedSimpArgs false
set_option linter.unusedVariables false
section
namespace Go.Proofs.YtfocodjhmkokpaaGreatDoor
open Go Leg Codec Api Dsk Wal
theorem rr{δ:Type}(V:Env δ)(r:Nat)(s:MS δ)(from':Int)(m:MsgT)[OkR V.toDk s][OkMg m](hfe:from'=s.id→m.epoch=s.view.epoch)(hk:m.kind=6):TK V r 82 s from' m (ru V.toDk s from' m):=oH (.inr (.inr (.inr hk))) (by
 cases hv:s.vote with
 |none=>exact kG V r s (lx V.toDk from' m) from' m hfe (λe=>by omega) (λe=>by omega) (λ_=>by rw[lx,show(du s (max s.round m.ballot.round)).vote=none from hv]) (λ_=>hv)
 |some vt=>
  have h:=pT V r s vt from' m hfe (.inr hk) hv (λe=>by omega)
  rwa [show(λs_:MS δ=>if m.kind=4 then pP V.toDk from' m s_ else lx V.toDk from' m s_)=lx V.toDk from' m from funext λ_=>if_neg (by omega)]at h)
theorem ye{δ:Type}(V:Env δ)(r:Nat)(s:MS δ)(from':Int)(m:MsgT)[OkR V.toDk s][OkMg m](hep:m.epoch=s.view.epoch):
 DT 161 #[(.pointer (some ⟨r,0,none⟩)),(.iface V.T V.ov),(.int .i64 (from')),(.agg (ints m.flat).toArray)] T0 [cF V r s] (dh (λ_ H=>H=[cF V r (pe V.toDk from' m s)])):=by
 refine BD 69 Tryz.func161 rfl rfl rfl λw0 F hF=>sr λ_ J1=>XY (ints m.flat) λb7=>?_
 refine nx J1 (ab λ_ J2=>ab λ_ J3=>e4 (α:=Unit) (λ_u=>True) (λ_u=>[(0,(.pointer (some ⟨r,0,none⟩))),(1,(.iface V.T V.ov)),(2,(.int .i64 (from'))),(7,(.pointer (some ⟨b7,0,none⟩))),(9,(.int .i64 ((dL s.view m.change).2)))]) (λ_u=>[cF V r s,ah b7 (ints m.flat) 163]) (λ_u hinv=>?_) (λtl3=>?_));have _:=hinv;refine ac J3 (sr λ_ J4=>P2 ?_);refine ao ?_ ?_<;>intro h23;refine nx J4 (CY (ai (ae (WK [0] (dI rfl ?_)))));exact MQ (by rw[pe,if_pos h23]);refine nx J4 (CN (qx J2 (ab λ_ J5=>e4 (α:=(Nat)) (λb10=>True) (λb10=>[(0,(.pointer (some ⟨r,0,none⟩))),(1,(.iface V.T V.ov)),(2,(.int .i64 (from'))),(7,(.pointer (some ⟨b7,0,none⟩))),(10,(.pointer (some ⟨b10,0,none⟩))),(11,(.bool ((gy s.acc m.epoch m.ballot m.change).2)))]) (λb10=>[cF V r s,ah b7 (ints m.flat) 163,ah b10 (ints ((gy s.acc m.epoch m.ballot m.change).1).flat) 82]) (λb10 hinv=>?_) (λtl5=>?_))));have _:=hinv;refine ac J5 (ab λ_ J6=>sr λ_ J7=>PS ?_);refine bc ?_ ?_<;>intro h38;refine PS ?_;refine nx J7 (CN (qx J6 (ab λ_ J8=>ab λ_ J9=>DC mixed (BL 2) (cO 0 rfl rfl) ?_)));refine LY 0 pH fF a8 ?_;refine PD 1 ?_;refine PD 2 ?_;refine FD 3 1058 c9 fF ?_;refine ta 4 rfl (fW (vs:=ints s.acc.flat) rfl pH rfl fF rfl (λ_ h=>h.2.2.1) (a8 s.acc) (λa_=>(yG (s.rep a_) 0 rfl (by decide) (whole (a8 ((s.rep a_).acc)))))) ?_
 refine ta 5 rfl (Lp (a:=((gy s.acc m.epoch m.ballot m.change).1).flat) (b:=s.acc.flat) (m:=6) (c:=8) Ph Pd rfl PK (eY (a8 ((gy s.acc m.epoch m.ballot m.change).1))) (eY (a8 s.acc)) ⟨iC OB OF (eY (a8 ((gy s.acc m.epoch m.ballot m.change).1))),iC OB OF (eY (a8 s.acc))⟩ (OkAc.wf) (OkAc.wf) rfl rfl rfl) ?_;refine iR ?_ ?_<;>intro h45;refine DN (ac J9 (CY (ab λ_ J10=>sr λ_ J11=>PS ?_)));refine FA 177 bd aR ?_;refine LU 1 Y3 (eH m rfl) ?_;refine FA 178 bd cv ?_;refine LV 1 ka cv ap ox (y:=m.ballot) ?_;refine FA 182 bd fp ?_;refine LV 1 na fp aI MsgT.sp_change (y:=m.change) ?_;refine tp (ll RecT.zero (RecT.mk 4 0 RowT.zero m.epoch m.ballot m.change ViewT.zero) [(0,[Value.int .i64 4]),(3,[Value.int .i64 m.epoch]),(4,ints m.ballot.flat),(5,ints m.change.flat)] eb e5 (g:=RecT.sg)) ?_;refine CE w5 (ld V r s (mo m.epoch m.ballot m.change)) ID ?_;refine PS ?_;refine ao ?_ ?_<;>intro h55;refine nx J11 (CY (ai (ae (ae (WK [0] (dI rfl ?_))))));exact MQ (by rw[pe,if_neg h23,if_neg (by rw[h38];decide),if_pos h45,if_pos h55]);refine nx J11 (CN (qx J10 (ad (PS ?_))));refine LW 2 pH fF a8 ?_;refine PS ?_;refine FA 1058 c9 fF ?_
 refine gP (vs:=ints ((gy s.acc m.epoch m.ballot m.change).1).flat) (i:=0) (aa rfl) rfl rfl rfl rfl rfl (by rw[(a8 ((gy s.acc m.epoch m.ballot m.change).1))];exact fF) (bj _) rfl rfl (λ_=>LC (cN _) (a8 _)) (λa_=>(kA ((eh V.toDk s (mo m.epoch m.ballot m.change)).rep a_) 0 rfl (by have h1:=(a8 ((gy s.acc m.epoch m.ballot m.change).1));omega) (cr ((a8 (((eh V.toDk s (mo m.epoch m.ballot m.change)).rep a_).acc)).trans (a8 ((gy s.acc m.epoch m.ballot m.change).1)).symm)))) (nx J8 (ad (P3 ?_)));refine FA 177 bd aR ?_;refine LU 1 Y3 (eH m rfl) ?_;refine FA 178 bd cv ?_;refine LV 1 ka cv ap ox (y:=m.ballot) ?_;refine tp (ll MsgT.zero (MsgT.mk 6 0 RowT.zero 0 m.epoch m.ballot BallotT.zero ChangeT.zero ViewT.zero) [(0,[Value.int .i64 6]),(4,[Value.int .i64 m.epoch]),(5,ints m.ballot.flat)] bd bq (g:=MsgT.sg)) ?_;refine CZ je (gh V r (xV (eh V.toDk s (mo m.epoch m.ballot m.change)) (gy s.acc m.epoch m.ballot m.change).1) from' (jN m.epoch m.ballot) (λs_=>ru V.toDk s_ s_.id (jN m.epoch m.ballot)) (λ_=>rr V r (xV (eh V.toDk s (mo m.epoch m.ballot m.change)) (gy s.acc m.epoch m.ballot m.change).1) (xV (eh V.toDk s (mo m.epoch m.ballot m.change)) (gy s.acc m.epoch m.ballot m.change).1).id (jN m.epoch m.ballot) (λ_=>hep) rfl)) ID λvR=>?_
 refine aq (WK [0] (bp rfl ?_));exact MQ (by rw[pe,if_neg h23,if_neg (by rw[h38];decide),if_pos h45,if_neg h55];rfl);refine DN (ac J9 (CN (qx J8 (ad (P3 ?_)))));refine FA 177 bd aR ?_;refine LU 1 Y3 (eH m rfl) ?_;refine FA 178 bd cv ?_;refine LV 1 ka cv ap ox (y:=m.ballot) ?_;refine tp (ll MsgT.zero (MsgT.mk 6 0 RowT.zero 0 m.epoch m.ballot BallotT.zero ChangeT.zero ViewT.zero) [(0,[Value.int .i64 6]),(4,[Value.int .i64 m.epoch]),(5,ints m.ballot.flat)] bd bq (g:=MsgT.sg)) ?_;refine CZ je (gh V r s from' (jN m.epoch m.ballot) (λs_=>ru V.toDk s_ s_.id (jN m.epoch m.ballot)) (λ_=>rr V r s s.id (jN m.epoch m.ballot) (λ_=>hep) rfl)) ID λvR=>?_
 refine aq (WK [0] (bp rfl ?_));exact MQ (by rw[pe,if_neg h23,if_neg (by rw[h38];decide),if_neg h45];rfl);refine PS ?_;refine nx J7 (CY (ai (ae (WK [0] (dI rfl ?_)))));exact MQ (by rw[pe,if_neg h23,if_pos h38]);refine DC mixed (cO 0 rfl rfl) (BL 1) ?_;refine PD 0 ?_;refine PD 1 ?_;refine FD 2 1058 c9 fF ?_;refine ta 3 rfl (fW (vs:=ints s.acc.flat) rfl pH rfl fF rfl (λ_ h=>h.2.1) (a8 s.acc) (λa_=>(yG (s.rep a_) 0 rfl (by decide) (whole (a8 ((s.rep a_).acc)))))) ?_;refine FD 4 177 bd aR ?_;refine LR 5 Y3 (eH m rfl) ?_;refine FD 6 178 bd cv ?_;refine ta 7 rfl (aM (vs:=ints m.ballot.flat) rfl ka rfl cv rfl (λ_ h=>h.2.2.1) (ap m.ballot) (iV m 0 rfl (by decide) (whole (ap m.ballot)))) ?_;refine FD 8 182 bd fp ?_;refine ta 9 rfl (aM (vs:=ints m.change.flat) rfl na rfl fp rfl (λ_ h=>h.2.2.1) (aI m.change) (ni m 0 rfl (by decide) (whole (aI m.change)))) ?_;refine cC [10,14] (by kernel_rfl) rfl (aE rfl ?_ ?_);refine CE LJ (u9 s.acc m.epoch m.ballot m.change) ID ?_;refine EN (PD 11 ?_);refine PD 12 ?_;refine PD 13 ?_;refine oq ?_ ?_<;>intro h37;refine AL 14 ?_;refine XZ H4 (ints AccT.zero.flat) λb10=>?_
 refine EN (AL 15 ?_);refine SW 0 fF a8 ?_;refine EN (PD 16 ?_);refine DN ?_
 exact aF
  (aL (aL (aL (aL (aL (bJ rfl (by rw[h37]) SB))))))
  (λ_ s=>ak [1,1,0] rfl s)
  (tl5 ((b10):(Nat)) trivial)
 refine AL 14 ?_;refine XZ H4 (ints AccT.zero.flat) λb10=>?_
 refine EN (AL 15 ?_);refine SW 0 fF a8 ?_;refine EN (PD 16 ?_);refine DN ?_
 exact aF
  (aL (aL (aL (aL (aL (bJ rfl (by rw[h37]) SB))))))
  (λ_ s=>ak [1,1,0] rfl s)
  (tl5 ((b10):(Nat)) trivial)
 refine aE rfl ?_ ?_;refine XZ H4 (ints AccT.zero.flat) λb10=>?_
 refine EN (AL 10 ?_);refine CE LJ (u9 s.acc m.epoch m.ballot m.change) ID ?_;refine EN (PD 11 ?_);refine PD 12 ?_;refine PD 13 ?_;refine oq ?_ ?_<;>intro h37;refine AL 15 ?_;refine SW 0 fF a8 ?_;refine EN (PD 16 ?_);refine DN ?_
 exact aF
  (aL (aL (aL (aL (aL (bJ rfl (by rw[h37]) SB))))))
  (λ_ s=>ak [1,1,0] rfl s)
  (tl5 ((b10):(Nat)) trivial)
 refine AL 15 ?_;refine SW 0 fF a8 ?_;refine EN (PD 16 ?_);refine DN ?_
 exact aF
  (aL (aL (aL (aL (aL (bJ rfl (by rw[h37]) SB))))))
  (λ_ s=>ak [1,1,0] rfl s)
  (tl5 ((b10):(Nat)) trivial)
 exact bz;refine DC mixed (cO 1 rfl rfl) (BL 0) ?_;refine PD 0 ?_;refine PD 1 ?_;refine FD 2 2 c9 bf ?_;refine ta 3 rfl (fW (vs:=ints s.view.flat) rfl eE rfl bf rfl (λ_ h=>h.2.1) (am s.view) (λa_=>(fS (s.rep a_) 0 rfl (by decide) (whole (am ((s.rep a_).view)))))) ?_;refine FD 4 182 bd fp ?_;refine ta 5 rfl (aM (vs:=ints m.change.flat) rfl na rfl fp rfl (λ_ h=>h.2.2.1) (aI m.change) (ni m 0 rfl (by decide) (whole (aI m.change)))) ?_;refine cC [6,10] (by kernel_rfl) rfl (aE rfl ?_ ?_);refine CE mX (dx s.view m.change OkVw.rng) ID ?_;refine EN (PD 7 ?_);refine PD 8 ?_;refine PD 9 ?_;refine AL 10 ?_;refine XZ se (ints ViewT.zero.flat) λb8=>?_
 refine EN (AL 11 ?_);refine SW 0 bf am ?_;refine EN (PD 12 ?_);refine DN ?_
 exact aF
  SB
  (λ_ s=>ak [2,1] rfl s)
  (tl3 (():Unit) trivial)
 refine aE rfl ?_ ?_;refine XZ se (ints ViewT.zero.flat) λb8=>?_
 refine EN (AL 6 ?_);refine CE mX (dx s.view m.change OkVw.rng) ID ?_;refine EN (PD 7 ?_);refine PD 8 ?_;refine PD 9 ?_;refine AL 11 ?_;refine SW 0 bf am ?_;refine EN (PD 12 ?_);refine DN ?_
 exact aF
  SB
  (λ_ s=>ak [2,1] rfl s)
  (tl3 (():Unit) trivial)
 exact bz
theorem wk{δ:Type}(V:Env δ)(r:Nat)(s:MS δ)(from':Int)(m:MsgT)[OkR V.toDk s][OkMg m](hfe:from'=s.id→m.epoch=s.view.epoch)(hk:m.kind=5):TK V r 82 s from' m (tD V.toDk s from' m):=oH (by omega) (kG V r s (pe V.toDk from' m) from' m hfe (λe _=>by omega) (λ_ hep=>ye V r (du s (max s.round m.ballot.round)) from' m hep) (λe=>by omega) (λe=>by omega))
theorem yj{δ:Type}(V:Env δ)(r vb:Nat)(s:MS δ)(vt:VoteT)(hv:s.vote=some vt)(hpt:vt.putting=true)[OkR V.toDk s][OkVt vt]:
 DT 92 #[(.pointer (some ⟨r,0,none⟩)),(.iface V.T V.ov)] T0 [vQ V r s (.pointer (some ⟨vb,0,none⟩)),ah vb (VoteT.cells vt) 207] (dh (λ_ H=>H=[cF V r (kQ V.toDk s vt)])):=by
 refine BD 68 Tryz.func92 rfl rfl rfl λw0 F hF=>ab λ_ J1=>e4 (α:=(Nat)) (λb4=>True) (λb4=>[(0,(.pointer (some ⟨r,0,none⟩))),(1,(.iface V.T V.ov)),(4,(.pointer (some ⟨b4,0,none⟩)))]) (λb4=>[vQ V r s (.pointer (some ⟨vb,0,none⟩)),ah vb (VoteT.cells vt) 207,ah b4 (ints (fA s.view.epoch vt.ballot).flat) 163]) (λb4 hinv=>?_) (λtl1=>?_)
 have _:=hinv;refine ac J1 (ab λ_ J2=>sr λ_ J3=>P2 ?_);refine FA 1067 c9 mP ?_;refine LG 0 px (.pointer (some ⟨vb,0,none⟩)) ?_ (hc:=by exact λa_=>(bX _ rfl));refine CE L0 (nR vb vt) (SM [1]) ?_;refine bc ?_ ?_<;>intro h22;refine nx J3 (CY (ad (P2 ?_)));refine FA 1067 c9 mP ?_;refine LG 1 px (.pointer (some ⟨vb,0,none⟩)) ?_ (hc:=by exact λa_=>(bX _ rfl));refine CE tW (c8 vb vt) ID ?_;refine FA 0 bd aR ?_;refine SS 2 aR (aG _) (MsgT.set_kind _ rfl _) ?_;refine FA 182 bd fp ?_;refine SP 2 fp aI aG ON ?_;refine nx J2 (sr λ_ J4=>ck (H':=cF V r s::[ah b4 (ints (MsgT.mk 5 ((fA s.view.epoch vt.ballot).whose) ((fA s.view.epoch vt.ballot).row) ((fA s.view.epoch vt.ballot).version) ((fA s.view.epoch vt.ballot).epoch) ((fA s.view.epoch vt.ballot).ballot) ((fA s.view.epoch vt.ballot).had) vt.change ((fA s.view.epoch vt.ballot).view)).flat) 163]) (λ_ q=>oa hv (aB [1,0] rfl q)) (P2 ?_));refine FA 2 c9 bf ?_;refine LZ 0 eE bf am s.view ?_ (hc:=by exact λ_=>cM _);refine XZ se (ints ViewT.zero.flat) λb5=>?_
 refine SW 0 bf am ?_;refine nx J4 (ab λ_ J5=>sr λ_ J6=>PS ?_);refine nx J6 (au ?_)
 refine bu (α:=(Nat)) (λk=>k≤5) (λk=>[(0,(.pointer (some ⟨r,0,none⟩))),(1,(.iface V.T V.ov)),(4,(.pointer (some ⟨b4,0,none⟩))),(5,(.pointer (some ⟨b5,0,none⟩))),(34,(.int .i64 (((k:Nat):Int))))]) (λk=>[ah b5 (ints s.view.flat) 32,ah b4 (ints (jb s.view.epoch vt.ballot vt.change).flat) 163,cF V r (iM V.toDk s (n5 s.id (jb s.view.epoch vt.ballot vt.change) (λi=>iO s.view ((i:Nat):Int)) k))]) (λk=>5-k) 0
  (aN _) SB
  (λ_ q=>by
  rw[show n5 s.id (jb s.view.epoch vt.ballot vt.change) (λi=>iO s.view ((i:Nat):Int)) 0=[]from rfl,p2]
  exact ak [0,1,0] rfl q) (λk hinv=>?_)
 obtain hk:=hinv;refine sr λ_ J7=>PS ?_
 refine ao ?_ ?_<;>intro h35;refine nx J7 (ab λ_ J8=>CY (qx J8 (ab λ_ J9=>au (sr λ_ J10=>P2 ?_))));refine nx J10 (sr λ_ J11=>P3 ?_);refine FA 0 c9 aR ?_;refine LG 2 Y3 (.int .i64 (s.id)) ?_ (hc:=by exact λa_=>(cD _ rfl));refine PS ?_;refine ao ?_ ?_<;>intro h42;refine PS ?_;refine LW 0 eE bf am ?_;refine PS ?_;refine CE p9 (dD s.view ((k:Nat):Int)) ID ?_;refine bc ?_ ?_<;>intro h46;refine PS ?_;refine nx J11 (CY (ad (P3 ?_)));refine LW 1 bd cd aG ?_;refine CZ je (nV V r s (n5 s.id (jb s.view.epoch vt.ballot vt.change) (λi=>iO s.view ((i:Nat):Int)) k) ((k:Nat):Int) (jb s.view.epoch vt.ballot vt.change) h42) (SM [2]) λvR=>?_
 refine aq (ag (ac J9 (ad (AD ?_))));refine PS ?_;refine aq ?_
 exact aJ ((k+1):(Nat)) (by omega) (by show 5- (k+1)<5-k;omega)
  SB
  (λ_ q=>by
   rw[iB,if_pos ⟨h42,h46⟩]
   exact ak [1,1,0] rfl q)
 refine PS ?_;refine nx J11 (CN (aT (ag (ac J9 (ad (AD ?_))))));refine PS ?_;refine aq ?_
 exact aJ ((k+1):(Nat)) (by omega) (by show 5- (k+1)<5-k;omega)
  SB
  (λ_ q=>by
   rw[iB,if_neg (λh=>by have:=h.2;rw[h46]at this;cases this)];rw[aP]
   exact ak [0,0,0] rfl q)
 refine PS ?_
 iterate 3 refine UF ?_
 refine PS ?_;refine nx J11 (CN (aT (ag (ac J9 (ad (AD ?_))))));refine PS ?_;refine aq ?_
 exact aJ ((k+1):(Nat)) (by omega) (by show 5- (k+1)<5-k;omega)
  SB
  (λ_ q=>by
   rw[iB,if_neg (λh=>h42 h.1)];rw[aP]
   exact ak [0,0,0] rfl q)
 obtain rfl:k=5:=by omega
 refine nx J7 (ab λ_ J12=>CN (aY (aC (aC (bo (ac J5 (ab λ_ J13=>DC mixed (BL 0) (cO 2 rfl rfl) ?_)))))));refine LY 0 eE bf am ?_;refine PD 1 ?_;refine PD 2 ?_;refine FD 3 0 c9 aR ?_;refine ta 4 rfl (de (v:=(.int .i64 ((jH V.toDk s (jb s.view.epoch vt.ballot vt.change)).id))) rfl Y3 rfl rfl (λ_ h=>h.2.2.1) (λa_=>(cD _ rfl))) ?_;refine AL 5 ?_;refine CE p9 (dD s.view ((jH V.toDk s (jb s.view.epoch vt.ballot vt.change)).id)) ID ?_;refine bc ?_ ?_<;>intro h59;refine EN (DN (ac J13 (CY (D1 1 mixed ?_))));refine PD 0 ?_;refine PD 1 ?_;refine PD 2 ?_;refine PD 3 ?_;refine FD 4 0 c9 aR ?_;refine LY 6 bd cd aG ?_;refine AL 5 ?_;refine LG 2 Y3 (.int .i64 ((jH V.toDk s (jb s.view.epoch vt.ballot vt.change)).id)) ?_ (hc:=by exact λa_=>(cD _ rfl));refine EN (AL 7 ?_);refine CZ je (gh V r (jH V.toDk s (jb s.view.epoch vt.ballot vt.change)) s.id (jb s.view.epoch vt.ballot vt.change) (λs_=>tD V.toDk s_ s_.id (jb s.view.epoch vt.ballot vt.change)) (λ_=>wk V r (jH V.toDk s (jb s.view.epoch vt.ballot vt.change)) s.id (jb s.view.epoch vt.ballot vt.change) (λ_=>rfl) rfl)) (SM [2]) λvR=>?_
 refine EN (DN (WK [0] (bp rfl ?_)));exact MQ (by rw[kQ,jP,if_pos (show iO s.view s.id=true from h59),nt,if_pos (show s.id=(jH V.toDk s (jb s.view.epoch vt.ballot vt.change)).id from rfl)]<;>rfl);refine EN (DN (ac J13 (CN (aT (WK [2] (bp rfl ?_))))));exact MQ (by rw[kQ,jP,if_neg (by rw[show iO s.view s.id=false from h59];decide)]<;>rfl)
 · rw[hpt]at h22;cases h22
 refine D1 1 mixed ?_;refine PD 0 ?_;refine PD 1 ?_;refine FD 2 2 c9 bf ?_;refine FD 3 2 eE aR ?_;refine PD 5 ?_;refine PD 6 ?_;refine FD 7 1067 c9 mP ?_;refine cC [4,8,11] (by kernel_rfl) rfl (aE rfl ?_ ?_);refine LG 0 Y3 (.int .i64 (s.view.epoch)) ?_ (hc:=by exact λa_=>(cg (s.rep ⟨(a_:Nat×Value).1,(.pointer (some ⟨vb,0,none⟩)),a_.2⟩) 0 rfl (by decide) (bb _ rfl)));refine EN (cC [8,11] (by kernel_rfl) rfl (aE rfl ?_ ?_));refine LG 0 px (.pointer (some ⟨vb,0,none⟩)) ?_ (hc:=by exact λa_=>(bX _ rfl));refine EN (cC [9,11] (by kernel_rfl) rfl (aE rfl ?_ ?_));refine CE jD (bL vb vt) (SM [1]) ?_;refine EN (ta 10 rfl (ll MsgT.zero (MsgT.mk 3 0 RowT.zero 0 s.view.epoch vt.ballot BallotT.zero ChangeT.zero ViewT.zero) [(0,[Value.int .i64 3]),(4,[Value.int .i64 s.view.epoch]),(5,ints vt.ballot.flat)] bd bq (g:=MsgT.sg)) ?_);refine AL 11 ?_;refine XZ mn (ints MsgT.zero.flat) λb4=>?_
 refine EN (AL 12 ?_);refine SW 0 cd aG ?_;refine EN (DN ?_)
 exact aF
  SB
  (λ_ s=>ak [2,1,0] rfl s)
  (tl1 ((b4):(Nat)) trivial)
 refine aE rfl ?_ ?_;refine XZ mn (ints MsgT.zero.flat) λb4=>?_
 refine EN (AL 9 ?_);refine CE jD (bL vb vt) (SM [2]) ?_;refine EN (ta 10 rfl (ll MsgT.zero (MsgT.mk 3 0 RowT.zero 0 s.view.epoch vt.ballot BallotT.zero ChangeT.zero ViewT.zero) [(0,[Value.int .i64 3]),(4,[Value.int .i64 s.view.epoch]),(5,ints vt.ballot.flat)] bd bq (g:=MsgT.sg)) ?_);refine AL 12 ?_;refine SW 1 cd aG ?_;refine EN (DN ?_)
 exact aF
  SB
  (λ_ s=>ak [2,0,0] rfl s)
  (tl1 ((b4):(Nat)) trivial)
 exact bz;refine aE rfl ?_ ?_;refine XZ mn (ints MsgT.zero.flat) λb4=>?_
 refine EN (AL 8 ?_);refine LG 1 px (.pointer (some ⟨vb,0,none⟩)) ?_ (hc:=by exact λa_=>(bX _ rfl));refine EN (AL 9 ?_);refine CE jD (bL vb vt) (SM [2]) ?_;refine EN (ta 10 rfl (ll MsgT.zero (MsgT.mk 3 0 RowT.zero 0 s.view.epoch vt.ballot BallotT.zero ChangeT.zero ViewT.zero) [(0,[Value.int .i64 3]),(4,[Value.int .i64 s.view.epoch]),(5,ints vt.ballot.flat)] bd bq (g:=MsgT.sg)) ?_);refine AL 12 ?_;refine SW 1 cd aG ?_;refine EN (DN ?_)
 exact aF
  SB
  (λ_ s=>ak [2,0,0] rfl s)
  (tl1 ((b4):(Nat)) trivial)
 exact bz;refine aE rfl ?_ ?_;refine LG 0 px (.pointer (some ⟨vb,0,none⟩)) ?_ (hc:=by exact λa_=>(bX _ rfl));refine EN (cC [4,9,11] (by kernel_rfl) rfl (aE rfl ?_ ?_));refine LG 0 Y3 (.int .i64 (s.view.epoch)) ?_ (hc:=by exact λa_=>(cg (s.rep ⟨(a_:Nat×Value).1,(.pointer (some ⟨vb,0,none⟩)),a_.2⟩) 0 rfl (by decide) (bb _ rfl)));refine EN (cC [9,11] (by kernel_rfl) rfl (aE rfl ?_ ?_));refine CE jD (bL vb vt) (SM [1]) ?_;refine EN (ta 10 rfl (ll MsgT.zero (MsgT.mk 3 0 RowT.zero 0 s.view.epoch vt.ballot BallotT.zero ChangeT.zero ViewT.zero) [(0,[Value.int .i64 3]),(4,[Value.int .i64 s.view.epoch]),(5,ints vt.ballot.flat)] bd bq (g:=MsgT.sg)) ?_);refine AL 11 ?_;refine XZ mn (ints MsgT.zero.flat) λb4=>?_
 refine EN (AL 12 ?_);refine SW 0 cd aG ?_;refine EN (DN ?_)
 exact aF
  SB
  (λ_ s=>ak [2,1,0] rfl s)
  (tl1 ((b4):(Nat)) trivial)
 refine aE rfl ?_ ?_;refine XZ mn (ints MsgT.zero.flat) λb4=>?_
 refine EN (AL 9 ?_);refine CE jD (bL vb vt) (SM [2]) ?_;refine EN (ta 10 rfl (ll MsgT.zero (MsgT.mk 3 0 RowT.zero 0 s.view.epoch vt.ballot BallotT.zero ChangeT.zero ViewT.zero) [(0,[Value.int .i64 3]),(4,[Value.int .i64 s.view.epoch]),(5,ints vt.ballot.flat)] bd bq (g:=MsgT.sg)) ?_);refine AL 12 ?_;refine SW 1 cd aG ?_;refine EN (DN ?_)
 exact aF
  SB
  (λ_ s=>ak [2,0,0] rfl s)
  (tl1 ((b4):(Nat)) trivial)
 exact bz;refine aE rfl ?_ ?_;refine CE jD (bL vb vt) (SM [1]) ?_;refine EN (cC [4,11] (by kernel_rfl) rfl (aE rfl ?_ ?_));refine LG 1 Y3 (.int .i64 (s.view.epoch)) ?_ (hc:=by exact λa_=>(cg (s.rep ⟨(a_:Nat×Value).1,(.pointer (some ⟨vb,0,none⟩)),a_.2⟩) 0 rfl (by decide) (bb _ rfl)));refine EN (ta 10 rfl (ll MsgT.zero (MsgT.mk 3 0 RowT.zero 0 s.view.epoch vt.ballot BallotT.zero ChangeT.zero ViewT.zero) [(0,[Value.int .i64 3]),(4,[Value.int .i64 s.view.epoch]),(5,ints vt.ballot.flat)] bd bq (g:=MsgT.sg)) ?_);refine AL 11 ?_;refine XZ mn (ints MsgT.zero.flat) λb4=>?_
 refine EN (AL 12 ?_);refine SW 0 cd aG ?_;refine EN (DN ?_)
 exact aF
  SB
  (λ_ s=>ak [2,1,0] rfl s)
  (tl1 ((b4):(Nat)) trivial)
 refine aE rfl ?_ ?_;refine XZ mn (ints MsgT.zero.flat) λb4=>?_
 refine EN (AL 4 ?_);refine LG 2 Y3 (.int .i64 (s.view.epoch)) ?_ (hc:=by exact λa_=>(cg (s.rep ⟨(a_:Nat×Value).1,(.pointer (some ⟨vb,0,none⟩)),a_.2⟩) 0 rfl (by decide) (bb _ rfl)));refine EN (ta 10 rfl (ll MsgT.zero (MsgT.mk 3 0 RowT.zero 0 s.view.epoch vt.ballot BallotT.zero ChangeT.zero ViewT.zero) [(0,[Value.int .i64 3]),(4,[Value.int .i64 s.view.epoch]),(5,ints vt.ballot.flat)] bd bq (g:=MsgT.sg)) ?_);refine AL 12 ?_;refine SW 0 cd aG ?_;refine EN (DN ?_)
 exact aF
  SB
  (λ_ s=>ak [2,1,0] rfl s)
  (tl1 ((b4):(Nat)) trivial)
 exact bz;refine aE rfl ?_ ?_;refine XZ mn (ints MsgT.zero.flat) λb4=>?_
 refine EN (cC [4,9] (by kernel_rfl) rfl (aE rfl ?_ ?_));refine LG 1 Y3 (.int .i64 (s.view.epoch)) ?_ (hc:=by exact λa_=>(cg (s.rep ⟨(a_:Nat×Value).1,(.pointer (some ⟨vb,0,none⟩)),a_.2⟩) 0 rfl (by decide) (bb _ rfl)));refine EN (AL 9 ?_);refine CE jD (bL vb vt) (SM [2]) ?_;refine EN (ta 10 rfl (ll MsgT.zero (MsgT.mk 3 0 RowT.zero 0 s.view.epoch vt.ballot BallotT.zero ChangeT.zero ViewT.zero) [(0,[Value.int .i64 3]),(4,[Value.int .i64 s.view.epoch]),(5,ints vt.ballot.flat)] bd bq (g:=MsgT.sg)) ?_);refine AL 12 ?_;refine SW 1 cd aG ?_;refine EN (DN ?_)
 exact aF
  SB
  (λ_ s=>ak [2,0,0] rfl s)
  (tl1 ((b4):(Nat)) trivial)
 refine aE rfl ?_ ?_;refine CE jD (bL vb vt) (SM [2]) ?_;refine EN (AL 4 ?_);refine LG 2 Y3 (.int .i64 (s.view.epoch)) ?_ (hc:=by exact λa_=>(cg (s.rep ⟨(a_:Nat×Value).1,(.pointer (some ⟨vb,0,none⟩)),a_.2⟩) 0 rfl (by decide) (bb _ rfl)));refine EN (ta 10 rfl (ll MsgT.zero (MsgT.mk 3 0 RowT.zero 0 s.view.epoch vt.ballot BallotT.zero ChangeT.zero ViewT.zero) [(0,[Value.int .i64 3]),(4,[Value.int .i64 s.view.epoch]),(5,ints vt.ballot.flat)] bd bq (g:=MsgT.sg)) ?_);refine AL 12 ?_;refine SW 1 cd aG ?_;refine EN (DN ?_)
 exact aF
  SB
  (λ_ s=>ak [2,0,0] rfl s)
  (tl1 ((b4):(Nat)) trivial)
 exact bz;exact bz;refine aE rfl ?_ ?_;refine XZ mn (ints MsgT.zero.flat) λb4=>?_
 refine EN (cC [4,8] (by kernel_rfl) rfl (aE rfl ?_ ?_));refine LG 1 Y3 (.int .i64 (s.view.epoch)) ?_ (hc:=by exact λa_=>(cg (s.rep ⟨(a_:Nat×Value).1,(.pointer (some ⟨vb,0,none⟩)),a_.2⟩) 0 rfl (by decide) (bb _ rfl)));refine EN (AL 8 ?_);refine LG 1 px (.pointer (some ⟨vb,0,none⟩)) ?_ (hc:=by exact λa_=>(bX _ rfl));refine EN (AL 9 ?_);refine CE jD (bL vb vt) (SM [2]) ?_;refine EN (ta 10 rfl (ll MsgT.zero (MsgT.mk 3 0 RowT.zero 0 s.view.epoch vt.ballot BallotT.zero ChangeT.zero ViewT.zero) [(0,[Value.int .i64 3]),(4,[Value.int .i64 s.view.epoch]),(5,ints vt.ballot.flat)] bd bq (g:=MsgT.sg)) ?_);refine AL 12 ?_;refine SW 1 cd aG ?_;refine EN (DN ?_)
 exact aF
  SB
  (λ_ s=>ak [2,0,0] rfl s)
  (tl1 ((b4):(Nat)) trivial)
 refine aE rfl ?_ ?_;refine LG 1 px (.pointer (some ⟨vb,0,none⟩)) ?_ (hc:=by exact λa_=>(bX _ rfl));refine EN (cC [4,9] (by kernel_rfl) rfl (aE rfl ?_ ?_));refine LG 1 Y3 (.int .i64 (s.view.epoch)) ?_ (hc:=by exact λa_=>(cg (s.rep ⟨(a_:Nat×Value).1,(.pointer (some ⟨vb,0,none⟩)),a_.2⟩) 0 rfl (by decide) (bb _ rfl)));refine EN (AL 9 ?_);refine CE jD (bL vb vt) (SM [2]) ?_;refine EN (ta 10 rfl (ll MsgT.zero (MsgT.mk 3 0 RowT.zero 0 s.view.epoch vt.ballot BallotT.zero ChangeT.zero ViewT.zero) [(0,[Value.int .i64 3]),(4,[Value.int .i64 s.view.epoch]),(5,ints vt.ballot.flat)] bd bq (g:=MsgT.sg)) ?_);refine AL 12 ?_;refine SW 1 cd aG ?_;refine EN (DN ?_)
 exact aF
  SB
  (λ_ s=>ak [2,0,0] rfl s)
  (tl1 ((b4):(Nat)) trivial)
 refine aE rfl ?_ ?_;refine CE jD (bL vb vt) (SM [2]) ?_;refine EN (AL 4 ?_);refine LG 2 Y3 (.int .i64 (s.view.epoch)) ?_ (hc:=by exact λa_=>(cg (s.rep ⟨(a_:Nat×Value).1,(.pointer (some ⟨vb,0,none⟩)),a_.2⟩) 0 rfl (by decide) (bb _ rfl)));refine EN (ta 10 rfl (ll MsgT.zero (MsgT.mk 3 0 RowT.zero 0 s.view.epoch vt.ballot BallotT.zero ChangeT.zero ViewT.zero) [(0,[Value.int .i64 3]),(4,[Value.int .i64 s.view.epoch]),(5,ints vt.ballot.flat)] bd bq (g:=MsgT.sg)) ?_);refine AL 12 ?_;refine SW 1 cd aG ?_;refine EN (DN ?_)
 exact aF
  SB
  (λ_ s=>ak [2,0,0] rfl s)
  (tl1 ((b4):(Nat)) trivial)
 exact bz;exact bz;exact bz
theorem sO{δ:Type}(V:Env δ)(r:Nat)(s:MS δ)(vt:VoteT)(hv:s.vote=some vt)(hpt:vt.putting=true)[OkR V.toDk s]:DT 92 #[.pointer (some ⟨r,0,none⟩), .iface V.T V.ov] T0 [cF V r s] (dh (λ_ H=>H=[cF V r (kQ V.toDk s vt)])):=
 have:OkVt vt:=OkR.vote vt hv
 Leg.Does.ex (λ_ q=>mZ hv q) λvb=>yj V r vb s vt hv hpt
theorem ry{δ:Type}(V:Env δ)(r:Nat)(s:MS δ)(from':Int)(m:MsgT)[OkR V.toDk s][OkMg m](hfe:from'=s.id→m.epoch=s.view.epoch)(hk:m.kind=4):TK V r 82 s from' m (rz V.toDk s from' m):=oH (by omega) (by
 cases hv:s.vote with
 |none=>exact kG V r s (pP V.toDk from' m) from' m hfe (λe=>by omega) (λe=>by omega) (λ_=>by rw[pP,show(du s (max s.round m.ballot.round)).vote=none from hv]) (λ_=>hv)
 |some vt=>
  have hov:OkVt vt:=OkR.vote vt hv;have h:=pT V r s vt from' m hfe (.inl hk) hv (λ_ h2=>sO V r (lw (du s (max s.round m.ballot.round)) (eO vt from' m.ballot m.had m.change).1) (eO vt from' m.ballot m.had m.change).1 rfl (DI h2))
  rwa [show(λs_:MS δ=>if m.kind=4 then pP V.toDk from' m s_ else lx V.toDk from' m s_)=pP V.toDk from' m from funext λ_=>if_pos hk]at h)
theorem yf{δ:Type}(V:Env δ)(r:Nat)(s:MS δ)(from':Int)(m:MsgT)[OkR V.toDk s][OkMg m](hep:m.epoch=s.view.epoch):
 DT 160 #[(.pointer (some ⟨r,0,none⟩)),(.iface V.T V.ov),(.int .i64 (from')),(.agg (ints m.flat).toArray)] T0 [cF V r s] (dh (λ_ H=>H=[cF V r (qu V.toDk from' m s)])):=by
 refine BD 57 Tryz.func160 rfl rfl rfl λw0 F hF=>?_
 have hpm:OkMg (kP m.epoch m.ballot (bW s.acc m.epoch m.ballot).1.had (bW s.acc m.epoch m.ballot).1.change):=OkMg.promM m.epoch inferInstance;refine sr λ_ J1=>XY (ints m.flat) λb7=>?_
 refine nx J1 (ab λ_ J2=>e4 (α:=(Nat)) (λb8=>True) (λb8=>[(0,(.pointer (some ⟨r,0,none⟩))),(1,(.iface V.T V.ov)),(2,(.int .i64 (from'))),(7,(.pointer (some ⟨b7,0,none⟩))),(8,(.pointer (some ⟨b8,0,none⟩))),(9,(.bool ((bW s.acc m.epoch m.ballot).2)))]) (λb8=>[cF V r s,ah b7 (ints m.flat) 163,ah b8 (ints ((bW s.acc m.epoch m.ballot).1).flat) 82]) (λb8 hinv=>?_) (λtl2=>?_));have _:=hinv;refine ac J2 (ab λ_ J3=>sr λ_ J4=>PS ?_);refine bc ?_ ?_<;>intro h22;refine PS ?_;refine nx J4 (CN (qx J3 (ab λ_ J5=>ab λ_ J6=>DC mixed (BL 2) (cO 0 rfl rfl) ?_)));refine FD 0 1 pH cv ?_;refine ta 1 rfl (aM (vs:=ints (((bW s.acc m.epoch m.ballot).1).vow).flat) rfl ka rfl cv rfl (λ_ h=>h.2.1) (ap (((bW s.acc m.epoch m.ballot).1).vow)) (Qo ((bW s.acc m.epoch m.ballot).1) 0 rfl (by decide) (whole (ap (((bW s.acc m.epoch m.ballot).1).vow))))) ?_;refine PD 2 ?_;refine PD 3 ?_;refine FD 4 1058 c9 fF ?_;refine FD 5 1059 pH cv ?_;refine ta 6 rfl (fW (vs:=ints s.acc.vow.flat) rfl ka rfl cv rfl (λ_ h=>h.2.2.1) (ap s.acc.vow) (λa_=>(yG (s.rep a_) 1 rfl (by decide) (Qo ((s.rep a_).acc) 0 rfl (by decide) (whole (ap (((s.rep a_).acc).vow))))))) ?_
 refine ta 7 rfl (Lp (a:=(((bW s.acc m.epoch m.ballot).1).vow).flat) (b:=s.acc.vow.flat) (m:=6) (c:=2) Mv Ms rfl MY (eY (ap (((bW s.acc m.epoch m.ballot).1).vow))) (eY (ap s.acc.vow)) ⟨iC HD HM (eY (ap (((bW s.acc m.epoch m.ballot).1).vow))),iC HD HM (eY (ap s.acc.vow))⟩ (OkAc.vow inferInstance) (OkAc.vow inferInstance) rfl rfl rfl) ?_;refine iR ?_ ?_<;>intro h31;refine DN (ac J6 (CY (ab λ_ J7=>sr λ_ J8=>PS ?_)));refine FA 177 bd aR ?_;refine LU 1 Y3 (eH m rfl) ?_;refine FA 178 bd cv ?_;refine LV 1 ka cv ap ox (y:=m.ballot) ?_;refine tp (ll RecT.zero (RecT.mk 3 0 RowT.zero m.epoch m.ballot ChangeT.zero ViewT.zero) [(0,[Value.int .i64 3]),(3,[Value.int .i64 m.epoch]),(4,ints m.ballot.flat)] eb e5 (g:=RecT.sg)) ?_;refine CE w5 (ld V r s (gV m.epoch m.ballot)) ID ?_;refine PS ?_;refine ao ?_ ?_<;>intro h39;refine nx J8 (CY (ai (ae (ae (WK [0] (dI rfl ?_))))));exact MQ (by rw[qu,if_neg (by rw[h22];decide),if_pos h31,if_pos h39]);refine nx J8 (CN (qx J7 (ad (PS ?_))));refine LW 2 pH fF a8 ?_;refine PS ?_;refine FA 1058 c9 fF ?_
 refine gP (vs:=ints ((bW s.acc m.epoch m.ballot).1).flat) (i:=0) (aa rfl) rfl rfl rfl rfl rfl (by rw[(a8 ((bW s.acc m.epoch m.ballot).1))];exact fF) (bj _) rfl rfl (λ_=>LC (cN _) (a8 _)) (λa_=>(kA ((eh V.toDk s (gV m.epoch m.ballot)).rep a_) 0 rfl (by have h1:=(a8 ((bW s.acc m.epoch m.ballot).1));omega) (cr ((a8 (((eh V.toDk s (gV m.epoch m.ballot)).rep a_).acc)).trans (a8 ((bW s.acc m.epoch m.ballot).1)).symm)))) (nx J5 (ad (P3 ?_)));refine FA 177 bd aR ?_;refine LU 1 Y3 (eH m rfl) ?_;refine FA 178 bd cv ?_;refine LV 1 ka cv ap ox (y:=m.ballot) ?_;refine FA 3 pH cv ?_;refine LV 2 ka cv ap AccT.sp_had (y:=(((bW s.acc m.epoch m.ballot).1).had)) ?_;refine FA 5 pH fp ?_;refine LV 2 na fp aI AccT.sp_change (y:=(((bW s.acc m.epoch m.ballot).1).change)) ?_;refine tp (ll MsgT.zero (MsgT.mk 4 0 RowT.zero 0 m.epoch m.ballot (((bW s.acc m.epoch m.ballot).1).had) (((bW s.acc m.epoch m.ballot).1).change) ViewT.zero) [(0,[Value.int .i64 4]),(4,[Value.int .i64 m.epoch]),(5,ints m.ballot.flat),(6,ints (((bW s.acc m.epoch m.ballot).1).had).flat),(7,ints (((bW s.acc m.epoch m.ballot).1).change).flat)] bd bq (g:=MsgT.sg)) ?_
 refine CZ je (gh V r (xV (eh V.toDk s (gV m.epoch m.ballot)) (bW s.acc m.epoch m.ballot).1) from' (kP m.epoch m.ballot (bW s.acc m.epoch m.ballot).1.had (bW s.acc m.epoch m.ballot).1.change) (λs_=>rz V.toDk s_ s_.id (kP m.epoch m.ballot (bW s.acc m.epoch m.ballot).1.had (bW s.acc m.epoch m.ballot).1.change)) (λ_=>ry V r (xV (eh V.toDk s (gV m.epoch m.ballot)) (bW s.acc m.epoch m.ballot).1) (xV (eh V.toDk s (gV m.epoch m.ballot)) (bW s.acc m.epoch m.ballot).1).id (kP m.epoch m.ballot (bW s.acc m.epoch m.ballot).1.had (bW s.acc m.epoch m.ballot).1.change) (λ_=>hep) rfl)) ID λvR=>?_
 refine aq (WK [0] (bp rfl ?_));exact MQ (by rw[qu,if_neg (by rw[h22];decide),if_pos h31,if_neg h39];rfl);refine DN (ac J6 (CN (qx J5 (ad (P3 ?_)))));refine FA 177 bd aR ?_;refine LU 1 Y3 (eH m rfl) ?_;refine FA 178 bd cv ?_;refine LV 1 ka cv ap ox (y:=m.ballot) ?_;refine FA 3 pH cv ?_;refine LV 2 ka cv ap AccT.sp_had (y:=(((bW s.acc m.epoch m.ballot).1).had)) ?_;refine FA 5 pH fp ?_;refine LV 2 na fp aI AccT.sp_change (y:=(((bW s.acc m.epoch m.ballot).1).change)) ?_;refine tp (ll MsgT.zero (MsgT.mk 4 0 RowT.zero 0 m.epoch m.ballot (((bW s.acc m.epoch m.ballot).1).had) (((bW s.acc m.epoch m.ballot).1).change) ViewT.zero) [(0,[Value.int .i64 4]),(4,[Value.int .i64 m.epoch]),(5,ints m.ballot.flat),(6,ints (((bW s.acc m.epoch m.ballot).1).had).flat),(7,ints (((bW s.acc m.epoch m.ballot).1).change).flat)] bd bq (g:=MsgT.sg)) ?_;refine CZ je (gh V r s from' (kP m.epoch m.ballot (bW s.acc m.epoch m.ballot).1.had (bW s.acc m.epoch m.ballot).1.change) (λs_=>rz V.toDk s_ s_.id (kP m.epoch m.ballot (bW s.acc m.epoch m.ballot).1.had (bW s.acc m.epoch m.ballot).1.change)) (λ_=>ry V r s s.id (kP m.epoch m.ballot (bW s.acc m.epoch m.ballot).1.had (bW s.acc m.epoch m.ballot).1.change) (λ_=>hep) rfl)) ID λvR=>?_
 refine aq (WK [0] (bp rfl ?_));exact MQ (by rw[qu,if_neg (by rw[h22];decide),if_neg h31];rfl);refine PS ?_;refine nx J4 (CY (ai (ae (WK [0] (dI rfl ?_)))));exact MQ (by rw[qu,if_pos h22]);refine DC mixed (cO 1 rfl rfl) (BL 0) ?_;refine PD 0 ?_;refine PD 1 ?_;refine FD 2 1058 c9 fF ?_;refine ta 3 rfl (fW (vs:=ints s.acc.flat) rfl pH rfl fF rfl (λ_ h=>h.2.1) (a8 s.acc) (λa_=>(yG (s.rep a_) 0 rfl (by decide) (whole (a8 ((s.rep a_).acc)))))) ?_;refine FD 4 177 bd aR ?_;refine LR 5 Y3 (eH m rfl) ?_;refine FD 6 178 bd cv ?_;refine ta 7 rfl (aM (vs:=ints m.ballot.flat) rfl ka rfl cv rfl (λ_ h=>h.2.2.1) (ap m.ballot) (iV m 0 rfl (by decide) (whole (ap m.ballot)))) ?_;refine cC [8,12] (by kernel_rfl) rfl (aE rfl ?_ ?_);refine CE FL (nz s.acc m.epoch m.ballot) ID ?_;refine EN (PD 9 ?_);refine PD 10 ?_;refine PD 11 ?_;refine oq ?_ ?_<;>intro h21;refine AL 12 ?_;refine XZ H4 (ints AccT.zero.flat) λb8=>?_
 refine EN (AL 13 ?_);refine SW 0 fF a8 ?_;refine EN (PD 14 ?_);refine DN ?_
 exact aF
  (aL (aL (aL (aL (aL (bJ rfl (by rw[h21]) SB))))))
  (λ_ s=>ak [2,1,0] rfl s)
  (tl2 ((b8):(Nat)) trivial)
 refine AL 12 ?_;refine XZ H4 (ints AccT.zero.flat) λb8=>?_
 refine EN (AL 13 ?_);refine SW 0 fF a8 ?_;refine EN (PD 14 ?_);refine DN ?_
 exact aF
  (aL (aL (aL (aL (aL (bJ rfl (by rw[h21]) SB))))))
  (λ_ s=>ak [2,1,0] rfl s)
  (tl2 ((b8):(Nat)) trivial)
 refine aE rfl ?_ ?_;refine XZ H4 (ints AccT.zero.flat) λb8=>?_
 refine EN (AL 8 ?_);refine CE FL (nz s.acc m.epoch m.ballot) ID ?_;refine EN (PD 9 ?_);refine PD 10 ?_;refine PD 11 ?_;refine oq ?_ ?_<;>intro h21;refine AL 13 ?_;refine SW 0 fF a8 ?_;refine EN (PD 14 ?_);refine DN ?_
 exact aF
  (aL (aL (aL (aL (aL (bJ rfl (by rw[h21]) SB))))))
  (λ_ s=>ak [2,1,0] rfl s)
  (tl2 ((b8):(Nat)) trivial)
 refine AL 13 ?_;refine SW 0 fF a8 ?_;refine EN (PD 14 ?_);refine DN ?_
 exact aF
  (aL (aL (aL (aL (aL (bJ rfl (by rw[h21]) SB))))))
  (λ_ s=>ak [2,1,0] rfl s)
  (tl2 ((b8):(Nat)) trivial)
 exact bz
theorem wl{δ:Type}(V:Env δ)(r:Nat)(s:MS δ)(from':Int)(m:MsgT)[OkR V.toDk s][OkMg m](hfe:from'=s.id→m.epoch=s.view.epoch)(hk:m.kind=3):TK V r 82 s from' m (tE V.toDk s from' m):=oH (by omega) (kG V r s (qu V.toDk from' m) from' m hfe (λ_ hep=>yf V r (du s (max s.round m.ballot.round)) from' m hep) (λe _=>by omega) (λe=>by omega) (λe=>by omega))
theorem yk{δ:Type}(V:Env δ)(r vb:Nat)(s:MS δ)(vt:VoteT)(hv:s.vote=some vt)(hpt:vt.putting=false)[OkR V.toDk s][OkVt vt]:
 DT 92 #[(.pointer (some ⟨r,0,none⟩)),(.iface V.T V.ov)] T0 [vQ V r s (.pointer (some ⟨vb,0,none⟩)),ah vb (VoteT.cells vt) 207] (dh (λ_ H=>H=[cF V r (mT V.toDk s vt)])):=by
 refine BD 68 Tryz.func92 rfl rfl rfl λw0 F hF=>ab λ_ J1=>e4 (α:=(Nat)) (λb4=>True) (λb4=>[(0,(.pointer (some ⟨r,0,none⟩))),(1,(.iface V.T V.ov)),(4,(.pointer (some ⟨b4,0,none⟩)))]) (λb4=>[vQ V r s (.pointer (some ⟨vb,0,none⟩)),ah vb (VoteT.cells vt) 207,ah b4 (ints (fA s.view.epoch vt.ballot).flat) 163]) (λb4 hinv=>?_) (λtl1=>?_)
 have _:=hinv;refine ac J1 (ab λ_ J2=>sr λ_ J3=>P2 ?_);refine FA 1067 c9 mP ?_;refine LG 0 px (.pointer (some ⟨vb,0,none⟩)) ?_ (hc:=by exact λa_=>(bX _ rfl));refine CE L0 (nR vb vt) (SM [1]) ?_;refine bc ?_ ?_<;>intro h22
 · rw[hpt]at h22;cases h22
 refine nx J3 (CN (qx J2 (sr λ_ J4=>ck (H':=cF V r s::[ah b4 (ints (fA s.view.epoch vt.ballot).flat) 163]) (λ_ q=>oa hv (aB [1,0] rfl q)) (P2 ?_))));refine FA 2 c9 bf ?_;refine LZ 0 eE bf am s.view ?_ (hc:=by exact λ_=>cM _);refine XZ se (ints ViewT.zero.flat) λb5=>?_
 refine SW 0 bf am ?_;refine nx J4 (ab λ_ J5=>sr λ_ J6=>PS ?_);refine nx J6 (au ?_)
 refine bu (α:=(Nat)) (λk=>k≤5) (λk=>[(0,(.pointer (some ⟨r,0,none⟩))),(1,(.iface V.T V.ov)),(4,(.pointer (some ⟨b4,0,none⟩))),(5,(.pointer (some ⟨b5,0,none⟩))),(34,(.int .i64 (((k:Nat):Int))))]) (λk=>[ah b5 (ints s.view.flat) 32,ah b4 (ints (fA s.view.epoch vt.ballot).flat) 163,cF V r (iM V.toDk s (n5 s.id (fA s.view.epoch vt.ballot) (λi=>iO s.view ((i:Nat):Int)) k))]) (λk=>5-k) 0
  (aN _) SB
  (λ_ q=>by
  rw[show n5 s.id (fA s.view.epoch vt.ballot) (λi=>iO s.view ((i:Nat):Int)) 0=[]from rfl,p2]
  exact ak [0,1,0] rfl q) (λk hinv=>?_)
 obtain hk:=hinv;refine sr λ_ J7=>PS ?_
 refine ao ?_ ?_<;>intro h35;refine nx J7 (ab λ_ J8=>CY (qx J8 (ab λ_ J9=>au (sr λ_ J10=>P2 ?_))));refine nx J10 (sr λ_ J11=>P3 ?_);refine FA 0 c9 aR ?_;refine LG 2 Y3 (.int .i64 (s.id)) ?_ (hc:=by exact λa_=>(cD _ rfl));refine PS ?_;refine ao ?_ ?_<;>intro h42;refine PS ?_;refine LW 0 eE bf am ?_;refine PS ?_;refine CE p9 (dD s.view ((k:Nat):Int)) ID ?_;refine bc ?_ ?_<;>intro h46;refine PS ?_;refine nx J11 (CY (ad (P3 ?_)));refine LW 1 bd cd aG ?_;refine CZ je (nV V r s (n5 s.id (fA s.view.epoch vt.ballot) (λi=>iO s.view ((i:Nat):Int)) k) ((k:Nat):Int) (fA s.view.epoch vt.ballot) h42) (SM [2]) λvR=>?_
 refine aq (ag (ac J9 (ad (AD ?_))));refine PS ?_;refine aq ?_
 exact aJ ((k+1):(Nat)) (by omega) (by show 5- (k+1)<5-k;omega)
  SB
  (λ_ q=>by
   rw[iB,if_pos ⟨h42,h46⟩]
   exact ak [1,1,0] rfl q)
 refine PS ?_;refine nx J11 (CN (aT (ag (ac J9 (ad (AD ?_))))));refine PS ?_;refine aq ?_
 exact aJ ((k+1):(Nat)) (by omega) (by show 5- (k+1)<5-k;omega)
  SB
  (λ_ q=>by
   rw[iB,if_neg (λh=>by have:=h.2;rw[h46]at this;cases this)];rw[aP]
   exact ak [0,0,0] rfl q)
 refine PS ?_
 iterate 3 refine UF ?_
 refine PS ?_;refine nx J11 (CN (aT (ag (ac J9 (ad (AD ?_))))));refine PS ?_;refine aq ?_
 exact aJ ((k+1):(Nat)) (by omega) (by show 5- (k+1)<5-k;omega)
  SB
  (λ_ q=>by
   rw[iB,if_neg (λh=>h42 h.1)];rw[aP]
   exact ak [0,0,0] rfl q)
 obtain rfl:k=5:=by omega
 refine nx J7 (ab λ_ J12=>CN (aY (aC (aC (bo (ac J5 (ab λ_ J13=>DC mixed (BL 0) (cO 2 rfl rfl) ?_)))))));refine LY 0 eE bf am ?_;refine PD 1 ?_;refine PD 2 ?_;refine FD 3 0 c9 aR ?_;refine ta 4 rfl (de (v:=(.int .i64 ((jH V.toDk s (fA s.view.epoch vt.ballot)).id))) rfl Y3 rfl rfl (λ_ h=>h.2.2.1) (λa_=>(cD _ rfl))) ?_;refine AL 5 ?_;refine CE p9 (dD s.view ((jH V.toDk s (fA s.view.epoch vt.ballot)).id)) ID ?_;refine bc ?_ ?_<;>intro h59;refine EN (DN (ac J13 (CY (D1 1 mixed ?_))));refine PD 0 ?_;refine PD 1 ?_;refine PD 2 ?_;refine PD 3 ?_;refine FD 4 0 c9 aR ?_;refine LY 6 bd cd aG ?_;refine AL 5 ?_;refine LG 2 Y3 (.int .i64 ((jH V.toDk s (fA s.view.epoch vt.ballot)).id)) ?_ (hc:=by exact λa_=>(cD _ rfl));refine EN (AL 7 ?_);refine CZ je (gh V r (jH V.toDk s (fA s.view.epoch vt.ballot)) s.id (fA s.view.epoch vt.ballot) (λs_=>tE V.toDk s_ s_.id (fA s.view.epoch vt.ballot)) (λ_=>wl V r (jH V.toDk s (fA s.view.epoch vt.ballot)) s.id (fA s.view.epoch vt.ballot) (λ_=>rfl) rfl)) (SM [2]) λvR=>?_
 refine EN (DN (WK [0] (bp rfl ?_)));exact MQ (by rw[mT,jP,if_pos (show iO s.view s.id=true from h59),nt,if_pos (show s.id=(jH V.toDk s (fA s.view.epoch vt.ballot)).id from rfl)]<;>rfl);refine EN (DN (ac J13 (CN (aT (WK [2] (bp rfl ?_))))));exact MQ (by rw[mT,jP,if_neg (by rw[show iO s.view s.id=false from h59];decide)]<;>rfl);refine D1 1 mixed ?_;refine PD 0 ?_;refine PD 1 ?_;refine FD 2 2 c9 bf ?_;refine FD 3 2 eE aR ?_;refine PD 5 ?_;refine PD 6 ?_;refine FD 7 1067 c9 mP ?_;refine cC [4,8,11] (by kernel_rfl) rfl (aE rfl ?_ ?_);refine LG 0 Y3 (.int .i64 (s.view.epoch)) ?_ (hc:=by exact λa_=>(cg (s.rep ⟨(a_:Nat×Value).1,(.pointer (some ⟨vb,0,none⟩)),a_.2⟩) 0 rfl (by decide) (bb _ rfl)));refine EN (cC [8,11] (by kernel_rfl) rfl (aE rfl ?_ ?_));refine LG 0 px (.pointer (some ⟨vb,0,none⟩)) ?_ (hc:=by exact λa_=>(bX _ rfl));refine EN (cC [9,11] (by kernel_rfl) rfl (aE rfl ?_ ?_));refine CE jD (bL vb vt) (SM [1]) ?_;refine EN (ta 10 rfl (ll MsgT.zero (MsgT.mk 3 0 RowT.zero 0 s.view.epoch vt.ballot BallotT.zero ChangeT.zero ViewT.zero) [(0,[Value.int .i64 3]),(4,[Value.int .i64 s.view.epoch]),(5,ints vt.ballot.flat)] bd bq (g:=MsgT.sg)) ?_);refine AL 11 ?_;refine XZ mn (ints MsgT.zero.flat) λb4=>?_
 refine EN (AL 12 ?_);refine SW 0 cd aG ?_;refine EN (DN ?_)
 exact aF
  SB
  (λ_ s=>ak [2,1,0] rfl s)
  (tl1 ((b4):(Nat)) trivial)
 refine aE rfl ?_ ?_;refine XZ mn (ints MsgT.zero.flat) λb4=>?_
 refine EN (AL 9 ?_);refine CE jD (bL vb vt) (SM [2]) ?_;refine EN (ta 10 rfl (ll MsgT.zero (MsgT.mk 3 0 RowT.zero 0 s.view.epoch vt.ballot BallotT.zero ChangeT.zero ViewT.zero) [(0,[Value.int .i64 3]),(4,[Value.int .i64 s.view.epoch]),(5,ints vt.ballot.flat)] bd bq (g:=MsgT.sg)) ?_);refine AL 12 ?_;refine SW 1 cd aG ?_;refine EN (DN ?_)
 exact aF
  SB
  (λ_ s=>ak [2,0,0] rfl s)
  (tl1 ((b4):(Nat)) trivial)
 exact bz;refine aE rfl ?_ ?_;refine XZ mn (ints MsgT.zero.flat) λb4=>?_
 refine EN (AL 8 ?_);refine LG 1 px (.pointer (some ⟨vb,0,none⟩)) ?_ (hc:=by exact λa_=>(bX _ rfl));refine EN (AL 9 ?_);refine CE jD (bL vb vt) (SM [2]) ?_;refine EN (ta 10 rfl (ll MsgT.zero (MsgT.mk 3 0 RowT.zero 0 s.view.epoch vt.ballot BallotT.zero ChangeT.zero ViewT.zero) [(0,[Value.int .i64 3]),(4,[Value.int .i64 s.view.epoch]),(5,ints vt.ballot.flat)] bd bq (g:=MsgT.sg)) ?_);refine AL 12 ?_;refine SW 1 cd aG ?_;refine EN (DN ?_)
 exact aF
  SB
  (λ_ s=>ak [2,0,0] rfl s)
  (tl1 ((b4):(Nat)) trivial)
 exact bz;refine aE rfl ?_ ?_;refine LG 0 px (.pointer (some ⟨vb,0,none⟩)) ?_ (hc:=by exact λa_=>(bX _ rfl));refine EN (cC [4,9,11] (by kernel_rfl) rfl (aE rfl ?_ ?_));refine LG 0 Y3 (.int .i64 (s.view.epoch)) ?_ (hc:=by exact λa_=>(cg (s.rep ⟨(a_:Nat×Value).1,(.pointer (some ⟨vb,0,none⟩)),a_.2⟩) 0 rfl (by decide) (bb _ rfl)));refine EN (cC [9,11] (by kernel_rfl) rfl (aE rfl ?_ ?_));refine CE jD (bL vb vt) (SM [1]) ?_;refine EN (ta 10 rfl (ll MsgT.zero (MsgT.mk 3 0 RowT.zero 0 s.view.epoch vt.ballot BallotT.zero ChangeT.zero ViewT.zero) [(0,[Value.int .i64 3]),(4,[Value.int .i64 s.view.epoch]),(5,ints vt.ballot.flat)] bd bq (g:=MsgT.sg)) ?_);refine AL 11 ?_;refine XZ mn (ints MsgT.zero.flat) λb4=>?_
 refine EN (AL 12 ?_);refine SW 0 cd aG ?_;refine EN (DN ?_)
 exact aF
  SB
  (λ_ s=>ak [2,1,0] rfl s)
  (tl1 ((b4):(Nat)) trivial)
 refine aE rfl ?_ ?_;refine XZ mn (ints MsgT.zero.flat) λb4=>?_
 refine EN (AL 9 ?_);refine CE jD (bL vb vt) (SM [2]) ?_;refine EN (ta 10 rfl (ll MsgT.zero (MsgT.mk 3 0 RowT.zero 0 s.view.epoch vt.ballot BallotT.zero ChangeT.zero ViewT.zero) [(0,[Value.int .i64 3]),(4,[Value.int .i64 s.view.epoch]),(5,ints vt.ballot.flat)] bd bq (g:=MsgT.sg)) ?_);refine AL 12 ?_;refine SW 1 cd aG ?_;refine EN (DN ?_)
 exact aF
  SB
  (λ_ s=>ak [2,0,0] rfl s)
  (tl1 ((b4):(Nat)) trivial)
 exact bz;refine aE rfl ?_ ?_;refine CE jD (bL vb vt) (SM [1]) ?_;refine EN (cC [4,11] (by kernel_rfl) rfl (aE rfl ?_ ?_));refine LG 1 Y3 (.int .i64 (s.view.epoch)) ?_ (hc:=by exact λa_=>(cg (s.rep ⟨(a_:Nat×Value).1,(.pointer (some ⟨vb,0,none⟩)),a_.2⟩) 0 rfl (by decide) (bb _ rfl)));refine EN (ta 10 rfl (ll MsgT.zero (MsgT.mk 3 0 RowT.zero 0 s.view.epoch vt.ballot BallotT.zero ChangeT.zero ViewT.zero) [(0,[Value.int .i64 3]),(4,[Value.int .i64 s.view.epoch]),(5,ints vt.ballot.flat)] bd bq (g:=MsgT.sg)) ?_);refine AL 11 ?_;refine XZ mn (ints MsgT.zero.flat) λb4=>?_
 refine EN (AL 12 ?_);refine SW 0 cd aG ?_;refine EN (DN ?_)
 exact aF
  SB
  (λ_ s=>ak [2,1,0] rfl s)
  (tl1 ((b4):(Nat)) trivial)
 refine aE rfl ?_ ?_;refine XZ mn (ints MsgT.zero.flat) λb4=>?_
 refine EN (AL 4 ?_);refine LG 2 Y3 (.int .i64 (s.view.epoch)) ?_ (hc:=by exact λa_=>(cg (s.rep ⟨(a_:Nat×Value).1,(.pointer (some ⟨vb,0,none⟩)),a_.2⟩) 0 rfl (by decide) (bb _ rfl)));refine EN (ta 10 rfl (ll MsgT.zero (MsgT.mk 3 0 RowT.zero 0 s.view.epoch vt.ballot BallotT.zero ChangeT.zero ViewT.zero) [(0,[Value.int .i64 3]),(4,[Value.int .i64 s.view.epoch]),(5,ints vt.ballot.flat)] bd bq (g:=MsgT.sg)) ?_);refine AL 12 ?_;refine SW 0 cd aG ?_;refine EN (DN ?_)
 exact aF
  SB
  (λ_ s=>ak [2,1,0] rfl s)
  (tl1 ((b4):(Nat)) trivial)
 exact bz;refine aE rfl ?_ ?_;refine XZ mn (ints MsgT.zero.flat) λb4=>?_
 refine EN (cC [4,9] (by kernel_rfl) rfl (aE rfl ?_ ?_));refine LG 1 Y3 (.int .i64 (s.view.epoch)) ?_ (hc:=by exact λa_=>(cg (s.rep ⟨(a_:Nat×Value).1,(.pointer (some ⟨vb,0,none⟩)),a_.2⟩) 0 rfl (by decide) (bb _ rfl)));refine EN (AL 9 ?_);refine CE jD (bL vb vt) (SM [2]) ?_;refine EN (ta 10 rfl (ll MsgT.zero (MsgT.mk 3 0 RowT.zero 0 s.view.epoch vt.ballot BallotT.zero ChangeT.zero ViewT.zero) [(0,[Value.int .i64 3]),(4,[Value.int .i64 s.view.epoch]),(5,ints vt.ballot.flat)] bd bq (g:=MsgT.sg)) ?_);refine AL 12 ?_;refine SW 1 cd aG ?_;refine EN (DN ?_)
 exact aF
  SB
  (λ_ s=>ak [2,0,0] rfl s)
  (tl1 ((b4):(Nat)) trivial)
 refine aE rfl ?_ ?_;refine CE jD (bL vb vt) (SM [2]) ?_;refine EN (AL 4 ?_);refine LG 2 Y3 (.int .i64 (s.view.epoch)) ?_ (hc:=by exact λa_=>(cg (s.rep ⟨(a_:Nat×Value).1,(.pointer (some ⟨vb,0,none⟩)),a_.2⟩) 0 rfl (by decide) (bb _ rfl)));refine EN (ta 10 rfl (ll MsgT.zero (MsgT.mk 3 0 RowT.zero 0 s.view.epoch vt.ballot BallotT.zero ChangeT.zero ViewT.zero) [(0,[Value.int .i64 3]),(4,[Value.int .i64 s.view.epoch]),(5,ints vt.ballot.flat)] bd bq (g:=MsgT.sg)) ?_);refine AL 12 ?_;refine SW 1 cd aG ?_;refine EN (DN ?_)
 exact aF
  SB
  (λ_ s=>ak [2,0,0] rfl s)
  (tl1 ((b4):(Nat)) trivial)
 exact bz;exact bz;refine aE rfl ?_ ?_;refine XZ mn (ints MsgT.zero.flat) λb4=>?_
 refine EN (cC [4,8] (by kernel_rfl) rfl (aE rfl ?_ ?_));refine LG 1 Y3 (.int .i64 (s.view.epoch)) ?_ (hc:=by exact λa_=>(cg (s.rep ⟨(a_:Nat×Value).1,(.pointer (some ⟨vb,0,none⟩)),a_.2⟩) 0 rfl (by decide) (bb _ rfl)));refine EN (AL 8 ?_);refine LG 1 px (.pointer (some ⟨vb,0,none⟩)) ?_ (hc:=by exact λa_=>(bX _ rfl));refine EN (AL 9 ?_);refine CE jD (bL vb vt) (SM [2]) ?_;refine EN (ta 10 rfl (ll MsgT.zero (MsgT.mk 3 0 RowT.zero 0 s.view.epoch vt.ballot BallotT.zero ChangeT.zero ViewT.zero) [(0,[Value.int .i64 3]),(4,[Value.int .i64 s.view.epoch]),(5,ints vt.ballot.flat)] bd bq (g:=MsgT.sg)) ?_);refine AL 12 ?_;refine SW 1 cd aG ?_;refine EN (DN ?_)
 exact aF
  SB
  (λ_ s=>ak [2,0,0] rfl s)
  (tl1 ((b4):(Nat)) trivial)
 refine aE rfl ?_ ?_;refine LG 1 px (.pointer (some ⟨vb,0,none⟩)) ?_ (hc:=by exact λa_=>(bX _ rfl));refine EN (cC [4,9] (by kernel_rfl) rfl (aE rfl ?_ ?_));refine LG 1 Y3 (.int .i64 (s.view.epoch)) ?_ (hc:=by exact λa_=>(cg (s.rep ⟨(a_:Nat×Value).1,(.pointer (some ⟨vb,0,none⟩)),a_.2⟩) 0 rfl (by decide) (bb _ rfl)));refine EN (AL 9 ?_);refine CE jD (bL vb vt) (SM [2]) ?_;refine EN (ta 10 rfl (ll MsgT.zero (MsgT.mk 3 0 RowT.zero 0 s.view.epoch vt.ballot BallotT.zero ChangeT.zero ViewT.zero) [(0,[Value.int .i64 3]),(4,[Value.int .i64 s.view.epoch]),(5,ints vt.ballot.flat)] bd bq (g:=MsgT.sg)) ?_);refine AL 12 ?_;refine SW 1 cd aG ?_;refine EN (DN ?_)
 exact aF
  SB
  (λ_ s=>ak [2,0,0] rfl s)
  (tl1 ((b4):(Nat)) trivial)
 refine aE rfl ?_ ?_;refine CE jD (bL vb vt) (SM [2]) ?_;refine EN (AL 4 ?_);refine LG 2 Y3 (.int .i64 (s.view.epoch)) ?_ (hc:=by exact λa_=>(cg (s.rep ⟨(a_:Nat×Value).1,(.pointer (some ⟨vb,0,none⟩)),a_.2⟩) 0 rfl (by decide) (bb _ rfl)));refine EN (ta 10 rfl (ll MsgT.zero (MsgT.mk 3 0 RowT.zero 0 s.view.epoch vt.ballot BallotT.zero ChangeT.zero ViewT.zero) [(0,[Value.int .i64 3]),(4,[Value.int .i64 s.view.epoch]),(5,ints vt.ballot.flat)] bd bq (g:=MsgT.sg)) ?_);refine AL 12 ?_;refine SW 1 cd aG ?_;refine EN (DN ?_)
 exact aF
  SB
  (λ_ s=>ak [2,0,0] rfl s)
  (tl1 ((b4):(Nat)) trivial)
 exact bz;exact bz;exact bz
theorem Ax{δ:Type}(V:Env δ)(r:Nat)(s:MS δ)(vt:VoteT)(hv:s.vote=some vt)(hpt:vt.putting=false)[OkR V.toDk s]:DT 92 #[.pointer (some ⟨r,0,none⟩), .iface V.T V.ov] T0 [cF V r s] (dh (λ_ H=>H=[cF V r (mT V.toDk s vt)])):=
 have:OkVt vt:=OkR.vote vt hv
 Leg.Does.ex (λ_ q=>mZ hv q) λvb=>yk V r vb s vt hv hpt
theorem rG{δ:Type}(V:Env δ)(r:Nat)(s:MS δ)(vt:VoteT)(hv:s.vote=some vt)[OkR V.toDk s]:DT 92 #[.pointer (some ⟨r,0,none⟩), .iface V.T V.ov] T0 [cF V r s] (dh (λ_ H=>H=[cF V r (n4 V.toDk s vt)])):=by
 cases hp:vt.putting with
 |true=>rw[n4,if_pos hp];exact sO V r s vt hv hp
 |false=>rw[n4,if_neg (by rw[hp];decide)];exact Ax V r s vt hv hp
theorem Ab{δ:Type}(V:Env δ)(r:Nat)(s:MS δ)(from':Int)(m:MsgT)[OkR V.toDk s][OkMg m](hto:from'≠s.id)(hrs:s.replies.length≤1000000):TK V r 82 s from' m (gg V.toDk s from' m):=by
 have hfe:from'=s.id→m.epoch=s.view.epoch:=λe=>absurd e hto
 by_cases h3:m.kind=3
 · rw[gg];simp only[h3];exact wl V r s from' m hfe h3
 by_cases h4:m.kind=4
 · rw[gg];simp only[h4];exact ry V r s from' m hfe h4
 by_cases h5:m.kind=5
 · rw[gg];simp only[h5];exact wk V r s from' m hfe h5
 by_cases h6:m.kind=6
 · rw[gg];simp only[h6];exact rr V r s from' m hfe h6
 refine oI V r s _ from' m (λh=>?_) (λh=>?_) (λh=>?_) (λh=>?_) (λh=>?_) (λh=>?_) (λh=>by omega) (λh=>?_)
 · rw[gg,if_pos h];exact yd V r s from' m hto
 · rw[gg,if_neg (by omega),if_pos h];exact wj V r s from' m hrs
 · rw[gg,if_neg (by omega),if_neg (by omega),if_pos h]
 · rw[gg,if_neg (by omega),if_neg (by omega),if_neg (by omega),if_pos h];exact uQ V r s m.view
 · rw[gg,if_neg (by omega),if_neg (by omega),if_neg (by omega),if_neg (by omega),if_pos h];exact wi V r s from' m
 · rw[gg,if_neg (by omega),if_neg (by omega),if_neg (by omega),if_neg (by omega),if_neg (by omega),if_pos h];exact nT V r s from' m
 · rw[gg,if_neg h.1,if_neg h.2.1,if_neg h.2.2.1,if_neg h.2.2.2.1,if_neg h.2.2.2.2.1,if_neg h.2.2.2.2.2.1,if_neg h3,if_neg h4,if_neg h5,if_neg h6]
theorem qp{δ:Type}(V:Env δ)(r:Nat)(s:MS δ)(c:ChangeT)[OkR V.toDk s][OkCh c]:
 DT 91 #[(.pointer (some ⟨r,0,none⟩)),(.agg (ints c.flat).toArray)] T0 [cF V r s] (RI (.int .i64 (co V.toDk s c).2) [cF V r (co V.toDk s c).1]):=by
 refine BD 66 Tryz.func91 rfl rfl rfl λw0 F hF=>sr λ_ J1=>XY (ints c.flat) λb3=>?_
 refine PS ?_;refine nx J1 (ab λ_ J2=>e4 (α:=(Nat)) (λb5=>True) (λb5=>[(0,(.pointer (some ⟨r,0,none⟩))),(3,(.pointer (some ⟨b3,0,none⟩))),(4,(.int .i64 0)),(5,(.pointer (some ⟨b5,0,none⟩)))]) (λb5=>[cF V r s,ah b3 (ints c.flat) 61,ah b5 (ints (eD s).flat) 80]) (λb5 hinv=>?_) (λtl2=>?_));have _:=hinv;refine ac J2 (ab λ_ J3=>e4 (α:=(Nat)) (λb6=>True) (λb6=>[(0,(.pointer (some ⟨r,0,none⟩))),(3,(.pointer (some ⟨b3,0,none⟩))),(4,(.int .i64 0)),(5,(.pointer (some ⟨b5,0,none⟩))),(6,(.pointer (some ⟨b6,0,none⟩))),(7,(.bool ((bW s.acc s.view.epoch (eD s)).2)))]) (λb6=>[cF V r s,ah b3 (ints c.flat) 61,ah b5 (ints (eD s).flat) 80,ah b6 (ints ((bW s.acc s.view.epoch (eD s)).1).flat) 82]) (λb6 hinv=>?_) (λtl3=>?_));have _:=hinv;refine ac J3 (ab λ_ J4=>sr λ_ J5=>PS ?_);refine bc ?_ ?_<;>intro h33;refine PS ?_;refine nx J5 (CN (qx J4 (ab λ_ J6=>ab λ_ J7=>DC mixed (cO 0 rfl rfl) (BL 2) ?_)));refine PD 0 ?_;refine PD 1 ?_;refine PD 2 ?_;refine FD 3 2 c9 bf ?_;refine FD 4 2 eE aR ?_;refine ta 5 rfl (de (v:=(.int .i64 (s.view.epoch))) rfl Y3 rfl rfl (λ_ h=>h.2.1) (λa_=>(cg (s.rep a_) 0 rfl (by decide) (bb _ rfl)))) ?_;refine LY 6 ka cv ap ?_;refine ta 7 rfl (ll RecT.zero (RecT.mk 3 0 RowT.zero s.view.epoch (eD s) ChangeT.zero ViewT.zero) [(0,[Value.int .i64 3]),(3,[Value.int .i64 s.view.epoch]),(4,ints (eD s).flat)] eb e5 (g:=RecT.sg)) ?_
 refine AL 8 ?_;refine CE w5 (ld V r s (gV s.view.epoch (eD s))) ID ?_;refine EN (PD 9 ?_);refine DN (ac J7 (sr λ_ J8=>P2 ?_));refine ao ?_ ?_<;>intro h45;refine nx J8 (CY (sr λ_ J9=>P2 ?_));refine nx J9 (ai (ae (WK [0] (av rfl rfl ?_))));have e:co V.toDk s c=(eh V.toDk s (gV s.view.epoch (eD s)),sN V.toDk s (gV s.view.epoch (eD s))):=by rw[co,if_neg (by rw[h33];decide),if_pos h45]
 exact jC e;refine TL.ex (H':=λvo:Value=>vQ V r (eh V.toDk s (gV s.view.epoch (eD s))) vo::[ah b3 (ints c.flat) 61,ah b5 (ints (eD s).flat) 80,ah b6 (ints ((bW s.acc s.view.epoch (eD s)).1).flat) 82]) (λ_ q=>FP q) (λvo=>nx J8 (CN (qx J6 (ab λ_ J10=>D2 3 2 mixed ?_))));refine PD 0 ?_;refine PD 1 ?_;refine LY 2 pH fF a8 ?_;refine FD 3 0 ka aR ?_;refine LX 4 Y3 (.int .i64 ((eD s).round)) ?_ (hc:=by exact e8 _ rfl);refine PD 5 ?_;refine FD 6 1058 c9 fF ?_;refine AL 7 ?_;refine gP (vs:=ints ((bW s.acc s.view.epoch (eD s)).1).flat) (i:=0) (aa rfl) rfl rfl rfl rfl rfl (by rw[(a8 ((bW s.acc s.view.epoch (eD s)).1))];exact fF) (bj _) rfl rfl (λ_=>LC (cN _) (a8 _)) (λa_=>(kA ((eh V.toDk s (gV s.view.epoch (eD s))).rep ⟨(a_:Nat×Value).1,vo,a_.2⟩) 0 rfl (by have h1:=(a8 ((bW s.acc s.view.epoch (eD s)).1));omega) (cr ((a8 (((eh V.toDk s (gV s.view.epoch (eD s))).rep ⟨(a_:Nat×Value).1,vo,a_.2⟩).acc)).trans (a8 ((bW s.acc s.view.epoch (eD s)).1)).symm)))) (EN (PD 8 ?_));refine FD 9 1066 c9 aR ?_;refine AL 10 ?_;refine SK 0 aR (λ_=>cN _) ?_ (hc:=by exact λa_=>(lS _ rfl _));refine EN (DN (ac J10 (ab λ_ J11=>D2 2 1 mixed ?_)));refine PD 0 ?_;refine PD 1 ?_;refine PD 2 ?_;refine FD 3 2 c9 bf ?_;refine LY 5 ka cv ap ?_;refine LY 6 na fp aI ?_;refine AL 4 ?_;refine LZ 0 eE bf am s.view ?_ (hc:=by exact λ_=>cM _);refine EN (AL 7 ?_);refine CR Of (zS s.view (eD s) c) ID λvR HR hR=>?_
 obtain⟨vb,rfl,rfl⟩:=hR;refine EN (PD 8 ?_);refine FD 9 1067 c9 mP ?_;refine AL 10 ?_;refine SK 1 mP (λ_=>cN _) ?_ (hc:=by exact λa_=>(PT _ rfl _));refine EN (DN (ac J11 (sr λ_ J12=>PS ?_)));refine nx J12 (ai (aF (H':=[cF V r (rV V.toDk s c)]) (dd _) (λ_ q=>n9 (ak [1,0] rfl q)) (av rfl rfl ?_)));have e:co V.toDk s c=(rV V.toDk s c,0):=by rw[co,if_neg (by rw[h33];decide),if_neg h45]
 exact jC e;refine PS ?_;refine nx J5 (CY (sr λ_ J13=>PS ?_));refine nx J13 (ai (ae (WK [0] (av rfl rfl ?_))));have e:co V.toDk s c=(s,6):=if_pos h33;exact jC e;refine DC mixed (cO 0 rfl rfl) (BL 2) ?_;refine PD 0 ?_;refine PD 1 ?_;refine FD 2 1058 c9 fF ?_;refine ta 3 rfl (fW (vs:=ints s.acc.flat) rfl pH rfl fF rfl (λ_ h=>h.2.1) (a8 s.acc) (λa_=>(yG (s.rep a_) 0 rfl (by decide) (whole (a8 ((s.rep a_).acc)))))) ?_;refine PD 4 ?_;refine PD 5 ?_;refine FD 6 2 c9 bf ?_;refine FD 7 2 eE aR ?_;refine ta 8 rfl (de (v:=(.int .i64 (s.view.epoch))) rfl Y3 rfl rfl (λ_ h=>h.2.1) (λa_=>(cg (s.rep a_) 0 rfl (by decide) (bb _ rfl)))) ?_;refine LY 9 ka cv ap ?_;refine cC [10,14] (by kernel_rfl) rfl (aE rfl ?_ ?_);refine CE FL (nz s.acc s.view.epoch (eD s)) ID ?_;refine EN (PD 11 ?_);refine PD 12 ?_;refine PD 13 ?_;refine oq ?_ ?_<;>intro h32;refine AL 14 ?_;refine XZ H4 (ints AccT.zero.flat) λb6=>?_
 refine EN (AL 15 ?_);refine SW 0 fF a8 ?_;refine EN (PD 16 ?_);refine DN ?_
 exact aF
  (aL (aL (aL (aL (aL (bJ rfl (by rw[h32]) SB))))))
  (λ_ s=>ak [1,1,1,0] rfl s)
  (tl3 ((b6):(Nat)) trivial)
 refine AL 14 ?_;refine XZ H4 (ints AccT.zero.flat) λb6=>?_
 refine EN (AL 15 ?_);refine SW 0 fF a8 ?_;refine EN (PD 16 ?_);refine DN ?_
 exact aF
  (aL (aL (aL (aL (aL (bJ rfl (by rw[h32]) SB))))))
  (λ_ s=>ak [1,1,1,0] rfl s)
  (tl3 ((b6):(Nat)) trivial)
 refine aE rfl ?_ ?_;refine XZ H4 (ints AccT.zero.flat) λb6=>?_
 refine EN (AL 10 ?_);refine CE FL (nz s.acc s.view.epoch (eD s)) ID ?_;refine EN (PD 11 ?_);refine PD 12 ?_;refine PD 13 ?_;refine oq ?_ ?_<;>intro h32;refine AL 15 ?_;refine SW 0 fF a8 ?_;refine EN (PD 16 ?_);refine DN ?_
 exact aF
  (aL (aL (aL (aL (aL (bJ rfl (by rw[h32]) SB))))))
  (λ_ s=>ak [1,1,1,0] rfl s)
  (tl3 ((b6):(Nat)) trivial)
 refine AL 15 ?_;refine SW 0 fF a8 ?_;refine EN (PD 16 ?_);refine DN ?_
 exact aF
  (aL (aL (aL (aL (aL (bJ rfl (by rw[h32]) SB))))))
  (λ_ s=>ak [1,1,1,0] rfl s)
  (tl3 ((b6):(Nat)) trivial)
 exact bz;refine DB mixed (cO 1 rfl rfl) ?_;refine PD 0 ?_;refine PD 1 ?_;refine FD 2 1066 c9 aR ?_;refine ta 3 rfl (de (v:=(.int .i64 (s.round))) rfl Y3 rfl rfl (λ_ h=>h.2.1) (λa_=>(vA _ rfl))) ?_;refine ta 4 rfl (cq (r:=(fO (s.round+1))) rfl rfl rfl rfl) ?_;refine PD 5 ?_;refine PD 6 ?_;refine FD 7 0 c9 aR ?_;refine ta 8 rfl (de (v:=(.int .i64 (s.id))) rfl Y3 rfl rfl (λ_ h=>h.2.1) (λa_=>(cD _ rfl))) ?_;refine ta 9 rfl (ll BallotT.zero (BallotT.mk (fO (s.round+1)) s.id) [(0,[Value.int .i64 (fO (s.round+1))]),(1,[Value.int .i64 s.id])] ka O0 (g:=BallotT.sg)) ?_;refine AL 10 ?_;refine XZ O2 (ints BallotT.zero.flat) λb5=>?_
 refine EN (AL 11 ?_);refine SW 0 cv ap ?_;refine EN (DN ?_)
 exact aF
  SB
  (λ_ s=>ak [2,1,0] rfl s)
  (tl2 ((b5):(Nat)) trivial)
theorem A6{δ:Type}(V:Env δ)(r:Nat)(s:MS δ)(op:Int)(c:ChangeT)[OkR V.toDk s][OkCh c](hrs:s.replies.length≤1000000)(hv:s.vote=none):
 DT 72 #[(.pointer (some ⟨r,0,none⟩)),(.iface V.T V.ov),(.int .i64 (op)),(.agg (ints c.flat).toArray)] T0 [cF V r s] (RI (.int .i64 (dV V.toDk s op c).2) [cF V r (dV V.toDk s op c).1]):=by
 refine BD 44 Tryz.func72 rfl rfl rfl λw0 F hF=>sr λ_ J1=>XY (ints c.flat) λb7=>?_
 refine PS ?_;refine nx J1 (ab λ_ J2=>e4 (α:=Unit) (λ_u=>True) (λ_u=>[(0,(.pointer (some ⟨r,0,none⟩))),(1,(.iface V.T V.ov)),(2,(.int .i64 (op))),(7,(.pointer (some ⟨b7,0,none⟩))),(8,(.int .i64 0)),(10,(.int .i64 ((dL s.view c).2)))]) (λ_u=>[cF V r s,ah b7 (ints c.flat) 61]) (λ_u hinv=>?_) (λtl2=>?_));have _:=hinv;refine ac J2 (ab λ_ J3=>sr λ_ J4=>ck (H':=vQ V r s (.pointer none)::[ah b7 (ints c.flat) 61]) (λ_ q=>sS hv q) (P2 ?_));refine ao ?_ ?_<;>intro h21;refine P3 ?_;refine FA 1067 c9 mP ?_;refine LG 0 px (.pointer none) ?_ (hc:=by exact λa_=>(bX _ rfl));refine tq (iU rfl px rfl rfl) ?_;refine PS ?_;refine nx J4 (CN (qx J3 (ab λ_ J5=>sr λ_ J6=>ck (H':=cF V r s::[ah b7 (ints c.flat) 61]) (λ_ q=>oc hv (aB [0] rfl q)) (P2 ?_))));refine ao ?_ ?_<;>intro h30;refine nx J6 (CY (ad (PS ?_)));refine LW 1 na fp aI ?_;refine CE MD (qp V r s c) ID ?_;refine PS ?_;refine nx J5 (sr λ_ J7=>P3 ?_);refine CZ tX (eX V r ((co V.toDk s c).1) op ((co V.toDk s c).2) 0 (by first|exact hrs| (rw[iD];exact hrs))) ID λvR=>?_
 refine nx J7 (ab λ_ J8=>sr λ_ J9=>P2 ?_);refine ao ?_ ?_<;>intro h39;refine nx J9 (CY (ad (P2 ?_)));refine CZ KE (rG V r (dv ((co V.toDk s c).1) op ((co V.toDk s c).2) 0) (ju s.view (eD s) c) (rU h39)) ID λvR=>?_
 refine nx J8 (sr λ_ J10=>P2 ?_);refine nx J10 (ai (WK [0] (av rfl rfl ?_)));have e:dV V.toDk s op c=((n4 V.toDk (dv ((co V.toDk s c).1) op ((co V.toDk s c).2) 0) (ju s.view (eD s) c)),(co V.toDk s c).2):=by rw[dV,show fE s c=(dL s.view c).2 by rw[fE,if_neg (λh=>by rw[hv]at h;exact absurd h.2 (by decide))],if_neg (by rw[h30];decide),if_neg (by rw[h39];decide),h39]
 exact jC e;refine nx J9 (CN (qx J8 (sr λ_ J11=>P2 ?_)));refine nx J11 (ai (WK [0] (av rfl rfl ?_)));have e:dV V.toDk s op c=((dv ((co V.toDk s c).1) op ((co V.toDk s c).2) 0),(co V.toDk s c).2):=by rw[dV,show fE s c=(dL s.view c).2 by rw[fE,if_neg (λh=>by rw[hv]at h;exact absurd h.2 (by decide))],if_neg (by rw[h30];decide),if_pos h39]
 exact jC e;refine nx J6 (CN (qx J5 (sr λ_ J12=>P3 ?_)));refine CZ tX (eX V r s op ((dL s.view c).2) 0 (by first|exact hrs| (rw[iD];exact hrs))) ID λvR=>?_
 refine nx J12 (ab λ_ J13=>sr λ_ J14=>P2 ?_);refine ao ?_ ?_<;>intro h39
 · exact absurd h39 h30
 refine nx J14 (CN (qx J13 (sr λ_ J15=>P2 ?_)));refine nx J15 (ai (WK [0] (av rfl rfl ?_)));have e:dV V.toDk s op c=((dv s op ((dL s.view c).2) 0),(dL s.view c).2):=by rw[dV,show fE s c=(dL s.view c).2 by rw[fE,if_neg (λh=>h30 h.1)]];exact if_pos (by exact h30)
 exact jC e;refine PS ?_
 iterate 5 refine UF ?_
 refine PS ?_;refine nx J4 (CN (qx J3 (ab λ_ J16=>sr λ_ J17=>ck (H':=cF V r s::[ah b7 (ints c.flat) 61]) (λ_ q=>oc hv (aB [0] rfl q)) (P2 ?_))));refine ao ?_ ?_<;>intro h30;refine nx J17 (CY (ad (PS ?_)));refine LW 1 na fp aI ?_;refine CE MD (qp V r s c) ID ?_;refine PS ?_;refine nx J16 (sr λ_ J18=>P3 ?_);refine CZ tX (eX V r ((co V.toDk s c).1) op ((co V.toDk s c).2) 0 (by first|exact hrs| (rw[iD];exact hrs))) ID λvR=>?_
 refine nx J18 (ab λ_ J19=>sr λ_ J20=>P2 ?_);refine ao ?_ ?_<;>intro h39;refine nx J20 (CY (ad (P2 ?_)));refine CZ KE (rG V r (dv ((co V.toDk s c).1) op ((co V.toDk s c).2) 0) (ju s.view (eD s) c) (rU h39)) ID λvR=>?_
 refine nx J19 (sr λ_ J21=>P2 ?_);refine nx J21 (ai (WK [0] (av rfl rfl ?_)));have e:dV V.toDk s op c=((n4 V.toDk (dv ((co V.toDk s c).1) op ((co V.toDk s c).2) 0) (ju s.view (eD s) c)),(co V.toDk s c).2):=by rw[dV,show fE s c=(dL s.view c).2 by rw[fE,if_neg (λh=>by rw[hv]at h;exact absurd h.2 (by decide))],if_neg (by rw[h30];decide),if_neg (by rw[h39];decide),h39]
 exact jC e;refine nx J20 (CN (qx J19 (sr λ_ J22=>P2 ?_)));refine nx J22 (ai (WK [0] (av rfl rfl ?_)));have e:dV V.toDk s op c=((dv ((co V.toDk s c).1) op ((co V.toDk s c).2) 0),(co V.toDk s c).2):=by rw[dV,show fE s c=(dL s.view c).2 by rw[fE,if_neg (λh=>by rw[hv]at h;exact absurd h.2 (by decide))],if_neg (by rw[h30];decide),if_pos h39]
 exact jC e;refine nx J17 (CN (qx J16 (sr λ_ J23=>P3 ?_)));refine CZ tX (eX V r s op ((dL s.view c).2) 0 (by first|exact hrs| (rw[iD];exact hrs))) ID λvR=>?_
 refine nx J23 (ab λ_ J24=>sr λ_ J25=>P2 ?_);refine ao ?_ ?_<;>intro h39
 · exact absurd h39 h30
 refine nx J25 (CN (qx J24 (sr λ_ J26=>P2 ?_)));refine nx J26 (ai (WK [0] (av rfl rfl ?_)));have e:dV V.toDk s op c=((dv s op ((dL s.view c).2) 0),(dL s.view c).2):=by rw[dV,show fE s c=(dL s.view c).2 by rw[fE,if_neg (λh=>h30 h.1)]];exact if_pos (by exact h30)
 exact jC e;refine DC mixed (cO 1 rfl rfl) (BL 0) ?_;refine PD 0 ?_;refine PD 1 ?_;refine FD 2 2 c9 bf ?_;refine ta 3 rfl (fW (vs:=ints s.view.flat) rfl eE rfl bf rfl (λ_ h=>h.2.1) (am s.view) (λa_=>(fS (s.rep a_) 0 rfl (by decide) (whole (am ((s.rep a_).view)))))) ?_;refine LY 4 na fp aI ?_;refine cC [5,9] (by kernel_rfl) rfl (aE rfl ?_ ?_);refine CE mX (dx s.view c OkVw.rng) ID ?_;refine EN (PD 6 ?_);refine PD 7 ?_;refine PD 8 ?_;refine AL 9 ?_;refine XZ se (ints ViewT.zero.flat) λb9=>?_
 refine EN (AL 10 ?_);refine SW 0 bf am ?_;refine EN (PD 11 ?_);refine DN ?_
 exact aF
  SB
  (λ_ s=>ak [2,1] rfl s)
  (tl2 (():Unit) trivial)
 refine aE rfl ?_ ?_;refine XZ se (ints ViewT.zero.flat) λb9=>?_
 refine EN (AL 5 ?_);refine CE mX (dx s.view c OkVw.rng) ID ?_;refine EN (PD 6 ?_);refine PD 7 ?_;refine PD 8 ?_;refine AL 10 ?_;refine SW 0 bf am ?_;refine EN (PD 11 ?_);refine DN ?_
 exact aF
  SB
  (λ_ s=>ak [2,1] rfl s)
  (tl2 (():Unit) trivial)
 exact bz
theorem A5{δ:Type}(V:Env δ)(r:Nat)(s:MS δ)(vt:VoteT)(op:Int)(c:ChangeT)[OkR V.toDk s][OkCh c](hrs:s.replies.length≤1000000)(hv:s.vote=some vt):
 DT 72 #[(.pointer (some ⟨r,0,none⟩)),(.iface V.T V.ov),(.int .i64 (op)),(.agg (ints c.flat).toArray)] T0 [cF V r s] (RI (.int .i64 (dV V.toDk s op c).2) [cF V r (dV V.toDk s op c).1]):=by
 refine BD 44 Tryz.func72 rfl rfl rfl λw0 F hF=>sr λ_ J1=>XY (ints c.flat) λb7=>?_
 refine PS ?_;refine nx J1 (ab λ_ J2=>e4 (α:=Unit) (λ_u=>True) (λ_u=>[(0,(.pointer (some ⟨r,0,none⟩))),(1,(.iface V.T V.ov)),(2,(.int .i64 (op))),(7,(.pointer (some ⟨b7,0,none⟩))),(8,(.int .i64 0)),(10,(.int .i64 ((dL s.view c).2)))]) (λ_u=>[cF V r s,ah b7 (ints c.flat) 61]) (λ_u hinv=>?_) (λtl2=>?_));have _:=hinv;refine ac J2 (ab λ_ J3=>sr λ_ J4=>TL.ex (H':=λvb:Nat=>vQ V r s (.pointer (some ⟨vb,0,none⟩))::ah vb (VoteT.cells vt) 207::[ah b7 (ints c.flat) 61]) (λ_ q=>mZ hv q) (λvb=>P2 ?_));refine ao ?_ ?_<;>intro h21;refine P3 ?_;refine FA 1067 c9 mP ?_;refine LG 0 px (.pointer (some ⟨vb,0,none⟩)) ?_ (hc:=by exact λa_=>(bX _ rfl));refine tq (jm rfl px rfl rfl) ?_;refine PS ?_;refine nx J4 (CY (ad (ck (H':=cF V r s::[ah b7 (ints c.flat) 61]) (λ_ q=>oa hv (aB [0,0] rfl q)) (PS ?_))));refine nx J3 (ab λ_ J5=>sr λ_ J6=>P2 ?_);refine nx J6 (CN (qx J5 (sr λ_ J7=>P3 ?_)));refine CZ tX (eX V r s op 8 0 (by first|exact hrs| (rw[iD];exact hrs))) ID λvR=>?_
 refine nx J7 (ab λ_ J8=>sr λ_ J9=>P2 ?_);refine nx J9 (CN (qx J8 (sr λ_ J10=>P2 ?_)));refine nx J10 (ai (WK [0] (av rfl rfl ?_)));have e:dV V.toDk s op c=((dv s op 8 0),8):=by rw[dV,show fE s c=8 by rw[fE,if_pos ⟨h21,by rw[hv];rfl⟩]];exact if_pos (by decide)
 exact jC e;refine PS ?_
 iterate 5 refine UF ?_
 refine PS ?_;refine nx J4 (CN (qx J3 (ab λ_ J11=>sr λ_ J12=>ck (H':=cF V r s::[ah b7 (ints c.flat) 61]) (λ_ q=>oa hv (aB [0,0] rfl q)) (P2 ?_))));refine ao ?_ ?_<;>intro h30
 · exact absurd h30 (by first|decide|exact h21)
 refine nx J12 (CN (qx J11 (sr λ_ J13=>P3 ?_)));refine CZ tX (eX V r s op ((dL s.view c).2) 0 (by first|exact hrs| (rw[iD];exact hrs))) ID λvR=>?_
 refine nx J13 (ab λ_ J14=>sr λ_ J15=>P2 ?_);refine ao ?_ ?_<;>intro h39
 · exact absurd h39 (by first|decide|exact h30)
 refine nx J15 (CN (qx J14 (sr λ_ J16=>P2 ?_)));refine nx J16 (ai (WK [0] (av rfl rfl ?_)));have e:dV V.toDk s op c=((dv s op ((dL s.view c).2) 0),(dL s.view c).2):=by rw[dV,show fE s c=(dL s.view c).2 by rw[fE,if_neg (λh=>h30 h.1)]];exact if_pos (by exact h30)
 exact jC e;refine DC mixed (cO 1 rfl rfl) (BL 0) ?_;refine PD 0 ?_;refine PD 1 ?_;refine FD 2 2 c9 bf ?_;refine ta 3 rfl (fW (vs:=ints s.view.flat) rfl eE rfl bf rfl (λ_ h=>h.2.1) (am s.view) (λa_=>(fS (s.rep a_) 0 rfl (by decide) (whole (am ((s.rep a_).view)))))) ?_;refine LY 4 na fp aI ?_;refine cC [5,9] (by kernel_rfl) rfl (aE rfl ?_ ?_);refine CE mX (dx s.view c OkVw.rng) ID ?_;refine EN (PD 6 ?_);refine PD 7 ?_;refine PD 8 ?_;refine AL 9 ?_;refine XZ se (ints ViewT.zero.flat) λb9=>?_
 refine EN (AL 10 ?_);refine SW 0 bf am ?_;refine EN (PD 11 ?_);refine DN ?_
 exact aF
  SB
  (λ_ s=>ak [2,1] rfl s)
  (tl2 (():Unit) trivial)
 refine aE rfl ?_ ?_;refine XZ se (ints ViewT.zero.flat) λb9=>?_
 refine EN (AL 5 ?_);refine CE mX (dx s.view c OkVw.rng) ID ?_;refine EN (PD 6 ?_);refine PD 7 ?_;refine PD 8 ?_;refine AL 10 ?_;refine SW 0 bf am ?_;refine EN (PD 11 ?_);refine DN ?_
 exact aF
  SB
  (λ_ s=>ak [2,1] rfl s)
  (tl2 (():Unit) trivial)
 exact bz
theorem A4{δ:Type}(V:Env δ)(r:Nat)(s:MS δ)(op:Int)(c:ChangeT)[OkR V.toDk s][OkCh c](hrs:s.replies.length≤1000000):DT 72 #[.pointer (some ⟨r,0,none⟩), .iface V.T V.ov, .int .i64 op, .agg (ints c.flat).toArray] T0 [cF V r s] (RI (.int .i64 (dV V.toDk s op c).2) [cF V r (dV V.toDk s op c).1]):=by
 cases hv:s.vote with
 |none=>exact A6 V r s op c hrs hv
 |some vt=>exact A5 V r s vt op c hrs hv
theorem wU{δ:Type}(V:Env δ)(r:Nat)(s:MS δ)(o:OpT):DT 73 #[.pointer (some ⟨r,0,none⟩), .agg (ints o.flat).toArray] T0 [cF V r s] (RI (.tuple #[.agg (ints (db s o).1.flat).toArray, .int .i64 (db s o).2.1, .int .i64 (db s o).2.2]) [cF V r s]):=Leg.Does.hid (λa=>GZ r (s.rep a) o)
theorem A1{δ:Type}(V:Env δ)(r:Nat)(s:MS δ)(o:OpT)[OkR V.toDk s][OkCh o.change](hrs:s.replies.length≤1000000):
 DT 45 #[(.pointer (some ⟨r,0,none⟩)),(.iface V.T V.ov),(.agg (ints o.flat).toArray)] T0 [cF V r s] (RI (.int .i64 (bV V.toDk s o).2) [cF V r (bV V.toDk s o).1]):=by
 refine BD 74 Tryz.func45 rfl rfl rfl λw0 F hF=>sr λ_ J1=>XY (ints o.flat) λb5=>?_
 refine PS ?_;refine nx J1 (sr λ_ J2=>P2 ?_);refine FA 1941 c9 aR ?_;refine LG 1 Y3 (.int .i64 (s.ops)) ?_ (hc:=by exact λa_=>(RepT.at_ops _ rfl));refine tp (cq (r:=(fO (s.ops+1))) rfl rfl rfl rfl) ?_;refine PS ?_;refine FA 1941 c9 aR ?_;refine SK 1 aR (λ_=>cN _) ?_ (hc:=by exact λa_=>(RepT.set_ops _ rfl _));refine nx J2 (sr λ_ J3=>P2 ?_);refine FA 1941 c9 aR ?_;refine LG 1 Y3 (.int .i64 ((bC s).ops)) ?_ (hc:=by exact λa_=>(RepT.at_ops _ rfl));refine PS ?_;refine nx J3 (ab λ_ J4=>ab λ_ J5=>DC mixed (cO 1 rfl rfl) (BL 0) ?_);refine PD 0 ?_;refine PD 1 ?_;refine FD 2 2 c9 bf ?_;refine ta 3 rfl (fW (vs:=ints ((bC s).view).flat) rfl eE rfl bf rfl (λ_ h=>h.2.1) (am ((bC s).view)) (λa_=>(fS ((bC s).rep a_) 0 rfl (by decide) (whole (am (((bC s).rep a_).view)))))) ?_;refine PD 4 ?_;refine PD 5 ?_;refine FD 6 0 c9 aR ?_;refine ta 7 rfl (de (v:=(.int .i64 ((bC s).id))) rfl Y3 rfl rfl (λ_ h=>h.2.1) (λa_=>(cD _ rfl))) ?_;refine AL 8 ?_;refine CE p9 (dD ((bC s).view) ((bC s).id)) ID ?_;refine bc ?_ ?_<;>intro h30;refine EN (PD 9 ?_);refine FD 10 0 fk aR ?_;refine LR 11 Y3 (cI o rfl) ?_;refine PD 12 ?_;refine iR ?_ ?_<;>intro h34;refine PD 13 ?_;refine DN (ac J5 (CY (sr λ_ J6=>P3 ?_)));refine FA 5 fk fp ?_;refine LV 0 na fp aI OpT.sp_change (y:=o.change) ?_;refine CE Pm (A4 V r (bC s) ((bC s).ops) o.change hrs) (SM [1]) ?_;refine PS ?_;refine nx J6 (ai (ae (WK [0] (av rfl rfl ?_))))
 have e:bV V.toDk s o=((dV V.toDk (bC s) ((bC s).ops) o.change).1,(dV V.toDk (bC s) (bC s).ops o.change).2):=by rw[bV,show iO s.view s.id=true from h30,decide_eq_true h34,if_pos (by rfl)]
 exact jC e;refine PD 13 ?_;refine DN (ac J5 (CN (qx J4 (sr λ_ J7=>PS ?_))));refine LW 0 fk vf hY ?_;refine CE NC (wU V r (bC s) o) (SM [1]) ?_;refine P4 ?_;refine XZ uu (ints RowT.zero.flat) λb8=>?_
 refine SW 0 ba aj ?_;refine P2 ?_;refine nx J7 (ab λ_ J8=>sr λ_ J9=>P2 ?_);refine ao ?_ ?_<;>intro h50;refine PS ?_
 iterate 3 refine UT ?_
 refine PS ?_;refine nx J9 (CY (sr λ_ J10=>P4 ?_));refine CZ tX (eX V r (bC s) ((bC s).ops) ((db (bC s) o).2.2) ((db (bC s) o).2.1) (by first|exact hrs| (rw[jv];exact hrs))) (SM [1]) λvR=>?_
 refine nx J10 (sr λ_ J11=>P2 ?_);refine nx J11 (ai (ae (WK [0] (av rfl rfl ?_))));have e:bV V.toDk s o=((dv (bC s) ((bC s).ops) ((db (bC s) o).2.2) ((db (bC s) o).2.1)),(db (bC s) o).2.2):=by rw[bV,show iO s.view s.id=true from h30,decide_eq_false h34,if_neg (by decide),nN,if_pos (.inl h50)]
 exact jC e;refine PS ?_;refine FA 0 fk aR ?_;refine LU 2 Y3 (cI o rfl) ?_;refine PS ?_;refine ao ?_ ?_<;>intro h54;refine PS ?_;refine nx J9 (CY (sr λ_ J12=>P4 ?_));refine CZ tX (eX V r (bC s) ((bC s).ops) ((db (bC s) o).2.2) ((db (bC s) o).2.1) (by first|exact hrs| (rw[jv];exact hrs))) (SM [1]) λvR=>?_
 refine nx J12 (sr λ_ J13=>P2 ?_);refine nx J13 (ai (ae (WK [0] (av rfl rfl ?_))));have e:bV V.toDk s o=((dv (bC s) ((bC s).ops) ((db (bC s) o).2.2) ((db (bC s) o).2.1)),(db (bC s) o).2.2):=by rw[bV,show iO s.view s.id=true from h30,decide_eq_false h34,if_neg (by decide),nN,if_pos (.inr h54)]
 exact jC e;refine PS ?_;refine nx J9 (CN (qx J8 (ab λ_ J14=>sr λ_ J15=>P2 ?_)));refine LW 0 dU ba aj ?_;refine PS ?_;refine CE MI (rP V r (bC s) ((db (bC s) o).1) ((bC s).ops)) (SM [1]) ?_;refine PS ?_;refine nx J15 (sr λ_ J16=>P2 ?_);refine ao ?_ ?_<;>intro h68;refine nx J16 (CY (ad (P3 ?_)));refine CZ tX (eX V r ((eQ V.toDk (bC s) ((db (bC s) o).1) ((bC s).ops)).1) ((bC s).ops) ((eQ V.toDk (bC s) ((db (bC s) o).1) ((bC s).ops)).2) 0 (by first|exact hrs| (rw[jv];exact hrs))) ID λvR=>?_
 refine nx J14 (sr λ_ J17=>P2 ?_);refine nx J17 (ai (WK [0] (av rfl rfl ?_)));have e:bV V.toDk s o=((dv ((eQ V.toDk (bC s) ((db (bC s) o).1) ((bC s).ops)).1) ((bC s).ops) ((eQ V.toDk (bC s) ((db (bC s) o).1) ((bC s).ops)).2) 0),(eQ V.toDk (bC s) (db (bC s) o).1 (bC s).ops).2):=by rw[bV,show iO s.view s.id=true from h30,decide_eq_false h34,if_neg (by decide),nN,if_neg (λh=>h.elim (λh=>h50 h) (λh=>h54 h)),if_pos h68]
 exact jC e;refine nx J16 (CN (qx J14 (sr λ_ J18=>P2 ?_)));refine nx J18 (ai (WK [0] (av rfl rfl ?_)));have e:bV V.toDk s o=((eQ V.toDk (bC s) ((db (bC s) o).1) ((bC s).ops)).1,(eQ V.toDk (bC s) (db (bC s) o).1 (bC s).ops).2):=by rw[bV,show iO s.view s.id=true from h30,decide_eq_false h34,if_neg (by decide),nN,if_neg (λh=>h.elim (λh=>h50 h) (λh=>h54 h)),if_neg h68,show(eQ V.toDk (bC s) (db (bC s) o).1 (bC s).ops).2=0 from Decidable.not_not.1 h68]
 exact jC e;refine EN (PD 9 ?_);refine NT 10 ?_;refine NT 11 ?_;refine NT 12 ?_;refine PD 13 ?_;refine DN (ac J5 (CN (qx J4 (sr λ_ J19=>PS ?_))));refine LW 0 fk vf hY ?_;refine CE NC (wU V r (bC s) o) (SM [1]) ?_;refine P4 ?_;refine XZ uu (ints RowT.zero.flat) λb8=>?_
 refine SW 0 ba aj ?_;refine P2 ?_;refine nx J19 (ab λ_ J20=>sr λ_ J21=>P2 ?_);refine ao ?_ ?_<;>intro h50;refine PS ?_
 iterate 3 refine UT ?_
 refine PS ?_;refine nx J21 (CY (sr λ_ J22=>P4 ?_));refine CZ tX (eX V r (bC s) ((bC s).ops) ((db (bC s) o).2.2) ((db (bC s) o).2.1) (by first|exact hrs| (rw[jv];exact hrs))) (SM [1]) λvR=>?_
 refine nx J22 (sr λ_ J23=>P2 ?_);refine nx J23 (ai (ae (WK [0] (av rfl rfl ?_))));have e:bV V.toDk s o=((dv (bC s) ((bC s).ops) ((db (bC s) o).2.2) ((db (bC s) o).2.1)),(db (bC s) o).2.2):=by rw[bV,show iO s.view s.id=false from h30,if_neg (by rw[gK];decide),nN,if_pos (.inl h50)]
 exact jC e;refine PS ?_;refine FA 0 fk aR ?_;refine LU 2 Y3 (cI o rfl) ?_;refine PS ?_;refine ao ?_ ?_<;>intro h54;refine PS ?_;refine nx J21 (CY (sr λ_ J24=>P4 ?_));refine CZ tX (eX V r (bC s) ((bC s).ops) ((db (bC s) o).2.2) ((db (bC s) o).2.1) (by first|exact hrs| (rw[jv];exact hrs))) (SM [1]) λvR=>?_
 refine nx J24 (sr λ_ J25=>P2 ?_);refine nx J25 (ai (ae (WK [0] (av rfl rfl ?_))));have e:bV V.toDk s o=((dv (bC s) ((bC s).ops) ((db (bC s) o).2.2) ((db (bC s) o).2.1)),(db (bC s) o).2.2):=by rw[bV,show iO s.view s.id=false from h30,if_neg (by rw[gK];decide),nN,if_pos (.inr h54)]
 exact jC e;refine PS ?_;refine nx J21 (CN (qx J20 (ab λ_ J26=>sr λ_ J27=>P2 ?_)));refine LW 0 dU ba aj ?_;refine PS ?_;refine CE MI (rP V r (bC s) ((db (bC s) o).1) ((bC s).ops)) (SM [1]) ?_;refine PS ?_;refine nx J27 (sr λ_ J28=>P2 ?_);refine ao ?_ ?_<;>intro h68;refine nx J28 (CY (ad (P3 ?_)));refine CZ tX (eX V r ((eQ V.toDk (bC s) ((db (bC s) o).1) ((bC s).ops)).1) ((bC s).ops) ((eQ V.toDk (bC s) ((db (bC s) o).1) ((bC s).ops)).2) 0 (by first|exact hrs| (rw[jv];exact hrs))) ID λvR=>?_
 refine nx J26 (sr λ_ J29=>P2 ?_);refine nx J29 (ai (WK [0] (av rfl rfl ?_)));have e:bV V.toDk s o=((dv ((eQ V.toDk (bC s) ((db (bC s) o).1) ((bC s).ops)).1) ((bC s).ops) ((eQ V.toDk (bC s) ((db (bC s) o).1) ((bC s).ops)).2) 0),(eQ V.toDk (bC s) (db (bC s) o).1 (bC s).ops).2):=by rw[bV,show iO s.view s.id=false from h30,if_neg (by rw[gK];decide),nN,if_neg (λh=>h.elim (λh=>h50 h) (λh=>h54 h)),if_pos h68]
 exact jC e;refine nx J28 (CN (qx J26 (sr λ_ J30=>P2 ?_)));refine nx J30 (ai (WK [0] (av rfl rfl ?_)));have e:bV V.toDk s o=((eQ V.toDk (bC s) ((db (bC s) o).1) ((bC s).ops)).1,(eQ V.toDk (bC s) (db (bC s) o).1 (bC s).ops).2):=by rw[bV,show iO s.view s.id=false from h30,if_neg (by rw[gK];decide),nN,if_neg (λh=>h.elim (λh=>h50 h) (λh=>h54 h)),if_neg h68,show(eQ V.toDk (bC s) (db (bC s) o).1 (bC s).ops).2=0 from Decidable.not_not.1 h68]
 exact jC e
theorem DQ{δ:Type}(V:Env δ)(r:Nat)(s:MS δ)[OkR V.toDk s](hv:(gf V.toDk (cf V.toDk (bY V.toDk s))).vote=none):
 DT 47 #[(.pointer (some ⟨r,0,none⟩)),(.iface V.T V.ov)] T0 [cF V r s] (dh (λ_ H=>H=[cF V r (iu V.toDk s)])):=by
 refine BD 89 Tryz.func47 rfl rfl rfl λw0 F hF=>ab λ_ J1=>e4 (α:=Unit) (λ_u=>True) (λ_u=>[(0,(.pointer (some ⟨r,0,none⟩))),(1,(.iface V.T V.ov))]) (λ_u=>[cF V r (if s.busy=true then fo V.toDk s else s)]) (λ_u hinv=>?_) (λtl1=>?_)
 have _:=hinv;refine ac J1 (sr λ_ J2=>P2 ?_);refine CZ KG (o5 V r (if s.busy=true then fo V.toDk s else s)) ID λvR=>?_
 refine nx J2 (sr λ_ J3=>P2 ?_);refine CZ MG (qm V r (m8 V.toDk (if s.busy=true then fo V.toDk s else s))) ID λvR=>?_
 refine nx J3 (ab λ_ J4=>e4 (α:=Unit) (λ_u=>True) (λ_u=>[(0,(.pointer (some ⟨r,0,none⟩))),(1,(.iface V.T V.ov))]) (λ_u=>[cF V r (cf V.toDk (bY V.toDk s))]) (λ_u hinv=>?_) (λtl4=>?_));have _:=hinv;refine ac J4 (ab λ_ J5=>ab λ_ J6=>DB mixed (cO 0 rfl rfl) ?_);refine PD 0 ?_;refine PD 1 ?_;refine FD 2 2 c9 bf ?_;refine ta 3 rfl (fW (vs:=ints ((cf V.toDk (bY V.toDk s)).view).flat) rfl eE rfl bf rfl (λ_ h=>h.2.1) (am ((cf V.toDk (bY V.toDk s)).view)) (λa_=>(fS ((cf V.toDk (bY V.toDk s)).rep a_) 0 rfl (by decide) (whole (am (((cf V.toDk (bY V.toDk s)).rep a_).view)))))) ?_;refine PD 4 ?_;refine PD 5 ?_;refine FD 6 0 c9 aR ?_;refine ta 7 rfl (de (v:=(.int .i64 ((cf V.toDk (bY V.toDk s)).id))) rfl Y3 rfl rfl (λ_ h=>h.2.1) (λa_=>(cD _ rfl))) ?_;refine AL 8 ?_;refine CE p9 (dD ((cf V.toDk (bY V.toDk s)).view) ((cf V.toDk (bY V.toDk s)).id)) ID ?_;refine bc ?_ ?_<;>intro h42;refine EN (PD 9 ?_);refine DN (ac J6 (CN (qx J5 (ab λ_ J7=>e4 (α:=Unit) (λ_u=>True) (λ_u=>[(0,(.pointer (some ⟨r,0,none⟩))),(1,(.iface V.T V.ov))]) (λ_u=>[cF V r (gf V.toDk (cf V.toDk (bY V.toDk s)))]) (λ_u hinv=>?_) (λtl7=>?_)))));have _:=hinv;refine ac J7 (ab λ_ J8=>sr λ_ J9=>ck (H':=vQ V r (gf V.toDk (cf V.toDk (bY V.toDk s))) (.pointer none)::[]) (λ_ q=>sS hv q) (P2 ?_));refine FA 1067 c9 mP ?_;refine LG 0 px (.pointer none) ?_ (hc:=by exact λa_=>(bX _ rfl))
 refine tp (sa rfl px rfl rfl) ?_;refine nx J9 (CY (ai (ae (aF (H':=[cF V r (gf V.toDk (cf V.toDk (bY V.toDk s)))]) (dd _) (λ_ q=>oc hv (ak [0] rfl q)) (dI rfl ?_)))));exact MQ (by rw[iu,if_pos h42,sC,hv]);refine ab λ_ J10=>e4 (α:=(Nat)) (λb4=>True) (λb4=>[(0,(.pointer (some ⟨r,0,none⟩))),(1,(.iface V.T V.ov)),(4,(.pointer (some ⟨b4,0,none⟩)))]) (λb4=>[cF V r (cf V.toDk (bY V.toDk s)),ah b4 (ints (cz (cf V.toDk (bY V.toDk s)).book (cf V.toDk (bY V.toDk s)).id).flat) 39]) (λb4 hinv=>?_) (λtl10=>?_)
 have _:=hinv;refine ac J10 (sr λ_ J11=>FA 0 dU aR ?_);refine LT 1 Y3 (.int .i64 ((cz (cf V.toDk (bY V.toDk s)).book (cf V.toDk (bY V.toDk s)).id).version)) ?_ (hc:=by exact cx _ rfl);refine PS ?_;refine ao ?_ ?_<;>intro h54;refine nx J11 (CY (ad (P2 ?_)));refine LW 1 dU ba aj ?_;refine CZ ME (mN V r (cf V.toDk (bY V.toDk s)) (cz (cf V.toDk (bY V.toDk s)).book (cf V.toDk (bY V.toDk s)).id)) ID λvR=>?_
 refine aq ?_
 exact aF
  SB
  (λ_ q=>by
   rw[gf,if_pos h54]
   exact ak [0] rfl q)
  (tl7 (():Unit) trivial)
 refine nx J11 (CN (aT ?_))
 exact aF
  SB
  (λ_ q=>by
   rw[gf,if_neg h54]
   exact ak [0] rfl q)
  (tl7 (():Unit) trivial)
 refine DB mixed (cO 0 rfl rfl) ?_;refine PD 0 ?_;refine PD 1 ?_;refine FD 2 1068 c9 DX ?_;refine PD 3 ?_;refine PD 4 ?_;refine FD 5 0 c9 aR ?_;refine ta 6 rfl (de (v:=(.int .i64 ((cf V.toDk (bY V.toDk s)).id))) rfl Y3 rfl rfl (λ_ h=>h.2.1) (λa_=>(cD _ rfl))) ?_;refine cC [7,8] (by kernel_rfl) rfl (aE rfl ?_ ?_);refine CE KF (Leg.Does.hid (λa_=>mz r 1068 87 _ (gH ((cf V.toDk (bY V.toDk s)).rep a_)) (cf V.toDk (bY V.toDk s)).book ((cf V.toDk (bY V.toDk s)).id))) ID ?_;refine EN (AL 8 ?_);refine XZ uu (ints RowT.zero.flat) λb4=>?_
 refine EN (AL 9 ?_);refine SW 0 ba aj ?_;refine EN (DN ?_)
 exact aF
  SB
  (λ_ s=>ak [1,0] rfl s)
  (tl10 ((b4):(Nat)) trivial)
 refine aE rfl ?_ ?_;refine XZ uu (ints RowT.zero.flat) λb4=>?_
 refine EN (AL 7 ?_);refine CE KF (Leg.Does.hid (λa_=>mz r 1068 87 _ (gH ((cf V.toDk (bY V.toDk s)).rep a_)) (cf V.toDk (bY V.toDk s)).book ((cf V.toDk (bY V.toDk s)).id))) (SM [1]) ?_;refine EN (AL 9 ?_);refine SW 1 ba aj ?_;refine EN (DN ?_)
 exact aF
  SB
  (λ_ s=>ak [0,0] rfl s)
  (tl10 ((b4):(Nat)) trivial)
 exact bz;refine EN (PD 9 ?_);refine DN (ac J6 (CY (ai (ae (WK [0] (dI rfl ?_))))));exact MQ (by rw[iu,if_neg (by rw[h42];decide)]);refine sr λ_ J12=>P2 ?_
 refine FA 2 c9 bf ?_;refine FA 2 eE aR ?_;refine LG 0 Y3 (.int .i64 (((bY V.toDk s).view).epoch)) ?_ (hc:=by exact λa_=>(cg ((bY V.toDk s).rep a_) 0 rfl (by decide) (bb _ rfl)));refine PS ?_;refine ao ?_ ?_<;>intro h26;refine nx J12 (CY (ad (P4 ?_)));refine FA 2 c9 bf ?_;refine LZ 0 eE bf am ((bY V.toDk s).view) ?_ (hc:=by exact λ_=>cM _);refine CZ MF (mM V r (bY V.toDk s) ((bY V.toDk s).view)) ID λvR=>?_
 refine aq ?_
 exact aF
  SB
  (λ_ q=>by
   rw[cf,if_pos h26]
   exact ak [0] rfl q)
  (tl4 (():Unit) trivial)
 refine nx J12 (CN (aT ?_))
 exact aF
  SB
  (λ_ q=>by
   rw[cf,if_neg h26]
   exact ak [0] rfl q)
  (tl4 (():Unit) trivial)
 refine sr λ_ J13=>P2 ?_
 refine FA 1938 c9 k0 ?_;refine LG 0 Y4 (.bool (s.busy)) ?_ (hc:=by exact λa_=>(yH _ rfl));refine bc ?_ ?_<;>intro h11;refine nx J13 (CY (ad (P2 ?_)));refine CZ MH (nF V r s) ID λvR=>?_
 refine aq ?_
 exact aF
  SB
  (λ_ q=>by
   rw[if_pos h11]
   exact ak [0] rfl q)
  (tl1 (():Unit) trivial)
 refine nx J13 (CN (aT ?_))
 exact aF
  SB
  (λ_ q=>by
   rw[if_neg (by rw[h11];decide)]
   exact ak [0] rfl q)
  (tl1 (():Unit) trivial)
theorem DP{δ:Type}(V:Env δ)(r:Nat)(s:MS δ)(vt:VoteT)[OkR V.toDk s](hv:(gf V.toDk (cf V.toDk (bY V.toDk s))).vote=some vt):
 DT 47 #[(.pointer (some ⟨r,0,none⟩)),(.iface V.T V.ov)] T0 [cF V r s] (dh (λ_ H=>H=[cF V r (iu V.toDk s)])):=by
 refine BD 89 Tryz.func47 rfl rfl rfl λw0 F hF=>?_
 have hov:OkVt vt:=OkR.vote vt hv;refine ab λ_ J1=>e4 (α:=Unit) (λ_u=>True) (λ_u=>[(0,(.pointer (some ⟨r,0,none⟩))),(1,(.iface V.T V.ov))]) (λ_u=>[cF V r (if s.busy=true then fo V.toDk s else s)]) (λ_u hinv=>?_) (λtl1=>?_)
 have _:=hinv;refine ac J1 (sr λ_ J2=>P2 ?_);refine CZ KG (o5 V r (if s.busy=true then fo V.toDk s else s)) ID λvR=>?_
 refine nx J2 (sr λ_ J3=>P2 ?_);refine CZ MG (qm V r (m8 V.toDk (if s.busy=true then fo V.toDk s else s))) ID λvR=>?_
 refine nx J3 (ab λ_ J4=>e4 (α:=Unit) (λ_u=>True) (λ_u=>[(0,(.pointer (some ⟨r,0,none⟩))),(1,(.iface V.T V.ov))]) (λ_u=>[cF V r (cf V.toDk (bY V.toDk s))]) (λ_u hinv=>?_) (λtl4=>?_));have _:=hinv;refine ac J4 (ab λ_ J5=>ab λ_ J6=>DB mixed (cO 0 rfl rfl) ?_);refine PD 0 ?_;refine PD 1 ?_;refine FD 2 2 c9 bf ?_;refine ta 3 rfl (fW (vs:=ints ((cf V.toDk (bY V.toDk s)).view).flat) rfl eE rfl bf rfl (λ_ h=>h.2.1) (am ((cf V.toDk (bY V.toDk s)).view)) (λa_=>(fS ((cf V.toDk (bY V.toDk s)).rep a_) 0 rfl (by decide) (whole (am (((cf V.toDk (bY V.toDk s)).rep a_).view)))))) ?_;refine PD 4 ?_;refine PD 5 ?_;refine FD 6 0 c9 aR ?_;refine ta 7 rfl (de (v:=(.int .i64 ((cf V.toDk (bY V.toDk s)).id))) rfl Y3 rfl rfl (λ_ h=>h.2.1) (λa_=>(cD _ rfl))) ?_;refine AL 8 ?_;refine CE p9 (dD ((cf V.toDk (bY V.toDk s)).view) ((cf V.toDk (bY V.toDk s)).id)) ID ?_;refine bc ?_ ?_<;>intro h42;refine EN (PD 9 ?_);refine DN (ac J6 (CN (qx J5 (ab λ_ J7=>e4 (α:=Unit) (λ_u=>True) (λ_u=>[(0,(.pointer (some ⟨r,0,none⟩))),(1,(.iface V.T V.ov))]) (λ_u=>[cF V r (gf V.toDk (cf V.toDk (bY V.toDk s)))]) (λ_u hinv=>?_) (λtl7=>?_)))));have _:=hinv;refine ac J7 (ab λ_ J8=>sr λ_ J9=>TL.ex (H':=λvb:Nat=>vQ V r (gf V.toDk (cf V.toDk (bY V.toDk s))) (.pointer (some ⟨vb,0,none⟩))::ah vb (VoteT.cells vt) 207::[]) (λ_ q=>mZ hv q) (λvb=>P2 ?_));refine FA 1067 c9 mP ?_
 refine LG 0 px (.pointer (some ⟨vb,0,none⟩)) ?_ (hc:=by exact λa_=>(bX _ rfl));refine tp (iT rfl px rfl rfl) ?_;refine nx J9 (CN (qx J8 (sr λ_ J10=>P2 ?_)));refine FA 1067 c9 mP ?_;refine LG 0 px (.pointer (some ⟨vb,0,none⟩)) ?_ (hc:=by exact λa_=>(bX _ rfl));refine CE tW (c8 vb vt) (SM [1]) ?_;change TL _ _ _ _ _ _ _ _ _ [ah vb (VoteT.cells vt) 207,vQ V r (gf V.toDk (cf V.toDk (bY V.toDk s))) (.pointer (some ⟨vb,0,none⟩))];refine ck (H':=cF V r (gf V.toDk (cf V.toDk (bY V.toDk s)))::[]) (λ_ q=>oa hv (aB [1,0] rfl q)) (XZ O3 (ints ChangeT.zero.flat) λb5=>?_);refine SW 0 fp aI ?_;refine nx J10 (ab λ_ J11=>e4 (α:=Unit) (λ_u=>True) (λ_u=>[(0,(.pointer (some ⟨r,0,none⟩))),(1,(.iface V.T V.ov)),(5,(.pointer (some ⟨b5,0,none⟩))),(7,(.int .i64 ((dL (gf V.toDk (cf V.toDk (bY V.toDk s))).view vt.change).2)))]) (λ_u=>[cF V r (gf V.toDk (cf V.toDk (bY V.toDk s))),ah b5 (ints vt.change.flat) 61]) (λ_u hinv=>?_) (λtl11=>?_));have _:=hinv;refine ac J11 (sr λ_ J12=>P2 ?_);refine ao ?_ ?_<;>intro h79;refine P2 ?_;refine LW 1 na fp aI ?_;refine CE MD (qp V r (gf V.toDk (cf V.toDk (bY V.toDk s))) vt.change) ID ?_;refine PS ?_;refine ao ?_ ?_<;>intro h84;refine PS ?_;refine nx J12 (CY (ad (P2 ?_)))
 refine CZ KE (rG V r ((co V.toDk (gf V.toDk (cf V.toDk (bY V.toDk s))) vt.change).1) (ju (gf V.toDk (cf V.toDk (bY V.toDk s))).view (eD (gf V.toDk (cf V.toDk (bY V.toDk s)))) vt.change) (rU h84)) ID λvR=>?_
 refine aq (WK [0] (bp rfl ?_));exact MQ (by rw[iu,if_pos h42,sC,hv];simp only[];rw[if_pos h79,if_pos h84]);refine PS ?_;refine nx J12 (CN (aT (WK [0] (bp rfl ?_))));exact MQ (by rw[iu,if_pos h42,sC,hv];simp only[];rw[if_pos h79,if_neg h84]);refine PS ?_
 iterate 4 refine UF ?_
 refine PS ?_;refine nx J12 (CN (aT (WK [0] (bp rfl ?_))));exact MQ (by rw[iu,if_pos h42,sC,hv];simp only[];rw[if_neg h79]);refine DC mixed (cO 1 rfl rfl) (BL 0) ?_;refine PD 0 ?_;refine PD 1 ?_;refine FD 2 2 c9 bf ?_;refine ta 3 rfl (fW (vs:=ints ((gf V.toDk (cf V.toDk (bY V.toDk s))).view).flat) rfl eE rfl bf rfl (λ_ h=>h.2.1) (am ((gf V.toDk (cf V.toDk (bY V.toDk s))).view)) (λa_=>(fS ((gf V.toDk (cf V.toDk (bY V.toDk s))).rep a_) 0 rfl (by decide) (whole (am (((gf V.toDk (cf V.toDk (bY V.toDk s))).rep a_).view)))))) ?_;refine LY 4 na fp aI ?_;refine cC [5,9] (by kernel_rfl) rfl (aE rfl ?_ ?_);refine CE mX (dx ((gf V.toDk (cf V.toDk (bY V.toDk s))).view) vt.change OkVw.rng) ID ?_;refine EN (PD 6 ?_);refine PD 7 ?_;refine PD 8 ?_;refine AL 9 ?_;refine XZ se (ints ViewT.zero.flat) λb6=>?_
 refine EN (AL 10 ?_);refine SW 0 bf am ?_;refine EN (PD 11 ?_);refine DN ?_
 exact aF
  SB
  (λ_ s=>ak [2,1] rfl s)
  (tl11 (():Unit) trivial)
 refine aE rfl ?_ ?_;refine XZ se (ints ViewT.zero.flat) λb6=>?_
 refine EN (AL 5 ?_);refine CE mX (dx ((gf V.toDk (cf V.toDk (bY V.toDk s))).view) vt.change OkVw.rng) ID ?_;refine EN (PD 6 ?_);refine PD 7 ?_;refine PD 8 ?_;refine AL 10 ?_;refine SW 0 bf am ?_;refine EN (PD 11 ?_);refine DN ?_
 exact aF
  SB
  (λ_ s=>ak [2,1] rfl s)
  (tl11 (():Unit) trivial)
 exact bz;refine ab λ_ J13=>e4 (α:=(Nat)) (λb4=>True) (λb4=>[(0,(.pointer (some ⟨r,0,none⟩))),(1,(.iface V.T V.ov)),(4,(.pointer (some ⟨b4,0,none⟩)))]) (λb4=>[cF V r (cf V.toDk (bY V.toDk s)),ah b4 (ints (cz (cf V.toDk (bY V.toDk s)).book (cf V.toDk (bY V.toDk s)).id).flat) 39]) (λb4 hinv=>?_) (λtl13=>?_)
 have _:=hinv;refine ac J13 (sr λ_ J14=>FA 0 dU aR ?_);refine LT 1 Y3 (.int .i64 ((cz (cf V.toDk (bY V.toDk s)).book (cf V.toDk (bY V.toDk s)).id).version)) ?_ (hc:=by exact cx _ rfl);refine PS ?_;refine ao ?_ ?_<;>intro h54;refine nx J14 (CY (ad (P2 ?_)));refine LW 1 dU ba aj ?_;refine CZ ME (mN V r (cf V.toDk (bY V.toDk s)) (cz (cf V.toDk (bY V.toDk s)).book (cf V.toDk (bY V.toDk s)).id)) ID λvR=>?_
 refine aq ?_
 exact aF
  SB
  (λ_ q=>by
   rw[gf,if_pos h54]
   exact ak [0] rfl q)
  (tl7 (():Unit) trivial)
 refine nx J14 (CN (aT ?_))
 exact aF
  SB
  (λ_ q=>by
   rw[gf,if_neg h54]
   exact ak [0] rfl q)
  (tl7 (():Unit) trivial)
 refine DB mixed (cO 0 rfl rfl) ?_;refine PD 0 ?_;refine PD 1 ?_;refine FD 2 1068 c9 DX ?_;refine PD 3 ?_;refine PD 4 ?_;refine FD 5 0 c9 aR ?_;refine ta 6 rfl (de (v:=(.int .i64 ((cf V.toDk (bY V.toDk s)).id))) rfl Y3 rfl rfl (λ_ h=>h.2.1) (λa_=>(cD _ rfl))) ?_;refine cC [7,8] (by kernel_rfl) rfl (aE rfl ?_ ?_);refine CE KF (Leg.Does.hid (λa_=>mz r 1068 87 _ (gH ((cf V.toDk (bY V.toDk s)).rep a_)) (cf V.toDk (bY V.toDk s)).book ((cf V.toDk (bY V.toDk s)).id))) ID ?_;refine EN (AL 8 ?_);refine XZ uu (ints RowT.zero.flat) λb4=>?_
 refine EN (AL 9 ?_);refine SW 0 ba aj ?_;refine EN (DN ?_)
 exact aF
  SB
  (λ_ s=>ak [1,0] rfl s)
  (tl13 ((b4):(Nat)) trivial)
 refine aE rfl ?_ ?_;refine XZ uu (ints RowT.zero.flat) λb4=>?_
 refine EN (AL 7 ?_);refine CE KF (Leg.Does.hid (λa_=>mz r 1068 87 _ (gH ((cf V.toDk (bY V.toDk s)).rep a_)) (cf V.toDk (bY V.toDk s)).book ((cf V.toDk (bY V.toDk s)).id))) (SM [1]) ?_;refine EN (AL 9 ?_);refine SW 1 ba aj ?_;refine EN (DN ?_)
 exact aF
  SB
  (λ_ s=>ak [0,0] rfl s)
  (tl13 ((b4):(Nat)) trivial)
 exact bz;refine EN (PD 9 ?_);refine DN (ac J6 (CY (ai (ae (WK [0] (dI rfl ?_))))));exact MQ (by rw[iu,if_neg (by rw[h42];decide)]);refine sr λ_ J15=>P2 ?_
 refine FA 2 c9 bf ?_;refine FA 2 eE aR ?_;refine LG 0 Y3 (.int .i64 (((bY V.toDk s).view).epoch)) ?_ (hc:=by exact λa_=>(cg ((bY V.toDk s).rep a_) 0 rfl (by decide) (bb _ rfl)));refine PS ?_;refine ao ?_ ?_<;>intro h26;refine nx J15 (CY (ad (P4 ?_)));refine FA 2 c9 bf ?_;refine LZ 0 eE bf am ((bY V.toDk s).view) ?_ (hc:=by exact λ_=>cM _);refine CZ MF (mM V r (bY V.toDk s) ((bY V.toDk s).view)) ID λvR=>?_
 refine aq ?_
 exact aF
  SB
  (λ_ q=>by
   rw[cf,if_pos h26]
   exact ak [0] rfl q)
  (tl4 (():Unit) trivial)
 refine nx J15 (CN (aT ?_))
 exact aF
  SB
  (λ_ q=>by
   rw[cf,if_neg h26]
   exact ak [0] rfl q)
  (tl4 (():Unit) trivial)
 refine sr λ_ J16=>P2 ?_
 refine FA 1938 c9 k0 ?_;refine LG 0 Y4 (.bool (s.busy)) ?_ (hc:=by exact λa_=>(yH _ rfl));refine bc ?_ ?_<;>intro h11;refine nx J16 (CY (ad (P2 ?_)));refine CZ MH (nF V r s) ID λvR=>?_
 refine aq ?_
 exact aF
  SB
  (λ_ q=>by
   rw[if_pos h11]
   exact ak [0] rfl q)
  (tl1 (():Unit) trivial)
 refine nx J16 (CN (aT ?_))
 exact aF
  SB
  (λ_ q=>by
   rw[if_neg (by rw[h11];decide)]
   exact ak [0] rfl q)
  (tl1 (():Unit) trivial)
theorem DO{δ:Type}(V:Env δ)(r:Nat)(s:MS δ)[OkR V.toDk s]:DT 47 #[.pointer (some ⟨r,0,none⟩), .iface V.T V.ov] T0 [cF V r s] (dh (λ_ H=>H=[cF V r (iu V.toDk s)])):=by
 cases hv:(gf V.toDk (cf V.toDk (bY V.toDk s))).vote with
 |none=>exact DQ V r s hv
 |some vt=>exact DP V r s vt hv
abbrev DD{δ:Type}(lg r:Nat)(s:MS δ):HP:=hid r (λ_:Unit=>RepT.cells (s.rep ⟨lg, .pointer none, .slice none 0 0⟩)) 87 (λ_=>[])
theorem uW{δ:Type}(lg r:Nat)(s:MS δ)(v:ViewT):
 DT 67 #[(.pointer (some ⟨r,0,none⟩)),(.agg (ints v.flat).toArray)] T0 [DD lg r s] (dh (λ_ H=>H=[DD lg r (m6 s v)])):=by
 refine BD 20 Tryz.func67 rfl rfl rfl λw0 F hF=>sr λ_ J1=>XY (ints v.flat) λb3=>?_
 refine nx J1 (sr λ_ J2=>PS ?_);refine LW 0 eE bf am ?_;refine PS ?_;refine FA 2 c9 bf ?_;refine gP (vs:=ints v.flat) (i:=1) (aa rfl) rfl rfl rfl rfl rfl (by rw[(am v)];exact bf) (bj _) rfl rfl (λ_=>LC (cN _) (am _)) (λa_=>(PR (s.rep ⟨lg, .pointer none, .slice none 0 0⟩) 0 rfl (by have h1:=(am v);omega) (cr ((am ((s.rep ⟨lg, .pointer none, .slice none 0 0⟩).view)).trans (am v).symm)))) (nx J2 (sr λ_ J3=>PS ?_));refine FA 0 eE aR ?_;refine LU 0 Y3 (bb v rfl) ?_;refine tp (ll AccT.zero (AccT.mk v.epoch BallotT.zero BallotT.zero ChangeT.zero) [(0,[Value.int .i64 v.epoch])] pH oz (g:=AccT.sg)) ?_;refine PS ?_;refine FA 1058 c9 fF ?_;refine gP (vs:=ints (AccT.mk v.epoch BallotT.zero BallotT.zero ChangeT.zero).flat) (i:=1) (aa rfl) rfl rfl rfl rfl rfl (by rw[(a8 (AccT.mk v.epoch BallotT.zero BallotT.zero ChangeT.zero))];exact fF) (bj _) rfl rfl (λ_=>LC (cN _) (a8 _)) (λa_=>(kA ((MS.setView s v).rep ⟨lg, .pointer none, .slice none 0 0⟩) 0 rfl (by have h1:=(a8 (AccT.mk v.epoch BallotT.zero BallotT.zero ChangeT.zero));omega) (cr ((a8 (((MS.setView s v).rep ⟨lg, .pointer none, .slice none 0 0⟩).acc)).trans (a8 (AccT.mk v.epoch BallotT.zero BallotT.zero ChangeT.zero)).symm)))) (nx J3 (sr λ_ J4=>P2 ?_));refine FA 1067 c9 mP ?_;refine SK 1 mP (λ_=>cN _) ?_ (hc:=by exact λa_=>(PT _ rfl _));refine nx J4 (ad (P2 ?_));refine FA 1066 c9 aR ?_;refine SK 1 aR (λ_=>cN _) ?_ (hc:=by exact λa_=>(lS _ rfl _))
 exact aq (WK [1] (bp rfl rfl))
theorem yi{δ:Type}(lg r:Nat)(s:MS δ)(m:RecT)(hw:WF m.row.flat):
 DT 69 #[(.pointer (some ⟨r,0,none⟩)),(.agg (ints m.flat).toArray)] T0 [DD lg r s] (dh (λ_ H=>H=[DD lg r (jB s m)])):=by
 refine BD 93 Tryz.func69 rfl rfl rfl λw0 F hF=>sr λ_ J1=>XY (ints m.flat) λb3=>?_
 refine nx J1 (sr λ_ J2=>FA 0 eb aR ?_);refine LU 0 Y3 (kB m rfl) ?_;refine nx J2 (au (sr λ_ J3=>PS ?_));refine ao ?_ ?_<;>intro h7;refine PS ?_;refine nx J3 (CY (ad (P3 ?_)));refine FA 2 eb ba ?_;refine LV 0 dU ba aj RecT.sp_row (y:=m.row) ?_;refine PS ?_;refine FA 9 c9 ba ?_;refine gP (vs:=ints m.row.flat) (i:=1) (aa rfl) rfl rfl rfl rfl rfl (by rw[(aj m.row)];exact ba) (bj _) rfl rfl (λ_=>LC (cN _) (aj _)) (λa_=>(Qi (s.rep ⟨lg, .pointer none, .slice none 0 0⟩) 0 rfl (by have h1:=(aj m.row);omega) (cr ((aj ((s.rep ⟨lg, .pointer none, .slice none 0 0⟩).own)).trans (aj m.row).symm)))) (PS ?_);refine FA 1938 c9 k0 ?_;refine SK 1 k0 (λ_=>cN _) ?_ (hc:=by exact λa_=>(PX _ rfl _));refine PS ?_;refine FA 1939 c9 aR ?_;refine SK 1 aR (λ_=>cN _) ?_ (hc:=by exact λa_=>(PW _ rfl _));refine aq (ag (WK [1] (bp rfl ?_)));exact congrArg (λq=>[DD lg r q]) (show(MS.setKept (MS.setBusy (MS.setOwn s m.row) true) 0)=jB s m by rw[jB,if_pos h7]<;>rfl);refine PS ?_;refine nx J3 (CN (sr λ_ J4=>PS ?_));refine ao ?_ ?_<;>intro h20;refine PS ?_;refine nx J4 (CY (D1 0 mixed ?_));refine PD 0 ?_;refine PD 1 ?_;refine FD 2 183 c9 tF ?_;refine FD 3 1 eb aR ?_;refine LR 4 Y3 (Ga m rfl) ?_;refine FD 5 2 eb ba ?_;refine ta 6 rfl (aM (vs:=ints m.row.flat) rfl dU rfl ba rfl (λ_ h=>h.2.1) (aj m.row) (r9 m 0 rfl (by decide) (whole (aj m.row)))) ?_;refine AL 7 ?_
 refine CE L7 (Leg.Does.hid (λa_=>sU r 183 87 _ (dW (s.rep ⟨lg, .pointer none, .slice none 0 0⟩)) s.mirror m.whose m.row hw)) (SM [1]) ?_;refine EN (DN (ag (WK [0] (bp rfl ?_))));exact congrArg (λq=>[DD lg r q]) (show(iJ s m.whose m.row)=jB s m by rw[jB,if_neg h7,if_pos h20]<;>rfl);refine PS ?_;refine nx J4 (CN (sr λ_ J5=>PS ?_));refine ao ?_ ?_<;>intro h30;refine PS ?_;refine nx J5 (CY (D1 0 mixed ?_));refine PD 0 ?_;refine PD 1 ?_;refine FD 2 183 c9 tF ?_;refine FD 3 1 eb aR ?_;refine LR 4 Y3 (Ga m rfl) ?_;refine AL 5 ?_;refine CE L6 (Leg.Does.hid (λa_=>sT r 183 87 _ (dW (s.rep ⟨lg, .pointer none, .slice none 0 0⟩)) s.mirror m.whose)) (SM [1]) ?_;refine EN (DN (ag (WK [0] (bp rfl ?_))));exact congrArg (λq=>[DD lg r q]) (show(l5 s m.whose)=jB s m by rw[jB,if_neg h7,if_neg h20,if_pos h30]<;>rfl);refine PS ?_;refine nx J5 (CN (sr λ_ J6=>PS ?_));refine ao ?_ ?_<;>intro h38;refine PS ?_;refine nx J6 (CY (sr λ_ J7=>PS ?_));refine FA 177 eb cv ?_;refine LV 0 ka cv ap RecT.sp_ballot (y:=m.ballot) ?_;refine PS ?_;refine FA 1058 c9 fF ?_;refine FA 1059 pH cv ?_
 refine gP (vs:=ints m.ballot.flat) (i:=1) (aa rfl) rfl rfl rfl rfl rfl (by rw[(ap m.ballot)];exact cv) (bj _) rfl rfl (λ_=>LC (cN _) (ap _)) (λa_=>(kA (s.rep ⟨lg, .pointer none, .slice none 0 0⟩) 1 rfl (by have h1:=(ap m.ballot);omega) (Qn ((s.rep ⟨lg, .pointer none, .slice none 0 0⟩).acc) 0 rfl (by have h1:=(ap m.ballot);omega) (cr ((ap (((s.rep ⟨lg, .pointer none, .slice none 0 0⟩).acc).vow)).trans (ap m.ballot).symm))))) (nx J7 (D1 0 mixed ?_));refine PD 0 ?_;refine PD 1 ?_;refine PD 2 ?_;refine FD 3 1066 c9 aR ?_;refine FD 5 177 eb cv ?_;refine FD 6 177 ka aR ?_;refine LX 7 Y3 (.int .i64 (m.ballot.round)) ?_ (hc:=by exact RecT.pt_ballot m 0 rfl (by decide) (e8 m.ballot rfl));refine AL 4 ?_;refine LG 1 Y3 (.int .i64 (s.round)) ?_ (hc:=by exact λa_=>(vA _ rfl));refine EN (ta 8 rfl (yK rfl rfl rfl) ?_);refine PD 9 ?_;refine FD 10 1066 c9 aR ?_;refine AL 11 ?_;refine SK 1 aR (λ_=>cN _) ?_ (hc:=by exact λa_=>(lS _ rfl _));refine EN (DN (ag (WK [1] (bp rfl ?_))));exact congrArg (λq=>[DD lg r q]) (show(MS.setRound (MS.setAcc s (AccT.mk s.acc.epoch m.ballot s.acc.had s.acc.change)) (max s.round m.ballot.round))=jB s m by rw[jB,if_neg h7,if_neg h20,if_neg h30,if_pos h38]<;>rfl);refine PS ?_;refine nx J6 (CN (sr λ_ J8=>PS ?_));refine ao ?_ ?_<;>intro h57;refine PS ?_;refine nx J8 (CY (ab λ_ J9=>D1 0 mixed ?_));refine PD 0 ?_;refine PD 1 ?_;refine PD 2 ?_;refine FD 3 177 eb cv ?_
 refine ta 4 rfl (aM (vs:=ints m.ballot.flat) rfl ka rfl cv rfl (λ_ h=>h.2.1) (ap m.ballot) (qT m 0 rfl (by decide) (whole (ap m.ballot)))) ?_;refine FD 5 177 eb cv ?_;refine ta 6 rfl (aM (vs:=ints m.ballot.flat) rfl ka rfl cv rfl (λ_ h=>h.2.1) (ap m.ballot) (qT m 0 rfl (by decide) (whole (ap m.ballot)))) ?_;refine FD 7 179 eb fp ?_;refine ta 8 rfl (aM (vs:=ints m.change.flat) rfl na rfl fp rfl (λ_ h=>h.2.1) (aI m.change) (Nb m 0 rfl (by decide) (whole (aI m.change)))) ?_;refine PD 9 ?_;refine FD 10 1058 c9 fF ?_;refine FD 11 1059 pH cv ?_;refine AL 12 ?_;refine gP (vs:=ints m.ballot.flat) (i:=1) (aa rfl) rfl rfl rfl rfl rfl (by rw[(ap m.ballot)];exact cv) (bj _) rfl rfl (λ_=>LC (cN _) (ap _)) (λa_=>(kA (s.rep ⟨lg, .pointer none, .slice none 0 0⟩) 1 rfl (by have h1:=(ap m.ballot);omega) (Qn ((s.rep ⟨lg, .pointer none, .slice none 0 0⟩).acc) 0 rfl (by have h1:=(ap m.ballot);omega) (cr ((ap (((s.rep ⟨lg, .pointer none, .slice none 0 0⟩).acc).vow)).trans (ap m.ballot).symm))))) (EN (PD 13 ?_));refine FD 14 1058 c9 fF ?_;refine FD 15 1061 pH cv ?_;refine AL 16 ?_
 refine gP (vs:=ints m.ballot.flat) (i:=1) (aa rfl) rfl rfl rfl rfl rfl (by rw[(ap m.ballot)];exact cv) (bj _) rfl rfl (λ_=>LC (cN _) (ap _)) (λa_=>(kA ((MS.setAcc s (AccT.mk s.acc.epoch m.ballot s.acc.had s.acc.change)).rep ⟨lg, .pointer none, .slice none 0 0⟩) 3 rfl (by have h1:=(ap m.ballot);omega) (AccT.wr_had_ (((MS.setAcc s (AccT.mk s.acc.epoch m.ballot s.acc.had s.acc.change)).rep ⟨lg, .pointer none, .slice none 0 0⟩).acc) 0 rfl (by have h1:=(ap m.ballot);omega) (cr ((ap ((((MS.setAcc s (AccT.mk s.acc.epoch m.ballot s.acc.had s.acc.change)).rep ⟨lg, .pointer none, .slice none 0 0⟩).acc).had)).trans (ap m.ballot).symm))))) (EN (PD 17 ?_));refine FD 18 1058 c9 fF ?_;refine FD 19 1063 pH fp ?_;refine AL 20 ?_;refine gP (vs:=ints m.change.flat) (i:=1) (aa rfl) rfl rfl rfl rfl rfl (by rw[(aI m.change)];exact fp) (bj _) rfl rfl (λ_=>LC (cN _) (aI _)) (λa_=>(kA ((MS.setAcc s (AccT.mk s.acc.epoch m.ballot m.ballot s.acc.change)).rep ⟨lg, .pointer none, .slice none 0 0⟩) 5 rfl (by have h1:=(aI m.change);omega) (AccT.wr_change_ (((MS.setAcc s (AccT.mk s.acc.epoch m.ballot m.ballot s.acc.change)).rep ⟨lg, .pointer none, .slice none 0 0⟩).acc) 0 rfl (by have h1:=(aI m.change);omega) (cr ((aI ((((MS.setAcc s (AccT.mk s.acc.epoch m.ballot m.ballot s.acc.change)).rep ⟨lg, .pointer none, .slice none 0 0⟩).acc).change)).trans (aI m.change).symm))))) (EN (DN (ac J9 (D1 0 mixed ?_))));refine PD 0 ?_;refine PD 1 ?_;refine PD 2 ?_
 refine FD 3 1066 c9 aR ?_;refine FD 5 177 eb cv ?_;refine FD 6 177 ka aR ?_;refine LX 7 Y3 (.int .i64 (m.ballot.round)) ?_ (hc:=by exact RecT.pt_ballot m 0 rfl (by decide) (e8 m.ballot rfl));refine AL 4 ?_;refine LG 1 Y3 (.int .i64 (s.round)) ?_ (hc:=by exact λa_=>(vA _ rfl));refine EN (ta 8 rfl (yK rfl rfl rfl) ?_);refine PD 9 ?_;refine FD 10 1066 c9 aR ?_;refine AL 11 ?_;refine SK 1 aR (λ_=>cN _) ?_ (hc:=by exact λa_=>(lS _ rfl _));refine EN (DN (ag (WK [1] (bp rfl ?_))));exact congrArg (λq=>[DD lg r q]) (show(MS.setRound (MS.setAcc s (AccT.mk s.acc.epoch m.ballot m.ballot m.change)) (max s.round m.ballot.round))=jB s m by rw[jB,if_neg h7,if_neg h20,if_neg h30,if_neg h38,if_pos h57]<;>rfl);refine PS ?_;refine nx J8 (CN (sr λ_ J10=>PS ?_));refine ao ?_ ?_<;>intro h88;refine PS ?_;refine nx J10 (CY (ad (PS ?_)));refine FA 182 eb bf ?_;refine LV 0 eE bf am RecT.sp_view (y:=m.view) ?_;refine CZ MJ (uW lg r s m.view) (SM [1]) λvR=>?_
 refine aq (ag (WK [0] (bp rfl ?_)));exact congrArg (λq=>[DD lg r q]) (show(m6 s m.view)=jB s m by rw[jB,if_neg h7,if_neg h20,if_neg h30,if_neg h38,if_neg h57,if_pos h88]<;>rfl);refine PS ?_;refine nx J10 (CN (aT (ag (WK [1] (bp rfl ?_)))));exact congrArg (λq=>[DD lg r q]) (show s=jB s m by rw[jB,if_neg h7,if_neg h20,if_neg h30,if_neg h38,if_neg h57,if_neg h88]<;>rfl)
theorem KW{bs:List UInt8}(h: ¬(oj bs).2≠0):WF (oj bs).1.row.flat:=by
 rcases Jz bs with⟨m,e,_,_,hw⟩|e
 · rw[e];exact hw
 · rw[e]at h;exact absurd (by decide) h
theorem BI{δ:Type}(e0:δ)(i:Int)(d:Nat)(D:DS)(hD:D.Ok)(hI:Wal.DS.In D)(hb:D.ws.length≤1000000):
 DT 43 #[(.int .i64 (i)),(.pointer (some ⟨d,0,none⟩))] T0 [dk d D] (dh (λr' H=>((bQ D).err≠0∧r'= .tuple #[.pointer none, .int .i64 (bQ D).err]∧H=[dk d (bQ D).D])∨((bQ D).err=0∧((lE (bQ D).recs (Cl i e0)=none∧r'= .tuple #[.pointer none, .int .i64 1]∧H=[dk d (bQ D).D])∨∃s r lg,lE (bQ D).recs (Cl i e0)=some s∧r'= .tuple #[.pointer (some ⟨r,0,none⟩), .int .i64 0]∧H=[DD lg r s,FW lg d (((bQ D).recs.length:Nat):Int) (bQ D).used,dk d (bQ D).D])))):=by
 refine BD 50 Tryz.func43 rfl rfl rfl λw0 F hF=>sr λ_ J1=>P2 ?_
 refine nx J1 (ab λ_ J2=>sr λ_ J3=>PS ?_);refine tp (iT rfl HT rfl rfl) ?_;refine nx J3 (CN (qx J2 (sr λ_ J4=>PS ?_)));refine CR Pp (G8 d D hD hI hb) ID λvR HR hR=>?_
 rcases hR with⟨he,rfl,rfl⟩| ⟨he,lg,vr,rfl,rfl⟩
 refine P4 ?_;refine P3 ?_;refine nx J4 (ab λ_ J5=>sr λ_ J6=>P2 ?_);refine ao ?_ ?_<;>intro h23;refine nx J6 (CY (sr λ_ J7=>P3 ?_));exact nx J7 (ai (ae (WK [0] (gQ rfl rfl rfl (.inl ⟨he,rfl,rfl⟩)))))
 · exact absurd he h23
 change TL _ _ _ _ _ _ _ _ _ [ah lg [(.pointer (some ⟨d,0,none⟩)),(.int .i64 ((((bQ D).recs.length:Nat):Int))),(.int .i64 ((bQ D).used))] 186,O4 vr (bQ D).recs,dk d (bQ D).D];refine yC (p:=pk vr (bQ D).recs.length∧vr.oneCell'=true) (λw m=>by obtain⟨h,_,_,hs⟩:=m;obtain⟨_,_,_,_,a,_⟩:=eB 1 (lb rfl) hs;exact uD a) (λ⟨hsl,hvr⟩=>P4 ?_);refine P3 ?_;refine nx J4 (ab λ_ J8=>sr λ_ J9=>P2 ?_);refine nx J9 (CN (qx J8 (sr λ_ J10=>P2 ?_)))
 refine tp (yL (cs:=RepT.cells (RepT.mk i (.pointer (some ⟨lg,0,none⟩)) ViewT.zero RowT.zero MirT.zero AccT.zero 0 (.pointer none) BookT.zero false 0 0 0 (.slice none 0 0) (#v[0,0,0,0,0]) (#v[RowT.zero,RowT.zero,RowT.zero,RowT.zero,RowT.zero]))) (segs:=[[Value.int .i64 0],[(.pointer none)],ints ViewT.zero.flat,ints RowT.zero.flat,MirT.cells MirT.zero,ints AccT.zero.flat,[Value.int .i64 0],[(.pointer none)],ints BookT.zero.flat,[Value.bool false],[Value.int .i64 0],[Value.int .i64 0],[Value.int .i64 0],[(.slice none 0 0)],ints (#v[0,0,0,0,0]).toList,ints ((#v[RowT.zero,RowT.zero,RowT.zero,RowT.zero,RowT.zero]).toList.flatMap RowT.flat)]) (res:=[[Value.int .i64 i],[(.pointer (some ⟨lg,0,none⟩))],ints ViewT.zero.flat,ints RowT.zero.flat,MirT.cells MirT.zero,ints AccT.zero.flat,[Value.int .i64 0],[(.pointer none)],ints BookT.zero.flat,[Value.bool false],[Value.int .i64 0],[Value.int .i64 0],[Value.int .i64 0],[(.slice none 0 0)],ints (#v[0,0,0,0,0]).toList,ints ((#v[RowT.zero,RowT.zero,RowT.zero,RowT.zero,RowT.zero]).toList.flatMap RowT.flat)]) (parts:=[(0,[Value.int .i64 i]),(1,[(.pointer (some ⟨lg,0,none⟩))])]) rfl rfl c9 (by kernel_rfl) (by kernel_rfl) rfl (e9 rfl rfl (e9 rfl ((rfl:[(.pointer (some ⟨lg,0,none⟩))].length=1).trans (rfl:[(.pointer none)].length=1).symm) lF)) (ey (RepT.mk i (.pointer (some ⟨lg,0,none⟩)) ViewT.zero RowT.zero MirT.zero AccT.zero 0 (.pointer none) BookT.zero false 0 0 0 (.slice none 0 0) (#v[0,0,0,0,0]) (#v[RowT.zero,RowT.zero,RowT.zero,RowT.zero,RowT.zero]))).symm) ?_
 refine XY (RepT.cells (RepT.mk i (.pointer (some ⟨lg,0,none⟩)) ViewT.zero RowT.zero MirT.zero AccT.zero 0 (.pointer none) BookT.zero false 0 0 0 (.slice none 0 0) (#v[0,0,0,0,0]) (#v[RowT.zero,RowT.zero,RowT.zero,RowT.zero,RowT.zero]))) λb28=>?_
 refine PS ?_;refine nx J10 (sr λ_ J11=>ck (H':=DD lg b28 (Fq i e0)::[ah lg [(.pointer (some ⟨d,0,none⟩)),(.int .i64 ((((bQ D).recs.length:Nat):Int))),(.int .i64 ((bQ D).used))] 186,O4 vr (bQ D).recs,dk d (bQ D).D]) (λ_ q=>bn (p:=λ_:Unit=>[ah b28 (RepT.cells ((Fq i e0).rep ⟨lg, .pointer none, .slice none 0 0⟩)) 87]) () (aB [0] rfl q)) (PS ?_));refine CE NE (xz) ID ?_;refine CZ MJ (uW lg b28 (Fq i e0) firstV) ID λvR=>?_
 refine nx J11 (ab λ_ J12=>sr λ_ J13=>PS ?_);refine tp (dq rfl vv rfl hsl) ?_;refine PS ?_;refine nx J13 (au ?_)
 refine bu (α:=(Nat)×(MS δ)) (λ⟨k,s⟩=>k≤(bQ D).recs.length∧lE (bQ D).recs (Cl i e0)=lE ((bQ D).recs.drop k) s) (λ⟨k,s⟩=>[(9,(.pointer (some ⟨b28,0,none⟩))),(32,vr),(33,(.int .i64 ((((bQ D).recs.length:Nat):Int)))),(34,(.int .i64 (((k:Nat):Int))))]) (λ⟨k,s⟩=>[DD lg b28 s,ah lg [(.pointer (some ⟨d,0,none⟩)),(.int .i64 ((((bQ D).recs.length:Nat):Int))),(.int .i64 ((bQ D).used))] 186,O4 vr (bQ D).recs,dk d (bQ D).D]) (λ⟨k,s⟩=>(bQ D).recs.length-k) (0,(Cl i e0))
  ⟨aN _,rfl⟩ SB
  (λ_ s=>ak [0,0,0,0] rfl s) (λ⟨k,s⟩ hinv=>?_)
 obtain⟨hk,hrs⟩:=hinv;refine sr λ_ J14=>PS ?_
 refine ao ?_ ?_<;>intro h35;refine ck (λ_ s=>aB [2] rfl s) (Mj (λus=>?_));change TL _ _ _ _ _ _ _ _ _ [own vr ((bQ D).recs.length) (us) 53 1,eA us (bQ D).recs 5,DD lg b28 s,ah lg [(.pointer (some ⟨d,0,none⟩)),(.int .i64 ((((bQ D).recs.length:Nat):Int))),(.int .i64 ((bQ D).used))] 186,dk d (bQ D).D];refine yC (p:=us.length=(bQ D).recs.length*1) (λw m=>m.own_len (i:=0) (lb rfl) rfl) (λhul=>?_);rw[fK]at hul;have hkl:k< (bQ D).recs.length:=by omega
 refine g9 0 rfl rfl (by omega) (λg cap hv hcap=>?_);have hvq:vr= .slice (some ⟨g,0,none⟩) (bQ D).recs.length cap:=hv;refine nx J14 (ab λ_ J15=>CY (qx J15 (ab λ_ J16=>au (sr λ_ J17=>tp (be (r:=k) hv rfl vv kH rfl rfl (by omega) (by omega) (by omega)) ?_))));refine tp (ca (v:=(us.getD k undef)) rfl fB rfl rfl (fD 0 rfl hvq rfl) (by simp[List.getD_eq_getElem?_getD,show k<us.length by omega])) ?_;refine PS ?_;refine nx J17 (sr λ_ J18=>PS ?_);refine CF Po (vh (us.getD k undef) (bQ D).recs[k]) ID (λg d s=>ub 1 hkl rfl rfl g d s) ?_;refine P3 ?_;refine XZ H5 (ints RecT.zero.flat) λb12=>?_
 refine SW 0 fG bl ?_;refine PS ?_;refine nx J18 (ab λ_ J19=>sr λ_ J20=>P2 ?_);refine ao ?_ ?_<;>intro h44;refine nx J20 (CY (sr λ_ J21=>P2 ?_));exact nx J21 (ai (ae (aH (ae (ae (aH (ae (WK [5] (gQ rfl rfl rfl (.inr ⟨he, .inl ⟨hrs.trans (GP hkl h44),rfl,rfl⟩⟩))))))))));refine nx J20 (CN (qx J19 (ad (PS ?_))));refine LW 0 eb fG bl ?_;refine CZ Pn (yi lg b28 s (oj (bQ D).recs[k]).1 (KW h44)) (SM [3]) λvR=>?_
 refine aq (ag (ac J16 (ad (AD ?_))));refine PS ?_;refine aq ?_
 exact aJ ((k+1,(jB s (oj (bQ D).recs[k]).1)):(Nat)×(MS δ)) ⟨by omega,hrs.trans (IG hkl h44)⟩ (by show(bQ D).recs.length- (k+1)< (bQ D).recs.length-k;omega)
  SB
  (λ_ s=>aB [1,1,0,0] rfl (bn (p:=λus:List Value=>[own vr (bQ D).recs.length us 53 1,eA us (bQ D).recs 5]) us (ak [2,2,0,1,1] rfl s)))
 refine nx J14 (ab λ_ J22=>CN (aY (aC (aC (bo (ac J12 (sr λ_ J23=>P3 ?_)))))));refine nx J23 (ai (WK [0,0,1] (gQ rfl rfl rfl ?_)));exact .inr ⟨he, .inr ⟨s,b28,lg,by rw[hrs,da (by omega)];rfl,rfl,rfl⟩⟩
def kD(k:Nat)(m:MsgT):List UInt8:=jj ((k / 5:Nat):Int) ((k%5:Nat):Int) (dQ m)
def cY(W:List (List MsgT)):List (List (List UInt8)):=(List.range 25).map λk=>(W.getD k []).map (kD k)
theorem pO(W:List (List MsgT)):(cY W).length=25:=by simp[cY]
theorem qD(W:List (List MsgT)){k:Nat}(h:k<25):(cY W).getD k []=(W.getD k []).map (kD k):=by simp[cY,h,List.getD_eq_getElem?_getD]
theorem vX(W:List (List MsgT)){k:Nat}(h:k<25)(hW:W.length=25)(l:List MsgT):(cY W).set k (l.map (kD k))=cY (W.set k l):=by
 refine List.ext_getElem? λj=>?_
 by_cases hj:j=k
 · subst hj
   rw[List.getElem?_set_self (by rw[pO];exact h)];simp[cY,h,List.getD_eq_getElem?_getD,List.getElem?_set_self (show j<W.length by omega)]
 · rw[List.getElem?_set_ne (λe=>hj e.symm)]
   unfold cY;rw[List.getElem?_map,List.getElem?_map]
   by_cases hk:j<25
   · simp[hk,List.getD_eq_getElem?_getD,List.getElem?_set_ne (λe=>hj e.symm)]
   · simp[hk]
theorem Bq{f t:Int}(hf:gM f=true)(ht:gM t=true)(m:MsgT):kD (bA f t) m=jj f t (dQ m):=by
 have h1:0≤f∧f<5:=of_decide_eq_true hf;have h2:0≤t∧t<5:=of_decide_eq_true ht;unfold kD bA;rw[show(((f.toNat*5+t.toNat) / 5:Nat):Int)=f by omega,show(((f.toNat*5+t.toNat)%5:Nat):Int)=t by omega]
theorem sx{f t:Int}(h:dK f t=true):gM f=true∧gM t=true:=by
 unfold dK at h;rw[ax,ax]at h;exact h.1
theorem Ia{W:List (List MsgT)}(hW:W.length=25){f:Nat}(s:SaidT):oS (cY W) ((f:Nat):Int) s.to' (jj ((f:Nat):Int) s.to' (dQ s.msg))=cY (sM W f s):=by
 unfold oS sM;cases hv:dK ((f:Nat):Int) s.to'
 · rfl
 · obtain⟨h1,h2⟩:=ir hv
   obtain⟨h3,h4⟩:=sx hv;rw[if_pos rfl,if_pos rfl,qD W h1,←Bq h3 h4,←vX W h1 hW];unfold Aw;rw[bM];split
   · rw[dB];rfl
   · rfl
theorem IJ(W:List (List MsgT))(f:Nat)(s:SaidT):(sM W f s).length=W.length:=by unfold sM;split<;>simp
theorem GA(W:List (List MsgT))(f:Nat)(l:List SaidT):(gD W f l).length=W.length:=by
 induction l generalizing W with
 |nil=>rfl
 |cons s l ih=>exact(ih _).trans (IJ _ _ _)
theorem GB(W:List (List MsgT))(f:Nat)(l:List SaidT)(s:SaidT):gD W f (l++[s])=sM (gD W f l) f s:=by simp[gD]
theorem vW(k:Nat)(m:MsgT):(kD k m).length≤1000000:=by
 unfold kD;rw[rQ];have:=s9 m;omega
end Go.Proofs.YtfocodjhmkokpaaGreatDoor
end

section
namespace Api
open Go Leg Codec Dsk Wal
def kJ(D:DS):Nat→DS
 |0=> .new
 |k+1=>if iY D.s ((k:Nat):Int)=zs then kJ D k else((kJ D k).write ((k:Nat):Int) (iY D.s ((k:Nat):Int))).2
def nq(D:DS):DS:=(kJ D 2048).sync.2
def M7(a:CL)(i:Nat):Option (MS LD):=if(a.at' i).up then none else(cJ i (nq (a.at' i).dk)).1
def iZ(a:CL)(i:Nat):Option (MS LD):=if(a.at' i).up then(a.at' i).run else(cJ i (nq (a.at' i).dk)).1
def MT(s:MS LD)(b:BookT)(i:Nat):BookT:=(fz b ((i:Nat):Int) (dp s.mirror ((i:Nat):Int))).1
def sV(s:MS LD)(b:BookT):Nat→BookT
 |0=>b
 |i+1=>MT s (sV s b i) i
def iG(a:CL):Nat→BookT
 |0=> .zero
 |j+1=>match iZ a j with
  |some s=>sV s (iG a j) 5
  |none=>iG a j
def bh(a:CL):BookT:=iG a 5
theorem zX{a:CL}{j:Nat}{s:MS LD}(h:iZ a j=some s):iG a (j+1)=sV s (iG a j) 5:=by rw[iG,h]
theorem zY{a:CL}{j:Nat}(h:iZ a j=none):iG a (j+1)=iG a j:=by rw[iG,h]
def fQ(a:CL):Nat→ViewT×Bool
 |0=>(firstV,false)
 |j+1=>match iZ a j with
  |some s=>if(fQ a j).2=false∨s.view.epoch>(fQ a j).1.epoch then(s.view,true)else fQ a j
  |none=>fQ a j
def fI(a:CL):ViewT:=(fQ a 5).1
theorem qf{a:CL}{j:Nat}(h:iZ a j=none):fQ a (j+1)=fQ a j:=by rw[fQ,h]
theorem kq{a:CL}{j:Nat}{s:MS LD}(h:iZ a j=some s):fQ a (j+1)=if(fQ a j).2=false∨s.view.epoch>(fQ a j).1.epoch then(s.view,true)else fQ a j:=by rw[fQ,h]
theorem uR{a:CL}{j:Nat}{s:MS LD}(h:iZ a j=some s)(hk:(fQ a j).2=true)(he: ¬s.view.epoch>(fQ a j).1.epoch):fQ a (j+1)=fQ a j:=by
 rw[kq h,if_neg (λq=>q.elim (λz=>by rw[hk]at z;cases z) he)]
def tQ(v:ViewT)(i:Nat):Int:=(jE v ((i:Nat):Int)).getD ((i:Nat):Int)
def iw(B:BookT)(key:Int)(i:Nat):CellT:=cZ B ((i:Nat):Int) key
def Iw(B:BookT)(key:Int)(i ow:Nat)(S:List Int):List Int:=S.set ow (fO (S.getD ow 0+fO ((iw B key i).inn- (iw B key i).out)))
def Mu(B:BookT)(key:Int)(i ow j:Nat)(S:List Int):List Int:=S.set ow (fO (S.getD ow 0+fO ((iw B key j).given.toList.getD i 0- (iw B key i).given.toList.getD j 0)))
def Kn(B:BookT)(key:Int)(i ow:Nat)(S:List Int):Nat→List Int
 |0=>S
 |j+1=>Mu B key i ow j (Kn B key i ow S j)
def qG(B:BookT)(key:Int)(v:ViewT):Nat→List Int
 |0=>List.replicate 5 0
 |i+1=>if 0≤tQ v i∧tQ v i<5 then Kn B key i (tQ v i).toNat (Iw B key i (tQ v i).toNat (qG B key v i)) 5 else qG B key v i
theorem qH(B:BookT)(key:Int)(i ow:Nat)(S:List Int): ∀j,(Kn B key i ow S j).length=S.length
 |0=>rfl
 |j+1=>by rw[Kn,Mu,cy];exact qH B key i ow S j
theorem iH(B:BookT)(key:Int)(v:ViewT): ∀i,(qG B key v i).length=5
 |0=>by simp[qG]
 |i+1=>by
  rw[qG];split
  · rw[qH,Iw,cy];exact iH B key v i
  · exact iH B key v i
def ki(B:BookT)(key:Int)(k:Nat):Vector CellT 5:=Vector.ofFn λj:Fin 5=>if j.val<k then iw B key j.val else .zero
theorem JH{B:BookT}{key:Int}{j:Nat}(hj:j<5):(ki B key 5)[j]=iw B key j:=by simp[ki,hj]
theorem JG{B:BookT}{key:Int}{i:Nat}(hi:i<5):(ki B key i).set i (iw B key i) hi=ki B key (i+1):=by
 ext j hj
 rw[Vector.getElem_set];simp only[ki,Vector.getElem_ofFn];split
 · rename_i h;subst h;rw[if_pos (by omega)]
 · by_cases h:j<i
   · rw[if_pos h,if_pos (by omega)]
   · rw[if_neg h,if_neg (by omega)]
section
variable {n:Nat} {a:CL}
end
end Api
namespace Go.Proofs.YtfocodjhmkokpaaGreatDoor
open Go Leg Codec Api Dsk Wal
end Go.Proofs.YtfocodjhmkokpaaGreatDoor
end

section
namespace Api
open Go Leg Codec Dsk Wal
structure RepOk(m:Nat)(s:MS LD):Prop where
 ops:0≤s.ops∧s.ops≤((m:Nat):Int)
 r: ∀x∈s.replies,1≤x.op∧x.op≤s.ops
 one:(s.replies.map (·.op)).Nodup
 w:0<s.waits→s.waits≤s.ops∧∀x∈s.replies,x.op≠s.waits
theorem RepOk.more{m k:Nat}{s:MS LD}(h:RepOk m s)(hk:m≤k):RepOk k s:=⟨⟨h.ops.1,by have:=h.ops.2;omega⟩,h.r,h.one,h.w⟩
theorem RepOk.qt{m:Nat}{s t:MS LD}(h:RepOk m s)(q:Qt s t):RepOk m t:=by
 refine⟨by rw[q.ops];exact h.ops,by rw[q.ops,q.replies];exact h.r,by rw[q.replies];exact h.one,λhw=>?_⟩;rw[q.replies,q.ops];rcases q.waits with e|e
 · rw[e]at hw ⊢;exact h.w hw
 · rw[e]at hw;exact absurd hw (by decide)
theorem w3{l:List Int}{x:Int}(h:l.Nodup)(hx: ∀y∈l,y≠x):(l++[x]).Nodup:=by
 rw[List.nodup_append];exact⟨h,by simp,λa ha b hb=>by rw[dm]at hb;subst hb;exact hx a ha⟩
theorem RepOk.rp{m:Nat}{s t:MS LD}{e v:Int}(h:RepOk m s)(hw:0<s.waits)(q:Rp s t [⟨s.waits,e,v⟩])(w0:t.waits=0)(ho:t.ops=s.ops):RepOk m t:=by
 obtain⟨h1,h2⟩:=h.w hw;refine⟨by rw[ho];exact h.ops,λx hx=>?_,?_,λz=>by rw[w0]at z;exact absurd z (by decide)⟩
 · rw[q.replies]at hx
   rw[ho];rcases cG.1 hx with hx|hx
   · exact h.r x hx
   · rw[dm]at hx;subst hx
     exact⟨by show 1≤s.waits;omega,h1⟩
 · rw[q.replies,dB]
   exact w3 h.one λy hy=>by
    obtain⟨x,hx,rfl⟩:=eS.1 hy;exact h2 x hx
theorem RepOk.cli{m:Nat}{s:MS LD}(h:RepOk m s)(hm:m≤1000000)(o:OpT):RepOk (m+1) (bV KD s o).1:=by
 have ew:fO (s.ops+1)=s.ops+1:=by
  have:=h.ops;exact bF (by omega) (by omega)
 have r1: ∀x∈s.replies,x.op≠s.ops+1:=λx hx=>by have:=(h.r x hx).2;omega
 rcases zw (K:=KD) s o with⟨e,v,q,_,ho,hw⟩| ⟨q,_,ho,hw⟩
 · rw[ew]at q ho
   refine⟨by rw[ho];have:=h.ops;omega,λx hx=>?_,?_,λz=>?_⟩
   · rw[q.replies]at hx
     rw[ho];rcases cG.1 hx with hx|hx
     · have:=h.r x hx;omega
     · rw[dm]at hx;subst hx
       have:=h.ops;show 1≤s.ops+1∧s.ops+1≤s.ops+1;omega
   · rw[q.replies,dB]
     exact w3 h.one λy hy=>by
      obtain⟨x,hx,rfl⟩:=eS.1 hy;exact r1 x hx
   · rcases hw with hw|hw
     · rw[hw]at z ⊢
       obtain⟨h1,h2⟩:=h.w z;rw[ho,q.replies];refine⟨by omega,λx hx=>?_⟩;rcases cG.1 hx with hx|hx
       · exact h2 x hx
       · rw[dm]at hx;subst hx
         show s.ops+1≠s.waits;omega
     · rw[hw]at z;exact absurd z (by decide)
 · rw[ew]at ho hw
   have er:(bV KD s o).1.replies=s.replies:=by rw[q.replies,aP]
   refine⟨by rw[ho];have:=h.ops;omega,λx hx=>?_,by rw[er];exact h.one,λz=>?_⟩
   · rw[er]at hx
     rw[ho];have:=h.r x hx;omega
   · rw[hw,ho,er]
     exact⟨by omega,r1⟩
theorem RepOk.hush{m:Nat}{s:MS LD}(h:RepOk m s):RepOk m s.hush:=⟨h.ops,h.r,h.one,h.w⟩
theorem RepOk.fresh{m:Nat}{i:Int}{e:LD}{s:MS LD}(f:Fresh i e s):RepOk m s:=by
 refine⟨by rw[f.ops];omega,λx hx=>?_,by rw[f.replies];exact List.nodup_nil,λz=>?_⟩
 · rw[f.replies]at hx;cases hx
 · rw[f.waits]at z;exact absurd z (by decide)
theorem CL.set_at{a:CL}{i j:Nat}{x:Slot}{W:List (List MsgT)}(hi:i<a.ms.length):(CL.mk (a.ms.set i x) W).at' j=if j=i then x else a.at' j:=by
 split
 · rename_i h;subst h;exact um hi
 · rename_i h;exact u7 h
structure RepsOk(m:Nat)(a:CL):Prop where
 ok: ∀i s,(a.at' i).run=some s→RepOk m s
theorem RepsOk.more{m k:Nat}{a:CL}(h:RepsOk m a)(hk:m≤k):RepsOk k a:=⟨λi s q=>(h.ok i s q).more hk⟩
theorem RepsOk.put{m:Nat}{a:CL}(h:RepsOk m a){i:Nat}(hi:i<a.ms.length){x:Slot}{W:List (List MsgT)}(hx: ∀s,x.run=some s→RepOk m s):RepsOk m ⟨a.ms.set i x,W⟩:=⟨λj s q=>by
 rw[CL.set_at hi]at q;split at q
 · exact hx s q
 · exact h.ok j s q⟩
theorem p5{x:Slot}{s:MS LD}(h:x.run=some s):x.reps=x.past++s.replies:=by unfold Slot.reps;rw[h]
theorem nX{x:Slot}(h:x.run=none):x.reps=x.past:=by unfold Slot.reps;rw[h];exact aP _
theorem HH{n m:Nat}{a:CL}(h:CLOk n a)(g:RepsOk m a)(hm:m≤1000000)(o:OpT):RepsOk (m+1) (zu a o).1:=by
 have none':RepsOk (m+1) a:=g.more (by omega)
 have did: ∀{i:Nat} {s t:MS LD},i<5→(a.at' i).run=some s→RepOk (m+1) t→RepsOk (m+1) (a.did i t):=λhi _ ht=>RepsOk.put none' (by rw[h.ms];exact hi) λs q=>by
  obtain rfl:=cU q;exact ht.hush
 unfold zu
 by_cases hm':gM o.at'=false
 · rw[if_pos hm'];exact none'
 rw[if_neg hm'];obtain⟨hi,_⟩:=lL (show gM o.at'=true by simpa using hm');have hi2:o.at'.toNat<a.ms.length:=by rw[h.ms];exact hi
 split
 · unfold C9
   split
   · exact none'
   · rename_i s hs
     split
     · exact none'
     · exact did hi hs ((g.ok _ s hs).cli hm o)
 split
 · unfold oC
   split
   · exact none'
   split
   · exact none'
   split
   · split
     · exact⟨none'.ok⟩
     · exact none'
   split
   · exact none'
   split
   · exact⟨none'.ok⟩
   · rename_i m' l _ _
     unfold tf;split
     · exact⟨none'.ok⟩
     · rename_i s hs
       split
       · exact⟨none'.ok⟩
       · split
         · have hs':(a.at' o.to'.toNat).run=some s:=hs
           have ok:RepOk (m+1) (gg KD s ((o.at'.toNat:Nat):Int) (iP (dQ m')).1):=by
            have h0:=(g.ok _ s hs').more (Nat.le_succ m);rcases Aa (K:=KD) s ((o.at'.toNat:Nat):Int) (iP (dQ m')).1 with q| ⟨hw,q,q2,q3⟩
            · exact h0.qt q
            · exact h0.rp hw q q2 q3
           unfold CL.did
           by_cases ht:o.to'.toNat<5
           · exact RepsOk.put (a:=a) none' (by rw[h.ms];exact ht) λs q=>by
              obtain rfl:=cU q;exact ok.hush
           · rw[show((a.way (bA o.at' o.to') l).ms.set o.to'.toNat _)=a.ms from nc (by show a.ms.length≤_;rw[h.ms];omega)]
             exact⟨none'.ok⟩
         · exact⟨none'.ok⟩
 split
 · unfold Bv
   split
   · exact none'
   · rename_i s hs
     split
     · exact none'
     · exact did hi hs (((g.ok _ s hs).more (Nat.le_succ m)).qt inferInstance)
 split
 · refine none'.put hi2 λs q=>?_
   unfold vn at q;split at q
   · rename_i t ht
     obtain rfl:=cU q;have:=none'.ok _ t ht;exact⟨this.ops,this.r,this.one,this.w⟩
   · rename_i ht
     have q:(a.at' o.at'.toNat).run=some s:=q;rw[ht]at q;cases q
 split
 · exact none'.put hi2 λs q=>by cases q
 split
 · refine none'.put hi2 λs q=>?_
   unfold gW at q;split at q
   · exact none'.ok _ s q
   · obtain⟨_,hr⟩:=km q
     exact RepOk.fresh (tr _ (DE _ _) hr)
 · exact none'
theorem DZ{i:Nat}{x:Slot}{s:MS LD}(h:(gW i x).1.run=some s):x.run=some s∨(cJ i x.D).1=some s:=by
 unfold gW at h;split at h
 · exact .inl h
 · exact .inr h
theorem Er:RepsOk 0 CL.new:=⟨λi s q=>by
 by_cases hi:i<5
 · have e:CL.new.at' i=mu i:=by simp[CL.new,CL.at',List.getD_eq_getElem?_getD,hi]
   rw[e]at q;unfold mu at q;rcases DZ q with q|q
   · cases q
   obtain⟨_,hr⟩:=km q;exact RepOk.fresh (tr _ (DE _ _) hr)
 · have e:CL.new.at' i= .nil:=by
    unfold CL.at' CL.new;rw[List.getD_eq_getElem?_getD,List.getElem?_eq_none (by rw[bM,jo];omega),Option.getD_none]
   rw[e]at q;cases q⟩
theorem GK(a:CL)(l:List OpT)(o:OpT):lD a (l++[o])=(zu (lD a l) o).1:=by simp[lD]
theorem y8(a:CL)(l:List OpT){k:Nat}(hk:k<l.length):lD a (l.take (k+1))=(zu (lD a (l.take k)) (l[k])).1:=by
 rw[bH hk,GK]
def qk:CL→List OpT→Nat
 |_,[]=>0
 |a,o::l=>(if(zu a o).2=0 then 1 else 0)+qk (zu a o).1 l
theorem xG: ∀(l:List OpT) (a:CL) (o:OpT),qk a (l++[o])=qk a l+(if(zu (lD a l) o).2=0 then 1 else 0)
 | [],a,o=>by
  show(if(zu a o).2=0 then 1 else 0)+0=0+_;rw[yN,bg];rfl
 |x::l,a,o=>by
  rw[iq,qk,qk,xG l];show _=_+_+_;rw[vB];rfl
theorem xF(a:CL)(l:List OpT){k:Nat}(hk:k<l.length):qk a (l.take (k+1))=qk a (l.take k)+(if(zu (lD a (l.take k)) (l[k])).2=0 then 1 else 0):=by
 rw[bH hk,xG]
theorem C0: ∀(l:List OpT) (a:CL),qk a l≤l.length
 | [],_=>aK _
 |o::l,a=>by
  rw[qk,an];have:=C0 l (zu a o).1;split<;>omega
def Sml(n:Int):Prop:=0≤n∧n≤20
theorem Sml.inr{n:Int}(h:Sml n):rf n:=⟨by have:=h.1;omega,by have:=h.2;omega⟩
abbrev Qg:= @Sml.inr
theorem pa{k:Int}(h:decide (0≤k∧k≤20)=true):Sml k:=by
 have:0≤k∧k≤20:=of_decide_eq_true h;exact this
theorem It(v:ViewT)(c:ChangeT):Sml (dL v c).2:=by
 unfold dL
 repeat' split
 all_goals exact pa rfl
theorem Gx(D:DS)(at':Int)(bs:List UInt8):Sml (D.write at' bs).1:=by
 unfold DS.write
 repeat' split
 all_goals exact pa rfl
theorem wq: ∀(ss:List jL) (at':Int) (D:DS),Sml (gn ss at' D).1
 | [],_,_=>pa rfl
 |s::ss,at',D=>by
  rw[gn];split
  · exact wq ss _ _
  · exact Gx _ _ _
theorem Fy(e:LD)(bs:List UInt8):Sml (e.put bs).2:=by
 unfold LD.put n0 DS.sync;simp only
 repeat' split
 all_goals first|exact pa rfl|exact wq _ _ _
theorem Iu(x:RowT)(key n k:Int)(c:CellT):Sml (kS x key n k c).2:=by
 unfold kS;split<;>exact pa rfl
theorem Iv(x:RepT)(o:OpT):Sml (gx x o).2:=by
 unfold gx oM oN lp
 repeat' split
 all_goals first|exact pa rfl|exact Iu _ _ _ _ _
theorem Is(x:RepT)(o:OpT):Sml (iI x o).2.2:=by
 unfold iI
 repeat' split
 all_goals first|exact pa rfl|exact Iv _ _
theorem Jn(b:BookT)(key:Int):rf (gA b key):=by
 unfold gA;rw[show qE b key 5=_ from oF b key 4];exact kE _
theorem Jm(x:RepT)(o:OpT):rf (iI x o).2.1:=by
 unfold iI
 repeat' split
 all_goals first|exact Qg (pa rfl)|exact Jn _ _
structure RW(r:ReplyT):Prop where
 op:rf r.op
 err:rf r.err
 value:rf r.value
theorem RW.wf{r:ReplyT}(h:RW r):WF r.flat:=λn hn=>by
 simp only[ReplyT.flat,bN,List.not_mem_nil,or_false]at hn;rcases hn with rfl|rfl|rfl
 · exact nl h.op
 · exact nl h.err
 · exact nl h.value
theorem HK(s:MS LD)(o:OpT): ∀r∈(bV KD s o).1.replies,r∈s.replies∨RW r:=by
 have rep: ∀(t u:MS LD) (op e v:Int),t.replies=s.replies→rf op→rf e→rf v→u.replies=(dv t op e v).replies→∀r∈u.replies,r∈s.replies∨RW r:=λt u op e v ht h1 h2 h3 hu r hr=>by
  rw[hu]at hr;have hr:r∈t.replies++[⟨op,e,v⟩]:=hr;rcases cG.1 hr with hr|hr
  · rw[ht]at hr;exact .inl hr
  · rw[dm]at hr;subst hr;exact .inr ⟨h1,h2,h3⟩
 have z:rf 0:=Qg (pa rfl);have ho:rf (bC s).ops:=kE _
 have hb:Sml (co KD (bC s) o.change).2:=by
  unfold co
  repeat' split
  all_goals first|exact pa rfl|exact Fy _ _
 unfold bV;split
 · unfold dV
   split
   · refine rep (bC s) _ _ _ 0 rfl ho (Qg ?_) z rfl
     unfold fE;split
     · exact pa rfl
     · exact It _ _
   · have q:Qt (bC s) (co KD (bC s) o.change).1:=inferInstance
     split
     · exact rep (co KD (bC s) o.change).1 _ _ _ 0 q.replies ho hb.inr z rfl
     · have q2:Qt (dv (co KD (bC s) o.change).1 (bC s).ops 0 0) (n4 KD (dv (co KD (bC s) o.change).1 (bC s).ops 0 0) (ju (bC s).view (eD (bC s)) o.change)):=inferInstance
       exact rep (co KD (bC s) o.change).1 _ _ 0 0 q.replies ho z z q2.replies
 · unfold nN
   split
   · exact rep (bC s) _ _ _ _ rfl ho (Is _ _).inr (Jm _ _) rfl
   · have hg:Sml (eQ KD (bC s) (db (bC s) o).1 (bC s).ops).2:=by
      unfold eQ;split
      · exact Fy _ _
      · exact pa rfl
     rcases F0 (K:=KD) (bC s) (db (bC s) o).1 (bC s).ops with⟨h,q⟩| ⟨h,q,_⟩
     · rw[if_pos h]
       exact rep (eQ KD (bC s) (db (bC s) o).1 (bC s).ops).1 _ _ _ 0 q.replies ho hg.inr z rfl
     · rw[if_neg (by omega)]
       intro r hr;rw[q.replies,aP]at hr;exact .inl hr
def Ml(a:CL):Prop:=∀i,∀r∈(a.at' i).reps,RW r
theorem KL:Ml CL.new:=λi r hr=>by
 by_cases hi:i<5
 · have e:CL.new.at' i=mu i:=by simp[CL.new,CL.at',List.getD_eq_getElem?_getD,hi]
   rw[e]at hr;unfold mu gW at hr;have hr:r∈(Slot.mk (cJ i Slot.nil.D).1 (bQ Slot.nil.D).D []).reps:=hr;cases hs:(cJ i Slot.nil.D).1 with
   |none=>rw[hs]at hr;unfold Slot.reps at hr;simp at hr
   |some s=>
    rw[hs]at hr;obtain⟨_,hr'⟩:=km hs;have f:=tr _ (DE _ _) hr';unfold Slot.reps at hr;simp[f.replies]at hr
 · have e:CL.new.at' i= .nil:=by
    unfold CL.at' CL.new;rw[List.getD_eq_getElem?_getD,List.getElem?_eq_none (by rw[bM,jo];omega),Option.getD_none]
   rw[e]at hr;unfold Slot.reps Slot.nil at hr;simp at hr
theorem M0{n m:Nat}{a:CL}(h:CLOk n a)(g:RepsOk m a)(hm:m≤1000000)(hw:Ml a)(o:OpT):Ml (zu a o).1:=by
 have did: ∀{i:Nat} {s t:MS LD} {W:List (List MsgT)},i<5→(a.at' i).run=some s→(∀r∈t.replies,r∈s.replies∨RW r)→Ml ⟨a.ms.set i {a.at' i with run:=some t.hush},W⟩:=λ {i s t W} hi hs ht j r hr=>by
  rw[CL.set_at (by rw[h.ms];exact hi)]at hr;split at hr
  · rw[p5 (x:= {a.at' i with run:=some t.hush}) rfl]at hr
    have hsl: ∀r∈(a.at' i).past++s.replies,RW r:=λr hr=>hw i r (by rw[p5 hs];exact hr)
    rcases cG.1 hr with hr|hr
    · exact hsl r (List.mem_append_left _ hr)
    · rcases ht r hr with hr|hr
      · exact hsl r (Qq _ hr)
      · exact hr
  · exact hw j r hr
 have put: ∀{i:Nat} {x:Slot},i<5→x.reps=(a.at' i).reps→Ml (a.set i x):=λ {i x} hi hx j r hr=>by
  have hr:r∈((CL.mk (a.ms.set i x) a.W).at' j).reps:=hr;rw[CL.set_at (by rw[h.ms];exact hi)]at hr;split at hr
  · rw[hx]at hr;exact hw i r hr
  · exact hw j r hr
 unfold zu
 by_cases hm':gM o.at'=false
 · rw[if_pos hm'];exact hw
 rw[if_neg hm'];obtain⟨hi,_⟩:=lL (show gM o.at'=true by simpa using hm');split
 · unfold C9
   split
   · exact hw
   · rename_i s hs
     split
     · exact hw
     · exact did hi hs (HK s o)
 split
 · unfold oC
   split
   · exact hw
   split
   · exact hw
   split
   · split
     · exact hw
     · exact hw
   split
   · exact hw
   split
   · exact hw
   · rename_i m' l _ _
     unfold tf;split
     · exact hw
     · rename_i s hs
       split
       · exact hw
       · split
         · have hs':(a.at' o.to'.toNat).run=some s:=hs
           by_cases ht:o.to'.toNat<5
           · refine did (W:=gD (a.W.set (bA o.at' o.to') l) o.to'.toNat _) ht hs' λr hr=>?_
             rcases Aa (K:=KD) s ((o.at'.toNat:Nat):Int) (iP (dQ m')).1 with q| ⟨hw',q,_,_⟩
             · rw[q.replies]at hr;exact .inl hr
             · rw[q.replies]at hr
               rcases cG.1 hr with hr|hr
               · exact .inl hr
               · rw[dm]at hr;subst hr
                 have h1:=(g.ok _ s hs').w hw';have h2:=(g.ok _ s hs').ops;exact .inr ⟨⟨by show-9223372036854775808≤s.waits;omega,by show s.waits<9223372036854775808;omega⟩,Qg ⟨Int.le_refl _,by show(0:Int)≤20;omega⟩,Qg ⟨Int.le_refl _,by show(0:Int)≤20;omega⟩⟩
           · intro j r hr
             unfold CL.did at hr;rw[show((a.way (bA o.at' o.to') l).ms.set o.to'.toNat _)=a.ms from nc (by show a.ms.length≤_;rw[h.ms];omega)]at hr;exact hw j r hr
         · exact hw
 split
 · unfold Bv
   split
   · exact hw
   · rename_i s hs
     split
     · exact hw
     · refine did (W:=gD a.W o.at'.toNat _) hi hs λr hr=>?_
       have q:Qt s (iu KD s):=inferInstance;rw[q.replies]at hr;exact .inl hr
 split
 · refine put hi ?_
   unfold vn;split
   · rename_i s hs
     rw[p5 hs,p5 (x:= {a.at' o.at'.toNat with run:=some (s.dsk (s.e.D.arm o.n))}) rfl];rfl
   · rename_i hs
     rw[nX hs];exact nX hs
 split
 · exact put hi (nX rfl)
 split
 · refine put hi ?_
   unfold gW;split
   · rfl
   · rename_i hs
     rw[nX hs];cases hd:(cJ o.at'.toNat (a.at' o.at'.toNat).D).1 with
     |none=>exact nX rfl
     |some s=>
      obtain⟨_,hr⟩:=km hd;have f:=tr _ (DE _ _) hr;show(Slot.mk (some s) _ (a.at' o.at'.toNat).past).reps=_;rw[p5 (x:=Slot.mk (some s) _ (a.at' o.at'.toNat).past) rfl,f.replies,aP]
 · exact hw
theorem FC: ∀(l:List OpT) {n m:Nat} {a:CL},CLOk n a→RepsOk m a→Ml a→(∀o∈l,OkOp o)→m+l.length≤1000000→Ml (lD a l)
 | [],_,_,_,_,_,hw,_,_=>hw
 |o::l,n,m,a,h,g,hw,ho,hl=>by
  rw[an]at hl;exact FC l (Mf h (ho o (ez ..))) (HH h g (by omega) o) (M0 h g (by omega) hw o) (λx hx=>ho x (gJ _ hx)) (by omega)
end Api
end

section
namespace Go.Proofs.YtfocodjhmkokpaaGreatDoor
open Go Leg Codec Api Dsk Wal
def mW:List UInt8:=[109,97,99,104,105,110,101,32]
def rW:List UInt8:=[114,101,112,108,121]
def cW:List UInt8:=[99,111,117,110,116,101,114]
def ET(i:Nat):List UInt8:=oe (mW++Lib.itoa ((i:Nat):Int)++[32,100,111,119,110]) []
def DL(s:MS LD):List Int:=s.view.epoch::s.own.version::pq s.view.members
def vd(i:Nat)(s:MS LD):List UInt8:=oe (mW++Lib.itoa ((i:Nat):Int)++[32,117,112]) (DL s)
def CC(a:CL)(i:Nat):List UInt8:=match(a.at' i).run with
 |some s=>if(a.at' i).up then vd i s else ET i
 |none=>ET i
def Kt(r:ReplyT):List UInt8:=oe rW [r.op,r.err,r.value]
def fU(l:List ReplyT):List UInt8:=l.flatMap Kt
def mj(a:CL)(i:Nat):List UInt8:=CC a i++fU (a.at' i).reps
def jI(a:CL)(i:Nat):List UInt8:=(List.range i).flatMap (mj a)
def yv(a:CL)(k:Nat):List Int:=((k:Nat):Int)::gA (bh a) ((k:Nat):Int)::qG (bh a) ((k:Nat):Int) (fI a) 5
def E9(a:CL)(k:Nat):List UInt8:=oe cW (yv a k)
def pi(a:CL)(k:Nat):List UInt8:=(List.range k).flatMap (E9 a)
def mg(a:CL):List UInt8:=jI a 5++pi a 4
theorem wR{α:Type}(f:Nat→List α)(k:Nat):(List.range (k+1)).flatMap f=(List.range k).flatMap f++f k:=by rw[cV,re];simp
theorem uN(a:CL)(i:Nat):jI a (i+1)=jI a i++mj a i:=wR ..
theorem rR(a:CL)(k:Nat):pi a (k+1)=pi a k++E9 a k:=wR ..
theorem rE(l:List ReplyT){k:Nat}(h:k<l.length):fU (l.take (k+1))=fU (l.take k)++Kt l[k]:=by
 unfold fU;rw[bH h,re];simp
theorem AN{n:Int}(h:rf n):yQ n:=⟨h.1,by have:=h.2;omega⟩
theorem kf{n:Int}(h:0≤n∧n≤1000):yQ n:=⟨by omega,by omega⟩
theorem EI(n:Int):yQ (fO n):=AN (kE n)
theorem zG:All64 []:=λ_ h=>by cases h
theorem o8{n:Int}{l:List Int}(h:yQ n)(g:All64 l):All64 (n::l):=λm hm=>by
 rcases bN.1 hm with rfl|hm
 · exact h
 · exact g m hm
theorem FZ{l:List Int}(h:WF l){n:Int}(hn:n∈l):yQ n:=AN (yS (h n hn))
theorem qP{r:ReplyT}(h:RW r):All64 [r.op,r.err,r.value]:=λn hn=>FZ (l:=r.flat) h.wf (by simpa [ReplyT.flat]using hn)
theorem D4{b n:Int}(h:n∈pq b):0≤n∧n<5:=by
 unfold pq ko at h;obtain⟨i,hi,rfl⟩:=eS.1 h;have:=dX.1 (Nc.1 hi).1;omega
theorem ww(b:Int):(pq b).length≤5:=by
 unfold pq ko;rw[bM];exact ou (po ..) (by simp)
theorem xT{s:MS LD}[h:OkR KD s]:All64 (DL s):=o8 (FZ h.view.wf (by simp[ViewT.flat])) (o8 (AN h.own.version) λn hn=>by have:=D4 hn;exact kf (by omega))
theorem EJ(b:BookT)(key:Int):yQ (gA b key):=by
 unfold gA;rw[oF];exact EI _
theorem zF{l:List Int}(h:All64 l)(i:Nat){n:Int}(hn:yQ n):All64 (l.set i n):=λm hm=>by
 rcases List.mem_or_eq_of_mem_set hm with hm|rfl
 · exact h m hm
 · exact hn
theorem zE{B:BookT}{key:Int}{i ow:Nat}{S:List Int}(h:All64 S): ∀j,All64 (Kn B key i ow S j)
 |0=>h
 |j+1=>zF (zE h j) _ (EI _)
theorem uo(B:BookT)(key:Int)(v:ViewT): ∀i,All64 (qG B key v i)
 |0=>λn hn=>by obtain rfl:=List.eq_of_mem_replicate hn;exact kf (by omega)
 |i+1=>by
  rw[qG];split
  · exact zE (zF (uo B key v i) _ (EI _)) 5
  · exact uo B key v i
theorem zH(a:CL){k:Nat}(hk:k<4):All64 (yv a k):=o8 (kf (by omega)) (o8 (EJ ..) (uo (bh a) ((k:Nat):Int) (fI a) 5))
theorem xK(a:CL)(k:Nat):(yv a k).length=7:=by simp[yv,iH]
theorem zW(s:MS LD):(DL s).length≤7:=by have:=ww s.view.members;simp only[DL,an];omega
theorem IE{r:ReplyT}(h:RW r):(Kt r).length≤72:=qK (qP h)
theorem nY: ∀{l:List ReplyT},(∀r∈l,RW r)→(fU l).length≤72*l.length
 | [],_=>aK _
 |r::l,h=>by
  have h1:=IE (h r (ez ..));have h2:=nY (l:=l) λx hx=>h x (gJ _ hx)
  show(Kt r++fU l).length≤_;simp only[af,an];omega
theorem AR{i:Nat}(h:i<5):(ET i).length≤200:=by
 have h1:=qK (ws:=mW++Lib.itoa ((i:Nat):Int)++[32,100,111,119,110]) zG;have h2:=vI (kf (n:=((i:Nat):Int)) (by omega));unfold ET;simp only[af,an,aw,mW]at h1 ⊢;omega
theorem zV{i:Nat}(h:i<5){s:MS LD}[OkR KD s]:(vd i s).length≤200:=by
 have h1:=qK (ws:=mW++Lib.itoa ((i:Nat):Int)++[32,117,112]) (xT (s:=s));have h2:=vI (kf (n:=((i:Nat):Int)) (by omega));have h3:=zW s;unfold vd;simp only[af,an,aw,mW]at h1 ⊢;omega
structure TOk(n:Nat)(a:CL):Prop where
 ok:CLOk n a
 rws:Ml a
theorem TOk.run{n:Nat}{a:CL}(h:TOk n a){i:Nat}(hi:i<5){s:MS LD}(hs:(a.at' i).run=some s):OkR KD s:=((h.ok.at' i hi).run s hs).1
theorem TOk.reps{n:Nat}{a:CL}(h:TOk n a){i:Nat}(hi:i<5):(a.at' i).reps.length≤n:=by have:=(h.ok.at' i hi).reps;omega
theorem HA{n:Nat}{a:CL}(h:TOk n a){i:Nat}(hi:i<5):(CC a i).length≤200:=by
 unfold CC;split
 · rename_i s hs
   have:=h.run hi hs;split
   · exact zV hi
   · exact AR hi
 · exact AR hi
theorem Hi{n:Nat}{a:CL}(h:TOk n a){i:Nat}(hi:i<5):(mj a i).length≤200+72*n:=by
 have h1:=HA h hi;have h2:=nY (l:=(a.at' i).reps) (h.rws i);have h3:=h.reps hi;unfold mj;rw[af];omega
theorem rJ{n:Nat}{a:CL}(h:TOk n a): ∀{i:Nat},i≤5→(jI a i).length≤i* (200+72*n)
 |0,_=>aN _
 |i+1,hi=>by
  have h1:=rJ h (i:=i) (by omega);have h2:=Hi h (i:=i) (by omega);rw[uN,af,Qk];omega
theorem JD(a:CL){k:Nat}(hk:k<4):(E9 a k).length≤162:=by
 have h1:=qK (ws:=cW) (zH a hk);rw[xK]at h1;exact h1
theorem ui(a:CL): ∀{k:Nat},k≤4→(pi a k).length≤k*162
 |0,_=>aN _
 |k+1,hk=>by
  have h1:=ui a (k:=k) (by omega);have h2:=JD a (k:=k) (by omega);rw[rR,af,Qk];omega
theorem wV(c:Nat)(w:Int):
 DT 30 #[(.pointer (some ⟨c,0,none⟩)),(.int .i64 (w))] T0 [] (RI (.bool (gM w)) []):=by
 refine BD 15 Tryz.func30 rfl rfl rfl λw0 F hF=>sr λ_ J1=>PS ?_
 refine nx J1 (sr λ_ J2=>PS ?_);refine tp (jm rfl M9 rfl rfl) ?_;refine P3 ?_;refine ao ?_ ?_<;>intro h9
 iterate 6 refine PS ?_
 refine nx J2 (ai (WK [] (av rfl rfl ?_)));exact⟨congrArg Value.bool (by unfold gM;simp only[decide_eq_decide];omega),rfl⟩;refine P2 ?_;refine UF ?_;refine UF ?_;refine P2 ?_;refine nx J2 (ai (WK [] (av rfl rfl ?_)));exact⟨congrArg Value.bool (by unfold gM;symm;exact decide_eq_false (by omega)),rfl⟩
theorem dS(c i:Nat)(hi:i<5):DT 30 #[.pointer (some ⟨c,0,none⟩), .int .i64 ((i:Nat):Int)] T0 [] (RI (.bool true) []):=by
 have:=wV c ((i:Nat):Int)
 rwa [show gM ((i:Nat):Int)=true from decide_eq_true ⟨by omega,by omega⟩]at this
theorem sz(c n i:Nat)(D M P:Nat→Value)(hi:i<5)(hM:M i= .pointer none):
 DT 29 #[(.pointer (some ⟨c,0,none⟩)),(.int .i64 (((i:Nat):Int)))] T0 [ah c (eL n D M P) 73] (RI (.bool false) [ah c (eL n D M P) 73]):=by
 refine BD 27 Tryz.func29 rfl rfl rfl λw0 F hF=>sr λ_ J1=>PS ?_
 refine nx J1 (sr λ_ J2=>P2 ?_);refine CE qa (dS c i hi) ID ?_;refine P4 ?_;refine FA 6 pI pp ?_;refine IX (6+i) vq kc ?_;refine LT 0 ut (.pointer none) ?_ (hc:=by exact(xL n D M P hi).trans (congrArg some hM));refine tq (iU rfl ut rfl rfl) ?_;refine P2 ?_
 iterate 8 refine UF ?_
 refine P2 ?_;exact nx J2 (ai (WK [0] (av rfl rfl ⟨rfl,rfl⟩)))
theorem Nw (c i : Nat) : xZ Tryz.prog 113 (Nv c i) "Send" 215 := fun w => by kernel_rfl
theorem sy(c n i:Nat)(D M P:Nat→Value)(hi:i<5)(d r:Nat)(e:DS)(hD:D i= .pointer (some ⟨d,0,none⟩))(hM:M i= .pointer (some ⟨r,0,none⟩)):
 DT 29 #[(.pointer (some ⟨c,0,none⟩)),(.int .i64 (((i:Nat):Int)))] T0 [ah c (eL n D M P) 73,dk d e] (RI (.bool (!e.dn)) [ah c (eL n D M P) 73,dk d e]):=by
 refine BD 27 Tryz.func29 rfl rfl rfl λw0 F hF=>sr λ_ J1=>PS ?_
 refine nx J1 (sr λ_ J2=>P2 ?_);refine CE qa (dS c i hi) ID ?_;refine P4 ?_;refine FA 6 pI pp ?_;refine IX (6+i) vq kc ?_;refine LT 0 ut (.pointer (some ⟨r,0,none⟩)) ?_ (hc:=by exact(xL n D M P hi).trans (congrArg some hM));refine tq (jm rfl ut rfl rfl) ?_
 iterate 5 refine PS ?_
 refine FA 1 pI Ac ?_;refine IX (1+i) Lj ve ?_;refine LT 0 HT (.pointer (some ⟨d,0,none⟩)) ?_ (hc:=by exact(Dc n D M P hi).trans (congrArg some hD));refine CE NG (F2 d e) (SM [1]) ?_;refine tq (mB rfl rfl rfl) ?_;refine P2 ?_;exact nx J2 (ai (WK [1,0] (av rfl rfl ⟨rfl,rfl⟩)))
theorem D6(c n i:Nat)(D M P:Nat→Value)(hi:i<5)(d:Nat)(e:DS)(hD:D i= .pointer (some ⟨d,0,none⟩))(W:List (List MsgT))(hW:W.length=25)(to':Int)(m:MsgT):
 DT 215 #[(.agg #[(.pointer (some ⟨c,0,none⟩)),(.int .i64 (((i:Nat):Int)))]),(.int .i64 (to')),(.agg (ints m.flat).toArray)] T0 [ah c (eL n D M P) 73,dk d e,eG 135 184 5 n (cY W)] (dh (λ_ H=>H=[ah c (eL n D M P) 73,dk d e,eG 135 184 5 n (cY (if e.dn then W else sM W i ⟨to',m⟩))])):=by
 refine BD 27 Tryz.func215 rfl rfl rfl λw0 F hF=>sr λ_ J1=>XB λb3=>?_
 refine XY (ints m.flat) λb5=>?_
 refine nx J1 (ab λ_ J2=>D2 1 2 df ?_);refine FD 0 0 Fp Gt ?_;refine LX 1 M9 (.pointer (some ⟨c,0,none⟩)) ?_ (hc:=by exact rfl);refine FD 2 1 Fp aR ?_;refine LX 3 Y3 (.int .i64 (((i:Nat):Int))) ?_ (hc:=by exact rfl);refine PD 4 ?_;refine FD 5 1 pI Ac ?_;refine IY 6 (1+i) Lj ve ?_;refine LX 7 HT (.pointer (some ⟨d,0,none⟩)) ?_ (hc:=by exact(Dc n D M P hi).trans (congrArg some hD));refine AL 8 ?_;refine CE NG (F2 d e) (SM [3]) ?_;refine bc ?_ ?_<;>intro h14;refine EN (PD 9 ?_);refine DN (ac J2 (CN (aT (WK [3,0,2] (bp rfl ?_)))));exact by rw[show e.dn=true by assumption];rfl
 refine EN (PD 9 ?_);refine DN (ac J2 (CY (ot (λw=>Frm F w∧w.heap[b3]?=some (.cells ([(.pointer (some ⟨c,0,none⟩)),(.int .i64 (((i:Nat):Int)))]).toArray 113 (0,0))∧w.heap[c]?=some (.cells (eL n D M P).toArray 73 (0,0))∧w.heap[b5]?=some (.cells (ints m.flat).toArray 163 (0,0))∧True) df rfl (λ_ s=>⟨ec s,s.block 2 (lb rfl) rfl,s.block 3 (lb rfl) rfl,s.block 1 (lb rfl) rfl,trivial⟩) (FD 0 0 Fp Gt ?_))));refine LX 1 M9 (.pointer (some ⟨c,0,none⟩)) ?_ (hc:=by exact rfl);refine PD 2 ?_;refine FD 3 0 pI Bx ?_;refine LX 4 Kb (.pointer (some ⟨n,0,none⟩)) ?_ (hc:=by exact Db n D M P);refine FD 5 1 Fp aR ?_;refine LX 6 Y3 (.int .i64 (((i:Nat):Int))) ?_ (hc:=by exact rfl);refine PD 7 ?_;refine LY 8 bd cd aG ?_;refine AL 9 ?_;refine CR NO (CK m) ID λvR HR hR=>?_
 obtain⟨_,rfl,rfl⟩:=hR;revert vR;intro ue;refine EN (AL 10 ?_);refine CQ NP (yq n (cY W) ((i:Nat):Int) to' ue (dQ m) (s9 m) (pO W)) (SM [5]) (λg d s=>Gc (vJ 0 rfl rfl g d s)) λvR HR hR=>?_
 obtain⟨_,rfl⟩:=hR;rw[Ia hW ⟨to',m⟩];refine EN (DN (WK [5,2,0] (bp rfl ?_)));exact by rw[show e.dn=false by assumption];rfl
def G5(c n d i:Nat)(D M P:Nat→Value)(W:List (List MsgT))(e:LD)(l:List SaidT):HP:=bD [ah c (eL n D M P) 73,dk d e.D,eG 135 184 5 n (cY (gD W i l))]
section
variable {c n d i:Nat} {D M P:Nat→Value} {W:List (List MsgT)} {e:LD} {l:List SaidT} {H:List HP} {h:Hl}
theorem tS(s:bD (G5 c n d i D M P W e l::H) h):bD (ah c (eL n D M P) 73::dk d e.D::eG 135 184 5 n (cY (gD W i l))::H) h:=(bZ [_,_,_] H).2 s
theorem tR(s:bD (ah c (eL n D M P) 73::dk d e.D::eG 135 184 5 n (cY (gD W i l))::H) h):bD (G5 c n d i D M P W e l::H) h:=(bZ [_,_,_] H).1 s
end
def xA(c n d i:Nat)(D M P:Nat→Value)(hi:i<5)(hD:D i= .pointer (some ⟨d,0,none⟩))(W:List (List MsgT))(hW:W.length=25):Env LD where
 toDk:=KD
 T:=113
 ov:=Nv c i
 sf:=215
 E:=G5 c n d i D M P W
 lg g e:=FW g d ((e.cnt:Nat):Int) e.used
 me:=Nw c i
 nm:=NQ
 say e l to' m _:=by
  refine Leg.Does.conv (D6 c n i D M P hi d e.D hD (gD W i l) (by rw[GA];exact hW) to' m) (λh s=>tS s) λx H F w hp hs=>?_
  cases x with
  |returned v=>
   obtain rfl:=hp;refine⟨_,hs.mono (λh s=>tR (l:=if KD.dn e then l else l++[SaidT.mk to' m]) ?_),rfl⟩
   have q:gD W i (if KD.dn e then l else l++[SaidT.mk to' m])=if e.D.dn then gD W i l else sM (gD W i l) i ⟨to',m⟩:=by
    show gD W i (if e.D.dn then l else _)=_;split
    · rfl
    · exact GB ..
   rw[q];exact s
  |panicked c=>exact hp.elim
  |outgrown=>exact hp.elim
 put g x bs e l hok hlen:=by
  refine Leg.Does.withinR (A:=[FW g d ((e.cnt:Nat):Int) e.used,dk d e.D]) (B:=[ah c (eL n D M P) 73,eG 135 184 5 n (cY (gD W i l))]) (Bs g d e.cnt e.used x bs e.D hok.dk.ok (by have:=hok.dk.ws;omega) hok.used (by have:=hok.cnt;have:=hok.used;omega)) (λF g h dj=>OR h dj) (λh s=>?_) λv H hp=>?_
  · exact aB [3,1,0,0] rfl (tS (aB [1,0] rfl s))
  · obtain⟨hv,rfl⟩:=hp
    exact⟨[FW g d (((e.put bs).1.cnt:Nat):Int) (e.put bs).1.used,G5 c n d i D M P W (e.put bs).1 l],λh s=>aB [1,0] rfl (tR (e:=(e.put bs).1) (l:=l) (aB [2,1,1,0] rfl s)),hv,rfl⟩
abbrev kR(v:Value)(l:List ReplyT):HP:=own v l.length (ints (List.flatMap ReplyT.flat l)) 47 3
abbrev GJ(s:MS LD)(d r:Nat)(a:Adr):List HP:=[ah r (RepT.cells (s.rep a)) 87,FW a.lg d ((s.e.cnt:Nat):Int) s.e.used,kR a.rs s.replies,Fs a.vo s.vote]
abbrev eW(s:MS LD)(d r:Nat):HP:=pack (GJ s d r)
def p3(x:Slot)(d r:Nat):HP:=match x.run with
 |some s=>eW s d r
 |none=>λ_=>True
abbrev kn(x:Slot)(d r:Nat)(p:Value):List HP:=[dk d x.dk,kR p x.past,p3 x d r]
def lA(x:Slot)(d r:Nat)(p:Value):HP:=bD (kn x d r p)
structure CX where
 n:Nat
 d:Nat→Nat
 r:Nat→Nat
 p:Nat→Value
abbrev mx(g:CX):Nat→Value:=λi=> .pointer (some ⟨g.d i,0,none⟩)
def yp(x:Slot)(r:Nat):Value:=match x.run with
 |some _=> .pointer (some ⟨r,0,none⟩)
 |none=> .pointer none
abbrev jT(a:CL)(r:Nat→Nat):Nat→Value:=λi=>yp (a.at' i) (r i)
abbrev ra(c:Nat)(a:CL)(g:CX):List HP:=[ah c (eL g.n (mx g) (jT a g.r) g.p) 73,eG 135 184 5 g.n (cY a.W),bD ((List.range 5).map λi=>lA (a.at' i) (g.d i) (g.r i) (g.p i))]
def gF(c:Nat)(a:CL):HP:=pack (ra c a)
section
variable {c n d i r:Nat} {D M P:Nat→Value} {W:List (List MsgT)} {s:MS LD} {H:List HP} {h:Hl} {hi:i<5} {hD:D i= .pointer (some ⟨d,0,none⟩)} {hW:W.length=25}
theorem Et(ho:s.o=[])(q:bD (ah c (eL n D M P) 73::dk d s.e.D::eG 135 184 5 n (cY W)::eW s d r::H) h):bD (cF (xA c n d i D M P hi hD W hW) r s::H) h:=by
 obtain⟨a,q⟩:=fq (aB [3,0,0,0] rfl q);have q2:=aB [4,4,4,0,0,0,0] rfl q;have q3:=tR (i:=i) (W:=W) (e:=s.e) (l:=[]) q2;refine bn (p:=λa:Adr=>[ah r (RepT.cells (s.rep a)) 87,FW a.lg d ((s.e.cnt:Nat):Int) s.e.used,kR a.rs s.replies,Fs a.vo s.vote,G5 c n d i D M P W s.e s.o]) a ?_;rw[ho];exact aB [1,1,1,1,0] rfl q3
theorem AF(q:bD (cF (xA c n d i D M P hi hD W hW) r s::H) h):bD (ah c (eL n D M P) 73::dk d s.e.D::eG 135 184 5 n (cY (gD W i s.o))::eW s.hush d r::H) h:=by
 obtain⟨a,q⟩:=fq q;have q1:bD ([ah r (RepT.cells (s.rep a)) 87,FW a.lg d ((s.e.cnt:Nat):Int) s.e.used,kR a.rs s.replies,Fs a.vo s.vote,G5 c n d i D M P W s.e s.o]++H) h:=q;have q2:=tS (aB [4,0,0,0,0] rfl q1);have q3:=bn (p:=GJ s.hush d r) a (aB [3,3,3,3,0,0,0] rfl q2);exact aB [1,1,1,0] rfl q3
end
theorem E3(c n i:Nat)(D M P:Nat→Value)(hi:i<5)(d r:Nat)(s:MS LD)(hD:D i= .pointer (some ⟨d,0,none⟩))(hM:M i= .pointer (some ⟨r,0,none⟩))(W:List (List MsgT))(hW:W.length=25)(ho:s.o=[])(hs:OkR KD s)(o:OpT)(k:Int)(hk:0≤k∧k≤4)(hch:OkCh o.change)(hrs:s.replies.length≤1000000):
 DT 25 #[(.pointer (some ⟨c,0,none⟩)),(.agg (ints (OpT.mk k ((i:Nat):Int) o.to' o.key o.n o.change o.mask o.torn o.cut).flat).toArray)] T0 [ah c (eL n D M P) 73,dk d s.e.D,eG 135 184 5 n (cY W),eW s d r] (dh (λv H=>(s.e.D.dn=true∧v= .int .i64 4∧H=[ah c (eL n D M P) 73,dk d s.e.D,eG 135 184 5 n (cY (W)),eW s d r])∨(s.e.D.dn=false∧v= .int .i64 (bV KD s ((OpT.mk k ((i:Nat):Int) o.to' o.key o.n o.change o.mask o.torn o.cut))).2∧H=[ah c (eL n D M P) 73,dk d (bV KD s ((OpT.mk k ((i:Nat):Int) o.to' o.key o.n o.change o.mask o.torn o.cut))).1.hush.e.D,eG 135 184 5 n (cY (gD W i (bV KD s ((OpT.mk k ((i:Nat):Int) o.to' o.key o.n o.change o.mask o.torn o.cut))).1.o)),eW (bV KD s ((OpT.mk k ((i:Nat):Int) o.to' o.key o.n o.change o.mask o.torn o.cut))).1.hush d r]))):=by
 refine BD 114 Tryz.func25 rfl rfl rfl λw0 F hF=>sr λ_ J1=>XY (ints (OpT.mk k ((i:Nat):Int) o.to' o.key o.n o.change o.mask o.torn o.cut).flat) λb3=>?_
 refine PS ?_;refine nx J1 (ab λ_ J2=>sr λ_ J3=>PS ?_);refine FA 1 fk aR ?_;refine LT 0 Y3 (.int .i64 (((i:Nat):Int))) ?_ (hc:=by exact bO _ rfl);refine CE qa (dS c i hi) ID ?_;refine PS ?_;refine nx J3 (CN (qx J2 (ab λ_ J4=>sr λ_ J5=>FA 0 fk aR ?_)));refine LT 0 Y3 (.int .i64 (k)) ?_ (hc:=by exact cI _ rfl);refine nx J5 (au (ab λ_ J6=>e4 (α:=Unit) (λ_u=>True) (λ_u=>[(0,(.pointer (some ⟨c,0,none⟩))),(3,(.pointer (some ⟨b3,0,none⟩))),(4,(.int .i64 0)),(11,(.int .i64 (k))),(12,(.bool true))]) (λ_u=>[ah b3 (ints (OpT.mk k ((i:Nat):Int) o.to' o.key o.n o.change o.mask o.torn o.cut).flat) 63,ah c (eL n D M P) 73,dk d s.e.D,eG 135 184 5 n (cY W),eW s d r]) (λ_u hinv=>?_) (λtl6=>?_)));have _:=hinv;refine ac J6 (CY (ab λ_ J7=>sr λ_ J8=>PS ?_));refine FA 1 fk aR ?_;refine LT 0 Y3 (.int .i64 (((i:Nat):Int))) ?_ (hc:=by exact bO _ rfl);refine CE Ci (sy c n i D M P hi d r s.e.D hD hM) (SM [1,1]) ?_;refine bc ?_ ?_<;>intro h21;refine PS ?_;refine nx J8 (CN (qx J7 (ab λ_ J9=>D2 2 0 df ?_)));refine PD 0 ?_;refine FD 1 1 fk aR ?_;refine LX 2 Y3 (.int .i64 (((i:Nat):Int))) ?_ (hc:=by exact bO _ rfl);refine PD 3 ?_;refine FD 4 6 pI pp ?_;refine IY 5 (6+i) vq kc ?_;refine LX 6 ut (.pointer (some ⟨r,0,none⟩)) ?_ (hc:=by exact(xL n D M P hi).trans (congrArg some hM));refine PD 7 ?_;refine FD 8 1 fk aR ?_
 refine LX 9 Y3 (.int .i64 (((i:Nat):Int))) ?_ (hc:=by exact bO _ rfl);refine ta 10 rfl (jY (cells:=#[(.pointer (some ⟨c,0,none⟩)),(.int .i64 (((i:Nat):Int)))]) rfl rfl (by as_aux_lemma=>kernel_rfl)) ?_;refine ta 11 rfl (pB rfl Fp rfl rfl) ?_;refine LY 12 fk vf hY ?_;refine AL 13 ?_;refine ck (H':=[cF (xA c n d i D M P hi hD W hW) r s,ah b3 (ints (OpT.mk k ((i:Nat):Int) o.to' o.key o.n o.change o.mask o.torn o.cut).flat) 63]) (λ_ q=>Et ho (aB [0,0,1,1] rfl q)) (CE Px (@A1 _ (xA c n d i D M P hi hD W hW) r s ((OpT.mk k ((i:Nat):Int) o.to' o.key o.n o.change o.mask o.torn o.cut)) hs hch hrs) ID ?_);change TL _ _ _ _ _ _ _ _ _ [cF (xA c n d i D M P hi hD W hW) r ((bV KD s ((OpT.mk k ((i:Nat):Int) o.to' o.key o.n o.change o.mask o.torn o.cut))).1),ah b3 (ints (OpT.mk k ((i:Nat):Int) o.to' o.key o.n o.change o.mask o.torn o.cut).flat) 63];refine ck (H':=[ah c (eL n D M P) 73,dk d (((bV KD s ((OpT.mk k ((i:Nat):Int) o.to' o.key o.n o.change o.mask o.torn o.cut))).1).e.D),eG 135 184 5 n (cY (gD W i ((bV KD s ((OpT.mk k ((i:Nat):Int) o.to' o.key o.n o.change o.mask o.torn o.cut))).1).o)),eW (((bV KD s ((OpT.mk k ((i:Nat):Int) o.to' o.key o.n o.change o.mask o.torn o.cut))).1).hush) d r,ah b3 (ints (OpT.mk k ((i:Nat):Int) o.to' o.key o.n o.change o.mask o.torn o.cut).flat) 63]) (λ_ q=>AF (s:=(bV KD s ((OpT.mk k ((i:Nat):Int) o.to' o.key o.n o.change o.mask o.torn o.cut))).1) q) (EN (PD 14 ?_))
 refine DN (ac J9 (ai (aH (ae (WK [0,0,0,0] (av rfl rfl ?_))))));exact .inr ⟨(by simpa using h21),rfl,rfl⟩;refine PS ?_;refine nx J8 (CY (sr λ_ J10=>PS ?_));refine nx J10 (ai (ae (aH (ae (WK [0,0,1,1] (av rfl rfl ?_))))));exact .inl ⟨(by simpa using h21),rfl,rfl⟩;refine sr λ_ J11=>P2 ?_
 refine ao ?_ ?_<;>intro h12;refine nx J11 (CY (aT ?_))
 exact aF
  SB
  (λ_ s=>ak [0,0,0,0,0] rfl s)
  (tl6 (():Unit) trivial)
 refine nx J11 (CN (sr λ_ J12=>P2 ?_));refine ao ?_ ?_<;>intro h12;refine nx J12 (CY (aT ?_))
 exact aF
  SB
  (λ_ s=>ak [0,0,0,0,0] rfl s)
  (tl6 (():Unit) trivial)
 refine nx J12 (CN (sr λ_ J13=>P2 ?_));refine ao ?_ ?_<;>intro h12;refine nx J13 (CY (aT ?_))
 exact aF
  SB
  (λ_ s=>ak [0,0,0,0,0] rfl s)
  (tl6 (():Unit) trivial)
 refine nx J13 (CN (sr λ_ J14=>P2 ?_));refine ao ?_ ?_<;>intro h12;refine nx J14 (CY (aT ?_))
 exact aF
  SB
  (λ_ s=>ak [0,0,0,0,0] rfl s)
  (tl6 (():Unit) trivial)
 refine nx J14 (CN (ad (PS ?_)));refine ao ?_ ?_<;>intro h17;refine PS ?_;refine aq ?_
 exact aF
  SB
  (λ_ s=>ak [0,0,0,0,0] rfl s)
  (tl6 (():Unit) trivial)
 · exact absurd h17 (by omega)
theorem C3(c n i:Nat)(D M P:Nat→Value)(hi:i<5)(hM:M i= .pointer none)(o:OpT)(k:Int)(hk:0≤k∧k≤4):
 DT 25 #[(.pointer (some ⟨c,0,none⟩)),(.agg (ints (OpT.mk k ((i:Nat):Int) o.to' o.key o.n o.change o.mask o.torn o.cut).flat).toArray)] T0 [ah c (eL n D M P) 73] (RI (.int .i64 4) [ah c (eL n D M P) 73]):=by
 refine BD 114 Tryz.func25 rfl rfl rfl λw0 F hF=>sr λ_ J1=>XY (ints (OpT.mk k ((i:Nat):Int) o.to' o.key o.n o.change o.mask o.torn o.cut).flat) λb3=>?_
 refine PS ?_;refine nx J1 (ab λ_ J2=>sr λ_ J3=>PS ?_);refine FA 1 fk aR ?_;refine LT 0 Y3 (.int .i64 (((i:Nat):Int))) ?_ (hc:=by exact bO _ rfl);refine CE qa (dS c i hi) ID ?_;refine PS ?_;refine nx J3 (CN (qx J2 (ab λ_ J4=>sr λ_ J5=>FA 0 fk aR ?_)));refine LT 0 Y3 (.int .i64 (k)) ?_ (hc:=by exact cI _ rfl);refine nx J5 (au (ab λ_ J6=>e4 (α:=Unit) (λ_u=>True) (λ_u=>[(0,(.pointer (some ⟨c,0,none⟩))),(3,(.pointer (some ⟨b3,0,none⟩))),(4,(.int .i64 0)),(11,(.int .i64 (k))),(12,(.bool true))]) (λ_u=>[ah b3 (ints (OpT.mk k ((i:Nat):Int) o.to' o.key o.n o.change o.mask o.torn o.cut).flat) 63,ah c (eL n D M P) 73]) (λ_u hinv=>?_) (λtl6=>?_)));have _:=hinv;refine ac J6 (CY (ab λ_ J7=>sr λ_ J8=>PS ?_));refine FA 1 fk aR ?_;refine LT 0 Y3 (.int .i64 (((i:Nat):Int))) ?_ (hc:=by exact bO _ rfl);refine CE Ci (sz c n i D M P hi hM) (SM [1]) ?_;refine PS ?_;refine nx J8 (CY (sr λ_ J9=>PS ?_));exact nx J9 (ai (ae (aH (ae (WK [0] (av rfl rfl ⟨rfl,rfl⟩))))));refine sr λ_ J10=>P2 ?_
 refine ao ?_ ?_<;>intro h12;refine nx J10 (CY (aT ?_))
 exact aF
  SB
  (λ_ s=>ak [0,0] rfl s)
  (tl6 (():Unit) trivial)
 refine nx J10 (CN (sr λ_ J11=>P2 ?_));refine ao ?_ ?_<;>intro h12;refine nx J11 (CY (aT ?_))
 exact aF
  SB
  (λ_ s=>ak [0,0] rfl s)
  (tl6 (():Unit) trivial)
 refine nx J11 (CN (sr λ_ J12=>P2 ?_));refine ao ?_ ?_<;>intro h12;refine nx J12 (CY (aT ?_))
 exact aF
  SB
  (λ_ s=>ak [0,0] rfl s)
  (tl6 (():Unit) trivial)
 refine nx J12 (CN (sr λ_ J13=>P2 ?_));refine ao ?_ ?_<;>intro h12;refine nx J13 (CY (aT ?_))
 exact aF
  SB
  (λ_ s=>ak [0,0] rfl s)
  (tl6 (():Unit) trivial)
 refine nx J13 (CN (ad (PS ?_)));refine ao ?_ ?_<;>intro h17;refine PS ?_;refine aq ?_
 exact aF
  SB
  (λ_ s=>ak [0,0] rfl s)
  (tl6 (():Unit) trivial)
 · exact absurd h17 (by omega)
theorem EV(c n i:Nat)(D M P:Nat→Value)(hi:i<5)(d r:Nat)(s:MS LD)(hD:D i= .pointer (some ⟨d,0,none⟩))(hM:M i= .pointer (some ⟨r,0,none⟩))(W:List (List MsgT))(hW:W.length=25)(ho:s.o=[])(hs:OkR KD s)(o:OpT):
 DT 25 #[(.pointer (some ⟨c,0,none⟩)),(.agg (ints (OpT.mk 8 ((i:Nat):Int) o.to' o.key o.n o.change o.mask o.torn o.cut).flat).toArray)] T0 [ah c (eL n D M P) 73,dk d s.e.D,eG 135 184 5 n (cY W),eW s d r] (dh (λv H=>(s.e.D.dn=true∧v= .int .i64 4∧H=[ah c (eL n D M P) 73,dk d s.e.D,eG 135 184 5 n (cY (W)),eW s d r])∨(s.e.D.dn=false∧v= .int .i64 0∧H=[ah c (eL n D M P) 73,dk d (iu KD s).hush.e.D,eG 135 184 5 n (cY (gD W i (iu KD s).o)),eW (iu KD s).hush d r]))):=by
 refine BD 114 Tryz.func25 rfl rfl rfl λw0 F hF=>sr λ_ J1=>XY (ints (OpT.mk 8 ((i:Nat):Int) o.to' o.key o.n o.change o.mask o.torn o.cut).flat) λb3=>?_
 refine PS ?_;refine nx J1 (ab λ_ J2=>sr λ_ J3=>PS ?_);refine FA 1 fk aR ?_;refine LT 0 Y3 (.int .i64 (((i:Nat):Int))) ?_ (hc:=by exact bO _ rfl);refine CE qa (dS c i hi) ID ?_;refine PS ?_;refine nx J3 (CN (qx J2 (ab λ_ J4=>sr λ_ J5=>FA 0 fk aR ?_)));refine LT 0 Y3 (.int .i64 8) ?_ (hc:=by exact cI _ rfl);refine nx J5 (au (ab λ_ J6=>sr λ_ J7=>P2 ?_));refine nx J7 (CN (sr λ_ J8=>P2 ?_));refine nx J8 (CN (sr λ_ J9=>P2 ?_));refine nx J9 (CN (sr λ_ J10=>P2 ?_));refine nx J10 (CN (ad (P2 ?_)));refine nx J6 (CN (ab λ_ J11=>sr λ_ J12=>P2 ?_));refine nx J12 (CN (sr λ_ J13=>P2 ?_));refine nx J13 (CN (ad (P2 ?_)));refine nx J11 (CN (sr λ_ J14=>P2 ?_));refine nx J14 (CY (ab λ_ J15=>sr λ_ J16=>PS ?_));refine FA 1 fk aR ?_;refine LT 0 Y3 (.int .i64 (((i:Nat):Int))) ?_ (hc:=by exact bO _ rfl);refine CE Ci (sy c n i D M P hi d r s.e.D hD hM) (SM [1,1]) ?_;refine bc ?_ ?_<;>intro h49;refine PS ?_;refine nx J16 (CN (qx J15 (D2 2 0 df ?_)));refine PD 0 ?_;refine FD 1 1 fk aR ?_;refine LX 2 Y3 (.int .i64 (((i:Nat):Int))) ?_ (hc:=by exact bO _ rfl);refine PD 3 ?_;refine FD 4 6 pI pp ?_;refine IY 5 (6+i) vq kc ?_;refine LX 6 ut (.pointer (some ⟨r,0,none⟩)) ?_ (hc:=by exact(xL n D M P hi).trans (congrArg some hM));refine PD 7 ?_;refine FD 8 1 fk aR ?_;refine LX 9 Y3 (.int .i64 (((i:Nat):Int))) ?_ (hc:=by exact bO _ rfl)
 refine ta 10 rfl (jY (cells:=#[(.pointer (some ⟨c,0,none⟩)),(.int .i64 (((i:Nat):Int)))]) rfl rfl (by as_aux_lemma=>kernel_rfl)) ?_;refine ta 11 rfl (pB rfl Fp rfl rfl) ?_;refine AL 12 ?_;refine ck (H':=[cF (xA c n d i D M P hi hD W hW) r s,ah b3 (ints (OpT.mk 8 ((i:Nat):Int) o.to' o.key o.n o.change o.mask o.torn o.cut).flat) 63]) (λ_ q=>Et ho (aB [0,0,1,1] rfl q)) (CZ Pv (@DO _ (xA c n d i D M P hi hD W hW) r s hs) ID λvR=>?_);change TL _ _ _ _ _ _ _ _ _ [cF (xA c n d i D M P hi hD W hW) r (iu KD s),ah b3 (ints (OpT.mk 8 ((i:Nat):Int) o.to' o.key o.n o.change o.mask o.torn o.cut).flat) 63];refine ck (H':=[ah c (eL n D M P) 73,dk d ((iu KD s).e.D),eG 135 184 5 n (cY (gD W i (iu KD s).o)),eW ((iu KD s).hush) d r,ah b3 (ints (OpT.mk 8 ((i:Nat):Int) o.to' o.key o.n o.change o.mask o.torn o.cut).flat) 63]) (λ_ q=>AF (s:=(iu KD s)) q) (EN (DN (ag (ac J4 (sr λ_ J17=>PS ?_)))));refine nx J17 (ai (WK [0,0,0,0] (av rfl rfl ?_)));exact .inr ⟨(by simpa using h49),rfl,rfl⟩;refine PS ?_;refine nx J16 (CY (sr λ_ J18=>PS ?_));refine nx J18 (ai (ae (aH (ae (WK [0,0,1,1] (av rfl rfl ?_))))));exact .inl ⟨(by simpa using h49),rfl,rfl⟩
theorem C1(c n i:Nat)(D M P:Nat→Value)(hi:i<5)(hM:M i= .pointer none)(o:OpT):
 DT 25 #[(.pointer (some ⟨c,0,none⟩)),(.agg (ints (OpT.mk 8 ((i:Nat):Int) o.to' o.key o.n o.change o.mask o.torn o.cut).flat).toArray)] T0 [ah c (eL n D M P) 73] (RI (.int .i64 4) [ah c (eL n D M P) 73]):=by
 refine BD 114 Tryz.func25 rfl rfl rfl λw0 F hF=>sr λ_ J1=>XY (ints (OpT.mk 8 ((i:Nat):Int) o.to' o.key o.n o.change o.mask o.torn o.cut).flat) λb3=>?_
 refine PS ?_;refine nx J1 (ab λ_ J2=>sr λ_ J3=>PS ?_);refine FA 1 fk aR ?_;refine LT 0 Y3 (.int .i64 (((i:Nat):Int))) ?_ (hc:=by exact bO _ rfl);refine CE qa (dS c i hi) ID ?_;refine PS ?_;refine nx J3 (CN (qx J2 (ab λ_ J4=>sr λ_ J5=>FA 0 fk aR ?_)));refine LT 0 Y3 (.int .i64 8) ?_ (hc:=by exact cI _ rfl);refine nx J5 (au (ab λ_ J6=>sr λ_ J7=>P2 ?_));refine nx J7 (CN (sr λ_ J8=>P2 ?_));refine nx J8 (CN (sr λ_ J9=>P2 ?_));refine nx J9 (CN (sr λ_ J10=>P2 ?_));refine nx J10 (CN (ad (P2 ?_)));refine nx J6 (CN (ab λ_ J11=>sr λ_ J12=>P2 ?_));refine nx J12 (CN (sr λ_ J13=>P2 ?_));refine nx J13 (CN (ad (P2 ?_)));refine nx J11 (CN (sr λ_ J14=>P2 ?_));refine nx J14 (CY (ab λ_ J15=>sr λ_ J16=>PS ?_));refine FA 1 fk aR ?_;refine LT 0 Y3 (.int .i64 (((i:Nat):Int))) ?_ (hc:=by exact bO _ rfl);refine CE Ci (sz c n i D M P hi hM) (SM [1]) ?_;refine PS ?_;refine nx J16 (CY (sr λ_ J17=>PS ?_));exact nx J17 (ai (ae (aH (ae (WK [0] (av rfl rfl ⟨rfl,rfl⟩))))))
theorem GM(s:MS LD)(d r:Nat)(h:s.replies.length≤1000000):DT 31 #[.pointer (some ⟨r,0,none⟩)] T0 [eW s d r] (dh λv H=>∃u,v=u∧H=[eW s d r,kR u s.replies]):=
 Leg.Does.pack (B:=[]) λa=>Leg.Does.withinR (A:=[ah r (RepT.cells (s.rep a)) 87,kR a.rs s.replies]) (B:=[FW a.lg d ((s.e.cnt:Nat):Int) s.e.used,Fs a.vo s.vote]) (Aq r (s.rep a) s.replies h) (λ_ _ _ _=>trivial) (λ_ q=>aB [0,1,0,0] rfl q) λv H hp=>by
  obtain⟨u,rfl,rfl⟩:=hp;exact⟨_,λ_ q=>bn (p:=GJ s d r) (H:=[kR v s.replies]) a (aB [0,2,0,1,0] rfl q),v,rfl,rfl⟩
theorem wN(c n i:Nat)(D M P:Nat→Value)(hi:i<5)(hM:M i= .pointer none)(pl:List ReplyT)(hpl:pl.length≤100000):
 DT 15 #[(.pointer (some ⟨c,0,none⟩)),(.int .i64 (((i:Nat):Int)))] T0 [ah c (eL n D M P) 73,own (P i) ((pl).length) (ints (List.flatMap ReplyT.flat (pl))) 47 3] (dh (λv H=>∃u,u.oneCell'=true∧v=u∧H=[ah c (eL n D M P) 73,kR (P i) pl,kR u pl])):=by
 refine BD 34 Tryz.func15 rfl rfl rfl λw0 F hF=>sr λ_ J1=>PS ?_
 refine nx J1 (ab λ_ J2=>sr λ_ J3=>P2 ?_);refine CE qa (dS c i hi) ID ?_;refine PS ?_;refine nx J3 (CN (qx J2 (sr λ_ J4=>P3 ?_)));refine FA 11 pI Kl ?_;refine IX (11+i) O7 yg ?_;refine LT 0 Dy (P i) ?_ (hc:=by exact OE n D M P hi);refine OK 47 3 (λ_=>ci (k:=0) (news:=ints (List.flatMap ReplyT.flat (pl))) (nn':=(pl).length) (xs':=ints (List.flatMap ReplyT.flat (pl))) (aa rfl) rfl rfl rfl Dy Hw rfl rfl rfl rfl rfl rfl (λ_ s=>JR 2 rfl rfl s) (bj _) (by simp only[maxLen];omega) (by omega) (by simp) (by simp) (λv16 ov16=>PS ?_));refine nx J4 (ab λ_ J5=>sr λ_ J6=>P3 ?_);refine FA 6 pI pp ?_;refine IX (6+i) vq kc ?_;refine LT 1 ut (.pointer none) ?_ (hc:=by exact(xL n D M P hi).trans (congrArg some hM));refine tp (iU rfl ut rfl rfl) ?_;refine nx J6 (CN (qx J5 (sr λ_ J7=>P2 ?_)));exact nx J7 (ai (WK [1,1,0] (av rfl rfl ⟨_,ov16,rfl,rfl⟩)))
theorem wM(c n i:Nat)(D M P:Nat→Value)(hi:i<5)(d:Nat)(r:Nat)(s:MS LD)(hM:M i= .pointer (some ⟨r,0,none⟩))(pl:List ReplyT)(hpl:pl.length≤100000)(hrs:s.replies.length≤100000):
 DT 15 #[(.pointer (some ⟨c,0,none⟩)),(.int .i64 (((i:Nat):Int)))] T0 [ah c (eL n D M P) 73,own (P i) ((pl).length) (ints (List.flatMap ReplyT.flat (pl))) 47 3,eW s d r] (dh (λv H=>∃u,u.oneCell'=true∧v=u∧H=[ah c (eL n D M P) 73,kR (P i) pl,eW s d r,kR u (pl++s.replies)])):=by
 refine BD 34 Tryz.func15 rfl rfl rfl λw0 F hF=>sr λ_ J1=>PS ?_
 refine nx J1 (ab λ_ J2=>sr λ_ J3=>P2 ?_);refine CE qa (dS c i hi) ID ?_;refine PS ?_;refine nx J3 (CN (qx J2 (sr λ_ J4=>P3 ?_)));refine FA 11 pI Kl ?_;refine IX (11+i) O7 yg ?_;refine LT 0 Dy (P i) ?_ (hc:=by exact OE n D M P hi);refine OK 47 3 (λ_=>ci (k:=0) (news:=ints (List.flatMap ReplyT.flat (pl))) (nn':=(pl).length) (xs':=ints (List.flatMap ReplyT.flat (pl))) (aa rfl) rfl rfl rfl Dy Hw rfl rfl rfl rfl rfl rfl (λ_ s=>JR 2 rfl rfl s) (bj _) (by simp only[maxLen];omega) (by omega) (by simp) (by simp) (λv16 ov16=>PS ?_));refine nx J4 (ab λ_ J5=>sr λ_ J6=>P3 ?_);refine FA 6 pI pp ?_;refine IX (6+i) vq kc ?_;refine LT 1 ut (.pointer (some ⟨r,0,none⟩)) ?_ (hc:=by exact(xL n D M P hi).trans (congrArg some hM));refine tp (jm rfl ut rfl rfl) ?_;refine nx J6 (CY (ad (P4 ?_)));refine FA 6 pI pp ?_;refine IX (6+i) vq kc ?_;refine LT 1 ut (.pointer (some ⟨r,0,none⟩)) ?_ (hc:=by exact(xL n D M P hi).trans (congrArg some hM));refine CR PF (GM s d r (by omega)) (SM [3]) λvR HR hR=>?_
 obtain⟨_,rfl,rfl⟩:=hR;revert vR;intro ur;refine ci (k:=2) (news:=ints (List.flatMap ReplyT.flat (s.replies))) (nn':=(pl++s.replies).length) (xs':=ints (List.flatMap ReplyT.flat (pl++s.replies))) (aa rfl) rfl rfl rfl Dy Hw rfl rfl rfl rfl rfl rfl (λ_ s=>JR 1 rfl rfl s) (bj _) (by simp only[maxLen];omega) (by omega) (by rw[af]) (by simp[ints]) (λv32 ov32=>PS ?_);refine nx J5 (sr λ_ J7=>P2 ?_);exact nx J7 (ai (WK [3,3,0,1] (av rfl rfl ⟨_,ov32,rfl,rfl⟩)))
theorem E5(c n i:Nat)(D M P:Nat→Value)(hi:i<5)(d:Nat)(hD:D i= .pointer (some ⟨d,0,none⟩))(e:DS)(o:OpT):
 DT 25 #[(.pointer (some ⟨c,0,none⟩)),(.agg (ints (OpT.mk 9 ((i:Nat):Int) o.to' o.key o.n o.change o.mask o.torn o.cut).flat).toArray)] T0 [ah c (eL n D M P) 73,dk d e] (RI (.int .i64 0) [ah c (eL n D M P) 73,dk d (e.arm o.n)]):=by
 refine BD 114 Tryz.func25 rfl rfl rfl λw0 F hF=>sr λ_ J1=>XY (ints (OpT.mk 9 ((i:Nat):Int) o.to' o.key o.n o.change o.mask o.torn o.cut).flat) λb3=>?_
 refine PS ?_;refine nx J1 (ab λ_ J2=>sr λ_ J3=>PS ?_);refine FA 1 fk aR ?_;refine LT 0 Y3 (.int .i64 (((i:Nat):Int))) ?_ (hc:=by exact bO _ rfl);refine CE qa (dS c i hi) ID ?_;refine PS ?_;refine nx J3 (CN (qx J2 (ab λ_ J4=>sr λ_ J5=>FA 0 fk aR ?_)));refine LT 0 Y3 (.int .i64 9) ?_ (hc:=by exact cI _ rfl);refine nx J5 (au (ab λ_ J6=>sr λ_ J7=>P2 ?_));refine nx J7 (CN (sr λ_ J8=>P2 ?_));refine nx J8 (CN (sr λ_ J9=>P2 ?_));refine nx J9 (CN (sr λ_ J10=>P2 ?_));refine nx J10 (CN (ad (P2 ?_)));refine nx J6 (CN (ab λ_ J11=>sr λ_ J12=>P2 ?_));refine nx J12 (CN (sr λ_ J13=>P2 ?_));refine nx J13 (CN (ad (P2 ?_)));refine nx J11 (CN (sr λ_ J14=>P2 ?_));refine nx J14 (CN (sr λ_ J15=>P2 ?_));refine nx J15 (CY (D2 0 1 df ?_));refine PD 0 ?_;refine FD 1 1 fk aR ?_;refine LX 2 Y3 (.int .i64 (((i:Nat):Int))) ?_ (hc:=by exact bO _ rfl);refine PD 3 ?_;refine FD 4 1 pI Ac ?_;refine IY 5 (1+i) Lj ve ?_;refine LX 6 HT (.pointer (some ⟨d,0,none⟩)) ?_ (hc:=by exact(Dc n D M P hi).trans (congrArg some hD));refine FD 7 4 fk aR ?_;refine LX 8 Y3 (.int .i64 (o.n)) ?_ (hc:=by exact tm _ rfl);refine AL 9 ?_;refine CR Pu (M2 d e o.n) (SM [2]) λvR HR hR=>?_
 obtain⟨_,rfl⟩:=hR;refine EN (DN (ag (ac J4 (sr λ_ J16=>PS ?_))));exact nx J16 (ai (WK [2,0] (av rfl rfl ⟨rfl,rfl⟩)))
theorem EY(c n i:Nat)(D M P:Nat→Value)(hi:i<5)(d:Nat)(hD:D i= .pointer (some ⟨d,0,none⟩))(r:Nat)(s:MS LD)(hM:M i= .pointer (some ⟨r,0,none⟩))(pl:List ReplyT)(hpl:pl.length≤100000)(hrs:s.replies.length≤100000)(e:DS)(hok:e.Ok)(o:OpT):
 DT 25 #[(.pointer (some ⟨c,0,none⟩)),(.agg (ints (OpT.mk 10 ((i:Nat):Int) o.to' o.key o.n o.change o.mask o.torn o.cut).flat).toArray)] T0 [ah c (eL n D M P) 73,dk d e,own (P i) ((pl).length) (ints (List.flatMap ReplyT.flat (pl))) 47 3,eW s d r] (dh (λv H=>∃u,u.oneCell'=true∧v= .int .i64 0∧H=[ah c (eL n D (kZ M i (.pointer none)) (kZ P i u)) 73,dk d (e.crash o.mask o.torn o.cut),kR u (pl++s.replies)])):=by
 refine BD 114 Tryz.func25 rfl rfl rfl λw0 F hF=>sr λ_ J1=>XY (ints (OpT.mk 10 ((i:Nat):Int) o.to' o.key o.n o.change o.mask o.torn o.cut).flat) λb3=>?_
 refine PS ?_;refine nx J1 (ab λ_ J2=>sr λ_ J3=>PS ?_);refine FA 1 fk aR ?_;refine LT 0 Y3 (.int .i64 (((i:Nat):Int))) ?_ (hc:=by exact bO _ rfl);refine CE qa (dS c i hi) ID ?_;refine PS ?_;refine nx J3 (CN (qx J2 (ab λ_ J4=>sr λ_ J5=>FA 0 fk aR ?_)));refine LT 0 Y3 (.int .i64 10) ?_ (hc:=by exact cI _ rfl);refine nx J5 (au (ab λ_ J6=>sr λ_ J7=>P2 ?_));refine nx J7 (CN (sr λ_ J8=>P2 ?_));refine nx J8 (CN (sr λ_ J9=>P2 ?_));refine nx J9 (CN (sr λ_ J10=>P2 ?_));refine nx J10 (CN (ad (P2 ?_)));refine nx J6 (CN (ab λ_ J11=>sr λ_ J12=>P2 ?_));refine nx J12 (CN (sr λ_ J13=>P2 ?_));refine nx J13 (CN (ad (P2 ?_)));refine nx J11 (CN (sr λ_ J14=>P2 ?_));refine nx J14 (CN (sr λ_ J15=>P2 ?_));refine nx J15 (CN (sr λ_ J16=>P2 ?_));refine nx J16 (CY (ab λ_ J17=>D1 0 df ?_));refine PD 0 ?_;refine FD 1 1 fk aR ?_;refine LX 2 Y3 (.int .i64 (((i:Nat):Int))) ?_ (hc:=by exact bO _ rfl);refine PD 3 ?_;refine FD 4 1 fk aR ?_;refine LX 5 Y3 (.int .i64 (((i:Nat):Int))) ?_ (hc:=by exact bO _ rfl);refine PD 7 ?_;refine FD 8 11 pI Kl ?_;refine AL 6 ?_;refine CR I2 (wM c n i D M P hi d r s hM pl hpl hrs) (SM [1,2,2]) λvR HR hR=>?_
 obtain⟨_,huc,rfl,rfl⟩:=hR;revert vR;intro uc huc;refine EN (IY 9 (11+i) O7 yg ?_);refine AL 10 ?_;refine bw (i:=0) (aa rfl) rfl rfl rfl rfl huc yg rfl rfl (by rw[rT];omega) (F5 n D M P uc hi) rfl (EN (DN (ac J17 (ab λ_ J18=>D1 4 df ?_))));refine PD 0 ?_;refine FD 1 1 fk aR ?_;refine LX 2 Y3 (.int .i64 (((i:Nat):Int))) ?_ (hc:=by exact bO _ rfl);refine PD 3 ?_;refine FD 4 6 pI pp ?_;refine IY 5 (6+i) vq kc ?_;refine AL 6 ?_;refine bw (i:=0) (aa rfl) rfl rfl rfl rfl rfl kc rfl rfl (by rw[rT];omega) (vL n D M (kZ P i uc) (.pointer none) hi) rfl (EN (DN (ac J18 (D2 4 0 df ?_))));refine PD 0 ?_;refine FD 1 1 fk aR ?_;refine LX 2 Y3 (.int .i64 (((i:Nat):Int))) ?_ (hc:=by exact bO _ rfl);refine PD 3 ?_;refine FD 4 1 pI Ac ?_;refine IY 5 (1+i) Lj ve ?_;refine LX 6 HT (.pointer (some ⟨d,0,none⟩)) ?_ (hc:=by exact(Dc n D (kZ M i (.pointer none)) (kZ P i uc) hi).trans (congrArg some hD));refine FD 7 8 fk aR ?_;refine LX 8 Y3 (.int .i64 (o.mask)) ?_ (hc:=by exact OpT.at_mask _ rfl);refine FD 9 9 fk aR ?_;refine LX 10 Y3 (.int .i64 (o.torn)) ?_ (hc:=by exact OpT.at_torn _ rfl);refine FD 11 10 fk aR ?_;refine LX 12 Y3 (.int .i64 (o.cut)) ?_ (hc:=by exact OpT.at_cut _ rfl);refine AL 13 ?_;refine CR NI (C4 d e o.mask o.torn o.cut hok) (SM [5]) λvR HR hR=>?_
 obtain⟨_,rfl⟩:=hR;refine EN (DN (ag (ac J4 (sr λ_ J19=>PS ?_))));exact nx J19 (ai (WK [1,0,2] (av rfl rfl ⟨uc,huc,rfl,rfl⟩)))
theorem EZ(c n i:Nat)(D M P:Nat→Value)(hi:i<5)(d:Nat)(hD:D i= .pointer (some ⟨d,0,none⟩))(hM:M i= .pointer none)(pl:List ReplyT)(hpl:pl.length≤100000)(e:DS)(hok:e.Ok)(o:OpT):
 DT 25 #[(.pointer (some ⟨c,0,none⟩)),(.agg (ints (OpT.mk 10 ((i:Nat):Int) o.to' o.key o.n o.change o.mask o.torn o.cut).flat).toArray)] T0 [ah c (eL n D M P) 73,dk d e,own (P i) ((pl).length) (ints (List.flatMap ReplyT.flat (pl))) 47 3] (dh (λv H=>∃u,u.oneCell'=true∧v= .int .i64 0∧H=[ah c (eL n D (kZ M i (.pointer none)) (kZ P i u)) 73,dk d (e.crash o.mask o.torn o.cut),kR u pl])):=by
 refine BD 114 Tryz.func25 rfl rfl rfl λw0 F hF=>sr λ_ J1=>XY (ints (OpT.mk 10 ((i:Nat):Int) o.to' o.key o.n o.change o.mask o.torn o.cut).flat) λb3=>?_
 refine PS ?_;refine nx J1 (ab λ_ J2=>sr λ_ J3=>PS ?_);refine FA 1 fk aR ?_;refine LT 0 Y3 (.int .i64 (((i:Nat):Int))) ?_ (hc:=by exact bO _ rfl);refine CE qa (dS c i hi) ID ?_;refine PS ?_;refine nx J3 (CN (qx J2 (ab λ_ J4=>sr λ_ J5=>FA 0 fk aR ?_)));refine LT 0 Y3 (.int .i64 10) ?_ (hc:=by exact cI _ rfl);refine nx J5 (au (ab λ_ J6=>sr λ_ J7=>P2 ?_));refine nx J7 (CN (sr λ_ J8=>P2 ?_));refine nx J8 (CN (sr λ_ J9=>P2 ?_));refine nx J9 (CN (sr λ_ J10=>P2 ?_));refine nx J10 (CN (ad (P2 ?_)));refine nx J6 (CN (ab λ_ J11=>sr λ_ J12=>P2 ?_));refine nx J12 (CN (sr λ_ J13=>P2 ?_));refine nx J13 (CN (ad (P2 ?_)));refine nx J11 (CN (sr λ_ J14=>P2 ?_));refine nx J14 (CN (sr λ_ J15=>P2 ?_));refine nx J15 (CN (sr λ_ J16=>P2 ?_));refine nx J16 (CY (ab λ_ J17=>D1 0 df ?_));refine PD 0 ?_;refine FD 1 1 fk aR ?_;refine LX 2 Y3 (.int .i64 (((i:Nat):Int))) ?_ (hc:=by exact bO _ rfl);refine PD 3 ?_;refine FD 4 1 fk aR ?_;refine LX 5 Y3 (.int .i64 (((i:Nat):Int))) ?_ (hc:=by exact bO _ rfl);refine PD 7 ?_;refine FD 8 11 pI Kl ?_;refine AL 6 ?_;refine CR I2 (wN c n i D M P hi hM pl hpl) (SM [1,2]) λvR HR hR=>?_
 obtain⟨_,huc,rfl,rfl⟩:=hR;revert vR;intro uc huc;refine EN (IY 9 (11+i) O7 yg ?_);refine AL 10 ?_;refine bw (i:=0) (aa rfl) rfl rfl rfl rfl huc yg rfl rfl (by rw[rT];omega) (F5 n D M P uc hi) rfl (EN (DN (ac J17 (ab λ_ J18=>D1 3 df ?_))));refine PD 0 ?_;refine FD 1 1 fk aR ?_;refine LX 2 Y3 (.int .i64 (((i:Nat):Int))) ?_ (hc:=by exact bO _ rfl);refine PD 3 ?_;refine FD 4 6 pI pp ?_;refine IY 5 (6+i) vq kc ?_;refine AL 6 ?_;refine bw (i:=0) (aa rfl) rfl rfl rfl rfl rfl kc rfl rfl (by rw[rT];omega) (vL n D M (kZ P i uc) (.pointer none) hi) rfl (EN (DN (ac J18 (D2 3 0 df ?_))));refine PD 0 ?_;refine FD 1 1 fk aR ?_;refine LX 2 Y3 (.int .i64 (((i:Nat):Int))) ?_ (hc:=by exact bO _ rfl);refine PD 3 ?_;refine FD 4 1 pI Ac ?_;refine IY 5 (1+i) Lj ve ?_;refine LX 6 HT (.pointer (some ⟨d,0,none⟩)) ?_ (hc:=by exact(Dc n D (kZ M i (.pointer none)) (kZ P i uc) hi).trans (congrArg some hD));refine FD 7 8 fk aR ?_;refine LX 8 Y3 (.int .i64 (o.mask)) ?_ (hc:=by exact OpT.at_mask _ rfl);refine FD 9 9 fk aR ?_;refine LX 10 Y3 (.int .i64 (o.torn)) ?_ (hc:=by exact OpT.at_torn _ rfl);refine FD 11 10 fk aR ?_;refine LX 12 Y3 (.int .i64 (o.cut)) ?_ (hc:=by exact OpT.at_cut _ rfl);refine AL 13 ?_;refine CR NI (C4 d e o.mask o.torn o.cut hok) (SM [4]) λvR HR hR=>?_
 obtain⟨_,rfl⟩:=hR;refine EN (DN (ag (ac J4 (sr λ_ J19=>PS ?_))));exact nx J19 (ai (WK [1,0,1] (av rfl rfl ⟨uc,huc,rfl,rfl⟩)))
theorem Kr{s:MS LD}{lg d r:Nat}{e:LD}{i:Int}(f:Fresh i e s){H:List HP}{h:Hl}(q:bD (DD lg r s::FW lg d ((e.cnt:Nat):Int) e.used::H) h):bD (eW s d r::H) h:=by
 obtain⟨_,q⟩:=fq (p:=λ_:Unit=>[ah r (RepT.cells (s.rep ⟨lg, .pointer none, .slice none 0 0⟩)) 87]) q;refine bn (p:=GJ s d r) ⟨lg, .pointer none, .slice none 0 0⟩ ?_;have q2:=fP 47 3 q;have q3:bD (Fs (.pointer none) (none:Option VoteT)::own (.slice none 0 0) 0 [] 47 3::ah r (RepT.cells (s.rep ⟨lg, .pointer none, .slice none 0 0⟩)) 87::FW lg d ((e.cnt:Nat):Int) e.used::H) h:=⟨em,h,Dw h,(q8 h).symm,rfl,q2⟩;have q4:=aB [2,2,1,0] rfl q3;simp only[GJ,f.e,f.replies,f.vote];exact q4
theorem pW(i d:Nat)(e:DS)(hok:DkOk e):DT 43 #[.int .i64 ((i:Nat):Int), .pointer (some ⟨d,0,none⟩)] T0 [dk d e] (dh (λv H=>((cJ i e).1=none∧(cJ i e).2≠0∧v= .tuple #[.pointer none, .int .i64 (cJ i e).2]∧H=[dk d (bQ e).D])∨∃s r,(cJ i e).1=some s∧v= .tuple #[.pointer (some ⟨r,0,none⟩), .int .i64 0]∧H=[eW s d r,dk d s.e.D])):=
 Leg.Does.fold (BI (⟨(bQ e).recs.length,(bQ e).used,(bQ e).D⟩:LD) ((i:Nat):Int) d e hok.ok hok.inn (by have:=hok.ws;omega)) λx H hp=>by
  cases x with
  |returned v=>
   unfold cJ;rcases hp with⟨he,rfl,rfl⟩| ⟨he,⟨hn,rfl,rfl⟩| ⟨s,r,lg,hn,rfl,rfl⟩⟩
   · rw[if_pos he];exact⟨_,λ_ q=>q, .inl ⟨rfl,he,rfl,rfl⟩⟩
   · rw[if_neg (by rw[he];decide),hn];exact⟨_,λ_ q=>q, .inl ⟨rfl,(by decide),rfl,rfl⟩⟩
   · rw[if_neg (by rw[he];decide),hn]
     have f:=tr _ (DE _ _) hn;refine⟨[eW s d r,dk d s.e.D],λ_ q=>Kr (lg:=lg) f ?_, .inr ⟨s,r,rfl,rfl,rfl⟩⟩;rw[f.e];exact q
  |panicked c=>exact hp.elim
  |outgrown=>exact hp.elim
theorem BH(c n i:Nat)(D M P:Nat→Value)(hi:i<5)(d:Nat)(hD:D i= .pointer (some ⟨d,0,none⟩))(hM:M i= .pointer none)(e:DS)(hok:DkOk e):
 DT 50 #[(.pointer (some ⟨c,0,none⟩)),(.int .i64 (((i:Nat):Int)))] T0 [ah c (eL n D M P) 73,dk d e] (dh (λv H=>((cJ i e).1=none∧v= .int .i64 (cJ i e).2∧H=[ah c (eL n D M P) 73,dk d (bQ e).D])∨∃s r,(cJ i e).1=some s∧v= .int .i64 0∧H=[ah c (eL n D (kZ M i (.pointer (some ⟨r,0,none⟩))) P) 73,eW s d r,dk d s.e.D])):=by
 refine BD 34 Tryz.func50 rfl rfl rfl λw0 F hF=>sr λ_ J1=>PS ?_
 refine nx J1 (ab λ_ J2=>sr λ_ J3=>P3 ?_);refine FA 6 pI pp ?_;refine IX (6+i) vq kc ?_;refine LT 0 ut (.pointer none) ?_ (hc:=by exact(xL n D M P hi).trans (congrArg some hM));refine tp (iU rfl ut rfl rfl) ?_;refine nx J3 (CN (qx J2 (sr λ_ J4=>P4 ?_)));refine FA 1 pI Ac ?_;refine IX (1+i) Lj ve ?_;refine LT 0 HT (.pointer (some ⟨d,0,none⟩)) ?_ (hc:=by exact(Dc n D M P hi).trans (congrArg some hD));refine CR MN (pW i d e hok) (SM [1]) λvR HR hR=>?_
 rcases hR with⟨hn,h0,rfl,rfl⟩| ⟨s,r,hn,rfl,rfl⟩
 refine P4 ?_;refine PS ?_;refine nx J4 (ab λ_ J5=>sr λ_ J6=>P2 ?_);refine ao ?_ ?_<;>intro h26
 · exact absurd h26 h0
 refine nx J6 (CN (qx J5 (sr λ_ J7=>P2 ?_)));exact nx J7 (ai (WK [1,0] (av rfl rfl (.inl ⟨hn,rfl,rfl⟩))));refine P4 ?_;refine PS ?_;refine nx J4 (ab λ_ J8=>sr λ_ J9=>P2 ?_);refine nx J9 (CY (ad (P4 ?_)));refine FA 6 pI pp ?_;refine IX (6+i) vq kc ?_;refine bw (i:=2) (aa rfl) rfl rfl rfl rfl rfl kc rfl rfl (by rw[rT];omega) (vL n D M P (.pointer (some ⟨r,0,none⟩)) hi) rfl (nx J8 (sr λ_ J10=>P2 ?_));exact nx J10 (ai (WK [2,0,0] (av rfl rfl (.inr ⟨s,r,hn,rfl,rfl⟩))))
theorem BG(c n i:Nat)(D M P:Nat→Value)(hi:i<5)(r:Nat)(hM:M i= .pointer (some ⟨r,0,none⟩)):
 DT 50 #[(.pointer (some ⟨c,0,none⟩)),(.int .i64 (((i:Nat):Int)))] T0 [ah c (eL n D M P) 73] (RI (.int .i64 5) [ah c (eL n D M P) 73]):=by
 refine BD 34 Tryz.func50 rfl rfl rfl λw0 F hF=>sr λ_ J1=>PS ?_
 refine nx J1 (ab λ_ J2=>sr λ_ J3=>P3 ?_);refine FA 6 pI pp ?_;refine IX (6+i) vq kc ?_;refine LT 0 ut (.pointer (some ⟨r,0,none⟩)) ?_ (hc:=by exact(xL n D M P hi).trans (congrArg some hM));refine tp (jm rfl ut rfl rfl) ?_;refine nx J3 (CY (sr λ_ J4=>PS ?_));exact nx J4 (ai (ae (WK [0] (av rfl rfl ⟨rfl,rfl⟩))))
theorem EX(c n i:Nat)(D M P:Nat→Value)(hi:i<5)(d:Nat)(hD:D i= .pointer (some ⟨d,0,none⟩))(hM:M i= .pointer none)(e:DS)(hok:DkOk e)(o:OpT):
 DT 25 #[(.pointer (some ⟨c,0,none⟩)),(.agg (ints (OpT.mk 11 ((i:Nat):Int) o.to' o.key o.n o.change o.mask o.torn o.cut).flat).toArray)] T0 [ah c (eL n D M P) 73,dk d e] (dh (λv H=>((cJ i e).1=none∧v= .int .i64 (cJ i e).2∧H=[ah c (eL n D M P) 73,dk d (bQ e).D])∨∃s r,(cJ i e).1=some s∧v= .int .i64 0∧H=[ah c (eL n D (kZ M i (.pointer (some ⟨r,0,none⟩))) P) 73,eW s d r,dk d s.e.D])):=by
 refine BD 114 Tryz.func25 rfl rfl rfl λw0 F hF=>sr λ_ J1=>XY (ints (OpT.mk 11 ((i:Nat):Int) o.to' o.key o.n o.change o.mask o.torn o.cut).flat) λb3=>?_
 refine PS ?_;refine nx J1 (ab λ_ J2=>sr λ_ J3=>PS ?_);refine FA 1 fk aR ?_;refine LT 0 Y3 (.int .i64 (((i:Nat):Int))) ?_ (hc:=by exact bO _ rfl);refine CE qa (dS c i hi) ID ?_;refine PS ?_;refine nx J3 (CN (qx J2 (ab λ_ J4=>sr λ_ J5=>FA 0 fk aR ?_)));refine LT 0 Y3 (.int .i64 11) ?_ (hc:=by exact cI _ rfl);refine nx J5 (au (ab λ_ J6=>sr λ_ J7=>P2 ?_));refine nx J7 (CN (sr λ_ J8=>P2 ?_));refine nx J8 (CN (sr λ_ J9=>P2 ?_));refine nx J9 (CN (sr λ_ J10=>P2 ?_));refine nx J10 (CN (ad (P2 ?_)));refine nx J6 (CN (ab λ_ J11=>sr λ_ J12=>P2 ?_));refine nx J12 (CN (sr λ_ J13=>P2 ?_));refine nx J13 (CN (ad (P2 ?_)));refine nx J11 (CN (sr λ_ J14=>P2 ?_));refine nx J14 (CN (sr λ_ J15=>P2 ?_));refine nx J15 (CN (sr λ_ J16=>P2 ?_));refine nx J16 (CN (sr λ_ J17=>P2 ?_));refine nx J17 (CY (sr λ_ J18=>PS ?_));refine FA 1 fk aR ?_;refine LT 0 Y3 (.int .i64 (((i:Nat):Int))) ?_ (hc:=by exact bO _ rfl);refine CR NH (BH c n i D M P hi d hD hM e hok) (SM [1,1]) λvR HR hR=>?_
 rcases hR with⟨hn,rfl,rfl⟩| ⟨s,r,hn,rfl,rfl⟩
 refine PS ?_;exact nx J18 (ai (aH (ae (WK [0,0] (av rfl rfl (.inl ⟨hn,rfl,rfl⟩))))));refine PS ?_;exact nx J18 (ai (aH (ae (WK [0,0,0] (av rfl rfl (.inr ⟨s,r,hn,rfl,rfl⟩))))))
theorem EW(c n i:Nat)(D M P:Nat→Value)(hi:i<5)(r:Nat)(hM:M i= .pointer (some ⟨r,0,none⟩))(o:OpT):
 DT 25 #[(.pointer (some ⟨c,0,none⟩)),(.agg (ints (OpT.mk 11 ((i:Nat):Int) o.to' o.key o.n o.change o.mask o.torn o.cut).flat).toArray)] T0 [ah c (eL n D M P) 73] (RI (.int .i64 5) [ah c (eL n D M P) 73]):=by
 refine BD 114 Tryz.func25 rfl rfl rfl λw0 F hF=>sr λ_ J1=>XY (ints (OpT.mk 11 ((i:Nat):Int) o.to' o.key o.n o.change o.mask o.torn o.cut).flat) λb3=>?_
 refine PS ?_;refine nx J1 (ab λ_ J2=>sr λ_ J3=>PS ?_);refine FA 1 fk aR ?_;refine LT 0 Y3 (.int .i64 (((i:Nat):Int))) ?_ (hc:=by exact bO _ rfl);refine CE qa (dS c i hi) ID ?_;refine PS ?_;refine nx J3 (CN (qx J2 (ab λ_ J4=>sr λ_ J5=>FA 0 fk aR ?_)));refine LT 0 Y3 (.int .i64 11) ?_ (hc:=by exact cI _ rfl);refine nx J5 (au (ab λ_ J6=>sr λ_ J7=>P2 ?_));refine nx J7 (CN (sr λ_ J8=>P2 ?_));refine nx J8 (CN (sr λ_ J9=>P2 ?_));refine nx J9 (CN (sr λ_ J10=>P2 ?_));refine nx J10 (CN (ad (P2 ?_)));refine nx J6 (CN (ab λ_ J11=>sr λ_ J12=>P2 ?_));refine nx J12 (CN (sr λ_ J13=>P2 ?_));refine nx J13 (CN (ad (P2 ?_)));refine nx J11 (CN (sr λ_ J14=>P2 ?_));refine nx J14 (CN (sr λ_ J15=>P2 ?_));refine nx J15 (CN (sr λ_ J16=>P2 ?_));refine nx J16 (CN (sr λ_ J17=>P2 ?_));refine nx J17 (CY (sr λ_ J18=>PS ?_));refine FA 1 fk aR ?_;refine LT 0 Y3 (.int .i64 (((i:Nat):Int))) ?_ (hc:=by exact bO _ rfl);refine CE NH (BG c n i D M P hi r hM) (SM [1]) ?_;refine PS ?_;exact nx J18 (ai (aH (ae (WK [0] (av rfl rfl ⟨rfl,rfl⟩)))))
end Go.Proofs.YtfocodjhmkokpaaGreatDoor
end
