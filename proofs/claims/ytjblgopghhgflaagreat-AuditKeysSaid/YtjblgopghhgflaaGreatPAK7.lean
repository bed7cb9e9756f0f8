/-
  Joined texts:what a statement's proof reaches.
-/
import Derived.Test.YtjblgopghhgflaaGreatPAK6
set_option maxHeartbeats 8000000
set_option maxRecDepth 100000
set_option linter.unusedSimpArgs false
set_option linter.unusedVariables false
section
namespace Go.Proofs.YtjblgopghhgflaaGreat
open Go Leg Codec Api Dsk Wal
theorem qj{δ:Type}(V:Env δ)(r:Nat)(s:MS δ)(c:ChangeT)[OkR V.toDk s][OkCh c]:
 DT 112 #[(.pointer (some ⟨r,0,none⟩)),(.agg (ints c.flat).toArray)] T0 [cJ V r s] (RI (.int .i64 (cD V.toDk s c).2) [cJ V r (cD V.toDk s c).1]):=by
 refine BD 66 Tryz.func112 rfl rfl rfl λw0 F hF=>sr λ_ J1=>XY (ints c.flat) λb3=>?_
 refine PS ?_;refine nx J1 (aa λ_ J2=>fg (α:=(Nat)) (λb5=>True) (λb5=>[(0,(.pointer (some ⟨r,0,none⟩))),(3,(.pointer (some ⟨b3,0,none⟩))),(4,(.int .i64 0)),(5,(.pointer (some ⟨b5,0,none⟩)))]) (λb5=>[cJ V r s,ak b3 (ints c.flat) 28,ak b5 (ints (eP s).flat) 88]) (λb5 hinv=>?_) (λtl2=>?_));have _:=hinv;refine ac J2 (aa λ_ J3=>fg (α:=(Nat)) (λb6=>True) (λb6=>[(0,(.pointer (some ⟨r,0,none⟩))),(3,(.pointer (some ⟨b3,0,none⟩))),(4,(.int .i64 0)),(5,(.pointer (some ⟨b5,0,none⟩))),(6,(.pointer (some ⟨b6,0,none⟩))),(7,(.bool ((bS s.acc s.view.epoch (eP s)).2)))]) (λb6=>[cJ V r s,ak b3 (ints c.flat) 28,ak b5 (ints (eP s).flat) 88,ak b6 (ints ((bS s.acc s.view.epoch (eP s)).1).flat) 118]) (λb6 hinv=>?_) (λtl3=>?_));have _:=hinv;refine ac J3 (aa λ_ J4=>sr λ_ J5=>PS ?_);refine bc ?_ ?_<;>intro h33;refine PS ?_;refine nx J5 (CN (qx J4 (aa λ_ J6=>aa λ_ J7=>DC bm (cZ 0 rfl rfl) (BL 2) ?_)));refine PD 0 ?_;refine PD 1 ?_;refine PD 2 ?_;refine FD 3 2 bn bk ?_;refine FD 4 2 eS aQ ?_;refine ta 5 rfl (dm (v:=(.int .i64 (s.view.epoch))) rfl Y3 rfl rfl (λ_ h=>h.2.1) (λa_=>(cf (s.rep a_) 0 rfl (by decide) (bi _ rfl)))) ?_;refine LY 6 kg cz ap ?_;refine ta 7 rfl (lm RecT.zero (RecT.mk 3 0 RowT.zero s.view.epoch (eP s) ChangeT.zero ViewT.zero) [(0,[Value.int .i64 3]),(3,[Value.int .i64 s.view.epoch]),(4,ints (eP s).flat)] je fh (g:=RecT.sg)) ?_
 refine AL 8 ?_;refine CE w4 (lv V r s (gT s.view.epoch (eP s))) ID ?_;refine EN (PD 9 ?_);refine DN (ac J7 (sr λ_ J8=>P2 ?_));refine ao ?_ ?_<;>intro h45;refine nx J8 (CY (sr λ_ J9=>P2 ?_));refine nx J9 (ai (af (WK [0] (av rfl rfl ?_))));have e:cD V.toDk s c=(dC V.toDk s (gT s.view.epoch (eP s)),sS V.toDk s (gT s.view.epoch (eP s))):=by rw[cD,if_neg (by rw[h33];decide),if_pos h45]
 exact jO e;refine Lz (H':=λvo:Value=>vM V r (dC V.toDk s (gT s.view.epoch (eP s))) vo::[ak b3 (ints c.flat) 28,ak b5 (ints (eP s).flat) 88,ak b6 (ints ((bS s.acc s.view.epoch (eP s)).1).flat) 118]) (λ_ q=>FN q) (λvo=>nx J8 (CN (qx J6 (aa λ_ J10=>D2 3 2 bm ?_))));refine PD 0 ?_;refine PD 1 ?_;refine LY 2 jb dF bb ?_;refine FD 3 0 kg aQ ?_;refine LX 4 Y3 (.int .i64 ((eP s).round)) ?_ (hc:=by exact fk _ rfl);refine PD 5 ?_;refine FD 6 1058 bn dF ?_;refine AL 7 ?_;refine g9 (vs:=ints ((bS s.acc s.view.epoch (eP s)).1).flat) (i:=0) (ab rfl) rfl rfl rfl rfl rfl (by rw[(bb ((bS s.acc s.view.epoch (eP s)).1))];exact dF) (bC _) rfl rfl (λ_=>LC (cY _) (bb _)) (λa_=>(ky ((dC V.toDk s (gT s.view.epoch (eP s))).rep ⟨(a_:Nat×Value).1,vo,a_.2⟩) 0 rfl (by have h1:=(bb ((bS s.acc s.view.epoch (eP s)).1));omega) (ct ((bb (((dC V.toDk s (gT s.view.epoch (eP s))).rep ⟨(a_:Nat×Value).1,vo,a_.2⟩).acc)).trans (bb ((bS s.acc s.view.epoch (eP s)).1)).symm)))) (EN (PD 8 ?_));refine FD 9 1066 bn aQ ?_;refine AL 10 ?_;refine SK 0 aQ (λ_=>cY _) ?_ (hc:=by exact λa_=>(l7 _ rfl _));refine EN (DN (ac J10 (aa λ_ J11=>D2 2 1 bm ?_)));refine PD 0 ?_;refine PD 1 ?_;refine PD 2 ?_;refine FD 3 2 bn bk ?_;refine LY 5 kg cz ap ?_;refine LY 6 np fI aL ?_;refine AL 4 ?_;refine LZ 0 eS bk an s.view ?_ (hc:=by exact λ_=>cX _);refine EN (AL 7 ?_);refine CR NA (Ab s.view (eP s) c) ID λvR HR hR=>?_
 obtain⟨vb,rfl,rfl⟩:=hR;refine EN (PD 8 ?_);refine FD 9 1067 bn jo ?_;refine AL 10 ?_;refine SK 1 jo (λ_=>cY _) ?_ (hc:=by exact λa_=>(Pv _ rfl _));refine EN (DN (ac J11 (sr λ_ J12=>PS ?_)));refine nx J12 (ai (aF (H':=[cJ V r (pd V.toDk s c)]) (dK _) (λ_ q=>ol (am [1,0] rfl q)) (av rfl rfl ?_)));have e:cD V.toDk s c=(pd V.toDk s c,0):=by rw[cD,if_neg (by rw[h33];decide),if_neg h45]
 exact jO e;refine PS ?_;refine nx J5 (CY (sr λ_ J13=>PS ?_));refine nx J13 (ai (af (WK [0] (av rfl rfl ?_))));have e:cD V.toDk s c=(s,6):=if_pos h33;exact jO e;refine DC bm (cZ 0 rfl rfl) (BL 2) ?_;refine PD 0 ?_;refine PD 1 ?_;refine FD 2 1058 bn dF ?_;refine ta 3 rfl (gh (vs:=ints s.acc.flat) rfl jb rfl dF rfl (λ_ h=>h.2.1) (bb s.acc) (λa_=>(yG (s.rep a_) 0 rfl (by decide) (whole (bb ((s.rep a_).acc)))))) ?_;refine PD 4 ?_;refine PD 5 ?_;refine FD 6 2 bn bk ?_;refine FD 7 2 eS aQ ?_;refine ta 8 rfl (dm (v:=(.int .i64 (s.view.epoch))) rfl Y3 rfl rfl (λ_ h=>h.2.1) (λa_=>(cf (s.rep a_) 0 rfl (by decide) (bi _ rfl)))) ?_;refine LY 9 kg cz ap ?_;refine cT [10,14] (by kernel_rfl) rfl (aG rfl ?_ ?_);refine CE FG (nM s.acc s.view.epoch (eP s)) ID ?_;refine EN (PD 11 ?_);refine PD 12 ?_;refine PD 13 ?_;refine oA ?_ ?_<;>intro h32;refine AL 14 ?_;refine XZ vT (ints AccT.zero.flat) λb6=>?_
 refine EN (AL 15 ?_);refine SW 0 dF bb ?_;refine EN (PD 16 ?_);refine DN ?_
 exact aF
  (aT (aT (aT (aT (aT (bz rfl (by rw[h32]) SB))))))
  (λ_ s=>am [1,1,1,0] rfl s)
  (tl3 ((b6):(Nat)) trivial)
 refine AL 14 ?_;refine XZ vT (ints AccT.zero.flat) λb6=>?_
 refine EN (AL 15 ?_);refine SW 0 dF bb ?_;refine EN (PD 16 ?_);refine DN ?_
 exact aF
  (aT (aT (aT (aT (aT (bz rfl (by rw[h32]) SB))))))
  (λ_ s=>am [1,1,1,0] rfl s)
  (tl3 ((b6):(Nat)) trivial)
 refine aG rfl ?_ ?_;refine XZ vT (ints AccT.zero.flat) λb6=>?_
 refine EN (AL 10 ?_);refine CE FG (nM s.acc s.view.epoch (eP s)) ID ?_;refine EN (PD 11 ?_);refine PD 12 ?_;refine PD 13 ?_;refine oA ?_ ?_<;>intro h32;refine AL 15 ?_;refine SW 0 dF bb ?_;refine EN (PD 16 ?_);refine DN ?_
 exact aF
  (aT (aT (aT (aT (aT (bz rfl (by rw[h32]) SB))))))
  (λ_ s=>am [1,1,1,0] rfl s)
  (tl3 ((b6):(Nat)) trivial)
 refine AL 15 ?_;refine SW 0 dF bb ?_;refine EN (PD 16 ?_);refine DN ?_
 exact aF
  (aT (aT (aT (aT (aT (bz rfl (by rw[h32]) SB))))))
  (λ_ s=>am [1,1,1,0] rfl s)
  (tl3 ((b6):(Nat)) trivial)
 exact bJ;refine DB bm (cZ 1 rfl rfl) ?_;refine PD 0 ?_;refine PD 1 ?_;refine FD 2 1066 bn aQ ?_;refine ta 3 rfl (dm (v:=(.int .i64 (s.round))) rfl Y3 rfl rfl (λ_ h=>h.2.1) (λa_=>(vw _ rfl))) ?_;refine ta 4 rfl (cC (r:=(fY (s.round+1))) rfl rfl rfl rfl) ?_;refine PD 5 ?_;refine PD 6 ?_;refine FD 7 0 bn aQ ?_;refine ta 8 rfl (dm (v:=(.int .i64 (s.id))) rfl Y3 rfl rfl (λ_ h=>h.2.1) (λa_=>(cE _ rfl))) ?_;refine ta 9 rfl (lm BallotT.zero (BallotT.mk (fY (s.round+1)) s.id) [(0,[Value.int .i64 (fY (s.round+1))]),(1,[Value.int .i64 s.id])] kg Oy (g:=BallotT.sg)) ?_;refine AL 10 ?_;refine XZ OC (ints BallotT.zero.flat) λb5=>?_
 refine EN (AL 11 ?_);refine SW 0 cz ap ?_;refine EN (DN ?_)
 exact aF
  SB
  (λ_ s=>am [2,1,0] rfl s)
  (tl2 ((b5):(Nat)) trivial)
theorem Bd{δ:Type}(V:Env δ)(r:Nat)(s:MS δ)(op:Int)(c:ChangeT)[OkR V.toDk s][OkCh c](hrs:s.replies.length≤1000000)(hv:s.vote=none):
 DT 95 #[(.pointer (some ⟨r,0,none⟩)),(.iface V.T V.ov),(.int .i64 (op)),(.agg (ints c.flat).toArray)] T0 [cJ V r s] (RI (.int .i64 (dS V.toDk s op c).2) [cJ V r (dS V.toDk s op c).1]):=by
 refine BD 44 Tryz.func95 rfl rfl rfl λw0 F hF=>sr λ_ J1=>XY (ints c.flat) λb7=>?_
 refine PS ?_;refine nx J1 (aa λ_ J2=>fg (α:=Unit) (λ_u=>True) (λ_u=>[(0,(.pointer (some ⟨r,0,none⟩))),(1,(.iface V.T V.ov)),(2,(.int .i64 (op))),(7,(.pointer (some ⟨b7,0,none⟩))),(8,(.int .i64 0)),(10,(.int .i64 ((dY s.view c).2)))]) (λ_u=>[cJ V r s,ak b7 (ints c.flat) 28]) (λ_u hinv=>?_) (λtl2=>?_));have _:=hinv;refine ac J2 (aa λ_ J3=>sr λ_ J4=>cA (H':=vM V r s (.pointer none)::[ak b7 (ints c.flat) 28]) (λ_ q=>sW hv q) (P2 ?_));refine ao ?_ ?_<;>intro h21;refine P3 ?_;refine FA 1067 bn jo ?_;refine LG 0 iT (.pointer none) ?_ (hc:=by exact λa_=>(bT _ rfl));refine tq (hX rfl iT rfl rfl) ?_;refine PS ?_;refine nx J4 (CN (qx J3 (aa λ_ J5=>sr λ_ J6=>cA (H':=cJ V r s::[ak b7 (ints c.flat) 28]) (λ_ q=>oo hv (aC [0] rfl q)) (P2 ?_))));refine ao ?_ ?_<;>intro h30;refine nx J6 (CY (ae (PS ?_)));refine LW 1 np fI aL ?_;refine CE IC (qj V r s c) ID ?_;refine PS ?_;refine nx J5 (sr λ_ J7=>P3 ?_);refine CZ tY (fa V r ((cD V.toDk s c).1) op ((cD V.toDk s c).2) 0 (by first|exact hrs| (rw[iO];exact hrs))) ID λvR=>?_
 refine nx J7 (aa λ_ J8=>sr λ_ J9=>P2 ?_);refine ao ?_ ?_<;>intro h39;refine nx J9 (CY (ae (P2 ?_)));refine CZ FL (rq V r (dM ((cD V.toDk s c).1) op ((cD V.toDk s c).2) 0) (kd s.view (eP s) c) (rO h39)) ID λvR=>?_
 refine nx J8 (sr λ_ J10=>P2 ?_);refine nx J10 (ai (WK [0] (av rfl rfl ?_)));have e:dS V.toDk s op c=((nG V.toDk (dM ((cD V.toDk s c).1) op ((cD V.toDk s c).2) 0) (kd s.view (eP s) c)),(cD V.toDk s c).2):=by rw[dS,show fT s c=(dY s.view c).2 by rw[fT,if_neg (λh=>by rw[hv]at h;exact absurd h.2 (by decide))],if_neg (by rw[h30];decide),if_neg (by rw[h39];decide),h39]
 exact jO e;refine nx J9 (CN (qx J8 (sr λ_ J11=>P2 ?_)));refine nx J11 (ai (WK [0] (av rfl rfl ?_)));have e:dS V.toDk s op c=((dM ((cD V.toDk s c).1) op ((cD V.toDk s c).2) 0),(cD V.toDk s c).2):=by rw[dS,show fT s c=(dY s.view c).2 by rw[fT,if_neg (λh=>by rw[hv]at h;exact absurd h.2 (by decide))],if_neg (by rw[h30];decide),if_pos h39]
 exact jO e;refine nx J6 (CN (qx J5 (sr λ_ J12=>P3 ?_)));refine CZ tY (fa V r s op ((dY s.view c).2) 0 (by first|exact hrs| (rw[iO];exact hrs))) ID λvR=>?_
 refine nx J12 (aa λ_ J13=>sr λ_ J14=>P2 ?_);refine ao ?_ ?_<;>intro h39
 · exact absurd h39 h30
 refine nx J14 (CN (qx J13 (sr λ_ J15=>P2 ?_)));refine nx J15 (ai (WK [0] (av rfl rfl ?_)));have e:dS V.toDk s op c=((dM s op ((dY s.view c).2) 0),(dY s.view c).2):=by rw[dS,show fT s c=(dY s.view c).2 by rw[fT,if_neg (λh=>h30 h.1)]];exact if_pos (by exact h30)
 exact jO e;refine PS ?_
 iterate 5 refine UF ?_
 refine PS ?_;refine nx J4 (CN (qx J3 (aa λ_ J16=>sr λ_ J17=>cA (H':=cJ V r s::[ak b7 (ints c.flat) 28]) (λ_ q=>oo hv (aC [0] rfl q)) (P2 ?_))));refine ao ?_ ?_<;>intro h30;refine nx J17 (CY (ae (PS ?_)));refine LW 1 np fI aL ?_;refine CE IC (qj V r s c) ID ?_;refine PS ?_;refine nx J16 (sr λ_ J18=>P3 ?_);refine CZ tY (fa V r ((cD V.toDk s c).1) op ((cD V.toDk s c).2) 0 (by first|exact hrs| (rw[iO];exact hrs))) ID λvR=>?_
 refine nx J18 (aa λ_ J19=>sr λ_ J20=>P2 ?_);refine ao ?_ ?_<;>intro h39;refine nx J20 (CY (ae (P2 ?_)));refine CZ FL (rq V r (dM ((cD V.toDk s c).1) op ((cD V.toDk s c).2) 0) (kd s.view (eP s) c) (rO h39)) ID λvR=>?_
 refine nx J19 (sr λ_ J21=>P2 ?_);refine nx J21 (ai (WK [0] (av rfl rfl ?_)));have e:dS V.toDk s op c=((nG V.toDk (dM ((cD V.toDk s c).1) op ((cD V.toDk s c).2) 0) (kd s.view (eP s) c)),(cD V.toDk s c).2):=by rw[dS,show fT s c=(dY s.view c).2 by rw[fT,if_neg (λh=>by rw[hv]at h;exact absurd h.2 (by decide))],if_neg (by rw[h30];decide),if_neg (by rw[h39];decide),h39]
 exact jO e;refine nx J20 (CN (qx J19 (sr λ_ J22=>P2 ?_)));refine nx J22 (ai (WK [0] (av rfl rfl ?_)));have e:dS V.toDk s op c=((dM ((cD V.toDk s c).1) op ((cD V.toDk s c).2) 0),(cD V.toDk s c).2):=by rw[dS,show fT s c=(dY s.view c).2 by rw[fT,if_neg (λh=>by rw[hv]at h;exact absurd h.2 (by decide))],if_neg (by rw[h30];decide),if_pos h39]
 exact jO e;refine nx J17 (CN (qx J16 (sr λ_ J23=>P3 ?_)));refine CZ tY (fa V r s op ((dY s.view c).2) 0 (by first|exact hrs| (rw[iO];exact hrs))) ID λvR=>?_
 refine nx J23 (aa λ_ J24=>sr λ_ J25=>P2 ?_);refine ao ?_ ?_<;>intro h39
 · exact absurd h39 h30
 refine nx J25 (CN (qx J24 (sr λ_ J26=>P2 ?_)));refine nx J26 (ai (WK [0] (av rfl rfl ?_)));have e:dS V.toDk s op c=((dM s op ((dY s.view c).2) 0),(dY s.view c).2):=by rw[dS,show fT s c=(dY s.view c).2 by rw[fT,if_neg (λh=>h30 h.1)]];exact if_pos (by exact h30)
 exact jO e;refine DC bm (cZ 1 rfl rfl) (BL 0) ?_;refine PD 0 ?_;refine PD 1 ?_;refine FD 2 2 bn bk ?_;refine ta 3 rfl (gh (vs:=ints s.view.flat) rfl eS rfl bk rfl (λ_ h=>h.2.1) (an s.view) (λa_=>(fW (s.rep a_) 0 rfl (by decide) (whole (an ((s.rep a_).view)))))) ?_;refine LY 4 np fI aL ?_;refine cT [5,9] (by kernel_rfl) rfl (aG rfl ?_ ?_);refine CE nb (dy s.view c OkVw.rng) ID ?_;refine EN (PD 6 ?_);refine PD 7 ?_;refine PD 8 ?_;refine AL 9 ?_;refine XZ r9 (ints ViewT.zero.flat) λb9=>?_
 refine EN (AL 10 ?_);refine SW 0 bk an ?_;refine EN (PD 11 ?_);refine DN ?_
 exact aF
  SB
  (λ_ s=>am [2,1] rfl s)
  (tl2 (():Unit) trivial)
 refine aG rfl ?_ ?_;refine XZ r9 (ints ViewT.zero.flat) λb9=>?_
 refine EN (AL 5 ?_);refine CE nb (dy s.view c OkVw.rng) ID ?_;refine EN (PD 6 ?_);refine PD 7 ?_;refine PD 8 ?_;refine AL 10 ?_;refine SW 0 bk an ?_;refine EN (PD 11 ?_);refine DN ?_
 exact aF
  SB
  (λ_ s=>am [2,1] rfl s)
  (tl2 (():Unit) trivial)
 exact bJ
theorem Bc{δ:Type}(V:Env δ)(r:Nat)(s:MS δ)(vt:VoteT)(op:Int)(c:ChangeT)[OkR V.toDk s][OkCh c](hrs:s.replies.length≤1000000)(hv:s.vote=some vt):
 DT 95 #[(.pointer (some ⟨r,0,none⟩)),(.iface V.T V.ov),(.int .i64 (op)),(.agg (ints c.flat).toArray)] T0 [cJ V r s] (RI (.int .i64 (dS V.toDk s op c).2) [cJ V r (dS V.toDk s op c).1]):=by
 refine BD 44 Tryz.func95 rfl rfl rfl λw0 F hF=>sr λ_ J1=>XY (ints c.flat) λb7=>?_
 refine PS ?_;refine nx J1 (aa λ_ J2=>fg (α:=Unit) (λ_u=>True) (λ_u=>[(0,(.pointer (some ⟨r,0,none⟩))),(1,(.iface V.T V.ov)),(2,(.int .i64 (op))),(7,(.pointer (some ⟨b7,0,none⟩))),(8,(.int .i64 0)),(10,(.int .i64 ((dY s.view c).2)))]) (λ_u=>[cJ V r s,ak b7 (ints c.flat) 28]) (λ_u hinv=>?_) (λtl2=>?_));have _:=hinv;refine ac J2 (aa λ_ J3=>sr λ_ J4=>Lz (H':=λvb:Nat=>vM V r s (.pointer (some ⟨vb,0,none⟩))::ak vb (VoteT.cells vt) 227::[ak b7 (ints c.flat) 28]) (λ_ q=>nc hv q) (λvb=>P2 ?_));refine ao ?_ ?_<;>intro h21;refine P3 ?_;refine FA 1067 bn jo ?_;refine LG 0 iT (.pointer (some ⟨vb,0,none⟩)) ?_ (hc:=by exact λa_=>(bT _ rfl));refine tq (gg rfl iT rfl rfl) ?_;refine PS ?_;refine nx J4 (CY (ae (cA (H':=cJ V r s::[ak b7 (ints c.flat) 28]) (λ_ q=>om hv (aC [0,0] rfl q)) (PS ?_))));refine nx J3 (aa λ_ J5=>sr λ_ J6=>P2 ?_);refine nx J6 (CN (qx J5 (sr λ_ J7=>P3 ?_)));refine CZ tY (fa V r s op 8 0 (by first|exact hrs| (rw[iO];exact hrs))) ID λvR=>?_
 refine nx J7 (aa λ_ J8=>sr λ_ J9=>P2 ?_);refine nx J9 (CN (qx J8 (sr λ_ J10=>P2 ?_)));refine nx J10 (ai (WK [0] (av rfl rfl ?_)));have e:dS V.toDk s op c=((dM s op 8 0),8):=by rw[dS,show fT s c=8 by rw[fT,if_pos ⟨h21,by rw[hv];rfl⟩]];exact if_pos (by decide)
 exact jO e;refine PS ?_
 iterate 5 refine UF ?_
 refine PS ?_;refine nx J4 (CN (qx J3 (aa λ_ J11=>sr λ_ J12=>cA (H':=cJ V r s::[ak b7 (ints c.flat) 28]) (λ_ q=>om hv (aC [0,0] rfl q)) (P2 ?_))));refine ao ?_ ?_<;>intro h30
 · exact absurd h30 (by first|decide|exact h21)
 refine nx J12 (CN (qx J11 (sr λ_ J13=>P3 ?_)));refine CZ tY (fa V r s op ((dY s.view c).2) 0 (by first|exact hrs| (rw[iO];exact hrs))) ID λvR=>?_
 refine nx J13 (aa λ_ J14=>sr λ_ J15=>P2 ?_);refine ao ?_ ?_<;>intro h39
 · exact absurd h39 (by first|decide|exact h30)
 refine nx J15 (CN (qx J14 (sr λ_ J16=>P2 ?_)));refine nx J16 (ai (WK [0] (av rfl rfl ?_)));have e:dS V.toDk s op c=((dM s op ((dY s.view c).2) 0),(dY s.view c).2):=by rw[dS,show fT s c=(dY s.view c).2 by rw[fT,if_neg (λh=>h30 h.1)]];exact if_pos (by exact h30)
 exact jO e;refine DC bm (cZ 1 rfl rfl) (BL 0) ?_;refine PD 0 ?_;refine PD 1 ?_;refine FD 2 2 bn bk ?_;refine ta 3 rfl (gh (vs:=ints s.view.flat) rfl eS rfl bk rfl (λ_ h=>h.2.1) (an s.view) (λa_=>(fW (s.rep a_) 0 rfl (by decide) (whole (an ((s.rep a_).view)))))) ?_;refine LY 4 np fI aL ?_;refine cT [5,9] (by kernel_rfl) rfl (aG rfl ?_ ?_);refine CE nb (dy s.view c OkVw.rng) ID ?_;refine EN (PD 6 ?_);refine PD 7 ?_;refine PD 8 ?_;refine AL 9 ?_;refine XZ r9 (ints ViewT.zero.flat) λb9=>?_
 refine EN (AL 10 ?_);refine SW 0 bk an ?_;refine EN (PD 11 ?_);refine DN ?_
 exact aF
  SB
  (λ_ s=>am [2,1] rfl s)
  (tl2 (():Unit) trivial)
 refine aG rfl ?_ ?_;refine XZ r9 (ints ViewT.zero.flat) λb9=>?_
 refine EN (AL 5 ?_);refine CE nb (dy s.view c OkVw.rng) ID ?_;refine EN (PD 6 ?_);refine PD 7 ?_;refine PD 8 ?_;refine AL 10 ?_;refine SW 0 bk an ?_;refine EN (PD 11 ?_);refine DN ?_
 exact aF
  SB
  (λ_ s=>am [2,1] rfl s)
  (tl2 (():Unit) trivial)
 exact bJ
theorem Bb{δ:Type}(V:Env δ)(r:Nat)(s:MS δ)(op:Int)(c:ChangeT)[OkR V.toDk s][OkCh c](hrs:s.replies.length≤1000000):DT 95 #[.pointer (some ⟨r,0,none⟩), .iface V.T V.ov, .int .i64 op, .agg (ints c.flat).toArray] T0 [cJ V r s] (RI (.int .i64 (dS V.toDk s op c).2) [cJ V r (dS V.toDk s op c).1]):=by
 cases hv:s.vote with
 |none=>exact Bd V r s op c hrs hv
 |some vt=>exact Bc V r s vt op c hrs hv
theorem wT{δ:Type}(V:Env δ)(r:Nat)(s:MS δ)(o:OpT):DT 96 #[.pointer (some ⟨r,0,none⟩), .agg (ints o.flat).toArray] T0 [cJ V r s] (RI (.tuple #[.agg (ints (dd s o).1.flat).toArray, .int .i64 (dd s o).2.1, .int .i64 (dd s o).2.2]) [cJ V r s]):=Leg.Does.hid (λa=>GI r (s.rep a) o)
theorem A7{δ:Type}(V:Env δ)(r:Nat)(s:MS δ)(o:OpT)[OkR V.toDk s][OkCh o.change](hrs:s.replies.length≤1000000):
 DT 58 #[(.pointer (some ⟨r,0,none⟩)),(.iface V.T V.ov),(.agg (ints o.flat).toArray)] T0 [cJ V r s] (RI (.int .i64 (bW V.toDk s o).2) [cJ V r (bW V.toDk s o).1]):=by
 refine BD 74 Tryz.func58 rfl rfl rfl λw0 F hF=>sr λ_ J1=>XY (ints o.flat) λb5=>?_
 refine PS ?_;refine nx J1 (sr λ_ J2=>P2 ?_);refine FA 1941 bn aQ ?_;refine LG 1 Y3 (.int .i64 (s.ops)) ?_ (hc:=by exact λa_=>(RepT.at_ops _ rfl));refine tp (cC (r:=(fY (s.ops+1))) rfl rfl rfl rfl) ?_;refine PS ?_;refine FA 1941 bn aQ ?_;refine SK 1 aQ (λ_=>cY _) ?_ (hc:=by exact λa_=>(RepT.set_ops _ rfl _));refine nx J2 (sr λ_ J3=>P2 ?_);refine FA 1941 bn aQ ?_;refine LG 1 Y3 (.int .i64 ((bM s).ops)) ?_ (hc:=by exact λa_=>(RepT.at_ops _ rfl));refine PS ?_;refine nx J3 (aa λ_ J4=>aa λ_ J5=>DC bm (cZ 1 rfl rfl) (BL 0) ?_);refine PD 0 ?_;refine PD 1 ?_;refine FD 2 2 bn bk ?_;refine ta 3 rfl (gh (vs:=ints ((bM s).view).flat) rfl eS rfl bk rfl (λ_ h=>h.2.1) (an ((bM s).view)) (λa_=>(fW ((bM s).rep a_) 0 rfl (by decide) (whole (an (((bM s).rep a_).view)))))) ?_;refine PD 4 ?_;refine PD 5 ?_;refine FD 6 0 bn aQ ?_;refine ta 7 rfl (dm (v:=(.int .i64 ((bM s).id))) rfl Y3 rfl rfl (λ_ h=>h.2.1) (λa_=>(cE _ rfl))) ?_;refine AL 8 ?_;refine CE p4 (dI ((bM s).view) ((bM s).id)) ID ?_;refine bc ?_ ?_<;>intro h30;refine EN (PD 9 ?_);refine FD 10 0 fG aQ ?_;refine LR 11 Y3 (cO o rfl) ?_;refine PD 12 ?_;refine jc ?_ ?_<;>intro h34;refine PD 13 ?_;refine DN (ac J5 (CY (sr λ_ J6=>P3 ?_)));refine FA 5 fG fI ?_;refine LV 0 np fI aL OpT.sp_change (y:=o.change) ?_;refine CE OV (Bb V r (bM s) ((bM s).ops) o.change hrs) (SM [1]) ?_;refine PS ?_;refine nx J6 (ai (af (WK [0] (av rfl rfl ?_))))
 have e:bW V.toDk s o=((dS V.toDk (bM s) ((bM s).ops) o.change).1,(dS V.toDk (bM s) (bM s).ops o.change).2):=by rw[bW,show iZ s.view s.id=true from h30,decide_eq_true h34,if_pos (by rfl)]
 exact jO e;refine PD 13 ?_;refine DN (ac J5 (CN (qx J4 (sr λ_ J7=>PS ?_))));refine LW 0 fG Ai DD ?_;refine CE M4 (wT V r (bM s) o) (SM [1]) ?_;refine P4 ?_;refine XZ vf (ints RowT.zero.flat) λb8=>?_
 refine SW 0 be aj ?_;refine P2 ?_;refine nx J7 (aa λ_ J8=>sr λ_ J9=>P2 ?_);refine ao ?_ ?_<;>intro h50;refine PS ?_
 iterate 3 refine UT ?_
 refine PS ?_;refine nx J9 (CY (sr λ_ J10=>P4 ?_));refine CZ tY (fa V r (bM s) ((bM s).ops) ((dd (bM s) o).2.2) ((dd (bM s) o).2.1) (by first|exact hrs| (rw[jG];exact hrs))) (SM [1]) λvR=>?_
 refine nx J10 (sr λ_ J11=>P2 ?_);refine nx J11 (ai (af (WK [0] (av rfl rfl ?_))));have e:bW V.toDk s o=((dM (bM s) ((bM s).ops) ((dd (bM s) o).2.2) ((dd (bM s) o).2.1)),(dd (bM s) o).2.2):=by rw[bW,show iZ s.view s.id=true from h30,decide_eq_false h34,if_neg (by decide),nA,if_pos (.inl h50)]
 exact jO e;refine PS ?_;refine FA 0 fG aQ ?_;refine LU 2 Y3 (cO o rfl) ?_;refine PS ?_;refine ao ?_ ?_<;>intro h54;refine PS ?_;refine nx J9 (CY (sr λ_ J12=>P4 ?_));refine CZ tY (fa V r (bM s) ((bM s).ops) ((dd (bM s) o).2.2) ((dd (bM s) o).2.1) (by first|exact hrs| (rw[jG];exact hrs))) (SM [1]) λvR=>?_
 refine nx J12 (sr λ_ J13=>P2 ?_);refine nx J13 (ai (af (WK [0] (av rfl rfl ?_))));have e:bW V.toDk s o=((dM (bM s) ((bM s).ops) ((dd (bM s) o).2.2) ((dd (bM s) o).2.1)),(dd (bM s) o).2.2):=by rw[bW,show iZ s.view s.id=true from h30,decide_eq_false h34,if_neg (by decide),nA,if_pos (.inr h54)]
 exact jO e;refine PS ?_;refine nx J9 (CN (qx J8 (aa λ_ J14=>sr λ_ J15=>P2 ?_)));refine LW 0 ee be aj ?_;refine PS ?_;refine CE L5 (rI V r (bM s) ((dd (bM s) o).1) ((bM s).ops)) (SM [1]) ?_;refine PS ?_;refine nx J15 (sr λ_ J16=>P2 ?_);refine ao ?_ ?_<;>intro h68;refine nx J16 (CY (ae (P3 ?_)));refine CZ tY (fa V r ((e6 V.toDk (bM s) ((dd (bM s) o).1) ((bM s).ops)).1) ((bM s).ops) ((e6 V.toDk (bM s) ((dd (bM s) o).1) ((bM s).ops)).2) 0 (by first|exact hrs| (rw[jG];exact hrs))) ID λvR=>?_
 refine nx J14 (sr λ_ J17=>P2 ?_);refine nx J17 (ai (WK [0] (av rfl rfl ?_)));have e:bW V.toDk s o=((dM ((e6 V.toDk (bM s) ((dd (bM s) o).1) ((bM s).ops)).1) ((bM s).ops) ((e6 V.toDk (bM s) ((dd (bM s) o).1) ((bM s).ops)).2) 0),(e6 V.toDk (bM s) (dd (bM s) o).1 (bM s).ops).2):=by rw[bW,show iZ s.view s.id=true from h30,decide_eq_false h34,if_neg (by decide),nA,if_neg (λh=>h.elim (λh=>h50 h) (λh=>h54 h)),if_pos h68]
 exact jO e;refine nx J16 (CN (qx J14 (sr λ_ J18=>P2 ?_)));refine nx J18 (ai (WK [0] (av rfl rfl ?_)));have e:bW V.toDk s o=((e6 V.toDk (bM s) ((dd (bM s) o).1) ((bM s).ops)).1,(e6 V.toDk (bM s) (dd (bM s) o).1 (bM s).ops).2):=by rw[bW,show iZ s.view s.id=true from h30,decide_eq_false h34,if_neg (by decide),nA,if_neg (λh=>h.elim (λh=>h50 h) (λh=>h54 h)),if_neg h68,show(e6 V.toDk (bM s) (dd (bM s) o).1 (bM s).ops).2=0 from Decidable.not_not.1 h68]
 exact jO e;refine EN (PD 9 ?_);refine NT 10 ?_;refine NT 11 ?_;refine NT 12 ?_;refine PD 13 ?_;refine DN (ac J5 (CN (qx J4 (sr λ_ J19=>PS ?_))));refine LW 0 fG Ai DD ?_;refine CE M4 (wT V r (bM s) o) (SM [1]) ?_;refine P4 ?_;refine XZ vf (ints RowT.zero.flat) λb8=>?_
 refine SW 0 be aj ?_;refine P2 ?_;refine nx J19 (aa λ_ J20=>sr λ_ J21=>P2 ?_);refine ao ?_ ?_<;>intro h50;refine PS ?_
 iterate 3 refine UT ?_
 refine PS ?_;refine nx J21 (CY (sr λ_ J22=>P4 ?_));refine CZ tY (fa V r (bM s) ((bM s).ops) ((dd (bM s) o).2.2) ((dd (bM s) o).2.1) (by first|exact hrs| (rw[jG];exact hrs))) (SM [1]) λvR=>?_
 refine nx J22 (sr λ_ J23=>P2 ?_);refine nx J23 (ai (af (WK [0] (av rfl rfl ?_))));have e:bW V.toDk s o=((dM (bM s) ((bM s).ops) ((dd (bM s) o).2.2) ((dd (bM s) o).2.1)),(dd (bM s) o).2.2):=by rw[bW,show iZ s.view s.id=false from h30,if_neg (by rw[gS];decide),nA,if_pos (.inl h50)]
 exact jO e;refine PS ?_;refine FA 0 fG aQ ?_;refine LU 2 Y3 (cO o rfl) ?_;refine PS ?_;refine ao ?_ ?_<;>intro h54;refine PS ?_;refine nx J21 (CY (sr λ_ J24=>P4 ?_));refine CZ tY (fa V r (bM s) ((bM s).ops) ((dd (bM s) o).2.2) ((dd (bM s) o).2.1) (by first|exact hrs| (rw[jG];exact hrs))) (SM [1]) λvR=>?_
 refine nx J24 (sr λ_ J25=>P2 ?_);refine nx J25 (ai (af (WK [0] (av rfl rfl ?_))));have e:bW V.toDk s o=((dM (bM s) ((bM s).ops) ((dd (bM s) o).2.2) ((dd (bM s) o).2.1)),(dd (bM s) o).2.2):=by rw[bW,show iZ s.view s.id=false from h30,if_neg (by rw[gS];decide),nA,if_pos (.inr h54)]
 exact jO e;refine PS ?_;refine nx J21 (CN (qx J20 (aa λ_ J26=>sr λ_ J27=>P2 ?_)));refine LW 0 ee be aj ?_;refine PS ?_;refine CE L5 (rI V r (bM s) ((dd (bM s) o).1) ((bM s).ops)) (SM [1]) ?_;refine PS ?_;refine nx J27 (sr λ_ J28=>P2 ?_);refine ao ?_ ?_<;>intro h68;refine nx J28 (CY (ae (P3 ?_)));refine CZ tY (fa V r ((e6 V.toDk (bM s) ((dd (bM s) o).1) ((bM s).ops)).1) ((bM s).ops) ((e6 V.toDk (bM s) ((dd (bM s) o).1) ((bM s).ops)).2) 0 (by first|exact hrs| (rw[jG];exact hrs))) ID λvR=>?_
 refine nx J26 (sr λ_ J29=>P2 ?_);refine nx J29 (ai (WK [0] (av rfl rfl ?_)));have e:bW V.toDk s o=((dM ((e6 V.toDk (bM s) ((dd (bM s) o).1) ((bM s).ops)).1) ((bM s).ops) ((e6 V.toDk (bM s) ((dd (bM s) o).1) ((bM s).ops)).2) 0),(e6 V.toDk (bM s) (dd (bM s) o).1 (bM s).ops).2):=by rw[bW,show iZ s.view s.id=false from h30,if_neg (by rw[gS];decide),nA,if_neg (λh=>h.elim (λh=>h50 h) (λh=>h54 h)),if_pos h68]
 exact jO e;refine nx J28 (CN (qx J26 (sr λ_ J30=>P2 ?_)));refine nx J30 (ai (WK [0] (av rfl rfl ?_)));have e:bW V.toDk s o=((e6 V.toDk (bM s) ((dd (bM s) o).1) ((bM s).ops)).1,(e6 V.toDk (bM s) (dd (bM s) o).1 (bM s).ops).2):=by rw[bW,show iZ s.view s.id=false from h30,if_neg (by rw[gS];decide),nA,if_neg (λh=>h.elim (λh=>h50 h) (λh=>h54 h)),if_neg h68,show(e6 V.toDk (bM s) (dd (bM s) o).1 (bM s).ops).2=0 from Decidable.not_not.1 h68]
 exact jO e
theorem DU{δ:Type}(V:Env δ)(r:Nat)(s:MS δ)[OkR V.toDk s](hv:(fZ V.toDk (ca V.toDk (bQ V.toDk s))).vote=none):
 DT 60 #[(.pointer (some ⟨r,0,none⟩)),(.iface V.T V.ov)] T0 [cJ V r s] (dz (λ_ H=>H=[cJ V r (im V.toDk s)])):=by
 refine BD 89 Tryz.func60 rfl rfl rfl λw0 F hF=>aa λ_ J1=>fg (α:=Unit) (λ_u=>True) (λ_u=>[(0,(.pointer (some ⟨r,0,none⟩))),(1,(.iface V.T V.ov))]) (λ_u=>[cJ V r (if s.busy=true then fl V.toDk s else s)]) (λ_u hinv=>?_) (λtl1=>?_)
 have _:=hinv;refine ac J1 (sr λ_ J2=>P2 ?_);refine CZ FM (o9 V r (if s.busy=true then fl V.toDk s else s)) ID λvR=>?_
 refine nx J2 (sr λ_ J3=>P2 ?_);refine CZ IG (qf V r (lZ V.toDk (if s.busy=true then fl V.toDk s else s))) ID λvR=>?_
 refine nx J3 (aa λ_ J4=>fg (α:=Unit) (λ_u=>True) (λ_u=>[(0,(.pointer (some ⟨r,0,none⟩))),(1,(.iface V.T V.ov))]) (λ_u=>[cJ V r (ca V.toDk (bQ V.toDk s))]) (λ_u hinv=>?_) (λtl4=>?_));have _:=hinv;refine ac J4 (aa λ_ J5=>aa λ_ J6=>DB bm (cZ 0 rfl rfl) ?_);refine PD 0 ?_;refine PD 1 ?_;refine FD 2 2 bn bk ?_;refine ta 3 rfl (gh (vs:=ints ((ca V.toDk (bQ V.toDk s)).view).flat) rfl eS rfl bk rfl (λ_ h=>h.2.1) (an ((ca V.toDk (bQ V.toDk s)).view)) (λa_=>(fW ((ca V.toDk (bQ V.toDk s)).rep a_) 0 rfl (by decide) (whole (an (((ca V.toDk (bQ V.toDk s)).rep a_).view)))))) ?_;refine PD 4 ?_;refine PD 5 ?_;refine FD 6 0 bn aQ ?_;refine ta 7 rfl (dm (v:=(.int .i64 ((ca V.toDk (bQ V.toDk s)).id))) rfl Y3 rfl rfl (λ_ h=>h.2.1) (λa_=>(cE _ rfl))) ?_;refine AL 8 ?_;refine CE p4 (dI ((ca V.toDk (bQ V.toDk s)).view) ((ca V.toDk (bQ V.toDk s)).id)) ID ?_;refine bc ?_ ?_<;>intro h42;refine EN (PD 9 ?_);refine DN (ac J6 (CN (qx J5 (aa λ_ J7=>fg (α:=Unit) (λ_u=>True) (λ_u=>[(0,(.pointer (some ⟨r,0,none⟩))),(1,(.iface V.T V.ov))]) (λ_u=>[cJ V r (fZ V.toDk (ca V.toDk (bQ V.toDk s)))]) (λ_u hinv=>?_) (λtl7=>?_)))));have _:=hinv;refine ac J7 (aa λ_ J8=>sr λ_ J9=>cA (H':=vM V r (fZ V.toDk (ca V.toDk (bQ V.toDk s))) (.pointer none)::[]) (λ_ q=>sW hv q) (P2 ?_));refine FA 1067 bn jo ?_;refine LG 0 iT (.pointer none) ?_ (hc:=by exact λa_=>(bT _ rfl))
 refine tp (Jp rfl iT rfl rfl) ?_;refine nx J9 (CY (ai (af (aF (H':=[cJ V r (fZ V.toDk (ca V.toDk (bQ V.toDk s)))]) (dK _) (λ_ q=>oo hv (am [0] rfl q)) (dP rfl ?_)))));exact MQ (by rw[im,if_pos h42,pO,hv]);refine aa λ_ J10=>fg (α:=(Nat)) (λb4=>True) (λb4=>[(0,(.pointer (some ⟨r,0,none⟩))),(1,(.iface V.T V.ov)),(4,(.pointer (some ⟨b4,0,none⟩)))]) (λb4=>[cJ V r (ca V.toDk (bQ V.toDk s)),ak b4 (ints (cr (ca V.toDk (bQ V.toDk s)).book (ca V.toDk (bQ V.toDk s)).id).flat) 60]) (λb4 hinv=>?_) (λtl10=>?_)
 have _:=hinv;refine ac J10 (sr λ_ J11=>FA 0 ee aQ ?_);refine LT 1 Y3 (.int .i64 ((cr (ca V.toDk (bQ V.toDk s)).book (ca V.toDk (bQ V.toDk s)).id).version)) ?_ (hc:=by exact cH _ rfl);refine PS ?_;refine ao ?_ ?_<;>intro h54;refine nx J11 (CY (ae (P2 ?_)));refine LW 1 ee be aj ?_;refine CZ IE (m5 V r (ca V.toDk (bQ V.toDk s)) (cr (ca V.toDk (bQ V.toDk s)).book (ca V.toDk (bQ V.toDk s)).id)) ID λvR=>?_
 refine au ?_
 exact aF
  SB
  (λ_ q=>by
   rw[fZ,if_pos h54]
   exact am [0] rfl q)
  (tl7 (():Unit) trivial)
 refine nx J11 (CN (aU ?_))
 exact aF
  SB
  (λ_ q=>by
   rw[fZ,if_neg h54]
   exact am [0] rfl q)
  (tl7 (():Unit) trivial)
 refine DB bm (cZ 0 rfl rfl) ?_;refine PD 0 ?_;refine PD 1 ?_;refine FD 2 1068 bn wn ?_;refine PD 3 ?_;refine PD 4 ?_;refine FD 5 0 bn aQ ?_;refine ta 6 rfl (dm (v:=(.int .i64 ((ca V.toDk (bQ V.toDk s)).id))) rfl Y3 rfl rfl (λ_ h=>h.2.1) (λa_=>(cE _ rfl))) ?_;refine cT [7,8] (by kernel_rfl) rfl (aG rfl ?_ ?_);refine CE Kh (Leg.Does.hid (λa_=>mP r 1068 123 _ (gQ ((ca V.toDk (bQ V.toDk s)).rep a_)) (ca V.toDk (bQ V.toDk s)).book ((ca V.toDk (bQ V.toDk s)).id))) ID ?_;refine EN (AL 8 ?_);refine XZ vf (ints RowT.zero.flat) λb4=>?_
 refine EN (AL 9 ?_);refine SW 0 be aj ?_;refine EN (DN ?_)
 exact aF
  SB
  (λ_ s=>am [1,0] rfl s)
  (tl10 ((b4):(Nat)) trivial)
 refine aG rfl ?_ ?_;refine XZ vf (ints RowT.zero.flat) λb4=>?_
 refine EN (AL 7 ?_);refine CE Kh (Leg.Does.hid (λa_=>mP r 1068 123 _ (gQ ((ca V.toDk (bQ V.toDk s)).rep a_)) (ca V.toDk (bQ V.toDk s)).book ((ca V.toDk (bQ V.toDk s)).id))) (SM [1]) ?_;refine EN (AL 9 ?_);refine SW 1 be aj ?_;refine EN (DN ?_)
 exact aF
  SB
  (λ_ s=>am [0,0] rfl s)
  (tl10 ((b4):(Nat)) trivial)
 exact bJ;refine EN (PD 9 ?_);refine DN (ac J6 (CY (ai (af (WK [0] (dP rfl ?_))))));exact MQ (by rw[im,if_neg (by rw[h42];decide)]);refine sr λ_ J12=>P2 ?_
 refine FA 2 bn bk ?_;refine FA 2 eS aQ ?_;refine LG 0 Y3 (.int .i64 (((bQ V.toDk s).view).epoch)) ?_ (hc:=by exact λa_=>(cf ((bQ V.toDk s).rep a_) 0 rfl (by decide) (bi _ rfl)));refine PS ?_;refine ao ?_ ?_<;>intro h26;refine nx J12 (CY (ae (P4 ?_)));refine FA 2 bn bk ?_;refine LZ 0 eS bk an ((bQ V.toDk s).view) ?_ (hc:=by exact λ_=>cX _);refine CZ IF (m4 V r (bQ V.toDk s) ((bQ V.toDk s).view)) ID λvR=>?_
 refine au ?_
 exact aF
  SB
  (λ_ q=>by
   rw[ca,if_pos h26]
   exact am [0] rfl q)
  (tl4 (():Unit) trivial)
 refine nx J12 (CN (aU ?_))
 exact aF
  SB
  (λ_ q=>by
   rw[ca,if_neg h26]
   exact am [0] rfl q)
  (tl4 (():Unit) trivial)
 refine sr λ_ J13=>P2 ?_
 refine FA 1938 bn k9 ?_;refine LG 0 Y4 (.bool (s.busy)) ?_ (hc:=by exact λa_=>(yH _ rfl));refine bc ?_ ?_<;>intro h11;refine nx J13 (CY (ae (P2 ?_)));refine CZ IH (nR V r s) ID λvR=>?_
 refine au ?_
 exact aF
  SB
  (λ_ q=>by
   rw[if_pos h11]
   exact am [0] rfl q)
  (tl1 (():Unit) trivial)
 refine nx J13 (CN (aU ?_))
 exact aF
  SB
  (λ_ q=>by
   rw[if_neg (by rw[h11];decide)]
   exact am [0] rfl q)
  (tl1 (():Unit) trivial)
theorem DR{δ:Type}(V:Env δ)(r:Nat)(s:MS δ)(vt:VoteT)[OkR V.toDk s](hv:(fZ V.toDk (ca V.toDk (bQ V.toDk s))).vote=some vt):
 DT 60 #[(.pointer (some ⟨r,0,none⟩)),(.iface V.T V.ov)] T0 [cJ V r s] (dz (λ_ H=>H=[cJ V r (im V.toDk s)])):=by
 refine BD 89 Tryz.func60 rfl rfl rfl λw0 F hF=>?_
 have hov:OkVt vt:=OkR.vote vt hv;refine aa λ_ J1=>fg (α:=Unit) (λ_u=>True) (λ_u=>[(0,(.pointer (some ⟨r,0,none⟩))),(1,(.iface V.T V.ov))]) (λ_u=>[cJ V r (if s.busy=true then fl V.toDk s else s)]) (λ_u hinv=>?_) (λtl1=>?_)
 have _:=hinv;refine ac J1 (sr λ_ J2=>P2 ?_);refine CZ FM (o9 V r (if s.busy=true then fl V.toDk s else s)) ID λvR=>?_
 refine nx J2 (sr λ_ J3=>P2 ?_);refine CZ IG (qf V r (lZ V.toDk (if s.busy=true then fl V.toDk s else s))) ID λvR=>?_
 refine nx J3 (aa λ_ J4=>fg (α:=Unit) (λ_u=>True) (λ_u=>[(0,(.pointer (some ⟨r,0,none⟩))),(1,(.iface V.T V.ov))]) (λ_u=>[cJ V r (ca V.toDk (bQ V.toDk s))]) (λ_u hinv=>?_) (λtl4=>?_));have _:=hinv;refine ac J4 (aa λ_ J5=>aa λ_ J6=>DB bm (cZ 0 rfl rfl) ?_);refine PD 0 ?_;refine PD 1 ?_;refine FD 2 2 bn bk ?_;refine ta 3 rfl (gh (vs:=ints ((ca V.toDk (bQ V.toDk s)).view).flat) rfl eS rfl bk rfl (λ_ h=>h.2.1) (an ((ca V.toDk (bQ V.toDk s)).view)) (λa_=>(fW ((ca V.toDk (bQ V.toDk s)).rep a_) 0 rfl (by decide) (whole (an (((ca V.toDk (bQ V.toDk s)).rep a_).view)))))) ?_;refine PD 4 ?_;refine PD 5 ?_;refine FD 6 0 bn aQ ?_;refine ta 7 rfl (dm (v:=(.int .i64 ((ca V.toDk (bQ V.toDk s)).id))) rfl Y3 rfl rfl (λ_ h=>h.2.1) (λa_=>(cE _ rfl))) ?_;refine AL 8 ?_;refine CE p4 (dI ((ca V.toDk (bQ V.toDk s)).view) ((ca V.toDk (bQ V.toDk s)).id)) ID ?_;refine bc ?_ ?_<;>intro h42;refine EN (PD 9 ?_);refine DN (ac J6 (CN (qx J5 (aa λ_ J7=>fg (α:=Unit) (λ_u=>True) (λ_u=>[(0,(.pointer (some ⟨r,0,none⟩))),(1,(.iface V.T V.ov))]) (λ_u=>[cJ V r (fZ V.toDk (ca V.toDk (bQ V.toDk s)))]) (λ_u hinv=>?_) (λtl7=>?_)))));have _:=hinv;refine ac J7 (aa λ_ J8=>sr λ_ J9=>Lz (H':=λvb:Nat=>vM V r (fZ V.toDk (ca V.toDk (bQ V.toDk s))) (.pointer (some ⟨vb,0,none⟩))::ak vb (VoteT.cells vt) 227::[]) (λ_ q=>nc hv q) (λvb=>P2 ?_));refine FA 1067 bn jo ?_
 refine LG 0 iT (.pointer (some ⟨vb,0,none⟩)) ?_ (hc:=by exact λa_=>(bT _ rfl));refine tp (jf rfl iT rfl rfl) ?_;refine nx J9 (CN (qx J8 (sr λ_ J10=>P2 ?_)));refine FA 1067 bn jo ?_;refine LG 0 iT (.pointer (some ⟨vb,0,none⟩)) ?_ (hc:=by exact λa_=>(bT _ rfl));refine CE oj (dh vb vt) (SM [1]) ?_;change TL _ _ _ _ _ _ _ _ _ [ak vb (VoteT.cells vt) 227,vM V r (fZ V.toDk (ca V.toDk (bQ V.toDk s))) (.pointer (some ⟨vb,0,none⟩))];refine cA (H':=cJ V r (fZ V.toDk (ca V.toDk (bQ V.toDk s)))::[]) (λ_ q=>om hv (aC [1,0] rfl q)) (XZ OE (ints ChangeT.zero.flat) λb5=>?_);refine SW 0 fI aL ?_;refine nx J10 (aa λ_ J11=>fg (α:=Unit) (λ_u=>True) (λ_u=>[(0,(.pointer (some ⟨r,0,none⟩))),(1,(.iface V.T V.ov)),(5,(.pointer (some ⟨b5,0,none⟩))),(7,(.int .i64 ((dY (fZ V.toDk (ca V.toDk (bQ V.toDk s))).view vt.change).2)))]) (λ_u=>[cJ V r (fZ V.toDk (ca V.toDk (bQ V.toDk s))),ak b5 (ints vt.change.flat) 28]) (λ_u hinv=>?_) (λtl11=>?_));have _:=hinv;refine ac J11 (sr λ_ J12=>P2 ?_);refine ao ?_ ?_<;>intro h79;refine P2 ?_;refine LW 1 np fI aL ?_;refine CE IC (qj V r (fZ V.toDk (ca V.toDk (bQ V.toDk s))) vt.change) ID ?_;refine PS ?_;refine ao ?_ ?_<;>intro h84;refine PS ?_;refine nx J12 (CY (ae (P2 ?_)))
 refine CZ FL (rq V r ((cD V.toDk (fZ V.toDk (ca V.toDk (bQ V.toDk s))) vt.change).1) (kd (fZ V.toDk (ca V.toDk (bQ V.toDk s))).view (eP (fZ V.toDk (ca V.toDk (bQ V.toDk s)))) vt.change) (rO h84)) ID λvR=>?_
 refine au (WK [0] (bD rfl ?_));exact MQ (by rw[im,if_pos h42,pO,hv];simp only[];rw[if_pos h79,if_pos h84]);refine PS ?_;refine nx J12 (CN (aU (WK [0] (bD rfl ?_))));exact MQ (by rw[im,if_pos h42,pO,hv];simp only[];rw[if_pos h79,if_neg h84]);refine PS ?_
 iterate 4 refine UF ?_
 refine PS ?_;refine nx J12 (CN (aU (WK [0] (bD rfl ?_))));exact MQ (by rw[im,if_pos h42,pO,hv];simp only[];rw[if_neg h79]);refine DC bm (cZ 1 rfl rfl) (BL 0) ?_;refine PD 0 ?_;refine PD 1 ?_;refine FD 2 2 bn bk ?_;refine ta 3 rfl (gh (vs:=ints ((fZ V.toDk (ca V.toDk (bQ V.toDk s))).view).flat) rfl eS rfl bk rfl (λ_ h=>h.2.1) (an ((fZ V.toDk (ca V.toDk (bQ V.toDk s))).view)) (λa_=>(fW ((fZ V.toDk (ca V.toDk (bQ V.toDk s))).rep a_) 0 rfl (by decide) (whole (an (((fZ V.toDk (ca V.toDk (bQ V.toDk s))).rep a_).view)))))) ?_;refine LY 4 np fI aL ?_;refine cT [5,9] (by kernel_rfl) rfl (aG rfl ?_ ?_);refine CE nb (dy ((fZ V.toDk (ca V.toDk (bQ V.toDk s))).view) vt.change OkVw.rng) ID ?_;refine EN (PD 6 ?_);refine PD 7 ?_;refine PD 8 ?_;refine AL 9 ?_;refine XZ r9 (ints ViewT.zero.flat) λb6=>?_
 refine EN (AL 10 ?_);refine SW 0 bk an ?_;refine EN (PD 11 ?_);refine DN ?_
 exact aF
  SB
  (λ_ s=>am [2,1] rfl s)
  (tl11 (():Unit) trivial)
 refine aG rfl ?_ ?_;refine XZ r9 (ints ViewT.zero.flat) λb6=>?_
 refine EN (AL 5 ?_);refine CE nb (dy ((fZ V.toDk (ca V.toDk (bQ V.toDk s))).view) vt.change OkVw.rng) ID ?_;refine EN (PD 6 ?_);refine PD 7 ?_;refine PD 8 ?_;refine AL 10 ?_;refine SW 0 bk an ?_;refine EN (PD 11 ?_);refine DN ?_
 exact aF
  SB
  (λ_ s=>am [2,1] rfl s)
  (tl11 (():Unit) trivial)
 exact bJ;refine aa λ_ J13=>fg (α:=(Nat)) (λb4=>True) (λb4=>[(0,(.pointer (some ⟨r,0,none⟩))),(1,(.iface V.T V.ov)),(4,(.pointer (some ⟨b4,0,none⟩)))]) (λb4=>[cJ V r (ca V.toDk (bQ V.toDk s)),ak b4 (ints (cr (ca V.toDk (bQ V.toDk s)).book (ca V.toDk (bQ V.toDk s)).id).flat) 60]) (λb4 hinv=>?_) (λtl13=>?_)
 have _:=hinv;refine ac J13 (sr λ_ J14=>FA 0 ee aQ ?_);refine LT 1 Y3 (.int .i64 ((cr (ca V.toDk (bQ V.toDk s)).book (ca V.toDk (bQ V.toDk s)).id).version)) ?_ (hc:=by exact cH _ rfl);refine PS ?_;refine ao ?_ ?_<;>intro h54;refine nx J14 (CY (ae (P2 ?_)));refine LW 1 ee be aj ?_;refine CZ IE (m5 V r (ca V.toDk (bQ V.toDk s)) (cr (ca V.toDk (bQ V.toDk s)).book (ca V.toDk (bQ V.toDk s)).id)) ID λvR=>?_
 refine au ?_
 exact aF
  SB
  (λ_ q=>by
   rw[fZ,if_pos h54]
   exact am [0] rfl q)
  (tl7 (():Unit) trivial)
 refine nx J14 (CN (aU ?_))
 exact aF
  SB
  (λ_ q=>by
   rw[fZ,if_neg h54]
   exact am [0] rfl q)
  (tl7 (():Unit) trivial)
 refine DB bm (cZ 0 rfl rfl) ?_;refine PD 0 ?_;refine PD 1 ?_;refine FD 2 1068 bn wn ?_;refine PD 3 ?_;refine PD 4 ?_;refine FD 5 0 bn aQ ?_;refine ta 6 rfl (dm (v:=(.int .i64 ((ca V.toDk (bQ V.toDk s)).id))) rfl Y3 rfl rfl (λ_ h=>h.2.1) (λa_=>(cE _ rfl))) ?_;refine cT [7,8] (by kernel_rfl) rfl (aG rfl ?_ ?_);refine CE Kh (Leg.Does.hid (λa_=>mP r 1068 123 _ (gQ ((ca V.toDk (bQ V.toDk s)).rep a_)) (ca V.toDk (bQ V.toDk s)).book ((ca V.toDk (bQ V.toDk s)).id))) ID ?_;refine EN (AL 8 ?_);refine XZ vf (ints RowT.zero.flat) λb4=>?_
 refine EN (AL 9 ?_);refine SW 0 be aj ?_;refine EN (DN ?_)
 exact aF
  SB
  (λ_ s=>am [1,0] rfl s)
  (tl13 ((b4):(Nat)) trivial)
 refine aG rfl ?_ ?_;refine XZ vf (ints RowT.zero.flat) λb4=>?_
 refine EN (AL 7 ?_);refine CE Kh (Leg.Does.hid (λa_=>mP r 1068 123 _ (gQ ((ca V.toDk (bQ V.toDk s)).rep a_)) (ca V.toDk (bQ V.toDk s)).book ((ca V.toDk (bQ V.toDk s)).id))) (SM [1]) ?_;refine EN (AL 9 ?_);refine SW 1 be aj ?_;refine EN (DN ?_)
 exact aF
  SB
  (λ_ s=>am [0,0] rfl s)
  (tl13 ((b4):(Nat)) trivial)
 exact bJ;refine EN (PD 9 ?_);refine DN (ac J6 (CY (ai (af (WK [0] (dP rfl ?_))))));exact MQ (by rw[im,if_neg (by rw[h42];decide)]);refine sr λ_ J15=>P2 ?_
 refine FA 2 bn bk ?_;refine FA 2 eS aQ ?_;refine LG 0 Y3 (.int .i64 (((bQ V.toDk s).view).epoch)) ?_ (hc:=by exact λa_=>(cf ((bQ V.toDk s).rep a_) 0 rfl (by decide) (bi _ rfl)));refine PS ?_;refine ao ?_ ?_<;>intro h26;refine nx J15 (CY (ae (P4 ?_)));refine FA 2 bn bk ?_;refine LZ 0 eS bk an ((bQ V.toDk s).view) ?_ (hc:=by exact λ_=>cX _);refine CZ IF (m4 V r (bQ V.toDk s) ((bQ V.toDk s).view)) ID λvR=>?_
 refine au ?_
 exact aF
  SB
  (λ_ q=>by
   rw[ca,if_pos h26]
   exact am [0] rfl q)
  (tl4 (():Unit) trivial)
 refine nx J15 (CN (aU ?_))
 exact aF
  SB
  (λ_ q=>by
   rw[ca,if_neg h26]
   exact am [0] rfl q)
  (tl4 (():Unit) trivial)
 refine sr λ_ J16=>P2 ?_
 refine FA 1938 bn k9 ?_;refine LG 0 Y4 (.bool (s.busy)) ?_ (hc:=by exact λa_=>(yH _ rfl));refine bc ?_ ?_<;>intro h11;refine nx J16 (CY (ae (P2 ?_)));refine CZ IH (nR V r s) ID λvR=>?_
 refine au ?_
 exact aF
  SB
  (λ_ q=>by
   rw[if_pos h11]
   exact am [0] rfl q)
  (tl1 (():Unit) trivial)
 refine nx J16 (CN (aU ?_))
 exact aF
  SB
  (λ_ q=>by
   rw[if_neg (by rw[h11];decide)]
   exact am [0] rfl q)
  (tl1 (():Unit) trivial)
theorem DQ{δ:Type}(V:Env δ)(r:Nat)(s:MS δ)[OkR V.toDk s]:DT 60 #[.pointer (some ⟨r,0,none⟩), .iface V.T V.ov] T0 [cJ V r s] (dz (λ_ H=>H=[cJ V r (im V.toDk s)])):=by
 cases hv:(fZ V.toDk (ca V.toDk (bQ V.toDk s))).vote with
 |none=>exact DU V r s hv
 |some vt=>exact DR V r s vt hv
abbrev DF{δ:Type}(lg r:Nat)(s:MS δ):HP:=hid r (λ_:Unit=>RepT.cells (s.rep ⟨lg, .pointer none, .slice none 0 0⟩)) 123 (λ_=>[])
theorem uZ{δ:Type}(lg r:Nat)(s:MS δ)(v:ViewT):
 DT 93 #[(.pointer (some ⟨r,0,none⟩)),(.agg (ints v.flat).toArray)] T0 [DF lg r s] (dz (λ_ H=>H=[DF lg r (mj s v)])):=by
 refine BD 20 Tryz.func93 rfl rfl rfl λw0 F hF=>sr λ_ J1=>XY (ints v.flat) λb3=>?_
 refine nx J1 (sr λ_ J2=>PS ?_);refine LW 0 eS bk an ?_;refine PS ?_;refine FA 2 bn bk ?_;refine g9 (vs:=ints v.flat) (i:=1) (ab rfl) rfl rfl rfl rfl rfl (by rw[(an v)];exact bk) (bC _) rfl rfl (λ_=>LC (cY _) (an _)) (λa_=>(Pu (s.rep ⟨lg, .pointer none, .slice none 0 0⟩) 0 rfl (by have h1:=(an v);omega) (ct ((an ((s.rep ⟨lg, .pointer none, .slice none 0 0⟩).view)).trans (an v).symm)))) (nx J2 (sr λ_ J3=>PS ?_));refine FA 0 eS aQ ?_;refine LU 0 Y3 (bi v rfl) ?_;refine tp (lm AccT.zero (AccT.mk v.epoch BallotT.zero BallotT.zero ChangeT.zero) [(0,[Value.int .i64 v.epoch])] jb oG (g:=AccT.sg)) ?_;refine PS ?_;refine FA 1058 bn dF ?_;refine g9 (vs:=ints (AccT.mk v.epoch BallotT.zero BallotT.zero ChangeT.zero).flat) (i:=1) (ab rfl) rfl rfl rfl rfl rfl (by rw[(bb (AccT.mk v.epoch BallotT.zero BallotT.zero ChangeT.zero))];exact dF) (bC _) rfl rfl (λ_=>LC (cY _) (bb _)) (λa_=>(ky ((MS.setView s v).rep ⟨lg, .pointer none, .slice none 0 0⟩) 0 rfl (by have h1:=(bb (AccT.mk v.epoch BallotT.zero BallotT.zero ChangeT.zero));omega) (ct ((bb (((MS.setView s v).rep ⟨lg, .pointer none, .slice none 0 0⟩).acc)).trans (bb (AccT.mk v.epoch BallotT.zero BallotT.zero ChangeT.zero)).symm)))) (nx J3 (sr λ_ J4=>P2 ?_));refine FA 1067 bn jo ?_;refine SK 1 jo (λ_=>cY _) ?_ (hc:=by exact λa_=>(Pv _ rfl _));refine nx J4 (ae (P2 ?_));refine FA 1066 bn aQ ?_;refine SK 1 aQ (λ_=>cY _) ?_ (hc:=by exact λa_=>(l7 _ rfl _))
 exact au (WK [1] (bD rfl rfl))
theorem yi{δ:Type}(lg r:Nat)(s:MS δ)(m:RecT)(hw:WF m.row.flat):
 DT 94 #[(.pointer (some ⟨r,0,none⟩)),(.agg (ints m.flat).toArray)] T0 [DF lg r s] (dz (λ_ H=>H=[DF lg r (iX s m)])):=by
 refine BD 93 Tryz.func94 rfl rfl rfl λw0 F hF=>sr λ_ J1=>XY (ints m.flat) λb3=>?_
 refine nx J1 (sr λ_ J2=>FA 0 je aQ ?_);refine LU 0 Y3 (kA m rfl) ?_;refine nx J2 (aq (sr λ_ J3=>PS ?_));refine ao ?_ ?_<;>intro h7;refine PS ?_;refine nx J3 (CY (ae (P3 ?_)));refine FA 2 je be ?_;refine LV 0 ee be aj RecT.sp_row (y:=m.row) ?_;refine PS ?_;refine FA 9 bn be ?_;refine g9 (vs:=ints m.row.flat) (i:=1) (ab rfl) rfl rfl rfl rfl rfl (by rw[(aj m.row)];exact be) (bC _) rfl rfl (λ_=>LC (cY _) (aj _)) (λa_=>(PQ (s.rep ⟨lg, .pointer none, .slice none 0 0⟩) 0 rfl (by have h1:=(aj m.row);omega) (ct ((aj ((s.rep ⟨lg, .pointer none, .slice none 0 0⟩).own)).trans (aj m.row).symm)))) (PS ?_);refine FA 1938 bn k9 ?_;refine SK 1 k9 (λ_=>cY _) ?_ (hc:=by exact λa_=>(Px _ rfl _));refine PS ?_;refine FA 1939 bn aQ ?_;refine SK 1 aQ (λ_=>cY _) ?_ (hc:=by exact λa_=>(Pw _ rfl _));refine au (ag (WK [1] (bD rfl ?_)));exact congrArg (λq=>[DF lg r q]) (show(MS.setKept (MS.setBusy (MS.setOwn s m.row) true) 0)=iX s m by rw[iX,if_pos h7]<;>rfl);refine PS ?_;refine nx J3 (CN (sr λ_ J4=>PS ?_));refine ao ?_ ?_<;>intro h20;refine PS ?_;refine nx J4 (CY (D1 0 bm ?_));refine PD 0 ?_;refine PD 1 ?_;refine FD 2 183 bn oc ?_;refine FD 3 1 je aQ ?_;refine LR 4 Y3 (F4 m rfl) ?_;refine FD 5 2 je be ?_;refine ta 6 rfl (aM (vs:=ints m.row.flat) rfl ee rfl be rfl (λ_ h=>h.2.1) (aj m.row) (rU m 0 rfl (by decide) (whole (aj m.row)))) ?_;refine AL 7 ?_
 refine CE Lk (Leg.Does.hid (λa_=>sY r 183 123 _ (dZ (s.rep ⟨lg, .pointer none, .slice none 0 0⟩)) s.mirror m.whose m.row hw)) (SM [1]) ?_;refine EN (DN (ag (WK [0] (bD rfl ?_))));exact congrArg (λq=>[DF lg r q]) (show(iu s m.whose m.row)=iX s m by rw[iX,if_neg h7,if_pos h20]<;>rfl);refine PS ?_;refine nx J4 (CN (sr λ_ J5=>PS ?_));refine ao ?_ ?_<;>intro h30;refine PS ?_;refine nx J5 (CY (D1 0 bm ?_));refine PD 0 ?_;refine PD 1 ?_;refine FD 2 183 bn oc ?_;refine FD 3 1 je aQ ?_;refine LR 4 Y3 (F4 m rfl) ?_;refine AL 5 ?_;refine CE Lj (Leg.Does.hid (λa_=>sX r 183 123 _ (dZ (s.rep ⟨lg, .pointer none, .slice none 0 0⟩)) s.mirror m.whose)) (SM [1]) ?_;refine EN (DN (ag (WK [0] (bD rfl ?_))));exact congrArg (λq=>[DF lg r q]) (show(jT s m.whose)=iX s m by rw[iX,if_neg h7,if_neg h20,if_pos h30]<;>rfl);refine PS ?_;refine nx J5 (CN (sr λ_ J6=>PS ?_));refine ao ?_ ?_<;>intro h38;refine PS ?_;refine nx J6 (CY (sr λ_ J7=>PS ?_));refine FA 177 je cz ?_;refine LV 0 kg cz ap RecT.sp_ballot (y:=m.ballot) ?_;refine PS ?_;refine FA 1058 bn dF ?_;refine FA 1059 jb cz ?_
 refine g9 (vs:=ints m.ballot.flat) (i:=1) (ab rfl) rfl rfl rfl rfl rfl (by rw[(ap m.ballot)];exact cz) (bC _) rfl rfl (λ_=>LC (cY _) (ap _)) (λa_=>(ky (s.rep ⟨lg, .pointer none, .slice none 0 0⟩) 1 rfl (by have h1:=(ap m.ballot);omega) (PZ ((s.rep ⟨lg, .pointer none, .slice none 0 0⟩).acc) 0 rfl (by have h1:=(ap m.ballot);omega) (ct ((ap (((s.rep ⟨lg, .pointer none, .slice none 0 0⟩).acc).vow)).trans (ap m.ballot).symm))))) (nx J7 (D1 0 bm ?_));refine PD 0 ?_;refine PD 1 ?_;refine PD 2 ?_;refine FD 3 1066 bn aQ ?_;refine FD 5 177 je cz ?_;refine FD 6 177 kg aQ ?_;refine LX 7 Y3 (.int .i64 (m.ballot.round)) ?_ (hc:=by exact RecT.pt_ballot m 0 rfl (by decide) (fk m.ballot rfl));refine AL 4 ?_;refine LG 1 Y3 (.int .i64 (s.round)) ?_ (hc:=by exact λa_=>(vw _ rfl));refine EN (ta 8 rfl (yK rfl rfl rfl) ?_);refine PD 9 ?_;refine FD 10 1066 bn aQ ?_;refine AL 11 ?_;refine SK 1 aQ (λ_=>cY _) ?_ (hc:=by exact λa_=>(l7 _ rfl _));refine EN (DN (ag (WK [1] (bD rfl ?_))));exact congrArg (λq=>[DF lg r q]) (show(MS.setRound (MS.setAcc s (AccT.mk s.acc.epoch m.ballot s.acc.had s.acc.change)) (max s.round m.ballot.round))=iX s m by rw[iX,if_neg h7,if_neg h20,if_neg h30,if_pos h38]<;>rfl);refine PS ?_;refine nx J6 (CN (sr λ_ J8=>PS ?_));refine ao ?_ ?_<;>intro h57;refine PS ?_;refine nx J8 (CY (aa λ_ J9=>D1 0 bm ?_));refine PD 0 ?_;refine PD 1 ?_;refine PD 2 ?_;refine FD 3 177 je cz ?_
 refine ta 4 rfl (aM (vs:=ints m.ballot.flat) rfl kg rfl cz rfl (λ_ h=>h.2.1) (ap m.ballot) (qN m 0 rfl (by decide) (whole (ap m.ballot)))) ?_;refine FD 5 177 je cz ?_;refine ta 6 rfl (aM (vs:=ints m.ballot.flat) rfl kg rfl cz rfl (λ_ h=>h.2.1) (ap m.ballot) (qN m 0 rfl (by decide) (whole (ap m.ballot)))) ?_;refine FD 7 179 je fI ?_;refine ta 8 rfl (aM (vs:=ints m.change.flat) rfl np rfl fI rfl (λ_ h=>h.2.1) (aL m.change) (MA m 0 rfl (by decide) (whole (aL m.change)))) ?_;refine PD 9 ?_;refine FD 10 1058 bn dF ?_;refine FD 11 1059 jb cz ?_;refine AL 12 ?_;refine g9 (vs:=ints m.ballot.flat) (i:=1) (ab rfl) rfl rfl rfl rfl rfl (by rw[(ap m.ballot)];exact cz) (bC _) rfl rfl (λ_=>LC (cY _) (ap _)) (λa_=>(ky (s.rep ⟨lg, .pointer none, .slice none 0 0⟩) 1 rfl (by have h1:=(ap m.ballot);omega) (PZ ((s.rep ⟨lg, .pointer none, .slice none 0 0⟩).acc) 0 rfl (by have h1:=(ap m.ballot);omega) (ct ((ap (((s.rep ⟨lg, .pointer none, .slice none 0 0⟩).acc).vow)).trans (ap m.ballot).symm))))) (EN (PD 13 ?_));refine FD 14 1058 bn dF ?_;refine FD 15 1061 jb cz ?_;refine AL 16 ?_
 refine g9 (vs:=ints m.ballot.flat) (i:=1) (ab rfl) rfl rfl rfl rfl rfl (by rw[(ap m.ballot)];exact cz) (bC _) rfl rfl (λ_=>LC (cY _) (ap _)) (λa_=>(ky ((MS.setAcc s (AccT.mk s.acc.epoch m.ballot s.acc.had s.acc.change)).rep ⟨lg, .pointer none, .slice none 0 0⟩) 3 rfl (by have h1:=(ap m.ballot);omega) (AccT.wr_had_ (((MS.setAcc s (AccT.mk s.acc.epoch m.ballot s.acc.had s.acc.change)).rep ⟨lg, .pointer none, .slice none 0 0⟩).acc) 0 rfl (by have h1:=(ap m.ballot);omega) (ct ((ap ((((MS.setAcc s (AccT.mk s.acc.epoch m.ballot s.acc.had s.acc.change)).rep ⟨lg, .pointer none, .slice none 0 0⟩).acc).had)).trans (ap m.ballot).symm))))) (EN (PD 17 ?_));refine FD 18 1058 bn dF ?_;refine FD 19 1063 jb fI ?_;refine AL 20 ?_;refine g9 (vs:=ints m.change.flat) (i:=1) (ab rfl) rfl rfl rfl rfl rfl (by rw[(aL m.change)];exact fI) (bC _) rfl rfl (λ_=>LC (cY _) (aL _)) (λa_=>(ky ((MS.setAcc s (AccT.mk s.acc.epoch m.ballot m.ballot s.acc.change)).rep ⟨lg, .pointer none, .slice none 0 0⟩) 5 rfl (by have h1:=(aL m.change);omega) (AccT.wr_change_ (((MS.setAcc s (AccT.mk s.acc.epoch m.ballot m.ballot s.acc.change)).rep ⟨lg, .pointer none, .slice none 0 0⟩).acc) 0 rfl (by have h1:=(aL m.change);omega) (ct ((aL ((((MS.setAcc s (AccT.mk s.acc.epoch m.ballot m.ballot s.acc.change)).rep ⟨lg, .pointer none, .slice none 0 0⟩).acc).change)).trans (aL m.change).symm))))) (EN (DN (ac J9 (D1 0 bm ?_))));refine PD 0 ?_;refine PD 1 ?_;refine PD 2 ?_
 refine FD 3 1066 bn aQ ?_;refine FD 5 177 je cz ?_;refine FD 6 177 kg aQ ?_;refine LX 7 Y3 (.int .i64 (m.ballot.round)) ?_ (hc:=by exact RecT.pt_ballot m 0 rfl (by decide) (fk m.ballot rfl));refine AL 4 ?_;refine LG 1 Y3 (.int .i64 (s.round)) ?_ (hc:=by exact λa_=>(vw _ rfl));refine EN (ta 8 rfl (yK rfl rfl rfl) ?_);refine PD 9 ?_;refine FD 10 1066 bn aQ ?_;refine AL 11 ?_;refine SK 1 aQ (λ_=>cY _) ?_ (hc:=by exact λa_=>(l7 _ rfl _));refine EN (DN (ag (WK [1] (bD rfl ?_))));exact congrArg (λq=>[DF lg r q]) (show(MS.setRound (MS.setAcc s (AccT.mk s.acc.epoch m.ballot m.ballot m.change)) (max s.round m.ballot.round))=iX s m by rw[iX,if_neg h7,if_neg h20,if_neg h30,if_neg h38,if_pos h57]<;>rfl);refine PS ?_;refine nx J8 (CN (sr λ_ J10=>PS ?_));refine ao ?_ ?_<;>intro h88;refine PS ?_;refine nx J10 (CY (ae (PS ?_)));refine FA 182 je bk ?_;refine LV 0 eS bk an RecT.sp_view (y:=m.view) ?_;refine CZ L6 (uZ lg r s m.view) (SM [1]) λvR=>?_
 refine au (ag (WK [0] (bD rfl ?_)));exact congrArg (λq=>[DF lg r q]) (show(mj s m.view)=iX s m by rw[iX,if_neg h7,if_neg h20,if_neg h30,if_neg h38,if_neg h57,if_pos h88]<;>rfl);refine PS ?_;refine nx J10 (CN (aU (ag (WK [1] (bD rfl ?_)))));exact congrArg (λq=>[DF lg r q]) (show s=iX s m by rw[iX,if_neg h7,if_neg h20,if_neg h30,if_neg h38,if_neg h57,if_neg h88]<;>rfl)
theorem Ks{bs:List UInt8}(h: ¬(jH bs).2≠0):WF (jH bs).1.row.flat:=by
 rcases I3 bs with⟨m,e,_,_,hw⟩|e
 · rw[e];exact hw
 · rw[e]at h;exact absurd (by decide) h
theorem BQ{δ:Type}(e0:δ)(i:Int)(d:Nat)(D:DS)(hD:D.Ok)(hI:Wal.DS.In D)(hb:D.ws.length≤1000000):
 DT 55 #[(.int .i64 (i)),(.pointer (some ⟨d,0,none⟩))] T0 [dk d D] (dz (λr' H=>((bH D).err≠0∧r'= .tuple #[.pointer none, .int .i64 (bH D).err]∧H=[dk d (bH D).D])∨((bH D).err=0∧((kM (bH D).recs (AK i e0)=none∧r'= .tuple #[.pointer none, .int .i64 1]∧H=[dk d (bH D).D])∨∃s r lg,kM (bH D).recs (AK i e0)=some s∧r'= .tuple #[.pointer (some ⟨r,0,none⟩), .int .i64 0]∧H=[DF lg r s,FT lg d (((bH D).recs.length:Nat):Int) (bH D).used,dk d (bH D).D])))):=by
 refine BD 50 Tryz.func55 rfl rfl rfl λw0 F hF=>sr λ_ J1=>P2 ?_
 refine nx J1 (aa λ_ J2=>sr λ_ J3=>PS ?_);refine tp (jf rfl tm rfl rfl) ?_;refine nx J3 (CN (qx J2 (sr λ_ J4=>PS ?_)));refine CR OX (GP d D hD hI hb) ID λvR HR hR=>?_
 rcases hR with⟨he,rfl,rfl⟩| ⟨he,lg,vr,rfl,rfl⟩
 refine P4 ?_;refine P3 ?_;refine nx J4 (aa λ_ J5=>sr λ_ J6=>P2 ?_);refine ao ?_ ?_<;>intro h23;refine nx J6 (CY (sr λ_ J7=>P3 ?_));exact nx J7 (ai (af (WK [0] (iP rfl rfl rfl (.inl ⟨he,rfl,rfl⟩)))))
 · exact absurd he h23
 change TL _ _ _ _ _ _ _ _ _ [ak lg [(.pointer (some ⟨d,0,none⟩)),(.int .i64 ((((bH D).recs.length:Nat):Int))),(.int .i64 ((bH D).used))] 210,OF vr (bH D).recs,dk d (bH D).D];refine yC (p:=pn vr (bH D).recs.length∧vr.oneCell'=true) (λw m=>by obtain⟨h,_,_,hs⟩:=m;obtain⟨_,_,_,_,a,_⟩:=eZ 1 (lb rfl) hs;exact uE a) (λ⟨hsl,hvr⟩=>P4 ?_);refine P3 ?_;refine nx J4 (aa λ_ J8=>sr λ_ J9=>P2 ?_);refine nx J9 (CN (qx J8 (sr λ_ J10=>P2 ?_)))
 refine tp (yL (cs:=RepT.cells (RepT.mk i (.pointer (some ⟨lg,0,none⟩)) ViewT.zero RowT.zero MirT.zero AccT.zero 0 (.pointer none) BookT.zero false 0 0 0 (.slice none 0 0) (#v[0,0,0,0,0]) (#v[RowT.zero,RowT.zero,RowT.zero,RowT.zero,RowT.zero]))) (segs:=[[Value.int .i64 0],[(.pointer none)],ints ViewT.zero.flat,ints RowT.zero.flat,MirT.cells MirT.zero,ints AccT.zero.flat,[Value.int .i64 0],[(.pointer none)],ints BookT.zero.flat,[Value.bool false],[Value.int .i64 0],[Value.int .i64 0],[Value.int .i64 0],[(.slice none 0 0)],ints (#v[0,0,0,0,0]).toList,ints ((#v[RowT.zero,RowT.zero,RowT.zero,RowT.zero,RowT.zero]).toList.flatMap RowT.flat)]) (res:=[[Value.int .i64 i],[(.pointer (some ⟨lg,0,none⟩))],ints ViewT.zero.flat,ints RowT.zero.flat,MirT.cells MirT.zero,ints AccT.zero.flat,[Value.int .i64 0],[(.pointer none)],ints BookT.zero.flat,[Value.bool false],[Value.int .i64 0],[Value.int .i64 0],[Value.int .i64 0],[(.slice none 0 0)],ints (#v[0,0,0,0,0]).toList,ints ((#v[RowT.zero,RowT.zero,RowT.zero,RowT.zero,RowT.zero]).toList.flatMap RowT.flat)]) (parts:=[(0,[Value.int .i64 i]),(1,[(.pointer (some ⟨lg,0,none⟩))])]) rfl rfl bn (by kernel_rfl) (by kernel_rfl) rfl (fm rfl rfl (fm rfl ((rfl:[(.pointer (some ⟨lg,0,none⟩))].length=1).trans (rfl:[(.pointer none)].length=1).symm) lM)) (eF (RepT.mk i (.pointer (some ⟨lg,0,none⟩)) ViewT.zero RowT.zero MirT.zero AccT.zero 0 (.pointer none) BookT.zero false 0 0 0 (.slice none 0 0) (#v[0,0,0,0,0]) (#v[RowT.zero,RowT.zero,RowT.zero,RowT.zero,RowT.zero]))).symm) ?_
 refine XY (RepT.cells (RepT.mk i (.pointer (some ⟨lg,0,none⟩)) ViewT.zero RowT.zero MirT.zero AccT.zero 0 (.pointer none) BookT.zero false 0 0 0 (.slice none 0 0) (#v[0,0,0,0,0]) (#v[RowT.zero,RowT.zero,RowT.zero,RowT.zero,RowT.zero]))) λb28=>?_
 refine PS ?_;refine nx J10 (sr λ_ J11=>cA (H':=DF lg b28 (Fl i e0)::[ak lg [(.pointer (some ⟨d,0,none⟩)),(.int .i64 ((((bH D).recs.length:Nat):Int))),(.int .i64 ((bH D).used))] 210,OF vr (bH D).recs,dk d (bH D).D]) (λ_ q=>bp (p:=λ_:Unit=>[ak b28 (RepT.cells ((Fl i e0).rep ⟨lg, .pointer none, .slice none 0 0⟩)) 123]) () (aC [0] rfl q)) (PS ?_));refine CE Ml (rK) ID ?_;refine CZ L6 (uZ lg b28 (Fl i e0) firstV) ID λvR=>?_
 refine nx J11 (aa λ_ J12=>sr λ_ J13=>PS ?_);refine tp (eh rfl vq rfl hsl) ?_;refine PS ?_;refine nx J13 (aq ?_)
 refine bw (α:=(Nat)×(MS δ)) (λ⟨k,s⟩=>k≤(bH D).recs.length∧kM (bH D).recs (AK i e0)=kM ((bH D).recs.drop k) s) (λ⟨k,s⟩=>[(9,(.pointer (some ⟨b28,0,none⟩))),(32,vr),(33,(.int .i64 ((((bH D).recs.length:Nat):Int)))),(34,(.int .i64 (((k:Nat):Int))))]) (λ⟨k,s⟩=>[DF lg b28 s,ak lg [(.pointer (some ⟨d,0,none⟩)),(.int .i64 ((((bH D).recs.length:Nat):Int))),(.int .i64 ((bH D).used))] 210,OF vr (bH D).recs,dk d (bH D).D]) (λ⟨k,s⟩=>(bH D).recs.length-k) (0,(AK i e0))
  ⟨aN _,rfl⟩ SB
  (λ_ s=>am [0,0,0,0] rfl s) (λ⟨k,s⟩ hinv=>?_)
 obtain⟨hk,hrs⟩:=hinv;refine sr λ_ J14=>PS ?_
 refine ao ?_ ?_<;>intro h35;refine cA (λ_ s=>aC [2] rfl s) (Ly (λus=>?_));change TL _ _ _ _ _ _ _ _ _ [own vr ((bH D).recs.length) (us) 93 1,eH us (bH D).recs 5,DF lg b28 s,ak lg [(.pointer (some ⟨d,0,none⟩)),(.int .i64 ((((bH D).recs.length:Nat):Int))),(.int .i64 ((bH D).used))] 210,dk d (bH D).D];refine yC (p:=us.length=(bH D).recs.length*1) (λw m=>m.own_len (i:=0) (lb rfl) rfl) (λhul=>?_);rw[fP]at hul;have hkl:k< (bH D).recs.length:=by omega
 refine j7 0 rfl rfl (by omega) (λg cap hv hcap=>?_);have hvq:vr= .slice (some ⟨g,0,none⟩) (bH D).recs.length cap:=hv;refine nx J14 (aa λ_ J15=>CY (qx J15 (aa λ_ J16=>aq (sr λ_ J17=>tp (bU (r:=k) hv rfl vq nS rfl rfl (by omega) (by omega) (by omega)) ?_))));refine tp (di (v:=(us.getD k undef)) rfl gO rfl rfl (gm 0 rfl hvq rfl) (by simp[List.getD_eq_getElem?_getD,show k<us.length by omega])) ?_;refine PS ?_;refine nx J17 (sr λ_ J18=>PS ?_);refine CF Pd (vh (us.getD k undef) (bH D).recs[k]) ID (λg d s=>uh 1 hkl rfl rfl g d s) ?_;refine P3 ?_;refine XZ ML (ints RecT.zero.flat) λb12=>?_
 refine SW 0 jm bq ?_;refine PS ?_;refine nx J18 (aa λ_ J19=>sr λ_ J20=>P2 ?_);refine ao ?_ ?_<;>intro h44;refine nx J20 (CY (sr λ_ J21=>P2 ?_));exact nx J21 (ai (af (aJ (af (af (aJ (af (WK [5] (iP rfl rfl rfl (.inr ⟨he, .inl ⟨hrs.trans (GB hkl h44),rfl,rfl⟩⟩))))))))));refine nx J20 (CN (qx J19 (ae (PS ?_))));refine LW 0 je jm bq ?_;refine CZ OW (yi lg b28 s (jH (bH D).recs[k]).1 (Ks h44)) (SM [3]) λvR=>?_
 refine au (ag (ac J16 (ae (AD ?_))));refine PS ?_;refine au ?_
 exact aK ((k+1,(iX s (jH (bH D).recs[k]).1)):(Nat)×(MS δ)) ⟨by omega,hrs.trans (Ic hkl h44)⟩ (by show(bH D).recs.length- (k+1)< (bH D).recs.length-k;omega)
  SB
  (λ_ s=>aC [1,1,0,0] rfl (bp (p:=λus:List Value=>[own vr (bH D).recs.length us 93 1,eH us (bH D).recs 5]) us (am [2,2,0,1,1] rfl s)))
 refine nx J14 (aa λ_ J22=>CN (aX (aA (aA (br (ac J12 (sr λ_ J23=>P3 ?_)))))));refine nx J23 (ai (WK [0,0,1] (iP rfl rfl rfl ?_)));exact .inr ⟨he, .inr ⟨s,b28,lg,by rw[hrs,ci (by omega)];rfl,rfl,rfl⟩⟩
def kC(k:Nat)(m:MsgT):List UInt8:=jw ((k / 5:Nat):Int) ((k%5:Nat):Int) (cS m)
def cR(W:List (List MsgT)):List (List (List UInt8)):=(List.range 25).map λk=>(W.getD k []).map (kC k)
theorem pK(W:List (List MsgT)):(cR W).length=25:=by simp[cR]
theorem nB(W:List (List MsgT)){k:Nat}(h:k<25):(cR W).getD k []=(W.getD k []).map (kC k):=by simp[cR,h,List.getD_eq_getElem?_getD]
theorem we(W:List (List MsgT)){k:Nat}(h:k<25)(hW:W.length=25)(l:List MsgT):(cR W).set k (l.map (kC k))=cR (W.set k l):=by
 refine List.ext_getElem? λj=>?_
 by_cases hj:j=k
 · subst hj
   rw[List.getElem?_set_self (by rw[pK];exact h)];simp[cR,h,List.getD_eq_getElem?_getD,List.getElem?_set_self (show j<W.length by omega)]
 · rw[List.getElem?_set_ne (λe=>hj e.symm)]
   unfold cR;rw[List.getElem?_map,List.getElem?_map]
   by_cases hk:j<25
   · simp[hk,List.getD_eq_getElem?_getD,List.getElem?_set_ne (λe=>hj e.symm)]
   · simp[hk]
theorem Bx{f t:Int}(hf:iF f=true)(ht:iF t=true)(m:MsgT):kC (bB f t) m=jw f t (cS m):=by
 have h1:0≤f∧f<5:=of_decide_eq_true hf;have h2:0≤t∧t<5:=of_decide_eq_true ht;unfold kC bB;rw[show(((f.toNat*5+t.toNat) / 5:Nat):Int)=f by omega,show(((f.toNat*5+t.toNat)%5:Nat):Int)=t by omega]
theorem sy{f t:Int}(h:dB f t=true):iF f=true∧iF t=true:=by
 unfold dB at h;rw[aw,aw]at h;exact h.1
theorem HO{W:List (List MsgT)}(hW:W.length=25){f:Nat}(s:SaidT):oV (cR W) ((f:Nat):Int) s.to' (jw ((f:Nat):Int) s.to' (cS s.msg))=cR (qL W f s):=by
 unfold oV qL;cases hv:dB ((f:Nat):Int) s.to'
 · rfl
 · obtain⟨h1,h2⟩:=iB hv
   obtain⟨h3,h4⟩:=sy hv;rw[if_pos rfl,if_pos rfl,nB W h1,←Bx h3 h4,←we W h1 hW];unfold Az;rw[bX];split
   · rw[da];rfl
   · rfl
theorem Ih(W:List (List MsgT))(f:Nat)(s:SaidT):(qL W f s).length=W.length:=by unfold qL;split<;>simp
theorem Gl(W:List (List MsgT))(f:Nat)(l:List SaidT):(gZ W f l).length=W.length:=by
 induction l generalizing W with
 |nil=>rfl
 |cons s l ih=>exact(ih _).trans (Ih _ _ _)
theorem Gm(W:List (List MsgT))(f:Nat)(l:List SaidT)(s:SaidT):gZ W f (l++[s])=qL (gZ W f l) f s:=by simp[gZ]
theorem wc(k:Nat)(m:MsgT):(kC k m).length≤1000000:=by
 unfold kC;rw[rJ];have:=tc m;omega
theorem wU(c:Nat)(w:Int):
 DT 56 #[(.pointer (some ⟨c,0,none⟩)),(.int .i64 (w))] T0 [] (RI (.bool (iF w)) []):=by
 refine BD 15 Tryz.func56 rfl rfl rfl λw0 F hF=>sr λ_ J1=>PS ?_
 refine nx J1 (sr λ_ J2=>PS ?_);refine tp (gg rfl Oc rfl rfl) ?_;refine P3 ?_;refine ao ?_ ?_<;>intro h9
 iterate 6 refine PS ?_
 refine nx J2 (ai (WK [] (av rfl rfl ?_)));exact⟨congrArg Value.bool (by unfold iF;simp only[decide_eq_decide];omega),rfl⟩;refine P2 ?_;refine UF ?_;refine UF ?_;refine P2 ?_;refine nx J2 (ai (WK [] (av rfl rfl ?_)));exact⟨congrArg Value.bool (by unfold iF;symm;exact decide_eq_false (by omega)),rfl⟩
theorem dU(c i:Nat)(hi:i<5):DT 56 #[.pointer (some ⟨c,0,none⟩), .int .i64 ((i:Nat):Int)] T0 [] (RI (.bool true) []):=by
 have:=wU c ((i:Nat):Int)
 rwa [show iF ((i:Nat):Int)=true from decide_eq_true ⟨by omega,by omega⟩]at this
theorem sA(c n i:Nat)(D M P:Nat→Value)(hi:i<5)(hM:M i= .pointer none):
 DT 16 #[(.pointer (some ⟨c,0,none⟩)),(.int .i64 (((i:Nat):Int)))] T0 [ak c (eM n D M P) 104] (RI (.bool false) [ak c (eM n D M P) 104]):=by
 refine BD 27 Tryz.func16 rfl rfl rfl λw0 F hF=>sr λ_ J1=>PS ?_
 refine nx J1 (sr λ_ J2=>P2 ?_);refine CE p3 (dU c i hi) ID ?_;refine P4 ?_;refine FA 6 iU pq ?_;refine IX (6+i) vm kh ?_;refine LT 0 vn (.pointer none) ?_ (hc:=by exact(xJ n D M P hi).trans (congrArg some hM));refine tq (hX rfl vn rfl rfl) ?_;refine P2 ?_
 iterate 8 refine UF ?_
 refine P2 ?_;exact nx J2 (ai (WK [0] (av rfl rfl ⟨rfl,rfl⟩)))
theorem M2 (c i : Nat) : x7 Tryz.prog 110 (M1 c i) "Send" 203 := fun w => by kernel_rfl
theorem sz(c n i:Nat)(D M P:Nat→Value)(hi:i<5)(d r:Nat)(e:DS)(hD:D i= .pointer (some ⟨d,0,none⟩))(hM:M i= .pointer (some ⟨r,0,none⟩)):
 DT 16 #[(.pointer (some ⟨c,0,none⟩)),(.int .i64 (((i:Nat):Int)))] T0 [ak c (eM n D M P) 104,dk d e] (RI (.bool (!e.dn)) [ak c (eM n D M P) 104,dk d e]):=by
 refine BD 27 Tryz.func16 rfl rfl rfl λw0 F hF=>sr λ_ J1=>PS ?_
 refine nx J1 (sr λ_ J2=>P2 ?_);refine CE p3 (dU c i hi) ID ?_;refine P4 ?_;refine FA 6 iU pq ?_;refine IX (6+i) vm kh ?_;refine LT 0 vn (.pointer (some ⟨r,0,none⟩)) ?_ (hc:=by exact(xJ n D M P hi).trans (congrArg some hM));refine tq (gg rfl vn rfl rfl) ?_
 iterate 5 refine PS ?_
 refine FA 1 iU sF ?_;refine IX (1+i) Bk pg ?_;refine LT 0 tm (.pointer (some ⟨d,0,none⟩)) ?_ (hc:=by exact(Db n D M P hi).trans (congrArg some hD));refine CE Nc (FX d e) (SM [1]) ?_;refine tq (oB rfl rfl rfl) ?_;refine P2 ?_;exact nx J2 (ai (WK [1,0] (av rfl rfl ⟨rfl,rfl⟩)))
theorem D6(c n i:Nat)(D M P:Nat→Value)(hi:i<5)(d:Nat)(e:DS)(hD:D i= .pointer (some ⟨d,0,none⟩))(W:List (List MsgT))(hW:W.length=25)(to':Int)(m:MsgT):
 DT 203 #[(.agg #[(.pointer (some ⟨c,0,none⟩)),(.int .i64 (((i:Nat):Int)))]),(.int .i64 (to')),(.agg (ints m.flat).toArray)] T0 [ak c (eM n D M P) 104,dk d e,eE 156 208 5 n (cR W)] (dz (λ_ H=>H=[ak c (eM n D M P) 104,dk d e,eE 156 208 5 n (cR (if e.dn then W else qL W i ⟨to',m⟩))])):=by
 refine BD 27 Tryz.func203 rfl rfl rfl λw0 F hF=>sr λ_ J1=>XB λb3=>?_
 refine XY (ints m.flat) λb5=>?_
 refine nx J1 (aa λ_ J2=>D2 1 2 dN ?_);refine FD 0 0 Fg MU ?_;refine LX 1 Oc (.pointer (some ⟨c,0,none⟩)) ?_ (hc:=by exact rfl);refine FD 2 1 Fg aQ ?_;refine LX 3 Y3 (.int .i64 (((i:Nat):Int))) ?_ (hc:=by exact rfl);refine PD 4 ?_;refine FD 5 1 iU sF ?_;refine IY 6 (1+i) Bk pg ?_;refine LX 7 tm (.pointer (some ⟨d,0,none⟩)) ?_ (hc:=by exact(Db n D M P hi).trans (congrArg some hD));refine AL 8 ?_;refine CE Nc (FX d e) (SM [3]) ?_;refine bc ?_ ?_<;>intro h14;refine EN (PD 9 ?_);refine DN (ac J2 (CN (aU (WK [3,0,2] (bD rfl ?_)))));exact by rw[show e.dn=true by assumption];rfl
 refine EN (PD 9 ?_);refine DN (ac J2 (CY (rR (λw=>Frm F w∧w.heap[b3]?=some (.cells ([(.pointer (some ⟨c,0,none⟩)),(.int .i64 (((i:Nat):Int)))]).toArray 110 (0,0))∧w.heap[c]?=some (.cells (eM n D M P).toArray 104 (0,0))∧w.heap[b5]?=some (.cells (ints m.flat).toArray 178 (0,0))∧True) dN rfl (λ_ s=>⟨fu s,s.block 2 (lb rfl) rfl,s.block 3 (lb rfl) rfl,s.block 1 (lb rfl) rfl,trivial⟩) (FD 0 0 Fg MU ?_))));refine LX 1 Oc (.pointer (some ⟨c,0,none⟩)) ?_ (hc:=by exact rfl);refine PD 2 ?_;refine FD 3 0 iU Ah ?_;refine LX 4 Jj (.pointer (some ⟨n,0,none⟩)) ?_ (hc:=by exact A8 n D M P);refine FD 5 1 Fg aQ ?_;refine LX 6 Y3 (.int .i64 (((i:Nat):Int))) ?_ (hc:=by exact rfl);refine PD 7 ?_;refine LY 8 bf cb aI ?_;refine AL 9 ?_;refine CR Nh (CM m) ID λvR HR hR=>?_
 obtain⟨_,rfl,rfl⟩:=hR;revert vR;intro ue;refine EN (AL 10 ?_);refine CQ Ni (yq n (cR W) ((i:Nat):Int) to' ue (cS m) (tc m) (pK W)) (SM [5]) (λg d s=>Js (vH 0 rfl rfl g d s)) λvR HR hR=>?_
 obtain⟨_,rfl⟩:=hR;rw[HO hW ⟨to',m⟩];refine EN (DN (WK [5,2,0] (bD rfl ?_)));exact by rw[show e.dn=false by assumption];rfl
def GN(c n d i:Nat)(D M P:Nat→Value)(W:List (List MsgT))(e:LD)(l:List SaidT):HP:=bG [ak c (eM n D M P) 104,dk d e.D,eE 156 208 5 n (cR (gZ W i l))]
section
variable {c n d i:Nat} {D M P:Nat→Value} {W:List (List MsgT)} {e:LD} {l:List SaidT} {H:List HP} {h:Hl}
theorem tW(s:bG (GN c n d i D M P W e l::H) h):bG (ak c (eM n D M P) 104::dk d e.D::eE 156 208 5 n (cR (gZ W i l))::H) h:=(cd [_,_,_] H).2 s
theorem tV(s:bG (ak c (eM n D M P) 104::dk d e.D::eE 156 208 5 n (cR (gZ W i l))::H) h):bG (GN c n d i D M P W e l::H) h:=(cd [_,_,_] H).1 s
end
def xw(c n d i:Nat)(D M P:Nat→Value)(hi:i<5)(hD:D i= .pointer (some ⟨d,0,none⟩))(W:List (List MsgT))(hW:W.length=25):Env LD where
 toDk:=KD
 T:=110
 ov:=M1 c i
 sf:=203
 E:=GN c n d i D M P W
 lg g e:=FT g d ((e.cnt:Nat):Int) e.used
 me:=M2 c i
 nm:=Nj
 say e l to' m _:=by
  refine Leg.Does.conv (D6 c n i D M P hi d e.D hD (gZ W i l) (by rw[Gl];exact hW) to' m) (λh s=>tW s) λx H F w hp hs=>?_
  cases x with
  |returned v=>
   obtain rfl:=hp;refine⟨_,hs.mono (λh s=>tV (l:=if KD.dn e then l else l++[SaidT.mk to' m]) ?_),rfl⟩
   have q:gZ W i (if KD.dn e then l else l++[SaidT.mk to' m])=if e.D.dn then gZ W i l else qL (gZ W i l) i ⟨to',m⟩:=by
    show gZ W i (if e.D.dn then l else _)=_;split
    · rfl
    · exact Gm ..
   rw[q];exact s
  |panicked c=>exact hp.elim
  |outgrown=>exact hp.elim
 put g x bs e l hok hlen:=by
  refine Leg.Does.withinR (A:=[FT g d ((e.cnt:Nat):Int) e.used,dk d e.D]) (B:=[ak c (eM n D M P) 104,eE 156 208 5 n (cR (gZ W i l))]) (Bz g d e.cnt e.used x bs e.D hok.dk.ok (by have:=hok.dk.ws;omega) hok.used (by have:=hok.cnt;have:=hok.used;omega)) (λF g h dj=>Oj h dj) (λh s=>?_) λv H hp=>?_
  · exact aC [3,1,0,0] rfl (tW (aC [1,0] rfl s))
  · obtain⟨hv,rfl⟩:=hp
    exact⟨[FT g d (((e.put bs).1.cnt:Nat):Int) (e.put bs).1.used,GN c n d i D M P W (e.put bs).1 l],λh s=>aC [1,0] rfl (tV (e:=(e.put bs).1) (l:=l) (aC [2,1,1,0] rfl s)),hv,rfl⟩
abbrev mH(v:Value)(l:List ReplyT):HP:=own v l.length (ints (List.flatMap ReplyT.flat l)) 37 3
abbrev Gv(s:MS LD)(d r:Nat)(a:Adr):List HP:=[ak r (RepT.cells (s.rep a)) 123,FT a.lg d ((s.e.cnt:Nat):Int) s.e.used,mH a.rs s.replies,Fo a.vo s.vote]
abbrev ff(s:MS LD)(d r:Nat):HP:=pack (Gv s d r)
def qK(x:Slot)(d r:Nat):HP:=match x.run with
 |some s=>ff s d r
 |none=>λ_=>True
abbrev kq(x:Slot)(d r:Nat)(p:Value):List HP:=[dk d x.dk,mH p x.past,qK x d r]
def kJ(x:Slot)(d r:Nat)(p:Value):HP:=bG (kq x d r p)
structure CX where
 n:Nat
 d:Nat→Nat
 r:Nat→Nat
 p:Nat→Value
abbrev mL(g:CX):Nat→Value:=λi=> .pointer (some ⟨g.d i,0,none⟩)
def yp(x:Slot)(r:Nat):Value:=match x.run with
 |some _=> .pointer (some ⟨r,0,none⟩)
 |none=> .pointer none
abbrev j0(a:CL)(r:Nat→Nat):Nat→Value:=λi=>yp (a.at' i) (r i)
abbrev qX(c:Nat)(a:CL)(g:CX):List HP:=[ak c (eM g.n (mL g) (j0 a g.r) g.p) 104,eE 156 208 5 g.n (cR a.W),bG ((List.range 5).map λi=>kJ (a.at' i) (g.d i) (g.r i) (g.p i))]
def gf(c:Nat)(a:CL):HP:=pack (qX c a)
section
variable {c n d i r:Nat} {D M P:Nat→Value} {W:List (List MsgT)} {s:MS LD} {H:List HP} {h:Hl} {hi:i<5} {hD:D i= .pointer (some ⟨d,0,none⟩)} {hW:W.length=25}
theorem Eo(ho:s.o=[])(q:bG (ak c (eM n D M P) 104::dk d s.e.D::eE 156 208 5 n (cR W)::ff s d r::H) h):bG (cJ (xw c n d i D M P hi hD W hW) r s::H) h:=by
 obtain⟨a,q⟩:=fB (aC [3,0,0,0] rfl q);have q2:=aC [4,4,4,0,0,0,0] rfl q;have q3:=tV (i:=i) (W:=W) (e:=s.e) (l:=[]) q2;refine bp (p:=λa:Adr=>[ak r (RepT.cells (s.rep a)) 123,FT a.lg d ((s.e.cnt:Nat):Int) s.e.used,mH a.rs s.replies,Fo a.vo s.vote,GN c n d i D M P W s.e s.o]) a ?_;rw[ho];exact aC [1,1,1,1,0] rfl q3
theorem AO(q:bG (cJ (xw c n d i D M P hi hD W hW) r s::H) h):bG (ak c (eM n D M P) 104::dk d s.e.D::eE 156 208 5 n (cR (gZ W i s.o))::ff s.hush d r::H) h:=by
 obtain⟨a,q⟩:=fB q;have q1:bG ([ak r (RepT.cells (s.rep a)) 123,FT a.lg d ((s.e.cnt:Nat):Int) s.e.used,mH a.rs s.replies,Fo a.vo s.vote,GN c n d i D M P W s.e s.o]++H) h:=q;have q2:=tW (aC [4,0,0,0,0] rfl q1);have q3:=bp (p:=Gv s.hush d r) a (aC [3,3,3,3,0,0,0] rfl q2);exact aC [1,1,1,0] rfl q3
end
theorem EQ(c n i:Nat)(D M P:Nat→Value)(hi:i<5)(d r:Nat)(s:MS LD)(hD:D i= .pointer (some ⟨d,0,none⟩))(hM:M i= .pointer (some ⟨r,0,none⟩))(W:List (List MsgT))(hW:W.length=25)(ho:s.o=[])(hs:OkR KD s)(o:OpT)(k:Int)(hk:0≤k∧k≤4)(hch:OkCh o.change)(hrs:s.replies.length≤1000000):
 DT 17 #[(.pointer (some ⟨c,0,none⟩)),(.agg (ints (OpT.mk k ((i:Nat):Int) o.to' o.key o.n o.change o.mask o.torn o.cut).flat).toArray)] T0 [ak c (eM n D M P) 104,dk d s.e.D,eE 156 208 5 n (cR W),ff s d r] (dz (λv H=>(s.e.D.dn=true∧v= .int .i64 4∧H=[ak c (eM n D M P) 104,dk d s.e.D,eE 156 208 5 n (cR (W)),ff s d r])∨(s.e.D.dn=false∧v= .int .i64 (bW KD s ((OpT.mk k ((i:Nat):Int) o.to' o.key o.n o.change o.mask o.torn o.cut))).2∧H=[ak c (eM n D M P) 104,dk d (bW KD s ((OpT.mk k ((i:Nat):Int) o.to' o.key o.n o.change o.mask o.torn o.cut))).1.hush.e.D,eE 156 208 5 n (cR (gZ W i (bW KD s ((OpT.mk k ((i:Nat):Int) o.to' o.key o.n o.change o.mask o.torn o.cut))).1.o)),ff (bW KD s ((OpT.mk k ((i:Nat):Int) o.to' o.key o.n o.change o.mask o.torn o.cut))).1.hush d r]))):=by
 refine BD 114 Tryz.func17 rfl rfl rfl λw0 F hF=>sr λ_ J1=>XY (ints (OpT.mk k ((i:Nat):Int) o.to' o.key o.n o.change o.mask o.torn o.cut).flat) λb3=>?_
 refine PS ?_;refine nx J1 (aa λ_ J2=>sr λ_ J3=>PS ?_);refine FA 1 fG aQ ?_;refine LT 0 Y3 (.int .i64 (((i:Nat):Int))) ?_ (hc:=by exact bK _ rfl);refine CE p3 (dU c i hi) ID ?_;refine PS ?_;refine nx J3 (CN (qx J2 (aa λ_ J4=>sr λ_ J5=>FA 0 fG aQ ?_)));refine LT 0 Y3 (.int .i64 (k)) ?_ (hc:=by exact cO _ rfl);refine nx J5 (aq (aa λ_ J6=>fg (α:=Unit) (λ_u=>True) (λ_u=>[(0,(.pointer (some ⟨c,0,none⟩))),(3,(.pointer (some ⟨b3,0,none⟩))),(4,(.int .i64 0)),(11,(.int .i64 (k))),(12,(.bool true))]) (λ_u=>[ak b3 (ints (OpT.mk k ((i:Nat):Int) o.to' o.key o.n o.change o.mask o.torn o.cut).flat) 30,ak c (eM n D M P) 104,dk d s.e.D,eE 156 208 5 n (cR W),ff s d r]) (λ_u hinv=>?_) (λtl6=>?_)));have _:=hinv;refine ac J6 (CY (aa λ_ J7=>sr λ_ J8=>PS ?_));refine FA 1 fG aQ ?_;refine LT 0 Y3 (.int .i64 (((i:Nat):Int))) ?_ (hc:=by exact bK _ rfl);refine CE Cn (sz c n i D M P hi d r s.e.D hD hM) (SM [1,1]) ?_;refine bc ?_ ?_<;>intro h21;refine PS ?_;refine nx J8 (CN (qx J7 (aa λ_ J9=>D2 2 0 dN ?_)));refine PD 0 ?_;refine FD 1 1 fG aQ ?_;refine LX 2 Y3 (.int .i64 (((i:Nat):Int))) ?_ (hc:=by exact bK _ rfl);refine PD 3 ?_;refine FD 4 6 iU pq ?_;refine IY 5 (6+i) vm kh ?_;refine LX 6 vn (.pointer (some ⟨r,0,none⟩)) ?_ (hc:=by exact(xJ n D M P hi).trans (congrArg some hM));refine PD 7 ?_;refine FD 8 1 fG aQ ?_
 refine LX 9 Y3 (.int .i64 (((i:Nat):Int))) ?_ (hc:=by exact bK _ rfl);refine ta 10 rfl (j8 (cells:=#[(.pointer (some ⟨c,0,none⟩)),(.int .i64 (((i:Nat):Int)))]) rfl rfl (by as_aux_lemma=>kernel_rfl)) ?_;refine ta 11 rfl (pz rfl Fg rfl rfl) ?_;refine LY 12 fG Ai DD ?_;refine AL 13 ?_;refine cA (H':=[cJ (xw c n d i D M P hi hD W hW) r s,ak b3 (ints (OpT.mk k ((i:Nat):Int) o.to' o.key o.n o.change o.mask o.torn o.cut).flat) 30]) (λ_ q=>Eo ho (aC [0,0,1,1] rfl q)) (CE O9 (@A7 _ (xw c n d i D M P hi hD W hW) r s ((OpT.mk k ((i:Nat):Int) o.to' o.key o.n o.change o.mask o.torn o.cut)) hs hch hrs) ID ?_);change TL _ _ _ _ _ _ _ _ _ [cJ (xw c n d i D M P hi hD W hW) r ((bW KD s ((OpT.mk k ((i:Nat):Int) o.to' o.key o.n o.change o.mask o.torn o.cut))).1),ak b3 (ints (OpT.mk k ((i:Nat):Int) o.to' o.key o.n o.change o.mask o.torn o.cut).flat) 30];refine cA (H':=[ak c (eM n D M P) 104,dk d (((bW KD s ((OpT.mk k ((i:Nat):Int) o.to' o.key o.n o.change o.mask o.torn o.cut))).1).e.D),eE 156 208 5 n (cR (gZ W i ((bW KD s ((OpT.mk k ((i:Nat):Int) o.to' o.key o.n o.change o.mask o.torn o.cut))).1).o)),ff (((bW KD s ((OpT.mk k ((i:Nat):Int) o.to' o.key o.n o.change o.mask o.torn o.cut))).1).hush) d r,ak b3 (ints (OpT.mk k ((i:Nat):Int) o.to' o.key o.n o.change o.mask o.torn o.cut).flat) 30]) (λ_ q=>AO (s:=(bW KD s ((OpT.mk k ((i:Nat):Int) o.to' o.key o.n o.change o.mask o.torn o.cut))).1) q) (EN (PD 14 ?_))
 refine DN (ac J9 (ai (aJ (af (WK [0,0,0,0] (av rfl rfl ?_))))));exact .inr ⟨(by simpa using h21),rfl,rfl⟩;refine PS ?_;refine nx J8 (CY (sr λ_ J10=>PS ?_));refine nx J10 (ai (af (aJ (af (WK [0,0,1,1] (av rfl rfl ?_))))));exact .inl ⟨(by simpa using h21),rfl,rfl⟩;refine sr λ_ J11=>P2 ?_
 refine ao ?_ ?_<;>intro h12;refine nx J11 (CY (aU ?_))
 exact aF
  SB
  (λ_ s=>am [0,0,0,0,0] rfl s)
  (tl6 (():Unit) trivial)
 refine nx J11 (CN (sr λ_ J12=>P2 ?_));refine ao ?_ ?_<;>intro h12;refine nx J12 (CY (aU ?_))
 exact aF
  SB
  (λ_ s=>am [0,0,0,0,0] rfl s)
  (tl6 (():Unit) trivial)
 refine nx J12 (CN (sr λ_ J13=>P2 ?_));refine ao ?_ ?_<;>intro h12;refine nx J13 (CY (aU ?_))
 exact aF
  SB
  (λ_ s=>am [0,0,0,0,0] rfl s)
  (tl6 (():Unit) trivial)
 refine nx J13 (CN (sr λ_ J14=>P2 ?_));refine ao ?_ ?_<;>intro h12;refine nx J14 (CY (aU ?_))
 exact aF
  SB
  (λ_ s=>am [0,0,0,0,0] rfl s)
  (tl6 (():Unit) trivial)
 refine nx J14 (CN (ae (PS ?_)));refine ao ?_ ?_<;>intro h17;refine PS ?_;refine au ?_
 exact aF
  SB
  (λ_ s=>am [0,0,0,0,0] rfl s)
  (tl6 (():Unit) trivial)
 · exact absurd h17 (by omega)
theorem C4(c n i:Nat)(D M P:Nat→Value)(hi:i<5)(hM:M i= .pointer none)(o:OpT)(k:Int)(hk:0≤k∧k≤4):
 DT 17 #[(.pointer (some ⟨c,0,none⟩)),(.agg (ints (OpT.mk k ((i:Nat):Int) o.to' o.key o.n o.change o.mask o.torn o.cut).flat).toArray)] T0 [ak c (eM n D M P) 104] (RI (.int .i64 4) [ak c (eM n D M P) 104]):=by
 refine BD 114 Tryz.func17 rfl rfl rfl λw0 F hF=>sr λ_ J1=>XY (ints (OpT.mk k ((i:Nat):Int) o.to' o.key o.n o.change o.mask o.torn o.cut).flat) λb3=>?_
 refine PS ?_;refine nx J1 (aa λ_ J2=>sr λ_ J3=>PS ?_);refine FA 1 fG aQ ?_;refine LT 0 Y3 (.int .i64 (((i:Nat):Int))) ?_ (hc:=by exact bK _ rfl);refine CE p3 (dU c i hi) ID ?_;refine PS ?_;refine nx J3 (CN (qx J2 (aa λ_ J4=>sr λ_ J5=>FA 0 fG aQ ?_)));refine LT 0 Y3 (.int .i64 (k)) ?_ (hc:=by exact cO _ rfl);refine nx J5 (aq (aa λ_ J6=>fg (α:=Unit) (λ_u=>True) (λ_u=>[(0,(.pointer (some ⟨c,0,none⟩))),(3,(.pointer (some ⟨b3,0,none⟩))),(4,(.int .i64 0)),(11,(.int .i64 (k))),(12,(.bool true))]) (λ_u=>[ak b3 (ints (OpT.mk k ((i:Nat):Int) o.to' o.key o.n o.change o.mask o.torn o.cut).flat) 30,ak c (eM n D M P) 104]) (λ_u hinv=>?_) (λtl6=>?_)));have _:=hinv;refine ac J6 (CY (aa λ_ J7=>sr λ_ J8=>PS ?_));refine FA 1 fG aQ ?_;refine LT 0 Y3 (.int .i64 (((i:Nat):Int))) ?_ (hc:=by exact bK _ rfl);refine CE Cn (sA c n i D M P hi hM) (SM [1]) ?_;refine PS ?_;refine nx J8 (CY (sr λ_ J9=>PS ?_));exact nx J9 (ai (af (aJ (af (WK [0] (av rfl rfl ⟨rfl,rfl⟩))))));refine sr λ_ J10=>P2 ?_
 refine ao ?_ ?_<;>intro h12;refine nx J10 (CY (aU ?_))
 exact aF
  SB
  (λ_ s=>am [0,0] rfl s)
  (tl6 (():Unit) trivial)
 refine nx J10 (CN (sr λ_ J11=>P2 ?_));refine ao ?_ ?_<;>intro h12;refine nx J11 (CY (aU ?_))
 exact aF
  SB
  (λ_ s=>am [0,0] rfl s)
  (tl6 (():Unit) trivial)
 refine nx J11 (CN (sr λ_ J12=>P2 ?_));refine ao ?_ ?_<;>intro h12;refine nx J12 (CY (aU ?_))
 exact aF
  SB
  (λ_ s=>am [0,0] rfl s)
  (tl6 (():Unit) trivial)
 refine nx J12 (CN (sr λ_ J13=>P2 ?_));refine ao ?_ ?_<;>intro h12;refine nx J13 (CY (aU ?_))
 exact aF
  SB
  (λ_ s=>am [0,0] rfl s)
  (tl6 (():Unit) trivial)
 refine nx J13 (CN (ae (PS ?_)));refine ao ?_ ?_<;>intro h17;refine PS ?_;refine au ?_
 exact aF
  SB
  (λ_ s=>am [0,0] rfl s)
  (tl6 (():Unit) trivial)
 · exact absurd h17 (by omega)
theorem EK(c n i:Nat)(D M P:Nat→Value)(hi:i<5)(d r:Nat)(s:MS LD)(hD:D i= .pointer (some ⟨d,0,none⟩))(hM:M i= .pointer (some ⟨r,0,none⟩))(W:List (List MsgT))(hW:W.length=25)(ho:s.o=[])(hs:OkR KD s)(o:OpT):
 DT 17 #[(.pointer (some ⟨c,0,none⟩)),(.agg (ints (OpT.mk 8 ((i:Nat):Int) o.to' o.key o.n o.change o.mask o.torn o.cut).flat).toArray)] T0 [ak c (eM n D M P) 104,dk d s.e.D,eE 156 208 5 n (cR W),ff s d r] (dz (λv H=>(s.e.D.dn=true∧v= .int .i64 4∧H=[ak c (eM n D M P) 104,dk d s.e.D,eE 156 208 5 n (cR (W)),ff s d r])∨(s.e.D.dn=false∧v= .int .i64 0∧H=[ak c (eM n D M P) 104,dk d (im KD s).hush.e.D,eE 156 208 5 n (cR (gZ W i (im KD s).o)),ff (im KD s).hush d r]))):=by
 refine BD 114 Tryz.func17 rfl rfl rfl λw0 F hF=>sr λ_ J1=>XY (ints (OpT.mk 8 ((i:Nat):Int) o.to' o.key o.n o.change o.mask o.torn o.cut).flat) λb3=>?_
 refine PS ?_;refine nx J1 (aa λ_ J2=>sr λ_ J3=>PS ?_);refine FA 1 fG aQ ?_;refine LT 0 Y3 (.int .i64 (((i:Nat):Int))) ?_ (hc:=by exact bK _ rfl);refine CE p3 (dU c i hi) ID ?_;refine PS ?_;refine nx J3 (CN (qx J2 (aa λ_ J4=>sr λ_ J5=>FA 0 fG aQ ?_)));refine LT 0 Y3 (.int .i64 8) ?_ (hc:=by exact cO _ rfl);refine nx J5 (aq (aa λ_ J6=>sr λ_ J7=>P2 ?_));refine nx J7 (CN (sr λ_ J8=>P2 ?_));refine nx J8 (CN (sr λ_ J9=>P2 ?_));refine nx J9 (CN (sr λ_ J10=>P2 ?_));refine nx J10 (CN (ae (P2 ?_)));refine nx J6 (CN (aa λ_ J11=>sr λ_ J12=>P2 ?_));refine nx J12 (CN (sr λ_ J13=>P2 ?_));refine nx J13 (CN (ae (P2 ?_)));refine nx J11 (CN (sr λ_ J14=>P2 ?_));refine nx J14 (CY (aa λ_ J15=>sr λ_ J16=>PS ?_));refine FA 1 fG aQ ?_;refine LT 0 Y3 (.int .i64 (((i:Nat):Int))) ?_ (hc:=by exact bK _ rfl);refine CE Cn (sz c n i D M P hi d r s.e.D hD hM) (SM [1,1]) ?_;refine bc ?_ ?_<;>intro h49;refine PS ?_;refine nx J16 (CN (qx J15 (D2 2 0 dN ?_)));refine PD 0 ?_;refine FD 1 1 fG aQ ?_;refine LX 2 Y3 (.int .i64 (((i:Nat):Int))) ?_ (hc:=by exact bK _ rfl);refine PD 3 ?_;refine FD 4 6 iU pq ?_;refine IY 5 (6+i) vm kh ?_;refine LX 6 vn (.pointer (some ⟨r,0,none⟩)) ?_ (hc:=by exact(xJ n D M P hi).trans (congrArg some hM));refine PD 7 ?_;refine FD 8 1 fG aQ ?_;refine LX 9 Y3 (.int .i64 (((i:Nat):Int))) ?_ (hc:=by exact bK _ rfl)
 refine ta 10 rfl (j8 (cells:=#[(.pointer (some ⟨c,0,none⟩)),(.int .i64 (((i:Nat):Int)))]) rfl rfl (by as_aux_lemma=>kernel_rfl)) ?_;refine ta 11 rfl (pz rfl Fg rfl rfl) ?_;refine AL 12 ?_;refine cA (H':=[cJ (xw c n d i D M P hi hD W hW) r s,ak b3 (ints (OpT.mk 8 ((i:Nat):Int) o.to' o.key o.n o.change o.mask o.torn o.cut).flat) 30]) (λ_ q=>Eo ho (aC [0,0,1,1] rfl q)) (CZ O7 (@DQ _ (xw c n d i D M P hi hD W hW) r s hs) ID λvR=>?_);change TL _ _ _ _ _ _ _ _ _ [cJ (xw c n d i D M P hi hD W hW) r (im KD s),ak b3 (ints (OpT.mk 8 ((i:Nat):Int) o.to' o.key o.n o.change o.mask o.torn o.cut).flat) 30];refine cA (H':=[ak c (eM n D M P) 104,dk d ((im KD s).e.D),eE 156 208 5 n (cR (gZ W i (im KD s).o)),ff ((im KD s).hush) d r,ak b3 (ints (OpT.mk 8 ((i:Nat):Int) o.to' o.key o.n o.change o.mask o.torn o.cut).flat) 30]) (λ_ q=>AO (s:=(im KD s)) q) (EN (DN (ag (ac J4 (sr λ_ J17=>PS ?_)))));refine nx J17 (ai (WK [0,0,0,0] (av rfl rfl ?_)));exact .inr ⟨(by simpa using h49),rfl,rfl⟩;refine PS ?_;refine nx J16 (CY (sr λ_ J18=>PS ?_));refine nx J18 (ai (af (aJ (af (WK [0,0,1,1] (av rfl rfl ?_))))));exact .inl ⟨(by simpa using h49),rfl,rfl⟩
theorem C2(c n i:Nat)(D M P:Nat→Value)(hi:i<5)(hM:M i= .pointer none)(o:OpT):
 DT 17 #[(.pointer (some ⟨c,0,none⟩)),(.agg (ints (OpT.mk 8 ((i:Nat):Int) o.to' o.key o.n o.change o.mask o.torn o.cut).flat).toArray)] T0 [ak c (eM n D M P) 104] (RI (.int .i64 4) [ak c (eM n D M P) 104]):=by
 refine BD 114 Tryz.func17 rfl rfl rfl λw0 F hF=>sr λ_ J1=>XY (ints (OpT.mk 8 ((i:Nat):Int) o.to' o.key o.n o.change o.mask o.torn o.cut).flat) λb3=>?_
 refine PS ?_;refine nx J1 (aa λ_ J2=>sr λ_ J3=>PS ?_);refine FA 1 fG aQ ?_;refine LT 0 Y3 (.int .i64 (((i:Nat):Int))) ?_ (hc:=by exact bK _ rfl);refine CE p3 (dU c i hi) ID ?_;refine PS ?_;refine nx J3 (CN (qx J2 (aa λ_ J4=>sr λ_ J5=>FA 0 fG aQ ?_)));refine LT 0 Y3 (.int .i64 8) ?_ (hc:=by exact cO _ rfl);refine nx J5 (aq (aa λ_ J6=>sr λ_ J7=>P2 ?_));refine nx J7 (CN (sr λ_ J8=>P2 ?_));refine nx J8 (CN (sr λ_ J9=>P2 ?_));refine nx J9 (CN (sr λ_ J10=>P2 ?_));refine nx J10 (CN (ae (P2 ?_)));refine nx J6 (CN (aa λ_ J11=>sr λ_ J12=>P2 ?_));refine nx J12 (CN (sr λ_ J13=>P2 ?_));refine nx J13 (CN (ae (P2 ?_)));refine nx J11 (CN (sr λ_ J14=>P2 ?_));refine nx J14 (CY (aa λ_ J15=>sr λ_ J16=>PS ?_));refine FA 1 fG aQ ?_;refine LT 0 Y3 (.int .i64 (((i:Nat):Int))) ?_ (hc:=by exact bK _ rfl);refine CE Cn (sA c n i D M P hi hM) (SM [1]) ?_;refine PS ?_;refine nx J16 (CY (sr λ_ J17=>PS ?_));exact nx J17 (ai (af (aJ (af (WK [0] (av rfl rfl ⟨rfl,rfl⟩))))))
theorem Gy(s:MS LD)(d r:Nat)(h:s.replies.length≤1000000):DT 19 #[.pointer (some ⟨r,0,none⟩)] T0 [ff s d r] (dz λv H=>∃u,v=u∧H=[ff s d r,mH u s.replies]):=
 Leg.Does.pack (B:=[]) λa=>Leg.Does.withinR (A:=[ak r (RepT.cells (s.rep a)) 123,mH a.rs s.replies]) (B:=[FT a.lg d ((s.e.cnt:Nat):Int) s.e.used,Fo a.vo s.vote]) (Av r (s.rep a) s.replies h) (λ_ _ _ _=>trivial) (λ_ q=>aC [0,1,0,0] rfl q) λv H hp=>by
  obtain⟨u,rfl,rfl⟩:=hp;exact⟨_,λ_ q=>bp (p:=Gv s d r) (H:=[mH v s.replies]) a (aC [0,2,0,1,0] rfl q),v,rfl,rfl⟩
theorem Ed(c n i:Nat)(D M P:Nat→Value)(hi:i<5)(hM:M i= .pointer none)(pl:List ReplyT)(hpl:pl.length≤100000):
 DT 15 #[(.pointer (some ⟨c,0,none⟩)),(.int .i64 (((i:Nat):Int)))] T0 [ak c (eM n D M P) 104,own (P i) ((pl).length) (ints (List.flatMap ReplyT.flat (pl))) 37 3] (dz (λv H=>∃u,u.oneCell'=true∧v=u∧H=[ak c (eM n D M P) 104,mH (P i) pl,mH u pl])):=by
 refine BD 34 Tryz.func15 rfl rfl rfl λw0 F hF=>sr λ_ J1=>PS ?_
 refine nx J1 (aa λ_ J2=>sr λ_ J3=>P2 ?_);refine CE p3 (dU c i hi) ID ?_;refine PS ?_;refine nx J3 (CN (qx J2 (sr λ_ J4=>P3 ?_)));refine FA 11 iU Fv ?_;refine IX (11+i) KG yf ?_;refine LT 0 Jz (P i) ?_ (hc:=by exact N6 n D M P hi);refine Od 37 3 (λ_=>cL (k:=0) (news:=ints (List.flatMap ReplyT.flat (pl))) (nn':=(pl).length) (xs':=ints (List.flatMap ReplyT.flat (pl))) (ab rfl) rfl rfl rfl Jz Hd rfl rfl rfl rfl rfl rfl (λ_ s=>PP 2 rfl rfl s) (bC _) (by simp only[maxLen];omega) (by omega) (by simp) (by simp) (λv16 ov16=>PS ?_));refine nx J4 (aa λ_ J5=>sr λ_ J6=>P3 ?_);refine FA 6 iU pq ?_;refine IX (6+i) vm kh ?_;refine LT 1 vn (.pointer none) ?_ (hc:=by exact(xJ n D M P hi).trans (congrArg some hM));refine tp (hX rfl vn rfl rfl) ?_;refine nx J6 (CN (qx J5 (sr λ_ J7=>P2 ?_)));exact nx J7 (ai (WK [1,1,0] (av rfl rfl ⟨_,ov16,rfl,rfl⟩)))
theorem Ec(c n i:Nat)(D M P:Nat→Value)(hi:i<5)(d:Nat)(r:Nat)(s:MS LD)(hM:M i= .pointer (some ⟨r,0,none⟩))(pl:List ReplyT)(hpl:pl.length≤100000)(hrs:s.replies.length≤100000):
 DT 15 #[(.pointer (some ⟨c,0,none⟩)),(.int .i64 (((i:Nat):Int)))] T0 [ak c (eM n D M P) 104,own (P i) ((pl).length) (ints (List.flatMap ReplyT.flat (pl))) 37 3,ff s d r] (dz (λv H=>∃u,u.oneCell'=true∧v=u∧H=[ak c (eM n D M P) 104,mH (P i) pl,ff s d r,mH u (pl++s.replies)])):=by
 refine BD 34 Tryz.func15 rfl rfl rfl λw0 F hF=>sr λ_ J1=>PS ?_
 refine nx J1 (aa λ_ J2=>sr λ_ J3=>P2 ?_);refine CE p3 (dU c i hi) ID ?_;refine PS ?_;refine nx J3 (CN (qx J2 (sr λ_ J4=>P3 ?_)));refine FA 11 iU Fv ?_;refine IX (11+i) KG yf ?_;refine LT 0 Jz (P i) ?_ (hc:=by exact N6 n D M P hi);refine Od 37 3 (λ_=>cL (k:=0) (news:=ints (List.flatMap ReplyT.flat (pl))) (nn':=(pl).length) (xs':=ints (List.flatMap ReplyT.flat (pl))) (ab rfl) rfl rfl rfl Jz Hd rfl rfl rfl rfl rfl rfl (λ_ s=>PP 2 rfl rfl s) (bC _) (by simp only[maxLen];omega) (by omega) (by simp) (by simp) (λv16 ov16=>PS ?_));refine nx J4 (aa λ_ J5=>sr λ_ J6=>P3 ?_);refine FA 6 iU pq ?_;refine IX (6+i) vm kh ?_;refine LT 1 vn (.pointer (some ⟨r,0,none⟩)) ?_ (hc:=by exact(xJ n D M P hi).trans (congrArg some hM));refine tp (gg rfl vn rfl rfl) ?_;refine nx J6 (CY (ae (P4 ?_)));refine FA 6 iU pq ?_;refine IX (6+i) vm kh ?_;refine LT 1 vn (.pointer (some ⟨r,0,none⟩)) ?_ (hc:=by exact(xJ n D M P hi).trans (congrArg some hM));refine CR Pi (Gy s d r (by omega)) (SM [3]) λvR HR hR=>?_
 obtain⟨_,rfl,rfl⟩:=hR;revert vR;intro ur;refine cL (k:=2) (news:=ints (List.flatMap ReplyT.flat (s.replies))) (nn':=(pl++s.replies).length) (xs':=ints (List.flatMap ReplyT.flat (pl++s.replies))) (ab rfl) rfl rfl rfl Jz Hd rfl rfl rfl rfl rfl rfl (λ_ s=>PP 1 rfl rfl s) (bC _) (by simp only[maxLen];omega) (by omega) (by rw[ah]) (by simp[ints]) (λv32 ov32=>PS ?_);refine nx J5 (sr λ_ J7=>P2 ?_);exact nx J7 (ai (WK [3,3,0,1] (av rfl rfl ⟨_,ov32,rfl,rfl⟩)))
theorem ES(c n i:Nat)(D M P:Nat→Value)(hi:i<5)(d:Nat)(hD:D i= .pointer (some ⟨d,0,none⟩))(e:DS)(o:OpT):
 DT 17 #[(.pointer (some ⟨c,0,none⟩)),(.agg (ints (OpT.mk 9 ((i:Nat):Int) o.to' o.key o.n o.change o.mask o.torn o.cut).flat).toArray)] T0 [ak c (eM n D M P) 104,dk d e] (RI (.int .i64 0) [ak c (eM n D M P) 104,dk d (e.arm o.n)]):=by
 refine BD 114 Tryz.func17 rfl rfl rfl λw0 F hF=>sr λ_ J1=>XY (ints (OpT.mk 9 ((i:Nat):Int) o.to' o.key o.n o.change o.mask o.torn o.cut).flat) λb3=>?_
 refine PS ?_;refine nx J1 (aa λ_ J2=>sr λ_ J3=>PS ?_);refine FA 1 fG aQ ?_;refine LT 0 Y3 (.int .i64 (((i:Nat):Int))) ?_ (hc:=by exact bK _ rfl);refine CE p3 (dU c i hi) ID ?_;refine PS ?_;refine nx J3 (CN (qx J2 (aa λ_ J4=>sr λ_ J5=>FA 0 fG aQ ?_)));refine LT 0 Y3 (.int .i64 9) ?_ (hc:=by exact cO _ rfl);refine nx J5 (aq (aa λ_ J6=>sr λ_ J7=>P2 ?_));refine nx J7 (CN (sr λ_ J8=>P2 ?_));refine nx J8 (CN (sr λ_ J9=>P2 ?_));refine nx J9 (CN (sr λ_ J10=>P2 ?_));refine nx J10 (CN (ae (P2 ?_)));refine nx J6 (CN (aa λ_ J11=>sr λ_ J12=>P2 ?_));refine nx J12 (CN (sr λ_ J13=>P2 ?_));refine nx J13 (CN (ae (P2 ?_)));refine nx J11 (CN (sr λ_ J14=>P2 ?_));refine nx J14 (CN (sr λ_ J15=>P2 ?_));refine nx J15 (CY (D2 0 1 dN ?_));refine PD 0 ?_;refine FD 1 1 fG aQ ?_;refine LX 2 Y3 (.int .i64 (((i:Nat):Int))) ?_ (hc:=by exact bK _ rfl);refine PD 3 ?_;refine FD 4 1 iU sF ?_;refine IY 5 (1+i) Bk pg ?_;refine LX 6 tm (.pointer (some ⟨d,0,none⟩)) ?_ (hc:=by exact(Db n D M P hi).trans (congrArg some hD));refine FD 7 4 fG aQ ?_;refine LX 8 Y3 (.int .i64 (o.n)) ?_ (hc:=by exact xZ _ rfl);refine AL 9 ?_;refine CR O6 (Mv d e o.n) (SM [2]) λvR HR hR=>?_
 obtain⟨_,rfl⟩:=hR;refine EN (DN (ag (ac J4 (sr λ_ J16=>PS ?_))));exact nx J16 (ai (WK [2,0] (av rfl rfl ⟨rfl,rfl⟩)))
theorem EO(c n i:Nat)(D M P:Nat→Value)(hi:i<5)(d:Nat)(hD:D i= .pointer (some ⟨d,0,none⟩))(r:Nat)(s:MS LD)(hM:M i= .pointer (some ⟨r,0,none⟩))(pl:List ReplyT)(hpl:pl.length≤100000)(hrs:s.replies.length≤100000)(e:DS)(hok:e.Ok)(o:OpT):
 DT 17 #[(.pointer (some ⟨c,0,none⟩)),(.agg (ints (OpT.mk 10 ((i:Nat):Int) o.to' o.key o.n o.change o.mask o.torn o.cut).flat).toArray)] T0 [ak c (eM n D M P) 104,dk d e,own (P i) ((pl).length) (ints (List.flatMap ReplyT.flat (pl))) 37 3,ff s d r] (dz (λv H=>∃u,u.oneCell'=true∧v= .int .i64 0∧H=[ak c (eM n D (k8 M i (.pointer none)) (k8 P i u)) 104,dk d (e.crash o.mask o.torn o.cut),mH u (pl++s.replies)])):=by
 refine BD 114 Tryz.func17 rfl rfl rfl λw0 F hF=>sr λ_ J1=>XY (ints (OpT.mk 10 ((i:Nat):Int) o.to' o.key o.n o.change o.mask o.torn o.cut).flat) λb3=>?_
 refine PS ?_;refine nx J1 (aa λ_ J2=>sr λ_ J3=>PS ?_);refine FA 1 fG aQ ?_;refine LT 0 Y3 (.int .i64 (((i:Nat):Int))) ?_ (hc:=by exact bK _ rfl);refine CE p3 (dU c i hi) ID ?_;refine PS ?_;refine nx J3 (CN (qx J2 (aa λ_ J4=>sr λ_ J5=>FA 0 fG aQ ?_)));refine LT 0 Y3 (.int .i64 10) ?_ (hc:=by exact cO _ rfl);refine nx J5 (aq (aa λ_ J6=>sr λ_ J7=>P2 ?_));refine nx J7 (CN (sr λ_ J8=>P2 ?_));refine nx J8 (CN (sr λ_ J9=>P2 ?_));refine nx J9 (CN (sr λ_ J10=>P2 ?_));refine nx J10 (CN (ae (P2 ?_)));refine nx J6 (CN (aa λ_ J11=>sr λ_ J12=>P2 ?_));refine nx J12 (CN (sr λ_ J13=>P2 ?_));refine nx J13 (CN (ae (P2 ?_)));refine nx J11 (CN (sr λ_ J14=>P2 ?_));refine nx J14 (CN (sr λ_ J15=>P2 ?_));refine nx J15 (CN (sr λ_ J16=>P2 ?_));refine nx J16 (CY (aa λ_ J17=>D1 0 dN ?_));refine PD 0 ?_;refine FD 1 1 fG aQ ?_;refine LX 2 Y3 (.int .i64 (((i:Nat):Int))) ?_ (hc:=by exact bK _ rfl);refine PD 3 ?_;refine FD 4 1 fG aQ ?_;refine LX 5 Y3 (.int .i64 (((i:Nat):Int))) ?_ (hc:=by exact bK _ rfl);refine PD 7 ?_;refine FD 8 11 iU Fv ?_;refine AL 6 ?_;refine CR NB (Ec c n i D M P hi d r s hM pl hpl hrs) (SM [1,2,2]) λvR HR hR=>?_
 obtain⟨_,huc,rfl,rfl⟩:=hR;revert vR;intro uc huc;refine EN (IY 9 (11+i) KG yf ?_);refine AL 10 ?_;refine bF (i:=0) (ab rfl) rfl rfl rfl rfl huc yf rfl rfl (by rw[rN];omega) (F0 n D M P uc hi) rfl (EN (DN (ac J17 (aa λ_ J18=>D1 4 dN ?_))));refine PD 0 ?_;refine FD 1 1 fG aQ ?_;refine LX 2 Y3 (.int .i64 (((i:Nat):Int))) ?_ (hc:=by exact bK _ rfl);refine PD 3 ?_;refine FD 4 6 iU pq ?_;refine IY 5 (6+i) vm kh ?_;refine AL 6 ?_;refine bF (i:=0) (ab rfl) rfl rfl rfl rfl rfl kh rfl rfl (by rw[rN];omega) (vI n D M (k8 P i uc) (.pointer none) hi) rfl (EN (DN (ac J18 (D2 4 0 dN ?_))));refine PD 0 ?_;refine FD 1 1 fG aQ ?_;refine LX 2 Y3 (.int .i64 (((i:Nat):Int))) ?_ (hc:=by exact bK _ rfl);refine PD 3 ?_;refine FD 4 1 iU sF ?_;refine IY 5 (1+i) Bk pg ?_;refine LX 6 tm (.pointer (some ⟨d,0,none⟩)) ?_ (hc:=by exact(Db n D (k8 M i (.pointer none)) (k8 P i uc) hi).trans (congrArg some hD));refine FD 7 8 fG aQ ?_;refine LX 8 Y3 (.int .i64 (o.mask)) ?_ (hc:=by exact OpT.at_mask _ rfl);refine FD 9 9 fG aQ ?_;refine LX 10 Y3 (.int .i64 (o.torn)) ?_ (hc:=by exact OpT.at_torn _ rfl);refine FD 11 10 fG aQ ?_;refine LX 12 Y3 (.int .i64 (o.cut)) ?_ (hc:=by exact OpT.at_cut _ rfl);refine AL 13 ?_;refine CR Nb (C5 d e o.mask o.torn o.cut hok) (SM [5]) λvR HR hR=>?_
 obtain⟨_,rfl⟩:=hR;refine EN (DN (ag (ac J4 (sr λ_ J19=>PS ?_))));exact nx J19 (ai (WK [1,0,2] (av rfl rfl ⟨uc,huc,rfl,rfl⟩)))
theorem EP(c n i:Nat)(D M P:Nat→Value)(hi:i<5)(d:Nat)(hD:D i= .pointer (some ⟨d,0,none⟩))(hM:M i= .pointer none)(pl:List ReplyT)(hpl:pl.length≤100000)(e:DS)(hok:e.Ok)(o:OpT):
 DT 17 #[(.pointer (some ⟨c,0,none⟩)),(.agg (ints (OpT.mk 10 ((i:Nat):Int) o.to' o.key o.n o.change o.mask o.torn o.cut).flat).toArray)] T0 [ak c (eM n D M P) 104,dk d e,own (P i) ((pl).length) (ints (List.flatMap ReplyT.flat (pl))) 37 3] (dz (λv H=>∃u,u.oneCell'=true∧v= .int .i64 0∧H=[ak c (eM n D (k8 M i (.pointer none)) (k8 P i u)) 104,dk d (e.crash o.mask o.torn o.cut),mH u pl])):=by
 refine BD 114 Tryz.func17 rfl rfl rfl λw0 F hF=>sr λ_ J1=>XY (ints (OpT.mk 10 ((i:Nat):Int) o.to' o.key o.n o.change o.mask o.torn o.cut).flat) λb3=>?_
 refine PS ?_;refine nx J1 (aa λ_ J2=>sr λ_ J3=>PS ?_);refine FA 1 fG aQ ?_;refine LT 0 Y3 (.int .i64 (((i:Nat):Int))) ?_ (hc:=by exact bK _ rfl);refine CE p3 (dU c i hi) ID ?_;refine PS ?_;refine nx J3 (CN (qx J2 (aa λ_ J4=>sr λ_ J5=>FA 0 fG aQ ?_)));refine LT 0 Y3 (.int .i64 10) ?_ (hc:=by exact cO _ rfl);refine nx J5 (aq (aa λ_ J6=>sr λ_ J7=>P2 ?_));refine nx J7 (CN (sr λ_ J8=>P2 ?_));refine nx J8 (CN (sr λ_ J9=>P2 ?_));refine nx J9 (CN (sr λ_ J10=>P2 ?_));refine nx J10 (CN (ae (P2 ?_)));refine nx J6 (CN (aa λ_ J11=>sr λ_ J12=>P2 ?_));refine nx J12 (CN (sr λ_ J13=>P2 ?_));refine nx J13 (CN (ae (P2 ?_)));refine nx J11 (CN (sr λ_ J14=>P2 ?_));refine nx J14 (CN (sr λ_ J15=>P2 ?_));refine nx J15 (CN (sr λ_ J16=>P2 ?_));refine nx J16 (CY (aa λ_ J17=>D1 0 dN ?_));refine PD 0 ?_;refine FD 1 1 fG aQ ?_;refine LX 2 Y3 (.int .i64 (((i:Nat):Int))) ?_ (hc:=by exact bK _ rfl);refine PD 3 ?_;refine FD 4 1 fG aQ ?_;refine LX 5 Y3 (.int .i64 (((i:Nat):Int))) ?_ (hc:=by exact bK _ rfl);refine PD 7 ?_;refine FD 8 11 iU Fv ?_;refine AL 6 ?_;refine CR NB (Ed c n i D M P hi hM pl hpl) (SM [1,2]) λvR HR hR=>?_
 obtain⟨_,huc,rfl,rfl⟩:=hR;revert vR;intro uc huc;refine EN (IY 9 (11+i) KG yf ?_);refine AL 10 ?_;refine bF (i:=0) (ab rfl) rfl rfl rfl rfl huc yf rfl rfl (by rw[rN];omega) (F0 n D M P uc hi) rfl (EN (DN (ac J17 (aa λ_ J18=>D1 3 dN ?_))));refine PD 0 ?_;refine FD 1 1 fG aQ ?_;refine LX 2 Y3 (.int .i64 (((i:Nat):Int))) ?_ (hc:=by exact bK _ rfl);refine PD 3 ?_;refine FD 4 6 iU pq ?_;refine IY 5 (6+i) vm kh ?_;refine AL 6 ?_;refine bF (i:=0) (ab rfl) rfl rfl rfl rfl rfl kh rfl rfl (by rw[rN];omega) (vI n D M (k8 P i uc) (.pointer none) hi) rfl (EN (DN (ac J18 (D2 3 0 dN ?_))));refine PD 0 ?_;refine FD 1 1 fG aQ ?_;refine LX 2 Y3 (.int .i64 (((i:Nat):Int))) ?_ (hc:=by exact bK _ rfl);refine PD 3 ?_;refine FD 4 1 iU sF ?_;refine IY 5 (1+i) Bk pg ?_;refine LX 6 tm (.pointer (some ⟨d,0,none⟩)) ?_ (hc:=by exact(Db n D (k8 M i (.pointer none)) (k8 P i uc) hi).trans (congrArg some hD));refine FD 7 8 fG aQ ?_;refine LX 8 Y3 (.int .i64 (o.mask)) ?_ (hc:=by exact OpT.at_mask _ rfl);refine FD 9 9 fG aQ ?_;refine LX 10 Y3 (.int .i64 (o.torn)) ?_ (hc:=by exact OpT.at_torn _ rfl);refine FD 11 10 fG aQ ?_;refine LX 12 Y3 (.int .i64 (o.cut)) ?_ (hc:=by exact OpT.at_cut _ rfl);refine AL 13 ?_;refine CR Nb (C5 d e o.mask o.torn o.cut hok) (SM [4]) λvR HR hR=>?_
 obtain⟨_,rfl⟩:=hR;refine EN (DN (ag (ac J4 (sr λ_ J19=>PS ?_))));exact nx J19 (ai (WK [1,0,1] (av rfl rfl ⟨uc,huc,rfl,rfl⟩)))
theorem JW{s:MS LD}{lg d r:Nat}{e:LD}{i:Int}(f:Fresh i e s){H:List HP}{h:Hl}(q:bG (DF lg r s::FT lg d ((e.cnt:Nat):Int) e.used::H) h):bG (ff s d r::H) h:=by
 obtain⟨_,q⟩:=fB (p:=λ_:Unit=>[ak r (RepT.cells (s.rep ⟨lg, .pointer none, .slice none 0 0⟩)) 123]) q;refine bp (p:=Gv s d r) ⟨lg, .pointer none, .slice none 0 0⟩ ?_;have q2:=gV 37 3 q;have q3:bG (Fo (.pointer none) (none:Option VoteT)::own (.slice none 0 0) 0 [] 37 3::ak r (RepT.cells (s.rep ⟨lg, .pointer none, .slice none 0 0⟩)) 123::FT lg d ((e.cnt:Nat):Int) e.used::H) h:=⟨em,h,Dv h,(qV h).symm,rfl,q2⟩;have q4:=aC [2,2,1,0] rfl q3;simp only[Gv,f.e,f.replies,f.vote];exact q4
theorem pU(i d:Nat)(e:DS)(hok:DkOk e):DT 55 #[.int .i64 ((i:Nat):Int), .pointer (some ⟨d,0,none⟩)] T0 [dk d e] (dz (λv H=>((cw i e).1=none∧(cw i e).2≠0∧v= .tuple #[.pointer none, .int .i64 (cw i e).2]∧H=[dk d (bH e).D])∨∃s r,(cw i e).1=some s∧v= .tuple #[.pointer (some ⟨r,0,none⟩), .int .i64 0]∧H=[ff s d r,dk d s.e.D])):=
 Leg.Does.fold (BQ (⟨(bH e).recs.length,(bH e).used,(bH e).D⟩:LD) ((i:Nat):Int) d e hok.ok hok.inn (by have:=hok.ws;omega)) λx H hp=>by
  cases x with
  |returned v=>
   unfold cw;rcases hp with⟨he,rfl,rfl⟩| ⟨he,⟨hn,rfl,rfl⟩| ⟨s,r,lg,hn,rfl,rfl⟩⟩
   · rw[if_pos he];exact⟨_,λ_ q=>q, .inl ⟨rfl,he,rfl,rfl⟩⟩
   · rw[if_neg (by rw[he];decide),hn];exact⟨_,λ_ q=>q, .inl ⟨rfl,(by decide),rfl,rfl⟩⟩
   · rw[if_neg (by rw[he];decide),hn]
     have f:=Fresh.read _ (Fresh.new _ _) hn;refine⟨[ff s d r,dk d s.e.D],λ_ q=>JW (lg:=lg) f ?_, .inr ⟨s,r,rfl,rfl,rfl⟩⟩;rw[f.e];exact q
  |panicked c=>exact hp.elim
  |outgrown=>exact hp.elim
theorem BN(c n i:Nat)(D M P:Nat→Value)(hi:i<5)(d:Nat)(hD:D i= .pointer (some ⟨d,0,none⟩))(hM:M i= .pointer none)(e:DS)(hok:DkOk e):
 DT 63 #[(.pointer (some ⟨c,0,none⟩)),(.int .i64 (((i:Nat):Int)))] T0 [ak c (eM n D M P) 104,dk d e] (dz (λv H=>((cw i e).1=none∧v= .int .i64 (cw i e).2∧H=[ak c (eM n D M P) 104,dk d (bH e).D])∨∃s r,(cw i e).1=some s∧v= .int .i64 0∧H=[ak c (eM n D (k8 M i (.pointer (some ⟨r,0,none⟩))) P) 104,ff s d r,dk d s.e.D])):=by
 refine BD 34 Tryz.func63 rfl rfl rfl λw0 F hF=>sr λ_ J1=>PS ?_
 refine nx J1 (aa λ_ J2=>sr λ_ J3=>P3 ?_);refine FA 6 iU pq ?_;refine IX (6+i) vm kh ?_;refine LT 0 vn (.pointer none) ?_ (hc:=by exact(xJ n D M P hi).trans (congrArg some hM));refine tp (hX rfl vn rfl rfl) ?_;refine nx J3 (CN (qx J2 (sr λ_ J4=>P4 ?_)));refine FA 1 iU sF ?_;refine IX (1+i) Bk pg ?_;refine LT 0 tm (.pointer (some ⟨d,0,none⟩)) ?_ (hc:=by exact(Db n D M P hi).trans (congrArg some hD));refine CR Mf (pU i d e hok) (SM [1]) λvR HR hR=>?_
 rcases hR with⟨hn,h0,rfl,rfl⟩| ⟨s,r,hn,rfl,rfl⟩
 refine P4 ?_;refine PS ?_;refine nx J4 (aa λ_ J5=>sr λ_ J6=>P2 ?_);refine ao ?_ ?_<;>intro h26
 · exact absurd h26 h0
 refine nx J6 (CN (qx J5 (sr λ_ J7=>P2 ?_)));exact nx J7 (ai (WK [1,0] (av rfl rfl (.inl ⟨hn,rfl,rfl⟩))));refine P4 ?_;refine PS ?_;refine nx J4 (aa λ_ J8=>sr λ_ J9=>P2 ?_);refine nx J9 (CY (ae (P4 ?_)));refine FA 6 iU pq ?_;refine IX (6+i) vm kh ?_;refine bF (i:=2) (ab rfl) rfl rfl rfl rfl rfl kh rfl rfl (by rw[rN];omega) (vI n D M P (.pointer (some ⟨r,0,none⟩)) hi) rfl (nx J8 (sr λ_ J10=>P2 ?_));exact nx J10 (ai (WK [2,0,0] (av rfl rfl (.inr ⟨s,r,hn,rfl,rfl⟩))))
theorem BM(c n i:Nat)(D M P:Nat→Value)(hi:i<5)(r:Nat)(hM:M i= .pointer (some ⟨r,0,none⟩)):
 DT 63 #[(.pointer (some ⟨c,0,none⟩)),(.int .i64 (((i:Nat):Int)))] T0 [ak c (eM n D M P) 104] (RI (.int .i64 5) [ak c (eM n D M P) 104]):=by
 refine BD 34 Tryz.func63 rfl rfl rfl λw0 F hF=>sr λ_ J1=>PS ?_
 refine nx J1 (aa λ_ J2=>sr λ_ J3=>P3 ?_);refine FA 6 iU pq ?_;refine IX (6+i) vm kh ?_;refine LT 0 vn (.pointer (some ⟨r,0,none⟩)) ?_ (hc:=by exact(xJ n D M P hi).trans (congrArg some hM));refine tp (gg rfl vn rfl rfl) ?_;refine nx J3 (CY (sr λ_ J4=>PS ?_));exact nx J4 (ai (af (WK [0] (av rfl rfl ⟨rfl,rfl⟩))))
theorem EM(c n i:Nat)(D M P:Nat→Value)(hi:i<5)(d:Nat)(hD:D i= .pointer (some ⟨d,0,none⟩))(hM:M i= .pointer none)(e:DS)(hok:DkOk e)(o:OpT):
 DT 17 #[(.pointer (some ⟨c,0,none⟩)),(.agg (ints (OpT.mk 11 ((i:Nat):Int) o.to' o.key o.n o.change o.mask o.torn o.cut).flat).toArray)] T0 [ak c (eM n D M P) 104,dk d e] (dz (λv H=>((cw i e).1=none∧v= .int .i64 (cw i e).2∧H=[ak c (eM n D M P) 104,dk d (bH e).D])∨∃s r,(cw i e).1=some s∧v= .int .i64 0∧H=[ak c (eM n D (k8 M i (.pointer (some ⟨r,0,none⟩))) P) 104,ff s d r,dk d s.e.D])):=by
 refine BD 114 Tryz.func17 rfl rfl rfl λw0 F hF=>sr λ_ J1=>XY (ints (OpT.mk 11 ((i:Nat):Int) o.to' o.key o.n o.change o.mask o.torn o.cut).flat) λb3=>?_
 refine PS ?_;refine nx J1 (aa λ_ J2=>sr λ_ J3=>PS ?_);refine FA 1 fG aQ ?_;refine LT 0 Y3 (.int .i64 (((i:Nat):Int))) ?_ (hc:=by exact bK _ rfl);refine CE p3 (dU c i hi) ID ?_;refine PS ?_;refine nx J3 (CN (qx J2 (aa λ_ J4=>sr λ_ J5=>FA 0 fG aQ ?_)));refine LT 0 Y3 (.int .i64 11) ?_ (hc:=by exact cO _ rfl);refine nx J5 (aq (aa λ_ J6=>sr λ_ J7=>P2 ?_));refine nx J7 (CN (sr λ_ J8=>P2 ?_));refine nx J8 (CN (sr λ_ J9=>P2 ?_));refine nx J9 (CN (sr λ_ J10=>P2 ?_));refine nx J10 (CN (ae (P2 ?_)));refine nx J6 (CN (aa λ_ J11=>sr λ_ J12=>P2 ?_));refine nx J12 (CN (sr λ_ J13=>P2 ?_));refine nx J13 (CN (ae (P2 ?_)));refine nx J11 (CN (sr λ_ J14=>P2 ?_));refine nx J14 (CN (sr λ_ J15=>P2 ?_));refine nx J15 (CN (sr λ_ J16=>P2 ?_));refine nx J16 (CN (sr λ_ J17=>P2 ?_));refine nx J17 (CY (sr λ_ J18=>PS ?_));refine FA 1 fG aQ ?_;refine LT 0 Y3 (.int .i64 (((i:Nat):Int))) ?_ (hc:=by exact bK _ rfl);refine CR Na (BN c n i D M P hi d hD hM e hok) (SM [1,1]) λvR HR hR=>?_
 rcases hR with⟨hn,rfl,rfl⟩| ⟨s,r,hn,rfl,rfl⟩
 refine PS ?_;exact nx J18 (ai (aJ (af (WK [0,0] (av rfl rfl (.inl ⟨hn,rfl,rfl⟩))))));refine PS ?_;exact nx J18 (ai (aJ (af (WK [0,0,0] (av rfl rfl (.inr ⟨s,r,hn,rfl,rfl⟩))))))
theorem EL(c n i:Nat)(D M P:Nat→Value)(hi:i<5)(r:Nat)(hM:M i= .pointer (some ⟨r,0,none⟩))(o:OpT):
 DT 17 #[(.pointer (some ⟨c,0,none⟩)),(.agg (ints (OpT.mk 11 ((i:Nat):Int) o.to' o.key o.n o.change o.mask o.torn o.cut).flat).toArray)] T0 [ak c (eM n D M P) 104] (RI (.int .i64 5) [ak c (eM n D M P) 104]):=by
 refine BD 114 Tryz.func17 rfl rfl rfl λw0 F hF=>sr λ_ J1=>XY (ints (OpT.mk 11 ((i:Nat):Int) o.to' o.key o.n o.change o.mask o.torn o.cut).flat) λb3=>?_
 refine PS ?_;refine nx J1 (aa λ_ J2=>sr λ_ J3=>PS ?_);refine FA 1 fG aQ ?_;refine LT 0 Y3 (.int .i64 (((i:Nat):Int))) ?_ (hc:=by exact bK _ rfl);refine CE p3 (dU c i hi) ID ?_;refine PS ?_;refine nx J3 (CN (qx J2 (aa λ_ J4=>sr λ_ J5=>FA 0 fG aQ ?_)));refine LT 0 Y3 (.int .i64 11) ?_ (hc:=by exact cO _ rfl);refine nx J5 (aq (aa λ_ J6=>sr λ_ J7=>P2 ?_));refine nx J7 (CN (sr λ_ J8=>P2 ?_));refine nx J8 (CN (sr λ_ J9=>P2 ?_));refine nx J9 (CN (sr λ_ J10=>P2 ?_));refine nx J10 (CN (ae (P2 ?_)));refine nx J6 (CN (aa λ_ J11=>sr λ_ J12=>P2 ?_));refine nx J12 (CN (sr λ_ J13=>P2 ?_));refine nx J13 (CN (ae (P2 ?_)));refine nx J11 (CN (sr λ_ J14=>P2 ?_));refine nx J14 (CN (sr λ_ J15=>P2 ?_));refine nx J15 (CN (sr λ_ J16=>P2 ?_));refine nx J16 (CN (sr λ_ J17=>P2 ?_));refine nx J17 (CY (sr λ_ J18=>PS ?_));refine FA 1 fG aQ ?_;refine LT 0 Y3 (.int .i64 (((i:Nat):Int))) ?_ (hc:=by exact bK _ rfl);refine CE Na (BM c n i D M P hi r hM) (SM [1]) ?_;refine PS ?_;exact nx J18 (ai (aJ (af (WK [0] (av rfl rfl ⟨rfl,rfl⟩)))))
theorem By(c n i:Nat)(D M P:Nat→Value)(hi:i<5)(to' k:Int)(o:OpT)(hv:dB ((i:Nat):Int) to'=false)(bs:List Nat):
 DT 59 #[(.pointer (some ⟨c,0,none⟩)),(.agg (ints (OpT.mk k ((i:Nat):Int) to' o.key o.n o.change o.mask o.torn o.cut).flat).toArray)] T0 [ak c (eM n D M P) 104,ak n (dG bs) 156] (RI (.int .i64 5) [ak c (eM n D M P) 104,ak n (dG bs) 156]):=by
 refine BD 91 Tryz.func59 rfl rfl rfl λw0 F hF=>sr λ_ J1=>XY (ints (OpT.mk k ((i:Nat):Int) to' o.key o.n o.change o.mask o.torn o.cut).flat) λb3=>?_
 refine PS ?_;refine nx J1 (aa λ_ J2=>D2 0 1 dN ?_);refine PD 0 ?_;refine PD 1 ?_;refine FD 2 0 iU Ah ?_;refine LX 3 Jj (.pointer (some ⟨n,0,none⟩)) ?_ (hc:=by exact A8 n D M P);refine FD 4 1 fG aQ ?_;refine LX 5 Y3 (.int .i64 (((i:Nat):Int))) ?_ (hc:=by exact bK _ rfl);refine FD 6 2 fG aQ ?_;refine LX 7 Y3 (.int .i64 (to')) ?_ (hc:=by exact iH _ rfl);refine AL 8 ?_;refine CR Em (mW n bs ((i:Nat):Int) to') (SM [2]) λvR HR hR=>?_
 obtain⟨hw,rfl⟩:=hR;obtain⟨_,rfl⟩:dB ((i:Nat):Int) to'=false∧vR= .pointer none:=hw.resolve_left (λq=>by rw[hv]at q;cases q.1);refine EN (PD 9 ?_);refine DN (ac J2 (aa λ_ J3=>sr λ_ J4=>PS ?_));refine tp (Jp rfl xW rfl rfl) ?_;refine nx J4 (CY (sr λ_ J5=>PS ?_));exact nx J5 (ai (af (WK [2,0] (av rfl rfl ⟨rfl,rfl⟩))))
theorem pJ{n i j:Nat}{bs:List Nat}{W:List (List MsgT)}{l:List MsgT}{H:List HP}{h:Hl}(hv:dB ((i:Nat):Int) ((j:Nat):Int)=true)(hW:W.length=25)(q:bG (gY 208 5 (bs.getD (bB ((i:Nat):Int) ((j:Nat):Int)) 0) (List.map (kC (bB ((i:Nat):Int) ((j:Nat):Int))) l)::fC 208 5 bs (cR W) (bB ((i:Nat):Int) ((j:Nat):Int))::ak n (dG bs) 156::H) h):bG (eE 156 208 5 n (cR (W.set (bB ((i:Nat):Int) ((j:Nat):Int)) l))::H) h:=by
 have q2:=tE hv (pK W) q;rw[we W (iB hv).1 hW]at q2;exact bp (p:=λbs:List Nat=>[ak n (dG bs) 156,eN 208 5 bs (cR (W.set (bB ((i:Nat):Int) ((j:Nat):Int)) l))]) bs (eu (List.Perm.swap _ _ _) q2)
theorem zY(c n i:Nat)(D M P:Nat→Value)(hi:i<5)(j:Nat)(hj:j<5)(hv:dB ((i:Nat):Int) ((j:Nat):Int)=true)(W:List (List MsgT))(hW:W.length=25)(l:List MsgT)(hl:W.getD (bB ((i:Nat):Int) ((j:Nat):Int)) []=l)(h8:l.length≤8)(hlen: ∀m∈l,0< (cS m).length)(o:OpT)(k:Int)(hn:l=[])(bs:List Nat):
 DT 59 #[(.pointer (some ⟨c,0,none⟩)),(.agg (ints (OpT.mk k ((i:Nat):Int) ((j:Nat):Int) o.key o.n o.change o.mask o.torn o.cut).flat).toArray)] T0 [ak n (dG bs) 156,eN 208 5 bs (cR W),ak c (eM n D M P) 104] (RI (.int .i64 10) [ak c (eM n D M P) 104,eE 156 208 5 n (cR (W.set (bB ((i:Nat):Int) ((j:Nat):Int)) l))]):=by
 refine BD 91 Tryz.func59 rfl rfl rfl λw0 F hF=>sr λ_ J1=>XY (ints (OpT.mk k ((i:Nat):Int) ((j:Nat):Int) o.key o.n o.change o.mask o.torn o.cut).flat) λb3=>?_
 refine PS ?_;refine nx J1 (aa λ_ J2=>D2 0 3 dN ?_);refine PD 0 ?_;refine PD 1 ?_;refine FD 2 0 iU Ah ?_;refine LX 3 Jj (.pointer (some ⟨n,0,none⟩)) ?_ (hc:=by exact A8 n D M P);refine FD 4 1 fG aQ ?_;refine LX 5 Y3 (.int .i64 (((i:Nat):Int))) ?_ (hc:=by exact bK _ rfl);refine FD 6 2 fG aQ ?_;refine LX 7 Y3 (.int .i64 (((j:Nat):Int))) ?_ (hc:=by exact iH _ rfl);refine AL 8 ?_;refine CR Em (mW n bs ((i:Nat):Int) ((j:Nat):Int)) (SM [1]) λvR HR hR=>?_
 obtain⟨hw,rfl⟩:=hR;obtain⟨_,rfl⟩:dB ((i:Nat):Int) ((j:Nat):Int)=true∧vR= .pointer (some ⟨(bs.getD (bB ((i:Nat):Int) ((j:Nat):Int)) 0),0,none⟩):=hw.resolve_right (λq=>by rw[hv]at q;cases q.1);refine EN (PD 9 ?_);refine DN (ac J2 (aa λ_ J3=>sr λ_ J4=>PS ?_));refine tp (jf rfl xW rfl rfl) ?_;refine nx J4 (CN (qx J3 (aa λ_ J5=>sr λ_ J6=>cA (H':=[gY 208 5 (bs.getD (bB ((i:Nat):Int) ((j:Nat):Int)) 0) (List.map (kC (bB ((i:Nat):Int) ((j:Nat):Int))) l),fC 208 5 bs (cR W) (bB ((i:Nat):Int) ((j:Nat):Int)),ak n (dG bs) 156,ak b3 (ints (OpT.mk k ((i:Nat):Int) ((j:Nat):Int) o.key o.n o.change o.mask o.torn o.cut).flat) 30,ak c (eM n D M P) 104]) (λ_ q=>hl▸nB W (iB hv).1▸n4 hv (aC [2] rfl q)) (PS ?_))));refine CE uP (jy (bs.getD (bB ((i:Nat):Int) ((j:Nat):Int)) 0) (List.map (kC (bB ((i:Nat):Int) ((j:Nat):Int))) l)) ID ?_;rw[bX];refine PS ?_;refine ao ?_ ?_<;>intro h23;refine nx J6 (CY (sr λ_ J7=>PS ?_));exact nx J7 (ai (af (aF (H':=[ak c (eM n D M P) 104,eE 156 208 5 n (cR (W.set (bB ((i:Nat):Int) ((j:Nat):Int)) l))]) (dK _) (λ_ q=>eu (List.Perm.swap _ _ _) (pJ (bs:=bs) hv hW (am [0,0,0,1] rfl q))) (av rfl rfl ⟨rfl,rfl⟩))))
 · exact absurd (by rw[hn];rfl) h23
theorem yb(c n i:Nat)(D M P:Nat→Value)(hi:i<5)(j:Nat)(hj:j<5)(hv:dB ((i:Nat):Int) ((j:Nat):Int)=true)(W:List (List MsgT))(hW:W.length=25)(l:List MsgT)(hl:W.getD (bB ((i:Nat):Int) ((j:Nat):Int)) []=l)(h8:l.length≤8)(hlen: ∀m∈l,0< (cS m).length)(o:OpT)(hn:l≠[])(bs:List Nat):
    DT 59 #[(.pointer (some ⟨c,0,none⟩)),(.agg (ints (OpT.mk 7 ((i:Nat):Int) ((j:Nat):Int) o.key o.n o.change o.mask o.torn o.cut).flat).toArray)] T0 [ak n (dG bs) 156,eN 208 5 bs (cR W),ak c (eM n D M P) 104] (RI (.int .i64 (if HT l then 0 else 3)) [ak c (eM n D M P) 104,eE 156 208 5 n (cR (W.set (bB ((i:Nat):Int) ((j:Nat):Int)) (Dx l)))]):=by
 refine BD 91 Tryz.func59 rfl rfl rfl λw0 F hF=>sr λ_ J1=>XY (ints (OpT.mk 7 ((i:Nat):Int) ((j:Nat):Int) o.key o.n o.change o.mask o.torn o.cut).flat) λb3=>?_
 refine PS ?_;refine nx J1 (aa λ_ J2=>D2 0 3 dN ?_);refine PD 0 ?_;refine PD 1 ?_;refine FD 2 0 iU Ah ?_;refine LX 3 Jj (.pointer (some ⟨n,0,none⟩)) ?_ (hc:=by exact A8 n D M P);refine FD 4 1 fG aQ ?_;refine LX 5 Y3 (.int .i64 (((i:Nat):Int))) ?_ (hc:=by exact bK _ rfl);refine FD 6 2 fG aQ ?_;refine LX 7 Y3 (.int .i64 (((j:Nat):Int))) ?_ (hc:=by exact iH _ rfl);refine AL 8 ?_;refine CR Em (mW n bs ((i:Nat):Int) ((j:Nat):Int)) (SM [1]) λvR HR hR=>?_
 obtain⟨hw,rfl⟩:=hR;obtain⟨_,rfl⟩:dB ((i:Nat):Int) ((j:Nat):Int)=true∧vR= .pointer (some ⟨(bs.getD (bB ((i:Nat):Int) ((j:Nat):Int)) 0),0,none⟩):=hw.resolve_right (λq=>by rw[hv]at q;cases q.1);refine EN (PD 9 ?_);refine DN (ac J2 (aa λ_ J3=>sr λ_ J4=>PS ?_));refine tp (jf rfl xW rfl rfl) ?_;refine nx J4 (CN (qx J3 (aa λ_ J5=>sr λ_ J6=>cA (H':=[gY 208 5 (bs.getD (bB ((i:Nat):Int) ((j:Nat):Int)) 0) (List.map (kC (bB ((i:Nat):Int) ((j:Nat):Int))) l),fC 208 5 bs (cR W) (bB ((i:Nat):Int) ((j:Nat):Int)),ak n (dG bs) 156,ak b3 (ints (OpT.mk 7 ((i:Nat):Int) ((j:Nat):Int) o.key o.n o.change o.mask o.torn o.cut).flat) 30,ak c (eM n D M P) 104]) (λ_ q=>hl▸nB W (iB hv).1▸n4 hv (aC [2] rfl q)) (PS ?_))));refine CE uP (jy (bs.getD (bB ((i:Nat):Int) ((j:Nat):Int)) 0) (List.map (kC (bB ((i:Nat):Int) ((j:Nat):Int))) l)) ID ?_;rw[bX];refine PS ?_;refine ao ?_ ?_<;>intro h23
 · exact absurd (List.eq_nil_of_length_eq_zero (by omega)) hn
 refine nx J6 (CN (qx J5 (aa λ_ J7=>sr λ_ J8=>FA 0 fG aQ ?_)));refine LT 3 Y3 (.int .i64 7) ?_ (hc:=by exact cO _ rfl);refine PS ?_;refine nx J8 (CY (aa λ_ J9=>sr λ_ J10=>PS ?_))
 refine kX (ab rfl) rfl rfl rfl NU rfl (yx (bs.getD (bB ((i:Nat):Int) ((j:Nat):Int)) 0) (List.map (kC (bB ((i:Nat):Int) ((j:Nat):Int))) l) (by rw[bX];exact h8) (λx hx=>by
        obtain⟨m,_,rfl⟩:=eG.1 hx
        exact wc _ m)) (λ_ s=>s) (λ_ _ _=>trivial) (λvR HR hR=>?_)
 obtain⟨rfl,rfl⟩:=hR;rw[JO,JN];refine bc ?_ ?_<;>intro h28;refine PS ?_;refine nx J10 (CN (qx J9 (sr λ_ J11=>PS ?_)));refine nx J11 (ai (af (aF (H':=[ak c (eM n D M P) 104,eE 156 208 5 n (cR (W.set (bB ((i:Nat):Int) ((j:Nat):Int)) (Dx l)))]) (dK _) (λ_ q=>eu (List.Perm.swap _ _ _) (pJ (bs:=bs) hv hW (am [0,0,0,1] rfl q))) (av rfl rfl ?_))));exact⟨by rw[h28];rfl,rfl⟩;refine PS ?_;refine nx J10 (CY (sr λ_ J12=>PS ?_));refine nx J12 (ai (af (af (aF (H':=[ak c (eM n D M P) 104,eE 156 208 5 n (cR (W.set (bB ((i:Nat):Int) ((j:Nat):Int)) (Dx l)))]) (dK _) (λ_ q=>eu (List.Perm.swap _ _ _) (pJ (bs:=bs) hv hW (am [0,0,0,1] rfl q))) (av rfl rfl ?_)))));exact⟨by rw[h28];rfl,rfl⟩
theorem Fs{i j:Nat}{W:List (List MsgT)}{m:MsgT}{l2:List MsgT}(hv:dB ((i:Nat):Int) ((j:Nat):Int)=true)(hW:W.length=25):(cR (W.set (bB ((i:Nat):Int) ((j:Nat):Int)) (m::l2))).getD (bB ((i:Nat):Int) ((j:Nat):Int)) []=jw ((i:Nat):Int) ((j:Nat):Int) (cS m)::List.map (kC (bB ((i:Nat):Int) ((j:Nat):Int))) l2:=by
 rw[nB _ (iB hv).1,List.getD_eq_getElem?_getD,List.getElem?_set_self (by rw[hW];exact(iB hv).1),←Bx (sy hv).1 (sy hv).2];rfl
theorem BB{i j:Nat}{W:List (List MsgT)}{m:MsgT}{l2:List MsgT}(hv:dB ((i:Nat):Int) ((j:Nat):Int)=true)(hW:W.length=25):(cR (W.set (bB ((i:Nat):Int) ((j:Nat):Int)) (m::l2))).set (bB ((i:Nat):Int) ((j:Nat):Int)) (List.map (kC (bB ((i:Nat):Int) ((j:Nat):Int))) l2)=cR (W.set (bB ((i:Nat):Int) ((j:Nat):Int)) l2):=by
 rw[we _ (iB hv).1 (by rw[cB];exact hW),il]
theorem sh(c n i:Nat)(D M P:Nat→Value)(hi:i<5)(j:Nat)(hj:j<5)(hv:dB ((i:Nat):Int) ((j:Nat):Int)=true)(W:List (List MsgT))(hW:W.length=25)(l:List MsgT)(hl:W.getD (bB ((i:Nat):Int) ((j:Nat):Int)) []=l)(h8:l.length≤8)(hlen: ∀m∈l,0< (cS m).length)(o:OpT)(m:MsgT)(l2:List MsgT)(ht:lp (max o.n 0% ((l.length:Nat):Int)).toNat l=m::l2)(bs:List Nat)(q:Int)(hk5:q=5∨q=6)(hk:q=6∨M j= .pointer none):
    DT 59 #[(.pointer (some ⟨c,0,none⟩)),(.agg (ints (OpT.mk q ((i:Nat):Int) ((j:Nat):Int) o.key o.n o.change o.mask o.torn o.cut).flat).toArray)] T0 [ak n (dG bs) 156,eN 208 5 bs (cR W),ak c (eM n D M P) 104] (RI (.int .i64 0) [ak c (eM n D M P) 104,eE 156 208 5 n (cR (W.set (bB ((i:Nat):Int) ((j:Nat):Int)) l2))]):=by
 refine BD 91 Tryz.func59 rfl rfl rfl λw0 F hF=>?_
 have hln:0<l.length:=by
     have:=jj (max o.n 0% ((l.length:Nat):Int)).toNat l;rw[ht]at this;rw[←this];exact Nat.succ_pos _
 have hm0:0< (cS m).length:=hlen m ((m3 (max o.n 0% ((l.length:Nat):Int)).toNat l).1 (ht▸dr ..));have hrl:(max o.n 0% ((l.length:Nat):Int))< ((l.length:Nat):Int):=HF _ (by omega);refine sr λ_ J1=>XY (ints (OpT.mk q ((i:Nat):Int) ((j:Nat):Int) o.key o.n o.change o.mask o.torn o.cut).flat) λb3=>?_
 refine PS ?_;refine nx J1 (aa λ_ J2=>D2 0 3 dN ?_);refine PD 0 ?_;refine PD 1 ?_;refine FD 2 0 iU Ah ?_;refine LX 3 Jj (.pointer (some ⟨n,0,none⟩)) ?_ (hc:=by exact A8 n D M P);refine FD 4 1 fG aQ ?_;refine LX 5 Y3 (.int .i64 (((i:Nat):Int))) ?_ (hc:=by exact bK _ rfl);refine FD 6 2 fG aQ ?_;refine LX 7 Y3 (.int .i64 (((j:Nat):Int))) ?_ (hc:=by exact iH _ rfl);refine AL 8 ?_;refine CR Em (mW n bs ((i:Nat):Int) ((j:Nat):Int)) (SM [1]) λvR HR hR=>?_
 obtain⟨hw,rfl⟩:=hR;obtain⟨_,rfl⟩:dB ((i:Nat):Int) ((j:Nat):Int)=true∧vR= .pointer (some ⟨(bs.getD (bB ((i:Nat):Int) ((j:Nat):Int)) 0),0,none⟩):=hw.resolve_right (λq=>by rw[hv]at q;cases q.1);refine EN (PD 9 ?_);refine DN (ac J2 (aa λ_ J3=>sr λ_ J4=>PS ?_));refine tp (jf rfl xW rfl rfl) ?_;refine nx J4 (CN (qx J3 (aa λ_ J5=>sr λ_ J6=>cA (H':=[gY 208 5 (bs.getD (bB ((i:Nat):Int) ((j:Nat):Int)) 0) (List.map (kC (bB ((i:Nat):Int) ((j:Nat):Int))) l),fC 208 5 bs (cR W) (bB ((i:Nat):Int) ((j:Nat):Int)),ak n (dG bs) 156,ak b3 (ints (OpT.mk q ((i:Nat):Int) ((j:Nat):Int) o.key o.n o.change o.mask o.torn o.cut).flat) 30,ak c (eM n D M P) 104]) (λ_ q=>hl▸nB W (iB hv).1▸n4 hv (aC [2] rfl q)) (PS ?_))));refine CE uP (jy (bs.getD (bB ((i:Nat):Int) ((j:Nat):Int)) 0) (List.map (kC (bB ((i:Nat):Int) ((j:Nat):Int))) l)) ID ?_;rw[bX];refine PS ?_;refine ao ?_ ?_<;>intro h23
 · exact absurd h23 (by omega)
 refine nx J6 (CN (qx J5 (aa λ_ J7=>sr λ_ J8=>FA 0 fG aQ ?_)));refine LT 3 Y3 (.int .i64 (q)) ?_ (hc:=by exact cO _ rfl);refine PS ?_;refine ao ?_ ?_<;>intro h26
 · exact absurd h26 (by omega)
 refine nx J8 (CN (qx J7 (aa λ_ J9=>aa λ_ J10=>D1 3 dN ?_)));refine FD 0 4 fG aQ ?_;refine LX 1 Y3 (.int .i64 (o.n)) ?_ (hc:=by exact xZ _ rfl);refine ta 2 rfl (yK rfl rfl rfl) ?_;refine PD 3 ?_;refine PD 6 ?_;refine AL 4 ?_;refine CE uP (jy (bs.getD (bB ((i:Nat):Int) ((j:Nat):Int)) 0) (List.map (kC (bB ((i:Nat):Int) ((j:Nat):Int))) l)) ID ?_;rw[bX];refine EN (ta 5 rfl (PV.rem (r:=(max o.n 0% ((l.length:Nat):Int))) rfl rfl rfl (by omega) (tv (by omega))) ?_);refine DN (ac J10 (aq ?_))
 refine bw (α:=(Nat)) (λk=>((k:Nat):Int)≤(max o.n 0% ((l.length:Nat):Int))) (λk=>[(0,(.pointer (some ⟨c,0,none⟩))),(3,(.pointer (some ⟨b3,0,none⟩))),(4,(.int .i64 0)),(5,(.pointer (some ⟨(bs.getD (bB ((i:Nat):Int) ((j:Nat):Int)) 0),0,none⟩))),(35,(.int .i64 ((max o.n 0% ((l.length:Nat):Int))))),(36,(.int .i64 (((k:Nat):Int))))]) (λk=>[gY 208 5 (bs.getD (bB ((i:Nat):Int) ((j:Nat):Int)) 0) (List.map (kC (bB ((i:Nat):Int) ((j:Nat):Int))) (lp k l)),fC 208 5 bs (cR W) (bB ((i:Nat):Int) ((j:Nat):Int)),ak n (dG bs) 156,ak b3 (ints (OpT.mk q ((i:Nat):Int) ((j:Nat):Int) o.key o.n o.change o.mask o.torn o.cut).flat) 30,ak c (eM n D M P) 104]) (λk=>(max o.n 0% ((l.length:Nat):Int)).toNat-k) 0
     (zR _ (by omega)) SB
     (λ_ s=>aC [0,0,0,0,0] rfl s) (λk hinv=>?_)
 obtain hk:=hinv;refine sr λ_ J11=>PS ?_
 refine ao ?_ ?_<;>intro h37;refine nx J11 (aa λ_ J12=>CY (qx J12 (aa λ_ J13=>aq (ae (PS ?_)))))
 refine kX (ab rfl) rfl rfl rfl Lp rfl (tg (bs.getD (bB ((i:Nat):Int) ((j:Nat):Int)) 0) (List.map (kC (bB ((i:Nat):Int) ((j:Nat):Int))) (lp k l)) (by rw[bX,jj];exact h8) (λx hx=>by
        obtain⟨m,_,rfl⟩:=eG.1 hx
        exact wc _ m)) (λ_ s=>s) (λ_ _ _=>trivial) (λvR HR hR=>?_)
 obtain rfl:=hR;rw[yW];refine au (ag (ac J13 (ae (AD ?_))));refine PS ?_;refine au ?_
 exact aK ((k+1):(Nat)) (by omega) (by show(max o.n 0% ((l.length:Nat):Int)).toNat- (k+1)< (max o.n 0% ((l.length:Nat):Int)).toNat-k;omega)
   SB
   (λ_ s=>aC [0,0,0,0,0] rfl s)
 have hkr:k=(max o.n 0% ((l.length:Nat):Int)).toNat:=by omega
 refine cA (H':=[gY 208 5 (bs.getD (bB ((i:Nat):Int) ((j:Nat):Int)) 0) (List.map (kC (bB ((i:Nat):Int) ((j:Nat):Int))) (m::l2)),fC 208 5 bs (cR W) (bB ((i:Nat):Int) ((j:Nat):Int)),ak n (dG bs) 156,ak b3 (ints (OpT.mk q ((i:Nat):Int) ((j:Nat):Int) o.key o.n o.change o.mask o.torn o.cut).flat) 30,ak c (eM n D M P) 104]) (λ_ q=>by rw[hkr,ht]at q;exact q) (nx J11 (aa λ_ J14=>CN (aX (aA (aA (br (ac J9 (aa λ_ J15=>D2 3 4 dN ?_))))))));refine PD 0 ?_;refine PD 1 ?_;refine FD 2 0 iU Ah ?_;refine LX 3 Jj (.pointer (some ⟨n,0,none⟩)) ?_ (hc:=by exact A8 n D M P);refine FD 4 1 fG aQ ?_;refine LX 5 Y3 (.int .i64 (((i:Nat):Int))) ?_ (hc:=by exact bK _ rfl);refine FD 6 2 fG aQ ?_;refine LX 7 Y3 (.int .i64 (((j:Nat):Int))) ?_ (hc:=by exact iH _ rfl);refine AL 8 ?_;refine cA (H':=[eE 156 208 5 n (cR (W.set (bB ((i:Nat):Int) ((j:Nat):Int)) (m::l2))),ak b3 (ints (OpT.mk q ((i:Nat):Int) ((j:Nat):Int) o.key o.n o.change o.mask o.torn o.cut).flat) 30,ak c (eM n D M P) 104]) (λ_ q=>pJ (bs:=bs) hv hW (aC [0,0,0] rfl q)) (CR Lo (qS n (cR (W.set (bB ((i:Nat):Int) ((j:Nat):Int)) (m::l2))) ((i:Nat):Int) ((j:Nat):Int) (cS m) (List.map (kC (bB ((i:Nat):Int) ((j:Nat):Int))) l2) hv (pK _) (Fs hv hW) hm0 (by have:=tc m;omega)) ID λvR HR hR=>?_);obtain⟨uv,rfl,rfl⟩:=hR;rw[BB hv hW];refine EN (PD 9 ?_);refine PD 10 ?_;refine PD 11 ?_;refine PD 12 ?_;refine PD 13 ?_
 refine DN (ac J15 (aa λ_ J16=>sr λ_ J17=>FA 0 fG aQ ?_));refine LT 2 Y3 (.int .i64 (q)) ?_ (hc:=by exact cO _ rfl);refine PS ?_;refine ao ?_ ?_<;>intro h55;refine PS ?_;refine UT ?_;refine UT ?_;refine P2 ?_
 iterate 5 refine UT ?_
 refine PS ?_;refine nx J17 (CY (sr λ_ J18=>PS ?_));exact nx J18 (ai (af (WK [3,0] (av rfl rfl ⟨rfl,rfl⟩))));refine P2 ?_;refine PS ?_;refine P3 ?_;refine FA 2 fG aQ ?_;refine LT 2 Y3 (.int .i64 (((j:Nat):Int))) ?_ (hc:=by exact iH _ rfl);refine CE Cn (sA c n j D M P hj (hk.resolve_left h55)) (SM [3]) ?_;refine PS ?_;refine PS ?_;refine nx J17 (CY (sr λ_ J19=>PS ?_));exact nx J19 (ai (af (WK [0,0] (av rfl rfl ⟨rfl,rfl⟩))))
theorem zZ(c n i:Nat)(D M P:Nat→Value)(hi:i<5)(j:Nat)(hj:j<5)(hv:dB ((i:Nat):Int) ((j:Nat):Int)=true)(W:List (List MsgT))(hW:W.length=25)(l:List MsgT)(hl:W.getD (bB ((i:Nat):Int) ((j:Nat):Int)) []=l)(h8:l.length≤8)(hlen: ∀m∈l,0< (cS m).length)(o:OpT)(m:MsgT)(l2:List MsgT)(ht:lp (max o.n 0% ((l.length:Nat):Int)).toNat l=m::l2)(bs:List Nat)(d r:Nat)(s:MS LD)(hD:D j= .pointer (some ⟨d,0,none⟩))(hM:M j= .pointer (some ⟨r,0,none⟩))(ho:s.o=[])(hs:OkR KD s)(hto:((i:Nat):Int)≠s.id)(hrs:s.replies.length≤1000000):
    DT 59 #[(.pointer (some ⟨c,0,none⟩)),(.agg (ints (OpT.mk 5 ((i:Nat):Int) ((j:Nat):Int) o.key o.n o.change o.mask o.torn o.cut).flat).toArray)] T0 [ak n (dG bs) 156,eN 208 5 bs (cR W),ak c (eM n D M P) 104,dk d s.e.D,ff s d r] (dz (λv H=>(s.e.D.dn=true∧v= .int .i64 0∧H=[ak c (eM n D M P) 104,dk d s.e.D,eE 156 208 5 n (cR ((W.set (bB ((i:Nat):Int) ((j:Nat):Int)) l2))),ff s d r])∨(s.e.D.dn=false∧(gE (cS m)).2≠0∧v= .int .i64 (gE (cS m)).2∧H=[ak c (eM n D M P) 104,dk d s.e.D,eE 156 208 5 n (cR ((W.set (bB ((i:Nat):Int) ((j:Nat):Int)) l2))),ff s d r])∨(s.e.D.dn=false∧(gE (cS m)).2=0∧v= .int .i64 0∧H=[ak c (eM n D M P) 104,dk d (gj KD s ((i:Nat):Int) (gE (cS m)).1).hush.e.D,eE 156 208 5 n (cR (gZ (W.set (bB ((i:Nat):Int) ((j:Nat):Int)) l2) j (gj KD s ((i:Nat):Int) (gE (cS m)).1).o)),ff (gj KD s ((i:Nat):Int) (gE (cS m)).1).hush d r]))):=by
 refine BD 91 Tryz.func59 rfl rfl rfl λw0 F hF=>?_
 have hln:0<l.length:=by
     have:=jj (max o.n 0% ((l.length:Nat):Int)).toNat l;rw[ht]at this;rw[←this];exact Nat.succ_pos _
 have hm0:0< (cS m).length:=hlen m ((m3 (max o.n 0% ((l.length:Nat):Int)).toNat l).1 (ht▸dr ..));have hrl:(max o.n 0% ((l.length:Nat):Int))< ((l.length:Nat):Int):=HF _ (by omega);refine sr λ_ J1=>XY (ints (OpT.mk 5 ((i:Nat):Int) ((j:Nat):Int) o.key o.n o.change o.mask o.torn o.cut).flat) λb3=>?_
 refine PS ?_;refine nx J1 (aa λ_ J2=>D2 0 3 dN ?_);refine PD 0 ?_;refine PD 1 ?_;refine FD 2 0 iU Ah ?_;refine LX 3 Jj (.pointer (some ⟨n,0,none⟩)) ?_ (hc:=by exact A8 n D M P);refine FD 4 1 fG aQ ?_;refine LX 5 Y3 (.int .i64 (((i:Nat):Int))) ?_ (hc:=by exact bK _ rfl);refine FD 6 2 fG aQ ?_;refine LX 7 Y3 (.int .i64 (((j:Nat):Int))) ?_ (hc:=by exact iH _ rfl);refine AL 8 ?_;refine CR Em (mW n bs ((i:Nat):Int) ((j:Nat):Int)) (SM [1]) λvR HR hR=>?_
 obtain⟨hw,rfl⟩:=hR;obtain⟨_,rfl⟩:dB ((i:Nat):Int) ((j:Nat):Int)=true∧vR= .pointer (some ⟨(bs.getD (bB ((i:Nat):Int) ((j:Nat):Int)) 0),0,none⟩):=hw.resolve_right (λq=>by rw[hv]at q;cases q.1);refine EN (PD 9 ?_);refine DN (ac J2 (aa λ_ J3=>sr λ_ J4=>PS ?_));refine tp (jf rfl xW rfl rfl) ?_;refine nx J4 (CN (qx J3 (aa λ_ J5=>sr λ_ J6=>cA (H':=[gY 208 5 (bs.getD (bB ((i:Nat):Int) ((j:Nat):Int)) 0) (List.map (kC (bB ((i:Nat):Int) ((j:Nat):Int))) l),fC 208 5 bs (cR W) (bB ((i:Nat):Int) ((j:Nat):Int)),ak n (dG bs) 156,ak b3 (ints (OpT.mk 5 ((i:Nat):Int) ((j:Nat):Int) o.key o.n o.change o.mask o.torn o.cut).flat) 30,ak c (eM n D M P) 104,dk d s.e.D,ff s d r]) (λ_ q=>hl▸nB W (iB hv).1▸n4 hv (aC [2] rfl q)) (PS ?_))));refine CE uP (jy (bs.getD (bB ((i:Nat):Int) ((j:Nat):Int)) 0) (List.map (kC (bB ((i:Nat):Int) ((j:Nat):Int))) l)) ID ?_;rw[bX];refine PS ?_;refine ao ?_ ?_<;>intro h23
 · exact absurd h23 (by omega)
 refine nx J6 (CN (qx J5 (aa λ_ J7=>sr λ_ J8=>FA 0 fG aQ ?_)));refine LT 3 Y3 (.int .i64 5) ?_ (hc:=by exact cO _ rfl);refine PS ?_;refine nx J8 (CN (qx J7 (aa λ_ J9=>aa λ_ J10=>D1 3 dN ?_)));refine FD 0 4 fG aQ ?_;refine LX 1 Y3 (.int .i64 (o.n)) ?_ (hc:=by exact xZ _ rfl);refine ta 2 rfl (yK rfl rfl rfl) ?_;refine PD 3 ?_;refine PD 6 ?_;refine AL 4 ?_;refine CE uP (jy (bs.getD (bB ((i:Nat):Int) ((j:Nat):Int)) 0) (List.map (kC (bB ((i:Nat):Int) ((j:Nat):Int))) l)) ID ?_;rw[bX];refine EN (ta 5 rfl (PV.rem (r:=(max o.n 0% ((l.length:Nat):Int))) rfl rfl rfl (by omega) (tv (by omega))) ?_);refine DN (ac J10 (aq ?_))
 refine bw (α:=(Nat)) (λk=>((k:Nat):Int)≤(max o.n 0% ((l.length:Nat):Int))) (λk=>[(0,(.pointer (some ⟨c,0,none⟩))),(3,(.pointer (some ⟨b3,0,none⟩))),(4,(.int .i64 0)),(5,(.pointer (some ⟨(bs.getD (bB ((i:Nat):Int) ((j:Nat):Int)) 0),0,none⟩))),(35,(.int .i64 ((max o.n 0% ((l.length:Nat):Int))))),(36,(.int .i64 (((k:Nat):Int))))]) (λk=>[gY 208 5 (bs.getD (bB ((i:Nat):Int) ((j:Nat):Int)) 0) (List.map (kC (bB ((i:Nat):Int) ((j:Nat):Int))) (lp k l)),fC 208 5 bs (cR W) (bB ((i:Nat):Int) ((j:Nat):Int)),ak n (dG bs) 156,ak b3 (ints (OpT.mk 5 ((i:Nat):Int) ((j:Nat):Int) o.key o.n o.change o.mask o.torn o.cut).flat) 30,ak c (eM n D M P) 104,dk d s.e.D,ff s d r]) (λk=>(max o.n 0% ((l.length:Nat):Int)).toNat-k) 0
     (zR _ (by omega)) SB
     (λ_ s=>aC [0,0,0,0,0,0,0] rfl s) (λk hinv=>?_)
 obtain hk:=hinv;refine sr λ_ J11=>PS ?_
 refine ao ?_ ?_<;>intro h37;refine nx J11 (aa λ_ J12=>CY (qx J12 (aa λ_ J13=>aq (ae (PS ?_)))))
 refine kX (ab rfl) rfl rfl rfl Lp rfl (tg (bs.getD (bB ((i:Nat):Int) ((j:Nat):Int)) 0) (List.map (kC (bB ((i:Nat):Int) ((j:Nat):Int))) (lp k l)) (by rw[bX,jj];exact h8) (λx hx=>by
        obtain⟨m,_,rfl⟩:=eG.1 hx
        exact wc _ m)) (λ_ s=>s) (λ_ _ _=>trivial) (λvR HR hR=>?_)
 obtain rfl:=hR;rw[yW];refine au (ag (ac J13 (ae (AD ?_))));refine PS ?_;refine au ?_
 exact aK ((k+1):(Nat)) (by omega) (by show(max o.n 0% ((l.length:Nat):Int)).toNat- (k+1)< (max o.n 0% ((l.length:Nat):Int)).toNat-k;omega)
   SB
   (λ_ s=>aC [0,0,0,0,0,0,0] rfl s)
 have hkr:k=(max o.n 0% ((l.length:Nat):Int)).toNat:=by omega
 refine cA (H':=[gY 208 5 (bs.getD (bB ((i:Nat):Int) ((j:Nat):Int)) 0) (List.map (kC (bB ((i:Nat):Int) ((j:Nat):Int))) (m::l2)),fC 208 5 bs (cR W) (bB ((i:Nat):Int) ((j:Nat):Int)),ak n (dG bs) 156,ak b3 (ints (OpT.mk 5 ((i:Nat):Int) ((j:Nat):Int) o.key o.n o.change o.mask o.torn o.cut).flat) 30,ak c (eM n D M P) 104,dk d s.e.D,ff s d r]) (λ_ q=>by rw[hkr,ht]at q;exact q) (nx J11 (aa λ_ J14=>CN (aX (aA (aA (br (ac J9 (aa λ_ J15=>D2 3 4 dN ?_))))))));refine PD 0 ?_;refine PD 1 ?_;refine FD 2 0 iU Ah ?_;refine LX 3 Jj (.pointer (some ⟨n,0,none⟩)) ?_ (hc:=by exact A8 n D M P);refine FD 4 1 fG aQ ?_;refine LX 5 Y3 (.int .i64 (((i:Nat):Int))) ?_ (hc:=by exact bK _ rfl);refine FD 6 2 fG aQ ?_;refine LX 7 Y3 (.int .i64 (((j:Nat):Int))) ?_ (hc:=by exact iH _ rfl);refine AL 8 ?_;refine cA (H':=[eE 156 208 5 n (cR (W.set (bB ((i:Nat):Int) ((j:Nat):Int)) (m::l2))),ak b3 (ints (OpT.mk 5 ((i:Nat):Int) ((j:Nat):Int) o.key o.n o.change o.mask o.torn o.cut).flat) 30,ak c (eM n D M P) 104,dk d s.e.D,ff s d r]) (λ_ q=>pJ (bs:=bs) hv hW (aC [0,0,0] rfl q)) (CR Lo (qS n (cR (W.set (bB ((i:Nat):Int) ((j:Nat):Int)) (m::l2))) ((i:Nat):Int) ((j:Nat):Int) (cS m) (List.map (kC (bB ((i:Nat):Int) ((j:Nat):Int))) l2) hv (pK _) (Fs hv hW) hm0 (by have:=tc m;omega)) ID λvR HR hR=>?_);obtain⟨uv,rfl,rfl⟩:=hR;rw[BB hv hW];refine EN (PD 9 ?_);refine PD 10 ?_
 refine PD 11 ?_;refine PD 12 ?_;refine PD 13 ?_;refine DN (ac J15 (aa λ_ J16=>sr λ_ J17=>FA 0 fG aQ ?_));refine LT 2 Y3 (.int .i64 5) ?_ (hc:=by exact cO _ rfl);refine P3 ?_;refine PS ?_;refine P3 ?_;refine FA 2 fG aQ ?_;refine LT 2 Y3 (.int .i64 (((j:Nat):Int))) ?_ (hc:=by exact iH _ rfl);refine CE Cn (sz c n j D M P hj d r s.e.D hD hM) (SM [3,3]) ?_;refine bc ?_ ?_<;>intro h64;refine PS ?_;refine PS ?_;refine nx J17 (CN (qx J16 (sr λ_ J18=>PS ?_)));refine CF NS (C6 uv (cS m)) ID (AU 3 rfl rfl) ?_;refine P3 ?_;refine XZ mB (ints MsgT.zero.flat) λb8=>?_
 refine SW 0 cb aI ?_;refine PS ?_;refine nx J18 (aa λ_ J19=>sr λ_ J20=>P2 ?_);refine ao ?_ ?_<;>intro h73;refine nx J20 (CY (rR (λw=>Frm F w∧w.heap[b3]?=some (.cells (ints (OpT.mk 5 ((i:Nat):Int) ((j:Nat):Int) o.key o.n o.change o.mask o.torn o.cut).flat).toArray 30 (0,0))∧w.heap[c]?=some (.cells (eM n D M P).toArray 104 (0,0))∧w.heap[b8]?=some (.cells (ints ((gE (cS m)).1).flat).toArray 178 (0,0))∧True) dN rfl (λ_ s=>⟨fu s,s.block 5 (lb rfl) rfl,s.block 1 (lb rfl) rfl,s.block 0 (lb rfl) rfl,trivial⟩) (PD 0 ?_)));refine FD 1 2 fG aQ ?_;refine LX 2 Y3 (.int .i64 (((j:Nat):Int))) ?_ (hc:=by exact iH _ rfl);refine PD 3 ?_;refine FD 4 6 iU pq ?_;refine IY 5 (6+j) vm kh ?_;refine LX 6 vn (.pointer (some ⟨r,0,none⟩)) ?_ (hc:=by exact(xJ n D M P hj).trans (congrArg some hM));refine PD 7 ?_;refine FD 8 2 fG aQ ?_;refine LX 9 Y3 (.int .i64 (((j:Nat):Int))) ?_ (hc:=by exact iH _ rfl);refine ta 10 rfl (j8 (cells:=#[(.pointer (some ⟨c,0,none⟩)),(.int .i64 (((j:Nat):Int)))]) rfl rfl (by as_aux_lemma=>kernel_rfl)) ?_;refine ta 11 rfl (pz rfl Fg rfl rfl) ?_;refine FD 12 1 fG aQ ?_;refine LX 13 Y3 (.int .i64 (((i:Nat):Int))) ?_ (hc:=by exact bK _ rfl);refine LY 14 bf cb aI ?_;refine AL 15 ?_
 refine cA (H':=[cJ (xw c n d j D M P hj hD (W.set (bB ((i:Nat):Int) ((j:Nat):Int)) l2) (by rw[cB];exact hW)) r s,ak b8 (ints ((gE (cS m)).1).flat) 178,gL uv (cS m) 5,ak b3 (ints (OpT.mk 5 ((i:Nat):Int) ((j:Nat):Int) o.key o.n o.change o.mask o.torn o.cut).flat) 30]) (λ_ q=>Eo ho (aC [1,1,1,3] rfl q)) (CZ Ln (@Ag _ (xw c n d j D M P hj hD (W.set (bB ((i:Nat):Int) ((j:Nat):Int)) l2) (by rw[cB];exact hW)) r s ((i:Nat):Int) (gE (cS m)).1 hs (A4 _) hto hrs) ID λvR=>?_);change TL _ _ _ _ _ _ _ _ _ [cJ (xw c n d j D M P hj hD (W.set (bB ((i:Nat):Int) ((j:Nat):Int)) l2) (by rw[cB];exact hW)) r (gj KD s ((i:Nat):Int) (gE (cS m)).1),ak b8 (ints ((gE (cS m)).1).flat) 178,gL uv (cS m) 5,ak b3 (ints (OpT.mk 5 ((i:Nat):Int) ((j:Nat):Int) o.key o.n o.change o.mask o.torn o.cut).flat) 30];refine cA (H':=[ak c (eM n D M P) 104,dk d ((gj KD s ((i:Nat):Int) (gE (cS m)).1).e.D),eE 156 208 5 n (cR (gZ (W.set (bB ((i:Nat):Int) ((j:Nat):Int)) l2) j (gj KD s ((i:Nat):Int) (gE (cS m)).1).o)),ff ((gj KD s ((i:Nat):Int) (gE (cS m)).1).hush) d r,ak b8 (ints ((gE (cS m)).1).flat) 178,gL uv (cS m) 5,ak b3 (ints (OpT.mk 5 ((i:Nat):Int) ((j:Nat):Int) o.key o.n o.change o.mask o.torn o.cut).flat) 30]) (λ_ q=>AO (s:=(gj KD s ((i:Nat):Int) (gE (cS m)).1)) q) (EN (DN (ac J19 (sr λ_ J21=>P2 ?_))));refine nx J21 (ai (WK [0,0,0,0] (av rfl rfl ?_)))
 exact .inr (.inr ⟨(by simpa using h64),h73,(by rw[h73]),rfl⟩);refine nx J20 (CN (qx J19 (sr λ_ J22=>P2 ?_)));refine nx J22 (ai (WK [1,1,1,3] (av rfl rfl ?_)));exact .inr (.inl ⟨(by simpa using h64),h73,rfl,rfl⟩);refine PS ?_;refine PS ?_;refine nx J17 (CY (sr λ_ J23=>PS ?_));refine nx J23 (ai (af (WK [0,0,0,2] (av rfl rfl ?_))));exact .inl ⟨(by simpa using h64),rfl,rfl⟩
end Go.Proofs.YtjblgopghhgflaaGreat
end

section
namespace Api
open Go Leg Codec Dsk Wal
class GdM(m:MsgT):Prop where
 kind:0≤m.kind∧m.kind≤9
class GdL(l:List SaidT):Prop where
 all: ∀x∈l,0≤x.msg.kind∧x.msg.kind≤9
theorem I2(n:Int):0< (iz n).length:=qd _
theorem CK(n:Int)(l:List Int):0< (bj (n::l)).length:=by
 show 0< (iz n++bj l).length;rw[ah];have:=I2 n;omega
theorem Ms{m:MsgT}(h:0≤m.kind∧m.kind≤9):0< (cS m).length:=by
 have p: ∀(l:List Int) (r:List UInt8),0< (bj (m.kind::l)++r).length:=λl r=>by rw[ah];have:=CK m.kind l;omega
 unfold cS;split
 · exact p _ _
 rename_i h0;split
 · exact CK _ _
 split
 · exact p _ _
 rename_i h3;split
 · rw[aR,aR];exact p _ _
 split
 · rw[aR];exact p _ _
 split
 · exact p _ _
 split
 · exact p _ _
 · exfalso
   simp only[ek,e5,decide_eq_true_eq]at h0 h3;omega
instance (v:Int):GdM (oY v):=⟨(by decide:(0:Int)≤1∧(1:Int)≤9)⟩
instance (i:Int)(y:RowT):GdM (qB i y):=⟨(by decide:(0:Int)≤2∧(2:Int)≤9)⟩
instance (v:ViewT):GdM (jB v):=⟨(by decide:(0:Int)≤7∧(7:Int)≤9)⟩
instance (i:Int)(v:ViewT):GdM (nE i v):=⟨(by decide:(0:Int)≤8∧(8:Int)≤9)⟩
instance (i:Int)(y:RowT):GdM (fR i y):=⟨(by decide:(0:Int)≤9∧(9:Int)≤9)⟩
instance (e:Int)(b:BallotT):GdM (fz e b):=⟨(by decide:(0:Int)≤3∧(3:Int)≤9)⟩
instance (e:Int)(b h:BallotT)(c:ChangeT):GdM (kc e b h c):=⟨(by decide:(0:Int)≤4∧(4:Int)≤9)⟩
instance (e:Int)(b:BallotT)(c:ChangeT):GdM (iR e b c):=⟨(by decide:(0:Int)≤5∧(5:Int)≤9)⟩
instance (e:Int)(b:BallotT):GdM (jl e b):=⟨(by decide:(0:Int)≤6∧(6:Int)≤9)⟩
instance (t:Int)(m:MsgT)[h:GdM m]:GdL [⟨t,m⟩]:=⟨λx hx=>by rw[cF]at hx;subst hx;exact h.kind⟩
instance (i:Int)(m:MsgT)(p:Nat→Bool)(k:Nat)[h:GdM m]:GdL (nu i m p k):=⟨λx hx=>by
 unfold nu at hx;obtain⟨j,_,rfl⟩:=eG.1 hx
 exact h.kind⟩
instance (x:RepT):GdL (n9 x):=⟨λs hs=>by
 unfold n9 at hs;rw[eG]at hs;obtain⟨w,_,rfl⟩:=hs
 exact(show(0:Int)≤0∧(0:Int)≤9 by decide)⟩
section
variable {δ:Type} {K:Dk δ} {s0 s:MS δ}
class Qt(s0 s:MS δ):Prop where
 id:s.id=s0.id
 replies:s.replies=s0.replies
 ops:s.ops=s0.ops
 waits:s.waits=s0.waits∨s.waits=0
 o: ∃l,s.o=s0.o++l∧∀x∈l,0≤x.msg.kind∧x.msg.kind≤9
instance Qt.rfl':Qt s s:=⟨rfl,rfl,rfl, .inl rfl,[],(aP _).symm,λ_ h=>by cases h⟩
theorem Qt.trans{a b c:MS δ}(h:Qt a b)(g:Qt b c):Qt a c:=by
 obtain⟨l,e,hl⟩:=h.o;obtain⟨l2,e2,hl2⟩:=g.o;exact⟨g.id.trans h.id,g.replies.trans h.replies,g.ops.trans h.ops,g.waits.elim (λq=>h.waits.imp (q.trans ·) (q.trans ·)) .inr,l++l2,by rw[e2,e,aR],λx hx=>(cg.1 hx).elim (hl x) (hl2 x)⟩
theorem Qt.same{t:MS δ}(h:Qt s0 s)(h1:t.id=s.id)(h2:t.replies=s.replies)(h3:t.ops=s.ops)(h4:t.waits=s.waits)(h5:t.o=s.o):Qt s0 t:=
 ⟨h1.trans h.id,h2.trans h.replies,h3.trans h.ops,by rw[h4];exact h.waits,by rw[h5];exact h.o⟩
instance [h:Qt s0 s](l:List SaidT)[g:GdL l]:Qt s0 (gW K s l):=by
 refine h.trans ⟨rfl,rfl,rfl, .inl rfl,?_⟩
 by_cases q:K.dn s.e=true
 · exact⟨[],by rw[gW,if_pos q,aP],λ_ h=>by cases h⟩
 · exact⟨l,by rw[gW,if_neg q],g.all⟩
instance [h:Qt s0 s](t:Int)(m:MsgT)[GdM m]:Qt s0 (B4 K s t m):=inferInstanceAs (Qt s0 (gW K s _))
instance [h:Qt s0 s](r:RecT):Qt s0 (dC K s r):=h.same rfl rfl rfl rfl rfl
instance [h:Qt s0 s](f:Int):Qt s0 (iG s f):=h.same rfl rfl rfl rfl rfl
instance [h:Qt s0 s](w:Int)(x:RowT):Qt s0 (Di s w x):=h.same rfl rfl rfl rfl rfl
instance [h:Qt s0 s]:Qt s0 (gF s):=h.same rfl rfl rfl rfl rfl
instance [h:Qt s0 s](w:Int)(x:RowT):Qt s0 (iu s w x):=h.same rfl rfl rfl rfl rfl
instance [h:Qt s0 s](w:Int):Qt s0 (jT s w):=h.same rfl rfl rfl rfl rfl
instance [h:Qt s0 s](x:RowT):Qt s0 (s6 s x 0):=⟨h.id,h.replies,h.ops, .inr rfl,h.o⟩
instance [Qt s0 s]:Qt s0 (fl K s):=inferInstanceAs (Qt s0 (gW K s _))
instance [Qt s0 s](y:RowT):Qt s0 (lq K s y):=inferInstanceAs (Qt s0 (gW K s _))
instance [Qt s0 s](v:ViewT):Qt s0 (mT K s v):=inferInstanceAs (Qt s0 (gW K s _))
instance [Qt s0 s](m:MsgT)[GdM m]:Qt s0 (js K s m):=inferInstanceAs (Qt s0 (gW K s _))
instance [Qt s0 s](x:RowT):Qt s0 (e6 K s x 0).1:=by unfold e6;split<;>exact inferInstance
instance [h:Qt s0 s]:Qt s0 (lZ K s):=by
 unfold lZ;split
 · exact h
 split
 · exact inferInstance
 · exact h
instance [h:Qt s0 s](f:Int)(m:MsgT):Qt s0 (ia K s f m):=by
 unfold ia
 repeat' split
 all_goals exact inferInstance
instance [h:Qt s0 s](w:Int)(x:RowT):Qt s0 (lX s w x):=h.same rfl rfl rfl rfl rfl
instance [h:Qt s0 s](f w:Int)(y:RowT):Qt s0 (sE s f w y):=h.same rfl rfl rfl rfl rfl
instance [h:Qt s0 s](f:Int)(m:MsgT):Qt s0 (eQ K s f m):=by unfold eQ;split<;>exact inferInstance
theorem pY[Qt s0 s]{f:MS δ→MS δ}(hf:Qt s0 (f s))(t:Int)(m:MsgT)[GdM m]:Qt s0 (mw K f s t m):=by unfold mw;split;exact hf;exact inferInstance
instance [h:Qt s0 s](f w:Int):Qt s0 (e9 K s f w):=by
 unfold e9
 repeat' split
 · exact h
 · exact pY inferInstance _ _
 · exact inferInstance
 · exact pY inferInstance _ _
instance [h:Qt s0 s](i w:Int):Qt s0 (gG K s i w):=by
 unfold gG;split
 · exact h
 · exact pY inferInstance _ _
instance [Qt s0 s](i:Int):Qt s0 (ng K s i):=by unfold ng;exact inferInstance
theorem zJ: ∀(l:List Int) (s:MS δ),Qt s0 s→Qt s0 (fV K l s)
 | [],_,h=>h
 |i::l,s,h=>zJ l (ng K s i) inferInstance
instance [h:Qt s0 s]:Qt s0 (qg K s):=zJ _ _ h
instance [h:Qt s0 s](v:ViewT):Qt s0 (mj s v):=h.same rfl rfl rfl rfl rfl
instance [h:Qt s0 s](v:ViewT):Qt s0 (gX K s v):=by
 unfold gX
 repeat' split
 all_goals exact inferInstance
instance [h:Qt s0 s](f:Int)(m:MsgT):Qt s0 (ko K s f m):=by unfold ko;exact inferInstance
instance [h:Qt s0 s](c:ChangeT):Qt s0 (ke K s c):=by
 unfold ke
 repeat' split
 all_goals exact inferInstance
instance [h:Qt s0 s](n:Int):Qt s0 (du s n):=h.same rfl rfl rfl rfl rfl
instance [h:Qt s0 s](v:VoteT):Qt s0 (ld s v):=h.same rfl rfl rfl rfl rfl
instance [h:Qt s0 s](a:AccT):Qt s0 (vl s a):=h.same rfl rfl rfl rfl rfl
instance [h:Qt s0 s](f:Int)(m:MsgT):Qt s0 (kG K f m s):=by
 unfold kG;split
 · exact h
 · split<;>exact inferInstance
theorem sq[h:Qt s0 s]{f:MS δ→MS δ}(hf: ∀s:MS δ,Qt s0 s→Qt s0 (f s))(w:Int)(m:MsgT):Qt s0 (eI K f s w m):=by
 unfold eI
 repeat' split
 · exact inferInstance
 · exact h
 · exact h
 · exact hf _ inferInstance
instance [Qt s0 s](w:Int)(m:MsgT):Qt s0 (pR K s w m):=sq (λ_ _=>inferInstance) w m
instance [h:Qt s0 s](w:Int)(m:MsgT):Qt s0 (lL K w m s):=by unfold lL;exact pY inferInstance _ _
instance [h:Qt s0 s](w:Int)(m:MsgT):Qt s0 (nF K w m s):=by
 unfold nF
 repeat' split
 all_goals exact inferInstance
instance [Qt s0 s](w:Int)(m:MsgT):Qt s0 (rf K s w m):=sq (λ_ _=>inferInstance) w m
theorem uK[h:Qt s0 s]{f:MS δ→MsgT→MS δ}{m:MsgT}[GdM m](hf: ∀s:MS δ,Qt s0 s→Qt s0 (f s m)):Qt s0 (iD K f s m):=by
 unfold iD;split
 · exact hf _ inferInstance
 · exact inferInstance
instance [h:Qt s0 s](vt:VoteT):Qt s0 (jY K s vt):=uK λ_ _=>inferInstance
instance [h:Qt s0 s](f:Int)(m:MsgT):Qt s0 (oJ K f m s):=by
 unfold oJ;split
 · exact h
 · split<;>exact inferInstance
instance [Qt s0 s](w:Int)(m:MsgT):Qt s0 (pS K s w m):=sq (λ_ _=>inferInstance) w m
instance [h:Qt s0 s](w:Int)(m:MsgT)(a:AccT):Qt s0 (l3 K w m a s):=by unfold l3;exact pY inferInstance _ _
instance [h:Qt s0 s](w:Int)(m:MsgT):Qt s0 (oz K w m s):=by
 unfold oz
 repeat' split
 all_goals exact inferInstance
instance [Qt s0 s](w:Int)(m:MsgT):Qt s0 (ri K s w m):=sq (λ_ _=>inferInstance) w m
instance [h:Qt s0 s](vt:VoteT):Qt s0 (lO K s vt):=uK λ_ _=>inferInstance
instance [h:Qt s0 s](vt:VoteT):Qt s0 (nG K s vt):=by unfold nG;split<;>exact inferInstance
instance [h:Qt s0 s](c:ChangeT):Qt s0 (pd K s c):=by unfold pd;exact inferInstance
instance [h:Qt s0 s](c:ChangeT):Qt s0 (cD K s c).1:=by
 unfold cD
 repeat' split
 all_goals exact inferInstance
instance [h:Qt s0 s]:Qt s0 (bQ K s):=by unfold bQ;split<;>exact inferInstance
instance [h:Qt s0 s]:Qt s0 (ca K s):=by unfold ca;split<;>exact inferInstance
instance [h:Qt s0 s]:Qt s0 (fZ K s):=by unfold fZ;split<;>exact inferInstance
instance [h:Qt s0 s]:Qt s0 (pO K s):=by
 unfold pO;split
 · exact h
 · repeat' split
   all_goals exact inferInstance
instance [h:Qt s0 s]:Qt s0 (im K s):=by unfold im;split<;>exact inferInstance
structure Rp(s0 s:MS δ)(l:List ReplyT):Prop where
 id:s.id=s0.id
 replies:s.replies=s0.replies++l
 o: ∃l,s.o=s0.o++l∧∀x∈l,0≤x.msg.kind∧x.msg.kind≤9
theorem Qt.rp(h:Qt s0 s):Rp s0 s []:=⟨h.id,by rw[h.replies,aP],h.o⟩
theorem Rp.then{l:List ReplyT}{t:MS δ}(h:Rp s0 s l)(g:Qt s t):Rp s0 t l:=by
 obtain⟨l1,e,hl⟩:=h.o;obtain⟨l2,e2,hl2⟩:=g.o;exact⟨g.id.trans h.id,g.replies.trans h.replies,l1++l2,by rw[e2,e,aR],λx hx=>(cg.1 hx).elim (hl x) (hl2 x)⟩
theorem HZ(s:MS δ)(f:Int)(m:MsgT):Qt s (dw K s f m)∨(0<s.waits∧Rp s (dw K s f m) [⟨s.waits,0,0⟩]∧(dw K s f m).waits=0∧(dw K s f m).ops=s.ops):=by
 unfold dw;split
 · split
   · by_cases hw:0<s.waits
     · right
       have e:lG (gF (iG s f))= {dM (gF (iG s f)) s.waits 0 0 with waits:=0}:=yS (s:=gF (iG s f)) hw;have q:Qt (lG (gF (iG s f))) (kV K (iG s f)):=by unfold kV;exact inferInstance
       have hw0:(lG (gF (iG s f))).waits=0:=by rw[e]
       refine⟨hw,Rp.then (s:=lG (gF (iG s f))) ?_ q,(q.waits.elim (·.trans hw0) id),q.ops.trans (by rw[e];rfl)⟩;rw[e];exact⟨rfl,rfl,[],(aP _).symm,λ_ h=>by cases h⟩
     · left
       unfold kV;rw[yT (s:=gF (iG s f)) hw];exact inferInstance
   · left;exact inferInstance
 · left;exact inferInstance
theorem JQ(s:MS δ)(f:Int)(m:MsgT):Qt s (gj K s f m)∨(0<s.waits∧Rp s (gj K s f m) [⟨s.waits,0,0⟩]∧(gj K s f m).waits=0∧(gj K s f m).ops=s.ops):=by
 unfold gj
 by_cases h1:m.kind=1
 · rw[if_neg (by omega),if_pos h1];exact HZ s f m
 · left
   rw[if_neg h1]
   repeat' split
   all_goals exact inferInstance
theorem Ko(s:MS δ)(x:RowT)(op:Int):((e6 K s x op).2≠0∧Qt s (e6 K s x op).1)∨((e6 K s x op).2=0∧Rp s (e6 K s x op).1 []∧(e6 K s x op).1.waits=op∧(e6 K s x op).1.ops=s.ops):=by
 unfold e6;split
 · rename_i h;exact .inl ⟨h,inferInstance⟩
 · right
   have q:Qt (s6 (dC K s (iQ x)) x op) (fl K (s6 (dC K s (iQ x)) x op)):=inferInstance;refine⟨rfl,Rp.then (s:=s6 (dC K s (iQ x)) x op) ⟨rfl,(aP _).symm,[],(aP _).symm,λ_ h=>by cases h⟩ q,?_,q.ops⟩;show(fl K _).waits=_;rfl
theorem Hs(s:MS δ)(o:OpT):(∃e v,Rp s (bW K s o).1 [⟨fY (s.ops+1),e,v⟩]∧(bW K s o).2=e∧(bW K s o).1.ops=fY (s.ops+1)∧((bW K s o).1.waits=s.waits∨(bW K s o).1.waits=0))∨(Rp s (bW K s o).1 []∧(bW K s o).2=0∧(bW K s o).1.ops=fY (s.ops+1)∧(bW K s o).1.waits=fY (s.ops+1)):=by
 have e0:Rp s (bM s) []:=⟨rfl,(aP _).symm,[],(aP _).symm,λ_ h=>by cases h⟩
 have rep: ∀(t:MS δ) (op e v:Int),Qt (bM s) t→op=fY (s.ops+1)→Rp s (dM t op e v) [⟨fY (s.ops+1),e,v⟩]∧(dM t op e v).ops=fY (s.ops+1)∧((dM t op e v).waits=s.waits∨(dM t op e v).waits=0):=λt op e v h ho=>by
  subst ho;obtain⟨l,e1,hl⟩:=h.o;exact⟨⟨h.id,by show t.replies++_=_;rw[h.replies];rfl,l,e1,hl⟩,h.ops,h.waits⟩
 unfold bW;split
 · left
   unfold dS;split
   · obtain⟨a,b,c⟩:=rep (bM s) _ (fT (bM s) o.change) 0 inferInstance rfl
     exact⟨_,_,a,rfl,b,c⟩
   · split
     · obtain⟨a,b,c⟩:=rep (cD K (bM s) o.change).1 _ (cD K (bM s) o.change).2 0 inferInstance rfl
       exact⟨_,_,a,rfl,b,c⟩
     · obtain⟨a,b,c⟩:=rep (cD K (bM s) o.change).1 _ 0 0 inferInstance rfl
       have q:Qt (dM (cD K (bM s) o.change).1 (bM s).ops 0 0) (nG K (dM (cD K (bM s) o.change).1 (bM s).ops 0 0) (kd (bM s).view (eP (bM s)) o.change)):=inferInstance;exact⟨_,_,a.then q,rfl,q.ops.trans b,q.waits.elim (λw=>c.imp (w.trans ·) (w.trans ·)) .inr⟩
 · unfold nA
   split
   · left
     obtain⟨a,b,c⟩:=rep (bM s) _ (dd (bM s) o).2.2 (dd (bM s) o).2.1 inferInstance rfl;exact⟨_,_,a,rfl,b,c⟩
   · rcases Ko (K:=K) (bM s) (dd (bM s) o).1 (bM s).ops with⟨h,q⟩| ⟨h,q,hw,ho⟩
     · rw[if_pos h]
       left;obtain⟨a,b,c⟩:=rep _ _ (e6 K (bM s) (dd (bM s) o).1 (bM s).ops).2 0 q rfl;exact⟨_,_,a,rfl,b,c⟩
     · rw[if_neg (by omega)]
       right;obtain⟨l,e1,hl⟩:=q.o;exact⟨⟨q.id,q.replies,l,e1,hl⟩,rfl,ho,hw⟩
end
def Slot.pend(x:Slot):Nat:=match x.run with
 |some s=>if 0<s.waits then 1 else 0
 |none=>0
structure SlotOk(i n:Nat)(x:Slot):Prop where
 run: ∀s,x.run=some s→OkR KD s∧s.id=((i:Nat):Int)∧s.o=[]
 D:x.run=none→DkOk x.D
 reps:x.reps.length+x.pend≤n
structure CLOk(n:Nat)(a:CL):Prop where
 ms:a.ms.length=5
 W:a.W.length=25
 at': ∀i,i<5→SlotOk i n (a.at' i)
 way: ∀k,(a.W.getD k []).length≤8∧∀m∈a.W.getD k [],0< (cS m).length
structure OkOp(o:OpT):Prop where
 change:OkCh o.change
 n:o.n≤9223372036854775807
theorem SlotOk.dk{i n:Nat}{x:Slot}(h:SlotOk i n x):DkOk x.dk:=by
 unfold Slot.dk;split
 · rename_i s q;exact(h.run s q).1.e.dk
 · rename_i q;exact h.D q
theorem SlotOk.more{i n k:Nat}{x:Slot}(h:SlotOk i n x)(hk:n≤k):SlotOk i k x:=⟨h.run,h.D,yO h.reps hk⟩
theorem CLOk.more{n k:Nat}{a:CL}(h:CLOk n a)(hk:n≤k):CLOk k a:=⟨h.ms,h.W,λi hi=>(h.at' i hi).more hk,h.way⟩
theorem rP{ms:List Slot}{W:List (List MsgT)}{i:Nat}{x:Slot}(h:i<ms.length):(CL.mk (ms.set i x) W).at' i=x:=by
 unfold CL.at';rw[List.getD_eq_getElem?_getD,List.getElem?_set_self h];rfl
theorem tj{ms:List Slot}{W:List (List MsgT)}{i j:Nat}{x:Slot}(h:j≠i):(CL.mk (ms.set i x) W).at' j=ms.getD j .nil:=by
 unfold CL.at';rw[List.getD_eq_getElem?_getD,List.getElem?_set_ne (λe=>h e.symm),←List.getD_eq_getElem?_getD]
theorem CLOk.put{n k i:Nat}{a:CL}(h:CLOk n a)(hk:n≤k)(hi:i<5){x:Slot}(hx:SlotOk i k x){W:List (List MsgT)}(hW:W.length=25)(hw: ∀k,(W.getD k []).length≤8∧∀m∈W.getD k [],0< (cS m).length):CLOk k ⟨a.ms.set i x,W⟩:=
 ⟨by show(a.ms.set i x).length=5;rw[cB];exact h.ms,hW,λj hj=>by
  by_cases q:j=i
  · subst q;rw[rP (by rw[h.ms];exact hi)];exact hx
  · rw[tj q];exact(h.at' j hj).more hk,hw⟩
theorem JZ{W:List (List MsgT)}(hw: ∀k,(W.getD k []).length≤8∧∀m∈W.getD k [],0< (cS m).length)(f:Nat)(s:SaidT)(hs:0< (cS s.msg).length): ∀k,((qL W f s).getD k []).length≤8∧∀m∈(qL W f s).getD k [],0< (cS m).length:=λk=>by
 unfold qL;split
 · by_cases q:k=bB ((f:Nat):Int) s.to'
   · subst q
     by_cases hl:bB ((f:Nat):Int) s.to'<W.length
     · rw[List.getD_eq_getElem?_getD,List.getElem?_set_self hl]
       obtain⟨h1,h2⟩:=hw (bB ((f:Nat):Int) s.to');simp only[KL];split
       · refine⟨by rw[ah,gy];omega,λm hm=>?_⟩
         rcases cg.1 hm with hm|hm
         · exact h2 m hm
         · rw[cF]at hm;subst hm;exact hs
       · exact⟨h1,h2⟩
     · rw[nl (by omega)];exact hw _
   · rw[List.getD_eq_getElem?_getD,List.getElem?_set_ne (λe=>q e.symm),←List.getD_eq_getElem?_getD];exact hw k
 · exact hw k
theorem B1(f:Nat): ∀(l:List SaidT) {W:List (List MsgT)},(∀x∈l,0< (cS x.msg).length)→(∀k,(W.getD k []).length≤8∧∀m∈W.getD k [],0< (cS m).length)→∀k,((gZ W f l).getD k []).length≤8∧∀m∈(gZ W f l).getD k [],0< (cS m).length
 | [],_,_,hw=>hw
 |s::l,W,hl,hw=>B1 f l (W:=qL W f s) (λx hx=>hl x (eC _ hx)) (JZ hw f s (hl s (dr ..)))
theorem Cg(W:List (List MsgT))(f:Nat)(s:SaidT):(qL W f s).length=W.length:=by unfold qL;split<;>simp
theorem sJ(f:Nat): ∀(l:List SaidT) (W:List (List MsgT)),(gZ W f l).length=W.length
 | [],_=>rfl
 |s::l,W=>(sJ f l _).trans (Cg W f s)
theorem Kn{s:MS LD}(h:OkR KD s):OkR KD s.hush:=⟨h.e,h.id,h.view,h.own,h.mir,h.book,h.last,h.acc,h.vote⟩
def owe(s:MS LD):Nat:=if 0<s.waits then 1 else 0
theorem CLOk.did{n i k:Nat}{a:CL}(h:CLOk n a)(hk:n≤k)(hi:i<5){s s':MS LD}(hs:(a.at' i).run=some s)(h':OkR KD s'){l:List ReplyT}(r:Rp s s' l)(hl:l.length+owe s'+n≤k+owe s):CLOk k (a.did i s'):=by
 obtain⟨h1,h2,h3⟩:=(h.at' i hi).run s hs;obtain⟨lo,e,hlo⟩:=r.o;rw[h3,bO]at e;refine h.put hk hi ⟨λt q=>?_,(λq=>by cases q),?_⟩ (by rw[sJ];exact h.W) (B1 i _ (λx hx=>Ms (hlo x (by rw[←e];exact hx))) h.way)
 · obtain rfl:=cI q
   exact⟨Kn h',r.id.trans h2,rfl⟩
 · have:=(h.at' i hi).reps
   unfold Slot.reps Slot.pend at this ⊢;rw[hs]at this;show((a.at' i).past++s'.replies).length+(if 0<s'.waits then 1 else 0)≤k;rw[r.replies];unfold owe at hl;simp only[ah]at this ⊢;omega
theorem Qt.owe{s s':MS LD}(q:Qt s s'):Api.owe s'≤Api.owe s:=by
 unfold Api.owe;rcases q.waits with e|e
 · rw[e];exact aH _
 · rw[e];exact aN _
theorem M0(s:MS LD):owe s≤1:=by unfold owe;split<;>omega
theorem CLOk.quiet{n i:Nat}{a:CL}(h:CLOk n a)(hi:i<5){s s':MS LD}(hs:(a.at' i).run=some s)(h':OkR KD s')(q:Qt s s'):CLOk n (a.did i s'):=
 h.did (aH _) hi hs h' q.rp (by have:=q.owe;show 0+_+n≤_;omega)
theorem CLOk.onway{n k:Nat}{a:CL}(h:CLOk n a){l:List MsgT}(hl:l.length≤8∧∀m∈l,0< (cS m).length):CLOk n (a.way k l):=
 ⟨h.ms,by show(a.W.set k l).length=25;rw[cB];exact h.W,h.at',λj=>by
  show((a.W.set k l).getD j []).length≤8∧_
  by_cases q:j=k
  · subst q
    by_cases hk:j<a.W.length
    · show((a.W.set j l).getD j []).length≤8∧∀m∈(a.W.set j l).getD j [],_
      rw[List.getD_eq_getElem?_getD,List.getElem?_set_self hk];exact hl
    · show((a.W.set j l).getD j []).length≤8∧∀m∈(a.W.set j l).getD j [],_
      rw[nl (by omega)];exact h.way j
  · show((a.W.set k l).getD j []).length≤8∧∀m∈(a.W.set k l).getD j [],_
    rw[List.getD_eq_getElem?_getD,List.getElem?_set_ne (λe=>q e.symm),←List.getD_eq_getElem?_getD];exact h.way j⟩
theorem lV{w:Int}(h:iF w=true):w.toNat<5∧((w.toNat:Nat):Int)=w:=by
 have:0≤w∧w<5:=of_decide_eq_true h;omega
theorem Ky{n f t:Nat}{a:CL}(h:CLOk n a)(ht:t<5)(m:MsgT):CLOk n (tf a f t m).1:=by
 unfold tf;split
 · exact h
 · rename_i s hs
   split
   · exact h
   · split
     · obtain⟨h1,_,_⟩:=(h.at' t ht).run s hs
       have hm:=A4 (cS m);rcases JQ (K:=KD) s ((f:Nat):Int) (gE (cS m)).1 with q| ⟨hw,q,q2,_⟩
       · exact h.quiet ht hs inferInstance q
       · refine h.did (aH _) ht hs inferInstance q ?_
         unfold owe;rw[q2,if_pos hw];show 1+(if(0:Int)<0 then 1 else 0)+n≤n+1;rw[if_neg (by omega)];omega
     · exact h
theorem LO{n:Nat}{a:CL}(h:CLOk n a)(o:OpT):CLOk n (oI a o).1:=by
 unfold oI;split
 · exact h
 · rename_i hv
   have hv:dB o.at' o.to'=true:=by simpa using hv
   have hw:=h.way (bB o.at' o.to');split
   · exact h
   · rename_i m l hl
     rw[hl]at hw;split
     · split
       · refine h.onway ⟨?_,λx hx=>?_⟩
         · rename_i q
           unfold HT at q;have q:=of_decide_eq_true q;unfold Dx;rw[if_pos q,ah,gy];omega
         · unfold Dx at hx
           split at hx
           · rcases cg.1 hx with hx|hx
             · exact hw.2 x hx
             · rw[cF]at hx;subst hx;exact hw.2 _ (dr ..)
           · exact hw.2 x hx
       · exact h
     · split
       · exact h
       · rename_i m2 l2 hl2
         have hlen:=jj (max o.n 0% ((m::l).length:Int)).toNat (m::l);have hmem:=λx=>(m3 (x:=x) (max o.n 0% ((m::l).length:Int)).toNat (m::l)).1
         rw[hl2]at hlen hmem;have g:CLOk n (a.way (bB o.at' o.to') l2):=h.onway ⟨by simp only[ay]at hlen hw;omega,λx hx=>hw.2 x (hmem x (eC _ hx))⟩
         have ht:o.to'.toNat<5:=by
          unfold dB at hv;rw[aw,aw]at hv;exact(lV hv.1.2).1
         split
         · exact g
         · exact Ky g ht m2
theorem BK{n i:Nat}(hi:i<5){x:Slot}(h:SlotOk i n x):SlotOk i n (gU i x).1:=by
 unfold gU;split
 · exact h
 · rename_i hr
   have hD:=h.D hr;refine⟨λs q=>?_,λ_=>hD.open.1,?_⟩
   · obtain⟨h1,f⟩:=tL hi hD q
     exact⟨h1,f.id,f.o⟩
   · have:=h.reps
     unfold Slot.reps Slot.pend at this ⊢;rw[hr,aP]at this;show(x.past++match(cw i x.D).1 with|some s=>s.replies|none=>[]).length+(match(cw i x.D).1 with|some s=>if 0<s.waits then 1 else 0|none=>0)≤n;cases q:(cw i x.D).1 with
     |some s=>
      have f:=(tL hi hD q).2;simp only[f.replies,f.waits,aP]
      simpa using this
     |none=>simpa using this
theorem arm_ok{n i:Nat}{x:Slot}(h:SlotOk i n x){k:Int}(hk:k≤9223372036854775807):SlotOk i n (tk x k):=by
 unfold tk;split
 · rename_i s hs
   obtain⟨h1,h2,h3⟩:=h.run s hs;refine⟨λt q=>?_,(λq=>by cases q),?_⟩
   · obtain rfl:=cI q
     exact⟨⟨⟨h1.e.dk.arm k hk,h1.e.used,h1.e.cnt⟩,h1.id,h1.view,h1.own,h1.mir,h1.book,h1.last,h1.acc,h1.vote⟩,h2,h3⟩
   · have:=h.reps
     unfold Slot.reps Slot.pend at this ⊢;rw[hs]at this;exact this
 · rename_i hr
   refine⟨λt q=>?_,λ_=>(h.D hr).arm k hk,?_⟩
   · rw[show x.run=some t from q]at hr;cases hr
   · have:=h.reps
     unfold Slot.reps Slot.pend at this ⊢;rw[hr]at this;simp only[hr];exact this
theorem crash_ok{n i:Nat}{x:Slot}(h:SlotOk i n x)(mask torn cut:Int):SlotOk i n (nV x mask torn cut):=
 ⟨(λt q=>by cases q),λ_=>h.dk.crash mask torn cut,by
  have:=h.reps;show(x.reps++[]).length+0≤n
  rw[aP];omega⟩
theorem EI{n:Nat}{a:CL}(h:CLOk n a){o:OpT}(ho:OkOp o)(hk: ¬(0≤o.kind∧o.kind≤4)):CLOk n (Dy a o).1:=by
 unfold Dy;split
 · exact h
 rename_i hm;have hm:iF o.at'=true:=by simpa using hm
 have hi:=(lV hm).1;split
 · exact LO h o
 split
 · unfold DP
   split
   · exact h
   · rename_i s hs
     split
     · exact h
     · obtain⟨h1,_,_⟩:=(h.at' _ hi).run s hs
       exact h.quiet hi hs inferInstance inferInstance
 split
 · exact h.put (aH _) hi (arm_ok (h.at' _ hi) ho.n) h.W h.way
 split
 · exact h.put (aH _) hi (crash_ok (h.at' _ hi) _ _ _) h.W h.way
 split
 · exact h.put (aH _) hi (BK hi (h.at' _ hi)) h.W h.way
 · exact h
theorem Lv{n:Nat}{a:CL}(h:CLOk n a){o:OpT}(ho:OkOp o):CLOk (n+1) (Dy a o).1:=by
 by_cases hk:0≤o.kind∧o.kind≤4
 · unfold Dy
   split
   · exact h.more (by omega)
   rename_i hm;have hm:iF o.at'=true:=by simpa using hm
   have hi:=(lV hm).1;unfold E3;split
   · exact h.more (by omega)
   · rename_i s hs
     split
     · exact h.more (by omega)
     · obtain⟨h1,_,_⟩:=(h.at' _ hi).run s hs
       have:=ho.change;rcases Hs (K:=KD) s o with⟨e,v,q,_,_,w⟩| ⟨q,_⟩
       · refine h.did (by omega) hi hs inferInstance q ?_
         have:owe (bW KD s o).1≤owe s:=by
          unfold owe;rcases w with e|e
          · rw[e];exact aH _
          · rw[e];exact aN _
         show 1+_+n≤_;omega
       · refine h.did (by omega) hi hs inferInstance q ?_
         have:=M0 (bW KD s o).1;show 0+_+n≤_;omega
 · exact(EI h ho hk).more (by omega)
theorem new_ok:CLOk 0 CL.new:=by
 refine⟨by simp[CL.new],by simp[CL.new],λi hi=>?_,λk=>?_⟩
 · have e:CL.new.at' i=oU i:=by simp[CL.new,CL.at',List.getD_eq_getElem?_getD,hi]
   rw[e];exact BK hi ⟨(λs q=>by cases q),λ_=>DkOk.new,aH _⟩
 · have e:CL.new.W.getD k []=[]:=by
    show(List.replicate 25 ([]:List MsgT)).getD k []=[];rw[List.getD_eq_getElem?_getD,List.getElem?_replicate];split<;>rfl
   rw[e];exact⟨aN _,λm hm=>by cases hm⟩
end Api
end

section
namespace Go.Proofs.YtjblgopghhgflaaGreat
open Go Leg Codec Api Dsk Wal
theorem tR{f:Nat→HP}{k i:Nat}(hi:i<k){H:List HP}{h:Hl}(s:bG (bG ((List.range k).map f)::H) h):bG (f i::bG (((List.range k).map f).eraseIdx i)::H) h:=by
 have s1:bG ((List.range k).map f++H) h:=(cd _ _).2 s;have e:((List.range k).map f).getD i (λ_=>True)=f i:=by simp[List.getD_eq_getElem?_getD,hi]
 have p:=na (λ_=>True) ((List.range k).map f) i (by simpa using hi);rw[e]at p;exact cG (eu (p.append_right H) s1) (λ_ a=>a) λ_ b=>(cd _ _).1 b
theorem tQ{f g:Nat→HP}{k i:Nat}(hi:i<k)(hg: ∀j,j≠i→g j=f j){H:List HP}{h:Hl}(s:bG (g i::bG (((List.range k).map f).eraseIdx i)::H) h):bG (bG ((List.range k).map g)::H) h:=by
 have e0:((List.range k).map g).eraseIdx i=((List.range k).map f).eraseIdx i:=by
  refine List.ext_getElem? λj=>?_
  rw[List.getElem?_eraseIdx,List.getElem?_eraseIdx]
  have: ∀m,m≠i→((List.range k).map g)[m]?=((List.range k).map f)[m]?:=λm hm=>by
   rw[List.getElem?_map,List.getElem?_map]
   by_cases hk:m<k
   · simp[hk,hg m hm]
   · simp[hk]
  split
  · exact this j (by omega)
  · exact this (j+1) (by omega)
 have e:((List.range k).map g).getD i (λ_=>True)=g i:=by simp[List.getD_eq_getElem?_getD,hi]
 have p:=na (λ_=>True) ((List.range k).map g) i (by simpa using hi);rw[e,e0]at p;have s2:bG ((g i::((List.range k).map f).eraseIdx i)++H) h:=cG s (λ_ a=>a) λ_ b=>(cd _ _).2 b
 exact(cd _ _).1 (eu (p.symm.append_right H) s2)
section
variable {f:FuncId} {args:Array Value} {Q:Value→Prop} {c i:Nat} {a a':CL}
theorem A6(hi:i<5){Z:Value→CL→Prop}(hne: ∀v a',Z v a'→∀j,j≠i→a'.at' j=a.at' j)
 (core: ∀g:CX,DT f args T0 (ak c (eM g.n (mL g) (j0 a g.r) g.p) 104::eE 156 208 5 g.n (cR a.W)::kq (a.at' i) (g.d i) (g.r i) (g.p i))
  (dz λv H=>∃a',Z v a'∧∃g':CX,g'.n=g.n∧(∀j,j≠i→g'.d j=g.d j∧g'.r j=g.r j∧g'.p j=g.p j)∧H=ak c (eM g.n (mL g') (j0 a' g'.r) g'.p) 104::eE 156 208 5 g.n (cR a'.W)::kq (a'.at' i) (g'.d i) (g'.r i) (g'.p i))):
 DT f args T0 [gf c a] (dz λv H=>∃a',Z v a'∧H=[gf c a']):=by
 refine Leg.Does.ex (A':=λg:CX=>(ak c (eM g.n (mL g) (j0 a g.r) g.p) 104::eE 156 208 5 g.n (cR a.W)::kq (a.at' i) (g.d i) (g.r i) (g.p i))++[bG (((List.range 5).map λi=>kJ (a.at' i) (g.d i) (g.r i) (g.p i)).eraseIdx i)]) (λh s=>?_) λg=>?_
 · obtain⟨g,s⟩:=fB s
   have s2:=tR (f:=λi=>kJ (a.at' i) (g.d i) (g.r i) (g.p i)) hi (aC [2,0,0] rfl s);have s3:=(cd (kq (a.at' i) (g.d i) (g.r i) (g.p i)) _).2 s2;exact⟨g,aC [4,4,0,0,0,0] rfl s3⟩
 · refine Leg.Does.withinR (core g) (λ_ _ _ _=>trivial) (λh s=>s) λv H hp=>?_
   obtain⟨a',hz,g',hn,hg,rfl⟩:=hp;refine⟨[gf c a'],λh s=>?_,a',hz,rfl⟩;have s1:=aC [2,2,2,2,0,0] rfl s;have s2:=(cd (kq (a'.at' i) (g'.d i) (g'.r i) (g'.p i)) _).1 s1
   have s3:=tQ (f:=λi=>kJ (a.at' i) (g.d i) (g.r i) (g.p i)) (g:=λi=>kJ (a'.at' i) (g'.d i) (g'.r i) (g'.p i)) hi (λj hj=>by
    obtain⟨h1,h2,h3⟩:=hg j hj
    rw[hne v a' hz j hj,h1,h2,h3]) s2
   refine bp (p:=qX c a') g' ?_;rw[←hn]at s3;exact aC [1,1,0] rfl s3
theorem xc(hne: ∀j,j≠i→a'.at' j=a.at' j)(r:Nat→Nat)(hi:yp (a'.at' i) (r i)=yp (a.at' i) (r i)):j0 a' r=j0 a r:=funext λj=>by
 by_cases q:j=i
 · subst q;exact hi
 · show yp (a'.at' j) (r j)=yp (a.at' j) (r j)
   rw[hne j q]
theorem EX(hl:a.ms.length=5)(hi:i<5){s:MS LD}(hs:(a.at' i).run=some s){R:Value→MS LD→List (List MsgT)→Prop}
 (core: ∀g:CX,j0 a g.r i= .pointer (some ⟨g.r i,0,none⟩)→DT f args T0 [ak c (eM g.n (mL g) (j0 a g.r) g.p) 104,dk (g.d i) s.e.D,eE 156 208 5 g.n (cR a.W),ff s (g.d i) (g.r i)]
  (dz λv H=>∃s' W',R v s' W'∧H=[ak c (eM g.n (mL g) (j0 a g.r) g.p) 104,dk (g.d i) s'.e.D,eE 156 208 5 g.n (cR W'),ff s' (g.d i) (g.r i)])):
 DT f args T0 [gf c a] (dz λv H=>∃a',(∃s' W',R v s' W'∧a'=⟨a.ms.set i {a.at' i with run:=some s'},W'⟩)∧H=[gf c a']):=by
 refine A6 hi (λv a' hz j hj=>?_) λg=>?_
 · obtain⟨s',W',_,rfl⟩:=hz
   exact tj hj
 · have em:j0 a g.r i= .pointer (some ⟨g.r i,0,none⟩):=by show yp (a.at' i) _=_;unfold yp;rw[hs]
   have e1:qK (a.at' i) (g.d i) (g.r i)=ff s (g.d i) (g.r i):=by unfold qK;rw[hs]
   have e2:(a.at' i).dk=s.e.D:=by unfold Slot.dk;rw[hs]
   refine Leg.Does.withinR (B:=[mH (g.p i) (a.at' i).past]) (core g em) (λ_ _ _ _=>trivial) (λh q=>?_) λv H hp=>?_
   · unfold kq at q
     rw[e1,e2]at q;exact aC [0,1,0,1,0] rfl q
   · obtain⟨s',W',hR,rfl⟩:=hp
     have ea:(CL.mk (a.ms.set i {a.at' i with run:=some s'}) W').at' i= {a.at' i with run:=some s'}:=rP (by rw[hl];exact hi);have hm:j0 ⟨a.ms.set i {a.at' i with run:=some s'},W'⟩ g.r=j0 a g.r:=xc (λj hj=>tj hj) g.r (by rw[ea];unfold yp;rw[hs]);refine⟨_,λh q=>?_,_,⟨s',W',hR,rfl⟩,g,rfl,λ_ _=>⟨rfl,rfl,rfl⟩,rfl⟩;rw[hm,ea];exact aC [0,1,0,1,0] rfl q
theorem A5(core: ∀g:CX,DT f args T0 [ak c (eM g.n (mL g) (j0 a g.r) g.p) 104] (dz λv H=>Q v∧H=[ak c (eM g.n (mL g) (j0 a g.r) g.p) 104])):
 DT f args T0 [gf c a] (dz λv H=>Q v∧H=[gf c a]):=by
 refine Leg.Does.ex (A':=λg:CX=>[ak c (eM g.n (mL g) (j0 a g.r) g.p) 104]++[eE 156 208 5 g.n (cR a.W),bG ((List.range 5).map λi=>kJ (a.at' i) (g.d i) (g.r i) (g.p i))]) (λh s=>fB s) λg=>?_
 refine Leg.Does.withinR (core g) (λ_ _ _ _=>trivial) (λh s=>s) λv H hp=>?_
 obtain⟨hQ,rfl⟩:=hp;exact⟨[gf c a],λh s=>bp (p:=qX c a) g s,hQ,rfl⟩
theorem I5{R:Value→List (List MsgT)→Prop}(core: ∀g:CX,DT f args T0 [ak c (eM g.n (mL g) (j0 a g.r) g.p) 104,eE 156 208 5 g.n (cR a.W)] (dz λv H=>∃W',R v W'∧H=[ak c (eM g.n (mL g) (j0 a g.r) g.p) 104,eE 156 208 5 g.n (cR W')])):
 DT f args T0 [gf c a] (dz λv H=>∃W',R v W'∧H=[gf c ⟨a.ms,W'⟩]):=by
 refine Leg.Does.ex (A':=λg:CX=>[ak c (eM g.n (mL g) (j0 a g.r) g.p) 104,eE 156 208 5 g.n (cR a.W)]++[bG ((List.range 5).map λi=>kJ (a.at' i) (g.d i) (g.r i) (g.p i))]) (λh s=>fB s) λg=>?_
 refine Leg.Does.withinR (core g) (λ_ _ _ _=>trivial) (λh s=>s) λv H hp=>?_
 obtain⟨W',hR,rfl⟩:=hp;exact⟨[gf c ⟨a.ms,W'⟩],λh s=>bp (p:=qX c ⟨a.ms,W'⟩) g s,W',hR,rfl⟩
theorem Ku(hl:a.ms.length=5)(hi:i<5){x:Slot}(hm: ∀r,yp x r=yp (a.at' i) r)(hr: ∀d r,qK x d r=qK (a.at' i) d r)(hp:x.past=(a.at' i).past)
 (core: ∀g:CX,DT f args T0 [ak c (eM g.n (mL g) (j0 a g.r) g.p) 104,dk (g.d i) (a.at' i).dk] (dz λv H=>Q v∧H=[ak c (eM g.n (mL g) (j0 a g.r) g.p) 104,dk (g.d i) x.dk])):
 DT f args T0 [gf c a] (dz λv H=>∃a',(Q v∧a'=a.set i x)∧H=[gf c a']):=by
 have ea:(a.set i x).at' i=x:=rP (by rw[hl];exact hi);refine A6 hi (λv a' hz j hj=>by rw[hz.2];exact tj hj) λg=>?_
 refine Leg.Does.withinR (B:=[eE 156 208 5 g.n (cR a.W),mH (g.p i) (a.at' i).past,qK (a.at' i) (g.d i) (g.r i)]) (core g) (λ_ _ _ _=>trivial) (λh q=>aC [0,1,0,0,0] rfl q) λv H hq=>?_
 obtain⟨hQ,rfl⟩:=hq;have hmm:j0 (a.set i x) g.r=j0 a g.r:=xc (λj hj=>tj hj) g.r (by rw[show(CL.mk (a.ms.set i x) a.W).at' i=x from ea];exact hm _);refine⟨_,λh q=>?_,_,⟨hQ,rfl⟩,g,rfl,λ_ _=>⟨rfl,rfl,rfl⟩,rfl⟩;rw[hmm,ea];unfold kq;rw[hp,hr];exact aC [0,1,0,0,0] rfl q
end
theorem lK{f:FuncId}{args:Array Value}{R:Hl→Prop}{A:List HP}{p q:Value→List HP→Prop}(d:DT f args R A (dz p))(k: ∀v H,p v H→q v H):DT f args R A (dz q):=
 Leg.Does.fold d λe H hp=>by
  cases e with
  |returned v=>exact⟨H,λ_ s=>s,k v H hp⟩
  |panicked c=>exact hp.elim
  |outgrown=>exact hp.elim
theorem pW{H:List HP}{h:Hl}(s:bG H h):bG ((λ_=>True)::H) h:=⟨em,h,Dv h,(qV h).symm,trivial,s⟩
theorem ww{α:Type}{l:List α}{k:Nat}{d:α}(h:k<l.length):l.set k (l.getD k d)=l:=by
 refine List.ext_getElem? λj=>?_
 by_cases q:j=k
 · subst q;rw[List.getElem?_set_self h,List.getD_eq_getElem?_getD,List.getElem?_eq_getElem h];rfl
 · rw[List.getElem?_set_ne (λe=>q e.symm)]
section
variable {n c i:Nat} {a:CL} {o:OpT}
theorem BX(h:CLOk n a)(hi:i<5):a.set i (a.at' i)=a:=by
 show CL.mk (a.ms.set i (a.ms.getD i .nil)) a.W=a;rw[ww (by rw[h.ms];exact hi)]
theorem wK(h:CLOk n a)(hi:i<5){s:MS LD}(hs:(a.at' i).run=some s):(CL.mk (a.ms.set i {a.at' i with run:=some s}) a.W)=a:=by
 have e:({a.at' i with run:=some s}:Slot)=a.at' i:=by cases q:a.at' i with|mk r D p=>rw[q]at hs;simp only at hs;rw[hs]
 rw[e];exact BX h hi
theorem oT{k:Int}(hk:o.kind=k)(hi:o.at'=((i:Nat):Int)):OpT.mk k ((i:Nat):Int) o.to' o.key o.n o.change o.mask o.torn o.cut=o:=by subst hk;rw[←hi]
theorem sU{k:Int}{j:Nat}(hk:o.kind=k)(hi:o.at'=((i:Nat):Int))(hj:o.to'=((j:Nat):Int)):OpT.mk k ((i:Nat):Int) ((j:Nat):Int) o.key o.n o.change o.mask o.torn o.cut=o:=by subst hk;rw[←hi,←hj]
theorem xb{g:CX}{s:MS LD}(hs:(a.at' i).run=some s):j0 a g.r i= .pointer (some ⟨g.r i,0,none⟩):=by show yp (a.at' i) _=_;unfold yp;rw[hs]
theorem oq{g:CX}(hs:(a.at' i).run=none):j0 a g.r i= .pointer none:=by show yp (a.at' i) _=_;unfold yp;rw[hs]
theorem FR{a':CL}{r r':Nat→Nat}{v:Value}(hne: ∀j,j≠i→a'.at' j=a.at' j)(hr: ∀j,j≠i→r' j=r j)(hv:yp (a'.at' i) (r' i)=v):j0 a' r'=k8 (j0 a r) i v:=funext λj=>by
 by_cases q:j=i
 · subst q;rw[jh];exact hv
 · rw[mZ _ _ q]
   show yp (a'.at' j) (r' j)=yp (a.at' j) (r j);rw[hne j q,hr j q]
theorem I6(h:CLOk n a)(hn:n≤100000)(hi:i<5)(hat:o.at'=((i:Nat):Int))(hk:0≤o.kind∧o.kind≤4)(ho:OkOp o):DT 17 #[.pointer (some ⟨c,0,none⟩), .agg (ints o.flat).toArray] T0 [gf c a] (dz λv H=>v= .int .i64 (E3 a i o).2∧H=[gf c (E3 a i o).1]):=by
 have eo:=oT (o:=o) rfl hat;cases hr:(a.at' i).run with
 |none=>
  refine lK (A5 (Q:=λv=>v= .int .i64 4) λg=>?_) λv H hp=>?_
  · have:=C4 c g.n i (mL g) (j0 a g.r) g.p hi (oq hr) o o.kind hk
    rw[eo]at this;exact this
  · unfold E3;rw[hr];exact hp
 |some s=>
  obtain⟨hs,_,hso⟩:=(h.at' i hi).run s hr;have hrep:=(h.at' i hi).reps;unfold Slot.reps at hrep;rw[hr,ah]at hrep;simp only at hrep;refine lK (EX h.ms hi hr (R:=λv s' W'=>(s.e.D.dn=true∧v= .int .i64 4∧s'=s∧W'=a.W)∨(s.e.D.dn=false∧v= .int .i64 (bW KD s o).2∧s'=(bW KD s o).1.hush∧W'=gZ a.W i (bW KD s o).1.o)) λg em=>?_) λv H hp=>?_
  · have:=EQ c g.n i (mL g) (j0 a g.r) g.p hi (g.d i) (g.r i) s rfl em a.W h.W hso hs o o.kind hk ho.change (by omega)
    rw[eo]at this;refine lK this λv H hp=>?_
    rcases hp with⟨hd,rfl,rfl⟩| ⟨hd,rfl,rfl⟩
    · exact⟨s,a.W, .inl ⟨hd,rfl,rfl,rfl⟩,rfl⟩
    · exact⟨_,_, .inr ⟨hd,rfl,rfl,rfl⟩,rfl⟩
  · obtain⟨a',⟨s',W',hR,rfl⟩,rfl⟩:=hp
    unfold E3;rw[hr];rcases hR with⟨hd,rfl,rfl,rfl⟩| ⟨hd,rfl,rfl,rfl⟩
    · simp only[hd,if_true];exact⟨by first|rfl|trivial,by rw[wK h hi hr]⟩
    · simp only[hd];exact⟨rfl,rfl⟩
theorem HW(h:CLOk n a)(hi:i<5)(hat:o.at'=((i:Nat):Int))(hk:o.kind=8):DT 17 #[.pointer (some ⟨c,0,none⟩), .agg (ints o.flat).toArray] T0 [gf c a] (dz λv H=>v= .int .i64 (DP a i).2∧H=[gf c (DP a i).1]):=by
 have eo:=oT (o:=o) hk hat;cases hr:(a.at' i).run with
 |none=>
  refine lK (A5 (Q:=λv=>v= .int .i64 4) λg=>?_) λv H hp=>?_
  · have:=C2 c g.n i (mL g) (j0 a g.r) g.p hi (oq hr) o
    rw[eo]at this;exact this
  · unfold DP;rw[hr];exact hp
 |some s=>
  obtain⟨hs,_,hso⟩:=(h.at' i hi).run s hr;refine lK (EX h.ms hi hr (R:=λv s' W'=>(s.e.D.dn=true∧v= .int .i64 4∧s'=s∧W'=a.W)∨(s.e.D.dn=false∧v= .int .i64 0∧s'=(im KD s).hush∧W'=gZ a.W i (im KD s).o)) λg em=>?_) λv H hp=>?_
  · have:=EK c g.n i (mL g) (j0 a g.r) g.p hi (g.d i) (g.r i) s rfl em a.W h.W hso hs o
    rw[eo]at this;refine lK this λv H hp=>?_
    rcases hp with⟨hd,rfl,rfl⟩| ⟨hd,rfl,rfl⟩
    · exact⟨s,a.W, .inl ⟨hd,rfl,rfl,rfl⟩,rfl⟩
    · exact⟨_,_, .inr ⟨hd,rfl,rfl,rfl⟩,rfl⟩
  · obtain⟨a',⟨s',W',hR,rfl⟩,rfl⟩:=hp
    unfold DP;rw[hr];rcases hR with⟨hd,rfl,rfl,rfl⟩| ⟨hd,rfl,rfl,rfl⟩
    · simp only[hd,if_true];exact⟨by first|rfl|trivial,by rw[wK h hi hr]⟩
    · simp only[hd];exact⟨rfl,rfl⟩
theorem Jh(h:CLOk n a)(hi:i<5)(hat:o.at'=((i:Nat):Int))(hk:o.kind=9):DT 17 #[.pointer (some ⟨c,0,none⟩), .agg (ints o.flat).toArray] T0 [gf c a] (dz λv H=>v= .int .i64 0∧H=[gf c (a.set i (tk (a.at' i) o.n))]):=by
 have eo:=oT (o:=o) hk hat
 have ed:(tk (a.at' i) o.n).dk=(a.at' i).dk.arm o.n:=by
  unfold tk Slot.dk;cases hr:(a.at' i).run with
  |none=>simp only[hr]
  |some s=>rfl
 refine lK (Ku (x:=tk (a.at' i) o.n) (Q:=λv=>v= .int .i64 0) h.ms hi (λr=>?_) (λd r=>?_) ?_ λg=>?_) λv H hp=>?_
 · unfold tk yp
   cases hr:(a.at' i).run with
   |none=>simp only[hr]
   |some s=>rfl
 · unfold tk qK
   cases hr:(a.at' i).run with
   |none=>simp only[hr]
   |some s=>rfl
 · unfold tk;split<;>rfl
 · have:=ES c g.n i (mL g) (j0 a g.r) g.p hi (g.d i) rfl (a.at' i).dk o
   rw[eo]at this;rw[ed];exact this
 · obtain⟨a',⟨rfl,rfl⟩,rfl⟩:=hp
   exact⟨rfl,rfl⟩
theorem EZ(h:CLOk n a)(hn:n≤100000)(hi:i<5)(hat:o.at'=((i:Nat):Int))(hk:o.kind=10):DT 17 #[.pointer (some ⟨c,0,none⟩), .agg (ints o.flat).toArray] T0 [gf c a] (dz λv H=>v= .int .i64 0∧H=[gf c (a.set i (nV (a.at' i) o.mask o.torn o.cut))]):=by
 have eo:=oT (o:=o) hk hat;have so:=h.at' i hi;have hrep:=so.reps;unfold Slot.reps at hrep;rw[ah]at hrep;have ea:(a.set i (nV (a.at' i) o.mask o.torn o.cut)).at' i=nV (a.at' i) o.mask o.torn o.cut:=rP (by rw[h.ms];exact hi);have hne: ∀j,j≠i→(a.set i (nV (a.at' i) o.mask o.torn o.cut)).at' j=a.at' j:=λj hj=>tj hj
 refine lK (A6 (Z:=λv a'=>v= .int .i64 0∧a'=a.set i (nV (a.at' i) o.mask o.torn o.cut)) hi (λv a' hz j hj=>by rw[hz.2];exact hne j hj) λg=>?_) λv H hp=>by obtain⟨_,⟨rfl,rfl⟩,rfl⟩:=hp;exact⟨rfl,rfl⟩
 have fin: ∀u,u.oneCell'=true→∀h,bG ([ak c (eM g.n (mL g) (k8 (j0 a g.r) i (.pointer none)) (k8 g.p i u)) 104,dk (g.d i) ((a.at' i).dk.crash o.mask o.torn o.cut),mH u (a.at' i).reps]++[eE 156 208 5 g.n (cR a.W)]) h→
  bG (ak c (eM g.n (mL {g with p:=k8 g.p i u}) (j0 (a.set i (nV (a.at' i) o.mask o.torn o.cut)) g.r) (k8 g.p i u)) 104::eE 156 208 5 g.n (cR (a.set i (nV (a.at' i) o.mask o.torn o.cut)).W)::kq ((a.set i (nV (a.at' i) o.mask o.torn o.cut)).at' i) (g.d i) (g.r i) (k8 g.p i u i)) h:=λu _ hh q=>by
  rw[FR (a:=a) (i:=i) (v:= .pointer none) (r:=g.r) hne (λ_ _=>rfl) (by rw[ea];rfl),ea,jh];have q2:=pW (aC [0,2,0,0] rfl q);exact aC [1,1,1,1,0] rfl q2
 cases hr:(a.at' i).run with
 |none=>
  have er:(a.at' i).reps=(a.at' i).past:=by unfold Slot.reps;rw[hr,aP]
  have:=EP c g.n i (mL g) (j0 a g.r) g.p hi (g.d i) rfl (oq hr) (a.at' i).past (by omega) (a.at' i).dk so.dk.ok o;rw[eo]at this;refine Leg.Does.withinR (B:=[eE 156 208 5 g.n (cR a.W)]) this (λ_ _ _ _=>trivial) (λhh q=>?_) λv H hp=>?_
  · exact am [0,1,1,0] rfl q
  · obtain⟨u,hu,rfl,rfl⟩:=hp
    refine⟨_,λhh q=>fin u hu hh ?_,_,⟨rfl,rfl⟩,{g with p:=k8 g.p i u},rfl,λj hj=>⟨rfl,rfl,mZ _ _ hj⟩,rfl⟩;rw[er];exact q
 |some s=>
  rw[hr]at hrep;simp only at hrep;have er:(a.at' i).reps=(a.at' i).past++s.replies:=by unfold Slot.reps;rw[hr]
  have e1:qK (a.at' i) (g.d i) (g.r i)=ff s (g.d i) (g.r i):=by unfold qK;rw[hr]
  have:=EO c g.n i (mL g) (j0 a g.r) g.p hi (g.d i) rfl (g.r i) s (xb hr) (a.at' i).past (by omega) (by omega) (a.at' i).dk so.dk.ok o;rw[eo]at this;refine Leg.Does.withinR (B:=[eE 156 208 5 g.n (cR a.W)]) this (λ_ _ _ _=>trivial) (λhh q=>?_) λv H hp=>?_
  · unfold kq at q
    rw[e1]at q;exact aC [0,1,1,1,0] rfl q
  · obtain⟨u,hu,rfl,rfl⟩:=hp
    refine⟨_,λhh q=>fin u hu hh ?_,_,⟨rfl,rfl⟩,{g with p:=k8 g.p i u},rfl,λj hj=>⟨rfl,rfl,mZ _ _ hj⟩,rfl⟩;rw[er];exact q
end
section
variable {n c i:Nat} {a:CL} {o:OpT}
theorem BR{i:Nat}{D:DS}{s:MS LD}(h:(cw i D).1=some s):(cw i D).2=0:=by
 obtain⟨h1,h2⟩:=pV h;unfold cw;rw[if_neg (by rw[h1];decide),h2]
theorem BS(h:CLOk n a)(hi:i<5)(hat:o.at'=((i:Nat):Int))(hk:o.kind=11):DT 17 #[.pointer (some ⟨c,0,none⟩), .agg (ints o.flat).toArray] T0 [gf c a] (dz λv H=>v= .int .i64 (gU i (a.at' i)).2∧H=[gf c (a.set i (gU i (a.at' i)).1)]):=by
 have eo:=oT (o:=o) hk hat;have so:=h.at' i hi;cases hr:(a.at' i).run with
 |some s=>
  have e:gU i (a.at' i)=(a.at' i,5):=by unfold gU;rw[hr]
  rw[e,show a.set i (a.at' i,(5:Int)).1=a from BX h hi];refine A5 (Q:=λv=>v= .int .i64 5) λg=>?_
  have:=EL c g.n i (mL g) (j0 a g.r) g.p hi (g.r i) (xb hr) o;rw[eo]at this;exact this
 |none=>
  have e:gU i (a.at' i)=({a.at' i with run:=(cw i (a.at' i).D).1,D:=(bH (a.at' i).D).D},(cw i (a.at' i).D).2):=by unfold gU;rw[hr]
  have hD:=so.D hr;have ed:(a.at' i).dk=(a.at' i).D:=by unfold Slot.dk;rw[hr]
  have e1: ∀d r,qK (a.at' i) d r= λ_=>True:=λd r=>by unfold qK;rw[hr]
  have hst: ∀x:Slot,(a.set i x).at' i=x:=λx=>rP (by rw[h.ms];exact hi)
  have hne: ∀x:Slot,∀j,j≠i→(a.set i x).at' j=a.at' j:=λx j hj=>tj hj
  refine lK (A6 (Z:=λv a'=>v= .int .i64 (gU i (a.at' i)).2∧a'=a.set i (gU i (a.at' i)).1) hi (λv a' hz j hj=>by rw[hz.2];exact hne _ j hj) λg=>?_) λv H hp=>by obtain⟨_,⟨rfl,rfl⟩,rfl⟩:=hp;exact⟨rfl,rfl⟩
  have:=EM c g.n i (mL g) (j0 a g.r) g.p hi (g.d i) rfl (oq hr) (a.at' i).D hD o;rw[eo]at this;refine Leg.Does.withinR (B:=[eE 156 208 5 g.n (cR a.W),mH (g.p i) (a.at' i).past]) this (λ_ _ _ _=>trivial) (λhh q=>?_) λv H hp=>?_
  · unfold kq at q
    rw[ed]at q;exact am [0,1,0,0] rfl q
  · rcases hp with⟨hn,rfl,rfl⟩| ⟨s,r,hn,rfl,rfl⟩
    · refine⟨_,λhh q=>?_,_,⟨by rw[e],rfl⟩,g,rfl,λj hj=>⟨rfl,rfl,rfl⟩,rfl⟩
      rw[hst,e];have em:j0 (a.set i {a.at' i with run:=(cw i (a.at' i).D).1,D:=(bH (a.at' i).D).D}) g.r=j0 a g.r:=xc (hne _) g.r (by rw[hst];unfold yp;rw[hr];simp only[hn]);rw[em];have q2:=pW (aC [0,1,0,0] rfl q);have q3:=aC [1,1,1,1,0] rfl q2;unfold kq Slot.dk qK;simp only[hn];exact q3
    · refine⟨_,λhh q=>?_,_,⟨by rw[e];simp only[BR hn],rfl⟩,{g with r:=k8 g.r i r},rfl,λj hj=>⟨rfl,mZ _ _ hj,rfl⟩,rfl⟩
      rw[hst,e];have em:j0 (a.set i {a.at' i with run:=(cw i (a.at' i).D).1,D:=(bH (a.at' i).D).D}) (k8 g.r i r)=k8 (j0 a g.r) i (.pointer (some ⟨r,0,none⟩)):=FR (hne _) (λj hj=>mZ _ _ hj) (by rw[hst,jh];unfold yp;simp only[hn]);rw[em];have q3:=aC [0,2,1,1,0] rfl q;unfold kq Slot.dk qK;simp only[hn,jh];exact q3
theorem Gc(h:CLOk n a)(hn:n≤100000)(hi:i<5)(hat:o.at'=((i:Nat):Int))(hk:o.kind=5∨o.kind=6∨o.kind=7):DT 59 #[.pointer (some ⟨c,0,none⟩), .agg (ints o.flat).toArray] T0 [gf c a] (dz λv H=>v= .int .i64 (oI a o).2∧H=[gf c (oI a o).1]):=by
 cases hv:dB o.at' o.to' with
 |false=>
  have e:oI a o=(a,5):=by unfold oI;rw[if_pos hv]
  rw[e];have eo:=oT (o:=o) rfl hat;refine lK (I5 (R:=λv W'=>v= .int .i64 5∧W'=a.W) λg=>?_) λv H hp=>by obtain⟨_,⟨rfl,rfl⟩,rfl⟩:=hp;exact⟨rfl,rfl⟩
  refine Leg.Does.ex (A':=λbs:List Nat=>[ak c (eM g.n (mL g) (j0 a g.r) g.p) 104,ak g.n (dG bs) 156]++[eN 208 5 bs (cR a.W)]) (λhh q=>?_) λbs=>?_
  · obtain⟨bs,q⟩:=fB (eu (List.Perm.swap _ _ _) q)
    exact⟨bs,aC [2,0,0] rfl q⟩
  · rw[hat]at hv
    have:=By c g.n i (mL g) (j0 a g.r) g.p hi o.to' o.kind o hv bs;rw[eo]at this;refine Leg.Does.withinR this (λ_ _ _ _=>trivial) (λhh q=>q) λv H hp=>?_
    obtain⟨rfl,rfl⟩:=hp;refine⟨_,λhh q=>?_,a.W,⟨rfl,rfl⟩,rfl⟩;exact eu (List.Perm.swap _ _ _) (bp (p:=λbs:List Nat=>[ak g.n (dG bs) 156,eN 208 5 bs (cR a.W)]) bs (aC [1,1,0] rfl q))
 |true=>
  obtain⟨j,hto⟩: ∃j:Nat,o.to'=((j:Nat):Int):=⟨o.to'.toNat,((lV (sy hv).2).2).symm⟩;have hj:j<5:=by have:=(lV (sy hv).2).1;rw[hto]at this;simpa using this
  have hv2:dB ((i:Nat):Int) ((j:Nat):Int)=true:=by rw[←hat,←hto];exact hv
  have eK:bB o.at' o.to'=bB ((i:Nat):Int) ((j:Nat):Int):=by rw[hat,hto]
  have hij:((i:Nat):Int)≠((j:Nat):Int):=λe=>by
   unfold dB at hv2;rw[decide_eq_true e]at hv2;simp at hv2
  obtain⟨h8,hlen⟩:=h.way (bB ((i:Nat):Int) ((j:Nat):Int));have hkl:bB ((i:Nat):Int) ((j:Nat):Int)<a.W.length:=by rw[h.W];exact(iB hv2).1
  -- the net alone
  have net: ∀{R:Value→List (List MsgT)→Prop},(∀(g:CX) (bs:List Nat),Leg.Does Tryz.prog 59 #[.pointer (some ⟨c,0,none⟩), .agg (ints o.flat).toArray] (λ_=>True) [ak g.n (dG bs) 156,eN 208 5 bs (cR a.W),ak c (eM g.n (mL g) (j0 a g.r) g.p) 104] (dz λv H=>∃W',R v W'∧H=[ak c (eM g.n (mL g) (j0 a g.r) g.p) 104,eE 156 208 5 g.n (cR W')]))→
   Leg.Does Tryz.prog 59 #[.pointer (some ⟨c,0,none⟩), .agg (ints o.flat).toArray] (λ_=>True) [gf c a] (dz λv H=>∃W',R v W'∧H=[gf c ⟨a.ms,W'⟩]):=λcore=>I5 λg=>Leg.Does.ex (A':=λbs:List Nat=>[ak g.n (dG bs) 156,eN 208 5 bs (cR a.W),ak c (eM g.n (mL g) (j0 a g.r) g.p) 104]) (λhh q=>fB (eu (List.Perm.swap _ _ _) q)) (core g)
  cases hl:a.W.getD (bB ((i:Nat):Int) ((j:Nat):Int)) []with
  |nil=>
   have e:oI a o=(a,10):=by unfold oI;rw[if_neg (by rw[hv];decide),eK,hl]
   rw[e];refine lK (net (R:=λv W'=>v= .int .i64 10∧W'=a.W) λg bs=>?_) λv H hp=>by obtain⟨_,⟨rfl,rfl⟩,rfl⟩:=hp;exact⟨rfl,rfl⟩
   have:=zY c g.n i (mL g) (j0 a g.r) g.p hi j hj hv2 a.W h.W _ rfl h8 hlen o o.kind hl bs;rw[sU rfl hat hto,ww hkl]at this;exact lK this λv H hp=>⟨a.W,⟨hp.1,rfl⟩,hp.2⟩
  |cons m0 l0=>
   by_cases h7:o.kind=7
   · have e:oI a o=(a.way (bB ((i:Nat):Int) ((j:Nat):Int)) (Dx (m0::l0)),if HT (m0::l0)then 0 else 3):=by
      unfold oI;rw[if_neg (by rw[hv];decide),eK,hl];simp only[if_pos h7];split
      · rfl
      · rename_i q
        have q2:Dx (m0::l0)=m0::l0:=by unfold Dx;unfold HT at q;rw[if_neg (by simpa using q)]
        rw[q2];show(a,(3:Int))=(CL.mk a.ms (a.W.set _ (m0::l0)),3);rw[←hl,ww hkl]
     rw[e];refine lK (net (R:=λv W'=>v= .int .i64 (if HT (m0::l0)then 0 else 3)∧W'=a.W.set (bB ((i:Nat):Int) ((j:Nat):Int)) (Dx (m0::l0))) λg bs=>?_) λv H hp=>by obtain⟨_,⟨rfl,rfl⟩,rfl⟩:=hp;exact⟨rfl,rfl⟩
     have:=yb c g.n i (mL g) (j0 a g.r) g.p hi j hj hv2 a.W h.W (m0::l0) hl (by rw[←hl];exact h8) (by rw[←hl];exact hlen) o (by simp) bs;rw[sU h7 hat hto]at this;exact lK this λv H hp=>⟨_,⟨hp.1,rfl⟩,hp.2⟩
   · cases ht:lp (max o.n 0% ((m0::l0).length:Int)).toNat (m0::l0)with
     |nil=>have:=jj (max o.n 0% ((m0::l0).length:Int)).toNat (m0::l0);rw[ht]at this;simp at this
     |cons m l2=>
      by_cases h6:o.kind=6
      · have e:oI a o=(a.way (bB ((i:Nat):Int) ((j:Nat):Int)) l2,0):=by
         unfold oI;rw[if_neg (by rw[hv];decide),eK,hl];simp only[if_neg h7];rw[ht];simp only[if_pos h6]
        rw[e];refine lK (net (R:=λv W'=>v= .int .i64 0∧W'=a.W.set (bB ((i:Nat):Int) ((j:Nat):Int)) l2) λg bs=>?_) λv H hp=>by obtain⟨_,⟨rfl,rfl⟩,rfl⟩:=hp;exact⟨rfl,rfl⟩
        have:=sh c g.n i (mL g) (j0 a g.r) g.p hi j hj hv2 a.W h.W (m0::l0) hl (by rw[←hl];exact h8) (by rw[←hl];exact hlen) o m l2 ht bs 6 (.inr rfl) (.inl rfl);rw[sU h6 hat hto]at this;exact lK this λv H hp=>⟨_,⟨hp.1,rfl⟩,hp.2⟩
      · have h5:o.kind=5:=by omega
        have e:oI a o=tf (a.way (bB ((i:Nat):Int) ((j:Nat):Int)) l2) i j m:=by
         unfold oI;rw[if_neg (by rw[hv];decide),eK,hl];simp only[if_neg h7];rw[ht];simp only[if_neg h6];rw[hat,hto];rfl
        rw[e];have ew:(a.way (bB ((i:Nat):Int) ((j:Nat):Int)) l2).at' j=a.at' j:=rfl;cases hr:(a.at' j).run with
        |none=>
         have e2:tf (a.way (bB ((i:Nat):Int) ((j:Nat):Int)) l2) i j m=(a.way (bB ((i:Nat):Int) ((j:Nat):Int)) l2,0):=by unfold tf;rw[ew,hr]
         rw[e2];refine lK (net (R:=λv W'=>v= .int .i64 0∧W'=a.W.set (bB ((i:Nat):Int) ((j:Nat):Int)) l2) λg bs=>?_) λv H hp=>by obtain⟨_,⟨rfl,rfl⟩,rfl⟩:=hp;exact⟨rfl,rfl⟩
         have:=sh c g.n i (mL g) (j0 a g.r) g.p hi j hj hv2 a.W h.W (m0::l0) hl (by rw[←hl];exact h8) (by rw[←hl];exact hlen) o m l2 ht bs 5 (.inl rfl) (.inr (oq hr));rw[sU h5 hat hto]at this;exact lK this λv H hp=>⟨_,⟨hp.1,rfl⟩,hp.2⟩
        |some s=>
         obtain⟨hs,hid,hso⟩:=(h.at' j hj).run s hr;have hrep:=(h.at' j hj).reps;unfold Slot.reps at hrep;rw[hr,ah]at hrep;simp only at hrep;have W2:(a.W.set (bB ((i:Nat):Int) ((j:Nat):Int)) l2).length=25:=by rw[cB];exact h.W
         refine lK (EX h.ms hj hr (R:=λv s' W'=>(s.e.D.dn=true∧v= .int .i64 0∧s'=s∧W'=a.W.set (bB ((i:Nat):Int) ((j:Nat):Int)) l2)∨(s.e.D.dn=false∧(gE (cS m)).2≠0∧v= .int .i64 (gE (cS m)).2∧s'=s∧W'=a.W.set (bB ((i:Nat):Int) ((j:Nat):Int)) l2)∨(s.e.D.dn=false∧(gE (cS m)).2=0∧v= .int .i64 0∧s'=(gj KD s ((i:Nat):Int) (gE (cS m)).1).hush∧W'=gZ (a.W.set (bB ((i:Nat):Int) ((j:Nat):Int)) l2) j (gj KD s ((i:Nat):Int) (gE (cS m)).1).o)) λg em=>?_) λv H hp=>?_
         · refine Leg.Does.ex (A':=λbs:List Nat=>[ak g.n (dG bs) 156,eN 208 5 bs (cR a.W),ak c (eM g.n (mL g) (j0 a g.r) g.p) 104,dk (g.d j) s.e.D,ff s (g.d j) (g.r j)]) (λhh q=>fB (aC [2,0,0,0] rfl q)) λbs=>?_
           have:=zZ c g.n i (mL g) (j0 a g.r) g.p hi j hj hv2 a.W h.W (m0::l0) hl (by rw[←hl];exact h8) (by rw[←hl];exact hlen) o m l2 ht bs (g.d j) (g.r j) s rfl em hso hs (by rw[hid];exact hij) (by omega);rw[sU h5 hat hto]at this;refine lK this λv H hp=>?_
           rcases hp with⟨hd,rfl,rfl⟩| ⟨hd,h1,rfl,rfl⟩| ⟨hd,h1,rfl,rfl⟩
           · exact⟨_,_, .inl ⟨hd,rfl,rfl,rfl⟩,rfl⟩
           · exact⟨_,_, .inr (.inl ⟨hd,h1,rfl,rfl,rfl⟩),rfl⟩
           · exact⟨_,_, .inr (.inr ⟨hd,h1,rfl,rfl,rfl⟩),rfl⟩
         · obtain⟨a',⟨s',W',hR,rfl⟩,rfl⟩:=hp
           have er: ∀W',CL.mk (a.ms.set j {a.at' j with run:=some s}) W'=CL.mk a.ms W':=λW'=>by
            have:=congrArg CL.ms (wK h hj hr);rw[show a.ms.set j {a.at' j with run:=some s}=a.ms from this]
           unfold tf;rw[ew,hr];rcases hR with⟨hd,rfl,rfl,rfl⟩| ⟨hd,h1,rfl,rfl,rfl⟩| ⟨hd,h1,rfl,rfl,rfl⟩
           · simp only[hd,if_true];exact⟨by first|rfl|trivial,by rw[er];rfl⟩
           · simp only[hd,if_neg h1];exact⟨by first|rfl|trivial,by rw[er];rfl⟩
           · simp only[hd,if_pos h1];exact⟨by first|rfl|trivial,rfl⟩
end
theorem ER(c:Nat)(X:HP)(o:OpT)(hm:iF o.at'=false):
 DT 17 #[(.pointer (some ⟨c,0,none⟩)),(.agg (ints o.flat).toArray)] T0 [X] (RI (.int .i64 5) [X]):=by
 refine BD 114 Tryz.func17 rfl rfl rfl λw0 F hF=>sr λ_ J1=>XY (ints o.flat) λb3=>?_
 refine PS ?_;refine nx J1 (aa λ_ J2=>sr λ_ J3=>PS ?_);refine FA 1 fG aQ ?_;refine LU 0 Y3 (bK o rfl) ?_;refine CE p3 (wU c o.at') ID ?_;rw[hm];refine PS ?_;refine nx J3 (CY (sr λ_ J4=>PS ?_));exact nx J4 (ai (af (WK [1] (av rfl rfl ⟨rfl,rfl⟩))))
theorem EJ(c i:Nat)(hi:i<5)(X:HP)(o:OpT)(k:Int)(hk:k=5∨k=6∨k=7)(p:Int→HP→Prop)(hw:DT 59 #[(.pointer (some ⟨c,0,none⟩)),(.agg (ints (OpT.mk k ((i:Nat):Int) o.to' o.key o.n o.change o.mask o.torn o.cut).flat).toArray)] T0 [X] (dz (λv H=>∃e X',v= .int .i64 e∧H=[X']∧p e X'))):
 DT 17 #[(.pointer (some ⟨c,0,none⟩)),(.agg (ints (OpT.mk k ((i:Nat):Int) o.to' o.key o.n o.change o.mask o.torn o.cut).flat).toArray)] T0 [X] (dz (λv H=>∃e X',v= .int .i64 e∧H=[X']∧p e X')):=by
 refine BD 114 Tryz.func17 rfl rfl rfl λw0 F hF=>sr λ_ J1=>XY (ints (OpT.mk k ((i:Nat):Int) o.to' o.key o.n o.change o.mask o.torn o.cut).flat) λb3=>?_
 refine PS ?_;refine nx J1 (aa λ_ J2=>sr λ_ J3=>PS ?_);refine FA 1 fG aQ ?_;refine LT 0 Y3 (.int .i64 (((i:Nat):Int))) ?_ (hc:=by exact bK _ rfl);refine CE p3 (dU c i hi) ID ?_;refine PS ?_;refine nx J3 (CN (qx J2 (aa λ_ J4=>sr λ_ J5=>FA 0 fG aQ ?_)));refine LT 0 Y3 (.int .i64 (k)) ?_ (hc:=by exact cO _ rfl);refine nx J5 (aq (aa λ_ J6=>sr λ_ J7=>P2 ?_));refine ao ?_ ?_<;>intro h12
 · exact absurd h12 (by omega)
 refine nx J7 (CN (sr λ_ J8=>P2 ?_));refine ao ?_ ?_<;>intro h12
 · exact absurd h12 (by omega)
 refine nx J8 (CN (sr λ_ J9=>P2 ?_));refine ao ?_ ?_<;>intro h12
 · exact absurd h12 (by omega)
 refine nx J9 (CN (sr λ_ J10=>P2 ?_));refine ao ?_ ?_<;>intro h12
 · exact absurd h12 (by omega)
 refine nx J10 (CN (ae (PS ?_)));refine ao ?_ ?_<;>intro h17
 · exact absurd h17 (by omega)
 refine PS ?_;refine nx J6 (CN (aa λ_ J11=>fg (α:=Unit) (λ_u=>True) (λ_u=>[(0,(.pointer (some ⟨c,0,none⟩))),(3,(.pointer (some ⟨b3,0,none⟩))),(4,(.int .i64 0)),(11,(.int .i64 (k))),(37,(.bool true))]) (λ_u=>[ak b3 (ints (OpT.mk k ((i:Nat):Int) o.to' o.key o.n o.change o.mask o.torn o.cut).flat) 30,X]) (λ_u hinv=>?_) (λtl11=>?_)));have _:=hinv;refine ac J11 (CY (sr λ_ J12=>PS ?_));refine LW 0 fG Ai DD ?_;refine CR O8 (hw) (SM [1]) λvR HR hR=>?_
 obtain⟨e,X',rfl,rfl,hp⟩:=hR;refine PS ?_;exact nx J12 (ai (aJ (af (WK [0] (av rfl rfl ⟨e,X',rfl,rfl,hp⟩)))));refine sr λ_ J13=>P2 ?_
 refine ao ?_ ?_<;>intro h37;refine nx J13 (CY (aU ?_))
 exact aF
  SB
  (λ_ s=>am [0,0] rfl s)
  (tl11 (():Unit) trivial)
 refine nx J13 (CN (sr λ_ J14=>P2 ?_));refine ao ?_ ?_<;>intro h37;refine nx J14 (CY (aU ?_))
 exact aF
  SB
  (λ_ s=>am [0,0] rfl s)
  (tl11 (():Unit) trivial)
 refine nx J14 (CN (ae (PS ?_)));refine ao ?_ ?_<;>intro h40;refine PS ?_;refine au ?_
 exact aF
  SB
  (λ_ s=>am [0,0] rfl s)
  (tl11 (():Unit) trivial)
 · exact absurd h40 (by omega)
theorem C3(c i:Nat)(hi:i<5)(X:HP)(o:OpT)(k:Int)(hk:k<0∨11<k):
 DT 17 #[(.pointer (some ⟨c,0,none⟩)),(.agg (ints (OpT.mk k ((i:Nat):Int) o.to' o.key o.n o.change o.mask o.torn o.cut).flat).toArray)] T0 [X] (RI (.int .i64 5) [X]):=by
 refine BD 114 Tryz.func17 rfl rfl rfl λw0 F hF=>sr λ_ J1=>XY (ints (OpT.mk k ((i:Nat):Int) o.to' o.key o.n o.change o.mask o.torn o.cut).flat) λb3=>?_
 refine PS ?_;refine nx J1 (aa λ_ J2=>sr λ_ J3=>PS ?_);refine FA 1 fG aQ ?_;refine LT 0 Y3 (.int .i64 (((i:Nat):Int))) ?_ (hc:=by exact bK _ rfl);refine CE p3 (dU c i hi) ID ?_;refine PS ?_;refine nx J3 (CN (qx J2 (aa λ_ J4=>sr λ_ J5=>FA 0 fG aQ ?_)));refine LT 0 Y3 (.int .i64 (k)) ?_ (hc:=by exact cO _ rfl);refine nx J5 (aq (aa λ_ J6=>sr λ_ J7=>P2 ?_));refine ao ?_ ?_<;>intro h12
 · exact absurd h12 (by omega)
 refine nx J7 (CN (sr λ_ J8=>P2 ?_));refine ao ?_ ?_<;>intro h12
 · exact absurd h12 (by omega)
 refine nx J8 (CN (sr λ_ J9=>P2 ?_));refine ao ?_ ?_<;>intro h12
 · exact absurd h12 (by omega)
 refine nx J9 (CN (sr λ_ J10=>P2 ?_));refine ao ?_ ?_<;>intro h12
 · exact absurd h12 (by omega)
 refine nx J10 (CN (ae (PS ?_)));refine ao ?_ ?_<;>intro h17
 · exact absurd h17 (by omega)
 refine PS ?_;refine nx J6 (CN (aa λ_ J11=>sr λ_ J12=>P2 ?_));refine ao ?_ ?_<;>intro h37
 · exact absurd h37 (by omega)
 refine nx J12 (CN (sr λ_ J13=>P2 ?_));refine ao ?_ ?_<;>intro h37
 · exact absurd h37 (by omega)
 refine nx J13 (CN (ae (PS ?_)));refine ao ?_ ?_<;>intro h40
 · exact absurd h40 (by omega)
 refine PS ?_;refine nx J11 (CN (sr λ_ J14=>PS ?_));refine ao ?_ ?_<;>intro h45
 · exact absurd h45 (by omega)
 refine PS ?_;refine nx J14 (CN (sr λ_ J15=>PS ?_));refine ao ?_ ?_<;>intro h65
 · exact absurd h65 (by omega)
 refine PS ?_;refine nx J15 (CN (sr λ_ J16=>PS ?_));refine ao ?_ ?_<;>intro h77
 · exact absurd h77 (by omega)
 refine PS ?_;refine nx J16 (CN (sr λ_ J17=>PS ?_));refine ao ?_ ?_<;>intro h109
 · exact absurd h109 (by omega)
 refine PS ?_;refine nx J17 (CN (sr λ_ J18=>PS ?_));exact nx J18 (ai (aJ (af (WK [1] (av rfl rfl ⟨rfl,rfl⟩)))))
section
variable {n c:Nat} {a:CL} {o:OpT}
theorem qe(h:CLOk n a)(hn:n≤100000)(ho:OkOp o):DT 17 #[.pointer (some ⟨c,0,none⟩), .agg (ints o.flat).toArray] T0 [gf c a] (dz λv H=>v= .int .i64 (Dy a o).2∧H=[gf c (Dy a o).1]):=by
 unfold Dy
 by_cases hm:iF o.at'=false
 · rw[if_pos hm]
   exact ER c (gf c a) o hm
 · rw[if_neg hm]
   have hm:iF o.at'=true:=by simpa using hm
   obtain⟨hi,hat⟩:=lV hm
   by_cases h1:0≤o.kind∧o.kind≤4
   · rw[if_pos h1];exact I6 h hn hi hat.symm h1 ho
   rw[if_neg h1]
   by_cases h2:o.kind=5∨o.kind=6∨o.kind=7
   · rw[if_pos h2]
     have:=EJ c _ hi (gf c a) o o.kind h2 (λe X=>e=(oI a o).2∧X=gf c (oI a o).1) (by
      rw[oT rfl hat.symm]
      exact lK (Gc h hn hi hat.symm h2) λv H hp=>⟨_,_,hp.1,hp.2,rfl,rfl⟩)
     rw[oT rfl hat.symm]at this
     exact lK this λv H hp=>by
      obtain⟨e,X,rfl,rfl,rfl,rfl⟩:=hp;exact⟨rfl,rfl⟩
   rw[if_neg h2]
   by_cases h3:o.kind=8
   · rw[if_pos h3];exact HW h hi hat.symm h3
   rw[if_neg h3]
   by_cases h4:o.kind=9
   · rw[if_pos h4];exact Jh h hi hat.symm h4
   rw[if_neg h4]
   by_cases h5:o.kind=10
   · rw[if_pos h5];exact EZ h hn hi hat.symm h5
   rw[if_neg h5]
   by_cases h6:o.kind=11
   · rw[if_pos h6];exact BS h hi hat.symm h6
   rw[if_neg h6];have:=C3 c _ hi (gf c a) o o.kind (by omega);rw[oT rfl hat.symm]at this;exact this
end
end Go.Proofs.YtjblgopghhgflaaGreat
end
