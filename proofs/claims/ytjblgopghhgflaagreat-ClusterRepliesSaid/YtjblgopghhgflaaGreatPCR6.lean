/-
  Joined texts:what a statement's proof reaches.
-/
import Derived.Test.YtjblgopghhgflaaGreatPCR5
set_option maxHeartbeats 8000000
set_option maxRecDepth 100000
set_option linter.unusedSimpArgs false
set_option linter.unusedVariables false
section
namespace Go.Proofs.YtjblgopghhgflaaGreat
open Go Leg Codec Api Dsk Wal
theorem wS{δ:Type}(V:Env δ)(r:Nat)(s:MS δ)[OkR V.toDk s](hrs:s.replies.length≤1000000):
 DT 169 #[(.pointer (some ⟨r,0,none⟩)),(.iface V.T V.ov)] T0 [cD V r s] (dw (λ_ H=>H=[cD V r (ld V.toDk s)])):=by
 refine BD 43 Tryz.func169 rfl rfl rfl λw0 F hF=>sr λ_ J1=>P2 ?_
 refine FA 1938 bg kp ?_;refine SK 0 kp (λ_=>cM _) ?_ (hc:=by exact λa_=>(MN _ rfl _));refine nx J1 (aa λ_ J2=>eJ (α:=Unit) (λ_u=>True) (λ_u=>[(0,(.pointer (some ⟨r,0,none⟩))),(1,(.iface V.T V.ov))]) (λ_u=>[cD V r (gy s)]) (λ_u hinv=>?_) (λtl2=>?_));have _:=hinv;refine ac J2 (aa λ_ J3=>eJ (α:=Unit) (λ_u=>True) (λ_u=>[(0,(.pointer (some ⟨r,0,none⟩))),(1,(.iface V.T V.ov))]) (λ_u=>[cD V r (lH (gy s))]) (λ_u hinv=>?_) (λtl3=>?_));have _:=hinv;refine ac J3 (sr λ_ J4=>P4 ?_);refine FA 9 bg ba ?_;refine LZ 0 dS ba ah ((lH (gy s)).own) ?_ (hc:=by exact λ_=>Je _);refine CZ GN (ma V r (lH (gy s)) ((lH (gy s)).own)) ID λvR=>?_
 refine nx J4 (af (P2 ?_));refine CZ DL (n8 V r (lZ V.toDk (lH (gy s)) ((lH (gy s)).own))) ID λvR=>?_
 exact au (WK [0] (bu rfl rfl));refine sr λ_ J5=>P2 ?_
 refine FA 1940 bg aO ?_;refine LG 0 Y3 (.int .i64 ((gy s).waits)) ?_ (hc:=by exact λa_=>(RepT.at_waits _ rfl));refine PS ?_;refine am ?_ ?_<;>intro h23;refine nx J5 (CY (sr λ_ J6=>P3 ?_));refine FA 1940 bg aO ?_;refine LG 0 Y3 (.int .i64 ((gy s).waits)) ?_ (hc:=by exact λa_=>(RepT.at_waits _ rfl));refine CZ sE (eM V r (gy s) ((gy s).waits) 0 0 hrs) ID λvR=>?_
 refine nx J6 (af (P2 ?_));refine FA 1940 bg aO ?_;refine SK 0 aO (λ_=>cM _) ?_ (hc:=by exact λa_=>(RepT.set_waits _ rfl _));refine au ?_
 exact aE
  SB
  (λ_ q=>by
   rw[xg h23]
   exact ak [0] rfl q)
  (tl3 (():Unit) trivial)
 refine nx J5 (CN (aQ ?_))
 exact aE
  SB
  (λ_ q=>by
   rw[xh h23]
   exact ak [0] rfl q)
  (tl3 (():Unit) trivial)
 refine D0 bf ?_;refine PD 0 ?_;refine PD 1 ?_;refine FD 2 1068 bg sX ?_;refine PD 3 ?_;refine PD 4 ?_;refine FD 5 0 bg aO ?_;refine PD 7 ?_;refine PD 8 ?_;refine FD 9 9 bg ba ?_;refine cJ [6,10] (by kernel_rfl) rfl (aF rfl ?_ ?_);refine LG 0 Y3 (.int .i64 (s.id)) ?_ (hc:=by exact λa_=>(cB _ rfl));refine EN (AL 10 ?_);refine LZ 0 dS ba ah s.own ?_ (hc:=by exact λ_=>Je _);refine EN (AL 11 ?_);refine CE Jx (Leg.Does.hid (λa_=>mu r 1068 123 _ (fH ((MS.setBusy s false).rep a_)) (MS.setBusy s false).book s.id s.own (LK inferInstance))) ID ?_;refine EN (DN ?_)
 exact aE
  SB
  (λ_ s=>ak [0] rfl s)
  (tl2 (():Unit) trivial)
 refine aF rfl ?_ ?_;refine LZ 0 dS ba ah s.own ?_ (hc:=by exact λ_=>Je _);refine EN (AL 6 ?_);refine LG 0 Y3 (.int .i64 (s.id)) ?_ (hc:=by exact λa_=>(cB _ rfl));refine EN (AL 11 ?_);refine CE Jx (Leg.Does.hid (λa_=>mu r 1068 123 _ (fH ((MS.setBusy s false).rep a_)) (MS.setBusy s false).book s.id s.own (LK inferInstance))) ID ?_;refine EN (DN ?_)
 exact aE
  SB
  (λ_ s=>ak [0] rfl s)
  (tl2 (():Unit) trivial)
 exact bD
theorem uF{δ:Type}(V:Env δ)(r:Nat)(s:MS δ)(from':Int)(m:MsgT)[OkR V.toDk s](hrs:s.replies.length≤1000000):
 DT 144 #[(.pointer (some ⟨r,0,none⟩)),(.iface V.T V.ov),(.int .i64 (from')),(.agg (ints m.flat).toArray)] T0 [cD V r s] (dw (λ_ H=>H=[cD V r (dH V.toDk s from' m)])):=by
 refine BD 64 Tryz.func144 rfl rfl rfl λw0 F hF=>?_
 have hid:cH s.id=true:=OkR.id;have hid2:0≤s.id∧s.id<5:=of_decide_eq_true hid;refine sr λ_ J1=>XY (ints m.flat) λb7=>?_
 refine nx J1 (sr λ_ J2=>P2 ?_);refine FA 0 bg aO ?_;refine LG 1 Y3 (.int .i64 (s.id)) ?_ (hc:=by exact λa_=>(cB _ rfl));refine CR Gz (pG s.id hid) ID λvR HR hR=>?_
 obtain⟨_,rfl,rfl⟩:=hR;revert vR;intro uw;refine fY 0 rfl rfl (λhluw _=>fG 0 rfl rfl (by omega) (λgw capw hvw hcapw=>PS ?_));refine nx J2 (aa λ_ J3=>aa λ_ J4=>DC bf (cN 2 rfl rfl) (BL 1) ?_);refine PD 0 ?_;refine PD 1 ?_;refine FD 2 1938 bg kp ?_;refine ta 3 rfl (c8 (v:=(.bool (s.busy))) rfl Y4 rfl rfl (λ_ h=>h.2.1) (λa_=>(w3 _ rfl))) ?_;refine qK ?_ ?_<;>intro h19;refine PD 4 ?_;refine PD 5 ?_;refine FD 6 176 a8 aO ?_;refine LR 7 Y3 (MsgT.at_version m rfl) ?_;refine PD 8 ?_;refine PD 9 ?_;refine FD 10 9 bg ba ?_;refine FD 11 9 dS aO ?_;refine tb 12 rfl (c8 (v:=(.int .i64 (s.own.version))) rfl Y3 rfl rfl (λ_ h=>h.2.1) (λa_=>(RepT.pt_own (s.rep a_) 0 rfl (by decide) (cC _ rfl)))) ?_;refine PD 13 ?_;refine gF ?_ ?_<;>intro h29;refine PD 14 ?_;refine PD 15 ?_;refine NT 16 ?_;refine NT 17 ?_;refine NT 18 ?_;refine NT 19 ?_;refine PD 20 ?_;refine DN (ac J4 (CY (ai (ae (WK [2] (dy rfl ?_))))));have ew:gE s.id=[(s.id+1)%5,(s.id+2)%5]:=by rw[gE,if_pos hid]
 have e:kD s from' m.version=false:=by rw[kD,ew,decide_eq_false h29,gv,lv]
 exact congrArg (λq=>[cD V r q]) (show s=dH V.toDk s from' m by rw[dH,e];rfl);refine PD 14 ?_;refine PD 15 ?_;refine PD 16 ?_;refine PD 17 ?_;refine AL 18 ?_;refine CF IM (p3 uw [(s.id+1)%5,(s.id+2)%5] from' (by decide:2≤1000000)) ID (DV (l:=[(s.id+1)%5,(s.id+2)%5]) 0 rfl rfl) ?_;refine am ?_ ?_<;>intro h34;have hmem:=h34;simp only[ci,List.not_mem_nil,or_false]at hmem;have hfr:0≤from'∧from'<5:=by omega
 refine EN (PD 19 ?_);refine PD 20 ?_;refine DN (ac J4 (CN (qx J3 (aa λ_ J5=>D0 bf ?_))));refine PD 0 ?_;refine PD 1 ?_;refine FD 2 1939 bg aO ?_;refine PD 4 ?_;refine ta 5 rfl (w4 (r:=(cU from')) rfl rfl rfl (by omega) rfl) ?_;refine AL 3 ?_;refine LG 2 Y3 (.int .i64 (s.kept)) ?_ (hc:=by exact λa_=>(qN _ rfl));refine EN (ta 6 rfl (Hy (r:=(ik .i64 s.kept (cU from'))) rfl rfl rfl rfl) ?_);refine PD 7 ?_;refine FD 8 1939 bg aO ?_;refine AL 9 ?_;refine SK 2 aO (λ_=>cM _) ?_ (hc:=by exact λa_=>(MM _ rfl _));refine EN (DN (ac J5 (aa λ_ J6=>sr λ_ J7=>PS ?_)));refine tp (cu rfl jT rfl hluw) ?_;refine PS ?_;refine nx J7 (ap (qS 2 (sr λ_ J8=>PS ?_)));refine nx J8 (aa λ_ J9=>CY (qx J9 (aa λ_ J10=>ap (sr λ_ J11=>tp (bv (r:=0) hvw rfl jT aO rfl rfl (by omega) (by omega) rfl) ?_))));refine tp (cV (v:=(.int .i64 (((s.id+1)%5)))) rfl Y3 rfl rfl (dT 0 rfl hvw rfl) rfl) ?_;refine PS ?_;refine nx J11 (sr λ_ J12=>P2 ?_);refine FA 1939 bg aO ?_;refine LG 2 Y3 (.int .i64 ((ik .i64 s.kept (cU from')))) ?_ (hc:=by exact λa_=>(qN _ rfl));refine PS ?_;refine tp (lm (r:=((ik .i64 s.kept (cU from')).fdiv (2^min (((s.id+1)%5)).toNat IntKind.i64.bits))) rfl rfl rfl (by omega) rfl) ?_;refine tp (tR (r:=(((ik .i64 s.kept (cU from')).fdiv (2^min (((s.id+1)%5)).toNat IntKind.i64.bits))%2)) rfl rfl rfl (mask (k:=1) (by decide) _)) ?_;refine PS ?_;refine am ?_ ?_<;>intro h59
 refine nx J12 (CY (ai (aH (ae (ae (aH (ae (WK [2] (dy rfl ?_)))))))));have ew:gE s.id=[(s.id+1)%5,(s.id+2)%5]:=by rw[gE,if_pos hid]
 have e:kD s from' m.version=true:=by rw[kD,h19,ew,decide_eq_true (show m.version=s.own.version by omega),decide_eq_true h34];rfl
 have e2:vI (iq s from')=false:=by rw[vI,show gE (iq s from').id=[(s.id+1)%5,(s.id+2)%5]from ew];simp only[List.all_cons,List.all_nil,zq,iq, *,decide_true,decide_false,MT,L2,MU,tT,gv,lv]
 exact congrArg (λq=>[cD V r q]) (show(MS.setKept s (ik .i64 s.kept (cU from')))=dH V.toDk s from' m by rw[dH,e,e2];rfl);refine nx J12 (CN (aQ (ag (ac J10 (af (tp (cw (r:=1) rfl rfl rfl (by decide)) ?_))))));refine PS ?_;refine au (ef (sr λ_ J13=>PS ?_));refine nx J13 (aa λ_ J14=>CY (qx J14 (aa λ_ J15=>ap (sr λ_ J16=>tp (bv (r:=1) hvw rfl jT aO rfl rfl (by omega) (by omega) rfl) ?_))));refine tp (cV (v:=(.int .i64 (((s.id+2)%5)))) rfl Y3 rfl rfl (dT 0 rfl hvw rfl) rfl) ?_;refine PS ?_;refine nx J16 (sr λ_ J17=>P2 ?_);refine FA 1939 bg aO ?_;refine LG 2 Y3 (.int .i64 ((ik .i64 s.kept (cU from')))) ?_ (hc:=by exact λa_=>(qN _ rfl));refine PS ?_;refine tp (lm (r:=((ik .i64 s.kept (cU from')).fdiv (2^min (((s.id+2)%5)).toNat IntKind.i64.bits))) rfl rfl rfl (by omega) rfl) ?_;refine tp (tR (r:=(((ik .i64 s.kept (cU from')).fdiv (2^min (((s.id+2)%5)).toNat IntKind.i64.bits))%2)) rfl rfl rfl (mask (k:=1) (by decide) _)) ?_;refine PS ?_;refine am ?_ ?_<;>intro h59;refine nx J17 (CY (ai (aH (ae (ae (aH (ae (WK [2] (dy rfl ?_)))))))));have ew:gE s.id=[(s.id+1)%5,(s.id+2)%5]:=by rw[gE,if_pos hid]
 have e:kD s from' m.version=true:=by rw[kD,h19,ew,decide_eq_true (show m.version=s.own.version by omega),decide_eq_true h34];rfl
 have e2:vI (iq s from')=false:=by rw[vI,show gE (iq s from').id=[(s.id+1)%5,(s.id+2)%5]from ew];simp only[List.all_cons,List.all_nil,zq,iq, *,decide_true,decide_false,MT,L2,MU,tT,gv,lv]
 exact congrArg (λq=>[cD V r q]) (show(MS.setKept s (ik .i64 s.kept (cU from')))=dH V.toDk s from' m by rw[dH,e,e2];rfl);refine nx J17 (CN (aQ (ag (ac J15 (af (tp (cw (r:=2) rfl rfl rfl (by decide)) ?_))))));refine PS ?_;refine au (ef (sr λ_ J18=>PS ?_));refine nx J18 (aa λ_ J19=>CN (aZ (aB (aB (bw (ac J6 (af (P2 ?_))))))));refine CZ KY (wS V r (iq s from') hrs) (SM [2]) λvR=>?_
 refine au (WK [0] (bu rfl ?_));have ew:gE s.id=[(s.id+1)%5,(s.id+2)%5]:=by rw[gE,if_pos hid]
 have e:kD s from' m.version=true:=by rw[kD,h19,ew,decide_eq_true (show m.version=s.own.version by omega),decide_eq_true h34];rfl
 have e2:vI (iq s from')=true:=by rw[vI,show gE (iq s from').id=[(s.id+1)%5,(s.id+2)%5]from ew];simp only[List.all_cons,List.all_nil,zq,iq, *,decide_true,decide_false,MT,L2,MU,tT,gv,lv]
 exact congrArg (λq=>[cD V r q]) (show(ld V.toDk (iq s from'))=dH V.toDk s from' m by rw[dH,e,e2];rfl);refine EN (PD 19 ?_);refine PD 20 ?_;refine DN (ac J4 (CY (ai (ae (WK [2] (dy rfl ?_))))));have ew:gE s.id=[(s.id+1)%5,(s.id+2)%5]:=by rw[gE,if_pos hid]
 have e:kD s from' m.version=false:=by rw[kD,ew,decide_eq_false h34];simp
 exact congrArg (λq=>[cD V r q]) (show s=dH V.toDk s from' m by rw[dH,e];rfl);refine PD 4 ?_;refine PD 5 ?_;refine NT 6 ?_;refine NT 7 ?_;refine NT 8 ?_;refine NT 9 ?_;refine NT 10 ?_;refine NT 11 ?_;refine NT 12 ?_;refine NT 13 ?_;refine PD 14 ?_;refine PD 15 ?_;refine NT 16 ?_;refine NT 17 ?_;refine NT 18 ?_;refine NT 19 ?_;refine PD 20 ?_;refine DN (ac J4 (CY (ai (ae (WK [2] (dy rfl ?_))))));have ew:gE s.id=[(s.id+1)%5,(s.id+2)%5]:=by rw[gE,if_pos hid]
 have e:kD s from' m.version=false:=by rw[kD,ew,h19];simp
 exact congrArg (λq=>[cD V r q]) (show s=dH V.toDk s from' m by rw[dH,e];rfl)
theorem wy{δ:Type}(V:Env δ)(r:Nat)(s:MS δ)(from':Int)(m:MsgT)[OkR V.toDk s][OkMg m](hto:from'≠s.id):
 DT 143 #[(.pointer (some ⟨r,0,none⟩)),(.iface V.T V.ov),(.int .i64 (from')),(.agg (ints m.flat).toArray)] T0 [cD V r s] (dw (λ_ H=>H=[cD V r (iD V.toDk s from' m)])):=by
 refine BD 56 Tryz.func143 rfl rfl rfl λw0 F hF=>sr λ_ J1=>XY (ints m.flat) λb7=>?_
 refine nx J1 (aa λ_ J2=>aa λ_ J3=>D1 0 bf ?_);refine FD 0 1 a8 aO ?_;refine LR 1 Y3 (cg m rfl) ?_;refine PD 2 ?_;refine PD 3 ?_;refine gF ?_ ?_<;>intro h11;refine PD 4 ?_;refine NT 5 ?_;refine NT 6 ?_;refine NT 7 ?_;refine NT 8 ?_;refine NT 9 ?_;refine NT 10 ?_;refine PD 11 ?_;refine DN (ac J3 (CY (ai (ae (WK [1] (dy rfl ?_))))));exact congrArg (λq=>[cD V r q]) (show _=iD V.toDk s from' m from(if_pos (.inl (by omega))).symm);refine PD 4 ?_;refine PD 5 ?_;refine PD 6 ?_;refine FD 7 183 bg oT ?_;refine FD 8 1 a8 aO ?_;refine LR 9 Y3 (cg m rfl) ?_;refine AL 10 ?_;refine CE Kw (Leg.Does.hid (λa_=>pc r 183 123 _ (eP (s.rep a_)) s.mirror m.whose)) (SM [1]) ?_;refine aX ?_ ?_<;>intro h18;refine EN (PD 11 ?_);refine DN (ac J3 (CY (ai (ae (WK [0] (dy rfl ?_))))));exact congrArg (λq=>[cD V r q]) (show _=iD V.toDk s from' m from(if_pos (.inr h18)).symm);refine EN (PD 11 ?_);refine DN (ac J3 (CN (qx J2 (aa λ_ J4=>aa λ_ J5=>D1 1 bf ?_))));refine PD 0 ?_;refine PD 1 ?_;refine FD 2 183 bg oT ?_;refine FD 3 1 a8 aO ?_;refine LR 4 Y3 (cg m rfl) ?_;refine FD 5 2 a8 ba ?_;refine ta 6 rfl (aK (vs:=ints m.row.flat) rfl dS rfl ba rfl (λ_ h=>h.2.1) (ah m.row) (lF m 0 rfl (by decide) (bk (ah m.row)))) ?_;refine AL 7 ?_;refine CE IP (Leg.Does.hid (λa_=>pX r 183 123 _ (eP (s.rep a_)) s.mirror m.whose m.row (LK inferInstance))) ID ?_;refine aX ?_ ?_<;>intro h27;refine EN (DN (ac J5 (CY (aa λ_ J6=>sr λ_ J7=>PS ?_))))
 refine FA 1 a8 aO ?_;refine LU 1 Y3 (cg m rfl) ?_;refine FA 2 a8 ba ?_;refine LV 1 dS ba ah MsgT.sp_row (y:=m.row) ?_;refine tp (kw RecT.zero (RecT.mk 1 m.whose m.row 0 BallotT.zero ChangeT.zero ViewT.zero) [(0,[Value.int .i64 1]),(1,[Value.int .i64 m.whose]),(2,ints m.row.flat)] iy eQ (g:=RecT.sg)) ?_;refine CE vn (kB V r s (jR m.whose m.row)) ID ?_;refine PS ?_;refine am ?_ ?_<;>intro h35;refine nx J7 (CY (ai (ae (ae (WK [0] (dy rfl ?_))))));have hn: ¬(m.whose≠from'∨fP s.mirror m.whose=true):=λh=>h.elim (λh=>by omega) (λh=>by rw[h18]at h;cases h)
 exact MQ (by rw[iD,if_neg hn,if_pos h27,if_pos h35]<;>rfl);refine nx J7 (CN (qx J6 (D1 1 bf ?_)));refine PD 0 ?_;refine PD 1 ?_;refine FD 2 183 bg oT ?_;refine FD 3 1 a8 aO ?_;refine LR 4 Y3 (cg m rfl) ?_;refine FD 5 2 a8 ba ?_;refine ta 6 rfl (aK (vs:=ints m.row.flat) rfl dS rfl ba rfl (λ_ h=>h.2.1) (ah m.row) (lF m 0 rfl (by decide) (bk (ah m.row)))) ?_;refine AL 7 ?_;refine CE I0 (Leg.Does.hid (λa_=>rG r 183 123 _ (eP ((dY V.toDk s (jR m.whose m.row)).rep a_)) (dY V.toDk s (jR m.whose m.row)).mirror m.whose m.row (LK inferInstance))) ID ?_;refine EN (DN (ac J4 (D1 1 bf ?_)));refine PD 0 ?_;refine PD 1 ?_;refine PD 2 ?_;refine PD 3 ?_;refine PD 4 ?_;refine FD 5 183 bg oT ?_;refine FD 6 1 a8 aO ?_;refine LR 7 Y3 (cg m rfl) ?_;refine AL 8 ?_;refine CE H7 (Leg.Does.hid (λa_=>mI r 183 123 _ (eP ((io (dY V.toDk s (jR m.whose m.row)) m.whose m.row).rep a_)) (io (dY V.toDk s (jR m.whose m.row)) m.whose m.row).mirror m.whose)) ID ?_;refine EN (ta 9 rfl (PV.field1 (cs:=ints (ec (io (dY V.toDk s (jR m.whose m.row)) m.whose m.row).mirror m.whose).flat) (v:=Value.int .i64 ((ec (io (dY V.toDk s (jR m.whose m.row)) m.whose m.row).mirror m.whose).version)) rfl dS rfl Y3 rfl rfl (cC _ rfl)) ?_)
 refine ta 10 rfl (kw MsgT.zero (MsgT.mk 1 0 RowT.zero ((ec (io (dY V.toDk s (jR m.whose m.row)) m.whose m.row).mirror m.whose).version) 0 BallotT.zero BallotT.zero ChangeT.zero ViewT.zero) [(0,[Value.int .i64 1]),(3,[Value.int .i64 ((ec (io (dY V.toDk s (jR m.whose m.row)) m.whose m.row).mirror m.whose).version)])] a8 bl (g:=MsgT.sg)) ?_;refine AL 11 ?_;refine CZ iK (iY V r (io (dY V.toDk s (jR m.whose m.row)) m.whose m.row) from' (rH (ec (io (dY V.toDk s (jR m.whose m.row)) m.whose m.row).mirror m.whose).version) hto) ID λvR=>?_
 refine EN (DN (WK [0] (bu rfl ?_)));have hn: ¬(m.whose≠from'∨fP s.mirror m.whose=true):=λh=>h.elim (λh=>by omega) (λh=>by rw[h18]at h;cases h)
 exact MQ (by rw[iD,if_neg hn,if_pos h27,if_neg h35]<;>rfl);refine EN (DN (ac J5 (CN (qx J4 (D1 1 bf ?_)))));refine PD 0 ?_;refine PD 1 ?_;refine PD 2 ?_;refine PD 3 ?_;refine PD 4 ?_;refine FD 5 183 bg oT ?_;refine FD 6 1 a8 aO ?_;refine LR 7 Y3 (cg m rfl) ?_;refine AL 8 ?_;refine CE H7 (Leg.Does.hid (λa_=>mI r 183 123 _ (eP (s.rep a_)) s.mirror m.whose)) ID ?_;refine EN (ta 9 rfl (PV.field1 (cs:=ints (ec s.mirror m.whose).flat) (v:=Value.int .i64 ((ec s.mirror m.whose).version)) rfl dS rfl Y3 rfl rfl (cC _ rfl)) ?_);refine ta 10 rfl (kw MsgT.zero (MsgT.mk 1 0 RowT.zero ((ec s.mirror m.whose).version) 0 BallotT.zero BallotT.zero ChangeT.zero ViewT.zero) [(0,[Value.int .i64 1]),(3,[Value.int .i64 ((ec s.mirror m.whose).version)])] a8 bl (g:=MsgT.sg)) ?_;refine AL 11 ?_;refine CZ iK (iY V r s from' (rH (ec s.mirror m.whose).version) hto) ID λvR=>?_
 refine EN (DN (WK [0] (bu rfl ?_)));have hn: ¬(m.whose≠from'∨fP s.mirror m.whose=true):=λh=>h.elim (λh=>by omega) (λh=>by rw[h18]at h;cases h)
 exact MQ (by rw[iD,if_neg hn,if_neg (by rw[h27];decide)]<;>rfl)
theorem m8{δ:Type}(V:Env δ)(r:Nat)(s:MS δ)(from':Int)(m:MsgT)[OkR V.toDk s][OkMg m]:
 DT 147 #[(.pointer (some ⟨r,0,none⟩)),(.iface V.T V.ov),(.int .i64 (from')),(.agg (ints m.flat).toArray)] T0 [cD V r s] (dw (λ_ H=>H=[cD V r (fM V.toDk s from' m)])):=by
 refine BD 59 Tryz.func147 rfl rfl rfl λw0 F hF=>sr λ_ J1=>XY (ints m.flat) λb7=>?_
 refine nx J1 (aa λ_ J2=>eJ (α:=Unit) (λ_u=>True) (λ_u=>[(0,(.pointer (some ⟨r,0,none⟩))),(1,(.iface V.T V.ov))]) (λ_u=>[cD V r (if from'∈gE m.whose then uB s from' m.whose m.row else s)]) (λ_u hinv=>?_) (λtl2=>?_));have _:=hinv;refine ac J2 (af (P2 ?_));refine CZ DL (n8 V r (if from'∈gE m.whose then uB s from' m.whose m.row else s)) ID λvR=>?_
 exact au (WK [0] (bu rfl rfl));refine sr λ_ J3=>FA 1 a8 aO ?_
 refine LU 0 Y3 (cg m rfl) ?_;refine CR Gz (oI m.whose) ID λvR HR hR=>?_
 obtain⟨_,rfl,rfl⟩:=hR;revert vR;intro uw;refine PS ?_;refine CF IM (p3 uw (gE m.whose) from' (FR m.whose)) ID (DV (l:=(gE m.whose)) 0 rfl rfl) ?_;refine am ?_ ?_<;>intro h12
 have hm:cH m.whose=true:=by
  unfold gE at h12;split at h12
  · assumption
  · cases h12
 have hm2:0≤m.whose∧m.whose<5:=of_decide_eq_true hm;have hta:qa s m.whose=s.told[m.whose.toNat]'(by omega):=by rw[qa,dif_pos hm]
 have hla:mT s m.whose=s.last[m.whose.toNat]'(by omega):=by rw[mT,dif_pos hm]
 have hf:0≤from'∧from'<5:=by
  rw[gE,if_pos hm]at h12;simp only[ci,List.not_mem_nil,or_false]at h12;omega
 refine nx J3 (CY (aa λ_ J4=>eJ (α:=Unit) (λ_u=>True) (λ_u=>[(0,(.pointer (some ⟨r,0,none⟩))),(1,(.iface V.T V.ov)),(2,(.int .i64 (from'))),(7,(.pointer (some ⟨b7,0,none⟩)))]) (λ_u=>[cD V r (k8 s m.whose m.row),aj b7 (ints m.flat) 178]) (λ_u hinv=>?_) (λtl4=>?_)));have _:=hinv;refine ac J4 (D1 1 bf ?_);refine PD 0 ?_;refine FD 1 1 a8 aO ?_;refine LR 2 Y3 (cg m rfl) ?_;refine PD 3 ?_;refine FD 4 1943 bg fO ?_;refine IY 5 (1943+(m.whose).toNat) l6 aO ?_;refine PD 7 ?_;refine ta 8 rfl (w4 (r:=(cU from')) rfl rfl rfl (by omega) rfl) ?_;refine PD 10 ?_;refine FD 11 1943 bg fO ?_;refine AL 6 ?_;refine LG 0 Y3 (.int .i64 ((((k8 s m.whose m.row).told)[(m.whose).toNat]'(by omega)))) ?_ (hc:=by exact λa_=>(M6 ((k8 s m.whose m.row).rep a_) ((m.whose).toNat) (by omega) (by omega) (jU (((k8 s m.whose m.row).rep a_).told) (by omega))));refine EN (ta 9 rfl (Hy (r:=(ik .i64 (s.told[m.whose.toNat]'(by omega)) (cU from'))) rfl rfl rfl rfl) ?_);refine IY 12 (1943+(m.whose).toNat) l6 aO ?_;refine AL 13 ?_;refine SK 0 aO (λ_=>cM _) ?_ (hc:=by exact λa_=>(RepT.st_told ((k8 s m.whose m.row).rep a_) ((m.whose).toNat) (by omega) (by omega) (xj (((k8 s m.whose m.row).rep a_).told) (by omega) _)));refine EN (DN ?_)
 exact aE
  SB
  (λ_ q=>by
   rw[if_pos h12,show uB s from' m.whose m.row= {k8 s m.whose m.row with told:=s.told.set m.whose.toNat (ik .i64 (s.told[m.whose.toNat]'(by omega)) (cU from')) (by omega)}by rw[uB,Ad,dif_pos hm,hta]]
   exact ak [0] rfl q)
  (tl2 (():Unit) trivial)
 refine aa λ_ J5=>DC bf (BL 1) (cN 2 rfl rfl) ?_
 refine PD 0 ?_;refine FD 1 1 a8 aO ?_;refine LR 2 Y3 (cg m rfl) ?_;refine PD 3 ?_;refine FD 4 1943 bg fO ?_;refine IY 5 (1943+(m.whose).toNat) l6 aO ?_;refine ta 6 rfl (c8 (v:=(.int .i64 ((s.told[(m.whose).toNat]'(by omega))))) rfl Y3 rfl rfl (λ_ h=>h.2.2.1) (λa_=>(M6 (s.rep a_) ((m.whose).toNat) (by omega) (by omega) (jU ((s.rep a_).told) (by omega))))) ?_;refine PD 7 ?_;refine gF ?_ ?_<;>intro h20;refine PD 8 ?_;refine NT 9 ?_;refine NT 10 ?_;refine NT 11 ?_;refine NT 12 ?_;refine NT 13 ?_;refine NT 14 ?_;refine NT 15 ?_;refine NT 16 ?_;refine NT 17 ?_;refine NT 18 ?_;refine NT 19 ?_;refine NT 20 ?_;refine PD 21 ?_;refine DN (ac J5 (CY (D1 1 bf ?_)));refine PD 0 ?_;refine FD 1 1 a8 aO ?_;refine LR 2 Y3 (cg m rfl) ?_;refine FD 3 2 a8 ba ?_;refine ta 4 rfl (aK (vs:=ints m.row.flat) rfl dS rfl ba rfl (λ_ h=>h.2.1) (ah m.row) (lF m 0 rfl (by decide) (bk (ah m.row)))) ?_;refine PD 5 ?_;refine FD 6 1948 bg sv ?_;refine IY 7 (1948+((m.whose).toNat)*174) FK ba ?_;refine AL 8 ?_;refine gD (vs:=ints m.row.flat) (i:=2) (ab rfl) rfl rfl rfl rfl rfl (by rw[(ah m.row)];exact ba) (bG _) rfl rfl (λ_=>LC (cM _) (ah _)) (λa_=>(RepT.wr_last_ (s.rep a_) (((m.whose).toNat)*174) (by omega) (by have h1:=(ah m.row);omega) (uy dp ((s.rep a_).last) (i:=(m.whose).toNat) 0 (by omega) (by omega) (by have h1:=(ah m.row);omega) (cz ((ah (((s.rep a_).last)[(m.whose).toNat]'(by omega))).trans (ah m.row).symm))))) (EN (DN ?_))
 exact aE
  SB
  (λ_ q=>by
   rw[show k8 s m.whose m.row= {s with last:=s.last.set m.whose.toNat m.row (by omega)}by rw[k8,if_pos (.inl (hta.trans h20)),Ad,dif_pos hm]]
   exact ak [2,1] rfl q)
  (tl4 (():Unit) trivial)
 refine PD 8 ?_;refine FD 9 2 a8 ba ?_;refine FD 10 2 dS aO ?_;refine LX 11 Y3 (.int .i64 (m.row.version)) ?_ (hc:=by exact MsgT.pt_row m 0 rfl (by decide) (cC m.row rfl));refine PD 12 ?_;refine FD 13 1 a8 aO ?_;refine LR 14 Y3 (cg m rfl) ?_;refine PD 15 ?_;refine FD 16 1948 bg sv ?_;refine IY 17 (1948+((m.whose).toNat)*174) FK ba ?_;refine tb 18 rfl (a9 (r:=1948+((m.whose).toNat)*174) rfl dS rfl aO rfl rfl) ?_;refine tb 19 rfl (c8 (v:=(.int .i64 ((s.last[(m.whose).toNat]'(by omega)).version))) rfl Y3 rfl rfl (λ_ h=>h.2.2.1) (λa_=>(RepT.pt_last (s.rep a_) (((m.whose).toNat)*174) (by omega) (by omega) (od dp ((s.rep a_).last) (i:=(m.whose).toNat) 0 (by omega) (by omega) (by decide) (cC _ rfl))))) ?_;refine PD 20 ?_;refine gF ?_ ?_<;>intro h33;refine PD 21 ?_;refine DN (ac J5 (CY (D1 1 bf ?_)));refine PD 0 ?_;refine FD 1 1 a8 aO ?_;refine LR 2 Y3 (cg m rfl) ?_;refine FD 3 2 a8 ba ?_;refine ta 4 rfl (aK (vs:=ints m.row.flat) rfl dS rfl ba rfl (λ_ h=>h.2.1) (ah m.row) (lF m 0 rfl (by decide) (bk (ah m.row)))) ?_;refine PD 5 ?_;refine FD 6 1948 bg sv ?_;refine IY 7 (1948+((m.whose).toNat)*174) FK ba ?_;refine AL 8 ?_
 refine gD (vs:=ints m.row.flat) (i:=2) (ab rfl) rfl rfl rfl rfl rfl (by rw[(ah m.row)];exact ba) (bG _) rfl rfl (λ_=>LC (cM _) (ah _)) (λa_=>(RepT.wr_last_ (s.rep a_) (((m.whose).toNat)*174) (by omega) (by have h1:=(ah m.row);omega) (uy dp ((s.rep a_).last) (i:=(m.whose).toNat) 0 (by omega) (by omega) (by have h1:=(ah m.row);omega) (cz ((ah (((s.rep a_).last)[(m.whose).toNat]'(by omega))).trans (ah m.row).symm))))) (EN (DN ?_))
 exact aE
  SB
  (λ_ q=>by
   rw[show k8 s m.whose m.row= {s with last:=s.last.set m.whose.toNat m.row (by omega)}by rw[k8,if_pos (.inr (by rw[hla];omega)),Ad,dif_pos hm]]
   exact ak [2,1] rfl q)
  (tl4 (():Unit) trivial)
 refine PD 21 ?_;refine DN (ac J5 (CN (aQ ?_)))
 exact aE
  SB
  (λ_ q=>by
   rw[show k8 s m.whose m.row= {s with last:=s.last}by rw[k8,if_neg (by rw[hta,hla];omega)]]
   exact ak [2,1] rfl q)
  (tl4 (():Unit) trivial)
 refine nx J3 (CN (aQ ?_))
 exact aE
  SB
  (λ_ q=>by
   rw[if_neg h12]
   exact ak [2] rfl q)
  (tl2 (():Unit) trivial)
abbrev TK{δ:Type}(V:Env δ)(r f:Nat)(s:MS δ)(from':Int)(m:MsgT)(s':MS δ):Prop:=Leg.Does Tryz.prog f #[.pointer (some ⟨r,0,none⟩), .iface V.T V.ov, .int .i64 from', .agg (ints m.flat).toArray] (λ_=>True) [cD V r s] (dw (λ_ H=>H=[cD V r s']))
theorem nL{δ:Type}(V:Env δ)(r:Nat)(s s':MS δ)(from':Int)(m:MsgT)[OkMg m](h0:m.kind=0→TK V r 143 s from' m s')(h1:m.kind=1→TK V r 144 s from' m s')(h2:m.kind=2→D7 s m.whose m.row=s')(h7:m.kind=7→DT 145 #[.pointer (some ⟨r,0,none⟩), .iface V.T V.ov, .agg (ints m.view.flat).toArray] T0 [cD V r s] (dw (λv H=>(∃b,v= .bool b)∧H=[cD V r s'])))(h8:m.kind=8→TK V r 146 s from' m s')(h9:m.kind=9→TK V r 147 s from' m s')(hv:m.kind=3∨m.kind=4∨m.kind=5∨m.kind=6→TK V r 148 s from' m s')(hn:m.kind≠0∧m.kind≠1∧m.kind≠2∧m.kind≠7∧m.kind≠8∧m.kind≠9∧m.kind≠3∧m.kind≠4∧m.kind≠5∧m.kind≠6→s=s'):
 DT 105 #[(.pointer (some ⟨r,0,none⟩)),(.iface V.T V.ov),(.int .i64 (from')),(.agg (ints m.flat).toArray)] T0 [cD V r s] (dw (λ_ H=>H=[cD V r s'])):=by
 refine BD 65 Tryz.func105 rfl rfl rfl λw0 F hF=>sr λ_ J1=>XY (ints m.flat) λb7=>?_
 refine nx J1 (sr λ_ J2=>FA 0 a8 aO ?_);refine LU 0 Y3 (eG m rfl) ?_;refine nx J2 (ap (sr λ_ J3=>PS ?_));refine am ?_ ?_<;>intro h11;refine PS ?_;refine nx J3 (CY (af (P3 ?_)));refine LW 0 a8 bX aG ?_;refine CZ Lc ((h0 h11)) (SM [1]) λvR=>?_
 exact au (ag (WK [0] (bu rfl rfl)));refine PS ?_;refine nx J3 (CN (sr λ_ J4=>PS ?_));refine am ?_ ?_<;>intro h18;refine PS ?_;refine nx J4 (CY (af (P3 ?_)));refine LW 0 a8 bX aG ?_;refine CZ Lb ((h1 h18)) (SM [1]) λvR=>?_
 exact au (ag (WK [0] (bu rfl rfl)));refine PS ?_;refine nx J4 (CN (sr λ_ J5=>PS ?_));refine am ?_ ?_<;>intro h25;refine PS ?_;refine nx J5 (CY (D1 0 bf ?_));refine PD 0 ?_;refine PD 1 ?_;refine FD 2 1068 bg sX ?_;refine FD 3 1 a8 aO ?_;refine LR 4 Y3 (cg m rfl) ?_;refine FD 5 2 a8 ba ?_;refine ta 6 rfl (aK (vs:=ints m.row.flat) rfl dS rfl ba rfl (λ_ h=>h.2.1) (ah m.row) (lF m 0 rfl (by decide) (bk (ah m.row)))) ?_;refine AL 7 ?_;refine CE Jx (Leg.Does.hid (λa_=>mu r 1068 123 _ (fH (s.rep a_)) s.book m.whose m.row (LK inferInstance))) (SM [1]) ?_;refine EN (DN (ag (WK [0] (bu rfl ?_))));exact congrArg (λq=>[cD V r q]) (h2 h25);refine PS ?_;refine nx J5 (CN (sr λ_ J6=>PS ?_));refine am ?_ ?_<;>intro h35;refine PS ?_;refine nx J6 (CY (af (P2 ?_)));refine FA 185 a8 be ?_;refine LV 0 eL be ao MsgT.sp_view (y:=m.view) ?_;refine CR GE ((h7 h35)) (SM [1]) λvR HR hR=>?_
 obtain⟨_,rfl⟩:=hR;exact au (ag (WK [0] (bu rfl rfl)));refine PS ?_;refine nx J6 (CN (sr λ_ J7=>PS ?_));refine am ?_ ?_<;>intro h42;refine PS ?_;refine nx J7 (CY (af (P3 ?_)));refine LW 0 a8 bX aG ?_;refine CZ La ((h8 h42)) (SM [1]) λvR=>?_
 exact au (ag (WK [0] (bu rfl rfl)));refine PS ?_;refine nx J7 (CN (sr λ_ J8=>PS ?_));refine am ?_ ?_<;>intro h49;refine PS ?_;refine nx J8 (CY (af (P3 ?_)));refine LW 0 a8 bX aG ?_;refine CZ K9 ((h9 h49)) (SM [1]) λvR=>?_
 exact au (ag (WK [0] (bu rfl rfl)));refine PS ?_;refine nx J8 (CN (aa λ_ J9=>sr λ_ J10=>P2 ?_));refine am ?_ ?_<;>intro h55;refine nx J10 (CY (qx J9 (CY (af (P3 ?_)))));refine LW 0 a8 bX aG ?_;refine CZ DH ((hv (by omega))) (SM [1]) λvR=>?_
 exact au (ag (WK [0] (bu rfl rfl)));refine nx J10 (CN (sr λ_ J11=>P2 ?_));refine am ?_ ?_<;>intro h55;refine nx J11 (CY (qx J9 (CY (af (P3 ?_)))));refine LW 0 a8 bX aG ?_;refine CZ DH ((hv (by omega))) (SM [1]) λvR=>?_
 exact au (ag (WK [0] (bu rfl rfl)));refine nx J11 (CN (sr λ_ J12=>P2 ?_));refine am ?_ ?_<;>intro h55;refine nx J12 (CY (qx J9 (CY (af (P3 ?_)))));refine LW 0 a8 bX aG ?_;refine CZ DH ((hv (by omega))) (SM [1]) λvR=>?_
 exact au (ag (WK [0] (bu rfl rfl)));refine nx J12 (CN (af (PS ?_)));refine am ?_ ?_<;>intro h59;refine PS ?_;refine nx J9 (CY (af (P3 ?_)));refine LW 0 a8 bX aG ?_;refine CZ DH ((hv (by omega))) (SM [1]) λvR=>?_
 exact au (ag (WK [0] (bu rfl rfl)));refine PS ?_;refine nx J9 (CN (aQ (ag (WK [1] (bu rfl ?_)))));exact congrArg (λq=>[cD V r q]) (hn ⟨h11,h18,h25,h35,h42,h49,by omega,by omega,by omega,by omega⟩)
theorem BS{δ:Type}{V:Env δ}{r:Nat}{s s':MS δ}{from':Int}{m:MsgT}[OkMg m](hk:m.kind=9)(h:TK V r 147 s from' m s'):TK V r 105 s from' m s':=nL V r s s' from' m (λe=>by omega) (λe=>by omega) (λe=>by omega) (λe=>by omega) (λe=>by omega) (λ_=>h) (λe=>by omega) (λe=>by omega)
theorem BU{δ:Type}{V:Env δ}{r:Nat}{s s':MS δ}{from':Int}{m:MsgT}[OkMg m](hk:m.kind=8)(h:TK V r 146 s from' m s'):TK V r 105 s from' m s':=nL V r s s' from' m (λe=>by omega) (λe=>by omega) (λe=>by omega) (λe=>by omega) (λ_=>h) (λe=>by omega) (λe=>by omega) (λe=>by omega)
theorem nK{δ:Type}{V:Env δ}{r:Nat}{s s':MS δ}{from':Int}{m:MsgT}[OkMg m](hk:m.kind=3∨m.kind=4∨m.kind=5∨m.kind=6)(h:TK V r 148 s from' m s'):TK V r 105 s from' m s':=nL V r s s' from' m (λe=>by omega) (λe=>by omega) (λe=>by omega) (λe=>by omega) (λe=>by omega) (λe=>by omega) (λ_=>h) (λe=>by omega)
theorem uU{δ:Type}(V:Env δ)(r:Nat)(s:MS δ)(w:Int)(y:RowT)[OkR V.toDk s][OkRow y]:TK V r 105 s s.id (gJ w y) (fM V.toDk s s.id (gJ w y)):=BS rfl (m8 V r s s.id (gJ w y))
theorem oS{δ:Type}(V:Env δ)(r:Nat)(s:MS δ)(s':MS δ)(from':Int)(m:MsgT)[OkR V.toDk s'][OkMg m](hl:DT 145 #[.pointer (some ⟨r,0,none⟩), .iface V.T V.ov, .agg (ints m.view.flat).toArray] T0 [cD V r s] (dw (λv H=>(∃b,v= .bool b)∧H=[cD V r s']))):
 DT 146 #[(.pointer (some ⟨r,0,none⟩)),(.iface V.T V.ov),(.int .i64 (from')),(.agg (ints m.flat).toArray)] T0 [cD V r s] (dw (λ_ H=>H=[cD V r (fj V.toDk s' from' m.whose)])):=by
 refine BD 64 Tryz.func146 rfl rfl rfl λw0 F hF=>sr λ_ J1=>XY (ints m.flat) λb7=>?_
 refine nx J1 (sr λ_ J2=>P2 ?_);refine FA 185 a8 be ?_;refine LV 0 eL be ao MsgT.sp_view (y:=m.view) ?_;refine CR GE (hl) (SM [1]) λvR HR hR=>?_
 obtain⟨_,rfl⟩:=hR;refine nx J2 (aa λ_ J3=>aa λ_ J4=>DC bf (cN 0 rfl rfl) (BL 1) ?_);refine PD 0 ?_;refine PD 1 ?_;refine FD 2 2 bg be ?_;refine ta 3 rfl (fI (vs:=ints s'.view.flat) rfl eL rfl be rfl (λ_ h=>h.2.1) (ao s'.view) (λa_=>(fD (s'.rep a_) 0 rfl (by decide) (bk (ao ((s'.rep a_).view)))))) ?_;refine FD 4 1 a8 aO ?_;refine LR 5 Y3 (cg m rfl) ?_;refine AL 6 ?_;refine CE Jy (sK s'.view m.whose OkVw.rng) ID ?_;refine EN (PD 7 ?_);refine PD 8 ?_;refine PD 9 ?_;refine qK ?_ ?_<;>intro h24;refine PD 10 ?_;refine PD 11 ?_;refine DN (ac J4 (sr λ_ J5=>PS ?_));refine PS ?_;refine P4 ?_;refine am ?_ ?_<;>intro h30;refine PS ?_;refine nx J5 (CY (ai (ae (WK [0] (dy rfl ?_)))));exact MQ (by rw[fj,if_pos (λh=>h30 (by rw[h];rfl))]);refine PS ?_;refine nx J5 (CN (qx J3 (aa λ_ J6=>aa λ_ J7=>D1 1 bf ?_)));refine PD 0 ?_;refine PD 1 ?_;refine FD 2 183 bg oT ?_;refine FD 3 1 a8 aO ?_;refine LR 4 Y3 (cg m rfl) ?_;refine AL 5 ?_;refine CE Kw (Leg.Does.hid (λa_=>pc r 183 123 _ (eP (s'.rep a_)) s'.mirror m.whose)) ID ?_;refine aX ?_ ?_<;>intro h37;refine EN (PD 6 ?_);refine DN (ac J7 (CN (qx J6 (D1 1 bf ?_))));refine PD 0 ?_;refine PD 1 ?_;refine PD 2 ?_;refine FD 3 1 a8 aO ?_;refine LR 4 Y3 (cg m rfl) ?_;refine PD 5 ?_;refine PD 6 ?_;refine FD 7 183 bg oT ?_;refine FD 8 1 a8 aO ?_;refine LR 9 Y3 (cg m rfl) ?_;refine AL 10 ?_;refine CE H7 (Leg.Does.hid (λa_=>mI r 183 123 _ (eP (s'.rep a_)) s'.mirror m.whose)) ID ?_
 refine EN (ta 11 rfl (kw MsgT.zero (MsgT.mk 9 m.whose (ec s'.mirror m.whose) 0 0 BallotT.zero BallotT.zero ChangeT.zero ViewT.zero) [(0,[Value.int .i64 9]),(1,[Value.int .i64 m.whose]),(2,ints (ec s'.mirror m.whose).flat)] a8 bl (g:=MsgT.sg)) ?_);refine AL 12 ?_;refine CZ iK (fS V r s' from' (gJ m.whose (ec s'.mirror m.whose)) (λs=>fM V.toDk s s.id (gJ m.whose (ec s.mirror m.whose))) (λ_=>uU V r s' m.whose _)) ID λvR=>?_
 refine EN (DN (WK [0] (bu rfl ?_)));exact MQ (by rw[fj,if_neg (λh=>h (sJ h24 (by omega))),if_pos h37]);refine EN (PD 6 ?_);refine DN (ac J7 (CY (aa λ_ J8=>sr λ_ J9=>PS ?_)));refine FA 1 a8 aO ?_;refine LU 1 Y3 (cg m rfl) ?_;refine tp (kw RecT.zero (RecT.mk 2 m.whose RowT.zero 0 BallotT.zero ChangeT.zero ViewT.zero) [(0,[Value.int .i64 2]),(1,[Value.int .i64 m.whose])] iy eQ (g:=RecT.sg)) ?_;refine CE vn (kB V r s' (iX m.whose)) ID ?_;refine PS ?_;refine am ?_ ?_<;>intro h44;refine nx J9 (CY (ai (ae (ae (WK [0] (dy rfl ?_))))));exact MQ (by rw[fj,if_neg (λh=>h (sJ h24 (by omega))),if_neg (by rw[h37];decide),if_pos h44]);refine nx J9 (CN (qx J8 (D1 1 bf ?_)));refine PD 0 ?_;refine PD 1 ?_;refine FD 2 183 bg oT ?_;refine FD 3 1 a8 aO ?_;refine LR 4 Y3 (cg m rfl) ?_;refine AL 5 ?_;refine CE IZ (Leg.Does.hid (λa_=>rF r 183 123 _ (eP ((dY V.toDk s' (iX m.whose)).rep a_)) (dY V.toDk s' (iX m.whose)).mirror m.whose)) ID ?_;refine EN (DN (ac J6 (D1 1 bf ?_)));refine PD 0 ?_;refine PD 1 ?_;refine PD 2 ?_;refine FD 3 1 a8 aO ?_;refine LR 4 Y3 (cg m rfl) ?_;refine PD 5 ?_;refine PD 6 ?_;refine FD 7 183 bg oT ?_;refine FD 8 1 a8 aO ?_;refine LR 9 Y3 (cg m rfl) ?_;refine AL 10 ?_;refine CE H7 (Leg.Does.hid (λa_=>mI r 183 123 _ (eP ((ly (dY V.toDk s' (iX m.whose)) m.whose).rep a_)) (ly (dY V.toDk s' (iX m.whose)) m.whose).mirror m.whose)) ID ?_
 refine EN (ta 11 rfl (kw MsgT.zero (MsgT.mk 9 m.whose (ec (ly (dY V.toDk s' (iX m.whose)) m.whose).mirror m.whose) 0 0 BallotT.zero BallotT.zero ChangeT.zero ViewT.zero) [(0,[Value.int .i64 9]),(1,[Value.int .i64 m.whose]),(2,ints (ec (ly (dY V.toDk s' (iX m.whose)) m.whose).mirror m.whose).flat)] a8 bl (g:=MsgT.sg)) ?_);refine AL 12 ?_;refine CZ iK (fS V r (ly (dY V.toDk s' (iX m.whose)) m.whose) from' (gJ m.whose (ec (ly (dY V.toDk s' (iX m.whose)) m.whose).mirror m.whose)) (λs=>fM V.toDk s s.id (gJ m.whose (ec s.mirror m.whose))) (λ_=>uU V r (ly (dY V.toDk s' (iX m.whose)) m.whose) m.whose _)) ID λvR=>?_
 refine EN (DN (WK [0] (bu rfl ?_)));exact MQ (by rw[fj,if_neg (λh=>h (sJ h24 (by omega))),if_neg (by rw[h37];decide),if_neg h44]);refine PD 10 ?_;refine PD 11 ?_;refine DN (ac J4 (sr λ_ J10=>PS ?_));refine PS ?_;refine PS ?_
 iterate 3 refine UT ?_
 refine PS ?_;refine nx J10 (CY (ai (ae (WK [0] (dy rfl ?_)))));exact MQ (by rw[fj,if_pos (λh=>by rw[h]at h24;cases h24)])
section
variable {δ:Type} {V:Env δ} {r:Nat} {s:MS δ} {H:List HP} {h:Hl}
theorem DM(q:bH (cD V r s::H) h): ∃vo,bH (uh V r s vo::H) h:=by
 obtain⟨a,q1⟩:=ff q;exact⟨a.vo,bi (p:=λa':Nat×Value=>[aj r (RepT.cells (s.rep ⟨a'.1,a.vo,a'.2⟩)) 123,V.lg a'.1 s.e,own a'.2 s.replies.length (ints (s.replies.flatMap ReplyT.flat)) 37 3,V.E s.e s.o]) (a.lg,a.rs) (Ga (az [3,0,0,0,0] rfl q1))⟩
theorem AB(q:bH (uh V r s (.pointer none)::H) h):bH (cD V r {s with vote:=none}::H) h:=by
 obtain⟨a,q1⟩:=ff q;have q2:bH (Df (.pointer none) none::([aj r (RepT.cells (s.rep ⟨a.1, .pointer none,a.2⟩)) 123,V.lg a.1 s.e,own a.2 s.replies.length (ints (s.replies.flatMap ReplyT.flat)) 37 3,V.E s.e s.o]++H)) h:=⟨em,h,Bu h,(p2 h).symm,rfl,q1⟩;exact bi (p:=λa:Adr=>[aj r (RepT.cells ({s with vote:=none}.rep a)) 123,V.lg a.lg {s with vote:=none}.e,own a.rs {s with vote:=none}.replies.length (ints ({s with vote:=none}.replies.flatMap ReplyT.flat)) 37 3,Df a.vo {s with vote:=none}.vote,V.E {s with vote:=none}.e {s with vote:=none}.o]) ⟨a.1, .pointer none,a.2⟩ (az [1,1,1,0,0] rfl q2)
theorem rE(hv:s.vote=none)(q:bH (cD V r s::H) h):bH (uh V r s (.pointer none)::H) h:=by
 obtain⟨a,q1⟩:=ff q;have q2:=az [3,0,0,0,0] rfl q1;obtain⟨h1,h2,d,rfl,e,q3⟩:=q2;rw[hv]at e;have e':a.vo= .pointer none:=e;obtain⟨lg,vo,rs⟩:=a;obtain rfl:=e';rw[mJ d];exact kT _ (bi (p:=λa':Nat×Value=>[aj r (RepT.cells (s.rep ⟨a'.1, .pointer none,a'.2⟩)) 123,V.lg a'.1 s.e,own a'.2 s.replies.length (ints (s.replies.flatMap ReplyT.flat)) 37 3,V.E s.e s.o]) (lg,rs) q3) d.symm
theorem mm{vt:VoteT}(hv:s.vote=some vt)(q:bH (cD V r s::H) h): ∃vb,bH (uh V r s (.pointer (some ⟨vb,0,none⟩))::aj vb (VoteT.cells vt) 227::H) h:=by
 obtain⟨a,q1⟩:=ff q;have q2:=az [3,0,0,0,0] rfl q1;obtain⟨h1,h2,d,rfl,e,q3⟩:=q2;rw[hv]at e;obtain⟨vb,e',e⟩:=e;obtain⟨lg,vo,rs⟩:=a;have e2:vo= .pointer (some ⟨vb,0,none⟩):=e';obtain rfl:=e2;refine⟨vb,dX (List.Perm.swap _ _ _) ?_⟩;exact⟨h1,h2,d,rfl,e,bi (p:=λa':Nat×Value=>[aj r (RepT.cells (s.rep ⟨a'.1, .pointer (some ⟨vb,0,none⟩),a'.2⟩)) 123,V.lg a'.1 s.e,own a'.2 s.replies.length (ints (s.replies.flatMap ReplyT.flat)) 37 3,V.E s.e s.o]) (lg,rs) q3⟩
theorem nl{vt:VoteT}{vb:Nat}(q:bH (uh V r s (.pointer (some ⟨vb,0,none⟩))::aj vb (VoteT.cells vt) 227::H) h):bH (cD V r {s with vote:=some vt}::H) h:=by
 obtain⟨a,q1⟩:=ff q;have q2:bH ([aj r (RepT.cells (s.rep ⟨a.1, .pointer (some ⟨vb,0,none⟩),a.2⟩)) 123,V.lg a.1 s.e,own a.2 s.replies.length (ints (s.replies.flatMap ReplyT.flat)) 37 3,V.E s.e s.o]++(Df (.pointer (some ⟨vb,0,none⟩)) (some vt)::H)) h:=Ew (λ_ e=>⟨vb,rfl,e⟩) q1;exact bi (p:=λa:Adr=>[aj r (RepT.cells ({s with vote:=some vt}.rep a)) 123,V.lg a.lg {s with vote:=some vt}.e,own a.rs {s with vote:=some vt}.replies.length (ints ({s with vote:=some vt}.replies.flatMap ReplyT.flat)) 37 3,Df a.vo {s with vote:=some vt}.vote,V.E {s with vote:=some vt}.e {s with vote:=some vt}.o]) ⟨a.1, .pointer (some ⟨vb,0,none⟩),a.2⟩ (az [0,0,0,1,0] rfl q2)
theorem np{vt:VoteT}{vb:Nat}(hv:s.vote=some vt)(q:bH (uh V r s (.pointer (some ⟨vb,0,none⟩))::aj vb (VoteT.cells vt) 227::H) h):bH (cD V r s::H) h:=by
 have q2:=nl q
 rwa [show({s with vote:=some vt}:MS δ)=s by cases s;simp_all]at q2
end
theorem AX{δ:Type}(V:Env δ)(r:Nat)(s:MS δ)(v:ViewT):
 DT 93 #[(.pointer (some ⟨r,0,none⟩)),(.agg (ints v.flat).toArray)] T0 [cD V r s] (dw (λ_ H=>H=[cD V r (mo s v)])):=by
 refine BD 20 Tryz.func93 rfl rfl rfl λw0 F hF=>sr λ_ J1=>XY (ints v.flat) λb3=>?_
 refine nx J1 (sr λ_ J2=>PS ?_);refine LW 0 eL be ao ?_;refine PS ?_;refine FA 2 bg be ?_;refine gD (vs:=ints v.flat) (i:=1) (ab rfl) rfl rfl rfl rfl rfl (by rw[(ao v)];exact be) (bG _) rfl rfl (λ_=>LC (cM _) (ao _)) (λa_=>(MK (s.rep a_) 0 rfl (by have h1:=(ao v);omega) (cz ((ao ((s.rep a_).view)).trans (ao v).symm)))) (nx J2 (sr λ_ J3=>PS ?_));refine FA 0 eL aO ?_;refine LU 0 Y3 (bc v rfl) ?_;refine tp (kw AccT.zero (AccT.mk v.epoch BallotT.zero BallotT.zero ChangeT.zero) [(0,[Value.int .i64 v.epoch])] iw nF (g:=AccT.sg)) ?_;refine PS ?_;refine FA 1058 bg dq ?_;refine gD (vs:=ints (AccT.mk v.epoch BallotT.zero BallotT.zero ChangeT.zero).flat) (i:=1) (ab rfl) rfl rfl rfl rfl rfl (by rw[(aW (AccT.mk v.epoch BallotT.zero BallotT.zero ChangeT.zero))];exact dq) (bG _) rfl rfl (λ_=>LC (cM _) (aW _)) (λa_=>(jZ ((MS.setView s v).rep a_) 0 rfl (by have h1:=(aW (AccT.mk v.epoch BallotT.zero BallotT.zero ChangeT.zero));omega) (cz ((aW (((MS.setView s v).rep a_).acc)).trans (aW (AccT.mk v.epoch BallotT.zero BallotT.zero ChangeT.zero)).symm)))) (nx J3 (sr λ_ J4=>cp (λ_ q=>az [1] rfl q) (Bq (H':=λvo:Value=>uh V r (MS.setAcc (MS.setView s v) (AccT.mk v.epoch BallotT.zero BallotT.zero ChangeT.zero)) vo::[aj b3 (ints v.flat) 44]) (λ_ q=>DM q) (λvo=>P2 ?_))));refine FA 1067 bg iF ?_;refine SK 0 iF (λ_=>cM _) ?_ (hc:=by exact λa_=>(ML _ rfl _))
 refine nx J4 (af (cp (H':=cD V r {{s with view:=v}with acc:= {AccT.zero with epoch:=v.epoch},vote:=none}::[aj b3 (ints v.flat) 44]) (λ_ q=>AB (az [0] rfl q)) (P2 ?_)));refine FA 1066 bg aO ?_;refine SK 0 aO (λ_=>cM _) ?_ (hc:=by exact λa_=>(ll _ rfl _));exact au (WK [0] (bu rfl rfl))
theorem tl{δ:Type}(V:Env δ)(r:Nat)(s:MS δ)(v:ViewT)[OkR V.toDk s][OkVw v](hcl: ¬v.epoch≤s.view.epoch→DT 108 #[.pointer (some ⟨r,0,none⟩), .iface V.T V.ov] T0 [cD V r (mo (dY V.toDk s (kG v)) v)] (dw (λ_ H=>H=[cD V r (qE V.toDk (mo (dY V.toDk s (kG v)) v))]))):
 DT 145 #[(.pointer (some ⟨r,0,none⟩)),(.iface V.T V.ov),(.agg (ints v.flat).toArray)] T0 [cD V r s] (RI (.bool (pL V.toDk s v)) [cD V r (gW V.toDk s v)]):=by
 refine BD 28 Tryz.func145 rfl rfl rfl λw0 F hF=>sr λ_ J1=>XY (ints v.flat) λb5=>?_
 refine PS ?_;refine nx J1 (aa λ_ J2=>aa λ_ J3=>DC bf (BL 0) (cN 1 rfl rfl) ?_);refine FD 0 0 eL aO ?_;refine LR 1 Y3 (bc v rfl) ?_;refine PD 2 ?_;refine PD 3 ?_;refine FD 4 2 bg be ?_;refine FD 5 2 eL aO ?_;refine ta 6 rfl (c8 (v:=(.int .i64 (s.view.epoch))) rfl Y3 rfl rfl (λ_ h=>h.2.2.1) (λa_=>(cd (s.rep a_) 0 rfl (by decide) (bc _ rfl)))) ?_;refine PD 7 ?_;refine gF ?_ ?_<;>intro h14;refine PD 8 ?_;refine NT 9 ?_;refine NT 10 ?_;refine NT 11 ?_;refine NT 12 ?_;refine NT 13 ?_;refine PD 14 ?_;refine DN (ac J3 (CY (sr λ_ J4=>PS ?_)));refine nx J4 (ai (ae (WK [1] (aq rfl rfl ?_))));have e:gW V.toDk s v=s:=by rw[gW,if_pos h14]
 exact⟨by rw[pL,decide_eq_false (by omega),gv],congrArg (λq=>[cD V r q]) e.symm⟩;refine PD 8 ?_;refine PD 9 ?_;refine LY 10 eL be ao ?_;refine tb 11 rfl (kw RecT.zero (RecT.mk 5 0 RowT.zero 0 BallotT.zero ChangeT.zero v) [(0,[Value.int .i64 5]),(6,ints v.flat)] iy eQ (g:=RecT.sg)) ?_;refine AL 12 ?_;refine CE vn (kB V r s (kG v)) (SM [1]) ?_;refine EN (PD 13 ?_);refine gF ?_ ?_<;>intro h20;refine PD 14 ?_;refine DN (ac J3 (CY (sr λ_ J5=>PS ?_)));refine nx J5 (ai (ae (WK [0] (aq rfl rfl ?_))));have e:gW V.toDk s v=(dY V.toDk s (kG v)):=by rw[gW,if_neg h14,if_pos h20]
 exact⟨by rw[pL,decide_eq_true (by omega),decide_eq_false h20,tT],congrArg (λq=>[cD V r q]) e.symm⟩;refine PD 14 ?_;refine DN (ac J3 (CN (qx J2 (sr λ_ J6=>PS ?_))));refine LW 1 eL be ao ?_;refine CZ Js (AX V r (dY V.toDk s (kG v)) v) ID λvR=>?_
 refine nx J6 (sr λ_ J7=>P2 ?_);refine CZ GP ((hcl (by omega))) ID λvR=>?_
 refine nx J7 (sr λ_ J8=>PS ?_);refine nx J8 (ai (WK [0] (aq rfl rfl ?_)));have e:gW V.toDk s v=(qE V.toDk (mo (dY V.toDk s (kG v)) v)):=by rw[gW,if_neg h14,if_neg h20]
 exact⟨by rw[pL,decide_eq_true (by omega),decide_eq_true (by omega),tT],congrArg (λq=>[cD V r q]) e.symm⟩
theorem AI{δ:Type}(V:Env δ)(r:Nat)(s:MS δ)(v:ViewT)[OkR V.toDk s][OkVw v](h:v.epoch≤s.view.epoch):DT 145 #[.pointer (some ⟨r,0,none⟩), .iface V.T V.ov, .agg (ints v.flat).toArray] T0 [cD V r s] (dw (λq H=>(∃b,q= .bool b)∧H=[cD V r s])):=
 (tl V r s v (λq=>absurd h q)).mono λe H hp=>by
  cases e with
  |returned q=>exact⟨⟨_,hp.1⟩,hp.2.trans (by rw[gW,if_pos h])⟩
  |panicked c=>exact hp.elim
  |outgrown=>exact hp.elim
theorem uV{δ:Type}(V:Env δ)(r:Nat)(s:MS δ)(i:Int)[OkR V.toDk s]:TK V r 105 s s.id (nP i s.view) (fj V.toDk s s.id i):=BU rfl (oS V r s s s.id (nP i s.view) (AI V r s s.view (Int.le_refl _)))
theorem po{δ:Type}(V:Env δ)(r:Nat)(s:MS δ)[OkR V.toDk s]:
 DT 108 #[(.pointer (some ⟨r,0,none⟩)),(.iface V.T V.ov)] T0 [cD V r s] (dw (λ_ H=>H=[cD V r (qE V.toDk s)])):=by
 refine BD 39 Tryz.func108 rfl rfl rfl λw0 F hF=>sr λ_ J1=>PS ?_
 refine CR IU (xV V r s) ID λvR HR hR=>?_
 obtain⟨_,rfl,rfl⟩:=hR;revert vR;intro ud;refine fY 0 rfl rfl (λhlud houd=>tp (cu rfl jT rfl hlud) ?_);refine PS ?_;refine nx J1 (ap ?_)
 refine bB (α:=(Nat)) (λk=>k≤(bz s).length) (λk=>[(0,(.pointer (some ⟨r,0,none⟩))),(1,(.iface V.T V.ov)),(9,ud),(10,(.int .i64 ((((bz s).length:Nat):Int)))),(11,(.int .i64 (((k:Nat):Int))))]) (λk=>[own ud ((bz s).length) (ints (bz s)) 3 1,cD V r (fL V.toDk ((bz s).take k) s)]) (λk=>(bz s).length-k) 0
  (aN _) SB
  (λ_ s=>s) (λk hinv=>?_)
 obtain hk:=hinv;have hcl:OkR V.toDk (fL V.toDk ((bz s).take k) s):=sP _ _ inferInstance;refine sr λ_ J2=>PS ?_
 refine am ?_ ?_<;>intro h12;refine nx J2 (aa λ_ J3=>CY (qx J3 (aa λ_ J4=>ap (sr λ_ J5=>?_))));have hmm1:(bz s).getD k 0∈bz s:=by rw[List.getD_eq_getElem?_getD,List.getElem?_eq_getElem (by omega)];exact bZ _
 have hm1:cH ((bz s).getD k 0)=true:=(vQ hmm1).1;have hn1:0≤(bz s).getD k 0∧(bz s).getD k 0<5:=of_decide_eq_true hm1;refine fG 0 rfl rfl (by omega) (λge1 ce1 he1 _=>tp (bv (r:=k) he1 rfl jT aO rfl rfl (by omega) (by omega) (by omega)) ?_);refine tp (cV (v:=(.int .i64 (((bz s).getD k 0)))) rfl Y3 rfl rfl (dT 0 rfl he1 rfl) (vF (by omega))) ?_;refine PS ?_;refine nx J5 (sr λ_ J6=>PS ?_);refine CR Gz (pG ((bz s).getD k 0) hm1) ID λvR HR hR=>?_
 obtain⟨_,rfl,rfl⟩:=hR;revert vR;intro uw;refine fY 0 rfl rfl (λhluw _=>fG 0 rfl rfl (by omega) (λgw capw hvw hcapw=>tp (cu rfl jT rfl hluw) ?_));refine PS ?_;refine nx J6 (ap (qS 2 (sr λ_ J7=>PS ?_)));refine nx J7 (aa λ_ J8=>CY (qx J8 (aa λ_ J9=>eJ (α:=Unit) (λ_u=>True) (λ_u=>[(0,(.pointer (some ⟨r,0,none⟩))),(1,(.iface V.T V.ov)),(5,(.int .i64 (((bz s).getD k 0)))),(9,ud),(10,(.int .i64 ((((bz s).length:Nat):Int)))),(11,(.int .i64 (((k:Nat):Int)))),(16,uw),(17,(.int .i64 2)),(18,(.int .i64 0)),(19,(.bool true))]) (λ_u=>[cD V r (gQ V.toDk (fL V.toDk ((bz s).take k) s) ((bz s).getD k 0) ((((bz s).getD k 0)+1)%5)),own uw (2) ([.int .i64 ((((bz s).getD k 0)+1)%5), .int .i64 ((((bz s).getD k 0)+2)%5)]) 3 1,own ud ((bz s).length) (ints (bz s)) 3 1]) (λ_u hinv=>?_) (λtl9=>?_))));have _:=hinv;refine ac J9 (af (tp (cw (r:=1) rfl rfl rfl (by decide)) ?_));refine PS ?_;refine au (ef (sr λ_ J10=>PS ?_))
 refine nx J10 (aa λ_ J11=>CY (qx J11 (aa λ_ J12=>eJ (α:=Unit) (λ_u=>True) (λ_u=>[(0,(.pointer (some ⟨r,0,none⟩))),(1,(.iface V.T V.ov)),(5,(.int .i64 (((bz s).getD k 0)))),(9,ud),(10,(.int .i64 ((((bz s).length:Nat):Int)))),(11,(.int .i64 (((k:Nat):Int)))),(16,uw),(17,(.int .i64 2)),(18,(.int .i64 1)),(19,(.bool true)),(37,(.int .i64 1))]) (λ_u=>[cD V r (gQ V.toDk (gQ V.toDk (fL V.toDk ((bz s).take k) s) ((bz s).getD k 0) ((((bz s).getD k 0)+1)%5)) ((bz s).getD k 0) ((((bz s).getD k 0)+2)%5)),own uw (2) ([.int .i64 ((((bz s).getD k 0)+1)%5), .int .i64 ((((bz s).getD k 0)+2)%5)]) 3 1,own ud ((bz s).length) (ints (bz s)) 3 1]) (λ_u hinv=>?_) (λtl12=>?_))));have _:=hinv;refine ac J12 (af (tp (cw (r:=2) rfl rfl rfl (by decide)) ?_));refine PS ?_;refine au (ef (sr λ_ J13=>PS ?_));refine nx J13 (aa λ_ J14=>CN (aZ (aB (aB (bw (ag (ac J4 (af (AD ?_)))))))));refine PS ?_;refine au ?_
 exact aJ ((k+1):(Nat)) (by omega) (by show(bz s).length- (k+1)< (bz s).length-k;omega)
  SB
  (λ_ q=>by
   rw[Bf V.toDk (by omega) s]
   exact ak [2,0] rfl q)
 refine ap (sr λ_ J15=>tp (bv (r:=1) hvw rfl jT aO rfl rfl (by omega) (by omega) rfl) ?_);refine tp (cV (v:=(.int .i64 (((((bz s).getD k 0)+2)%5)))) rfl Y3 rfl rfl (dT 1 rfl hvw rfl) rfl) ?_;refine PS ?_;refine nx J15 (sr λ_ J16=>P3 ?_);refine CE DG (mG V r (gQ V.toDk (fL V.toDk ((bz s).take k) s) ((bz s).getD k 0) ((((bz s).getD k 0)+1)%5)) ((bz s).getD k 0) ((((bz s).getD k 0)+2)%5) hm1 (by omega)) ID ?_;refine aX ?_ ?_<;>intro h25;refine PS ?_;refine nx J16 (CN (aQ (ag ?_)))
 exact aE
  SB
  (λ_ q=>by
   rw[gQ,if_pos h25]
   exact ak [0,0,0] rfl q)
  (tl12 (():Unit) trivial)
 refine PS ?_;refine nx J16 (CY (af ?_))
 iterate 6 refine PS ?_
 refine FA 2 bg be ?_;refine LZ 0 eL be ao ((gQ V.toDk (fL V.toDk ((bz s).take k) s) ((bz s).getD k 0) ((((bz s).getD k 0)+1)%5)).view) ?_ (hc:=by exact λ_=>cX _);refine tp (kw MsgT.zero (MsgT.mk 8 ((bz s).getD k 0) RowT.zero 0 0 BallotT.zero BallotT.zero ChangeT.zero ((gQ V.toDk (fL V.toDk ((bz s).take k) s) ((bz s).getD k 0) ((((bz s).getD k 0)+1)%5)).view)) [(0,[Value.int .i64 8]),(1,[Value.int .i64 ((bz s).getD k 0)]),(8,ints ((gQ V.toDk (fL V.toDk ((bz s).take k) s) ((bz s).getD k 0) ((((bz s).getD k 0)+1)%5)).view).flat)] a8 bl (g:=MsgT.sg)) ?_;refine CZ iK (fS V r (gQ V.toDk (fL V.toDk ((bz s).take k) s) ((bz s).getD k 0) ((((bz s).getD k 0)+1)%5)) ((((bz s).getD k 0)+2)%5) (nP ((bz s).getD k 0) (gQ V.toDk (fL V.toDk ((bz s).take k) s) ((bz s).getD k 0) ((((bz s).getD k 0)+1)%5)).view) (λs_=>fj V.toDk s_ s_.id ((bz s).getD k 0)) (λ_=>uV V r (gQ V.toDk (fL V.toDk ((bz s).take k) s) ((bz s).getD k 0) ((((bz s).getD k 0)+1)%5)) ((bz s).getD k 0))) ID λvR=>?_
 refine au (ag ?_)
 exact aE
  SB
  (λ_ q=>by
   rw[gQ,if_neg (by rw[h25];decide)]
   exact ak [0,0,0] rfl q)
  (tl12 (():Unit) trivial)
 refine ap (sr λ_ J17=>tp (bv (r:=0) hvw rfl jT aO rfl rfl (by omega) (by omega) rfl) ?_);refine tp (cV (v:=(.int .i64 (((((bz s).getD k 0)+1)%5)))) rfl Y3 rfl rfl (dT 0 rfl hvw rfl) rfl) ?_;refine PS ?_;refine nx J17 (sr λ_ J18=>P3 ?_);refine CE DG (mG V r (fL V.toDk ((bz s).take k) s) ((bz s).getD k 0) ((((bz s).getD k 0)+1)%5) hm1 (by omega)) (SM [2]) ?_;refine aX ?_ ?_<;>intro h25;refine PS ?_;refine nx J18 (CN (aQ (ag ?_)))
 exact aE
  SB
  (λ_ q=>by
   rw[gQ,if_pos h25]
   exact ak [0,0,0] rfl q)
  (tl9 (():Unit) trivial)
 refine PS ?_;refine nx J18 (CY (af ?_))
 iterate 6 refine PS ?_
 refine FA 2 bg be ?_;refine LZ 0 eL be ao ((fL V.toDk ((bz s).take k) s).view) ?_ (hc:=by exact λ_=>cX _);refine tp (kw MsgT.zero (MsgT.mk 8 ((bz s).getD k 0) RowT.zero 0 0 BallotT.zero BallotT.zero ChangeT.zero ((fL V.toDk ((bz s).take k) s).view)) [(0,[Value.int .i64 8]),(1,[Value.int .i64 ((bz s).getD k 0)]),(8,ints ((fL V.toDk ((bz s).take k) s).view).flat)] a8 bl (g:=MsgT.sg)) ?_;refine CZ iK (fS V r (fL V.toDk ((bz s).take k) s) ((((bz s).getD k 0)+1)%5) (nP ((bz s).getD k 0) (fL V.toDk ((bz s).take k) s).view) (λs_=>fj V.toDk s_ s_.id ((bz s).getD k 0)) (λ_=>uV V r (fL V.toDk ((bz s).take k) s) ((bz s).getD k 0))) ID λvR=>?_
 refine au (ag ?_)
 exact aE
  SB
  (λ_ q=>by
   rw[gQ,if_neg (by rw[h25];decide)]
   exact ak [0,0,0] rfl q)
  (tl9 (():Unit) trivial)
 refine nx J2 (aa λ_ J19=>CN (aZ (aB (aB (bw (WK [1] (bu rfl ?_)))))));obtain rfl:k=(bz s).length:=by omega
 exact MQ (by rw[g8];rfl)
theorem tm{δ:Type}(V:Env δ)(r:Nat)(s:MS δ)(v:ViewT)[OkR V.toDk s][OkVw v]:DT 145 #[.pointer (some ⟨r,0,none⟩), .iface V.T V.ov, .agg (ints v.flat).toArray] T0 [cD V r s] (RI (.bool (pL V.toDk s v)) [cD V r (gW V.toDk s v)]):=tl V r s v λ_=>po V r _
theorem tn{δ:Type}(V:Env δ)(r:Nat)(s:MS δ)(v:ViewT)[OkR V.toDk s][OkVw v]:DT 145 #[.pointer (some ⟨r,0,none⟩), .iface V.T V.ov, .agg (ints v.flat).toArray] T0 [cD V r s] (dw (λq H=>(∃b,q= .bool b)∧H=[cD V r (gW V.toDk s v)])):=
 (tm V r s v).mono λe H hp=>by
  cases e with
  |returned q=>exact⟨⟨_,hp.1⟩,hp.2⟩
  |panicked c=>exact hp.elim
  |outgrown=>exact hp.elim
theorem uE{δ:Type}(V:Env δ)(r:Nat)(s:MS δ)(from':Int)(m:MsgT)[OkR V.toDk s][OkMg m]:TK V r 146 s from' m (l3 V.toDk s from' m):=oS V r s _ from' m (tn V r s m.view)
theorem Jm:Tryz.prog.eqGuardType Tryz.prog.depth 88=false:=by kernel_rfl
theorem Jl:Tryz.prog.keyTypeAt 6 88=true:=by kernel_rfl
theorem JF:ol Tryz.prog 6 88=some 2:=by kernel_rfl
theorem Fw:(match Tryz.prog.underlying 88 with|some (.struct _)|some (.array _ _)=>true|_=>false)=true:=by kernel_rfl
theorem FF:Tryz.prog.cellsOf 88=2:=by kernel_rfl
theorem Kj:Tryz.prog.eqGuardType Tryz.prog.depth 118=false:=by kernel_rfl
theorem Kh:Tryz.prog.keyTypeAt 6 118=true:=by kernel_rfl
theorem Lv:ol Tryz.prog 6 118=some 8:=by kernel_rfl
theorem I9:(match Tryz.prog.underlying 118 with|some (.struct _)|some (.array _ _)=>true|_=>false)=true:=by kernel_rfl
theorem Ja:Tryz.prog.cellsOf 118=8:=by kernel_rfl
theorem xK(a b:BallotT):
 DT 181 #[(.agg (ints a.flat).toArray),(.agg (ints b.flat).toArray)] T0 [] (RI (.bool (AH a b)) []):=by
 refine BD 20 Tryz.func181 rfl rfl rfl λw0 F hF=>sr λ_ J1=>XY (ints a.flat) λb2=>?_
 refine XY (ints b.flat) λb3=>?_
 refine PS ?_;refine nx J1 (aa λ_ J2=>sr λ_ J3=>FA 0 jP aO ?_);refine LU 1 Y3 (eT a rfl) ?_;refine FA 0 jP aO ?_;refine LU 0 Y3 (eT b rfl) ?_;refine PS ?_;refine am ?_ ?_<;>intro h9;refine nx J3 (CY (sr λ_ J4=>FA 0 jP aO ?_));refine LU 1 Y3 (eT a rfl) ?_;refine FA 0 jP aO ?_;refine LU 0 Y3 (eT b rfl) ?_;refine P2 ?_;refine nx J4 (ai (ae (WK [] (aq rfl rfl ?_))));exact⟨congrArg Value.bool (by simp[AH, *]),rfl⟩;refine nx J3 (CN (qx J2 (sr λ_ J5=>FA 1 jP aO ?_)));refine LU 1 Y3 (BallotT.at_who a rfl) ?_;refine FA 1 jP aO ?_;refine LU 0 Y3 (BallotT.at_who b rfl) ?_;refine P2 ?_;refine nx J5 (ai (WK [] (aq rfl rfl ?_)));exact⟨congrArg Value.bool (by simp[AH, *]),rfl⟩
theorem ru(a:AccT)(ep:Int)(b:BallotT):
 DT 175 #[(.agg (ints a.flat).toArray),(.int .i64 (ep)),(.agg (ints b.flat).toArray)] T0 [] (RI (.bool (yc a ep b)) []):=by
 refine BD 22 Tryz.func175 rfl rfl rfl λw0 F hF=>sr λ_ J1=>XY (ints a.flat) λb3=>?_
 refine XY (ints b.flat) λb5=>?_
 refine PS ?_;refine nx J1 (sr λ_ J2=>PS ?_);refine FA 0 iw aO ?_;refine LU 1 Y3 (AccT.at_epoch a rfl) ?_;refine PS ?_;refine am ?_ ?_<;>intro h10;refine PS ?_
 iterate 3 refine UT ?_
 refine P2 ?_
 iterate 4 refine UT ?_
 refine P2 ?_;refine nx J2 (ai (WK [] (aq rfl rfl ?_)));exact⟨congrArg Value.bool (by simp[yc, *]),rfl⟩;refine PS ?_;refine FA 0 jP aO ?_;refine LU 0 Y3 (eT b rfl) ?_;refine PS ?_;refine am ?_ ?_<;>intro h14;refine P2 ?_
 iterate 4 refine UT ?_
 refine P2 ?_;refine nx J2 (ai (WK [] (aq rfl rfl ?_)));exact⟨congrArg Value.bool (by simp[yc, *]),rfl⟩;refine P2 ?_;refine LW 0 jP cv an ?_;refine FA 1 iw cv ?_;refine LV 1 jP cv an AccT.sp_vow (y:=a.vow) ?_;refine CE II (xK b a.vow) ID ?_;refine P2 ?_;refine nx J2 (ai (WK [] (aq rfl rfl ?_)));exact⟨congrArg Value.bool (by simp[yc, *]),rfl⟩
theorem mL(a:AccT)(ep:Int)(b:BallotT):
 DT 153 #[(.agg (ints a.flat).toArray),(.int .i64 (ep)),(.agg (ints b.flat).toArray)] T0 [] (RI (.tuple #[.agg (ints (bQ a ep b).1.flat).toArray, .bool (bQ a ep b).2]) []):=by
 refine BD 16 Tryz.func153 rfl rfl rfl λw0 F hF=>sr λ_ J1=>XY (ints a.flat) λb3=>?_
 refine XY (ints b.flat) λb5=>?_
 refine XZ uk (ints AccT.zero.flat) λb6=>?_
 refine PS ?_;refine nx J1 (aa λ_ J2=>sr λ_ J3=>LW 2 iw dq aW ?_);refine PS ?_;refine LW 1 jP cv an ?_;refine CE IL (ru a ep b) ID ?_;refine aX ?_ ?_<;>intro h11;refine nx J3 (CY (sr λ_ J4=>LW 2 iw dq aW ?_));refine SW 0 dq aW ?_;refine PS ?_;refine nx J4 (ai (ae (RT 0 [] iw dq (aW _) ?_)));exact⟨by rw[bQ];simp_all,rfl⟩;refine nx J3 (CN (qx J2 (sr λ_ J5=>LW 1 jP cv an ?_)));refine FA 1 iw cv ?_;refine SP 2 cv an aW AccT.wp_vow ?_;refine nx J5 (sr λ_ J6=>LW 2 iw dq aW ?_);refine SW 0 dq aW ?_;refine PS ?_;refine nx J6 (ai (RT 0 [] iw dq (aW _) ?_));exact⟨by rw[bQ];simp_all,rfl⟩
theorem tF(a:AccT)(ep:Int)(b:BallotT)(ch:ChangeT):
 DT 180 #[(.agg (ints a.flat).toArray),(.int .i64 (ep)),(.agg (ints b.flat).toArray),(.agg (ints ch.flat).toArray)] T0 [] (RI (.tuple #[.agg (ints (gh a ep b ch).1.flat).toArray, .bool (gh a ep b ch).2]) []):=by
 refine BD 22 Tryz.func180 rfl rfl rfl λw0 F hF=>sr λ_ J1=>XY (ints a.flat) λb4=>?_
 refine XY (ints b.flat) λb6=>?_
 refine XY (ints ch.flat) λb7=>?_
 refine XZ uk (ints AccT.zero.flat) λb8=>?_
 refine PS ?_;refine nx J1 (aa λ_ J2=>sr λ_ J3=>LW 3 iw dq aW ?_);refine PS ?_;refine LW 2 jP cv an ?_;refine CE IL (ru a ep b) ID ?_;refine aX ?_ ?_<;>intro h13;refine nx J3 (CY (sr λ_ J4=>LW 3 iw dq aW ?_));refine SW 0 dq aW ?_;refine PS ?_;refine nx J4 (ai (ae (RT 0 [] iw dq (aW _) ?_)));exact⟨by rw[gh];simp_all,rfl⟩;refine nx J3 (CN (qx J2 (aa λ_ J5=>D2 2 1 bf ?_)));refine LY 0 jP cv an ?_;refine LY 1 jP cv an ?_;refine LY 2 mx fl aI ?_;refine FD 3 1 iw cv ?_;refine AL 4 ?_;refine SP 3 cv an aW AccT.wp_vow ?_;refine EN (FD 5 3 iw cv ?_);refine AL 6 ?_;refine SP 3 cv an aW AccT.wp_had ?_;refine EN (FD 7 5 iw fl ?_);refine AL 8 ?_;refine SP 3 fl aI aW AccT.wp_change ?_;refine EN (DN (ac J5 (sr λ_ J6=>LW 3 iw dq aW ?_)));refine SW 0 dq aW ?_;refine PS ?_;refine nx J6 (ai (RT 0 [] iw dq (aW _) ?_));exact⟨by rw[gh];simp_all,rfl⟩
theorem th(b:Int):
 DT 184 #[(.int .i64 (b))] T0 [] (dw (λr' H=>∃u,r'=u∧H=[own u (BY b).length (ints (BY b)) 3 1])):=by
 refine BD 19 Tryz.func184 rfl rfl rfl λw0 F hF=>sr λ_ J1=>PS ?_
 refine nx J1 (sr λ_ J2=>PS ?_);refine nx J2 (aa λ_ J3=>sr λ_ J4=>PS ?_);refine nx J4 (ap ?_)
 refine bB (α:=(Nat)×(Value)) (λ⟨k,u⟩=>k≤5∧u.oneCell'=true) (λ⟨k,u⟩=>[(0,(.int .i64 (b))),(2,(.slice none 0 0)),(3,u),(5,(.int .i64 (((k:Nat):Int))))]) (λ⟨k,u⟩=>[own u ((kr b k).length) (ints (kr b k)) 3 1]) (λ⟨k,u⟩=>5-k) (0,(.slice none 0 0))
  ⟨aN _,rfl⟩ SB
  (λ_ s=>fR 3 1 (ak [] rfl s)) (λ⟨k,u⟩ hinv=>?_)
 obtain⟨hk,hu⟩:=hinv;have hol:=sx b k;refine sr λ_ J5=>PS ?_
 refine am ?_ ?_<;>intro h6;refine nx J5 (aa λ_ J6=>CY (qx J6 (aa λ_ J7=>ap (sr λ_ J8=>P2 ?_))));refine nx J8 (sr λ_ J9=>P2 ?_);refine tp (lm (r:=(b.fdiv (2^min ((k:Nat):Int).toNat IntKind.i64.bits))) rfl rfl rfl (by omega) rfl) ?_;refine tp (tR (r:=((b.fdiv (2^min ((k:Nat):Int).toNat IntKind.i64.bits))%2)) rfl rfl rfl (mask (k:=1) (by decide) _)) ?_;refine PS ?_;refine am ?_ ?_<;>intro h12;refine nx J9 (CY (af (P2 ?_)));refine aU (cells:=#[(.int .i64 (((k:Nat):Int)))]) (ab rfl) rfl rfl rfl jT qB rfl rfl rfl (by as_aux_lemma=>kernel_rfl) (λb15=>cG (k:=1) (news:=[(.int .i64 (((k:Nat):Int)))]) (nn':=(kr b k).length+1) (xs':=ints (kr b k)++[(.int .i64 (((k:Nat):Int)))]) (ab rfl) rfl rfl rfl jT qB rfl rfl rfl rfl rfl rfl (λ_ _=>jg rfl (RO 0) rfl) (by simp[Value.oneCell']) (by simp only[maxLen];omega) (by omega) (by simp) (by simp) (λv16 ov16=>PS ?_));refine au (ag (ac J7 (af (AD ?_))));refine PS ?_;refine au ?_
 exact aJ ((k+1,v16):(Nat)×(Value)) ⟨by omega,ov16⟩ (by show 5- (k+1)<5-k;omega)
  SB
  (λ_ q=>by
   show bH [own v16 (kr b (k+1)).length (ints (kr b (k+1))) 3 1] _;rw[show kr b (k+1)=kr b k++[((k:Nat):Int)]by rw[uO,if_pos (by rw[FH,decide_eq_true (by assumption)])],ad,ee]
   exact ak [1] rfl q)
 refine nx J9 (CN (aQ (ag (ac J7 (af (AD ?_))))));refine PS ?_;refine au ?_
 exact aJ ((k+1,u):(Nat)×(Value)) ⟨by omega,hu⟩ (by show 5- (k+1)<5-k;omega)
  SB
  (λ_ q=>by
   show bH [own u (kr b (k+1)).length (ints (kr b (k+1))) 3 1] _;rw[show kr b (k+1)=kr b k by rw[uO,if_neg (by rw[FH,decide_eq_false (by assumption)];decide),aM]]
   exact ak [0] rfl q)
 refine nx J5 (aa λ_ J10=>CN (aZ (aB (aB (bw (ac J3 (sr λ_ J11=>P2 ?_)))))));refine nx J11 (ai (WK [0] (aq rfl rfl ?_)));obtain rfl:k=5:=by omega
 exact⟨u,rfl,rfl⟩
theorem yT(part all:Int):
 DT 183 #[(.int .i64 (part)),(.int .i64 (all))] T0 [] (RI (.bool (I6 part all)) []):=by
 refine BD 15 Tryz.func183 rfl rfl rfl λw0 F hF=>sr λ_ J1=>PS ?_
 refine nx J1 (sr λ_ J2=>P2 ?_);refine tp (tR (r:=(rV .i64 part all)) rfl rfl rfl rfl) ?_;refine CR IH (th (rV .i64 part all)) ID λvR HR hR=>?_
 obtain⟨_,rfl,rfl⟩:=hR;revert vR;intro us1;refine fY 0 rfl rfl (λhlus1 _=>?_);have hzus1:=sx (rV .i64 part all) 5;change (BY (rV .i64 part all)).length≤5 at hzus1;refine tp (cu rfl jT rfl hlus1) ?_;refine tp (IC (r:=(2* (((BY (rV .i64 part all)).length:Nat):Int))) rfl rfl rfl (bI (by omega) (by omega))) ?_;refine PS ?_;refine CR IH (th all) ID λvR HR hR=>?_
 obtain⟨_,rfl,rfl⟩:=hR;revert vR;intro us2;refine fY 0 rfl rfl (λhlus2 _=>?_);have hzus2:=sx all 5;change (BY all).length≤5 at hzus2;refine tp (cu rfl jT rfl hlus2) ?_;refine P2 ?_;exact nx J2 (ai (WK [] (aq rfl rfl ⟨rfl,rfl⟩)))
theorem iQ(v:ViewT)(bits:Int):
 DT 182 #[(.agg (ints v.flat).toArray),(.int .i64 (bits))] T0 [] (RI (.bool (gp v bits)) []):=by
 refine BD 9 Tryz.func182 rfl rfl rfl λw0 F hF=>sr λ_ J1=>XY (ints v.flat) λb2=>?_
 refine PS ?_;refine nx J1 (sr λ_ J2=>PS ?_);refine FA 1 eL aO ?_;refine LU 0 Y3 (lB v rfl) ?_;refine CE KO (yT bits v.members) ID ?_;refine PS ?_;exact nx J2 (ai (WK [] (aq rfl rfl ⟨rfl,rfl⟩)))
theorem yo(v:ViewT)(b:BallotT)(ch:ChangeT):
 DT 154 #[(.agg (ints v.flat).toArray),(.agg (ints b.flat).toArray),(.agg (ints ch.flat).toArray)] T0 [] (dw (λr' H=>∃vb,r'= .pointer (some ⟨vb,0,none⟩)∧H=[aj vb (VoteT.cells (jc v b ch)) 227])):=by
 refine BD 12 Tryz.func154 rfl rfl rfl λw0 F hF=>sr λ_ J1=>XY (ints v.flat) λb3=>?_
 refine XY (ints b.flat) λb4=>?_
 refine XY (ints ch.flat) λb5=>?_
 refine PS ?_;refine nx J1 (sr λ_ J2=>LW 2 eL be ao ?_);refine LW 1 jP cv an ?_;refine LW 0 mx fl aI ?_;refine tp (w7 (cs:=VoteT.cells (VoteT.mk v b ch BallotT.zero 0 0 false)) (segs:=[ints ViewT.zero.flat,ints BallotT.zero.flat,ints ChangeT.zero.flat,ints BallotT.zero.flat,[Value.int .i64 0],[Value.int .i64 0],[Value.bool false]]) (res:=[ints v.flat,ints b.flat,ints ch.flat,ints BallotT.zero.flat,[Value.int .i64 0],[Value.int .i64 0],[Value.bool false]]) (parts:=[(0,ints v.flat),(1,ints b.flat),(2,ints ch.flat)]) rfl rfl jf (by kernel_rfl) (by kernel_rfl) rfl (eW rfl ((ao v).trans (ao ViewT.zero).symm) (eW rfl ((an b).trans (an BallotT.zero).symm) (eW rfl ((aI ch).trans (aI ChangeT.zero).symm) kV))) (fh (VoteT.mk v b ch BallotT.zero 0 0 false)).symm) ?_;refine XY (VoteT.cells (VoteT.mk v b ch BallotT.zero 0 0 false)) λb11=>?_
 refine PS ?_;exact nx J2 (ai (WK [0] (aq rfl rfl ⟨b11,rfl,rfl⟩)))
theorem bF(vb:Nat)(v:VoteT):
 DT 155 #[(.pointer (some ⟨vb,0,none⟩))] T0 [aj vb (VoteT.cells v) 227] (RI (.agg (ints v.ballot.flat).toArray) [aj vb (VoteT.cells v) 227]):=by
 refine BD 7 Tryz.func155 rfl rfl rfl λw0 F hF=>sr λ_ J1=>XZ L7 (ints BallotT.zero.flat) λb2=>?_
 refine nx J1 (sr λ_ J2=>P2 ?_);refine FA 7 jf cv ?_;refine LV 1 jP cv an VoteT.sp_ballot (y:=v.ballot) ?_;refine SW 0 cv an ?_;refine nx J2 (ai (RC 0 [1] jP cv (an _) ?_));exact⟨rfl,rfl⟩
theorem cW(vb:Nat)(v:VoteT):
 DT 111 #[(.pointer (some ⟨vb,0,none⟩))] T0 [aj vb (VoteT.cells v) 227] (RI (.agg (ints v.change.flat).toArray) [aj vb (VoteT.cells v) 227]):=by
 refine BD 7 Tryz.func111 rfl rfl rfl λw0 F hF=>sr λ_ J1=>XZ L8 (ints ChangeT.zero.flat) λb2=>?_
 refine nx J1 (sr λ_ J2=>P2 ?_);refine FA 9 jf fl ?_;refine LV 1 mx fl aI VoteT.sp_change (y:=v.change) ?_;refine SW 0 fl aI ?_;refine nx J2 (ai (RC 0 [1] mx fl (aI _) ?_));exact⟨rfl,rfl⟩
theorem m6(vb:Nat)(v:VoteT):
 DT 156 #[(.pointer (some ⟨vb,0,none⟩))] T0 [aj vb (VoteT.cells v) 227] (RI (.bool v.putting) [aj vb (VoteT.cells v) 227]):=by
 refine BD 7 Tryz.func156 rfl rfl rfl λw0 F hF=>sr λ_ J1=>PS ?_
 refine nx J1 (sr λ_ J2=>P2 ?_);refine FA 16 jf kp ?_;refine LU 0 Y4 (lA v rfl) ?_;refine PS ?_;exact nx J2 (ai (WK [0] (aq rfl rfl ⟨rfl,rfl⟩)))
theorem BH(vb:Nat)(v:VoteT)(who:Int)(b had:BallotT)(ch:ChangeT)(hb:WF b.flat)(hvb:WF v.ballot.flat):
 DT 172 #[(.pointer (some ⟨vb,0,none⟩)),(.int .i64 (who)),(.agg (ints b.flat).toArray),(.agg (ints had.flat).toArray),(.agg (ints ch.flat).toArray)] T0 [aj vb (VoteT.cells v) 227] (RI (.bool (eD v who b had ch).2) [aj vb (VoteT.cells (eD v who b had ch).1) 227]):=by
 refine BD 76 Tryz.func172 rfl rfl rfl λw0 F hF=>sr λ_ J1=>XY (ints b.flat) λb7=>?_
 refine XY (ints had.flat) λb8=>?_
 refine XY (ints ch.flat) λb9=>?_
 refine PS ?_;refine nx J1 (aa λ_ J2=>aa λ_ J3=>D2 3 2 bf ?_);refine PD 0 ?_;refine PD 1 ?_;refine FD 2 16 jf kp ?_;refine LR 3 Y4 (lA v rfl) ?_;refine qK ?_ ?_<;>intro h14;refine PD 4 ?_;refine NT 5 ?_;refine NT 6 ?_;refine NT 7 ?_;refine NT 8 ?_;refine NT 9 ?_;refine NT 10 ?_;refine PD 11 ?_;refine PD 12 ?_;refine NT 13 ?_;refine NT 14 ?_;refine NT 15 ?_;refine NT 16 ?_;refine NT 17 ?_;refine NT 18 ?_;refine NT 19 ?_;refine PD 20 ?_;refine DN (ac J3 (CY (sr λ_ J4=>PS ?_)));refine nx J4 (ai (ae (WK [3] (aq rfl rfl ?_))));have e:eD v who b had ch=(v,false):=by rw[eD,h14,if_pos (by rfl)]
 exact⟨congrArg (λq:VoteT×Bool=>Value.bool q.2) e.symm,congrArg (λq:VoteT×Bool=>[aj vb (VoteT.cells q.1) 227]) e.symm⟩;refine PD 4 ?_;refine LY 5 jP cv an ?_;refine PD 6 ?_;refine PD 7 ?_;refine FD 8 7 jf cv ?_;refine tb 9 rfl (aK (vs:=ints v.ballot.flat) rfl jP rfl cv rfl (λ_ h=>h.2.1) (an v.ballot) (Iz v 0 rfl (by decide) (bk (an v.ballot)))) ?_;refine tb 10 rfl (oy (a:=b.flat) (b:=v.ballot.flat) (m:=6) (c:=2) Jm Jl rfl JF (ct (an b)) (ct (an v.ballot)) ⟨eC Fw FF (ct (an b)),eC Fw FF (ct (an v.ballot))⟩ hb hvb rfl rfl rfl) ?_;refine gF ?_ ?_<;>intro h21;refine PD 11 ?_;refine PD 12 ?_;refine NT 13 ?_;refine NT 14 ?_;refine NT 15 ?_;refine NT 16 ?_;refine NT 17 ?_;refine NT 18 ?_;refine NT 19 ?_;refine PD 20 ?_;refine DN (ac J3 (CY (sr λ_ J5=>PS ?_)));refine nx J5 (ai (ae (WK [3] (aq rfl rfl ?_))));have e:eD v who b had ch=(v,false):=by rw[eD,mP,decide_eq_false h21,if_pos (by rw[h14];rfl)]
 exact⟨congrArg (λq:VoteT×Bool=>Value.bool q.2) e.symm,congrArg (λq:VoteT×Bool=>[aj vb (VoteT.cells q.1) 227]) e.symm⟩;refine PD 11 ?_;refine PD 12 ?_;refine PD 13 ?_;refine PD 14 ?_;refine FD 15 0 jf be ?_;refine tb 16 rfl (aK (vs:=ints v.view.flat) rfl eL rfl be rfl (λ_ h=>h.2.1) (ao v.view) (Bp v 0 rfl (by decide) (bk (ao v.view)))) ?_;refine PD 17 ?_;refine AL 18 ?_;refine CE o9 (dv v.view who) ID ?_;refine aX ?_ ?_<;>intro h29;have hw:0≤who∧who<5:=by unfold iu cH at h29;simp only[av,decide_eq_true_eq]at h29;exact h29.1
 refine EN (PD 19 ?_);refine PD 20 ?_;refine DN (ac J3 (CN (qx J2 (aa λ_ J6=>D0 bf ?_))));refine PD 0 ?_;refine PD 1 ?_;refine FD 2 14 jf aO ?_;refine PD 4 ?_;refine ta 5 rfl (w4 (r:=(cU who)) rfl rfl rfl (by omega) rfl) ?_;refine AL 3 ?_;refine LU 3 Y3 (lh v rfl) ?_;refine EN (ta 6 rfl (Hy (r:=(ik .i64 v.vowed (cU who))) rfl rfl rfl rfl) ?_);refine PD 7 ?_;refine FD 8 14 jf aO ?_;refine AL 9 ?_;refine SS 3 aO (mN _) (VoteT.set_vowed v rfl _) ?_;refine EN (DN (ac J6 (aa λ_ J7=>aa λ_ J8=>D2 1 3 bf ?_)));refine FD 0 0 jP aO ?_;refine LR 1 Y3 (eT had rfl) ?_;refine PD 2 ?_;refine gF ?_ ?_<;>intro h43;refine PD 3 ?_;refine PD 4 ?_;refine PD 5 ?_;refine FD 6 12 jf cv ?_;refine tb 7 rfl (aK (vs:=ints v.best.flat) rfl jP rfl cv rfl (λ_ h=>h.2.2.1) (an v.best) (VoteT.sub_best (VoteT.mk v.view v.ballot v.change v.best (ik .i64 v.vowed (cU who)) v.took v.putting) 0 rfl (by decide) (bk (an v.best)))) ?_;refine LY 8 jP cv an ?_;refine AL 9 ?_;refine CE II (xK v.best had) ID ?_;refine aX ?_ ?_<;>intro h50;refine EN (PD 10 ?_);refine DN (ac J8 (CY (D2 1 0 bf ?_)));refine PD 0 ?_;refine PD 1 ?_;refine LY 2 jP cv an ?_;refine LY 3 mx fl aI ?_;refine PD 4 ?_;refine FD 5 12 jf cv ?_;refine AL 6 ?_;refine SP 3 cv an mN VoteT.wp_best ?_;refine EN (PD 7 ?_);refine FD 8 9 jf fl ?_;refine AL 9 ?_;refine SP 3 fl aI mN VoteT.wp_change ?_
 refine EN (DN (ac J7 (aa λ_ J9=>eJ (α:=Unit) (λ_=>True) (λ_u=>[(0,(.pointer (some ⟨vb,0,none⟩))),(10,(.bool false))]) (λ_u=>[aj b9 (ints ch.flat) 28,aj b8 (ints had.flat) 88,aj b7 (ints b.flat) 88,aj vb (VoteT.cells (VoteT.mk v.view v.ballot ch had (ik .i64 v.vowed (cU who)) v.took (gp v.view (ik .i64 v.vowed (cU who))))) 227]) (λ_u _=>?_) (λtl9=>?_))));refine ac J9 (sr λ_ J10=>P2 ?_);refine FA 16 jf kp ?_;refine LT 3 Y4 (.bool (gp v.view (ik .i64 v.vowed (cU who)))) ?_ (hc:=by exact lA _ rfl);refine PS ?_;refine nx J10 (ai (WK [3] (aq rfl rfl ?_)));have e:eD v who b had ch=((VoteT.mk v.view v.ballot ch had (ik .i64 v.vowed (cU who)) v.took (gp v.view (ik .i64 v.vowed (cU who)))),gp v.view (ik .i64 v.vowed (cU who))):=by rw[eD,mP,decide_eq_true (show b.flat=v.ballot.flat from Decidable.not_not.1 h21),h29,h14,if_neg (by decide),uA,decide_eq_true (show 0<had.round by omega),h50,if_pos (by decide)]
 exact⟨congrArg (λq:VoteT×Bool=>Value.bool q.2) e.symm,congrArg (λq:VoteT×Bool=>[aj vb (VoteT.cells q.1) 227]) e.symm⟩;refine D0 bf ?_;refine PD 0 ?_;refine PD 1 ?_;refine PD 2 ?_;refine FD 3 0 jf be ?_;refine PD 5 ?_;refine PD 6 ?_;refine FD 7 14 jf aO ?_;refine cJ [4,8] (by kernel_rfl) rfl (aF rfl ?_ ?_);refine LV 3 eL be ao oE (y:=v.view) ?_;refine EN (AL 8 ?_);refine LT 3 Y3 (.int .i64 ((ik .i64 v.vowed (cU who)))) ?_ (hc:=by exact lh _ rfl);refine EN (AL 9 ?_);refine CE vm (iQ v.view (ik .i64 v.vowed (cU who))) ID ?_;refine EN (PD 10 ?_);refine FD 11 16 jf kp ?_;refine AL 12 ?_;refine SS 3 kp (mN _) (ku _ rfl _) ?_;refine EN (DN ?_)
 exact aE
  SB
  (λ_ s=>s)
  (tl9 (():Unit) trivial)
 refine aF rfl ?_ ?_;refine LT 3 Y3 (.int .i64 ((ik .i64 v.vowed (cU who)))) ?_ (hc:=by exact lh _ rfl);refine EN (AL 4 ?_);refine LV 3 eL be ao oE (y:=v.view) ?_;refine EN (AL 9 ?_);refine CE vm (iQ v.view (ik .i64 v.vowed (cU who))) ID ?_;refine EN (PD 10 ?_);refine FD 11 16 jf kp ?_;refine AL 12 ?_;refine SS 3 kp (mN _) (ku _ rfl _) ?_;refine EN (DN ?_)
 exact aE
  SB
  (λ_ s=>s)
  (tl9 (():Unit) trivial)
 exact bD;refine EN (PD 10 ?_);refine DN (ac J8 (CN (qx J7 (aa λ_ J11=>eJ (α:=Unit) (λ_=>True) (λ_u=>[(0,(.pointer (some ⟨vb,0,none⟩))),(10,(.bool false))]) (λ_u=>[aj b9 (ints ch.flat) 28,aj b8 (ints had.flat) 88,aj b7 (ints b.flat) 88,aj vb (VoteT.cells (VoteT.mk v.view v.ballot v.change v.best (ik .i64 v.vowed (cU who)) v.took (gp v.view (ik .i64 v.vowed (cU who))))) 227]) (λ_u _=>?_) (λtl11=>?_)))));refine ac J11 (sr λ_ J12=>P2 ?_);refine FA 16 jf kp ?_;refine LT 3 Y4 (.bool (gp v.view (ik .i64 v.vowed (cU who)))) ?_ (hc:=by exact lA _ rfl);refine PS ?_;refine nx J12 (ai (WK [3] (aq rfl rfl ?_)));have e:eD v who b had ch=((VoteT.mk v.view v.ballot v.change v.best (ik .i64 v.vowed (cU who)) v.took (gp v.view (ik .i64 v.vowed (cU who)))),gp v.view (ik .i64 v.vowed (cU who))):=by rw[eD,mP,decide_eq_true (show b.flat=v.ballot.flat from Decidable.not_not.1 h21),h29,h14,if_neg (by decide),uA,h50,lv,if_neg (by decide)]
 exact⟨congrArg (λq:VoteT×Bool=>Value.bool q.2) e.symm,congrArg (λq:VoteT×Bool=>[aj vb (VoteT.cells q.1) 227]) e.symm⟩;refine D0 bf ?_;refine PD 0 ?_;refine PD 1 ?_;refine PD 2 ?_;refine FD 3 0 jf be ?_;refine PD 5 ?_;refine PD 6 ?_;refine FD 7 14 jf aO ?_;refine cJ [4,8] (by kernel_rfl) rfl (aF rfl ?_ ?_);refine LV 3 eL be ao oE (y:=v.view) ?_;refine EN (AL 8 ?_);refine LT 3 Y3 (.int .i64 ((ik .i64 v.vowed (cU who)))) ?_ (hc:=by exact lh _ rfl);refine EN (AL 9 ?_);refine CE vm (iQ v.view (ik .i64 v.vowed (cU who))) ID ?_;refine EN (PD 10 ?_);refine FD 11 16 jf kp ?_;refine AL 12 ?_;refine SS 3 kp (mN _) (ku _ rfl _) ?_;refine EN (DN ?_)
 exact aE
  SB
  (λ_ s=>s)
  (tl11 (():Unit) trivial)
 refine aF rfl ?_ ?_;refine LT 3 Y3 (.int .i64 ((ik .i64 v.vowed (cU who)))) ?_ (hc:=by exact lh _ rfl);refine EN (AL 4 ?_);refine LV 3 eL be ao oE (y:=v.view) ?_;refine EN (AL 9 ?_);refine CE vm (iQ v.view (ik .i64 v.vowed (cU who))) ID ?_;refine EN (PD 10 ?_);refine FD 11 16 jf kp ?_;refine AL 12 ?_;refine SS 3 kp (mN _) (ku _ rfl _) ?_;refine EN (DN ?_)
 exact aE
  SB
  (λ_ s=>s)
  (tl11 (():Unit) trivial)
 exact bD;refine PD 3 ?_;refine NT 4 ?_;refine NT 5 ?_;refine NT 6 ?_;refine NT 7 ?_;refine NT 8 ?_;refine NT 9 ?_;refine PD 10 ?_;refine DN (ac J8 (CN (qx J7 (aa λ_ J13=>eJ (α:=Unit) (λ_=>True) (λ_u=>[(0,(.pointer (some ⟨vb,0,none⟩))),(10,(.bool false))]) (λ_u=>[aj b9 (ints ch.flat) 28,aj b8 (ints had.flat) 88,aj b7 (ints b.flat) 88,aj vb (VoteT.cells (VoteT.mk v.view v.ballot v.change v.best (ik .i64 v.vowed (cU who)) v.took (gp v.view (ik .i64 v.vowed (cU who))))) 227]) (λ_u _=>?_) (λtl13=>?_)))));refine ac J13 (sr λ_ J14=>P2 ?_);refine FA 16 jf kp ?_;refine LT 3 Y4 (.bool (gp v.view (ik .i64 v.vowed (cU who)))) ?_ (hc:=by exact lA _ rfl);refine PS ?_;refine nx J14 (ai (WK [3] (aq rfl rfl ?_)));have e:eD v who b had ch=((VoteT.mk v.view v.ballot v.change v.best (ik .i64 v.vowed (cU who)) v.took (gp v.view (ik .i64 v.vowed (cU who)))),gp v.view (ik .i64 v.vowed (cU who))):=by rw[eD,mP,decide_eq_true (show b.flat=v.ballot.flat from Decidable.not_not.1 h21),h29,h14,if_neg (by decide),uA,decide_eq_false (show ¬0<had.round by omega),gv,if_neg (by decide)]
 exact⟨congrArg (λq:VoteT×Bool=>Value.bool q.2) e.symm,congrArg (λq:VoteT×Bool=>[aj vb (VoteT.cells q.1) 227]) e.symm⟩;refine D0 bf ?_;refine PD 0 ?_;refine PD 1 ?_;refine PD 2 ?_;refine FD 3 0 jf be ?_;refine PD 5 ?_;refine PD 6 ?_;refine FD 7 14 jf aO ?_;refine cJ [4,8] (by kernel_rfl) rfl (aF rfl ?_ ?_);refine LV 3 eL be ao oE (y:=v.view) ?_;refine EN (AL 8 ?_);refine LT 3 Y3 (.int .i64 ((ik .i64 v.vowed (cU who)))) ?_ (hc:=by exact lh _ rfl);refine EN (AL 9 ?_);refine CE vm (iQ v.view (ik .i64 v.vowed (cU who))) ID ?_;refine EN (PD 10 ?_);refine FD 11 16 jf kp ?_;refine AL 12 ?_;refine SS 3 kp (mN _) (ku _ rfl _) ?_;refine EN (DN ?_)
 exact aE
  SB
  (λ_ s=>s)
  (tl13 (():Unit) trivial)
 refine aF rfl ?_ ?_;refine LT 3 Y3 (.int .i64 ((ik .i64 v.vowed (cU who)))) ?_ (hc:=by exact lh _ rfl);refine EN (AL 4 ?_);refine LV 3 eL be ao oE (y:=v.view) ?_;refine EN (AL 9 ?_);refine CE vm (iQ v.view (ik .i64 v.vowed (cU who))) ID ?_;refine EN (PD 10 ?_);refine FD 11 16 jf kp ?_;refine AL 12 ?_;refine SS 3 kp (mN _) (ku _ rfl _) ?_;refine EN (DN ?_)
 exact aE
  SB
  (λ_ s=>s)
  (tl13 (():Unit) trivial)
 exact bD;refine EN (PD 19 ?_);refine PD 20 ?_;refine DN (ac J3 (CY (sr λ_ J15=>PS ?_)));refine nx J15 (ai (ae (WK [3] (aq rfl rfl ?_))));have e:eD v who b had ch=(v,false):=by rw[eD,mP,h29,if_pos (by rw[h14,lv];rfl)]
 exact⟨congrArg (λq:VoteT×Bool=>Value.bool q.2) e.symm,congrArg (λq:VoteT×Bool=>[aj vb (VoteT.cells q.1) 227]) e.symm⟩
theorem BR(vb:Nat)(v:VoteT)(who:Int)(b:BallotT)(hb:WF b.flat)(hvb:WF v.ballot.flat):
 DT 173 #[(.pointer (some ⟨vb,0,none⟩)),(.int .i64 (who)),(.agg (ints b.flat).toArray)] T0 [aj vb (VoteT.cells v) 227] (RI (.bool (gf v who b).2) [aj vb (VoteT.cells (gf v who b).1) 227]):=by
 refine BD 47 Tryz.func173 rfl rfl rfl λw0 F hF=>sr λ_ J1=>XY (ints b.flat) λb5=>?_
 refine PS ?_;refine nx J1 (aa λ_ J2=>aa λ_ J3=>D2 1 0 bf ?_);refine PD 0 ?_;refine PD 1 ?_;refine FD 2 16 jf kp ?_;refine LR 3 Y4 (lA v rfl) ?_;refine qK ?_ ?_<;>intro h10;refine PD 4 ?_;refine PD 5 ?_;refine LY 6 jP cv an ?_;refine PD 7 ?_;refine PD 8 ?_;refine FD 9 7 jf cv ?_;refine tb 10 rfl (aK (vs:=ints v.ballot.flat) rfl jP rfl cv rfl (λ_ h=>h.2.1) (an v.ballot) (Iz v 0 rfl (by decide) (bk (an v.ballot)))) ?_;refine tb 11 rfl (oy (a:=b.flat) (b:=v.ballot.flat) (m:=6) (c:=2) Jm Jl rfl JF (ct (an b)) (ct (an v.ballot)) ⟨eC Fw FF (ct (an b)),eC Fw FF (ct (an v.ballot))⟩ hb hvb rfl rfl rfl) ?_;refine gF ?_ ?_<;>intro h18;refine PD 12 ?_;refine PD 13 ?_;refine NT 14 ?_;refine NT 15 ?_;refine NT 16 ?_;refine NT 17 ?_;refine NT 18 ?_;refine NT 19 ?_;refine NT 20 ?_;refine PD 21 ?_;refine DN (ac J3 (CY (sr λ_ J4=>PS ?_)));refine nx J4 (ai (ae (WK [1] (aq rfl rfl ?_))));have e:gf v who b=(v,false):=by rw[gf,mP,decide_eq_false h18,if_pos (by rw[h10];rfl)]
 exact⟨congrArg (λq:VoteT×Bool=>Value.bool q.2) e.symm,congrArg (λq:VoteT×Bool=>[aj vb (VoteT.cells q.1) 227]) e.symm⟩;refine PD 12 ?_;refine PD 13 ?_;refine PD 14 ?_;refine PD 15 ?_;refine FD 16 0 jf be ?_;refine tb 17 rfl (aK (vs:=ints v.view.flat) rfl eL rfl be rfl (λ_ h=>h.2.1) (ao v.view) (Bp v 0 rfl (by decide) (bk (ao v.view)))) ?_;refine PD 18 ?_;refine AL 19 ?_;refine CE o9 (dv v.view who) ID ?_;refine aX ?_ ?_<;>intro h26;have hw:0≤who∧who<5:=by unfold iu cH at h26;simp only[av,decide_eq_true_eq]at h26;exact h26.1
 refine EN (PD 20 ?_);refine PD 21 ?_;refine DN (ac J3 (CN (qx J2 (aa λ_ J5=>D0 bf ?_))));refine PD 0 ?_;refine PD 1 ?_;refine FD 2 15 jf aO ?_;refine PD 4 ?_;refine ta 5 rfl (w4 (r:=(cU who)) rfl rfl rfl (by omega) rfl) ?_;refine AL 3 ?_;refine LU 1 Y3 (VoteT.at_took v rfl) ?_;refine EN (ta 6 rfl (Hy (r:=(ik .i64 v.took (cU who))) rfl rfl rfl rfl) ?_);refine PD 7 ?_;refine FD 8 15 jf aO ?_;refine AL 9 ?_;refine SS 1 aO (mN _) (VoteT.set_took v rfl _) ?_;refine EN (DN (ac J5 (aa λ_ J6=>D1 1 bf ?_)));refine PD 0 ?_;refine PD 1 ?_;refine FD 2 0 jf be ?_;refine ta 3 rfl (aK (vs:=ints v.view.flat) rfl eL rfl be rfl (λ_ h=>h.2.1) (ao v.view) (Bp (VoteT.mk v.view v.ballot v.change v.best v.vowed (ik .i64 v.took (cU who)) v.putting) 0 rfl (by decide) (bk (ao v.view)))) ?_;refine PD 4 ?_;refine PD 5 ?_;refine FD 6 15 jf aO ?_;refine LX 7 Y3 (.int .i64 ((ik .i64 v.took (cU who)))) ?_ (hc:=by exact VoteT.at_took _ rfl);refine AL 8 ?_;refine CE vm (iQ v.view (ik .i64 v.took (cU who))) ID ?_;refine EN (PD 9 ?_);refine DN (ac J6 (ai (WK [1] (aq rfl rfl ?_))));have e:gf v who b=((VoteT.mk v.view v.ballot v.change v.best v.vowed (ik .i64 v.took (cU who)) v.putting),gp v.view (ik .i64 v.took (cU who))):=by rw[gf,mP,decide_eq_true (show b.flat=v.ballot.flat from Decidable.not_not.1 h18),h26,h10,if_neg (by decide)]
 exact⟨congrArg (λq:VoteT×Bool=>Value.bool q.2) e.symm,congrArg (λq:VoteT×Bool=>[aj vb (VoteT.cells q.1) 227]) e.symm⟩;refine EN (PD 20 ?_);refine PD 21 ?_;refine DN (ac J3 (CY (sr λ_ J7=>PS ?_)));refine nx J7 (ai (ae (WK [1] (aq rfl rfl ?_))));have e:gf v who b=(v,false):=by rw[gf,mP,h26,if_pos (by rw[h10,lv];rfl)]
 exact⟨congrArg (λq:VoteT×Bool=>Value.bool q.2) e.symm,congrArg (λq:VoteT×Bool=>[aj vb (VoteT.cells q.1) 227]) e.symm⟩;refine PD 4 ?_;refine PD 5 ?_;refine NT 6 ?_;refine NT 7 ?_;refine NT 8 ?_;refine NT 9 ?_;refine NT 10 ?_;refine NT 11 ?_;refine PD 12 ?_;refine PD 13 ?_;refine NT 14 ?_;refine NT 15 ?_;refine NT 16 ?_;refine NT 17 ?_;refine NT 18 ?_;refine NT 19 ?_;refine NT 20 ?_;refine PD 21 ?_;refine DN (ac J3 (CY (sr λ_ J8=>PS ?_)));refine nx J8 (ai (ae (WK [1] (aq rfl rfl ?_))));have e:gf v who b=(v,false):=by rw[gf,h10,if_pos (by rfl)]
 exact⟨congrArg (λq:VoteT×Bool=>Value.bool q.2) e.symm,congrArg (λq:VoteT×Bool=>[aj vb (VoteT.cells q.1) 227]) e.symm⟩
theorem zj{δ:Type}(V:Env δ)(r vb:Nat)(s:MS δ)(vt:VoteT)(hv:s.vote=some vt)[OkR V.toDk s]:
 DT 174 #[(.pointer (some ⟨r,0,none⟩)),(.iface V.T V.ov)] T0 [uh V r s (.pointer (some ⟨vb,0,none⟩)),aj vb (VoteT.cells vt) 227] (dw (λ_ H=>H=[cD V r (kM V.toDk s vt.change)])):=by
 refine BD 32 Tryz.func174 rfl rfl rfl λw0 F hF=>aa λ_ J1=>eJ (α:=(Nat)) (λ_=>True) (λb4=>[(0,(.pointer (some ⟨r,0,none⟩))),(1,(.iface V.T V.ov)),(4,(.pointer (some ⟨b4,0,none⟩))),(5,(.int .i64 ((dB s.view vt.change).2)))]) (λb4=>[aj b4 (ints ((dB s.view vt.change).1).flat) 44,aj vb (VoteT.cells vt) 227,uh V r s (.pointer (some ⟨vb,0,none⟩))]) (λb4 _=>?_) (λtl1=>?_)
 refine ac J1 (aa λ_ J2=>sr λ_ J3=>cp (H':=cD V r s::[aj b4 (ints ((dB s.view vt.change).1).flat) 44]) (λ_ q=>np hv (az [2,1] rfl q)) (P2 ?_));refine am ?_ ?_<;>intro h20;refine PS ?_
 iterate 5 refine UT ?_
 refine PS ?_;refine nx J3 (CY (ai (ae (WK [0] (dy rfl ?_)))));exact MQ (by rw[kM,if_pos h20]);refine P3 ?_;refine LW 1 eL be ao ?_;refine CE GE (tm V r s ((dB s.view vt.change).1)) ID ?_;refine aX ?_ ?_<;>intro h25;refine PS ?_;refine PS ?_;refine nx J3 (CN (qx J2 (af (P2 ?_))));refine LW 1 eL be ao ?_;refine CZ GO (l9 V r (gW V.toDk s ((dB s.view vt.change).1)) ((dB s.view vt.change).1)) ID λvR=>?_
 refine au (WK [0] (bu rfl ?_));exact MQ (by rw[kM,if_neg h20,h25,if_pos rfl]);refine PS ?_;refine PS ?_;refine nx J3 (CY (ai (ae (WK [0] (dy rfl ?_)))));exact MQ (by rw[kM,if_neg h20,h25,if_neg (by decide)]);refine D1 1 bf ?_;refine PD 0 ?_;refine PD 1 ?_;refine FD 2 2 bg be ?_;refine PD 4 ?_;refine PD 5 ?_;refine FD 6 1067 bg iF ?_;refine cJ [3,7,13] (by kernel_rfl) rfl (aF rfl ?_ ?_);refine LZ 0 eL be ao s.view ?_ (hc:=by exact λ_=>cX _);refine EN (cJ [7,13] (by kernel_rfl) rfl (aF rfl ?_ ?_));refine LG 0 il (.pointer (some ⟨vb,0,none⟩)) ?_ (hc:=by exact λa_=>(bR _ rfl));refine EN (cJ [8,13] (by kernel_rfl) rfl (aF rfl ?_ ?_));refine CE nj (cW vb vt) (SM [1]) ?_;refine EN (cJ [9,13] (by kernel_rfl) rfl (aF rfl ?_ ?_));refine CE ml (dh s.view vt.change OkVw.rng) ID ?_;refine EN (PD 10 ?_);refine PD 11 ?_;refine PD 12 ?_;refine AL 13 ?_;refine XZ sV (ints ViewT.zero.flat) λb4=>?_
 refine EN (AL 14 ?_);refine SW 0 be ao ?_;refine EN (PD 15 ?_);refine DN ?_
 exact aE
  SB
  (λ_ s=>s)
  (tl1 ((b4):(Nat)) trivial)
 refine aF rfl ?_ ?_;refine XZ sV (ints ViewT.zero.flat) λb4=>?_
 refine EN (AL 9 ?_);refine CE ml (dh s.view vt.change OkVw.rng) ID ?_;refine EN (PD 10 ?_);refine PD 11 ?_;refine PD 12 ?_;refine AL 14 ?_;refine SW 0 be ao ?_;refine EN (PD 15 ?_);refine DN ?_
 exact aE
  SB
  (λ_ s=>s)
  (tl1 ((b4):(Nat)) trivial)
 exact bD;refine aF rfl ?_ ?_;refine XZ sV (ints ViewT.zero.flat) λb4=>?_
 refine EN (AL 8 ?_);refine CE nj (cW vb vt) (SM [2]) ?_;refine EN (AL 9 ?_);refine CE ml (dh s.view vt.change OkVw.rng) ID ?_;refine EN (PD 10 ?_);refine PD 11 ?_;refine PD 12 ?_;refine AL 14 ?_;refine SW 1 be ao ?_;refine EN (PD 15 ?_);refine DN ?_
 exact aE
  SB
  (λ_ s=>ak [1,0,0] rfl s)
  (tl1 ((b4):(Nat)) trivial)
 exact bD;refine aF rfl ?_ ?_;refine XZ sV (ints ViewT.zero.flat) λb4=>?_
 refine EN (AL 7 ?_);refine LG 1 il (.pointer (some ⟨vb,0,none⟩)) ?_ (hc:=by exact λa_=>(bR _ rfl));refine EN (AL 8 ?_);refine CE nj (cW vb vt) (SM [2]) ?_;refine EN (AL 9 ?_);refine CE ml (dh s.view vt.change OkVw.rng) ID ?_;refine EN (PD 10 ?_);refine PD 11 ?_;refine PD 12 ?_;refine AL 14 ?_;refine SW 1 be ao ?_;refine EN (PD 15 ?_);refine DN ?_
 exact aE
  SB
  (λ_ s=>ak [1,0,0] rfl s)
  (tl1 ((b4):(Nat)) trivial)
 exact bD;refine aF rfl ?_ ?_;refine LG 0 il (.pointer (some ⟨vb,0,none⟩)) ?_ (hc:=by exact λa_=>(bR _ rfl));refine EN (cJ [3,8,13] (by kernel_rfl) rfl (aF rfl ?_ ?_));refine LZ 0 eL be ao s.view ?_ (hc:=by exact λ_=>cX _);refine EN (cJ [8,13] (by kernel_rfl) rfl (aF rfl ?_ ?_));refine CE nj (cW vb vt) (SM [1]) ?_;refine EN (cJ [9,13] (by kernel_rfl) rfl (aF rfl ?_ ?_));refine CE ml (dh s.view vt.change OkVw.rng) ID ?_;refine EN (PD 10 ?_);refine PD 11 ?_;refine PD 12 ?_;refine AL 13 ?_;refine XZ sV (ints ViewT.zero.flat) λb4=>?_
 refine EN (AL 14 ?_);refine SW 0 be ao ?_;refine EN (PD 15 ?_);refine DN ?_
 exact aE
  SB
  (λ_ s=>s)
  (tl1 ((b4):(Nat)) trivial)
 refine aF rfl ?_ ?_;refine XZ sV (ints ViewT.zero.flat) λb4=>?_
 refine EN (AL 9 ?_);refine CE ml (dh s.view vt.change OkVw.rng) ID ?_;refine EN (PD 10 ?_);refine PD 11 ?_;refine PD 12 ?_;refine AL 14 ?_;refine SW 0 be ao ?_;refine EN (PD 15 ?_);refine DN ?_
 exact aE
  SB
  (λ_ s=>s)
  (tl1 ((b4):(Nat)) trivial)
 exact bD;refine aF rfl ?_ ?_;refine XZ sV (ints ViewT.zero.flat) λb4=>?_
 refine EN (AL 8 ?_);refine CE nj (cW vb vt) (SM [2]) ?_;refine EN (AL 9 ?_);refine CE ml (dh s.view vt.change OkVw.rng) ID ?_;refine EN (PD 10 ?_);refine PD 11 ?_;refine PD 12 ?_;refine AL 14 ?_;refine SW 1 be ao ?_;refine EN (PD 15 ?_);refine DN ?_
 exact aE
  SB
  (λ_ s=>ak [1,0,0] rfl s)
  (tl1 ((b4):(Nat)) trivial)
 exact bD;refine aF rfl ?_ ?_;refine CE nj (cW vb vt) (SM [1]) ?_;refine EN (cJ [3,13] (by kernel_rfl) rfl (aF rfl ?_ ?_));refine LZ 1 eL be ao s.view ?_ (hc:=by exact λ_=>cX _);refine EN (cJ [9,13] (by kernel_rfl) rfl (aF rfl ?_ ?_));refine CE ml (dh s.view vt.change OkVw.rng) ID ?_;refine EN (PD 10 ?_);refine PD 11 ?_;refine PD 12 ?_;refine AL 13 ?_;refine XZ sV (ints ViewT.zero.flat) λb4=>?_
 refine EN (AL 14 ?_);refine SW 0 be ao ?_;refine EN (PD 15 ?_);refine DN ?_
 exact aE
  SB
  (λ_ s=>s)
  (tl1 ((b4):(Nat)) trivial)
 refine aF rfl ?_ ?_;refine XZ sV (ints ViewT.zero.flat) λb4=>?_
 refine EN (AL 9 ?_);refine CE ml (dh s.view vt.change OkVw.rng) ID ?_;refine EN (PD 10 ?_);refine PD 11 ?_;refine PD 12 ?_;refine AL 14 ?_;refine SW 0 be ao ?_;refine EN (PD 15 ?_);refine DN ?_
 exact aE
  SB
  (λ_ s=>s)
  (tl1 ((b4):(Nat)) trivial)
 exact bD;refine aF rfl ?_ ?_;refine XZ sV (ints ViewT.zero.flat) λb4=>?_
 refine EN (AL 3 ?_);refine LZ 2 eL be ao s.view ?_ (hc:=by exact λ_=>cX _);refine EN (AL 9 ?_);refine CE ml (dh s.view vt.change OkVw.rng) ID ?_;refine EN (PD 10 ?_);refine PD 11 ?_;refine PD 12 ?_;refine AL 14 ?_;refine SW 0 be ao ?_;refine EN (PD 15 ?_);refine DN ?_
 exact aE
  SB
  (λ_ s=>s)
  (tl1 ((b4):(Nat)) trivial)
 exact bD;refine aF rfl ?_ ?_;refine XZ sV (ints ViewT.zero.flat) λb4=>?_
 refine EN (cJ [3,8] (by kernel_rfl) rfl (aF rfl ?_ ?_));refine LZ 1 eL be ao s.view ?_ (hc:=by exact λ_=>cX _);refine EN (AL 8 ?_);refine CE nj (cW vb vt) (SM [2]) ?_;refine EN (AL 9 ?_);refine CE ml (dh s.view vt.change OkVw.rng) ID ?_;refine EN (PD 10 ?_);refine PD 11 ?_;refine PD 12 ?_;refine AL 14 ?_;refine SW 1 be ao ?_;refine EN (PD 15 ?_);refine DN ?_
 exact aE
  SB
  (λ_ s=>ak [1,0,0] rfl s)
  (tl1 ((b4):(Nat)) trivial)
 refine aF rfl ?_ ?_;refine CE nj (cW vb vt) (SM [2]) ?_;refine EN (AL 3 ?_);refine LZ 2 eL be ao s.view ?_ (hc:=by exact λ_=>cX _);refine EN (AL 9 ?_);refine CE ml (dh s.view vt.change OkVw.rng) ID ?_;refine EN (PD 10 ?_);refine PD 11 ?_;refine PD 12 ?_;refine AL 14 ?_;refine SW 1 be ao ?_;refine EN (PD 15 ?_);refine DN ?_
 exact aE
  SB
  (λ_ s=>ak [1,0,0] rfl s)
  (tl1 ((b4):(Nat)) trivial)
 exact bD;exact bD;refine aF rfl ?_ ?_;refine XZ sV (ints ViewT.zero.flat) λb4=>?_
 refine EN (cJ [3,7] (by kernel_rfl) rfl (aF rfl ?_ ?_));refine LZ 1 eL be ao s.view ?_ (hc:=by exact λ_=>cX _);refine EN (AL 7 ?_);refine LG 1 il (.pointer (some ⟨vb,0,none⟩)) ?_ (hc:=by exact λa_=>(bR _ rfl));refine EN (AL 8 ?_);refine CE nj (cW vb vt) (SM [2]) ?_;refine EN (AL 9 ?_);refine CE ml (dh s.view vt.change OkVw.rng) ID ?_;refine EN (PD 10 ?_);refine PD 11 ?_;refine PD 12 ?_;refine AL 14 ?_;refine SW 1 be ao ?_;refine EN (PD 15 ?_);refine DN ?_
 exact aE
  SB
  (λ_ s=>ak [1,0,0] rfl s)
  (tl1 ((b4):(Nat)) trivial)
 refine aF rfl ?_ ?_;refine LG 1 il (.pointer (some ⟨vb,0,none⟩)) ?_ (hc:=by exact λa_=>(bR _ rfl));refine EN (cJ [3,8] (by kernel_rfl) rfl (aF rfl ?_ ?_));refine LZ 1 eL be ao s.view ?_ (hc:=by exact λ_=>cX _);refine EN (AL 8 ?_);refine CE nj (cW vb vt) (SM [2]) ?_;refine EN (AL 9 ?_);refine CE ml (dh s.view vt.change OkVw.rng) ID ?_;refine EN (PD 10 ?_);refine PD 11 ?_;refine PD 12 ?_;refine AL 14 ?_;refine SW 1 be ao ?_;refine EN (PD 15 ?_);refine DN ?_
 exact aE
  SB
  (λ_ s=>ak [1,0,0] rfl s)
  (tl1 ((b4):(Nat)) trivial)
 refine aF rfl ?_ ?_;refine CE nj (cW vb vt) (SM [2]) ?_;refine EN (AL 3 ?_);refine LZ 2 eL be ao s.view ?_ (hc:=by exact λ_=>cX _);refine EN (AL 9 ?_);refine CE ml (dh s.view vt.change OkVw.rng) ID ?_;refine EN (PD 10 ?_);refine PD 11 ?_;refine PD 12 ?_;refine AL 14 ?_;refine SW 1 be ao ?_;refine EN (PD 15 ?_);refine DN ?_
 exact aE
  SB
  (λ_ s=>ak [1,0,0] rfl s)
  (tl1 ((b4):(Nat)) trivial)
 exact bD;exact bD;exact bD
theorem zi{δ:Type}(V:Env δ)(r:Nat)(s:MS δ)(vt:VoteT)(hv:s.vote=some vt)[OkR V.toDk s]:DT 174 #[.pointer (some ⟨r,0,none⟩), .iface V.T V.ov] T0 [cD V r s] (dw (λ_ H=>H=[cD V r (kM V.toDk s vt.change)])):=
 Leg.Does.ex (λ_ q=>mm hv q) λvb=>zj V r vb s vt hv
theorem nq{δ:Type}{V:Env δ}{r:Nat}{s:MS δ}{H:List HP}{h:Hl}(hv:s.vote=none)(q:bH (uh V r s (.pointer none)::H) h):bH (cD V r s::H) h:=by
 have q2:=AB q
 rwa [show({s with vote:=none}:MS δ)=s by cases s;simp_all]at q2
theorem j9{δ:Type}(V:Env δ)(r:Nat)(s:MS δ)(f:MS δ→MS δ)(from':Int)(m:MsgT)[OkR V.toDk s][OkMg m](hfe:from'=s.id→m.epoch=s.view.epoch)(h3:m.kind=3→m.epoch=s.view.epoch→TK V r 170 (dd s (max s.round m.ballot.round)) from' m (f (dd s (max s.round m.ballot.round))))(h5:m.kind=5→m.epoch=s.view.epoch→TK V r 171 (dd s (max s.round m.ballot.round)) from' m (f (dd s (max s.round m.ballot.round))))(hn:m.kind≠3∧m.kind≠5→f (dd s (max s.round m.ballot.round))=(dd s (max s.round m.ballot.round)))(hv:m.kind=4∨m.kind=6→s.vote=none):
 DT 148 #[(.pointer (some ⟨r,0,none⟩)),(.iface V.T V.ov),(.int .i64 (from')),(.agg (ints m.flat).toArray)] T0 [cD V r s] (dw (λ_ H=>H=[cD V r (eE V.toDk f s from' m)])):=by
 refine BD 124 Tryz.func148 rfl rfl rfl λw0 F hF=>sr λ_ J1=>XY (ints m.flat) λb7=>?_
 refine nx J1 (aa λ_ J2=>aa λ_ J3=>DC bf (BL 0) (cN 1 rfl rfl) ?_);refine FD 0 177 a8 aO ?_;refine LR 1 Y3 (ez m rfl) ?_;refine PD 2 ?_;refine PD 3 ?_;refine FD 4 2 bg be ?_;refine FD 5 2 eL aO ?_;refine ta 6 rfl (c8 (v:=(.int .i64 (s.view.epoch))) rfl Y3 rfl rfl (λ_ h=>h.2.2.1) (λa_=>(cd (s.rep a_) 0 rfl (by decide) (bc _ rfl)))) ?_;refine PD 7 ?_;refine gF ?_ ?_<;>intro h15;refine DN (ac J3 (CY (aa λ_ J4=>sr λ_ J5=>FA 0 a8 aO ?_)));refine LU 0 Y3 (eG m rfl) ?_;refine PS ?_;refine am ?_ ?_<;>intro h18;refine PS ?_
 iterate 3 refine UT ?_
 refine PS ?_;refine nx J5 (CY (af ?_))
 iterate 5 refine PS ?_
 refine FA 2 bg be ?_;refine LZ 1 eL be ao s.view ?_ (hc:=by exact λ_=>cX _);refine tp (kw MsgT.zero (MsgT.mk 7 0 RowT.zero 0 0 BallotT.zero BallotT.zero ChangeT.zero s.view) [(0,[Value.int .i64 7]),(8,ints s.view.flat)] a8 bl (g:=MsgT.sg)) ?_;refine CZ iK (iY V r s from' (jK s.view) (λe=>absurd (hfe e) (by omega))) (SM [1]) λvR=>?_
 refine nx J4 (ai (ae (WK [0] (dy rfl ?_))));exact congrArg (λq=>[cD V r q]) (show(it V.toDk s ([SaidT.mk from' (jK s.view)]))=eE V.toDk f s from' m by rw[eE,if_pos h15,if_pos (.inl h18)];rfl);refine PS ?_;refine FA 0 a8 aO ?_;refine LU 0 Y3 (eG m rfl) ?_;refine PS ?_;refine am ?_ ?_<;>intro h22;refine PS ?_;refine nx J5 (CY (af ?_))
 iterate 5 refine PS ?_
 refine FA 2 bg be ?_;refine LZ 1 eL be ao s.view ?_ (hc:=by exact λ_=>cX _);refine tp (kw MsgT.zero (MsgT.mk 7 0 RowT.zero 0 0 BallotT.zero BallotT.zero ChangeT.zero s.view) [(0,[Value.int .i64 7]),(8,ints s.view.flat)] a8 bl (g:=MsgT.sg)) ?_;refine CZ iK (iY V r s from' (jK s.view) (λe=>absurd (hfe e) (by omega))) (SM [1]) λvR=>?_
 refine nx J4 (ai (ae (WK [0] (dy rfl ?_))));exact congrArg (λq=>[cD V r q]) (show(it V.toDk s ([SaidT.mk from' (jK s.view)]))=eE V.toDk f s from' m by rw[eE,if_pos h15,if_pos (.inr h22)];rfl);refine PS ?_;refine nx J5 (CN (qx J4 (ai (ae (WK [1] (dy rfl ?_))))));exact congrArg (λq=>[cD V r q]) (show s=eE V.toDk f s from' m by rw[eE,if_pos h15,if_neg (by omega)]);refine DN (ac J3 (CN (qx J2 (aa λ_ J6=>aa λ_ J7=>DC bf (BL 0) (cN 1 rfl rfl) ?_))));refine FD 0 177 a8 aO ?_;refine LR 1 Y3 (ez m rfl) ?_;refine PD 2 ?_;refine PD 3 ?_;refine FD 4 2 bg be ?_;refine FD 5 2 eL aO ?_;refine ta 6 rfl (c8 (v:=(.int .i64 (s.view.epoch))) rfl Y3 rfl rfl (λ_ h=>h.2.2.1) (λa_=>(cd (s.rep a_) 0 rfl (by decide) (bc _ rfl)))) ?_;refine PD 7 ?_;refine gF ?_ ?_<;>intro h40;refine PD 8 ?_;refine NT 9 ?_;refine NT 10 ?_;refine NT 11 ?_;refine NT 12 ?_;refine NT 13 ?_;refine NT 14 ?_;refine NT 15 ?_;refine NT 16 ?_;refine NT 17 ?_;refine NT 18 ?_;refine PD 19 ?_;refine DN (ac J7 (CY (ai (ae (WK [1] (dy rfl ?_))))));exact congrArg (λq=>[cD V r q]) (show s=eE V.toDk f s from' m by rw[eE,if_neg h15,if_pos (.inl (by omega))]);refine PD 8 ?_;refine PD 9 ?_;refine PD 10 ?_;refine FD 11 2 bg be ?_;refine tb 12 rfl (fI (vs:=ints s.view.flat) rfl eL rfl be rfl (λ_ h=>h.2.2.1) (ao s.view) (λa_=>(fD (s.rep a_) 0 rfl (by decide) (bk (ao ((s.rep a_).view)))))) ?_;refine PD 13 ?_;refine PD 14 ?_;refine FD 15 0 bg aO ?_
 refine tb 16 rfl (c8 (v:=(.int .i64 (s.id))) rfl Y3 rfl rfl (λ_ h=>h.2.2.1) (λa_=>(cB _ rfl))) ?_;refine AL 17 ?_;refine CE o9 (dv s.view s.id) ID ?_;refine aX ?_ ?_<;>intro h50;refine EN (PD 18 ?_);refine PD 19 ?_;refine DN (ac J7 (CN (qx J6 (aa λ_ J8=>D1 0 bf ?_))));refine PD 0 ?_;refine PD 1 ?_;refine PD 2 ?_;refine FD 3 1066 bg aO ?_;refine FD 5 178 a8 cv ?_;refine FD 6 178 jP aO ?_;refine LX 7 Y3 (.int .i64 (m.ballot.round)) ?_ (hc:=by exact MsgT.pt_ballot m 0 rfl (by decide) (eT m.ballot rfl));refine AL 4 ?_;refine LG 1 Y3 (.int .i64 (s.round)) ?_ (hc:=by exact λa_=>(tQ _ rfl));refine EN (ta 8 rfl (w6 rfl rfl rfl) ?_);refine PD 9 ?_;refine FD 10 1066 bg aO ?_;refine AL 11 ?_;refine SK 1 aO (λ_=>cM _) ?_ (hc:=by exact λa_=>(ll _ rfl _));refine EN (DN (ac J8 (sr λ_ J9=>FA 0 a8 aO ?_)));refine LU 0 Y3 (eG m rfl) ?_;refine nx J9 (ap (sr λ_ J10=>PS ?_));refine am ?_ ?_<;>intro h67;refine PS ?_;refine nx J10 (CY (af (P3 ?_)));refine LW 0 a8 bX aG ?_;refine CZ KX ((h3 (by omega) (by omega))) (SM [1]) λvR=>?_
 refine au (ag (WK [0] (bu rfl ?_)));exact congrArg (λq=>[cD V r q]) (show(f (dd s (max s.round m.ballot.round)))=eE V.toDk f s from' m by rw[eE,if_neg h15,if_neg (λh=>h.elim (λh=>absurd h (by omega)) (λh=>by rw[h50]at h;cases h))]);refine PS ?_;refine nx J10 (CN (sr λ_ J11=>PS ?_));refine am ?_ ?_<;>intro h74;refine PS ?_;refine nx J11 (CY (af (P3 ?_)));refine LW 0 a8 bX aG ?_;refine CZ KW ((h5 (by omega) (by omega))) (SM [1]) λvR=>?_
 refine au (ag (WK [0] (bu rfl ?_)));exact congrArg (λq=>[cD V r q]) (show(f (dd s (max s.round m.ballot.round)))=eE V.toDk f s from' m by rw[eE,if_neg h15,if_neg (λh=>h.elim (λh=>absurd h (by omega)) (λh=>by rw[h50]at h;cases h))]);refine PS ?_;refine nx J11 (CN (sr λ_ J12=>PS ?_));refine am ?_ ?_<;>intro h81;refine cp (H':=uh V r (dd s (max s.round m.ballot.round)) (.pointer none)::[aj b7 (ints m.flat) 178]) (λ_ q=>rE (hv (by omega)) (az [1] rfl q)) (PS ?_);refine nx J12 (CY (aa λ_ J13=>DC bf (cN 0 rfl rfl) (BL 1) ?_));refine PD 0 ?_;refine PD 1 ?_;refine FD 2 1067 bg iF ?_;refine ta 3 rfl (c8 (v:=(.pointer none)) rfl il rfl rfl (λ_ h=>h.2.1) (λa_=>(bR _ rfl))) ?_;refine ta 4 rfl (iz rfl il rfl rfl) ?_;refine PD 5 ?_;refine NT 6 ?_;refine NT 7 ?_;refine NT 8 ?_;refine NT 9 ?_;refine NT 10 ?_;refine NT 11 ?_;refine NT 12 ?_;refine NT 13 ?_;refine NT 14 ?_;refine NT 15 ?_;refine NT 16 ?_;refine NT 17 ?_;refine PD 18 ?_;refine DN (ac J13 (CN (aQ (ag (aE (H':=[cD V r (dd s (max s.round m.ballot.round))]) (dE _) (λ_ q=>nq (hv (by omega)) (ak [0] rfl q)) (bu rfl ?_))))));exact congrArg (λq=>[cD V r q]) (show(dd s (max s.round m.ballot.round))=eE V.toDk f s from' m by rw[eE,if_neg h15,if_neg (λh=>h.elim (λh=>absurd h (by omega)) (λh=>by rw[h50]at h;cases h)),hn (by omega)]);refine PS ?_;refine nx J12 (CN (sr λ_ J14=>PS ?_));refine am ?_ ?_<;>intro h105
 refine cp (H':=uh V r (dd s (max s.round m.ballot.round)) (.pointer none)::[aj b7 (ints m.flat) 178]) (λ_ q=>rE (hv (by omega)) (az [1] rfl q)) (PS ?_);refine nx J14 (CY (aa λ_ J15=>DC bf (cN 0 rfl rfl) (BL 1) ?_));refine PD 0 ?_;refine PD 1 ?_;refine FD 2 1067 bg iF ?_;refine ta 3 rfl (c8 (v:=(.pointer none)) rfl il rfl rfl (λ_ h=>h.2.1) (λa_=>(bR _ rfl))) ?_;refine ta 4 rfl (iz rfl il rfl rfl) ?_;refine PD 5 ?_;refine NT 6 ?_;refine NT 7 ?_;refine NT 8 ?_;refine NT 9 ?_;refine NT 10 ?_;refine NT 11 ?_;refine NT 12 ?_;refine NT 13 ?_;refine PD 14 ?_;refine DN (ac J15 (CN (aQ (ag (aE (H':=[cD V r (dd s (max s.round m.ballot.round))]) (dE _) (λ_ q=>nq (hv (by omega)) (ak [0] rfl q)) (bu rfl ?_))))));exact congrArg (λq=>[cD V r q]) (show(dd s (max s.round m.ballot.round))=eE V.toDk f s from' m by rw[eE,if_neg h15,if_neg (λh=>h.elim (λh=>absurd h (by omega)) (λh=>by rw[h50]at h;cases h)),hn (by omega)]);refine PS ?_;refine nx J14 (CN (aQ (ag (WK [1] (bu rfl ?_)))));exact congrArg (λq=>[cD V r q]) (show(dd s (max s.round m.ballot.round))=eE V.toDk f s from' m by rw[eE,if_neg h15,if_neg (λh=>h.elim (λh=>absurd h (by omega)) (λh=>by rw[h50]at h;cases h)),hn (by omega)]);refine EN (PD 18 ?_);refine PD 19 ?_;refine DN (ac J7 (CY (ai (ae (WK [1] (dy rfl ?_))))));exact congrArg (λq=>[cD V r q]) (show s=eE V.toDk f s from' m by rw[eE,if_neg h15,if_pos (.inr h50)])
theorem yt(v:VoteT)(w:Int)(b:BallotT):(gf v w b).1.change=v.change:=by unfold gf;split<;>rfl
theorem oR{δ:Type}(V:Env δ)(r:Nat)(s:MS δ)(vt:VoteT)(from':Int)(m:MsgT)[OkR V.toDk s][OkMg m](hfe:from'=s.id→m.epoch=s.view.epoch)(hk:m.kind=4∨m.kind=6)(hv:s.vote=some vt)(hp:m.kind=4→(eD vt from' m.ballot m.had m.change).2=true→DT 113 #[.pointer (some ⟨r,0,none⟩), .iface V.T V.ov] T0 [cD V r (kO (dd s (max s.round m.ballot.round)) (eD vt from' m.ballot m.had m.change).1)] (dw (λ_ H=>H=[cD V r (kh V.toDk (kO (dd s (max s.round m.ballot.round)) (eD vt from' m.ballot m.had m.change).1) (eD vt from' m.ballot m.had m.change).1)]))):
    DT 148 #[(.pointer (some ⟨r,0,none⟩)),(.iface V.T V.ov),(.int .i64 (from')),(.agg (ints m.flat).toArray)] T0 [cD V r s] (dw (λ_ H=>H=[cD V r (eE V.toDk (λs_=>if m.kind=4 then oL V.toDk from' m s_ else kQ V.toDk from' m s_) s from' m)])):=by
 refine BD 124 Tryz.func148 rfl rfl rfl λw0 F hF=>?_
 have hov:OkVt vt:=OkR.vote vt hv;refine sr λ_ J1=>XY (ints m.flat) λb7=>?_
 refine nx J1 (aa λ_ J2=>aa λ_ J3=>DC bf (BL 0) (cN 1 rfl rfl) ?_);refine FD 0 177 a8 aO ?_;refine LR 1 Y3 (ez m rfl) ?_;refine PD 2 ?_;refine PD 3 ?_;refine FD 4 2 bg be ?_;refine FD 5 2 eL aO ?_;refine ta 6 rfl (c8 (v:=(.int .i64 (s.view.epoch))) rfl Y3 rfl rfl (λ_ h=>h.2.2.1) (λa_=>(cd (s.rep a_) 0 rfl (by decide) (bc _ rfl)))) ?_;refine PD 7 ?_;refine gF ?_ ?_<;>intro h15;refine DN (ac J3 (CY (aa λ_ J4=>sr λ_ J5=>FA 0 a8 aO ?_)));refine LU 0 Y3 (eG m rfl) ?_;refine PS ?_;refine am ?_ ?_<;>intro h18;refine PS ?_
 iterate 3 refine UT ?_
 refine PS ?_;refine nx J5 (CY (af ?_))
 iterate 5 refine PS ?_
 refine FA 2 bg be ?_;refine LZ 1 eL be ao s.view ?_ (hc:=by exact λ_=>cX _);refine tp (kw MsgT.zero (MsgT.mk 7 0 RowT.zero 0 0 BallotT.zero BallotT.zero ChangeT.zero s.view) [(0,[Value.int .i64 7]),(8,ints s.view.flat)] a8 bl (g:=MsgT.sg)) ?_;refine CZ iK (iY V r s from' (jK s.view) (λe=>absurd (hfe e) (by omega))) (SM [1]) λvR=>?_
 refine nx J4 (ai (ae (WK [0] (dy rfl ?_))));exact MQ (by rw[eE,if_pos h15,if_pos (.inl h18)];rfl);refine PS ?_;refine FA 0 a8 aO ?_;refine LU 0 Y3 (eG m rfl) ?_;refine PS ?_;refine am ?_ ?_<;>intro h22;refine PS ?_;refine nx J5 (CY (af ?_))
 iterate 5 refine PS ?_
 refine FA 2 bg be ?_;refine LZ 1 eL be ao s.view ?_ (hc:=by exact λ_=>cX _);refine tp (kw MsgT.zero (MsgT.mk 7 0 RowT.zero 0 0 BallotT.zero BallotT.zero ChangeT.zero s.view) [(0,[Value.int .i64 7]),(8,ints s.view.flat)] a8 bl (g:=MsgT.sg)) ?_;refine CZ iK (iY V r s from' (jK s.view) (λe=>absurd (hfe e) (by omega))) (SM [1]) λvR=>?_
 refine nx J4 (ai (ae (WK [0] (dy rfl ?_))));exact MQ (by rw[eE,if_pos h15,if_pos (.inr h22)];rfl);refine PS ?_;refine nx J5 (CN (qx J4 (ai (ae (WK [1] (dy rfl ?_))))));exact MQ (by rw[eE,if_pos h15,if_neg (by omega)]);refine DN (ac J3 (CN (qx J2 (aa λ_ J6=>aa λ_ J7=>DC bf (BL 0) (cN 1 rfl rfl) ?_))));refine FD 0 177 a8 aO ?_;refine LR 1 Y3 (ez m rfl) ?_;refine PD 2 ?_;refine PD 3 ?_;refine FD 4 2 bg be ?_;refine FD 5 2 eL aO ?_;refine ta 6 rfl (c8 (v:=(.int .i64 (s.view.epoch))) rfl Y3 rfl rfl (λ_ h=>h.2.2.1) (λa_=>(cd (s.rep a_) 0 rfl (by decide) (bc _ rfl)))) ?_;refine PD 7 ?_;refine gF ?_ ?_<;>intro h40;refine PD 8 ?_;refine NT 9 ?_;refine NT 10 ?_;refine NT 11 ?_;refine NT 12 ?_;refine NT 13 ?_;refine NT 14 ?_;refine NT 15 ?_;refine NT 16 ?_;refine NT 17 ?_;refine NT 18 ?_;refine PD 19 ?_;refine DN (ac J7 (CY (ai (ae (WK [1] (dy rfl ?_))))));exact MQ (by rw[eE,if_neg h15,if_pos (.inl (by omega))]);refine PD 8 ?_;refine PD 9 ?_;refine PD 10 ?_;refine FD 11 2 bg be ?_;refine tb 12 rfl (fI (vs:=ints s.view.flat) rfl eL rfl be rfl (λ_ h=>h.2.2.1) (ao s.view) (λa_=>(fD (s.rep a_) 0 rfl (by decide) (bk (ao ((s.rep a_).view)))))) ?_;refine PD 13 ?_;refine PD 14 ?_;refine FD 15 0 bg aO ?_;refine tb 16 rfl (c8 (v:=(.int .i64 (s.id))) rfl Y3 rfl rfl (λ_ h=>h.2.2.1) (λa_=>(cB _ rfl))) ?_;refine AL 17 ?_;refine CE o9 (dv s.view s.id) ID ?_;refine aX ?_ ?_<;>intro h50;refine EN (PD 18 ?_);refine PD 19 ?_
 refine DN (ac J7 (CN (qx J6 (aa λ_ J8=>D1 0 bf ?_))));refine PD 0 ?_;refine PD 1 ?_;refine PD 2 ?_;refine FD 3 1066 bg aO ?_;refine FD 5 178 a8 cv ?_;refine FD 6 178 jP aO ?_;refine LX 7 Y3 (.int .i64 (m.ballot.round)) ?_ (hc:=by exact MsgT.pt_ballot m 0 rfl (by decide) (eT m.ballot rfl));refine AL 4 ?_;refine LG 1 Y3 (.int .i64 (s.round)) ?_ (hc:=by exact λa_=>(tQ _ rfl));refine EN (ta 8 rfl (w6 rfl rfl rfl) ?_);refine PD 9 ?_;refine FD 10 1066 bg aO ?_;refine AL 11 ?_;refine SK 1 aO (λ_=>cM _) ?_ (hc:=by exact λa_=>(ll _ rfl _));refine EN (DN (ac J8 (sr λ_ J9=>FA 0 a8 aO ?_)));refine LU 0 Y3 (eG m rfl) ?_;refine nx J9 (ap (sr λ_ J10=>PS ?_));refine am ?_ ?_<;>intro h67
 · exact absurd h67 (by omega)
 refine PS ?_;refine nx J10 (CN (sr λ_ J11=>PS ?_));refine am ?_ ?_<;>intro h74
 · exact absurd h74 (by omega)
 refine PS ?_;refine nx J11 (CN (sr λ_ J12=>PS ?_));refine am ?_ ?_<;>intro h81;refine Bq (H':=λvb:Nat=>uh V r (dd s (max s.round m.ballot.round)) (.pointer (some ⟨vb,0,none⟩))::aj vb (VoteT.cells vt) 227::[aj b7 (ints m.flat) 178]) (λ_ q=>mm (s:=(dd s (max s.round m.ballot.round))) hv (az [1] rfl q)) (λvb=>PS ?_);refine nx J12 (CY (aa λ_ J13=>D1 2 bf ?_));refine PD 0 ?_;refine PD 1 ?_;refine FD 2 1067 bg iF ?_;refine AL 3 ?_;refine LG 0 il (.pointer (some ⟨vb,0,none⟩)) ?_ (hc:=by exact λa_=>(bR _ rfl));refine EN (ta 4 rfl (iS rfl il rfl rfl) ?_);refine PD 5 ?_;refine PD 6 ?_;refine PD 7 ?_;refine FD 8 1067 bg iF ?_;refine PD 10 ?_;refine FD 11 178 a8 cv ?_;refine tb 12 rfl (aK (vs:=ints m.ballot.flat) rfl jP rfl cv rfl (λ_ h=>h.2.1) (an m.ballot) (iA m 0 rfl (by decide) (bk (an m.ballot)))) ?_;refine FD 13 180 a8 cv ?_;refine tb 14 rfl (aK (vs:=ints m.had.flat) rfl jP rfl cv rfl (λ_ h=>h.2.1) (an m.had) (M9 m 0 rfl (by decide) (bk (an m.had)))) ?_;refine FD 15 182 a8 fl ?_;refine tb 16 rfl (aK (vs:=ints m.change.flat) rfl mx rfl fl rfl (λ_ h=>h.2.1) (aI m.change) (mA m 0 rfl (by decide) (bk (aI m.change)))) ?_;refine AL 9 ?_;refine LG 0 il (.pointer (some ⟨vb,0,none⟩)) ?_ (hc:=by exact λa_=>(bR _ rfl));refine EN (AL 17 ?_);refine CE KV (BH vb vt from' m.ballot m.had m.change (OkMg.ballot) hov.ballot) (SM [1]) ?_;refine aX ?_ ?_<;>intro h99;refine EN (PD 18 ?_)
 refine DN (ac J13 (CY (af (cp (H':=cD V r (kO (dd s (max s.round m.ballot.round)) ((eD vt from' m.ballot m.had m.change).1))::[aj b7 (ints m.flat) 178]) (λ_ q=>nl (az [1,0] rfl q)) (P2 ?_)))));refine CZ DK ((hp (by omega) h99)) ID λvR=>?_
 refine au (ag (WK [0] (bu rfl ?_)))
 exact congrArg (λq=>[cD V r q]) (show _=eE V.toDk (λs_=>if m.kind=4 then oL V.toDk from' m s_ else kQ V.toDk from' m s_) s from' m by
                              rw[eE,if_neg h15,if_neg (λh=>h.elim (λh=>absurd h (by omega)) (λh=>by rw[h50]at h;cases h)),if_pos (by omega),oL];simp only[show(dd s (max s.round m.ballot.round)).vote=some vt from hv]
                              rw[if_pos h99])
 refine EN (PD 18 ?_);refine DN (ac J13 (CN (aQ (ag (aE (H':=[cD V r (kO (dd s (max s.round m.ballot.round)) (eD vt from' m.ballot m.had m.change).1)]) (dE _) (λ_ q=>nl (ak [1,0] rfl q)) (bu rfl ?_))))))
 exact congrArg (λq=>[cD V r q]) (show(kO (dd s (max s.round m.ballot.round)) (eD vt from' m.ballot m.had m.change).1)=eE V.toDk (λs_=>if m.kind=4 then oL V.toDk from' m s_ else kQ V.toDk from' m s_) s from' m by
                              rw[eE,if_neg h15,if_neg (λh=>h.elim (λh=>absurd h (by omega)) (λh=>by rw[h50]at h;cases h)),if_pos (by omega),oL];simp only[show(dd s (max s.round m.ballot.round)).vote=some vt from hv]
                              rw[if_neg (by rw[h99];decide)])
 refine PS ?_;refine nx J12 (CN (sr λ_ J14=>PS ?_));refine am ?_ ?_<;>intro h105;refine Bq (H':=λvb:Nat=>uh V r (dd s (max s.round m.ballot.round)) (.pointer (some ⟨vb,0,none⟩))::aj vb (VoteT.cells vt) 227::[aj b7 (ints m.flat) 178]) (λ_ q=>mm (s:=(dd s (max s.round m.ballot.round))) hv (az [1] rfl q)) (λvb=>PS ?_);refine nx J14 (CY (aa λ_ J15=>D1 2 bf ?_));refine PD 0 ?_;refine PD 1 ?_;refine FD 2 1067 bg iF ?_;refine AL 3 ?_;refine LG 0 il (.pointer (some ⟨vb,0,none⟩)) ?_ (hc:=by exact λa_=>(bR _ rfl));refine EN (ta 4 rfl (iS rfl il rfl rfl) ?_);refine PD 5 ?_;refine PD 6 ?_;refine PD 7 ?_;refine FD 8 1067 bg iF ?_;refine PD 10 ?_;refine FD 11 178 a8 cv ?_;refine tb 12 rfl (aK (vs:=ints m.ballot.flat) rfl jP rfl cv rfl (λ_ h=>h.2.1) (an m.ballot) (iA m 0 rfl (by decide) (bk (an m.ballot)))) ?_;refine AL 9 ?_;refine LG 0 il (.pointer (some ⟨vb,0,none⟩)) ?_ (hc:=by exact λa_=>(bR _ rfl));refine EN (AL 13 ?_);refine CE KU (BR vb vt from' m.ballot (OkMg.ballot) hov.ballot) (SM [1]) ?_;refine aX ?_ ?_<;>intro h119;refine EN (PD 14 ?_);refine DN (ac J15 (CY (af (cp (H':=cD V r (kO (dd s (max s.round m.ballot.round)) ((gf vt from' m.ballot).1))::[aj b7 (ints m.flat) 178]) (λ_ q=>nl (az [1,0] rfl q)) (P2 ?_)))));refine CZ KT (zi V r (kO (dd s (max s.round m.ballot.round)) (gf vt from' m.ballot).1) (gf vt from' m.ballot).1 rfl) ID λvR=>?_
 refine au (ag (WK [0] (bu rfl ?_)))
 exact congrArg (λq=>[cD V r q]) (show _=eE V.toDk (λs_=>if m.kind=4 then oL V.toDk from' m s_ else kQ V.toDk from' m s_) s from' m by
                                rw[eE,if_neg h15,if_neg (λh=>h.elim (λh=>absurd h (by omega)) (λh=>by rw[h50]at h;cases h)),if_neg (by omega),kQ];simp only[show(dd s (max s.round m.ballot.round)).vote=some vt from hv]
                                rw[if_pos h119,yt])
 refine EN (PD 14 ?_);refine DN (ac J15 (CN (aQ (ag (aE (H':=[cD V r (kO (dd s (max s.round m.ballot.round)) (gf vt from' m.ballot).1)]) (dE _) (λ_ q=>nl (ak [1,0] rfl q)) (bu rfl ?_))))))
 exact congrArg (λq=>[cD V r q]) (show(kO (dd s (max s.round m.ballot.round)) (gf vt from' m.ballot).1)=eE V.toDk (λs_=>if m.kind=4 then oL V.toDk from' m s_ else kQ V.toDk from' m s_) s from' m by
                                rw[eE,if_neg h15,if_neg (λh=>h.elim (λh=>absurd h (by omega)) (λh=>by rw[h50]at h;cases h)),if_neg (by omega),kQ];simp only[show(dd s (max s.round m.ballot.round)).vote=some vt from hv]
                                rw[if_neg (by rw[h119];decide)])
 · exact absurd h105 (by omega)
 refine EN (PD 18 ?_);refine PD 19 ?_;refine DN (ac J7 (CY (ai (ae (WK [1] (dy rfl ?_))))));exact MQ (by rw[eE,if_neg h15,if_pos (.inr h50)])
theorem qd{δ:Type}(V:Env δ)(r:Nat)(s:MS δ)(from':Int)(m:MsgT)[OkR V.toDk s][OkMg m](hfe:from'=s.id→m.epoch=s.view.epoch)(hk:m.kind=6):TK V r 105 s from' m (qe V.toDk s from' m):=nK (.inr (.inr (.inr hk))) (by
 cases hv:s.vote with
 |none=>exact j9 V r s (kQ V.toDk from' m) from' m hfe (λe=>by omega) (λe=>by omega) (λ_=>by rw[kQ,show(dd s (max s.round m.ballot.round)).vote=none from hv]) (λ_=>hv)
 |some vt=>
  have h:=oR V r s vt from' m hfe (.inr hk) hv (λe=>by omega)
  rwa [show(λs_:MS δ=>if m.kind=4 then oL V.toDk from' m s_ else kQ V.toDk from' m s_)=kQ V.toDk from' m from funext λ_=>if_neg (by omega)]at h)
theorem wz{δ:Type}(V:Env δ)(r:Nat)(s:MS δ)(from':Int)(m:MsgT)[OkR V.toDk s][OkMg m](hep:m.epoch=s.view.epoch):
 DT 171 #[(.pointer (some ⟨r,0,none⟩)),(.iface V.T V.ov),(.int .i64 (from')),(.agg (ints m.flat).toArray)] T0 [cD V r s] (dw (λ_ H=>H=[cD V r (oi V.toDk from' m s)])):=by
 refine BD 69 Tryz.func171 rfl rfl rfl λw0 F hF=>sr λ_ J1=>XY (ints m.flat) λb7=>?_
 refine nx J1 (aa λ_ J2=>aa λ_ J3=>eJ (α:=Unit) (λ_u=>True) (λ_u=>[(0,(.pointer (some ⟨r,0,none⟩))),(1,(.iface V.T V.ov)),(2,(.int .i64 (from'))),(7,(.pointer (some ⟨b7,0,none⟩))),(9,(.int .i64 ((dB s.view m.change).2)))]) (λ_u=>[cD V r s,aj b7 (ints m.flat) 178]) (λ_u hinv=>?_) (λtl3=>?_));have _:=hinv;refine ac J3 (sr λ_ J4=>P2 ?_);refine am ?_ ?_<;>intro h23;refine nx J4 (CY (ai (ae (WK [0] (dy rfl ?_)))));exact MQ (by rw[oi,if_pos h23]);refine nx J4 (CN (qx J2 (aa λ_ J5=>eJ (α:=(Nat)) (λb10=>True) (λb10=>[(0,(.pointer (some ⟨r,0,none⟩))),(1,(.iface V.T V.ov)),(2,(.int .i64 (from'))),(7,(.pointer (some ⟨b7,0,none⟩))),(10,(.pointer (some ⟨b10,0,none⟩))),(11,(.bool ((gh s.acc m.epoch m.ballot m.change).2)))]) (λb10=>[cD V r s,aj b7 (ints m.flat) 178,aj b10 (ints ((gh s.acc m.epoch m.ballot m.change).1).flat) 118]) (λb10 hinv=>?_) (λtl5=>?_))));have _:=hinv;refine ac J5 (aa λ_ J6=>sr λ_ J7=>PS ?_);refine aX ?_ ?_<;>intro h38;refine PS ?_;refine nx J7 (CN (qx J6 (aa λ_ J8=>aa λ_ J9=>DC bf (BL 2) (cN 0 rfl rfl) ?_)));refine LY 0 iw dq aW ?_;refine PD 1 ?_;refine PD 2 ?_;refine FD 3 1058 bg dq ?_;refine ta 4 rfl (fI (vs:=ints s.acc.flat) rfl iw rfl dq rfl (λ_ h=>h.2.2.1) (aW s.acc) (λa_=>(wZ (s.rep a_) 0 rfl (by decide) (bk (aW ((s.rep a_).acc)))))) ?_
 refine ta 5 rfl (oy (a:=((gh s.acc m.epoch m.ballot m.change).1).flat) (b:=s.acc.flat) (m:=6) (c:=8) Kj Kh rfl Lv (ct (aW ((gh s.acc m.epoch m.ballot m.change).1))) (ct (aW s.acc)) ⟨eC I9 Ja (ct (aW ((gh s.acc m.epoch m.ballot m.change).1))),eC I9 Ja (ct (aW s.acc))⟩ (OkAc.wf) (OkAc.wf) rfl rfl rfl) ?_;refine gF ?_ ?_<;>intro h45;refine DN (ac J9 (CY (aa λ_ J10=>sr λ_ J11=>PS ?_)));refine FA 177 a8 aO ?_;refine LU 1 Y3 (ez m rfl) ?_;refine FA 178 a8 cv ?_;refine LV 1 jP cv an nB (y:=m.ballot) ?_;refine FA 182 a8 fl ?_;refine LV 1 mx fl aI MsgT.sp_change (y:=m.change) ?_;refine tp (kw RecT.zero (RecT.mk 4 0 RowT.zero m.epoch m.ballot m.change ViewT.zero) [(0,[Value.int .i64 4]),(3,[Value.int .i64 m.epoch]),(4,ints m.ballot.flat),(5,ints m.change.flat)] iy eQ (g:=RecT.sg)) ?_;refine CE vn (kB V r s (lO m.epoch m.ballot m.change)) ID ?_;refine PS ?_;refine am ?_ ?_<;>intro h55;refine nx J11 (CY (ai (ae (ae (WK [0] (dy rfl ?_))))));exact MQ (by rw[oi,if_neg h23,if_neg (by rw[h38];decide),if_pos h45,if_pos h55]);refine nx J11 (CN (qx J10 (af (PS ?_))));refine LW 2 iw dq aW ?_;refine PS ?_;refine FA 1058 bg dq ?_
 refine gD (vs:=ints ((gh s.acc m.epoch m.ballot m.change).1).flat) (i:=0) (ab rfl) rfl rfl rfl rfl rfl (by rw[(aW ((gh s.acc m.epoch m.ballot m.change).1))];exact dq) (bG _) rfl rfl (λ_=>LC (cM _) (aW _)) (λa_=>(jZ ((dY V.toDk s (lO m.epoch m.ballot m.change)).rep a_) 0 rfl (by have h1:=(aW ((gh s.acc m.epoch m.ballot m.change).1));omega) (cz ((aW (((dY V.toDk s (lO m.epoch m.ballot m.change)).rep a_).acc)).trans (aW ((gh s.acc m.epoch m.ballot m.change).1)).symm)))) (nx J8 (af (P3 ?_)));refine FA 177 a8 aO ?_;refine LU 1 Y3 (ez m rfl) ?_;refine FA 178 a8 cv ?_;refine LV 1 jP cv an nB (y:=m.ballot) ?_;refine tp (kw MsgT.zero (MsgT.mk 6 0 RowT.zero 0 m.epoch m.ballot BallotT.zero ChangeT.zero ViewT.zero) [(0,[Value.int .i64 6]),(4,[Value.int .i64 m.epoch]),(5,ints m.ballot.flat)] a8 bl (g:=MsgT.sg)) ?_;refine CZ iK (fS V r (wh (dY V.toDk s (lO m.epoch m.ballot m.change)) (gh s.acc m.epoch m.ballot m.change).1) from' (jv m.epoch m.ballot) (λs_=>qe V.toDk s_ s_.id (jv m.epoch m.ballot)) (λ_=>qd V r (wh (dY V.toDk s (lO m.epoch m.ballot m.change)) (gh s.acc m.epoch m.ballot m.change).1) (wh (dY V.toDk s (lO m.epoch m.ballot m.change)) (gh s.acc m.epoch m.ballot m.change).1).id (jv m.epoch m.ballot) (λ_=>hep) rfl)) ID λvR=>?_
 refine au (WK [0] (bu rfl ?_));exact MQ (by rw[oi,if_neg h23,if_neg (by rw[h38];decide),if_pos h45,if_neg h55];rfl);refine DN (ac J9 (CN (qx J8 (af (P3 ?_)))));refine FA 177 a8 aO ?_;refine LU 1 Y3 (ez m rfl) ?_;refine FA 178 a8 cv ?_;refine LV 1 jP cv an nB (y:=m.ballot) ?_;refine tp (kw MsgT.zero (MsgT.mk 6 0 RowT.zero 0 m.epoch m.ballot BallotT.zero ChangeT.zero ViewT.zero) [(0,[Value.int .i64 6]),(4,[Value.int .i64 m.epoch]),(5,ints m.ballot.flat)] a8 bl (g:=MsgT.sg)) ?_;refine CZ iK (fS V r s from' (jv m.epoch m.ballot) (λs_=>qe V.toDk s_ s_.id (jv m.epoch m.ballot)) (λ_=>qd V r s s.id (jv m.epoch m.ballot) (λ_=>hep) rfl)) ID λvR=>?_
 refine au (WK [0] (bu rfl ?_));exact MQ (by rw[oi,if_neg h23,if_neg (by rw[h38];decide),if_neg h45];rfl);refine PS ?_;refine nx J7 (CY (ai (ae (WK [0] (dy rfl ?_)))));exact MQ (by rw[oi,if_neg h23,if_pos h38]);refine DC bf (cN 0 rfl rfl) (BL 1) ?_;refine PD 0 ?_;refine PD 1 ?_;refine FD 2 1058 bg dq ?_;refine ta 3 rfl (fI (vs:=ints s.acc.flat) rfl iw rfl dq rfl (λ_ h=>h.2.1) (aW s.acc) (λa_=>(wZ (s.rep a_) 0 rfl (by decide) (bk (aW ((s.rep a_).acc)))))) ?_;refine FD 4 177 a8 aO ?_;refine LR 5 Y3 (ez m rfl) ?_;refine FD 6 178 a8 cv ?_;refine ta 7 rfl (aK (vs:=ints m.ballot.flat) rfl jP rfl cv rfl (λ_ h=>h.2.2.1) (an m.ballot) (iA m 0 rfl (by decide) (bk (an m.ballot)))) ?_;refine FD 8 182 a8 fl ?_;refine ta 9 rfl (aK (vs:=ints m.change.flat) rfl mx rfl fl rfl (λ_ h=>h.2.2.1) (aI m.change) (mA m 0 rfl (by decide) (bk (aI m.change)))) ?_;refine cJ [10,14] (by kernel_rfl) rfl (aF rfl ?_ ?_);refine CE IJ (tF s.acc m.epoch m.ballot m.change) ID ?_;refine EN (PD 11 ?_);refine PD 12 ?_;refine PD 13 ?_;refine qK ?_ ?_<;>intro h37;refine AL 14 ?_;refine XZ uk (ints AccT.zero.flat) λb10=>?_
 refine EN (AL 15 ?_);refine SW 0 dq aW ?_;refine EN (PD 16 ?_);refine DN ?_
 exact aE
  (aS (aS (aS (aS (aS (bC rfl (by rw[h37]) SB))))))
  (λ_ s=>ak [1,1,0] rfl s)
  (tl5 ((b10):(Nat)) trivial)
 refine AL 14 ?_;refine XZ uk (ints AccT.zero.flat) λb10=>?_
 refine EN (AL 15 ?_);refine SW 0 dq aW ?_;refine EN (PD 16 ?_);refine DN ?_
 exact aE
  (aS (aS (aS (aS (aS (bC rfl (by rw[h37]) SB))))))
  (λ_ s=>ak [1,1,0] rfl s)
  (tl5 ((b10):(Nat)) trivial)
 refine aF rfl ?_ ?_;refine XZ uk (ints AccT.zero.flat) λb10=>?_
 refine EN (AL 10 ?_);refine CE IJ (tF s.acc m.epoch m.ballot m.change) ID ?_;refine EN (PD 11 ?_);refine PD 12 ?_;refine PD 13 ?_;refine qK ?_ ?_<;>intro h37;refine AL 15 ?_;refine SW 0 dq aW ?_;refine EN (PD 16 ?_);refine DN ?_
 exact aE
  (aS (aS (aS (aS (aS (bC rfl (by rw[h37]) SB))))))
  (λ_ s=>ak [1,1,0] rfl s)
  (tl5 ((b10):(Nat)) trivial)
 refine AL 15 ?_;refine SW 0 dq aW ?_;refine EN (PD 16 ?_);refine DN ?_
 exact aE
  (aS (aS (aS (aS (aS (bC rfl (by rw[h37]) SB))))))
  (λ_ s=>ak [1,1,0] rfl s)
  (tl5 ((b10):(Nat)) trivial)
 exact bD;refine DC bf (cN 1 rfl rfl) (BL 0) ?_;refine PD 0 ?_;refine PD 1 ?_;refine FD 2 2 bg be ?_;refine ta 3 rfl (fI (vs:=ints s.view.flat) rfl eL rfl be rfl (λ_ h=>h.2.1) (ao s.view) (λa_=>(fD (s.rep a_) 0 rfl (by decide) (bk (ao ((s.rep a_).view)))))) ?_;refine FD 4 182 a8 fl ?_;refine ta 5 rfl (aK (vs:=ints m.change.flat) rfl mx rfl fl rfl (λ_ h=>h.2.2.1) (aI m.change) (mA m 0 rfl (by decide) (bk (aI m.change)))) ?_;refine cJ [6,10] (by kernel_rfl) rfl (aF rfl ?_ ?_);refine CE ml (dh s.view m.change OkVw.rng) ID ?_;refine EN (PD 7 ?_);refine PD 8 ?_;refine PD 9 ?_;refine AL 10 ?_;refine XZ sV (ints ViewT.zero.flat) λb8=>?_
 refine EN (AL 11 ?_);refine SW 0 be ao ?_;refine EN (PD 12 ?_);refine DN ?_
 exact aE
  SB
  (λ_ s=>ak [2,1] rfl s)
  (tl3 (():Unit) trivial)
 refine aF rfl ?_ ?_;refine XZ sV (ints ViewT.zero.flat) λb8=>?_
 refine EN (AL 6 ?_);refine CE ml (dh s.view m.change OkVw.rng) ID ?_;refine EN (PD 7 ?_);refine PD 8 ?_;refine PD 9 ?_;refine AL 11 ?_;refine SW 0 be ao ?_;refine EN (PD 12 ?_);refine DN ?_
 exact aE
  SB
  (λ_ s=>ak [2,1] rfl s)
  (tl3 (():Unit) trivial)
 exact bD
theorem uG{δ:Type}(V:Env δ)(r:Nat)(s:MS δ)(from':Int)(m:MsgT)[OkR V.toDk s][OkMg m](hfe:from'=s.id→m.epoch=s.view.epoch)(hk:m.kind=5):TK V r 105 s from' m (st V.toDk s from' m):=nK (by omega) (j9 V r s (oi V.toDk from' m) from' m hfe (λe _=>by omega) (λ_ hep=>wz V r (dd s (max s.round m.ballot.round)) from' m hep) (λe=>by omega) (λe=>by omega))
theorem wE{δ:Type}(V:Env δ)(r vb:Nat)(s:MS δ)(vt:VoteT)(hv:s.vote=some vt)(hpt:vt.putting=true)[OkR V.toDk s][OkVt vt]:
 DT 113 #[(.pointer (some ⟨r,0,none⟩)),(.iface V.T V.ov)] T0 [uh V r s (.pointer (some ⟨vb,0,none⟩)),aj vb (VoteT.cells vt) 227] (dw (λ_ H=>H=[cD V r (kh V.toDk s vt)])):=by
 refine BD 68 Tryz.func113 rfl rfl rfl λw0 F hF=>aa λ_ J1=>eJ (α:=(Nat)) (λb4=>True) (λb4=>[(0,(.pointer (some ⟨r,0,none⟩))),(1,(.iface V.T V.ov)),(4,(.pointer (some ⟨b4,0,none⟩)))]) (λb4=>[uh V r s (.pointer (some ⟨vb,0,none⟩)),aj vb (VoteT.cells vt) 227,aj b4 (ints (fk s.view.epoch vt.ballot).flat) 178]) (λb4 hinv=>?_) (λtl1=>?_)
 have _:=hinv;refine ac J1 (aa λ_ J2=>sr λ_ J3=>P2 ?_);refine FA 1067 bg iF ?_;refine LG 0 il (.pointer (some ⟨vb,0,none⟩)) ?_ (hc:=by exact λa_=>(bR _ rfl));refine CE IS (m6 vb vt) (SM [1]) ?_;refine aX ?_ ?_<;>intro h22;refine nx J3 (CY (af (P2 ?_)));refine FA 1067 bg iF ?_;refine LG 1 il (.pointer (some ⟨vb,0,none⟩)) ?_ (hc:=by exact λa_=>(bR _ rfl));refine CE nj (cW vb vt) ID ?_;refine FA 0 a8 aO ?_;refine SS 2 aO (aG _) (MsgT.set_kind _ rfl _) ?_;refine FA 182 a8 fl ?_;refine SP 2 fl aI aG LL ?_;refine nx J2 (sr λ_ J4=>cp (H':=cD V r s::[aj b4 (ints (MsgT.mk 5 ((fk s.view.epoch vt.ballot).whose) ((fk s.view.epoch vt.ballot).row) ((fk s.view.epoch vt.ballot).version) ((fk s.view.epoch vt.ballot).epoch) ((fk s.view.epoch vt.ballot).ballot) ((fk s.view.epoch vt.ballot).had) vt.change ((fk s.view.epoch vt.ballot).view)).flat) 178]) (λ_ q=>np hv (az [1,0] rfl q)) (P2 ?_));refine FA 2 bg be ?_;refine LZ 0 eL be ao s.view ?_ (hc:=by exact λ_=>cX _);refine XZ sV (ints ViewT.zero.flat) λb5=>?_
 refine SW 0 be ao ?_;refine nx J4 (aa λ_ J5=>sr λ_ J6=>PS ?_);refine nx J6 (ap ?_)
 refine bB (α:=(Nat)) (λk=>k≤5) (λk=>[(0,(.pointer (some ⟨r,0,none⟩))),(1,(.iface V.T V.ov)),(4,(.pointer (some ⟨b4,0,none⟩))),(5,(.pointer (some ⟨b5,0,none⟩))),(34,(.int .i64 (((k:Nat):Int))))]) (λk=>[aj b5 (ints s.view.flat) 44,aj b4 (ints (iI s.view.epoch vt.ballot vt.change).flat) 178,cD V r (it V.toDk s (ni s.id (iI s.view.epoch vt.ballot vt.change) (λi=>iu s.view ((i:Nat):Int)) k))]) (λk=>5-k) 0
  (aN _) SB
  (λ_ q=>by
  rw[show ni s.id (iI s.view.epoch vt.ballot vt.change) (λi=>iu s.view ((i:Nat):Int)) 0=[]from rfl,oZ]
  exact ak [0,1,0] rfl q) (λk hinv=>?_)
 obtain hk:=hinv;refine sr λ_ J7=>PS ?_
 refine am ?_ ?_<;>intro h35;refine nx J7 (aa λ_ J8=>CY (qx J8 (aa λ_ J9=>ap (sr λ_ J10=>P2 ?_))));refine nx J10 (sr λ_ J11=>P3 ?_);refine FA 0 bg aO ?_;refine LG 2 Y3 (.int .i64 (s.id)) ?_ (hc:=by exact λa_=>(cB _ rfl));refine PS ?_;refine am ?_ ?_<;>intro h42;refine PS ?_;refine LW 0 eL be ao ?_;refine PS ?_;refine CE o9 (dv s.view ((k:Nat):Int)) ID ?_;refine aX ?_ ?_<;>intro h46;refine PS ?_;refine nx J11 (CY (af (P3 ?_)));refine LW 1 a8 bX aG ?_;refine CZ iK (nb V r s (ni s.id (iI s.view.epoch vt.ballot vt.change) (λi=>iu s.view ((i:Nat):Int)) k) ((k:Nat):Int) (iI s.view.epoch vt.ballot vt.change) h42) (SM [2]) λvR=>?_
 refine au (ag (ac J9 (af (AD ?_))));refine PS ?_;refine au ?_
 exact aJ ((k+1):(Nat)) (by omega) (by show 5- (k+1)<5-k;omega)
  SB
  (λ_ q=>by
   rw[ie,if_pos ⟨h42,h46⟩]
   exact ak [1,1,0] rfl q)
 refine PS ?_;refine nx J11 (CN (aQ (ag (ac J9 (af (AD ?_))))));refine PS ?_;refine au ?_
 exact aJ ((k+1):(Nat)) (by omega) (by show 5- (k+1)<5-k;omega)
  SB
  (λ_ q=>by
   rw[ie,if_neg (λh=>by have:=h.2;rw[h46]at this;cases this)];rw[aM]
   exact ak [0,0,0] rfl q)
 refine PS ?_
 iterate 3 refine UF ?_
 refine PS ?_;refine nx J11 (CN (aQ (ag (ac J9 (af (AD ?_))))));refine PS ?_;refine au ?_
 exact aJ ((k+1):(Nat)) (by omega) (by show 5- (k+1)<5-k;omega)
  SB
  (λ_ q=>by
   rw[ie,if_neg (λh=>h42 h.1)];rw[aM]
   exact ak [0,0,0] rfl q)
 obtain rfl:k=5:=by omega
 refine nx J7 (aa λ_ J12=>CN (aZ (aB (aB (bw (ac J5 (aa λ_ J13=>DC bf (BL 0) (cN 2 rfl rfl) ?_)))))));refine LY 0 eL be ao ?_;refine PD 1 ?_;refine PD 2 ?_;refine FD 3 0 bg aO ?_;refine ta 4 rfl (c8 (v:=(.int .i64 ((jr V.toDk s (iI s.view.epoch vt.ballot vt.change)).id))) rfl Y3 rfl rfl (λ_ h=>h.2.2.1) (λa_=>(cB _ rfl))) ?_;refine AL 5 ?_;refine CE o9 (dv s.view ((jr V.toDk s (iI s.view.epoch vt.ballot vt.change)).id)) ID ?_;refine aX ?_ ?_<;>intro h59;refine EN (DN (ac J13 (CY (D1 1 bf ?_))));refine PD 0 ?_;refine PD 1 ?_;refine PD 2 ?_;refine PD 3 ?_;refine FD 4 0 bg aO ?_;refine LY 6 a8 bX aG ?_;refine AL 5 ?_;refine LG 2 Y3 (.int .i64 ((jr V.toDk s (iI s.view.epoch vt.ballot vt.change)).id)) ?_ (hc:=by exact λa_=>(cB _ rfl));refine EN (AL 7 ?_);refine CZ iK (fS V r (jr V.toDk s (iI s.view.epoch vt.ballot vt.change)) s.id (iI s.view.epoch vt.ballot vt.change) (λs_=>st V.toDk s_ s_.id (iI s.view.epoch vt.ballot vt.change)) (λ_=>uG V r (jr V.toDk s (iI s.view.epoch vt.ballot vt.change)) s.id (iI s.view.epoch vt.ballot vt.change) (λ_=>rfl) rfl)) (SM [2]) λvR=>?_
 refine EN (DN (WK [0] (bu rfl ?_)));exact MQ (by rw[kh,jx,if_pos (show iu s.view s.id=true from h59),mH,if_pos (show s.id=(jr V.toDk s (iI s.view.epoch vt.ballot vt.change)).id from rfl)]<;>rfl);refine EN (DN (ac J13 (CN (aQ (WK [2] (bu rfl ?_))))));exact MQ (by rw[kh,jx,if_neg (by rw[show iu s.view s.id=false from h59];decide)]<;>rfl)
 · rw[hpt]at h22;cases h22
 refine D1 1 bf ?_;refine PD 0 ?_;refine PD 1 ?_;refine FD 2 2 bg be ?_;refine FD 3 2 eL aO ?_;refine PD 5 ?_;refine PD 6 ?_;refine FD 7 1067 bg iF ?_;refine cJ [4,8,11] (by kernel_rfl) rfl (aF rfl ?_ ?_);refine LG 0 Y3 (.int .i64 (s.view.epoch)) ?_ (hc:=by exact λa_=>(cd (s.rep ⟨(a_:Nat×Value).1,(.pointer (some ⟨vb,0,none⟩)),a_.2⟩) 0 rfl (by decide) (bc _ rfl)));refine EN (cJ [8,11] (by kernel_rfl) rfl (aF rfl ?_ ?_));refine LG 0 il (.pointer (some ⟨vb,0,none⟩)) ?_ (hc:=by exact λa_=>(bR _ rfl));refine EN (cJ [9,11] (by kernel_rfl) rfl (aF rfl ?_ ?_));refine CE jp (bF vb vt) (SM [1]) ?_;refine EN (ta 10 rfl (kw MsgT.zero (MsgT.mk 3 0 RowT.zero 0 s.view.epoch vt.ballot BallotT.zero ChangeT.zero ViewT.zero) [(0,[Value.int .i64 3]),(4,[Value.int .i64 s.view.epoch]),(5,ints vt.ballot.flat)] a8 bl (g:=MsgT.sg)) ?_);refine AL 11 ?_;refine XZ lN (ints MsgT.zero.flat) λb4=>?_
 refine EN (AL 12 ?_);refine SW 0 bX aG ?_;refine EN (DN ?_)
 exact aE
  SB
  (λ_ s=>ak [2,1,0] rfl s)
  (tl1 ((b4):(Nat)) trivial)
 refine aF rfl ?_ ?_;refine XZ lN (ints MsgT.zero.flat) λb4=>?_
 refine EN (AL 9 ?_);refine CE jp (bF vb vt) (SM [2]) ?_;refine EN (ta 10 rfl (kw MsgT.zero (MsgT.mk 3 0 RowT.zero 0 s.view.epoch vt.ballot BallotT.zero ChangeT.zero ViewT.zero) [(0,[Value.int .i64 3]),(4,[Value.int .i64 s.view.epoch]),(5,ints vt.ballot.flat)] a8 bl (g:=MsgT.sg)) ?_);refine AL 12 ?_;refine SW 1 bX aG ?_;refine EN (DN ?_)
 exact aE
  SB
  (λ_ s=>ak [2,0,0] rfl s)
  (tl1 ((b4):(Nat)) trivial)
 exact bD;refine aF rfl ?_ ?_;refine XZ lN (ints MsgT.zero.flat) λb4=>?_
 refine EN (AL 8 ?_);refine LG 1 il (.pointer (some ⟨vb,0,none⟩)) ?_ (hc:=by exact λa_=>(bR _ rfl));refine EN (AL 9 ?_);refine CE jp (bF vb vt) (SM [2]) ?_;refine EN (ta 10 rfl (kw MsgT.zero (MsgT.mk 3 0 RowT.zero 0 s.view.epoch vt.ballot BallotT.zero ChangeT.zero ViewT.zero) [(0,[Value.int .i64 3]),(4,[Value.int .i64 s.view.epoch]),(5,ints vt.ballot.flat)] a8 bl (g:=MsgT.sg)) ?_);refine AL 12 ?_;refine SW 1 bX aG ?_;refine EN (DN ?_)
 exact aE
  SB
  (λ_ s=>ak [2,0,0] rfl s)
  (tl1 ((b4):(Nat)) trivial)
 exact bD;refine aF rfl ?_ ?_;refine LG 0 il (.pointer (some ⟨vb,0,none⟩)) ?_ (hc:=by exact λa_=>(bR _ rfl));refine EN (cJ [4,9,11] (by kernel_rfl) rfl (aF rfl ?_ ?_));refine LG 0 Y3 (.int .i64 (s.view.epoch)) ?_ (hc:=by exact λa_=>(cd (s.rep ⟨(a_:Nat×Value).1,(.pointer (some ⟨vb,0,none⟩)),a_.2⟩) 0 rfl (by decide) (bc _ rfl)));refine EN (cJ [9,11] (by kernel_rfl) rfl (aF rfl ?_ ?_));refine CE jp (bF vb vt) (SM [1]) ?_;refine EN (ta 10 rfl (kw MsgT.zero (MsgT.mk 3 0 RowT.zero 0 s.view.epoch vt.ballot BallotT.zero ChangeT.zero ViewT.zero) [(0,[Value.int .i64 3]),(4,[Value.int .i64 s.view.epoch]),(5,ints vt.ballot.flat)] a8 bl (g:=MsgT.sg)) ?_);refine AL 11 ?_;refine XZ lN (ints MsgT.zero.flat) λb4=>?_
 refine EN (AL 12 ?_);refine SW 0 bX aG ?_;refine EN (DN ?_)
 exact aE
  SB
  (λ_ s=>ak [2,1,0] rfl s)
  (tl1 ((b4):(Nat)) trivial)
 refine aF rfl ?_ ?_;refine XZ lN (ints MsgT.zero.flat) λb4=>?_
 refine EN (AL 9 ?_);refine CE jp (bF vb vt) (SM [2]) ?_;refine EN (ta 10 rfl (kw MsgT.zero (MsgT.mk 3 0 RowT.zero 0 s.view.epoch vt.ballot BallotT.zero ChangeT.zero ViewT.zero) [(0,[Value.int .i64 3]),(4,[Value.int .i64 s.view.epoch]),(5,ints vt.ballot.flat)] a8 bl (g:=MsgT.sg)) ?_);refine AL 12 ?_;refine SW 1 bX aG ?_;refine EN (DN ?_)
 exact aE
  SB
  (λ_ s=>ak [2,0,0] rfl s)
  (tl1 ((b4):(Nat)) trivial)
 exact bD;refine aF rfl ?_ ?_;refine CE jp (bF vb vt) (SM [1]) ?_;refine EN (cJ [4,11] (by kernel_rfl) rfl (aF rfl ?_ ?_));refine LG 1 Y3 (.int .i64 (s.view.epoch)) ?_ (hc:=by exact λa_=>(cd (s.rep ⟨(a_:Nat×Value).1,(.pointer (some ⟨vb,0,none⟩)),a_.2⟩) 0 rfl (by decide) (bc _ rfl)));refine EN (ta 10 rfl (kw MsgT.zero (MsgT.mk 3 0 RowT.zero 0 s.view.epoch vt.ballot BallotT.zero ChangeT.zero ViewT.zero) [(0,[Value.int .i64 3]),(4,[Value.int .i64 s.view.epoch]),(5,ints vt.ballot.flat)] a8 bl (g:=MsgT.sg)) ?_);refine AL 11 ?_;refine XZ lN (ints MsgT.zero.flat) λb4=>?_
 refine EN (AL 12 ?_);refine SW 0 bX aG ?_;refine EN (DN ?_)
 exact aE
  SB
  (λ_ s=>ak [2,1,0] rfl s)
  (tl1 ((b4):(Nat)) trivial)
 refine aF rfl ?_ ?_;refine XZ lN (ints MsgT.zero.flat) λb4=>?_
 refine EN (AL 4 ?_);refine LG 2 Y3 (.int .i64 (s.view.epoch)) ?_ (hc:=by exact λa_=>(cd (s.rep ⟨(a_:Nat×Value).1,(.pointer (some ⟨vb,0,none⟩)),a_.2⟩) 0 rfl (by decide) (bc _ rfl)));refine EN (ta 10 rfl (kw MsgT.zero (MsgT.mk 3 0 RowT.zero 0 s.view.epoch vt.ballot BallotT.zero ChangeT.zero ViewT.zero) [(0,[Value.int .i64 3]),(4,[Value.int .i64 s.view.epoch]),(5,ints vt.ballot.flat)] a8 bl (g:=MsgT.sg)) ?_);refine AL 12 ?_;refine SW 0 bX aG ?_;refine EN (DN ?_)
 exact aE
  SB
  (λ_ s=>ak [2,1,0] rfl s)
  (tl1 ((b4):(Nat)) trivial)
 exact bD;refine aF rfl ?_ ?_;refine XZ lN (ints MsgT.zero.flat) λb4=>?_
 refine EN (cJ [4,9] (by kernel_rfl) rfl (aF rfl ?_ ?_));refine LG 1 Y3 (.int .i64 (s.view.epoch)) ?_ (hc:=by exact λa_=>(cd (s.rep ⟨(a_:Nat×Value).1,(.pointer (some ⟨vb,0,none⟩)),a_.2⟩) 0 rfl (by decide) (bc _ rfl)));refine EN (AL 9 ?_);refine CE jp (bF vb vt) (SM [2]) ?_;refine EN (ta 10 rfl (kw MsgT.zero (MsgT.mk 3 0 RowT.zero 0 s.view.epoch vt.ballot BallotT.zero ChangeT.zero ViewT.zero) [(0,[Value.int .i64 3]),(4,[Value.int .i64 s.view.epoch]),(5,ints vt.ballot.flat)] a8 bl (g:=MsgT.sg)) ?_);refine AL 12 ?_;refine SW 1 bX aG ?_;refine EN (DN ?_)
 exact aE
  SB
  (λ_ s=>ak [2,0,0] rfl s)
  (tl1 ((b4):(Nat)) trivial)
 refine aF rfl ?_ ?_;refine CE jp (bF vb vt) (SM [2]) ?_;refine EN (AL 4 ?_);refine LG 2 Y3 (.int .i64 (s.view.epoch)) ?_ (hc:=by exact λa_=>(cd (s.rep ⟨(a_:Nat×Value).1,(.pointer (some ⟨vb,0,none⟩)),a_.2⟩) 0 rfl (by decide) (bc _ rfl)));refine EN (ta 10 rfl (kw MsgT.zero (MsgT.mk 3 0 RowT.zero 0 s.view.epoch vt.ballot BallotT.zero ChangeT.zero ViewT.zero) [(0,[Value.int .i64 3]),(4,[Value.int .i64 s.view.epoch]),(5,ints vt.ballot.flat)] a8 bl (g:=MsgT.sg)) ?_);refine AL 12 ?_;refine SW 1 bX aG ?_;refine EN (DN ?_)
 exact aE
  SB
  (λ_ s=>ak [2,0,0] rfl s)
  (tl1 ((b4):(Nat)) trivial)
 exact bD;exact bD;refine aF rfl ?_ ?_;refine XZ lN (ints MsgT.zero.flat) λb4=>?_
 refine EN (cJ [4,8] (by kernel_rfl) rfl (aF rfl ?_ ?_));refine LG 1 Y3 (.int .i64 (s.view.epoch)) ?_ (hc:=by exact λa_=>(cd (s.rep ⟨(a_:Nat×Value).1,(.pointer (some ⟨vb,0,none⟩)),a_.2⟩) 0 rfl (by decide) (bc _ rfl)));refine EN (AL 8 ?_);refine LG 1 il (.pointer (some ⟨vb,0,none⟩)) ?_ (hc:=by exact λa_=>(bR _ rfl));refine EN (AL 9 ?_);refine CE jp (bF vb vt) (SM [2]) ?_;refine EN (ta 10 rfl (kw MsgT.zero (MsgT.mk 3 0 RowT.zero 0 s.view.epoch vt.ballot BallotT.zero ChangeT.zero ViewT.zero) [(0,[Value.int .i64 3]),(4,[Value.int .i64 s.view.epoch]),(5,ints vt.ballot.flat)] a8 bl (g:=MsgT.sg)) ?_);refine AL 12 ?_;refine SW 1 bX aG ?_;refine EN (DN ?_)
 exact aE
  SB
  (λ_ s=>ak [2,0,0] rfl s)
  (tl1 ((b4):(Nat)) trivial)
 refine aF rfl ?_ ?_;refine LG 1 il (.pointer (some ⟨vb,0,none⟩)) ?_ (hc:=by exact λa_=>(bR _ rfl));refine EN (cJ [4,9] (by kernel_rfl) rfl (aF rfl ?_ ?_));refine LG 1 Y3 (.int .i64 (s.view.epoch)) ?_ (hc:=by exact λa_=>(cd (s.rep ⟨(a_:Nat×Value).1,(.pointer (some ⟨vb,0,none⟩)),a_.2⟩) 0 rfl (by decide) (bc _ rfl)));refine EN (AL 9 ?_);refine CE jp (bF vb vt) (SM [2]) ?_;refine EN (ta 10 rfl (kw MsgT.zero (MsgT.mk 3 0 RowT.zero 0 s.view.epoch vt.ballot BallotT.zero ChangeT.zero ViewT.zero) [(0,[Value.int .i64 3]),(4,[Value.int .i64 s.view.epoch]),(5,ints vt.ballot.flat)] a8 bl (g:=MsgT.sg)) ?_);refine AL 12 ?_;refine SW 1 bX aG ?_;refine EN (DN ?_)
 exact aE
  SB
  (λ_ s=>ak [2,0,0] rfl s)
  (tl1 ((b4):(Nat)) trivial)
 refine aF rfl ?_ ?_;refine CE jp (bF vb vt) (SM [2]) ?_;refine EN (AL 4 ?_);refine LG 2 Y3 (.int .i64 (s.view.epoch)) ?_ (hc:=by exact λa_=>(cd (s.rep ⟨(a_:Nat×Value).1,(.pointer (some ⟨vb,0,none⟩)),a_.2⟩) 0 rfl (by decide) (bc _ rfl)));refine EN (ta 10 rfl (kw MsgT.zero (MsgT.mk 3 0 RowT.zero 0 s.view.epoch vt.ballot BallotT.zero ChangeT.zero ViewT.zero) [(0,[Value.int .i64 3]),(4,[Value.int .i64 s.view.epoch]),(5,ints vt.ballot.flat)] a8 bl (g:=MsgT.sg)) ?_);refine AL 12 ?_;refine SW 1 bX aG ?_;refine EN (DN ?_)
 exact aE
  SB
  (λ_ s=>ak [2,0,0] rfl s)
  (tl1 ((b4):(Nat)) trivial)
 exact bD;exact bD;exact bD
theorem rA{δ:Type}(V:Env δ)(r:Nat)(s:MS δ)(vt:VoteT)(hv:s.vote=some vt)(hpt:vt.putting=true)[OkR V.toDk s]:DT 113 #[.pointer (some ⟨r,0,none⟩), .iface V.T V.ov] T0 [cD V r s] (dw (λ_ H=>H=[cD V r (kh V.toDk s vt)])):=
 have:OkVt vt:=OkR.vote vt hv
 Leg.Does.ex (λ_ q=>mm hv q) λvb=>wE V r vb s vt hv hpt
theorem qf{δ:Type}(V:Env δ)(r:Nat)(s:MS δ)(from':Int)(m:MsgT)[OkR V.toDk s][OkMg m](hfe:from'=s.id→m.epoch=s.view.epoch)(hk:m.kind=4):TK V r 105 s from' m (qg V.toDk s from' m):=nK (by omega) (by
 cases hv:s.vote with
 |none=>exact j9 V r s (oL V.toDk from' m) from' m hfe (λe=>by omega) (λe=>by omega) (λ_=>by rw[oL,show(dd s (max s.round m.ballot.round)).vote=none from hv]) (λ_=>hv)
 |some vt=>
  have hov:OkVt vt:=OkR.vote vt hv;have h:=oR V r s vt from' m hfe (.inl hk) hv (λ_ h2=>rA V r (kO (dd s (max s.round m.ballot.round)) (eD vt from' m.ballot m.had m.change).1) (eD vt from' m.ballot m.had m.change).1 rfl (BG h2))
  rwa [show(λs_:MS δ=>if m.kind=4 then oL V.toDk from' m s_ else kQ V.toDk from' m s_)=oL V.toDk from' m from funext λ_=>if_pos hk]at h)
theorem wA{δ:Type}(V:Env δ)(r:Nat)(s:MS δ)(from':Int)(m:MsgT)[OkR V.toDk s][OkMg m](hep:m.epoch=s.view.epoch):
 DT 170 #[(.pointer (some ⟨r,0,none⟩)),(.iface V.T V.ov),(.int .i64 (from')),(.agg (ints m.flat).toArray)] T0 [cD V r s] (dw (λ_ H=>H=[cD V r (pw V.toDk from' m s)])):=by
 refine BD 57 Tryz.func170 rfl rfl rfl λw0 F hF=>?_
 have hpm:OkMg (kg m.epoch m.ballot (bQ s.acc m.epoch m.ballot).1.had (bQ s.acc m.epoch m.ballot).1.change):=OkMg.promM m.epoch inferInstance;refine sr λ_ J1=>XY (ints m.flat) λb7=>?_
 refine nx J1 (aa λ_ J2=>eJ (α:=(Nat)) (λb8=>True) (λb8=>[(0,(.pointer (some ⟨r,0,none⟩))),(1,(.iface V.T V.ov)),(2,(.int .i64 (from'))),(7,(.pointer (some ⟨b7,0,none⟩))),(8,(.pointer (some ⟨b8,0,none⟩))),(9,(.bool ((bQ s.acc m.epoch m.ballot).2)))]) (λb8=>[cD V r s,aj b7 (ints m.flat) 178,aj b8 (ints ((bQ s.acc m.epoch m.ballot).1).flat) 118]) (λb8 hinv=>?_) (λtl2=>?_));have _:=hinv;refine ac J2 (aa λ_ J3=>sr λ_ J4=>PS ?_);refine aX ?_ ?_<;>intro h22;refine PS ?_;refine nx J4 (CN (qx J3 (aa λ_ J5=>aa λ_ J6=>DC bf (BL 2) (cN 0 rfl rfl) ?_)));refine FD 0 1 iw cv ?_;refine ta 1 rfl (aK (vs:=ints (((bQ s.acc m.epoch m.ballot).1).vow).flat) rfl jP rfl cv rfl (λ_ h=>h.2.1) (an (((bQ s.acc m.epoch m.ballot).1).vow)) (Nd ((bQ s.acc m.epoch m.ballot).1) 0 rfl (by decide) (bk (an (((bQ s.acc m.epoch m.ballot).1).vow))))) ?_;refine PD 2 ?_;refine PD 3 ?_;refine FD 4 1058 bg dq ?_;refine FD 5 1059 iw cv ?_;refine ta 6 rfl (fI (vs:=ints s.acc.vow.flat) rfl jP rfl cv rfl (λ_ h=>h.2.2.1) (an s.acc.vow) (λa_=>(wZ (s.rep a_) 1 rfl (by decide) (Nd ((s.rep a_).acc) 0 rfl (by decide) (bk (an (((s.rep a_).acc).vow))))))) ?_
 refine ta 7 rfl (oy (a:=(((bQ s.acc m.epoch m.ballot).1).vow).flat) (b:=s.acc.vow.flat) (m:=6) (c:=2) Jm Jl rfl JF (ct (an (((bQ s.acc m.epoch m.ballot).1).vow))) (ct (an s.acc.vow)) ⟨eC Fw FF (ct (an (((bQ s.acc m.epoch m.ballot).1).vow))),eC Fw FF (ct (an s.acc.vow))⟩ (OkAc.vow inferInstance) (OkAc.vow inferInstance) rfl rfl rfl) ?_;refine gF ?_ ?_<;>intro h31;refine DN (ac J6 (CY (aa λ_ J7=>sr λ_ J8=>PS ?_)));refine FA 177 a8 aO ?_;refine LU 1 Y3 (ez m rfl) ?_;refine FA 178 a8 cv ?_;refine LV 1 jP cv an nB (y:=m.ballot) ?_;refine tp (kw RecT.zero (RecT.mk 3 0 RowT.zero m.epoch m.ballot ChangeT.zero ViewT.zero) [(0,[Value.int .i64 3]),(3,[Value.int .i64 m.epoch]),(4,ints m.ballot.flat)] iy eQ (g:=RecT.sg)) ?_;refine CE vn (kB V r s (gI m.epoch m.ballot)) ID ?_;refine PS ?_;refine am ?_ ?_<;>intro h39;refine nx J8 (CY (ai (ae (ae (WK [0] (dy rfl ?_))))));exact MQ (by rw[pw,if_neg (by rw[h22];decide),if_pos h31,if_pos h39]);refine nx J8 (CN (qx J7 (af (PS ?_))));refine LW 2 iw dq aW ?_;refine PS ?_;refine FA 1058 bg dq ?_
 refine gD (vs:=ints ((bQ s.acc m.epoch m.ballot).1).flat) (i:=0) (ab rfl) rfl rfl rfl rfl rfl (by rw[(aW ((bQ s.acc m.epoch m.ballot).1))];exact dq) (bG _) rfl rfl (λ_=>LC (cM _) (aW _)) (λa_=>(jZ ((dY V.toDk s (gI m.epoch m.ballot)).rep a_) 0 rfl (by have h1:=(aW ((bQ s.acc m.epoch m.ballot).1));omega) (cz ((aW (((dY V.toDk s (gI m.epoch m.ballot)).rep a_).acc)).trans (aW ((bQ s.acc m.epoch m.ballot).1)).symm)))) (nx J5 (af (P3 ?_)));refine FA 177 a8 aO ?_;refine LU 1 Y3 (ez m rfl) ?_;refine FA 178 a8 cv ?_;refine LV 1 jP cv an nB (y:=m.ballot) ?_;refine FA 3 iw cv ?_;refine LV 2 jP cv an AccT.sp_had (y:=(((bQ s.acc m.epoch m.ballot).1).had)) ?_;refine FA 5 iw fl ?_;refine LV 2 mx fl aI AccT.sp_change (y:=(((bQ s.acc m.epoch m.ballot).1).change)) ?_;refine tp (kw MsgT.zero (MsgT.mk 4 0 RowT.zero 0 m.epoch m.ballot (((bQ s.acc m.epoch m.ballot).1).had) (((bQ s.acc m.epoch m.ballot).1).change) ViewT.zero) [(0,[Value.int .i64 4]),(4,[Value.int .i64 m.epoch]),(5,ints m.ballot.flat),(6,ints (((bQ s.acc m.epoch m.ballot).1).had).flat),(7,ints (((bQ s.acc m.epoch m.ballot).1).change).flat)] a8 bl (g:=MsgT.sg)) ?_
 refine CZ iK (fS V r (wh (dY V.toDk s (gI m.epoch m.ballot)) (bQ s.acc m.epoch m.ballot).1) from' (kg m.epoch m.ballot (bQ s.acc m.epoch m.ballot).1.had (bQ s.acc m.epoch m.ballot).1.change) (λs_=>qg V.toDk s_ s_.id (kg m.epoch m.ballot (bQ s.acc m.epoch m.ballot).1.had (bQ s.acc m.epoch m.ballot).1.change)) (λ_=>qf V r (wh (dY V.toDk s (gI m.epoch m.ballot)) (bQ s.acc m.epoch m.ballot).1) (wh (dY V.toDk s (gI m.epoch m.ballot)) (bQ s.acc m.epoch m.ballot).1).id (kg m.epoch m.ballot (bQ s.acc m.epoch m.ballot).1.had (bQ s.acc m.epoch m.ballot).1.change) (λ_=>hep) rfl)) ID λvR=>?_
 refine au (WK [0] (bu rfl ?_));exact MQ (by rw[pw,if_neg (by rw[h22];decide),if_pos h31,if_neg h39];rfl);refine DN (ac J6 (CN (qx J5 (af (P3 ?_)))));refine FA 177 a8 aO ?_;refine LU 1 Y3 (ez m rfl) ?_;refine FA 178 a8 cv ?_;refine LV 1 jP cv an nB (y:=m.ballot) ?_;refine FA 3 iw cv ?_;refine LV 2 jP cv an AccT.sp_had (y:=(((bQ s.acc m.epoch m.ballot).1).had)) ?_;refine FA 5 iw fl ?_;refine LV 2 mx fl aI AccT.sp_change (y:=(((bQ s.acc m.epoch m.ballot).1).change)) ?_;refine tp (kw MsgT.zero (MsgT.mk 4 0 RowT.zero 0 m.epoch m.ballot (((bQ s.acc m.epoch m.ballot).1).had) (((bQ s.acc m.epoch m.ballot).1).change) ViewT.zero) [(0,[Value.int .i64 4]),(4,[Value.int .i64 m.epoch]),(5,ints m.ballot.flat),(6,ints (((bQ s.acc m.epoch m.ballot).1).had).flat),(7,ints (((bQ s.acc m.epoch m.ballot).1).change).flat)] a8 bl (g:=MsgT.sg)) ?_;refine CZ iK (fS V r s from' (kg m.epoch m.ballot (bQ s.acc m.epoch m.ballot).1.had (bQ s.acc m.epoch m.ballot).1.change) (λs_=>qg V.toDk s_ s_.id (kg m.epoch m.ballot (bQ s.acc m.epoch m.ballot).1.had (bQ s.acc m.epoch m.ballot).1.change)) (λ_=>qf V r s s.id (kg m.epoch m.ballot (bQ s.acc m.epoch m.ballot).1.had (bQ s.acc m.epoch m.ballot).1.change) (λ_=>hep) rfl)) ID λvR=>?_
 refine au (WK [0] (bu rfl ?_));exact MQ (by rw[pw,if_neg (by rw[h22];decide),if_neg h31];rfl);refine PS ?_;refine nx J4 (CY (ai (ae (WK [0] (dy rfl ?_)))));exact MQ (by rw[pw,if_pos h22]);refine DC bf (cN 1 rfl rfl) (BL 0) ?_;refine PD 0 ?_;refine PD 1 ?_;refine FD 2 1058 bg dq ?_;refine ta 3 rfl (fI (vs:=ints s.acc.flat) rfl iw rfl dq rfl (λ_ h=>h.2.1) (aW s.acc) (λa_=>(wZ (s.rep a_) 0 rfl (by decide) (bk (aW ((s.rep a_).acc)))))) ?_;refine FD 4 177 a8 aO ?_;refine LR 5 Y3 (ez m rfl) ?_;refine FD 6 178 a8 cv ?_;refine ta 7 rfl (aK (vs:=ints m.ballot.flat) rfl jP rfl cv rfl (λ_ h=>h.2.2.1) (an m.ballot) (iA m 0 rfl (by decide) (bk (an m.ballot)))) ?_;refine cJ [8,12] (by kernel_rfl) rfl (aF rfl ?_ ?_);refine CE DF (mL s.acc m.epoch m.ballot) ID ?_;refine EN (PD 9 ?_);refine PD 10 ?_;refine PD 11 ?_;refine qK ?_ ?_<;>intro h21;refine AL 12 ?_;refine XZ uk (ints AccT.zero.flat) λb8=>?_
 refine EN (AL 13 ?_);refine SW 0 dq aW ?_;refine EN (PD 14 ?_);refine DN ?_
 exact aE
  (aS (aS (aS (aS (aS (bC rfl (by rw[h21]) SB))))))
  (λ_ s=>ak [2,1,0] rfl s)
  (tl2 ((b8):(Nat)) trivial)
 refine AL 12 ?_;refine XZ uk (ints AccT.zero.flat) λb8=>?_
 refine EN (AL 13 ?_);refine SW 0 dq aW ?_;refine EN (PD 14 ?_);refine DN ?_
 exact aE
  (aS (aS (aS (aS (aS (bC rfl (by rw[h21]) SB))))))
  (λ_ s=>ak [2,1,0] rfl s)
  (tl2 ((b8):(Nat)) trivial)
 refine aF rfl ?_ ?_;refine XZ uk (ints AccT.zero.flat) λb8=>?_
 refine EN (AL 8 ?_);refine CE DF (mL s.acc m.epoch m.ballot) ID ?_;refine EN (PD 9 ?_);refine PD 10 ?_;refine PD 11 ?_;refine qK ?_ ?_<;>intro h21;refine AL 13 ?_;refine SW 0 dq aW ?_;refine EN (PD 14 ?_);refine DN ?_
 exact aE
  (aS (aS (aS (aS (aS (bC rfl (by rw[h21]) SB))))))
  (λ_ s=>ak [2,1,0] rfl s)
  (tl2 ((b8):(Nat)) trivial)
 refine AL 13 ?_;refine SW 0 dq aW ?_;refine EN (PD 14 ?_);refine DN ?_
 exact aE
  (aS (aS (aS (aS (aS (bC rfl (by rw[h21]) SB))))))
  (λ_ s=>ak [2,1,0] rfl s)
  (tl2 ((b8):(Nat)) trivial)
 exact bD
theorem uH{δ:Type}(V:Env δ)(r:Nat)(s:MS δ)(from':Int)(m:MsgT)[OkR V.toDk s][OkMg m](hfe:from'=s.id→m.epoch=s.view.epoch)(hk:m.kind=3):TK V r 105 s from' m (su V.toDk s from' m):=nK (by omega) (j9 V r s (pw V.toDk from' m) from' m hfe (λ_ hep=>wA V r (dd s (max s.round m.ballot.round)) from' m hep) (λe _=>by omega) (λe=>by omega) (λe=>by omega))
theorem wF{δ:Type}(V:Env δ)(r vb:Nat)(s:MS δ)(vt:VoteT)(hv:s.vote=some vt)(hpt:vt.putting=false)[OkR V.toDk s][OkVt vt]:
 DT 113 #[(.pointer (some ⟨r,0,none⟩)),(.iface V.T V.ov)] T0 [uh V r s (.pointer (some ⟨vb,0,none⟩)),aj vb (VoteT.cells vt) 227] (dw (λ_ H=>H=[cD V r (mi V.toDk s vt)])):=by
 refine BD 68 Tryz.func113 rfl rfl rfl λw0 F hF=>aa λ_ J1=>eJ (α:=(Nat)) (λb4=>True) (λb4=>[(0,(.pointer (some ⟨r,0,none⟩))),(1,(.iface V.T V.ov)),(4,(.pointer (some ⟨b4,0,none⟩)))]) (λb4=>[uh V r s (.pointer (some ⟨vb,0,none⟩)),aj vb (VoteT.cells vt) 227,aj b4 (ints (fk s.view.epoch vt.ballot).flat) 178]) (λb4 hinv=>?_) (λtl1=>?_)
 have _:=hinv;refine ac J1 (aa λ_ J2=>sr λ_ J3=>P2 ?_);refine FA 1067 bg iF ?_;refine LG 0 il (.pointer (some ⟨vb,0,none⟩)) ?_ (hc:=by exact λa_=>(bR _ rfl));refine CE IS (m6 vb vt) (SM [1]) ?_;refine aX ?_ ?_<;>intro h22
 · rw[hpt]at h22;cases h22
 refine nx J3 (CN (qx J2 (sr λ_ J4=>cp (H':=cD V r s::[aj b4 (ints (fk s.view.epoch vt.ballot).flat) 178]) (λ_ q=>np hv (az [1,0] rfl q)) (P2 ?_))));refine FA 2 bg be ?_;refine LZ 0 eL be ao s.view ?_ (hc:=by exact λ_=>cX _);refine XZ sV (ints ViewT.zero.flat) λb5=>?_
 refine SW 0 be ao ?_;refine nx J4 (aa λ_ J5=>sr λ_ J6=>PS ?_);refine nx J6 (ap ?_)
 refine bB (α:=(Nat)) (λk=>k≤5) (λk=>[(0,(.pointer (some ⟨r,0,none⟩))),(1,(.iface V.T V.ov)),(4,(.pointer (some ⟨b4,0,none⟩))),(5,(.pointer (some ⟨b5,0,none⟩))),(34,(.int .i64 (((k:Nat):Int))))]) (λk=>[aj b5 (ints s.view.flat) 44,aj b4 (ints (fk s.view.epoch vt.ballot).flat) 178,cD V r (it V.toDk s (ni s.id (fk s.view.epoch vt.ballot) (λi=>iu s.view ((i:Nat):Int)) k))]) (λk=>5-k) 0
  (aN _) SB
  (λ_ q=>by
  rw[show ni s.id (fk s.view.epoch vt.ballot) (λi=>iu s.view ((i:Nat):Int)) 0=[]from rfl,oZ]
  exact ak [0,1,0] rfl q) (λk hinv=>?_)
 obtain hk:=hinv;refine sr λ_ J7=>PS ?_
 refine am ?_ ?_<;>intro h35;refine nx J7 (aa λ_ J8=>CY (qx J8 (aa λ_ J9=>ap (sr λ_ J10=>P2 ?_))));refine nx J10 (sr λ_ J11=>P3 ?_);refine FA 0 bg aO ?_;refine LG 2 Y3 (.int .i64 (s.id)) ?_ (hc:=by exact λa_=>(cB _ rfl));refine PS ?_;refine am ?_ ?_<;>intro h42;refine PS ?_;refine LW 0 eL be ao ?_;refine PS ?_;refine CE o9 (dv s.view ((k:Nat):Int)) ID ?_;refine aX ?_ ?_<;>intro h46;refine PS ?_;refine nx J11 (CY (af (P3 ?_)));refine LW 1 a8 bX aG ?_;refine CZ iK (nb V r s (ni s.id (fk s.view.epoch vt.ballot) (λi=>iu s.view ((i:Nat):Int)) k) ((k:Nat):Int) (fk s.view.epoch vt.ballot) h42) (SM [2]) λvR=>?_
 refine au (ag (ac J9 (af (AD ?_))));refine PS ?_;refine au ?_
 exact aJ ((k+1):(Nat)) (by omega) (by show 5- (k+1)<5-k;omega)
  SB
  (λ_ q=>by
   rw[ie,if_pos ⟨h42,h46⟩]
   exact ak [1,1,0] rfl q)
 refine PS ?_;refine nx J11 (CN (aQ (ag (ac J9 (af (AD ?_))))));refine PS ?_;refine au ?_
 exact aJ ((k+1):(Nat)) (by omega) (by show 5- (k+1)<5-k;omega)
  SB
  (λ_ q=>by
   rw[ie,if_neg (λh=>by have:=h.2;rw[h46]at this;cases this)];rw[aM]
   exact ak [0,0,0] rfl q)
 refine PS ?_
 iterate 3 refine UF ?_
 refine PS ?_;refine nx J11 (CN (aQ (ag (ac J9 (af (AD ?_))))));refine PS ?_;refine au ?_
 exact aJ ((k+1):(Nat)) (by omega) (by show 5- (k+1)<5-k;omega)
  SB
  (λ_ q=>by
   rw[ie,if_neg (λh=>h42 h.1)];rw[aM]
   exact ak [0,0,0] rfl q)
 obtain rfl:k=5:=by omega
 refine nx J7 (aa λ_ J12=>CN (aZ (aB (aB (bw (ac J5 (aa λ_ J13=>DC bf (BL 0) (cN 2 rfl rfl) ?_)))))));refine LY 0 eL be ao ?_;refine PD 1 ?_;refine PD 2 ?_;refine FD 3 0 bg aO ?_;refine ta 4 rfl (c8 (v:=(.int .i64 ((jr V.toDk s (fk s.view.epoch vt.ballot)).id))) rfl Y3 rfl rfl (λ_ h=>h.2.2.1) (λa_=>(cB _ rfl))) ?_;refine AL 5 ?_;refine CE o9 (dv s.view ((jr V.toDk s (fk s.view.epoch vt.ballot)).id)) ID ?_;refine aX ?_ ?_<;>intro h59;refine EN (DN (ac J13 (CY (D1 1 bf ?_))));refine PD 0 ?_;refine PD 1 ?_;refine PD 2 ?_;refine PD 3 ?_;refine FD 4 0 bg aO ?_;refine LY 6 a8 bX aG ?_;refine AL 5 ?_;refine LG 2 Y3 (.int .i64 ((jr V.toDk s (fk s.view.epoch vt.ballot)).id)) ?_ (hc:=by exact λa_=>(cB _ rfl));refine EN (AL 7 ?_);refine CZ iK (fS V r (jr V.toDk s (fk s.view.epoch vt.ballot)) s.id (fk s.view.epoch vt.ballot) (λs_=>su V.toDk s_ s_.id (fk s.view.epoch vt.ballot)) (λ_=>uH V r (jr V.toDk s (fk s.view.epoch vt.ballot)) s.id (fk s.view.epoch vt.ballot) (λ_=>rfl) rfl)) (SM [2]) λvR=>?_
 refine EN (DN (WK [0] (bu rfl ?_)));exact MQ (by rw[mi,jx,if_pos (show iu s.view s.id=true from h59),mH,if_pos (show s.id=(jr V.toDk s (fk s.view.epoch vt.ballot)).id from rfl)]<;>rfl);refine EN (DN (ac J13 (CN (aQ (WK [2] (bu rfl ?_))))));exact MQ (by rw[mi,jx,if_neg (by rw[show iu s.view s.id=false from h59];decide)]<;>rfl);refine D1 1 bf ?_;refine PD 0 ?_;refine PD 1 ?_;refine FD 2 2 bg be ?_;refine FD 3 2 eL aO ?_;refine PD 5 ?_;refine PD 6 ?_;refine FD 7 1067 bg iF ?_;refine cJ [4,8,11] (by kernel_rfl) rfl (aF rfl ?_ ?_);refine LG 0 Y3 (.int .i64 (s.view.epoch)) ?_ (hc:=by exact λa_=>(cd (s.rep ⟨(a_:Nat×Value).1,(.pointer (some ⟨vb,0,none⟩)),a_.2⟩) 0 rfl (by decide) (bc _ rfl)));refine EN (cJ [8,11] (by kernel_rfl) rfl (aF rfl ?_ ?_));refine LG 0 il (.pointer (some ⟨vb,0,none⟩)) ?_ (hc:=by exact λa_=>(bR _ rfl));refine EN (cJ [9,11] (by kernel_rfl) rfl (aF rfl ?_ ?_));refine CE jp (bF vb vt) (SM [1]) ?_;refine EN (ta 10 rfl (kw MsgT.zero (MsgT.mk 3 0 RowT.zero 0 s.view.epoch vt.ballot BallotT.zero ChangeT.zero ViewT.zero) [(0,[Value.int .i64 3]),(4,[Value.int .i64 s.view.epoch]),(5,ints vt.ballot.flat)] a8 bl (g:=MsgT.sg)) ?_);refine AL 11 ?_;refine XZ lN (ints MsgT.zero.flat) λb4=>?_
 refine EN (AL 12 ?_);refine SW 0 bX aG ?_;refine EN (DN ?_)
 exact aE
  SB
  (λ_ s=>ak [2,1,0] rfl s)
  (tl1 ((b4):(Nat)) trivial)
 refine aF rfl ?_ ?_;refine XZ lN (ints MsgT.zero.flat) λb4=>?_
 refine EN (AL 9 ?_);refine CE jp (bF vb vt) (SM [2]) ?_;refine EN (ta 10 rfl (kw MsgT.zero (MsgT.mk 3 0 RowT.zero 0 s.view.epoch vt.ballot BallotT.zero ChangeT.zero ViewT.zero) [(0,[Value.int .i64 3]),(4,[Value.int .i64 s.view.epoch]),(5,ints vt.ballot.flat)] a8 bl (g:=MsgT.sg)) ?_);refine AL 12 ?_;refine SW 1 bX aG ?_;refine EN (DN ?_)
 exact aE
  SB
  (λ_ s=>ak [2,0,0] rfl s)
  (tl1 ((b4):(Nat)) trivial)
 exact bD;refine aF rfl ?_ ?_;refine XZ lN (ints MsgT.zero.flat) λb4=>?_
 refine EN (AL 8 ?_);refine LG 1 il (.pointer (some ⟨vb,0,none⟩)) ?_ (hc:=by exact λa_=>(bR _ rfl));refine EN (AL 9 ?_);refine CE jp (bF vb vt) (SM [2]) ?_;refine EN (ta 10 rfl (kw MsgT.zero (MsgT.mk 3 0 RowT.zero 0 s.view.epoch vt.ballot BallotT.zero ChangeT.zero ViewT.zero) [(0,[Value.int .i64 3]),(4,[Value.int .i64 s.view.epoch]),(5,ints vt.ballot.flat)] a8 bl (g:=MsgT.sg)) ?_);refine AL 12 ?_;refine SW 1 bX aG ?_;refine EN (DN ?_)
 exact aE
  SB
  (λ_ s=>ak [2,0,0] rfl s)
  (tl1 ((b4):(Nat)) trivial)
 exact bD;refine aF rfl ?_ ?_;refine LG 0 il (.pointer (some ⟨vb,0,none⟩)) ?_ (hc:=by exact λa_=>(bR _ rfl));refine EN (cJ [4,9,11] (by kernel_rfl) rfl (aF rfl ?_ ?_));refine LG 0 Y3 (.int .i64 (s.view.epoch)) ?_ (hc:=by exact λa_=>(cd (s.rep ⟨(a_:Nat×Value).1,(.pointer (some ⟨vb,0,none⟩)),a_.2⟩) 0 rfl (by decide) (bc _ rfl)));refine EN (cJ [9,11] (by kernel_rfl) rfl (aF rfl ?_ ?_));refine CE jp (bF vb vt) (SM [1]) ?_;refine EN (ta 10 rfl (kw MsgT.zero (MsgT.mk 3 0 RowT.zero 0 s.view.epoch vt.ballot BallotT.zero ChangeT.zero ViewT.zero) [(0,[Value.int .i64 3]),(4,[Value.int .i64 s.view.epoch]),(5,ints vt.ballot.flat)] a8 bl (g:=MsgT.sg)) ?_);refine AL 11 ?_;refine XZ lN (ints MsgT.zero.flat) λb4=>?_
 refine EN (AL 12 ?_);refine SW 0 bX aG ?_;refine EN (DN ?_)
 exact aE
  SB
  (λ_ s=>ak [2,1,0] rfl s)
  (tl1 ((b4):(Nat)) trivial)
 refine aF rfl ?_ ?_;refine XZ lN (ints MsgT.zero.flat) λb4=>?_
 refine EN (AL 9 ?_);refine CE jp (bF vb vt) (SM [2]) ?_;refine EN (ta 10 rfl (kw MsgT.zero (MsgT.mk 3 0 RowT.zero 0 s.view.epoch vt.ballot BallotT.zero ChangeT.zero ViewT.zero) [(0,[Value.int .i64 3]),(4,[Value.int .i64 s.view.epoch]),(5,ints vt.ballot.flat)] a8 bl (g:=MsgT.sg)) ?_);refine AL 12 ?_;refine SW 1 bX aG ?_;refine EN (DN ?_)
 exact aE
  SB
  (λ_ s=>ak [2,0,0] rfl s)
  (tl1 ((b4):(Nat)) trivial)
 exact bD;refine aF rfl ?_ ?_;refine CE jp (bF vb vt) (SM [1]) ?_;refine EN (cJ [4,11] (by kernel_rfl) rfl (aF rfl ?_ ?_));refine LG 1 Y3 (.int .i64 (s.view.epoch)) ?_ (hc:=by exact λa_=>(cd (s.rep ⟨(a_:Nat×Value).1,(.pointer (some ⟨vb,0,none⟩)),a_.2⟩) 0 rfl (by decide) (bc _ rfl)));refine EN (ta 10 rfl (kw MsgT.zero (MsgT.mk 3 0 RowT.zero 0 s.view.epoch vt.ballot BallotT.zero ChangeT.zero ViewT.zero) [(0,[Value.int .i64 3]),(4,[Value.int .i64 s.view.epoch]),(5,ints vt.ballot.flat)] a8 bl (g:=MsgT.sg)) ?_);refine AL 11 ?_;refine XZ lN (ints MsgT.zero.flat) λb4=>?_
 refine EN (AL 12 ?_);refine SW 0 bX aG ?_;refine EN (DN ?_)
 exact aE
  SB
  (λ_ s=>ak [2,1,0] rfl s)
  (tl1 ((b4):(Nat)) trivial)
 refine aF rfl ?_ ?_;refine XZ lN (ints MsgT.zero.flat) λb4=>?_
 refine EN (AL 4 ?_);refine LG 2 Y3 (.int .i64 (s.view.epoch)) ?_ (hc:=by exact λa_=>(cd (s.rep ⟨(a_:Nat×Value).1,(.pointer (some ⟨vb,0,none⟩)),a_.2⟩) 0 rfl (by decide) (bc _ rfl)));refine EN (ta 10 rfl (kw MsgT.zero (MsgT.mk 3 0 RowT.zero 0 s.view.epoch vt.ballot BallotT.zero ChangeT.zero ViewT.zero) [(0,[Value.int .i64 3]),(4,[Value.int .i64 s.view.epoch]),(5,ints vt.ballot.flat)] a8 bl (g:=MsgT.sg)) ?_);refine AL 12 ?_;refine SW 0 bX aG ?_;refine EN (DN ?_)
 exact aE
  SB
  (λ_ s=>ak [2,1,0] rfl s)
  (tl1 ((b4):(Nat)) trivial)
 exact bD;refine aF rfl ?_ ?_;refine XZ lN (ints MsgT.zero.flat) λb4=>?_
 refine EN (cJ [4,9] (by kernel_rfl) rfl (aF rfl ?_ ?_));refine LG 1 Y3 (.int .i64 (s.view.epoch)) ?_ (hc:=by exact λa_=>(cd (s.rep ⟨(a_:Nat×Value).1,(.pointer (some ⟨vb,0,none⟩)),a_.2⟩) 0 rfl (by decide) (bc _ rfl)));refine EN (AL 9 ?_);refine CE jp (bF vb vt) (SM [2]) ?_;refine EN (ta 10 rfl (kw MsgT.zero (MsgT.mk 3 0 RowT.zero 0 s.view.epoch vt.ballot BallotT.zero ChangeT.zero ViewT.zero) [(0,[Value.int .i64 3]),(4,[Value.int .i64 s.view.epoch]),(5,ints vt.ballot.flat)] a8 bl (g:=MsgT.sg)) ?_);refine AL 12 ?_;refine SW 1 bX aG ?_;refine EN (DN ?_)
 exact aE
  SB
  (λ_ s=>ak [2,0,0] rfl s)
  (tl1 ((b4):(Nat)) trivial)
 refine aF rfl ?_ ?_;refine CE jp (bF vb vt) (SM [2]) ?_;refine EN (AL 4 ?_);refine LG 2 Y3 (.int .i64 (s.view.epoch)) ?_ (hc:=by exact λa_=>(cd (s.rep ⟨(a_:Nat×Value).1,(.pointer (some ⟨vb,0,none⟩)),a_.2⟩) 0 rfl (by decide) (bc _ rfl)));refine EN (ta 10 rfl (kw MsgT.zero (MsgT.mk 3 0 RowT.zero 0 s.view.epoch vt.ballot BallotT.zero ChangeT.zero ViewT.zero) [(0,[Value.int .i64 3]),(4,[Value.int .i64 s.view.epoch]),(5,ints vt.ballot.flat)] a8 bl (g:=MsgT.sg)) ?_);refine AL 12 ?_;refine SW 1 bX aG ?_;refine EN (DN ?_)
 exact aE
  SB
  (λ_ s=>ak [2,0,0] rfl s)
  (tl1 ((b4):(Nat)) trivial)
 exact bD;exact bD;refine aF rfl ?_ ?_;refine XZ lN (ints MsgT.zero.flat) λb4=>?_
 refine EN (cJ [4,8] (by kernel_rfl) rfl (aF rfl ?_ ?_));refine LG 1 Y3 (.int .i64 (s.view.epoch)) ?_ (hc:=by exact λa_=>(cd (s.rep ⟨(a_:Nat×Value).1,(.pointer (some ⟨vb,0,none⟩)),a_.2⟩) 0 rfl (by decide) (bc _ rfl)));refine EN (AL 8 ?_);refine LG 1 il (.pointer (some ⟨vb,0,none⟩)) ?_ (hc:=by exact λa_=>(bR _ rfl));refine EN (AL 9 ?_);refine CE jp (bF vb vt) (SM [2]) ?_;refine EN (ta 10 rfl (kw MsgT.zero (MsgT.mk 3 0 RowT.zero 0 s.view.epoch vt.ballot BallotT.zero ChangeT.zero ViewT.zero) [(0,[Value.int .i64 3]),(4,[Value.int .i64 s.view.epoch]),(5,ints vt.ballot.flat)] a8 bl (g:=MsgT.sg)) ?_);refine AL 12 ?_;refine SW 1 bX aG ?_;refine EN (DN ?_)
 exact aE
  SB
  (λ_ s=>ak [2,0,0] rfl s)
  (tl1 ((b4):(Nat)) trivial)
 refine aF rfl ?_ ?_;refine LG 1 il (.pointer (some ⟨vb,0,none⟩)) ?_ (hc:=by exact λa_=>(bR _ rfl));refine EN (cJ [4,9] (by kernel_rfl) rfl (aF rfl ?_ ?_));refine LG 1 Y3 (.int .i64 (s.view.epoch)) ?_ (hc:=by exact λa_=>(cd (s.rep ⟨(a_:Nat×Value).1,(.pointer (some ⟨vb,0,none⟩)),a_.2⟩) 0 rfl (by decide) (bc _ rfl)));refine EN (AL 9 ?_);refine CE jp (bF vb vt) (SM [2]) ?_;refine EN (ta 10 rfl (kw MsgT.zero (MsgT.mk 3 0 RowT.zero 0 s.view.epoch vt.ballot BallotT.zero ChangeT.zero ViewT.zero) [(0,[Value.int .i64 3]),(4,[Value.int .i64 s.view.epoch]),(5,ints vt.ballot.flat)] a8 bl (g:=MsgT.sg)) ?_);refine AL 12 ?_;refine SW 1 bX aG ?_;refine EN (DN ?_)
 exact aE
  SB
  (λ_ s=>ak [2,0,0] rfl s)
  (tl1 ((b4):(Nat)) trivial)
 refine aF rfl ?_ ?_;refine CE jp (bF vb vt) (SM [2]) ?_;refine EN (AL 4 ?_);refine LG 2 Y3 (.int .i64 (s.view.epoch)) ?_ (hc:=by exact λa_=>(cd (s.rep ⟨(a_:Nat×Value).1,(.pointer (some ⟨vb,0,none⟩)),a_.2⟩) 0 rfl (by decide) (bc _ rfl)));refine EN (ta 10 rfl (kw MsgT.zero (MsgT.mk 3 0 RowT.zero 0 s.view.epoch vt.ballot BallotT.zero ChangeT.zero ViewT.zero) [(0,[Value.int .i64 3]),(4,[Value.int .i64 s.view.epoch]),(5,ints vt.ballot.flat)] a8 bl (g:=MsgT.sg)) ?_);refine AL 12 ?_;refine SW 1 bX aG ?_;refine EN (DN ?_)
 exact aE
  SB
  (λ_ s=>ak [2,0,0] rfl s)
  (tl1 ((b4):(Nat)) trivial)
 exact bD;exact bD;exact bD
theorem yP{δ:Type}(V:Env δ)(r:Nat)(s:MS δ)(vt:VoteT)(hv:s.vote=some vt)(hpt:vt.putting=false)[OkR V.toDk s]:DT 113 #[.pointer (some ⟨r,0,none⟩), .iface V.T V.ov] T0 [cD V r s] (dw (λ_ H=>H=[cD V r (mi V.toDk s vt)])):=
 have:OkVt vt:=OkR.vote vt hv
 Leg.Does.ex (λ_ q=>mm hv q) λvb=>wF V r vb s vt hv hpt
theorem qn{δ:Type}(V:Env δ)(r:Nat)(s:MS δ)(vt:VoteT)(hv:s.vote=some vt)[OkR V.toDk s]:DT 113 #[.pointer (some ⟨r,0,none⟩), .iface V.T V.ov] T0 [cD V r s] (dw (λ_ H=>H=[cD V r (nh V.toDk s vt)])):=by
 cases hp:vt.putting with
 |true=>rw[nh,if_pos hp];exact rA V r s vt hv hp
 |false=>rw[nh,if_neg (by rw[hp];decide)];exact yP V r s vt hv hp
theorem yu{δ:Type}(V:Env δ)(r:Nat)(s:MS δ)(from':Int)(m:MsgT)[OkR V.toDk s][OkMg m](hto:from'≠s.id)(hrs:s.replies.length≤1000000):TK V r 105 s from' m (fu V.toDk s from' m):=by
 have hfe:from'=s.id→m.epoch=s.view.epoch:=λe=>absurd e hto
 by_cases h3:m.kind=3
 · rw[fu];simp only[h3];exact uH V r s from' m hfe h3
 by_cases h4:m.kind=4
 · rw[fu];simp only[h4];exact qf V r s from' m hfe h4
 by_cases h5:m.kind=5
 · rw[fu];simp only[h5];exact uG V r s from' m hfe h5
 by_cases h6:m.kind=6
 · rw[fu];simp only[h6];exact qd V r s from' m hfe h6
 refine nL V r s _ from' m (λh=>?_) (λh=>?_) (λh=>?_) (λh=>?_) (λh=>?_) (λh=>?_) (λh=>by omega) (λh=>?_)
 · rw[fu,if_pos h];exact wy V r s from' m hto
 · rw[fu,if_neg (by omega),if_pos h];exact uF V r s from' m hrs
 · rw[fu,if_neg (by omega),if_neg (by omega),if_pos h]
 · rw[fu,if_neg (by omega),if_neg (by omega),if_neg (by omega),if_pos h];exact tn V r s m.view
 · rw[fu,if_neg (by omega),if_neg (by omega),if_neg (by omega),if_neg (by omega),if_pos h];exact uE V r s from' m
 · rw[fu,if_neg (by omega),if_neg (by omega),if_neg (by omega),if_neg (by omega),if_neg (by omega),if_pos h];exact m8 V r s from' m
 · rw[fu,if_neg h.1,if_neg h.2.1,if_neg h.2.2.1,if_neg h.2.2.2.1,if_neg h.2.2.2.2.1,if_neg h.2.2.2.2.2.1,if_neg h3,if_neg h4,if_neg h5,if_neg h6]
theorem pu{δ:Type}(V:Env δ)(r:Nat)(s:MS δ)(c:ChangeT)[OkR V.toDk s][OkCh c]:
 DT 112 #[(.pointer (some ⟨r,0,none⟩)),(.agg (ints c.flat).toArray)] T0 [cD V r s] (RI (.int .i64 (cn V.toDk s c).2) [cD V r (cn V.toDk s c).1]):=by
 refine BD 66 Tryz.func112 rfl rfl rfl λw0 F hF=>sr λ_ J1=>XY (ints c.flat) λb3=>?_
 refine PS ?_;refine nx J1 (aa λ_ J2=>eJ (α:=(Nat)) (λb5=>True) (λb5=>[(0,(.pointer (some ⟨r,0,none⟩))),(3,(.pointer (some ⟨b3,0,none⟩))),(4,(.int .i64 0)),(5,(.pointer (some ⟨b5,0,none⟩)))]) (λb5=>[cD V r s,aj b3 (ints c.flat) 28,aj b5 (ints (en s).flat) 88]) (λb5 hinv=>?_) (λtl2=>?_));have _:=hinv;refine ac J2 (aa λ_ J3=>eJ (α:=(Nat)) (λb6=>True) (λb6=>[(0,(.pointer (some ⟨r,0,none⟩))),(3,(.pointer (some ⟨b3,0,none⟩))),(4,(.int .i64 0)),(5,(.pointer (some ⟨b5,0,none⟩))),(6,(.pointer (some ⟨b6,0,none⟩))),(7,(.bool ((bQ s.acc s.view.epoch (en s)).2)))]) (λb6=>[cD V r s,aj b3 (ints c.flat) 28,aj b5 (ints (en s).flat) 88,aj b6 (ints ((bQ s.acc s.view.epoch (en s)).1).flat) 118]) (λb6 hinv=>?_) (λtl3=>?_));have _:=hinv;refine ac J3 (aa λ_ J4=>sr λ_ J5=>PS ?_);refine aX ?_ ?_<;>intro h33;refine PS ?_;refine nx J5 (CN (qx J4 (aa λ_ J6=>aa λ_ J7=>DC bf (cN 0 rfl rfl) (BL 2) ?_)));refine PD 0 ?_;refine PD 1 ?_;refine PD 2 ?_;refine FD 3 2 bg be ?_;refine FD 4 2 eL aO ?_;refine ta 5 rfl (c8 (v:=(.int .i64 (s.view.epoch))) rfl Y3 rfl rfl (λ_ h=>h.2.1) (λa_=>(cd (s.rep a_) 0 rfl (by decide) (bc _ rfl)))) ?_;refine LY 6 jP cv an ?_;refine ta 7 rfl (kw RecT.zero (RecT.mk 3 0 RowT.zero s.view.epoch (en s) ChangeT.zero ViewT.zero) [(0,[Value.int .i64 3]),(3,[Value.int .i64 s.view.epoch]),(4,ints (en s).flat)] iy eQ (g:=RecT.sg)) ?_
 refine AL 8 ?_;refine CE vn (kB V r s (gI s.view.epoch (en s))) ID ?_;refine EN (PD 9 ?_);refine DN (ac J7 (sr λ_ J8=>P2 ?_));refine am ?_ ?_<;>intro h45;refine nx J8 (CY (sr λ_ J9=>P2 ?_));refine nx J9 (ai (ae (WK [0] (aq rfl rfl ?_))));have e:cn V.toDk s c=(dY V.toDk s (gI s.view.epoch (en s)),rz V.toDk s (gI s.view.epoch (en s))):=by rw[cn,if_neg (by rw[h33];decide),if_pos h45]
 exact jo e;refine Bq (H':=λvo:Value=>uh V r (dY V.toDk s (gI s.view.epoch (en s))) vo::[aj b3 (ints c.flat) 28,aj b5 (ints (en s).flat) 88,aj b6 (ints ((bQ s.acc s.view.epoch (en s)).1).flat) 118]) (λ_ q=>DM q) (λvo=>nx J8 (CN (qx J6 (aa λ_ J10=>D2 3 2 bf ?_))));refine PD 0 ?_;refine PD 1 ?_;refine LY 2 iw dq aW ?_;refine FD 3 0 jP aO ?_;refine LX 4 Y3 (.int .i64 ((en s).round)) ?_ (hc:=by exact eT _ rfl);refine PD 5 ?_;refine FD 6 1058 bg dq ?_;refine AL 7 ?_;refine gD (vs:=ints ((bQ s.acc s.view.epoch (en s)).1).flat) (i:=0) (ab rfl) rfl rfl rfl rfl rfl (by rw[(aW ((bQ s.acc s.view.epoch (en s)).1))];exact dq) (bG _) rfl rfl (λ_=>LC (cM _) (aW _)) (λa_=>(jZ ((dY V.toDk s (gI s.view.epoch (en s))).rep ⟨(a_:Nat×Value).1,vo,a_.2⟩) 0 rfl (by have h1:=(aW ((bQ s.acc s.view.epoch (en s)).1));omega) (cz ((aW (((dY V.toDk s (gI s.view.epoch (en s))).rep ⟨(a_:Nat×Value).1,vo,a_.2⟩).acc)).trans (aW ((bQ s.acc s.view.epoch (en s)).1)).symm)))) (EN (PD 8 ?_));refine FD 9 1066 bg aO ?_;refine AL 10 ?_;refine SK 0 aO (λ_=>cM _) ?_ (hc:=by exact λa_=>(ll _ rfl _));refine EN (DN (ac J10 (aa λ_ J11=>D2 2 1 bf ?_)));refine PD 0 ?_;refine PD 1 ?_;refine PD 2 ?_;refine FD 3 2 bg be ?_;refine LY 5 jP cv an ?_;refine LY 6 mx fl aI ?_;refine AL 4 ?_;refine LZ 0 eL be ao s.view ?_ (hc:=by exact λ_=>cX _);refine EN (AL 7 ?_);refine CR K8 (yo s.view (en s) c) ID λvR HR hR=>?_
 obtain⟨vb,rfl,rfl⟩:=hR;refine EN (PD 8 ?_);refine FD 9 1067 bg iF ?_;refine AL 10 ?_;refine SK 1 iF (λ_=>cM _) ?_ (hc:=by exact λa_=>(ML _ rfl _));refine EN (DN (ac J11 (sr λ_ J12=>PS ?_)));refine nx J12 (ai (aE (H':=[cD V r (qH V.toDk s c)]) (dE _) (λ_ q=>nl (ak [1,0] rfl q)) (aq rfl rfl ?_)));have e:cn V.toDk s c=(qH V.toDk s c,0):=by rw[cn,if_neg (by rw[h33];decide),if_neg h45]
 exact jo e;refine PS ?_;refine nx J5 (CY (sr λ_ J13=>PS ?_));refine nx J13 (ai (ae (WK [0] (aq rfl rfl ?_))));have e:cn V.toDk s c=(s,6):=if_pos h33;exact jo e;refine DC bf (cN 0 rfl rfl) (BL 2) ?_;refine PD 0 ?_;refine PD 1 ?_;refine FD 2 1058 bg dq ?_;refine ta 3 rfl (fI (vs:=ints s.acc.flat) rfl iw rfl dq rfl (λ_ h=>h.2.1) (aW s.acc) (λa_=>(wZ (s.rep a_) 0 rfl (by decide) (bk (aW ((s.rep a_).acc)))))) ?_;refine PD 4 ?_;refine PD 5 ?_;refine FD 6 2 bg be ?_;refine FD 7 2 eL aO ?_;refine ta 8 rfl (c8 (v:=(.int .i64 (s.view.epoch))) rfl Y3 rfl rfl (λ_ h=>h.2.1) (λa_=>(cd (s.rep a_) 0 rfl (by decide) (bc _ rfl)))) ?_;refine LY 9 jP cv an ?_;refine cJ [10,14] (by kernel_rfl) rfl (aF rfl ?_ ?_);refine CE DF (mL s.acc s.view.epoch (en s)) ID ?_;refine EN (PD 11 ?_);refine PD 12 ?_;refine PD 13 ?_;refine qK ?_ ?_<;>intro h32;refine AL 14 ?_;refine XZ uk (ints AccT.zero.flat) λb6=>?_
 refine EN (AL 15 ?_);refine SW 0 dq aW ?_;refine EN (PD 16 ?_);refine DN ?_
 exact aE
  (aS (aS (aS (aS (aS (bC rfl (by rw[h32]) SB))))))
  (λ_ s=>ak [1,1,1,0] rfl s)
  (tl3 ((b6):(Nat)) trivial)
 refine AL 14 ?_;refine XZ uk (ints AccT.zero.flat) λb6=>?_
 refine EN (AL 15 ?_);refine SW 0 dq aW ?_;refine EN (PD 16 ?_);refine DN ?_
 exact aE
  (aS (aS (aS (aS (aS (bC rfl (by rw[h32]) SB))))))
  (λ_ s=>ak [1,1,1,0] rfl s)
  (tl3 ((b6):(Nat)) trivial)
 refine aF rfl ?_ ?_;refine XZ uk (ints AccT.zero.flat) λb6=>?_
 refine EN (AL 10 ?_);refine CE DF (mL s.acc s.view.epoch (en s)) ID ?_;refine EN (PD 11 ?_);refine PD 12 ?_;refine PD 13 ?_;refine qK ?_ ?_<;>intro h32;refine AL 15 ?_;refine SW 0 dq aW ?_;refine EN (PD 16 ?_);refine DN ?_
 exact aE
  (aS (aS (aS (aS (aS (bC rfl (by rw[h32]) SB))))))
  (λ_ s=>ak [1,1,1,0] rfl s)
  (tl3 ((b6):(Nat)) trivial)
 refine AL 15 ?_;refine SW 0 dq aW ?_;refine EN (PD 16 ?_);refine DN ?_
 exact aE
  (aS (aS (aS (aS (aS (bC rfl (by rw[h32]) SB))))))
  (λ_ s=>ak [1,1,1,0] rfl s)
  (tl3 ((b6):(Nat)) trivial)
 exact bD;refine DB bf (cN 1 rfl rfl) ?_;refine PD 0 ?_;refine PD 1 ?_;refine FD 2 1066 bg aO ?_;refine ta 3 rfl (c8 (v:=(.int .i64 (s.round))) rfl Y3 rfl rfl (λ_ h=>h.2.1) (λa_=>(tQ _ rfl))) ?_;refine ta 4 rfl (cw (r:=(fZ (s.round+1))) rfl rfl rfl rfl) ?_;refine PD 5 ?_;refine PD 6 ?_;refine FD 7 0 bg aO ?_;refine ta 8 rfl (c8 (v:=(.int .i64 (s.id))) rfl Y3 rfl rfl (λ_ h=>h.2.1) (λa_=>(cB _ rfl))) ?_;refine ta 9 rfl (kw BallotT.zero (BallotT.mk (fZ (s.round+1)) s.id) [(0,[Value.int .i64 (fZ (s.round+1))]),(1,[Value.int .i64 s.id])] jP L5 (g:=BallotT.sg)) ?_;refine AL 10 ?_;refine XZ L7 (ints BallotT.zero.flat) λb5=>?_
 refine EN (AL 11 ?_);refine SW 0 cv an ?_;refine EN (DN ?_)
 exact aE
  SB
  (λ_ s=>ak [2,1,0] rfl s)
  (tl2 ((b5):(Nat)) trivial)
theorem zm{δ:Type}(V:Env δ)(r:Nat)(s:MS δ)(op:Int)(c:ChangeT)[OkR V.toDk s][OkCh c](hrs:s.replies.length≤1000000)(hv:s.vote=none):
 DT 95 #[(.pointer (some ⟨r,0,none⟩)),(.iface V.T V.ov),(.int .i64 (op)),(.agg (ints c.flat).toArray)] T0 [cD V r s] (RI (.int .i64 (dN V.toDk s op c).2) [cD V r (dN V.toDk s op c).1]):=by
 refine BD 44 Tryz.func95 rfl rfl rfl λw0 F hF=>sr λ_ J1=>XY (ints c.flat) λb7=>?_
 refine PS ?_;refine nx J1 (aa λ_ J2=>eJ (α:=Unit) (λ_u=>True) (λ_u=>[(0,(.pointer (some ⟨r,0,none⟩))),(1,(.iface V.T V.ov)),(2,(.int .i64 (op))),(7,(.pointer (some ⟨b7,0,none⟩))),(8,(.int .i64 0)),(10,(.int .i64 ((dB s.view c).2)))]) (λ_u=>[cD V r s,aj b7 (ints c.flat) 28]) (λ_u hinv=>?_) (λtl2=>?_));have _:=hinv;refine ac J2 (aa λ_ J3=>sr λ_ J4=>cp (H':=uh V r s (.pointer none)::[aj b7 (ints c.flat) 28]) (λ_ q=>rE hv q) (P2 ?_));refine am ?_ ?_<;>intro h21;refine P3 ?_;refine FA 1067 bg iF ?_;refine LG 0 il (.pointer none) ?_ (hc:=by exact λa_=>(bR _ rfl));refine tq (iz rfl il rfl rfl) ?_;refine PS ?_;refine nx J4 (CN (qx J3 (aa λ_ J5=>sr λ_ J6=>cp (H':=cD V r s::[aj b7 (ints c.flat) 28]) (λ_ q=>nq hv (az [0] rfl q)) (P2 ?_))));refine am ?_ ?_<;>intro h30;refine nx J6 (CY (af (PS ?_)));refine LW 1 mx fl aI ?_;refine CE GM (pu V r s c) ID ?_;refine PS ?_;refine nx J5 (sr λ_ J7=>P3 ?_);refine CZ sE (eM V r ((cn V.toDk s c).1) op ((cn V.toDk s c).2) 0 (by first|exact hrs| (rw[ig];exact hrs))) ID λvR=>?_
 refine nx J7 (aa λ_ J8=>sr λ_ J9=>P2 ?_);refine am ?_ ?_<;>intro h39;refine nx J9 (CY (af (P2 ?_)));refine CZ DK (qn V r (de ((cn V.toDk s c).1) op ((cn V.toDk s c).2) 0) (jc s.view (en s) c) (qG h39)) ID λvR=>?_
 refine nx J8 (sr λ_ J10=>P2 ?_);refine nx J10 (ai (WK [0] (aq rfl rfl ?_)));have e:dN V.toDk s op c=((nh V.toDk (de ((cn V.toDk s c).1) op ((cn V.toDk s c).2) 0) (jc s.view (en s) c)),(cn V.toDk s c).2):=by rw[dN,show fm s c=(dB s.view c).2 by rw[fm,if_neg (λh=>by rw[hv]at h;exact absurd h.2 (by decide))],if_neg (by rw[h30];decide),if_neg (by rw[h39];decide),h39]
 exact jo e;refine nx J9 (CN (qx J8 (sr λ_ J11=>P2 ?_)));refine nx J11 (ai (WK [0] (aq rfl rfl ?_)));have e:dN V.toDk s op c=((de ((cn V.toDk s c).1) op ((cn V.toDk s c).2) 0),(cn V.toDk s c).2):=by rw[dN,show fm s c=(dB s.view c).2 by rw[fm,if_neg (λh=>by rw[hv]at h;exact absurd h.2 (by decide))],if_neg (by rw[h30];decide),if_pos h39]
 exact jo e;refine nx J6 (CN (qx J5 (sr λ_ J12=>P3 ?_)));refine CZ sE (eM V r s op ((dB s.view c).2) 0 (by first|exact hrs| (rw[ig];exact hrs))) ID λvR=>?_
 refine nx J12 (aa λ_ J13=>sr λ_ J14=>P2 ?_);refine am ?_ ?_<;>intro h39
 · exact absurd h39 h30
 refine nx J14 (CN (qx J13 (sr λ_ J15=>P2 ?_)));refine nx J15 (ai (WK [0] (aq rfl rfl ?_)));have e:dN V.toDk s op c=((de s op ((dB s.view c).2) 0),(dB s.view c).2):=by rw[dN,show fm s c=(dB s.view c).2 by rw[fm,if_neg (λh=>h30 h.1)]];exact if_pos (by exact h30)
 exact jo e;refine PS ?_
 iterate 5 refine UF ?_
 refine PS ?_;refine nx J4 (CN (qx J3 (aa λ_ J16=>sr λ_ J17=>cp (H':=cD V r s::[aj b7 (ints c.flat) 28]) (λ_ q=>nq hv (az [0] rfl q)) (P2 ?_))));refine am ?_ ?_<;>intro h30;refine nx J17 (CY (af (PS ?_)));refine LW 1 mx fl aI ?_;refine CE GM (pu V r s c) ID ?_;refine PS ?_;refine nx J16 (sr λ_ J18=>P3 ?_);refine CZ sE (eM V r ((cn V.toDk s c).1) op ((cn V.toDk s c).2) 0 (by first|exact hrs| (rw[ig];exact hrs))) ID λvR=>?_
 refine nx J18 (aa λ_ J19=>sr λ_ J20=>P2 ?_);refine am ?_ ?_<;>intro h39;refine nx J20 (CY (af (P2 ?_)));refine CZ DK (qn V r (de ((cn V.toDk s c).1) op ((cn V.toDk s c).2) 0) (jc s.view (en s) c) (qG h39)) ID λvR=>?_
 refine nx J19 (sr λ_ J21=>P2 ?_);refine nx J21 (ai (WK [0] (aq rfl rfl ?_)));have e:dN V.toDk s op c=((nh V.toDk (de ((cn V.toDk s c).1) op ((cn V.toDk s c).2) 0) (jc s.view (en s) c)),(cn V.toDk s c).2):=by rw[dN,show fm s c=(dB s.view c).2 by rw[fm,if_neg (λh=>by rw[hv]at h;exact absurd h.2 (by decide))],if_neg (by rw[h30];decide),if_neg (by rw[h39];decide),h39]
 exact jo e;refine nx J20 (CN (qx J19 (sr λ_ J22=>P2 ?_)));refine nx J22 (ai (WK [0] (aq rfl rfl ?_)));have e:dN V.toDk s op c=((de ((cn V.toDk s c).1) op ((cn V.toDk s c).2) 0),(cn V.toDk s c).2):=by rw[dN,show fm s c=(dB s.view c).2 by rw[fm,if_neg (λh=>by rw[hv]at h;exact absurd h.2 (by decide))],if_neg (by rw[h30];decide),if_pos h39]
 exact jo e;refine nx J17 (CN (qx J16 (sr λ_ J23=>P3 ?_)));refine CZ sE (eM V r s op ((dB s.view c).2) 0 (by first|exact hrs| (rw[ig];exact hrs))) ID λvR=>?_
 refine nx J23 (aa λ_ J24=>sr λ_ J25=>P2 ?_);refine am ?_ ?_<;>intro h39
 · exact absurd h39 h30
 refine nx J25 (CN (qx J24 (sr λ_ J26=>P2 ?_)));refine nx J26 (ai (WK [0] (aq rfl rfl ?_)));have e:dN V.toDk s op c=((de s op ((dB s.view c).2) 0),(dB s.view c).2):=by rw[dN,show fm s c=(dB s.view c).2 by rw[fm,if_neg (λh=>h30 h.1)]];exact if_pos (by exact h30)
 exact jo e;refine DC bf (cN 1 rfl rfl) (BL 0) ?_;refine PD 0 ?_;refine PD 1 ?_;refine FD 2 2 bg be ?_;refine ta 3 rfl (fI (vs:=ints s.view.flat) rfl eL rfl be rfl (λ_ h=>h.2.1) (ao s.view) (λa_=>(fD (s.rep a_) 0 rfl (by decide) (bk (ao ((s.rep a_).view)))))) ?_;refine LY 4 mx fl aI ?_;refine cJ [5,9] (by kernel_rfl) rfl (aF rfl ?_ ?_);refine CE ml (dh s.view c OkVw.rng) ID ?_;refine EN (PD 6 ?_);refine PD 7 ?_;refine PD 8 ?_;refine AL 9 ?_;refine XZ sV (ints ViewT.zero.flat) λb9=>?_
 refine EN (AL 10 ?_);refine SW 0 be ao ?_;refine EN (PD 11 ?_);refine DN ?_
 exact aE
  SB
  (λ_ s=>ak [2,1] rfl s)
  (tl2 (():Unit) trivial)
 refine aF rfl ?_ ?_;refine XZ sV (ints ViewT.zero.flat) λb9=>?_
 refine EN (AL 5 ?_);refine CE ml (dh s.view c OkVw.rng) ID ?_;refine EN (PD 6 ?_);refine PD 7 ?_;refine PD 8 ?_;refine AL 10 ?_;refine SW 0 be ao ?_;refine EN (PD 11 ?_);refine DN ?_
 exact aE
  SB
  (λ_ s=>ak [2,1] rfl s)
  (tl2 (():Unit) trivial)
 exact bD
theorem zl{δ:Type}(V:Env δ)(r:Nat)(s:MS δ)(vt:VoteT)(op:Int)(c:ChangeT)[OkR V.toDk s][OkCh c](hrs:s.replies.length≤1000000)(hv:s.vote=some vt):
 DT 95 #[(.pointer (some ⟨r,0,none⟩)),(.iface V.T V.ov),(.int .i64 (op)),(.agg (ints c.flat).toArray)] T0 [cD V r s] (RI (.int .i64 (dN V.toDk s op c).2) [cD V r (dN V.toDk s op c).1]):=by
 refine BD 44 Tryz.func95 rfl rfl rfl λw0 F hF=>sr λ_ J1=>XY (ints c.flat) λb7=>?_
 refine PS ?_;refine nx J1 (aa λ_ J2=>eJ (α:=Unit) (λ_u=>True) (λ_u=>[(0,(.pointer (some ⟨r,0,none⟩))),(1,(.iface V.T V.ov)),(2,(.int .i64 (op))),(7,(.pointer (some ⟨b7,0,none⟩))),(8,(.int .i64 0)),(10,(.int .i64 ((dB s.view c).2)))]) (λ_u=>[cD V r s,aj b7 (ints c.flat) 28]) (λ_u hinv=>?_) (λtl2=>?_));have _:=hinv;refine ac J2 (aa λ_ J3=>sr λ_ J4=>Bq (H':=λvb:Nat=>uh V r s (.pointer (some ⟨vb,0,none⟩))::aj vb (VoteT.cells vt) 227::[aj b7 (ints c.flat) 28]) (λ_ q=>mm hv q) (λvb=>P2 ?_));refine am ?_ ?_<;>intro h21;refine P3 ?_;refine FA 1067 bg iF ?_;refine LG 0 il (.pointer (some ⟨vb,0,none⟩)) ?_ (hc:=by exact λa_=>(bR _ rfl));refine tq (iS rfl il rfl rfl) ?_;refine PS ?_;refine nx J4 (CY (af (cp (H':=cD V r s::[aj b7 (ints c.flat) 28]) (λ_ q=>np hv (az [0,0] rfl q)) (PS ?_))));refine nx J3 (aa λ_ J5=>sr λ_ J6=>P2 ?_);refine nx J6 (CN (qx J5 (sr λ_ J7=>P3 ?_)));refine CZ sE (eM V r s op 8 0 (by first|exact hrs| (rw[ig];exact hrs))) ID λvR=>?_
 refine nx J7 (aa λ_ J8=>sr λ_ J9=>P2 ?_);refine nx J9 (CN (qx J8 (sr λ_ J10=>P2 ?_)));refine nx J10 (ai (WK [0] (aq rfl rfl ?_)));have e:dN V.toDk s op c=((de s op 8 0),8):=by rw[dN,show fm s c=8 by rw[fm,if_pos ⟨h21,by rw[hv];rfl⟩]];exact if_pos (by decide)
 exact jo e;refine PS ?_
 iterate 5 refine UF ?_
 refine PS ?_;refine nx J4 (CN (qx J3 (aa λ_ J11=>sr λ_ J12=>cp (H':=cD V r s::[aj b7 (ints c.flat) 28]) (λ_ q=>np hv (az [0,0] rfl q)) (P2 ?_))));refine am ?_ ?_<;>intro h30
 · exact absurd h30 (by first|decide|exact h21)
 refine nx J12 (CN (qx J11 (sr λ_ J13=>P3 ?_)));refine CZ sE (eM V r s op ((dB s.view c).2) 0 (by first|exact hrs| (rw[ig];exact hrs))) ID λvR=>?_
 refine nx J13 (aa λ_ J14=>sr λ_ J15=>P2 ?_);refine am ?_ ?_<;>intro h39
 · exact absurd h39 (by first|decide|exact h30)
 refine nx J15 (CN (qx J14 (sr λ_ J16=>P2 ?_)));refine nx J16 (ai (WK [0] (aq rfl rfl ?_)));have e:dN V.toDk s op c=((de s op ((dB s.view c).2) 0),(dB s.view c).2):=by rw[dN,show fm s c=(dB s.view c).2 by rw[fm,if_neg (λh=>h30 h.1)]];exact if_pos (by exact h30)
 exact jo e;refine DC bf (cN 1 rfl rfl) (BL 0) ?_;refine PD 0 ?_;refine PD 1 ?_;refine FD 2 2 bg be ?_;refine ta 3 rfl (fI (vs:=ints s.view.flat) rfl eL rfl be rfl (λ_ h=>h.2.1) (ao s.view) (λa_=>(fD (s.rep a_) 0 rfl (by decide) (bk (ao ((s.rep a_).view)))))) ?_;refine LY 4 mx fl aI ?_;refine cJ [5,9] (by kernel_rfl) rfl (aF rfl ?_ ?_);refine CE ml (dh s.view c OkVw.rng) ID ?_;refine EN (PD 6 ?_);refine PD 7 ?_;refine PD 8 ?_;refine AL 9 ?_;refine XZ sV (ints ViewT.zero.flat) λb9=>?_
 refine EN (AL 10 ?_);refine SW 0 be ao ?_;refine EN (PD 11 ?_);refine DN ?_
 exact aE
  SB
  (λ_ s=>ak [2,1] rfl s)
  (tl2 (():Unit) trivial)
 refine aF rfl ?_ ?_;refine XZ sV (ints ViewT.zero.flat) λb9=>?_
 refine EN (AL 5 ?_);refine CE ml (dh s.view c OkVw.rng) ID ?_;refine EN (PD 6 ?_);refine PD 7 ?_;refine PD 8 ?_;refine AL 10 ?_;refine SW 0 be ao ?_;refine EN (PD 11 ?_);refine DN ?_
 exact aE
  SB
  (λ_ s=>ak [2,1] rfl s)
  (tl2 (():Unit) trivial)
 exact bD
theorem zk{δ:Type}(V:Env δ)(r:Nat)(s:MS δ)(op:Int)(c:ChangeT)[OkR V.toDk s][OkCh c](hrs:s.replies.length≤1000000):DT 95 #[.pointer (some ⟨r,0,none⟩), .iface V.T V.ov, .int .i64 op, .agg (ints c.flat).toArray] T0 [cD V r s] (RI (.int .i64 (dN V.toDk s op c).2) [cD V r (dN V.toDk s op c).1]):=by
 cases hv:s.vote with
 |none=>exact zm V r s op c hrs hv
 |some vt=>exact zl V r s vt op c hrs hv
theorem vg{δ:Type}(V:Env δ)(r:Nat)(s:MS δ)(o:OpT):DT 96 #[.pointer (some ⟨r,0,none⟩), .agg (ints o.flat).toArray] T0 [cD V r s] (RI (.tuple #[.agg (ints (cZ s o).1.flat).toArray, .int .i64 (cZ s o).2.1, .int .i64 (cZ s o).2.2]) [cD V r s]):=Leg.Does.hid (λa=>E3 r (s.rep a) o)
theorem zg{δ:Type}(V:Env δ)(r:Nat)(s:MS δ)(o:OpT)[OkR V.toDk s][OkCh o.change](hrs:s.replies.length≤1000000):
 DT 58 #[(.pointer (some ⟨r,0,none⟩)),(.iface V.T V.ov),(.agg (ints o.flat).toArray)] T0 [cD V r s] (RI (.int .i64 (bP V.toDk s o).2) [cD V r (bP V.toDk s o).1]):=by
 refine BD 74 Tryz.func58 rfl rfl rfl λw0 F hF=>sr λ_ J1=>XY (ints o.flat) λb5=>?_
 refine PS ?_;refine nx J1 (sr λ_ J2=>P2 ?_);refine FA 1941 bg aO ?_;refine LG 1 Y3 (.int .i64 (s.ops)) ?_ (hc:=by exact λa_=>(RepT.at_ops _ rfl));refine tp (cw (r:=(fZ (s.ops+1))) rfl rfl rfl rfl) ?_;refine PS ?_;refine FA 1941 bg aO ?_;refine SK 1 aO (λ_=>cM _) ?_ (hc:=by exact λa_=>(RepT.set_ops _ rfl _));refine nx J2 (sr λ_ J3=>P2 ?_);refine FA 1941 bg aO ?_;refine LG 1 Y3 (.int .i64 ((br s).ops)) ?_ (hc:=by exact λa_=>(RepT.at_ops _ rfl));refine PS ?_;refine nx J3 (aa λ_ J4=>aa λ_ J5=>DC bf (cN 1 rfl rfl) (BL 0) ?_);refine PD 0 ?_;refine PD 1 ?_;refine FD 2 2 bg be ?_;refine ta 3 rfl (fI (vs:=ints ((br s).view).flat) rfl eL rfl be rfl (λ_ h=>h.2.1) (ao ((br s).view)) (λa_=>(fD ((br s).rep a_) 0 rfl (by decide) (bk (ao (((br s).rep a_).view)))))) ?_;refine PD 4 ?_;refine PD 5 ?_;refine FD 6 0 bg aO ?_;refine ta 7 rfl (c8 (v:=(.int .i64 ((br s).id))) rfl Y3 rfl rfl (λ_ h=>h.2.1) (λa_=>(cB _ rfl))) ?_;refine AL 8 ?_;refine CE o9 (dv ((br s).view) ((br s).id)) ID ?_;refine aX ?_ ?_<;>intro h30;refine EN (PD 9 ?_);refine FD 10 0 eZ aO ?_;refine LR 11 Y3 (cq o rfl) ?_;refine PD 12 ?_;refine gF ?_ ?_<;>intro h34;refine PD 13 ?_;refine DN (ac J5 (CY (sr λ_ J6=>P3 ?_)));refine FA 5 eZ fl ?_;refine LV 0 mx fl aI OpT.sp_change (y:=o.change) ?_;refine CE Ml (zk V r (br s) ((br s).ops) o.change hrs) (SM [1]) ?_;refine PS ?_;refine nx J6 (ai (ae (WK [0] (aq rfl rfl ?_))))
 have e:bP V.toDk s o=((dN V.toDk (br s) ((br s).ops) o.change).1,(dN V.toDk (br s) (br s).ops o.change).2):=by rw[bP,show iu s.view s.id=true from h30,decide_eq_true h34,if_pos (by rfl)]
 exact jo e;refine PD 13 ?_;refine DN (ac J5 (CN (qx J4 (sr λ_ J7=>PS ?_))));refine LW 0 eZ yw Bx ?_;refine CE Ks (vg V r (br s) o) (SM [1]) ?_;refine P4 ?_;refine XZ uj (ints RowT.zero.flat) λb8=>?_
 refine SW 0 ba ah ?_;refine P2 ?_;refine nx J7 (aa λ_ J8=>sr λ_ J9=>P2 ?_);refine am ?_ ?_<;>intro h50;refine PS ?_
 iterate 3 refine UT ?_
 refine PS ?_;refine nx J9 (CY (sr λ_ J10=>P4 ?_));refine CZ sE (eM V r (br s) ((br s).ops) ((cZ (br s) o).2.2) ((cZ (br s) o).2.1) (by first|exact hrs| (rw[je];exact hrs))) (SM [1]) λvR=>?_
 refine nx J10 (sr λ_ J11=>P2 ?_);refine nx J11 (ai (ae (WK [0] (aq rfl rfl ?_))));have e:bP V.toDk s o=((de (br s) ((br s).ops) ((cZ (br s) o).2.2) ((cZ (br s) o).2.1)),(cZ (br s) o).2.2):=by rw[bP,show iu s.view s.id=true from h30,decide_eq_false h34,if_neg (by decide),mZ,if_pos (.inl h50)]
 exact jo e;refine PS ?_;refine FA 0 eZ aO ?_;refine LU 2 Y3 (cq o rfl) ?_;refine PS ?_;refine am ?_ ?_<;>intro h54;refine PS ?_;refine nx J9 (CY (sr λ_ J12=>P4 ?_));refine CZ sE (eM V r (br s) ((br s).ops) ((cZ (br s) o).2.2) ((cZ (br s) o).2.1) (by first|exact hrs| (rw[je];exact hrs))) (SM [1]) λvR=>?_
 refine nx J12 (sr λ_ J13=>P2 ?_);refine nx J13 (ai (ae (WK [0] (aq rfl rfl ?_))));have e:bP V.toDk s o=((de (br s) ((br s).ops) ((cZ (br s) o).2.2) ((cZ (br s) o).2.1)),(cZ (br s) o).2.2):=by rw[bP,show iu s.view s.id=true from h30,decide_eq_false h34,if_neg (by decide),mZ,if_pos (.inr h54)]
 exact jo e;refine PS ?_;refine nx J9 (CN (qx J8 (aa λ_ J14=>sr λ_ J15=>P2 ?_)));refine LW 0 dS ba ah ?_;refine PS ?_;refine CE Jr (qD V r (br s) ((cZ (br s) o).1) ((br s).ops)) (SM [1]) ?_;refine PS ?_;refine nx J15 (sr λ_ J16=>P2 ?_);refine am ?_ ?_<;>intro h68;refine nx J16 (CY (af (P3 ?_)));refine CZ sE (eM V r ((eF V.toDk (br s) ((cZ (br s) o).1) ((br s).ops)).1) ((br s).ops) ((eF V.toDk (br s) ((cZ (br s) o).1) ((br s).ops)).2) 0 (by first|exact hrs| (rw[je];exact hrs))) ID λvR=>?_
 refine nx J14 (sr λ_ J17=>P2 ?_);refine nx J17 (ai (WK [0] (aq rfl rfl ?_)));have e:bP V.toDk s o=((de ((eF V.toDk (br s) ((cZ (br s) o).1) ((br s).ops)).1) ((br s).ops) ((eF V.toDk (br s) ((cZ (br s) o).1) ((br s).ops)).2) 0),(eF V.toDk (br s) (cZ (br s) o).1 (br s).ops).2):=by rw[bP,show iu s.view s.id=true from h30,decide_eq_false h34,if_neg (by decide),mZ,if_neg (λh=>h.elim (λh=>h50 h) (λh=>h54 h)),if_pos h68]
 exact jo e;refine nx J16 (CN (qx J14 (sr λ_ J18=>P2 ?_)));refine nx J18 (ai (WK [0] (aq rfl rfl ?_)));have e:bP V.toDk s o=((eF V.toDk (br s) ((cZ (br s) o).1) ((br s).ops)).1,(eF V.toDk (br s) (cZ (br s) o).1 (br s).ops).2):=by rw[bP,show iu s.view s.id=true from h30,decide_eq_false h34,if_neg (by decide),mZ,if_neg (λh=>h.elim (λh=>h50 h) (λh=>h54 h)),if_neg h68,show(eF V.toDk (br s) (cZ (br s) o).1 (br s).ops).2=0 from Decidable.not_not.1 h68]
 exact jo e;refine EN (PD 9 ?_);refine NT 10 ?_;refine NT 11 ?_;refine NT 12 ?_;refine PD 13 ?_;refine DN (ac J5 (CN (qx J4 (sr λ_ J19=>PS ?_))));refine LW 0 eZ yw Bx ?_;refine CE Ks (vg V r (br s) o) (SM [1]) ?_;refine P4 ?_;refine XZ uj (ints RowT.zero.flat) λb8=>?_
 refine SW 0 ba ah ?_;refine P2 ?_;refine nx J19 (aa λ_ J20=>sr λ_ J21=>P2 ?_);refine am ?_ ?_<;>intro h50;refine PS ?_
 iterate 3 refine UT ?_
 refine PS ?_;refine nx J21 (CY (sr λ_ J22=>P4 ?_));refine CZ sE (eM V r (br s) ((br s).ops) ((cZ (br s) o).2.2) ((cZ (br s) o).2.1) (by first|exact hrs| (rw[je];exact hrs))) (SM [1]) λvR=>?_
 refine nx J22 (sr λ_ J23=>P2 ?_);refine nx J23 (ai (ae (WK [0] (aq rfl rfl ?_))));have e:bP V.toDk s o=((de (br s) ((br s).ops) ((cZ (br s) o).2.2) ((cZ (br s) o).2.1)),(cZ (br s) o).2.2):=by rw[bP,show iu s.view s.id=false from h30,if_neg (by rw[gv];decide),mZ,if_pos (.inl h50)]
 exact jo e;refine PS ?_;refine FA 0 eZ aO ?_;refine LU 2 Y3 (cq o rfl) ?_;refine PS ?_;refine am ?_ ?_<;>intro h54;refine PS ?_;refine nx J21 (CY (sr λ_ J24=>P4 ?_));refine CZ sE (eM V r (br s) ((br s).ops) ((cZ (br s) o).2.2) ((cZ (br s) o).2.1) (by first|exact hrs| (rw[je];exact hrs))) (SM [1]) λvR=>?_
 refine nx J24 (sr λ_ J25=>P2 ?_);refine nx J25 (ai (ae (WK [0] (aq rfl rfl ?_))));have e:bP V.toDk s o=((de (br s) ((br s).ops) ((cZ (br s) o).2.2) ((cZ (br s) o).2.1)),(cZ (br s) o).2.2):=by rw[bP,show iu s.view s.id=false from h30,if_neg (by rw[gv];decide),mZ,if_pos (.inr h54)]
 exact jo e;refine PS ?_;refine nx J21 (CN (qx J20 (aa λ_ J26=>sr λ_ J27=>P2 ?_)));refine LW 0 dS ba ah ?_;refine PS ?_;refine CE Jr (qD V r (br s) ((cZ (br s) o).1) ((br s).ops)) (SM [1]) ?_;refine PS ?_;refine nx J27 (sr λ_ J28=>P2 ?_);refine am ?_ ?_<;>intro h68;refine nx J28 (CY (af (P3 ?_)));refine CZ sE (eM V r ((eF V.toDk (br s) ((cZ (br s) o).1) ((br s).ops)).1) ((br s).ops) ((eF V.toDk (br s) ((cZ (br s) o).1) ((br s).ops)).2) 0 (by first|exact hrs| (rw[je];exact hrs))) ID λvR=>?_
 refine nx J26 (sr λ_ J29=>P2 ?_);refine nx J29 (ai (WK [0] (aq rfl rfl ?_)));have e:bP V.toDk s o=((de ((eF V.toDk (br s) ((cZ (br s) o).1) ((br s).ops)).1) ((br s).ops) ((eF V.toDk (br s) ((cZ (br s) o).1) ((br s).ops)).2) 0),(eF V.toDk (br s) (cZ (br s) o).1 (br s).ops).2):=by rw[bP,show iu s.view s.id=false from h30,if_neg (by rw[gv];decide),mZ,if_neg (λh=>h.elim (λh=>h50 h) (λh=>h54 h)),if_pos h68]
 exact jo e;refine nx J28 (CN (qx J26 (sr λ_ J30=>P2 ?_)));refine nx J30 (ai (WK [0] (aq rfl rfl ?_)));have e:bP V.toDk s o=((eF V.toDk (br s) ((cZ (br s) o).1) ((br s).ops)).1,(eF V.toDk (br s) (cZ (br s) o).1 (br s).ops).2):=by rw[bP,show iu s.view s.id=false from h30,if_neg (by rw[gv];decide),mZ,if_neg (λh=>h.elim (λh=>h50 h) (λh=>h54 h)),if_neg h68,show(eF V.toDk (br s) (cZ (br s) o).1 (br s).ops).2=0 from Decidable.not_not.1 h68]
 exact jo e
end Go.Proofs.YtjblgopghhgflaaGreat
end
