/-
  Joined texts:what a statement's proof reaches.
-/
import Derived.Test.YtjblgopghhgflaaGreatPSR5
set_option maxHeartbeats 8000000
set_option maxRecDepth 100000
set_option linter.unusedSimpArgs false
set_option linter.unusedVariables false
section
namespace Go.Proofs.YtjblgopghhgflaaGreat
open Go Leg Codec Api Dsk Wal
theorem wK{δ:Type}(V:Env δ)(r:Nat)(s:MS δ)[OkR V.toDk s](hrs:s.replies.length≤1000000):
 DT 169 #[(.pointer (some ⟨r,0,none⟩)),(.iface V.T V.ov)] T0 [cA V r s] (dG (λ_ H=>H=[cA V r (kU V.toDk s)])):=by
 refine BD 43 Tryz.func169 rfl rfl rfl λw0 F hF=>sr λ_ J1=>P2 ?_
 refine FA 1938 bh kd ?_;refine SK 0 kd (λ_=>cJ _) ?_ (hc:=by exact λa_=>(Mf _ rfl _));refine nx J1 (aa λ_ J2=>eH (α:=Unit) (λ_u=>True) (λ_u=>[(0,(.pointer (some ⟨r,0,none⟩))),(1,(.iface V.T V.ov))]) (λ_u=>[cA V r (gl s)]) (λ_u hinv=>?_) (λtl2=>?_));have _:=hinv;refine ac J2 (aa λ_ J3=>eH (α:=Unit) (λ_u=>True) (λ_u=>[(0,(.pointer (some ⟨r,0,none⟩))),(1,(.iface V.T V.ov))]) (λ_u=>[cA V r (lw (gl s))]) (λ_u hinv=>?_) (λtl3=>?_));have _:=hinv;refine ac J3 (sr λ_ J4=>P4 ?_);refine FA 9 bh aZ ?_;refine LZ 0 dP aZ ah ((lw (gl s)).own) ?_ (hc:=by exact λ_=>Iy _);refine CZ Ga (lW V r (lw (gl s)) ((lw (gl s)).own)) ID λvR=>?_
 refine nx J4 (ae (P2 ?_));refine CZ C7 (nV V r (lN V.toDk (lw (gl s)) ((lw (gl s)).own))) ID λvR=>?_
 exact au (WK [0] (bu rfl rfl));refine sr λ_ J5=>P2 ?_
 refine FA 1940 bh aM ?_;refine LG 0 Y3 (.int .i64 ((gl s).waits)) ?_ (hc:=by exact λa_=>(RepT.at_waits _ rfl));refine PS ?_;refine ao ?_ ?_<;>intro h23;refine nx J5 (CY (sr λ_ J6=>P3 ?_));refine FA 1940 bh aM ?_;refine LG 0 Y3 (.int .i64 ((gl s).waits)) ?_ (hc:=by exact λa_=>(RepT.at_waits _ rfl));refine CZ sw (eG V r (gl s) ((gl s).waits) 0 0 hrs) ID λvR=>?_
 refine nx J6 (ae (P2 ?_));refine FA 1940 bh aM ?_;refine SK 0 aM (λ_=>cJ _) ?_ (hc:=by exact λa_=>(RepT.set_waits _ rfl _));refine au ?_
 exact aD
  SB
  (λ_ q=>by
   rw[w7 h23]
   exact aj [0] rfl q)
  (tl3 (():Unit) trivial)
 refine nx J5 (CN (aS ?_))
 exact aD
  SB
  (λ_ q=>by
   rw[w8 h23]
   exact aj [0] rfl q)
  (tl3 (():Unit) trivial)
 refine D0 bc ?_;refine PD 0 ?_;refine PD 1 ?_;refine FD 2 1068 bh uu ?_;refine PD 3 ?_;refine PD 4 ?_;refine FD 5 0 bh aM ?_;refine PD 7 ?_;refine PD 8 ?_;refine FD 9 9 bh aZ ?_;refine cE [6,10] (by kernel_rfl) rfl (aE rfl ?_ ?_);refine LG 0 Y3 (.int .i64 (s.id)) ?_ (hc:=by exact λa_=>(cv _ rfl));refine EN (AL 10 ?_);refine LZ 0 dP aZ ah s.own ?_ (hc:=by exact λ_=>Iy _);refine EN (AL 11 ?_);refine CE IT (Leg.Does.hid (λa_=>mi r 1068 123 _ (gj ((MS.setBusy s false).rep a_)) (MS.setBusy s false).book s.id s.own (KY inferInstance))) ID ?_;refine EN (DN ?_)
 exact aD
  SB
  (λ_ s=>aj [0] rfl s)
  (tl2 (():Unit) trivial)
 refine aE rfl ?_ ?_;refine LZ 0 dP aZ ah s.own ?_ (hc:=by exact λ_=>Iy _);refine EN (AL 6 ?_);refine LG 0 Y3 (.int .i64 (s.id)) ?_ (hc:=by exact λa_=>(cv _ rfl));refine EN (AL 11 ?_);refine CE IT (Leg.Does.hid (λa_=>mi r 1068 123 _ (gj ((MS.setBusy s false).rep a_)) (MS.setBusy s false).book s.id s.own (KY inferInstance))) ID ?_;refine EN (DN ?_)
 exact aD
  SB
  (λ_ s=>aj [0] rfl s)
  (tl2 (():Unit) trivial)
 exact bA
theorem uo{δ:Type}(V:Env δ)(r:Nat)(s:MS δ)(from':Int)(m:MsgT)[OkR V.toDk s](hrs:s.replies.length≤1000000):
 DT 144 #[(.pointer (some ⟨r,0,none⟩)),(.iface V.T V.ov),(.int .i64 (from')),(.agg (ints m.flat).toArray)] T0 [cA V r s] (dG (λ_ H=>H=[cA V r (dB V.toDk s from' m)])):=by
 refine BD 64 Tryz.func144 rfl rfl rfl λw0 F hF=>?_
 have hid:cD s.id=true:=OkR.id;have hid2:0≤s.id∧s.id<5:=of_decide_eq_true hid;refine sr λ_ J1=>XY (ints m.flat) λb7=>?_
 refine nx J1 (sr λ_ J2=>P2 ?_);refine FA 0 bh aM ?_;refine LG 1 Y3 (.int .i64 (s.id)) ?_ (hc:=by exact λa_=>(cv _ rfl));refine CR FY (pu s.id hid) ID λvR HR hR=>?_
 obtain⟨_,rfl,rfl⟩:=hR;revert vR;intro uw;refine gR 0 rfl rfl (λhluw _=>gG 0 rfl rfl (by omega) (λgw capw hvw hcapw=>PS ?_));refine nx J2 (aa λ_ J3=>aa λ_ J4=>DC bc (cK 2 rfl rfl) (BL 1) ?_);refine PD 0 ?_;refine PD 1 ?_;refine FD 2 1938 bh kd ?_;refine ta 3 rfl (cX (v:=(.bool (s.busy))) rfl Y4 rfl rfl (λ_ h=>h.2.1) (λa_=>(wT _ rfl))) ?_;refine qu ?_ ?_<;>intro h19;refine PD 4 ?_;refine PD 5 ?_;refine FD 6 176 aY aM ?_;refine LR 7 Y3 (MsgT.at_version m rfl) ?_;refine PD 8 ?_;refine PD 9 ?_;refine FD 10 9 bh aZ ?_;refine FD 11 9 dP aM ?_;refine tb 12 rfl (cX (v:=(.int .i64 (s.own.version))) rfl Y3 rfl rfl (λ_ h=>h.2.1) (λa_=>(RepT.pt_own (s.rep a_) 0 rfl (by decide) (cz _ rfl)))) ?_;refine PD 13 ?_;refine gX ?_ ?_<;>intro h29;refine PD 14 ?_;refine PD 15 ?_;refine NT 16 ?_;refine NT 17 ?_;refine NT 18 ?_;refine NT 19 ?_;refine PD 20 ?_;refine DN (ac J4 (CY (ai (ad (WK [2] (du rfl ?_))))));have ew:gv s.id=[(s.id+1)%5,(s.id+2)%5]:=by rw[gv,if_pos hid]
 have e:ko s from' m.version=false:=by rw[ko,ew,decide_eq_false h29,gk,lc]
 exact congrArg (λq=>[cA V r q]) (show s=dB V.toDk s from' m by rw[dB,e];rfl);refine PD 14 ?_;refine PD 15 ?_;refine PD 16 ?_;refine PD 17 ?_;refine AL 18 ?_;refine CF H5 (pT uw [(s.id+1)%5,(s.id+2)%5] from' (by decide:2≤1000000)) ID (Dd (l:=[(s.id+1)%5,(s.id+2)%5]) 0 rfl rfl) ?_;refine ao ?_ ?_<;>intro h34;have hmem:=h34;simp only[cf,List.not_mem_nil,or_false]at hmem;have hfr:0≤from'∧from'<5:=by omega
 refine EN (PD 19 ?_);refine PD 20 ?_;refine DN (ac J4 (CN (qx J3 (aa λ_ J5=>D0 bc ?_))));refine PD 0 ?_;refine PD 1 ?_;refine FD 2 1939 bh aM ?_;refine PD 4 ?_;refine ta 5 rfl (wV (r:=(cR from')) rfl rfl rfl (by omega) rfl) ?_;refine AL 3 ?_;refine LG 2 Y3 (.int .i64 (s.kept)) ?_ (hc:=by exact λa_=>(qy _ rfl));refine EN (ta 6 rfl (GR (r:=(hY .i64 s.kept (cR from'))) rfl rfl rfl rfl) ?_);refine PD 7 ?_;refine FD 8 1939 bh aM ?_;refine AL 9 ?_;refine SK 2 aM (λ_=>cJ _) ?_ (hc:=by exact λa_=>(Me _ rfl _));refine EN (DN (ac J5 (aa λ_ J6=>sr λ_ J7=>PS ?_)));refine tp (cY rfl jI rfl hluw) ?_;refine PS ?_;refine nx J7 (aq (qD 2 (sr λ_ J8=>PS ?_)));refine nx J8 (aa λ_ J9=>CY (qx J9 (aa λ_ J10=>aq (sr λ_ J11=>tp (a8 (r:=0) hvw rfl jI aM rfl rfl (by omega) (by omega) rfl) ?_))));refine tp (bT (v:=(.int .i64 (((s.id+1)%5)))) rfl Y3 rfl rfl (eM 0 rfl hvw rfl) rfl) ?_;refine PS ?_;refine nx J11 (sr λ_ J12=>P2 ?_);refine FA 1939 bh aM ?_;refine LG 2 Y3 (.int .i64 ((hY .i64 s.kept (cR from')))) ?_ (hc:=by exact λa_=>(qy _ rfl));refine PS ?_;refine tp (jt (r:=((hY .i64 s.kept (cR from')).fdiv (2^min (((s.id+1)%5)).toNat IntKind.i64.bits))) rfl rfl rfl (by omega) rfl) ?_;refine tp (om (r:=(((hY .i64 s.kept (cR from')).fdiv (2^min (((s.id+1)%5)).toNat IntKind.i64.bits))%2)) rfl rfl rfl (mask (k:=1) (by decide) _)) ?_;refine PS ?_;refine ao ?_ ?_<;>intro h59
 refine nx J12 (CY (ai (aH (ad (ad (aH (ad (WK [2] (du rfl ?_)))))))));have ew:gv s.id=[(s.id+1)%5,(s.id+2)%5]:=by rw[gv,if_pos hid]
 have e:ko s from' m.version=true:=by rw[ko,h19,ew,decide_eq_true (show m.version=s.own.version by omega),decide_eq_true h34];rfl
 have e2:vA (ic s from')=false:=by rw[vA,show gv (ic s from').id=[(s.id+1)%5,(s.id+2)%5]from ew];simp only[List.all_cons,List.all_nil,y8,ic, *,decide_true,decide_false,Mj,Ld,Mk,tI,gk,lc]
 exact congrArg (λq=>[cA V r q]) (show(MS.setKept s (hY .i64 s.kept (cR from')))=dB V.toDk s from' m by rw[dB,e,e2];rfl);refine nx J12 (CN (aS (ag (ac J10 (ae (tp (cw (r:=1) rfl rfl rfl (by decide)) ?_))))));refine PS ?_;refine au (dY (sr λ_ J13=>PS ?_));refine nx J13 (aa λ_ J14=>CY (qx J14 (aa λ_ J15=>aq (sr λ_ J16=>tp (a8 (r:=1) hvw rfl jI aM rfl rfl (by omega) (by omega) rfl) ?_))));refine tp (bT (v:=(.int .i64 (((s.id+2)%5)))) rfl Y3 rfl rfl (eM 0 rfl hvw rfl) rfl) ?_;refine PS ?_;refine nx J16 (sr λ_ J17=>P2 ?_);refine FA 1939 bh aM ?_;refine LG 2 Y3 (.int .i64 ((hY .i64 s.kept (cR from')))) ?_ (hc:=by exact λa_=>(qy _ rfl));refine PS ?_;refine tp (jt (r:=((hY .i64 s.kept (cR from')).fdiv (2^min (((s.id+2)%5)).toNat IntKind.i64.bits))) rfl rfl rfl (by omega) rfl) ?_;refine tp (om (r:=(((hY .i64 s.kept (cR from')).fdiv (2^min (((s.id+2)%5)).toNat IntKind.i64.bits))%2)) rfl rfl rfl (mask (k:=1) (by decide) _)) ?_;refine PS ?_;refine ao ?_ ?_<;>intro h59;refine nx J17 (CY (ai (aH (ad (ad (aH (ad (WK [2] (du rfl ?_)))))))));have ew:gv s.id=[(s.id+1)%5,(s.id+2)%5]:=by rw[gv,if_pos hid]
 have e:ko s from' m.version=true:=by rw[ko,h19,ew,decide_eq_true (show m.version=s.own.version by omega),decide_eq_true h34];rfl
 have e2:vA (ic s from')=false:=by rw[vA,show gv (ic s from').id=[(s.id+1)%5,(s.id+2)%5]from ew];simp only[List.all_cons,List.all_nil,y8,ic, *,decide_true,decide_false,Mj,Ld,Mk,tI,gk,lc]
 exact congrArg (λq=>[cA V r q]) (show(MS.setKept s (hY .i64 s.kept (cR from')))=dB V.toDk s from' m by rw[dB,e,e2];rfl);refine nx J17 (CN (aS (ag (ac J15 (ae (tp (cw (r:=2) rfl rfl rfl (by decide)) ?_))))));refine PS ?_;refine au (dY (sr λ_ J18=>PS ?_));refine nx J18 (aa λ_ J19=>CN (bg (aF (aF (bD (ac J6 (ae (P2 ?_))))))));refine CZ Kn (wK V r (ic s from') hrs) (SM [2]) λvR=>?_
 refine au (WK [0] (bu rfl ?_));have ew:gv s.id=[(s.id+1)%5,(s.id+2)%5]:=by rw[gv,if_pos hid]
 have e:ko s from' m.version=true:=by rw[ko,h19,ew,decide_eq_true (show m.version=s.own.version by omega),decide_eq_true h34];rfl
 have e2:vA (ic s from')=true:=by rw[vA,show gv (ic s from').id=[(s.id+1)%5,(s.id+2)%5]from ew];simp only[List.all_cons,List.all_nil,y8,ic, *,decide_true,decide_false,Mj,Ld,Mk,tI,gk,lc]
 exact congrArg (λq=>[cA V r q]) (show(kU V.toDk (ic s from'))=dB V.toDk s from' m by rw[dB,e,e2];rfl);refine EN (PD 19 ?_);refine PD 20 ?_;refine DN (ac J4 (CY (ai (ad (WK [2] (du rfl ?_))))));have ew:gv s.id=[(s.id+1)%5,(s.id+2)%5]:=by rw[gv,if_pos hid]
 have e:ko s from' m.version=false:=by rw[ko,ew,decide_eq_false h34];simp
 exact congrArg (λq=>[cA V r q]) (show s=dB V.toDk s from' m by rw[dB,e];rfl);refine PD 4 ?_;refine PD 5 ?_;refine NT 6 ?_;refine NT 7 ?_;refine NT 8 ?_;refine NT 9 ?_;refine NT 10 ?_;refine NT 11 ?_;refine NT 12 ?_;refine NT 13 ?_;refine PD 14 ?_;refine PD 15 ?_;refine NT 16 ?_;refine NT 17 ?_;refine NT 18 ?_;refine NT 19 ?_;refine PD 20 ?_;refine DN (ac J4 (CY (ai (ad (WK [2] (du rfl ?_))))));have ew:gv s.id=[(s.id+1)%5,(s.id+2)%5]:=by rw[gv,if_pos hid]
 have e:ko s from' m.version=false:=by rw[ko,ew,h19];simp
 exact congrArg (λq=>[cA V r q]) (show s=dB V.toDk s from' m by rw[dB,e];rfl)
theorem wl{δ:Type}(V:Env δ)(r:Nat)(s:MS δ)(from':Int)(m:MsgT)[OkR V.toDk s][OkMg m](hto:from'≠s.id):
 DT 143 #[(.pointer (some ⟨r,0,none⟩)),(.iface V.T V.ov),(.int .i64 (from')),(.agg (ints m.flat).toArray)] T0 [cA V r s] (dG (λ_ H=>H=[cA V r (iv V.toDk s from' m)])):=by
 refine BD 56 Tryz.func143 rfl rfl rfl λw0 F hF=>sr λ_ J1=>XY (ints m.flat) λb7=>?_
 refine nx J1 (aa λ_ J2=>aa λ_ J3=>D1 0 bc ?_);refine FD 0 1 aY aM ?_;refine LR 1 Y3 (ce m rfl) ?_;refine PD 2 ?_;refine PD 3 ?_;refine gX ?_ ?_<;>intro h11;refine PD 4 ?_;refine NT 5 ?_;refine NT 6 ?_;refine NT 7 ?_;refine NT 8 ?_;refine NT 9 ?_;refine NT 10 ?_;refine PD 11 ?_;refine DN (ac J3 (CY (ai (ad (WK [1] (du rfl ?_))))));exact congrArg (λq=>[cA V r q]) (show _=iv V.toDk s from' m from(if_pos (.inl (by omega))).symm);refine PD 4 ?_;refine PD 5 ?_;refine PD 6 ?_;refine FD 7 183 bh oI ?_;refine FD 8 1 aY aM ?_;refine LR 9 Y3 (ce m rfl) ?_;refine AL 10 ?_;refine CE JP (Leg.Does.hid (λa_=>oV r 183 123 _ (eJ (s.rep a_)) s.mirror m.whose)) (SM [1]) ?_;refine aX ?_ ?_<;>intro h18;refine EN (PD 11 ?_);refine DN (ac J3 (CY (ai (ad (WK [0] (du rfl ?_))))));exact congrArg (λq=>[cA V r q]) (show _=iv V.toDk s from' m from(if_pos (.inr h18)).symm);refine EN (PD 11 ?_);refine DN (ac J3 (CN (qx J2 (aa λ_ J4=>aa λ_ J5=>D1 1 bc ?_))));refine PD 0 ?_;refine PD 1 ?_;refine FD 2 183 bh oI ?_;refine FD 3 1 aY aM ?_;refine LR 4 Y3 (ce m rfl) ?_;refine FD 5 2 aY aZ ?_;refine ta 6 rfl (aJ (vs:=ints m.row.flat) rfl dP rfl aZ rfl (λ_ h=>h.2.1) (ah m.row) (lu m 0 rfl (by decide) (bj (ah m.row)))) ?_;refine AL 7 ?_;refine CE H7 (Leg.Does.hid (λa_=>pO r 183 123 _ (eJ (s.rep a_)) s.mirror m.whose m.row (KY inferInstance))) ID ?_;refine aX ?_ ?_<;>intro h27;refine EN (DN (ac J5 (CY (aa λ_ J6=>sr λ_ J7=>PS ?_))))
 refine FA 1 aY aM ?_;refine LU 1 Y3 (ce m rfl) ?_;refine FA 2 aY aZ ?_;refine LV 1 dP aZ ah MsgT.sp_row (y:=m.row) ?_;refine tp (kq RecT.zero (RecT.mk 1 m.whose m.row 0 BallotT.zero ChangeT.zero ViewT.zero) [(0,[Value.int .i64 1]),(1,[Value.int .i64 m.whose]),(2,ints m.row.flat)] io eL (g:=RecT.sg)) ?_;refine CE vc (km V r s (jE m.whose m.row)) ID ?_;refine PS ?_;refine ao ?_ ?_<;>intro h35;refine nx J7 (CY (ai (ad (ad (WK [0] (du rfl ?_))))));have hn: ¬(m.whose≠from'∨fF s.mirror m.whose=true):=λh=>h.elim (λh=>by omega) (λh=>by rw[h18]at h;cases h)
 exact MQ (by rw[iv,if_neg hn,if_pos h27,if_pos h35]<;>rfl);refine nx J7 (CN (qx J6 (D1 1 bc ?_)));refine PD 0 ?_;refine PD 1 ?_;refine FD 2 183 bh oI ?_;refine FD 3 1 aY aM ?_;refine LR 4 Y3 (ce m rfl) ?_;refine FD 5 2 aY aZ ?_;refine ta 6 rfl (aJ (vs:=ints m.row.flat) rfl dP rfl aZ rfl (λ_ h=>h.2.1) (ah m.row) (lu m 0 rfl (by decide) (bj (ah m.row)))) ?_;refine AL 7 ?_;refine CE Ih (Leg.Does.hid (λa_=>rl r 183 123 _ (eJ ((dT V.toDk s (jE m.whose m.row)).rep a_)) (dT V.toDk s (jE m.whose m.row)).mirror m.whose m.row (KY inferInstance))) ID ?_;refine EN (DN (ac J4 (D1 1 bc ?_)));refine PD 0 ?_;refine PD 1 ?_;refine PD 2 ?_;refine PD 3 ?_;refine PD 4 ?_;refine FD 5 183 bh oI ?_;refine FD 6 1 aY aM ?_;refine LR 7 Y3 (ce m rfl) ?_;refine AL 8 ?_;refine CE Hr (Leg.Does.hid (λa_=>mB r 183 123 _ (eJ ((ib (dT V.toDk s (jE m.whose m.row)) m.whose m.row).rep a_)) (ib (dT V.toDk s (jE m.whose m.row)) m.whose m.row).mirror m.whose)) ID ?_;refine EN (ta 9 rfl (PV.field1 (cs:=ints (dW (ib (dT V.toDk s (jE m.whose m.row)) m.whose m.row).mirror m.whose).flat) (v:=Value.int .i64 ((dW (ib (dT V.toDk s (jE m.whose m.row)) m.whose m.row).mirror m.whose).version)) rfl dP rfl Y3 rfl rfl (cz _ rfl)) ?_)
 refine ta 10 rfl (kq MsgT.zero (MsgT.mk 1 0 RowT.zero ((dW (ib (dT V.toDk s (jE m.whose m.row)) m.whose m.row).mirror m.whose).version) 0 BallotT.zero BallotT.zero ChangeT.zero ViewT.zero) [(0,[Value.int .i64 1]),(3,[Value.int .i64 ((dW (ib (dT V.toDk s (jE m.whose m.row)) m.whose m.row).mirror m.whose).version)])] aY bk (g:=MsgT.sg)) ?_;refine AL 11 ?_;refine CZ iB (iT V r (ib (dT V.toDk s (jE m.whose m.row)) m.whose m.row) from' (rq (dW (ib (dT V.toDk s (jE m.whose m.row)) m.whose m.row).mirror m.whose).version) hto) ID λvR=>?_
 refine EN (DN (WK [0] (bu rfl ?_)));have hn: ¬(m.whose≠from'∨fF s.mirror m.whose=true):=λh=>h.elim (λh=>by omega) (λh=>by rw[h18]at h;cases h)
 exact MQ (by rw[iv,if_neg hn,if_pos h27,if_neg h35]<;>rfl);refine EN (DN (ac J5 (CN (qx J4 (D1 1 bc ?_)))));refine PD 0 ?_;refine PD 1 ?_;refine PD 2 ?_;refine PD 3 ?_;refine PD 4 ?_;refine FD 5 183 bh oI ?_;refine FD 6 1 aY aM ?_;refine LR 7 Y3 (ce m rfl) ?_;refine AL 8 ?_;refine CE Hr (Leg.Does.hid (λa_=>mB r 183 123 _ (eJ (s.rep a_)) s.mirror m.whose)) ID ?_;refine EN (ta 9 rfl (PV.field1 (cs:=ints (dW s.mirror m.whose).flat) (v:=Value.int .i64 ((dW s.mirror m.whose).version)) rfl dP rfl Y3 rfl rfl (cz _ rfl)) ?_);refine ta 10 rfl (kq MsgT.zero (MsgT.mk 1 0 RowT.zero ((dW s.mirror m.whose).version) 0 BallotT.zero BallotT.zero ChangeT.zero ViewT.zero) [(0,[Value.int .i64 1]),(3,[Value.int .i64 ((dW s.mirror m.whose).version)])] aY bk (g:=MsgT.sg)) ?_;refine AL 11 ?_;refine CZ iB (iT V r s from' (rq (dW s.mirror m.whose).version) hto) ID λvR=>?_
 refine EN (DN (WK [0] (bu rfl ?_)));have hn: ¬(m.whose≠from'∨fF s.mirror m.whose=true):=λh=>h.elim (λh=>by omega) (λh=>by rw[h18]at h;cases h)
 exact MQ (by rw[iv,if_neg hn,if_neg (by rw[h27];decide)]<;>rfl)
theorem mX{δ:Type}(V:Env δ)(r:Nat)(s:MS δ)(from':Int)(m:MsgT)[OkR V.toDk s][OkMg m]:
 DT 147 #[(.pointer (some ⟨r,0,none⟩)),(.iface V.T V.ov),(.int .i64 (from')),(.agg (ints m.flat).toArray)] T0 [cA V r s] (dG (λ_ H=>H=[cA V r (fC V.toDk s from' m)])):=by
 refine BD 59 Tryz.func147 rfl rfl rfl λw0 F hF=>sr λ_ J1=>XY (ints m.flat) λb7=>?_
 refine nx J1 (aa λ_ J2=>eH (α:=Unit) (λ_u=>True) (λ_u=>[(0,(.pointer (some ⟨r,0,none⟩))),(1,(.iface V.T V.ov))]) (λ_u=>[cA V r (if from'∈gv m.whose then uj s from' m.whose m.row else s)]) (λ_u hinv=>?_) (λtl2=>?_));have _:=hinv;refine ac J2 (ae (P2 ?_));refine CZ C7 (nV V r (if from'∈gv m.whose then uj s from' m.whose m.row else s)) ID λvR=>?_
 exact au (WK [0] (bu rfl rfl));refine sr λ_ J3=>FA 1 aY aM ?_
 refine LU 0 Y3 (ce m rfl) ?_;refine CR FY (oy m.whose) ID λvR HR hR=>?_
 obtain⟨_,rfl,rfl⟩:=hR;revert vR;intro uw;refine PS ?_;refine CF H5 (pT uw (gv m.whose) from' (Fi m.whose)) ID (Dd (l:=(gv m.whose)) 0 rfl rfl) ?_;refine ao ?_ ?_<;>intro h12
 have hm:cD m.whose=true:=by
  unfold gv at h12;split at h12
  · assumption
  · cases h12
 have hm2:0≤m.whose∧m.whose<5:=of_decide_eq_true hm;have hta:pY s m.whose=s.told[m.whose.toNat]'(by omega):=by rw[pY,dif_pos hm]
 have hla:mM s m.whose=s.last[m.whose.toNat]'(by omega):=by rw[mM,dif_pos hm]
 have hf:0≤from'∧from'<5:=by
  rw[gv,if_pos hm]at h12;simp only[cf,List.not_mem_nil,or_false]at h12;omega
 refine nx J3 (CY (aa λ_ J4=>eH (α:=Unit) (λ_u=>True) (λ_u=>[(0,(.pointer (some ⟨r,0,none⟩))),(1,(.iface V.T V.ov)),(2,(.int .i64 (from'))),(7,(.pointer (some ⟨b7,0,none⟩)))]) (λ_u=>[cA V r (kR s m.whose m.row),ak b7 (ints m.flat) 178]) (λ_u hinv=>?_) (λtl4=>?_)));have _:=hinv;refine ac J4 (D1 1 bc ?_);refine PD 0 ?_;refine FD 1 1 aY aM ?_;refine LR 2 Y3 (ce m rfl) ?_;refine PD 3 ?_;refine FD 4 1943 bh fE ?_;refine IY 5 (1943+(m.whose).toNat) lR aM ?_;refine PD 7 ?_;refine ta 8 rfl (wV (r:=(cR from')) rfl rfl rfl (by omega) rfl) ?_;refine PD 10 ?_;refine FD 11 1943 bh fE ?_;refine AL 6 ?_;refine LG 0 Y3 (.int .i64 ((((kR s m.whose m.row).told)[(m.whose).toNat]'(by omega)))) ?_ (hc:=by exact λa_=>(Ms ((kR s m.whose m.row).rep a_) ((m.whose).toNat) (by omega) (by omega) (jJ (((kR s m.whose m.row).rep a_).told) (by omega))));refine EN (ta 9 rfl (GR (r:=(hY .i64 (s.told[m.whose.toNat]'(by omega)) (cR from'))) rfl rfl rfl rfl) ?_);refine IY 12 (1943+(m.whose).toNat) lR aM ?_;refine AL 13 ?_;refine SK 0 aM (λ_=>cJ _) ?_ (hc:=by exact λa_=>(RepT.st_told ((kR s m.whose m.row).rep a_) ((m.whose).toNat) (by omega) (by omega) (xa (((kR s m.whose m.row).rep a_).told) (by omega) _)));refine EN (DN ?_)
 exact aD
  SB
  (λ_ q=>by
   rw[if_pos h12,show uj s from' m.whose m.row= {kR s m.whose m.row with told:=s.told.set m.whose.toNat (hY .i64 (s.told[m.whose.toNat]'(by omega)) (cR from')) (by omega)}by rw[uj,zM,dif_pos hm,hta]]
   exact aj [0] rfl q)
  (tl2 (():Unit) trivial)
 refine aa λ_ J5=>DC bc (BL 1) (cK 2 rfl rfl) ?_
 refine PD 0 ?_;refine FD 1 1 aY aM ?_;refine LR 2 Y3 (ce m rfl) ?_;refine PD 3 ?_;refine FD 4 1943 bh fE ?_;refine IY 5 (1943+(m.whose).toNat) lR aM ?_;refine ta 6 rfl (cX (v:=(.int .i64 ((s.told[(m.whose).toNat]'(by omega))))) rfl Y3 rfl rfl (λ_ h=>h.2.2.1) (λa_=>(Ms (s.rep a_) ((m.whose).toNat) (by omega) (by omega) (jJ ((s.rep a_).told) (by omega))))) ?_;refine PD 7 ?_;refine gX ?_ ?_<;>intro h20;refine PD 8 ?_;refine NT 9 ?_;refine NT 10 ?_;refine NT 11 ?_;refine NT 12 ?_;refine NT 13 ?_;refine NT 14 ?_;refine NT 15 ?_;refine NT 16 ?_;refine NT 17 ?_;refine NT 18 ?_;refine NT 19 ?_;refine NT 20 ?_;refine PD 21 ?_;refine DN (ac J5 (CY (D1 1 bc ?_)));refine PD 0 ?_;refine FD 1 1 aY aM ?_;refine LR 2 Y3 (ce m rfl) ?_;refine FD 3 2 aY aZ ?_;refine ta 4 rfl (aJ (vs:=ints m.row.flat) rfl dP rfl aZ rfl (λ_ h=>h.2.1) (ah m.row) (lu m 0 rfl (by decide) (bj (ah m.row)))) ?_;refine PD 5 ?_;refine FD 6 1948 bh sd ?_;refine IY 7 (1948+((m.whose).toNat)*174) E8 aZ ?_;refine AL 8 ?_;refine gr (vs:=ints m.row.flat) (i:=2) (ab rfl) rfl rfl rfl rfl rfl (by rw[(ah m.row)];exact aZ) (bv _) rfl rfl (λ_=>LC (cJ _) (ah _)) (λa_=>(RepT.wr_last_ (s.rep a_) (((m.whose).toNat)*174) (by omega) (by have h1:=(ah m.row);omega) (ug dh ((s.rep a_).last) (i:=(m.whose).toNat) 0 (by omega) (by omega) (by have h1:=(ah m.row);omega) (cu ((ah (((s.rep a_).last)[(m.whose).toNat]'(by omega))).trans (ah m.row).symm))))) (EN (DN ?_))
 exact aD
  SB
  (λ_ q=>by
   rw[show kR s m.whose m.row= {s with last:=s.last.set m.whose.toNat m.row (by omega)}by rw[kR,if_pos (.inl (hta.trans h20)),zM,dif_pos hm]]
   exact aj [2,1] rfl q)
  (tl4 (():Unit) trivial)
 refine PD 8 ?_;refine FD 9 2 aY aZ ?_;refine FD 10 2 dP aM ?_;refine LX 11 Y3 (.int .i64 (m.row.version)) ?_ (hc:=by exact MsgT.pt_row m 0 rfl (by decide) (cz m.row rfl));refine PD 12 ?_;refine FD 13 1 aY aM ?_;refine LR 14 Y3 (ce m rfl) ?_;refine PD 15 ?_;refine FD 16 1948 bh sd ?_;refine IY 17 (1948+((m.whose).toNat)*174) E8 aZ ?_;refine tb 18 rfl (a9 (r:=1948+((m.whose).toNat)*174) rfl dP rfl aM rfl rfl) ?_;refine tb 19 rfl (cX (v:=(.int .i64 ((s.last[(m.whose).toNat]'(by omega)).version))) rfl Y3 rfl rfl (λ_ h=>h.2.2.1) (λa_=>(RepT.pt_last (s.rep a_) (((m.whose).toNat)*174) (by omega) (by omega) (nZ dh ((s.rep a_).last) (i:=(m.whose).toNat) 0 (by omega) (by omega) (by decide) (cz _ rfl))))) ?_;refine PD 20 ?_;refine gX ?_ ?_<;>intro h33;refine PD 21 ?_;refine DN (ac J5 (CY (D1 1 bc ?_)));refine PD 0 ?_;refine FD 1 1 aY aM ?_;refine LR 2 Y3 (ce m rfl) ?_;refine FD 3 2 aY aZ ?_;refine ta 4 rfl (aJ (vs:=ints m.row.flat) rfl dP rfl aZ rfl (λ_ h=>h.2.1) (ah m.row) (lu m 0 rfl (by decide) (bj (ah m.row)))) ?_;refine PD 5 ?_;refine FD 6 1948 bh sd ?_;refine IY 7 (1948+((m.whose).toNat)*174) E8 aZ ?_;refine AL 8 ?_
 refine gr (vs:=ints m.row.flat) (i:=2) (ab rfl) rfl rfl rfl rfl rfl (by rw[(ah m.row)];exact aZ) (bv _) rfl rfl (λ_=>LC (cJ _) (ah _)) (λa_=>(RepT.wr_last_ (s.rep a_) (((m.whose).toNat)*174) (by omega) (by have h1:=(ah m.row);omega) (ug dh ((s.rep a_).last) (i:=(m.whose).toNat) 0 (by omega) (by omega) (by have h1:=(ah m.row);omega) (cu ((ah (((s.rep a_).last)[(m.whose).toNat]'(by omega))).trans (ah m.row).symm))))) (EN (DN ?_))
 exact aD
  SB
  (λ_ q=>by
   rw[show kR s m.whose m.row= {s with last:=s.last.set m.whose.toNat m.row (by omega)}by rw[kR,if_pos (.inr (by rw[hla];omega)),zM,dif_pos hm]]
   exact aj [2,1] rfl q)
  (tl4 (():Unit) trivial)
 refine PD 21 ?_;refine DN (ac J5 (CN (aS ?_)))
 exact aD
  SB
  (λ_ q=>by
   rw[show kR s m.whose m.row= {s with last:=s.last}by rw[kR,if_neg (by rw[hta,hla];omega)]]
   exact aj [2,1] rfl q)
  (tl4 (():Unit) trivial)
 refine nx J3 (CN (aS ?_))
 exact aD
  SB
  (λ_ q=>by
   rw[if_neg h12]
   exact aj [2] rfl q)
  (tl2 (():Unit) trivial)
abbrev TK{δ:Type}(V:Env δ)(r f:Nat)(s:MS δ)(from':Int)(m:MsgT)(s':MS δ):Prop:=Leg.Does Tryz.prog f #[.pointer (some ⟨r,0,none⟩), .iface V.T V.ov, .int .i64 from', .agg (ints m.flat).toArray] (λ_=>True) [cA V r s] (dG (λ_ H=>H=[cA V r s']))
theorem nD{δ:Type}(V:Env δ)(r:Nat)(s s':MS δ)(from':Int)(m:MsgT)[OkMg m](h0:m.kind=0→TK V r 143 s from' m s')(h1:m.kind=1→TK V r 144 s from' m s')(h2:m.kind=2→Dp s m.whose m.row=s')(h7:m.kind=7→DT 145 #[.pointer (some ⟨r,0,none⟩), .iface V.T V.ov, .agg (ints m.view.flat).toArray] T0 [cA V r s] (dG (λv H=>(∃b,v= .bool b)∧H=[cA V r s'])))(h8:m.kind=8→TK V r 146 s from' m s')(h9:m.kind=9→TK V r 147 s from' m s')(hv:m.kind=3∨m.kind=4∨m.kind=5∨m.kind=6→TK V r 148 s from' m s')(hn:m.kind≠0∧m.kind≠1∧m.kind≠2∧m.kind≠7∧m.kind≠8∧m.kind≠9∧m.kind≠3∧m.kind≠4∧m.kind≠5∧m.kind≠6→s=s'):
 DT 105 #[(.pointer (some ⟨r,0,none⟩)),(.iface V.T V.ov),(.int .i64 (from')),(.agg (ints m.flat).toArray)] T0 [cA V r s] (dG (λ_ H=>H=[cA V r s'])):=by
 refine BD 65 Tryz.func105 rfl rfl rfl λw0 F hF=>sr λ_ J1=>XY (ints m.flat) λb7=>?_
 refine nx J1 (sr λ_ J2=>FA 0 aY aM ?_);refine LU 0 Y3 (eB m rfl) ?_;refine nx J2 (aq (sr λ_ J3=>PS ?_));refine ao ?_ ?_<;>intro h11;refine PS ?_;refine nx J3 (CY (ae (P3 ?_)));refine LW 0 aY bW aG ?_;refine CZ Kw ((h0 h11)) (SM [1]) λvR=>?_
 exact au (ag (WK [0] (bu rfl rfl)));refine PS ?_;refine nx J3 (CN (sr λ_ J4=>PS ?_));refine ao ?_ ?_<;>intro h18;refine PS ?_;refine nx J4 (CY (ae (P3 ?_)));refine LW 0 aY bW aG ?_;refine CZ Kv ((h1 h18)) (SM [1]) λvR=>?_
 exact au (ag (WK [0] (bu rfl rfl)));refine PS ?_;refine nx J4 (CN (sr λ_ J5=>PS ?_));refine ao ?_ ?_<;>intro h25;refine PS ?_;refine nx J5 (CY (D1 0 bc ?_));refine PD 0 ?_;refine PD 1 ?_;refine FD 2 1068 bh uu ?_;refine FD 3 1 aY aM ?_;refine LR 4 Y3 (ce m rfl) ?_;refine FD 5 2 aY aZ ?_;refine ta 6 rfl (aJ (vs:=ints m.row.flat) rfl dP rfl aZ rfl (λ_ h=>h.2.1) (ah m.row) (lu m 0 rfl (by decide) (bj (ah m.row)))) ?_;refine AL 7 ?_;refine CE IT (Leg.Does.hid (λa_=>mi r 1068 123 _ (gj (s.rep a_)) s.book m.whose m.row (KY inferInstance))) (SM [1]) ?_;refine EN (DN (ag (WK [0] (bu rfl ?_))));exact congrArg (λq=>[cA V r q]) (h2 h25);refine PS ?_;refine nx J5 (CN (sr λ_ J6=>PS ?_));refine ao ?_ ?_<;>intro h35;refine PS ?_;refine nx J6 (CY (ae (P2 ?_)));refine FA 185 aY bf ?_;refine LV 0 eF bf an MsgT.sp_view (y:=m.view) ?_;refine CR F1 ((h7 h35)) (SM [1]) λvR HR hR=>?_
 obtain⟨_,rfl⟩:=hR;exact au (ag (WK [0] (bu rfl rfl)));refine PS ?_;refine nx J6 (CN (sr λ_ J7=>PS ?_));refine ao ?_ ?_<;>intro h42;refine PS ?_;refine nx J7 (CY (ae (P3 ?_)));refine LW 0 aY bW aG ?_;refine CZ Ku ((h8 h42)) (SM [1]) λvR=>?_
 exact au (ag (WK [0] (bu rfl rfl)));refine PS ?_;refine nx J7 (CN (sr λ_ J8=>PS ?_));refine ao ?_ ?_<;>intro h49;refine PS ?_;refine nx J8 (CY (ae (P3 ?_)));refine LW 0 aY bW aG ?_;refine CZ Kt ((h9 h49)) (SM [1]) λvR=>?_
 exact au (ag (WK [0] (bu rfl rfl)));refine PS ?_;refine nx J8 (CN (aa λ_ J9=>sr λ_ J10=>P2 ?_));refine ao ?_ ?_<;>intro h55;refine nx J10 (CY (qx J9 (CY (ae (P3 ?_)))));refine LW 0 aY bW aG ?_;refine CZ C3 ((hv (by omega))) (SM [1]) λvR=>?_
 exact au (ag (WK [0] (bu rfl rfl)));refine nx J10 (CN (sr λ_ J11=>P2 ?_));refine ao ?_ ?_<;>intro h55;refine nx J11 (CY (qx J9 (CY (ae (P3 ?_)))));refine LW 0 aY bW aG ?_;refine CZ C3 ((hv (by omega))) (SM [1]) λvR=>?_
 exact au (ag (WK [0] (bu rfl rfl)));refine nx J11 (CN (sr λ_ J12=>P2 ?_));refine ao ?_ ?_<;>intro h55;refine nx J12 (CY (qx J9 (CY (ae (P3 ?_)))));refine LW 0 aY bW aG ?_;refine CZ C3 ((hv (by omega))) (SM [1]) λvR=>?_
 exact au (ag (WK [0] (bu rfl rfl)));refine nx J12 (CN (ae (PS ?_)));refine ao ?_ ?_<;>intro h59;refine PS ?_;refine nx J9 (CY (ae (P3 ?_)));refine LW 0 aY bW aG ?_;refine CZ C3 ((hv (by omega))) (SM [1]) λvR=>?_
 exact au (ag (WK [0] (bu rfl rfl)));refine PS ?_;refine nx J9 (CN (aS (ag (WK [1] (bu rfl ?_)))));exact congrArg (λq=>[cA V r q]) (hn ⟨h11,h18,h25,h35,h42,h49,by omega,by omega,by omega,by omega⟩)
theorem Bo{δ:Type}{V:Env δ}{r:Nat}{s s':MS δ}{from':Int}{m:MsgT}[OkMg m](hk:m.kind=9)(h:TK V r 147 s from' m s'):TK V r 105 s from' m s':=nD V r s s' from' m (λe=>by omega) (λe=>by omega) (λe=>by omega) (λe=>by omega) (λe=>by omega) (λ_=>h) (λe=>by omega) (λe=>by omega)
theorem Bp{δ:Type}{V:Env δ}{r:Nat}{s s':MS δ}{from':Int}{m:MsgT}[OkMg m](hk:m.kind=8)(h:TK V r 146 s from' m s'):TK V r 105 s from' m s':=nD V r s s' from' m (λe=>by omega) (λe=>by omega) (λe=>by omega) (λe=>by omega) (λ_=>h) (λe=>by omega) (λe=>by omega) (λe=>by omega)
theorem nC{δ:Type}{V:Env δ}{r:Nat}{s s':MS δ}{from':Int}{m:MsgT}[OkMg m](hk:m.kind=3∨m.kind=4∨m.kind=5∨m.kind=6)(h:TK V r 148 s from' m s'):TK V r 105 s from' m s':=nD V r s s' from' m (λe=>by omega) (λe=>by omega) (λe=>by omega) (λe=>by omega) (λe=>by omega) (λe=>by omega) (λ_=>h) (λe=>by omega)
theorem uG{δ:Type}(V:Env δ)(r:Nat)(s:MS δ)(w:Int)(y:RowT)[OkR V.toDk s][OkRow y]:TK V r 105 s s.id (gB w y) (fC V.toDk s s.id (gB w y)):=Bo rfl (mX V r s s.id (gB w y))
theorem oG{δ:Type}(V:Env δ)(r:Nat)(s:MS δ)(s':MS δ)(from':Int)(m:MsgT)[OkR V.toDk s'][OkMg m](hl:DT 145 #[.pointer (some ⟨r,0,none⟩), .iface V.T V.ov, .agg (ints m.view.flat).toArray] T0 [cA V r s] (dG (λv H=>(∃b,v= .bool b)∧H=[cA V r s']))):
 DT 146 #[(.pointer (some ⟨r,0,none⟩)),(.iface V.T V.ov),(.int .i64 (from')),(.agg (ints m.flat).toArray)] T0 [cA V r s] (dG (λ_ H=>H=[cA V r (fe V.toDk s' from' m.whose)])):=by
 refine BD 64 Tryz.func146 rfl rfl rfl λw0 F hF=>sr λ_ J1=>XY (ints m.flat) λb7=>?_
 refine nx J1 (sr λ_ J2=>P2 ?_);refine FA 185 aY bf ?_;refine LV 0 eF bf an MsgT.sp_view (y:=m.view) ?_;refine CR F1 (hl) (SM [1]) λvR HR hR=>?_
 obtain⟨_,rfl⟩:=hR;refine nx J2 (aa λ_ J3=>aa λ_ J4=>DC bc (cK 0 rfl rfl) (BL 1) ?_);refine PD 0 ?_;refine PD 1 ?_;refine FD 2 2 bh bf ?_;refine ta 3 rfl (fz (vs:=ints s'.view.flat) rfl eF rfl bf rfl (λ_ h=>h.2.1) (an s'.view) (λa_=>(fw (s'.rep a_) 0 rfl (by decide) (bj (an ((s'.rep a_).view)))))) ?_;refine FD 4 1 aY aM ?_;refine LR 5 Y3 (ce m rfl) ?_;refine AL 6 ?_;refine CE IU (sD s'.view m.whose OkVw.rng) ID ?_;refine EN (PD 7 ?_);refine PD 8 ?_;refine PD 9 ?_;refine qu ?_ ?_<;>intro h24;refine PD 10 ?_;refine PD 11 ?_;refine DN (ac J4 (sr λ_ J5=>PS ?_));refine PS ?_;refine P4 ?_;refine ao ?_ ?_<;>intro h30;refine PS ?_;refine nx J5 (CY (ai (ad (WK [0] (du rfl ?_)))));exact MQ (by rw[fe,if_pos (λh=>h30 (by rw[h];rfl))]);refine PS ?_;refine nx J5 (CN (qx J3 (aa λ_ J6=>aa λ_ J7=>D1 1 bc ?_)));refine PD 0 ?_;refine PD 1 ?_;refine FD 2 183 bh oI ?_;refine FD 3 1 aY aM ?_;refine LR 4 Y3 (ce m rfl) ?_;refine AL 5 ?_;refine CE JP (Leg.Does.hid (λa_=>oV r 183 123 _ (eJ (s'.rep a_)) s'.mirror m.whose)) ID ?_;refine aX ?_ ?_<;>intro h37;refine EN (PD 6 ?_);refine DN (ac J7 (CN (qx J6 (D1 1 bc ?_))));refine PD 0 ?_;refine PD 1 ?_;refine PD 2 ?_;refine FD 3 1 aY aM ?_;refine LR 4 Y3 (ce m rfl) ?_;refine PD 5 ?_;refine PD 6 ?_;refine FD 7 183 bh oI ?_;refine FD 8 1 aY aM ?_;refine LR 9 Y3 (ce m rfl) ?_;refine AL 10 ?_;refine CE Hr (Leg.Does.hid (λa_=>mB r 183 123 _ (eJ (s'.rep a_)) s'.mirror m.whose)) ID ?_
 refine EN (ta 11 rfl (kq MsgT.zero (MsgT.mk 9 m.whose (dW s'.mirror m.whose) 0 0 BallotT.zero BallotT.zero ChangeT.zero ViewT.zero) [(0,[Value.int .i64 9]),(1,[Value.int .i64 m.whose]),(2,ints (dW s'.mirror m.whose).flat)] aY bk (g:=MsgT.sg)) ?_);refine AL 12 ?_;refine CZ iB (fK V r s' from' (gB m.whose (dW s'.mirror m.whose)) (λs=>fC V.toDk s s.id (gB m.whose (dW s.mirror m.whose))) (λ_=>uG V r s' m.whose _)) ID λvR=>?_
 refine EN (DN (WK [0] (bu rfl ?_)));exact MQ (by rw[fe,if_neg (λh=>h (sC h24 (by omega))),if_pos h37]);refine EN (PD 6 ?_);refine DN (ac J7 (CY (aa λ_ J8=>sr λ_ J9=>PS ?_)));refine FA 1 aY aM ?_;refine LU 1 Y3 (ce m rfl) ?_;refine tp (kq RecT.zero (RecT.mk 2 m.whose RowT.zero 0 BallotT.zero ChangeT.zero ViewT.zero) [(0,[Value.int .i64 2]),(1,[Value.int .i64 m.whose])] io eL (g:=RecT.sg)) ?_;refine CE vc (km V r s' (iS m.whose)) ID ?_;refine PS ?_;refine ao ?_ ?_<;>intro h44;refine nx J9 (CY (ai (ad (ad (WK [0] (du rfl ?_))))));exact MQ (by rw[fe,if_neg (λh=>h (sC h24 (by omega))),if_neg (by rw[h37];decide),if_pos h44]);refine nx J9 (CN (qx J8 (D1 1 bc ?_)));refine PD 0 ?_;refine PD 1 ?_;refine FD 2 183 bh oI ?_;refine FD 3 1 aY aM ?_;refine LR 4 Y3 (ce m rfl) ?_;refine AL 5 ?_;refine CE Ig (Leg.Does.hid (λa_=>rk r 183 123 _ (eJ ((dT V.toDk s' (iS m.whose)).rep a_)) (dT V.toDk s' (iS m.whose)).mirror m.whose)) ID ?_;refine EN (DN (ac J6 (D1 1 bc ?_)));refine PD 0 ?_;refine PD 1 ?_;refine PD 2 ?_;refine FD 3 1 aY aM ?_;refine LR 4 Y3 (ce m rfl) ?_;refine PD 5 ?_;refine PD 6 ?_;refine FD 7 183 bh oI ?_;refine FD 8 1 aY aM ?_;refine LR 9 Y3 (ce m rfl) ?_;refine AL 10 ?_;refine CE Hr (Leg.Does.hid (λa_=>mB r 183 123 _ (eJ ((lj (dT V.toDk s' (iS m.whose)) m.whose).rep a_)) (lj (dT V.toDk s' (iS m.whose)) m.whose).mirror m.whose)) ID ?_
 refine EN (ta 11 rfl (kq MsgT.zero (MsgT.mk 9 m.whose (dW (lj (dT V.toDk s' (iS m.whose)) m.whose).mirror m.whose) 0 0 BallotT.zero BallotT.zero ChangeT.zero ViewT.zero) [(0,[Value.int .i64 9]),(1,[Value.int .i64 m.whose]),(2,ints (dW (lj (dT V.toDk s' (iS m.whose)) m.whose).mirror m.whose).flat)] aY bk (g:=MsgT.sg)) ?_);refine AL 12 ?_;refine CZ iB (fK V r (lj (dT V.toDk s' (iS m.whose)) m.whose) from' (gB m.whose (dW (lj (dT V.toDk s' (iS m.whose)) m.whose).mirror m.whose)) (λs=>fC V.toDk s s.id (gB m.whose (dW s.mirror m.whose))) (λ_=>uG V r (lj (dT V.toDk s' (iS m.whose)) m.whose) m.whose _)) ID λvR=>?_
 refine EN (DN (WK [0] (bu rfl ?_)));exact MQ (by rw[fe,if_neg (λh=>h (sC h24 (by omega))),if_neg (by rw[h37];decide),if_neg h44]);refine PD 10 ?_;refine PD 11 ?_;refine DN (ac J4 (sr λ_ J10=>PS ?_));refine PS ?_;refine PS ?_
 iterate 3 refine UT ?_
 refine PS ?_;refine nx J10 (CY (ai (ad (WK [0] (du rfl ?_)))));exact MQ (by rw[fe,if_pos (λh=>by rw[h]at h24;cases h24)])
section
variable {δ:Type} {V:Env δ} {r:Nat} {s:MS δ} {H:List HP} {h:Hl}
theorem C8(q:bI (cA V r s::H) h): ∃vo,bI (tQ V r s vo::H) h:=by
 obtain⟨a,q1⟩:=fi q;exact⟨a.vo,bm (p:=λa':Nat×Value=>[ak r (RepT.cells (s.rep ⟨a'.1,a.vo,a'.2⟩)) 123,V.lg a'.1 s.e,own a'.2 s.replies.length (ints (s.replies.flatMap ReplyT.flat)) 37 3,V.E s.e s.o]) (a.lg,a.rs) (FF (aA [3,0,0,0,0] rfl q1))⟩
theorem Ai(q:bI (tQ V r s (.pointer none)::H) h):bI (cA V r {s with vote:=none}::H) h:=by
 obtain⟨a,q1⟩:=fi q;have q2:bI (DF (.pointer none) none::([ak r (RepT.cells (s.rep ⟨a.1, .pointer none,a.2⟩)) 123,V.lg a.1 s.e,own a.2 s.replies.length (ints (s.replies.flatMap ReplyT.flat)) 37 3,V.E s.e s.o]++H)) h:=⟨em,h,A4 h,(pS h).symm,rfl,q1⟩;exact bm (p:=λa:Adr=>[ak r (RepT.cells ({s with vote:=none}.rep a)) 123,V.lg a.lg {s with vote:=none}.e,own a.rs {s with vote:=none}.replies.length (ints ({s with vote:=none}.replies.flatMap ReplyT.flat)) 37 3,DF a.vo {s with vote:=none}.vote,V.E {s with vote:=none}.e {s with vote:=none}.o]) ⟨a.1, .pointer none,a.2⟩ (aA [1,1,1,0,0] rfl q2)
theorem rj(hv:s.vote=none)(q:bI (cA V r s::H) h):bI (tQ V r s (.pointer none)::H) h:=by
 obtain⟨a,q1⟩:=fi q;have q2:=aA [3,0,0,0,0] rfl q1;obtain⟨h1,h2,d,rfl,e,q3⟩:=q2;rw[hv]at e;have e':a.vo= .pointer none:=e;obtain⟨lg,vo,rs⟩:=a;obtain rfl:=e';rw[mC d];exact kJ _ (bm (p:=λa':Nat×Value=>[ak r (RepT.cells (s.rep ⟨a'.1, .pointer none,a'.2⟩)) 123,V.lg a'.1 s.e,own a'.2 s.replies.length (ints (s.replies.flatMap ReplyT.flat)) 37 3,V.E s.e s.o]) (lg,rs) q3) d.symm
theorem l7{vt:VoteT}(hv:s.vote=some vt)(q:bI (cA V r s::H) h): ∃vb,bI (tQ V r s (.pointer (some ⟨vb,0,none⟩))::ak vb (VoteT.cells vt) 227::H) h:=by
 obtain⟨a,q1⟩:=fi q;have q2:=aA [3,0,0,0,0] rfl q1;obtain⟨h1,h2,d,rfl,e,q3⟩:=q2;rw[hv]at e;obtain⟨vb,e',e⟩:=e;obtain⟨lg,vo,rs⟩:=a;have e2:vo= .pointer (some ⟨vb,0,none⟩):=e';obtain rfl:=e2;refine⟨vb,dS (List.Perm.swap _ _ _) ?_⟩;exact⟨h1,h2,d,rfl,e,bm (p:=λa':Nat×Value=>[ak r (RepT.cells (s.rep ⟨a'.1, .pointer (some ⟨vb,0,none⟩),a'.2⟩)) 123,V.lg a'.1 s.e,own a'.2 s.replies.length (ints (s.replies.flatMap ReplyT.flat)) 37 3,V.E s.e s.o]) (lg,rs) q3⟩
theorem nb{vt:VoteT}{vb:Nat}(q:bI (tQ V r s (.pointer (some ⟨vb,0,none⟩))::ak vb (VoteT.cells vt) 227::H) h):bI (cA V r {s with vote:=some vt}::H) h:=by
 obtain⟨a,q1⟩:=fi q;have q2:bI ([ak r (RepT.cells (s.rep ⟨a.1, .pointer (some ⟨vb,0,none⟩),a.2⟩)) 123,V.lg a.1 s.e,own a.2 s.replies.length (ints (s.replies.flatMap ReplyT.flat)) 37 3,V.E s.e s.o]++(DF (.pointer (some ⟨vb,0,none⟩)) (some vt)::H)) h:=DU (λ_ e=>⟨vb,rfl,e⟩) q1;exact bm (p:=λa:Adr=>[ak r (RepT.cells ({s with vote:=some vt}.rep a)) 123,V.lg a.lg {s with vote:=some vt}.e,own a.rs {s with vote:=some vt}.replies.length (ints ({s with vote:=some vt}.replies.flatMap ReplyT.flat)) 37 3,DF a.vo {s with vote:=some vt}.vote,V.E {s with vote:=some vt}.e {s with vote:=some vt}.o]) ⟨a.1, .pointer (some ⟨vb,0,none⟩),a.2⟩ (aA [0,0,0,1,0] rfl q2)
theorem nc{vt:VoteT}{vb:Nat}(hv:s.vote=some vt)(q:bI (tQ V r s (.pointer (some ⟨vb,0,none⟩))::ak vb (VoteT.cells vt) 227::H) h):bI (cA V r s::H) h:=by
 have q2:=nb q
 rwa [show({s with vote:=some vt}:MS δ)=s by cases s;simp_all]at q2
end
theorem Av{δ:Type}(V:Env δ)(r:Nat)(s:MS δ)(v:ViewT):
 DT 93 #[(.pointer (some ⟨r,0,none⟩)),(.agg (ints v.flat).toArray)] T0 [cA V r s] (dG (λ_ H=>H=[cA V r (ma s v)])):=by
 refine BD 20 Tryz.func93 rfl rfl rfl λw0 F hF=>sr λ_ J1=>XY (ints v.flat) λb3=>?_
 refine nx J1 (sr λ_ J2=>PS ?_);refine LW 0 eF bf an ?_;refine PS ?_;refine FA 2 bh bf ?_;refine gr (vs:=ints v.flat) (i:=1) (ab rfl) rfl rfl rfl rfl rfl (by rw[(an v)];exact bf) (bv _) rfl rfl (λ_=>LC (cJ _) (an _)) (λa_=>(Mc (s.rep a_) 0 rfl (by have h1:=(an v);omega) (cu ((an ((s.rep a_).view)).trans (an v).symm)))) (nx J2 (sr λ_ J3=>PS ?_));refine FA 0 eF aM ?_;refine LU 0 Y3 (be v rfl) ?_;refine tp (kq AccT.zero (AccT.mk v.epoch BallotT.zero BallotT.zero ChangeT.zero) [(0,[Value.int .i64 v.epoch])] im nw (g:=AccT.sg)) ?_;refine PS ?_;refine FA 1058 bh di ?_;refine gr (vs:=ints (AccT.mk v.epoch BallotT.zero BallotT.zero ChangeT.zero).flat) (i:=1) (ab rfl) rfl rfl rfl rfl rfl (by rw[(aV (AccT.mk v.epoch BallotT.zero BallotT.zero ChangeT.zero))];exact di) (bv _) rfl rfl (λ_=>LC (cJ _) (aV _)) (λa_=>(jO ((MS.setView s v).rep a_) 0 rfl (by have h1:=(aV (AccT.mk v.epoch BallotT.zero BallotT.zero ChangeT.zero));omega) (cu ((aV (((MS.setView s v).rep a_).acc)).trans (aV (AccT.mk v.epoch BallotT.zero BallotT.zero ChangeT.zero)).symm)))) (nx J3 (sr λ_ J4=>cn (λ_ q=>aA [1] rfl q) (KW (H':=λvo:Value=>tQ V r (MS.setAcc (MS.setView s v) (AccT.mk v.epoch BallotT.zero BallotT.zero ChangeT.zero)) vo::[ak b3 (ints v.flat) 44]) (λ_ q=>C8 q) (λvo=>P2 ?_))));refine FA 1067 bh ix ?_;refine SK 0 ix (λ_=>cJ _) ?_ (hc:=by exact λa_=>(Md _ rfl _))
 refine nx J4 (ae (cn (H':=cA V r {{s with view:=v}with acc:= {AccT.zero with epoch:=v.epoch},vote:=none}::[ak b3 (ints v.flat) 44]) (λ_ q=>Ai (aA [0] rfl q)) (P2 ?_)));refine FA 1066 bh aM ?_;refine SK 0 aM (λ_=>cJ _) ?_ (hc:=by exact λa_=>(kY _ rfl _));exact au (WK [0] (bu rfl rfl))
theorem s5{δ:Type}(V:Env δ)(r:Nat)(s:MS δ)(v:ViewT)[OkR V.toDk s][OkVw v](hcl: ¬v.epoch≤s.view.epoch→DT 108 #[.pointer (some ⟨r,0,none⟩), .iface V.T V.ov] T0 [cA V r (ma (dT V.toDk s (ku v)) v)] (dG (λ_ H=>H=[cA V r (ql V.toDk (ma (dT V.toDk s (ku v)) v))]))):
 DT 145 #[(.pointer (some ⟨r,0,none⟩)),(.iface V.T V.ov),(.agg (ints v.flat).toArray)] T0 [cA V r s] (RI (.bool (pA V.toDk s v)) [cA V r (gN V.toDk s v)]):=by
 refine BD 28 Tryz.func145 rfl rfl rfl λw0 F hF=>sr λ_ J1=>XY (ints v.flat) λb5=>?_
 refine PS ?_;refine nx J1 (aa λ_ J2=>aa λ_ J3=>DC bc (BL 0) (cK 1 rfl rfl) ?_);refine FD 0 0 eF aM ?_;refine LR 1 Y3 (be v rfl) ?_;refine PD 2 ?_;refine PD 3 ?_;refine FD 4 2 bh bf ?_;refine FD 5 2 eF aM ?_;refine ta 6 rfl (cX (v:=(.int .i64 (s.view.epoch))) rfl Y3 rfl rfl (λ_ h=>h.2.2.1) (λa_=>(ca (s.rep a_) 0 rfl (by decide) (be _ rfl)))) ?_;refine PD 7 ?_;refine gX ?_ ?_<;>intro h14;refine PD 8 ?_;refine NT 9 ?_;refine NT 10 ?_;refine NT 11 ?_;refine NT 12 ?_;refine NT 13 ?_;refine PD 14 ?_;refine DN (ac J3 (CY (sr λ_ J4=>PS ?_)));refine nx J4 (ai (ad (WK [1] (ap rfl rfl ?_))));have e:gN V.toDk s v=s:=by rw[gN,if_pos h14]
 exact⟨by rw[pA,decide_eq_false (by omega),gk],congrArg (λq=>[cA V r q]) e.symm⟩;refine PD 8 ?_;refine PD 9 ?_;refine LY 10 eF bf an ?_;refine tb 11 rfl (kq RecT.zero (RecT.mk 5 0 RowT.zero 0 BallotT.zero ChangeT.zero v) [(0,[Value.int .i64 5]),(6,ints v.flat)] io eL (g:=RecT.sg)) ?_;refine AL 12 ?_;refine CE vc (km V r s (ku v)) (SM [1]) ?_;refine EN (PD 13 ?_);refine gX ?_ ?_<;>intro h20;refine PD 14 ?_;refine DN (ac J3 (CY (sr λ_ J5=>PS ?_)));refine nx J5 (ai (ad (WK [0] (ap rfl rfl ?_))));have e:gN V.toDk s v=(dT V.toDk s (ku v)):=by rw[gN,if_neg h14,if_pos h20]
 exact⟨by rw[pA,decide_eq_true (by omega),decide_eq_false h20,tI],congrArg (λq=>[cA V r q]) e.symm⟩;refine PD 14 ?_;refine DN (ac J3 (CN (qx J2 (sr λ_ J6=>PS ?_))));refine LW 1 eF bf an ?_;refine CZ IN (Av V r (dT V.toDk s (ku v)) v) ID λvR=>?_
 refine nx J6 (sr λ_ J7=>P2 ?_);refine CZ Gc ((hcl (by omega))) ID λvR=>?_
 refine nx J7 (sr λ_ J8=>PS ?_);refine nx J8 (ai (WK [0] (ap rfl rfl ?_)));have e:gN V.toDk s v=(ql V.toDk (ma (dT V.toDk s (ku v)) v)):=by rw[gN,if_neg h14,if_neg h20]
 exact⟨by rw[pA,decide_eq_true (by omega),decide_eq_true (by omega),tI],congrArg (λq=>[cA V r q]) e.symm⟩
theorem Ak{δ:Type}(V:Env δ)(r:Nat)(s:MS δ)(v:ViewT)[OkR V.toDk s][OkVw v](h:v.epoch≤s.view.epoch):DT 145 #[.pointer (some ⟨r,0,none⟩), .iface V.T V.ov, .agg (ints v.flat).toArray] T0 [cA V r s] (dG (λq H=>(∃b,q= .bool b)∧H=[cA V r s])):=
 (s5 V r s v (λq=>absurd h q)).mono λe H hp=>by
  cases e with
  |returned q=>exact⟨⟨_,hp.1⟩,hp.2.trans (by rw[gN,if_pos h])⟩
  |panicked c=>exact hp.elim
  |outgrown=>exact hp.elim
theorem uH{δ:Type}(V:Env δ)(r:Nat)(s:MS δ)(i:Int)[OkR V.toDk s]:TK V r 105 s s.id (nG i s.view) (fe V.toDk s s.id i):=Bp rfl (oG V r s s s.id (nG i s.view) (Ak V r s s.view (Int.le_refl _)))
theorem o8{δ:Type}(V:Env δ)(r:Nat)(s:MS δ)[OkR V.toDk s]:
 DT 108 #[(.pointer (some ⟨r,0,none⟩)),(.iface V.T V.ov)] T0 [cA V r s] (dG (λ_ H=>H=[cA V r (ql V.toDk s)])):=by
 refine BD 39 Tryz.func108 rfl rfl rfl λw0 F hF=>sr λ_ J1=>PS ?_
 refine CR Ic (xJ V r s) ID λvR HR hR=>?_
 obtain⟨_,rfl,rfl⟩:=hR;revert vR;intro ud;refine gR 0 rfl rfl (λhlud houd=>tp (cY rfl jI rfl hlud) ?_);refine PS ?_;refine nx J1 (aq ?_)
 refine bF (α:=(Nat)) (λk=>k≤(br s).length) (λk=>[(0,(.pointer (some ⟨r,0,none⟩))),(1,(.iface V.T V.ov)),(9,ud),(10,(.int .i64 ((((br s).length:Nat):Int)))),(11,(.int .i64 (((k:Nat):Int))))]) (λk=>[own ud ((br s).length) (ints (br s)) 3 1,cA V r (fB V.toDk ((br s).take k) s)]) (λk=>(br s).length-k) 0
  (aR _) SB
  (λ_ s=>s) (λk hinv=>?_)
 obtain hk:=hinv;have hcl:OkR V.toDk (fB V.toDk ((br s).take k) s):=sF _ _ inferInstance;refine sr λ_ J2=>PS ?_
 refine ao ?_ ?_<;>intro h12;refine nx J2 (aa λ_ J3=>CY (qx J3 (aa λ_ J4=>aq (sr λ_ J5=>?_))));have hmm1:(br s).getD k 0∈br s:=by rw[List.getD_eq_getElem?_getD,List.getElem?_eq_getElem (by omega)];exact cL _
 have hm1:cD ((br s).getD k 0)=true:=(vF hmm1).1;have hn1:0≤(br s).getD k 0∧(br s).getD k 0<5:=of_decide_eq_true hm1;refine gG 0 rfl rfl (by omega) (λge1 ce1 he1 _=>tp (a8 (r:=k) he1 rfl jI aM rfl rfl (by omega) (by omega) (by omega)) ?_);refine tp (bT (v:=(.int .i64 (((br s).getD k 0)))) rfl Y3 rfl rfl (eM 0 rfl he1 rfl) (vu (by omega))) ?_;refine PS ?_;refine nx J5 (sr λ_ J6=>PS ?_);refine CR FY (pu ((br s).getD k 0) hm1) ID λvR HR hR=>?_
 obtain⟨_,rfl,rfl⟩:=hR;revert vR;intro uw;refine gR 0 rfl rfl (λhluw _=>gG 0 rfl rfl (by omega) (λgw capw hvw hcapw=>tp (cY rfl jI rfl hluw) ?_));refine PS ?_;refine nx J6 (aq (qD 2 (sr λ_ J7=>PS ?_)));refine nx J7 (aa λ_ J8=>CY (qx J8 (aa λ_ J9=>eH (α:=Unit) (λ_u=>True) (λ_u=>[(0,(.pointer (some ⟨r,0,none⟩))),(1,(.iface V.T V.ov)),(5,(.int .i64 (((br s).getD k 0)))),(9,ud),(10,(.int .i64 ((((br s).length:Nat):Int)))),(11,(.int .i64 (((k:Nat):Int)))),(16,uw),(17,(.int .i64 2)),(18,(.int .i64 0)),(19,(.bool true))]) (λ_u=>[cA V r (gF V.toDk (fB V.toDk ((br s).take k) s) ((br s).getD k 0) ((((br s).getD k 0)+1)%5)),own uw (2) ([.int .i64 ((((br s).getD k 0)+1)%5), .int .i64 ((((br s).getD k 0)+2)%5)]) 3 1,own ud ((br s).length) (ints (br s)) 3 1]) (λ_u hinv=>?_) (λtl9=>?_))));have _:=hinv;refine ac J9 (ae (tp (cw (r:=1) rfl rfl rfl (by decide)) ?_));refine PS ?_;refine au (dY (sr λ_ J10=>PS ?_))
 refine nx J10 (aa λ_ J11=>CY (qx J11 (aa λ_ J12=>eH (α:=Unit) (λ_u=>True) (λ_u=>[(0,(.pointer (some ⟨r,0,none⟩))),(1,(.iface V.T V.ov)),(5,(.int .i64 (((br s).getD k 0)))),(9,ud),(10,(.int .i64 ((((br s).length:Nat):Int)))),(11,(.int .i64 (((k:Nat):Int)))),(16,uw),(17,(.int .i64 2)),(18,(.int .i64 1)),(19,(.bool true)),(37,(.int .i64 1))]) (λ_u=>[cA V r (gF V.toDk (gF V.toDk (fB V.toDk ((br s).take k) s) ((br s).getD k 0) ((((br s).getD k 0)+1)%5)) ((br s).getD k 0) ((((br s).getD k 0)+2)%5)),own uw (2) ([.int .i64 ((((br s).getD k 0)+1)%5), .int .i64 ((((br s).getD k 0)+2)%5)]) 3 1,own ud ((br s).length) (ints (br s)) 3 1]) (λ_u hinv=>?_) (λtl12=>?_))));have _:=hinv;refine ac J12 (ae (tp (cw (r:=2) rfl rfl rfl (by decide)) ?_));refine PS ?_;refine au (dY (sr λ_ J13=>PS ?_));refine nx J13 (aa λ_ J14=>CN (bg (aF (aF (bD (ag (ac J4 (ae (AD ?_)))))))));refine PS ?_;refine au ?_
 exact aL ((k+1):(Nat)) (by omega) (by show(br s).length- (k+1)< (br s).length-k;omega)
  SB
  (λ_ q=>by
   rw[AR V.toDk (by omega) s]
   exact aj [2,0] rfl q)
 refine aq (sr λ_ J15=>tp (a8 (r:=1) hvw rfl jI aM rfl rfl (by omega) (by omega) rfl) ?_);refine tp (bT (v:=(.int .i64 (((((br s).getD k 0)+2)%5)))) rfl Y3 rfl rfl (eM 1 rfl hvw rfl) rfl) ?_;refine PS ?_;refine nx J15 (sr λ_ J16=>P3 ?_);refine CE C2 (mz V r (gF V.toDk (fB V.toDk ((br s).take k) s) ((br s).getD k 0) ((((br s).getD k 0)+1)%5)) ((br s).getD k 0) ((((br s).getD k 0)+2)%5) hm1 (by omega)) ID ?_;refine aX ?_ ?_<;>intro h25;refine PS ?_;refine nx J16 (CN (aS (ag ?_)))
 exact aD
  SB
  (λ_ q=>by
   rw[gF,if_pos h25]
   exact aj [0,0,0] rfl q)
  (tl12 (():Unit) trivial)
 refine PS ?_;refine nx J16 (CY (ae ?_))
 iterate 6 refine PS ?_
 refine FA 2 bh bf ?_;refine LZ 0 eF bf an ((gF V.toDk (fB V.toDk ((br s).take k) s) ((br s).getD k 0) ((((br s).getD k 0)+1)%5)).view) ?_ (hc:=by exact λ_=>cT _);refine tp (kq MsgT.zero (MsgT.mk 8 ((br s).getD k 0) RowT.zero 0 0 BallotT.zero BallotT.zero ChangeT.zero ((gF V.toDk (fB V.toDk ((br s).take k) s) ((br s).getD k 0) ((((br s).getD k 0)+1)%5)).view)) [(0,[Value.int .i64 8]),(1,[Value.int .i64 ((br s).getD k 0)]),(8,ints ((gF V.toDk (fB V.toDk ((br s).take k) s) ((br s).getD k 0) ((((br s).getD k 0)+1)%5)).view).flat)] aY bk (g:=MsgT.sg)) ?_;refine CZ iB (fK V r (gF V.toDk (fB V.toDk ((br s).take k) s) ((br s).getD k 0) ((((br s).getD k 0)+1)%5)) ((((br s).getD k 0)+2)%5) (nG ((br s).getD k 0) (gF V.toDk (fB V.toDk ((br s).take k) s) ((br s).getD k 0) ((((br s).getD k 0)+1)%5)).view) (λs_=>fe V.toDk s_ s_.id ((br s).getD k 0)) (λ_=>uH V r (gF V.toDk (fB V.toDk ((br s).take k) s) ((br s).getD k 0) ((((br s).getD k 0)+1)%5)) ((br s).getD k 0))) ID λvR=>?_
 refine au (ag ?_)
 exact aD
  SB
  (λ_ q=>by
   rw[gF,if_neg (by rw[h25];decide)]
   exact aj [0,0,0] rfl q)
  (tl12 (():Unit) trivial)
 refine aq (sr λ_ J17=>tp (a8 (r:=0) hvw rfl jI aM rfl rfl (by omega) (by omega) rfl) ?_);refine tp (bT (v:=(.int .i64 (((((br s).getD k 0)+1)%5)))) rfl Y3 rfl rfl (eM 0 rfl hvw rfl) rfl) ?_;refine PS ?_;refine nx J17 (sr λ_ J18=>P3 ?_);refine CE C2 (mz V r (fB V.toDk ((br s).take k) s) ((br s).getD k 0) ((((br s).getD k 0)+1)%5) hm1 (by omega)) (SM [2]) ?_;refine aX ?_ ?_<;>intro h25;refine PS ?_;refine nx J18 (CN (aS (ag ?_)))
 exact aD
  SB
  (λ_ q=>by
   rw[gF,if_pos h25]
   exact aj [0,0,0] rfl q)
  (tl9 (():Unit) trivial)
 refine PS ?_;refine nx J18 (CY (ae ?_))
 iterate 6 refine PS ?_
 refine FA 2 bh bf ?_;refine LZ 0 eF bf an ((fB V.toDk ((br s).take k) s).view) ?_ (hc:=by exact λ_=>cT _);refine tp (kq MsgT.zero (MsgT.mk 8 ((br s).getD k 0) RowT.zero 0 0 BallotT.zero BallotT.zero ChangeT.zero ((fB V.toDk ((br s).take k) s).view)) [(0,[Value.int .i64 8]),(1,[Value.int .i64 ((br s).getD k 0)]),(8,ints ((fB V.toDk ((br s).take k) s).view).flat)] aY bk (g:=MsgT.sg)) ?_;refine CZ iB (fK V r (fB V.toDk ((br s).take k) s) ((((br s).getD k 0)+1)%5) (nG ((br s).getD k 0) (fB V.toDk ((br s).take k) s).view) (λs_=>fe V.toDk s_ s_.id ((br s).getD k 0)) (λ_=>uH V r (fB V.toDk ((br s).take k) s) ((br s).getD k 0))) ID λvR=>?_
 refine au (ag ?_)
 exact aD
  SB
  (λ_ q=>by
   rw[gF,if_neg (by rw[h25];decide)]
   exact aj [0,0,0] rfl q)
  (tl9 (():Unit) trivial)
 refine nx J2 (aa λ_ J19=>CN (bg (aF (aF (bD (WK [1] (bu rfl ?_)))))));obtain rfl:k=(br s).length:=by omega
 exact MQ (by rw[dL];rfl)
theorem s6{δ:Type}(V:Env δ)(r:Nat)(s:MS δ)(v:ViewT)[OkR V.toDk s][OkVw v]:DT 145 #[.pointer (some ⟨r,0,none⟩), .iface V.T V.ov, .agg (ints v.flat).toArray] T0 [cA V r s] (RI (.bool (pA V.toDk s v)) [cA V r (gN V.toDk s v)]):=s5 V r s v λ_=>o8 V r _
theorem s7{δ:Type}(V:Env δ)(r:Nat)(s:MS δ)(v:ViewT)[OkR V.toDk s][OkVw v]:DT 145 #[.pointer (some ⟨r,0,none⟩), .iface V.T V.ov, .agg (ints v.flat).toArray] T0 [cA V r s] (dG (λq H=>(∃b,q= .bool b)∧H=[cA V r (gN V.toDk s v)])):=
 (s6 V r s v).mono λe H hp=>by
  cases e with
  |returned q=>exact⟨⟨_,hp.1⟩,hp.2⟩
  |panicked c=>exact hp.elim
  |outgrown=>exact hp.elim
theorem um{δ:Type}(V:Env δ)(r:Nat)(s:MS δ)(from':Int)(m:MsgT)[OkR V.toDk s][OkMg m]:TK V r 146 s from' m (lO V.toDk s from' m):=oG V r s _ from' m (s7 V r s m.view)
theorem IH:Tryz.prog.eqGuardType Tryz.prog.depth 88=false:=by kernel_rfl
theorem IF:Tryz.prog.keyTypeAt 6 88=true:=by kernel_rfl
theorem I4:n9 Tryz.prog 6 88=some 2:=by kernel_rfl
theorem ER:(match Tryz.prog.underlying 88 with|some (.struct _)|some (.array _ _)=>true|_=>false)=true:=by kernel_rfl
theorem E3:Tryz.prog.cellsOf 88=2:=by kernel_rfl
theorem JC:Tryz.prog.eqGuardType Tryz.prog.depth 118=false:=by kernel_rfl
theorem Jy:Tryz.prog.keyTypeAt 6 118=true:=by kernel_rfl
theorem KN:n9 Tryz.prog 6 118=some 8:=by kernel_rfl
theorem Is:(match Tryz.prog.underlying 118 with|some (.struct _)|some (.array _ _)=>true|_=>false)=true:=by kernel_rfl
theorem Iu:Tryz.prog.cellsOf 118=8:=by kernel_rfl
theorem xz(a b:BallotT):
 DT 181 #[(.agg (ints a.flat).toArray),(.agg (ints b.flat).toArray)] T0 [] (RI (.bool (Aj a b)) []):=by
 refine BD 20 Tryz.func181 rfl rfl rfl λw0 F hF=>sr λ_ J1=>XY (ints a.flat) λb2=>?_
 refine XY (ints b.flat) λb3=>?_
 refine PS ?_;refine nx J1 (aa λ_ J2=>sr λ_ J3=>FA 0 jC aM ?_);refine LU 1 Y3 (eQ a rfl) ?_;refine FA 0 jC aM ?_;refine LU 0 Y3 (eQ b rfl) ?_;refine PS ?_;refine ao ?_ ?_<;>intro h9;refine nx J3 (CY (sr λ_ J4=>FA 0 jC aM ?_));refine LU 1 Y3 (eQ a rfl) ?_;refine FA 0 jC aM ?_;refine LU 0 Y3 (eQ b rfl) ?_;refine P2 ?_;refine nx J4 (ai (ad (WK [] (ap rfl rfl ?_))));exact⟨congrArg Value.bool (by simp[Aj, *]),rfl⟩;refine nx J3 (CN (qx J2 (sr λ_ J5=>FA 1 jC aM ?_)));refine LU 1 Y3 (BallotT.at_who a rfl) ?_;refine FA 1 jC aM ?_;refine LU 0 Y3 (BallotT.at_who b rfl) ?_;refine P2 ?_;refine nx J5 (ai (WK [] (ap rfl rfl ?_)));exact⟨congrArg Value.bool (by simp[Aj, *]),rfl⟩
theorem q9(a:AccT)(ep:Int)(b:BallotT):
 DT 175 #[(.agg (ints a.flat).toArray),(.int .i64 (ep)),(.agg (ints b.flat).toArray)] T0 [] (RI (.bool (xU a ep b)) []):=by
 refine BD 22 Tryz.func175 rfl rfl rfl λw0 F hF=>sr λ_ J1=>XY (ints a.flat) λb3=>?_
 refine XY (ints b.flat) λb5=>?_
 refine PS ?_;refine nx J1 (sr λ_ J2=>PS ?_);refine FA 0 im aM ?_;refine LU 1 Y3 (AccT.at_epoch a rfl) ?_;refine PS ?_;refine ao ?_ ?_<;>intro h10;refine PS ?_
 iterate 3 refine UT ?_
 refine P2 ?_
 iterate 4 refine UT ?_
 refine P2 ?_;refine nx J2 (ai (WK [] (ap rfl rfl ?_)));exact⟨congrArg Value.bool (by simp[xU, *]),rfl⟩;refine PS ?_;refine FA 0 jC aM ?_;refine LU 0 Y3 (eQ b rfl) ?_;refine PS ?_;refine ao ?_ ?_<;>intro h14;refine P2 ?_
 iterate 4 refine UT ?_
 refine P2 ?_;refine nx J2 (ai (WK [] (ap rfl rfl ?_)));exact⟨congrArg Value.bool (by simp[xU, *]),rfl⟩;refine P2 ?_;refine LW 0 jC cp am ?_;refine FA 1 im cp ?_;refine LV 1 jC cp am AccT.sp_vow (y:=a.vow) ?_;refine CE HZ (xz b a.vow) ID ?_;refine P2 ?_;refine nx J2 (ai (WK [] (ap rfl rfl ?_)));exact⟨congrArg Value.bool (by simp[xU, *]),rfl⟩
theorem mE(a:AccT)(ep:Int)(b:BallotT):
 DT 153 #[(.agg (ints a.flat).toArray),(.int .i64 (ep)),(.agg (ints b.flat).toArray)] T0 [] (RI (.tuple #[.agg (ints (bP a ep b).1.flat).toArray, .bool (bP a ep b).2]) []):=by
 refine BD 16 Tryz.func153 rfl rfl rfl λw0 F hF=>sr λ_ J1=>XY (ints a.flat) λb3=>?_
 refine XY (ints b.flat) λb5=>?_
 refine XZ tT (ints AccT.zero.flat) λb6=>?_
 refine PS ?_;refine nx J1 (aa λ_ J2=>sr λ_ J3=>LW 2 im di aV ?_);refine PS ?_;refine LW 1 jC cp am ?_;refine CE H4 (q9 a ep b) ID ?_;refine aX ?_ ?_<;>intro h11;refine nx J3 (CY (sr λ_ J4=>LW 2 im di aV ?_));refine SW 0 di aV ?_;refine PS ?_;refine nx J4 (ai (ad (RT 0 [] im di (aV _) ?_)));exact⟨by rw[bP];simp_all,rfl⟩;refine nx J3 (CN (qx J2 (sr λ_ J5=>LW 1 jC cp am ?_)));refine FA 1 im cp ?_;refine SP 2 cp am aV AccT.wp_vow ?_;refine nx J5 (sr λ_ J6=>LW 2 im di aV ?_);refine SW 0 di aV ?_;refine PS ?_;refine nx J6 (ai (RT 0 [] im di (aV _) ?_));exact⟨by rw[bP];simp_all,rfl⟩
theorem tm(a:AccT)(ep:Int)(b:BallotT)(ch:ChangeT):
 DT 180 #[(.agg (ints a.flat).toArray),(.int .i64 (ep)),(.agg (ints b.flat).toArray),(.agg (ints ch.flat).toArray)] T0 [] (RI (.tuple #[.agg (ints (fX a ep b ch).1.flat).toArray, .bool (fX a ep b ch).2]) []):=by
 refine BD 22 Tryz.func180 rfl rfl rfl λw0 F hF=>sr λ_ J1=>XY (ints a.flat) λb4=>?_
 refine XY (ints b.flat) λb6=>?_
 refine XY (ints ch.flat) λb7=>?_
 refine XZ tT (ints AccT.zero.flat) λb8=>?_
 refine PS ?_;refine nx J1 (aa λ_ J2=>sr λ_ J3=>LW 3 im di aV ?_);refine PS ?_;refine LW 2 jC cp am ?_;refine CE H4 (q9 a ep b) ID ?_;refine aX ?_ ?_<;>intro h13;refine nx J3 (CY (sr λ_ J4=>LW 3 im di aV ?_));refine SW 0 di aV ?_;refine PS ?_;refine nx J4 (ai (ad (RT 0 [] im di (aV _) ?_)));exact⟨by rw[fX];simp_all,rfl⟩;refine nx J3 (CN (qx J2 (aa λ_ J5=>D2 2 1 bc ?_)));refine LY 0 jC cp am ?_;refine LY 1 jC cp am ?_;refine LY 2 mj e9 aI ?_;refine FD 3 1 im cp ?_;refine AL 4 ?_;refine SP 3 cp am aV AccT.wp_vow ?_;refine EN (FD 5 3 im cp ?_);refine AL 6 ?_;refine SP 3 cp am aV AccT.wp_had ?_;refine EN (FD 7 5 im e9 ?_);refine AL 8 ?_;refine SP 3 e9 aI aV AccT.wp_change ?_;refine EN (DN (ac J5 (sr λ_ J6=>LW 3 im di aV ?_)));refine SW 0 di aV ?_;refine PS ?_;refine nx J6 (ai (RT 0 [] im di (aV _) ?_));exact⟨by rw[fX];simp_all,rfl⟩
theorem sX(b:Int):
 DT 184 #[(.int .i64 (b))] T0 [] (dG (λr' H=>∃u,r'=u∧H=[own u (Br b).length (ints (Br b)) 3 1])):=by
 refine BD 19 Tryz.func184 rfl rfl rfl λw0 F hF=>sr λ_ J1=>PS ?_
 refine nx J1 (sr λ_ J2=>PS ?_);refine nx J2 (aa λ_ J3=>sr λ_ J4=>PS ?_);refine nx J4 (aq ?_)
 refine bF (α:=(Nat)×(Value)) (λ⟨k,u⟩=>k≤5∧u.oneCell'=true) (λ⟨k,u⟩=>[(0,(.int .i64 (b))),(2,(.slice none 0 0)),(3,u),(5,(.int .i64 (((k:Nat):Int))))]) (λ⟨k,u⟩=>[own u ((kg b k).length) (ints (kg b k)) 3 1]) (λ⟨k,u⟩=>5-k) (0,(.slice none 0 0))
  ⟨aR _,rfl⟩ SB
  (λ_ s=>fJ 3 1 (aj [] rfl s)) (λ⟨k,u⟩ hinv=>?_)
 obtain⟨hk,hu⟩:=hinv;have hol:=sh b k;refine sr λ_ J5=>PS ?_
 refine ao ?_ ?_<;>intro h6;refine nx J5 (aa λ_ J6=>CY (qx J6 (aa λ_ J7=>aq (sr λ_ J8=>P2 ?_))));refine nx J8 (sr λ_ J9=>P2 ?_);refine tp (jt (r:=(b.fdiv (2^min ((k:Nat):Int).toNat IntKind.i64.bits))) rfl rfl rfl (by omega) rfl) ?_;refine tp (om (r:=((b.fdiv (2^min ((k:Nat):Int).toNat IntKind.i64.bits))%2)) rfl rfl rfl (mask (k:=1) (by decide) _)) ?_;refine PS ?_;refine ao ?_ ?_<;>intro h12;refine nx J9 (CY (ae (P2 ?_)));refine aP (cells:=#[(.int .i64 (((k:Nat):Int)))]) (ab rfl) rfl rfl rfl jI qh rfl rfl rfl (by as_aux_lemma=>kernel_rfl) (λb15=>co (k:=1) (news:=[(.int .i64 (((k:Nat):Int)))]) (nn':=(kg b k).length+1) (xs':=ints (kg b k)++[(.int .i64 (((k:Nat):Int)))]) (ab rfl) rfl rfl rfl jI qh rfl rfl rfl rfl rfl rfl (λ_ _=>gJ rfl (RO 0) rfl) (by simp[Value.oneCell']) (by simp only[maxLen];omega) (by omega) (by simp) (by simp) (λv16 ov16=>PS ?_));refine au (ag (ac J7 (ae (AD ?_))));refine PS ?_;refine au ?_
 exact aL ((k+1,v16):(Nat)×(Value)) ⟨by omega,ov16⟩ (by show 5- (k+1)<5-k;omega)
  SB
  (λ_ q=>by
   show bI [own v16 (kg b (k+1)).length (ints (kg b (k+1))) 3 1] _;rw[show kg b (k+1)=kg b k++[((k:Nat):Int)]by rw[uA,if_pos (by rw[E5,decide_eq_true (by assumption)])],af,dX]
   exact aj [1] rfl q)
 refine nx J9 (CN (aS (ag (ac J7 (ae (AD ?_))))));refine PS ?_;refine au ?_
 exact aL ((k+1,u):(Nat)×(Value)) ⟨by omega,hu⟩ (by show 5- (k+1)<5-k;omega)
  SB
  (λ_ q=>by
   show bI [own u (kg b (k+1)).length (ints (kg b (k+1))) 3 1] _;rw[show kg b (k+1)=kg b k by rw[uA,if_neg (by rw[E5,decide_eq_false (by assumption)];decide),aT]]
   exact aj [0] rfl q)
 refine nx J5 (aa λ_ J10=>CN (bg (aF (aF (bD (ac J3 (sr λ_ J11=>P2 ?_)))))));refine nx J11 (ai (WK [0] (ap rfl rfl ?_)));obtain rfl:k=5:=by omega
 exact⟨u,rfl,rfl⟩
theorem yC(part all:Int):
 DT 183 #[(.int .i64 (part)),(.int .i64 (all))] T0 [] (RI (.bool (Ip part all)) []):=by
 refine BD 15 Tryz.func183 rfl rfl rfl λw0 F hF=>sr λ_ J1=>PS ?_
 refine nx J1 (sr λ_ J2=>P2 ?_);refine tp (om (r:=(pH .i64 part all)) rfl rfl rfl rfl) ?_;refine CR HY (sX (pH .i64 part all)) ID λvR HR hR=>?_
 obtain⟨_,rfl,rfl⟩:=hR;revert vR;intro us1;refine gR 0 rfl rfl (λhlus1 _=>?_);have hzus1:=sh (pH .i64 part all) 5;change (Br (pH .i64 part all)).length≤5 at hzus1;refine tp (cY rfl jI rfl hlus1) ?_;refine tp (HU (r:=(2* (((Br (pH .i64 part all)).length:Nat):Int))) rfl rfl rfl (bC (by omega) (by omega))) ?_;refine PS ?_;refine CR HY (sX all) ID λvR HR hR=>?_
 obtain⟨_,rfl,rfl⟩:=hR;revert vR;intro us2;refine gR 0 rfl rfl (λhlus2 _=>?_);have hzus2:=sh all 5;change (Br all).length≤5 at hzus2;refine tp (cY rfl jI rfl hlus2) ?_;refine P2 ?_;exact nx J2 (ai (WK [] (ap rfl rfl ⟨rfl,rfl⟩)))
theorem iH(v:ViewT)(bits:Int):
 DT 182 #[(.agg (ints v.flat).toArray),(.int .i64 (bits))] T0 [] (RI (.bool (gi v bits)) []):=by
 refine BD 9 Tryz.func182 rfl rfl rfl λw0 F hF=>sr λ_ J1=>XY (ints v.flat) λb2=>?_
 refine PS ?_;refine nx J1 (sr λ_ J2=>PS ?_);refine FA 1 eF aM ?_;refine LU 0 Y3 (lm v rfl) ?_;refine CE Kc (yC bits v.members) ID ?_;refine PS ?_;exact nx J2 (ai (WK [] (ap rfl rfl ⟨rfl,rfl⟩)))
theorem yb(v:ViewT)(b:BallotT)(ch:ChangeT):
 DT 154 #[(.agg (ints v.flat).toArray),(.agg (ints b.flat).toArray),(.agg (ints ch.flat).toArray)] T0 [] (dG (λr' H=>∃vb,r'= .pointer (some ⟨vb,0,none⟩)∧H=[ak vb (VoteT.cells (iV v b ch)) 227])):=by
 refine BD 12 Tryz.func154 rfl rfl rfl λw0 F hF=>sr λ_ J1=>XY (ints v.flat) λb3=>?_
 refine XY (ints b.flat) λb4=>?_
 refine XY (ints ch.flat) λb5=>?_
 refine PS ?_;refine nx J1 (sr λ_ J2=>LW 2 eF bf an ?_);refine LW 1 jC cp am ?_;refine LW 0 mj e9 aI ?_;refine tp (wY (cs:=VoteT.cells (VoteT.mk v b ch BallotT.zero 0 0 false)) (segs:=[ints ViewT.zero.flat,ints BallotT.zero.flat,ints ChangeT.zero.flat,ints BallotT.zero.flat,[Value.int .i64 0],[Value.int .i64 0],[Value.bool false]]) (res:=[ints v.flat,ints b.flat,ints ch.flat,ints BallotT.zero.flat,[Value.int .i64 0],[Value.int .i64 0],[Value.bool false]]) (parts:=[(0,ints v.flat),(1,ints b.flat),(2,ints ch.flat)]) rfl rfl iX (by kernel_rfl) (by kernel_rfl) rfl (eT rfl ((an v).trans (an ViewT.zero).symm) (eT rfl ((am b).trans (am BallotT.zero).symm) (eT rfl ((aI ch).trans (aI ChangeT.zero).symm) kL))) (fb (VoteT.mk v b ch BallotT.zero 0 0 false)).symm) ?_;refine XY (VoteT.cells (VoteT.mk v b ch BallotT.zero 0 0 false)) λb11=>?_
 refine PS ?_;exact nx J2 (ai (WK [0] (ap rfl rfl ⟨b11,rfl,rfl⟩)))
theorem bB(vb:Nat)(v:VoteT):
 DT 155 #[(.pointer (some ⟨vb,0,none⟩))] T0 [ak vb (VoteT.cells v) 227] (RI (.agg (ints v.ballot.flat).toArray) [ak vb (VoteT.cells v) 227]):=by
 refine BD 7 Tryz.func155 rfl rfl rfl λw0 F hF=>sr λ_ J1=>XZ Lk (ints BallotT.zero.flat) λb2=>?_
 refine nx J1 (sr λ_ J2=>P2 ?_);refine FA 7 iX cp ?_;refine LV 1 jC cp am VoteT.sp_ballot (y:=v.ballot) ?_;refine SW 0 cp am ?_;refine nx J2 (ai (RC 0 [1] jC cp (am _) ?_));exact⟨rfl,rfl⟩
theorem cS(vb:Nat)(v:VoteT):
 DT 111 #[(.pointer (some ⟨vb,0,none⟩))] T0 [ak vb (VoteT.cells v) 227] (RI (.agg (ints v.change.flat).toArray) [ak vb (VoteT.cells v) 227]):=by
 refine BD 7 Tryz.func111 rfl rfl rfl λw0 F hF=>sr λ_ J1=>XZ Ll (ints ChangeT.zero.flat) λb2=>?_
 refine nx J1 (sr λ_ J2=>P2 ?_);refine FA 9 iX e9 ?_;refine LV 1 mj e9 aI VoteT.sp_change (y:=v.change) ?_;refine SW 0 e9 aI ?_;refine nx J2 (ai (RC 0 [1] mj e9 (aI _) ?_));exact⟨rfl,rfl⟩
theorem mV(vb:Nat)(v:VoteT):
 DT 156 #[(.pointer (some ⟨vb,0,none⟩))] T0 [ak vb (VoteT.cells v) 227] (RI (.bool v.putting) [ak vb (VoteT.cells v) 227]):=by
 refine BD 7 Tryz.func156 rfl rfl rfl λw0 F hF=>sr λ_ J1=>PS ?_
 refine nx J1 (sr λ_ J2=>P2 ?_);refine FA 16 iX kd ?_;refine LU 0 Y4 (ll v rfl) ?_;refine PS ?_;exact nx J2 (ai (WK [0] (ap rfl rfl ⟨rfl,rfl⟩)))
theorem Bf(vb:Nat)(v:VoteT)(who:Int)(b had:BallotT)(ch:ChangeT)(hb:WF b.flat)(hvb:WF v.ballot.flat):
 DT 172 #[(.pointer (some ⟨vb,0,none⟩)),(.int .i64 (who)),(.agg (ints b.flat).toArray),(.agg (ints had.flat).toArray),(.agg (ints ch.flat).toArray)] T0 [ak vb (VoteT.cells v) 227] (RI (.bool (ey v who b had ch).2) [ak vb (VoteT.cells (ey v who b had ch).1) 227]):=by
 refine BD 76 Tryz.func172 rfl rfl rfl λw0 F hF=>sr λ_ J1=>XY (ints b.flat) λb7=>?_
 refine XY (ints had.flat) λb8=>?_
 refine XY (ints ch.flat) λb9=>?_
 refine PS ?_;refine nx J1 (aa λ_ J2=>aa λ_ J3=>D2 3 2 bc ?_);refine PD 0 ?_;refine PD 1 ?_;refine FD 2 16 iX kd ?_;refine LR 3 Y4 (ll v rfl) ?_;refine qu ?_ ?_<;>intro h14;refine PD 4 ?_;refine NT 5 ?_;refine NT 6 ?_;refine NT 7 ?_;refine NT 8 ?_;refine NT 9 ?_;refine NT 10 ?_;refine PD 11 ?_;refine PD 12 ?_;refine NT 13 ?_;refine NT 14 ?_;refine NT 15 ?_;refine NT 16 ?_;refine NT 17 ?_;refine NT 18 ?_;refine NT 19 ?_;refine PD 20 ?_;refine DN (ac J3 (CY (sr λ_ J4=>PS ?_)));refine nx J4 (ai (ad (WK [3] (ap rfl rfl ?_))));have e:ey v who b had ch=(v,false):=by rw[ey,h14,if_pos (by rfl)]
 exact⟨congrArg (λq:VoteT×Bool=>Value.bool q.2) e.symm,congrArg (λq:VoteT×Bool=>[ak vb (VoteT.cells q.1) 227]) e.symm⟩;refine PD 4 ?_;refine LY 5 jC cp am ?_;refine PD 6 ?_;refine PD 7 ?_;refine FD 8 7 iX cp ?_;refine tb 9 rfl (aJ (vs:=ints v.ballot.flat) rfl jC rfl cp rfl (λ_ h=>h.2.1) (am v.ballot) (HS v 0 rfl (by decide) (bj (am v.ballot)))) ?_;refine tb 10 rfl (we (a:=b.flat) (b:=v.ballot.flat) (m:=6) (c:=2) IH IF rfl I4 (c7 (am b)) (c7 (am v.ballot)) ⟨fo ER E3 (c7 (am b)),fo ER E3 (c7 (am v.ballot))⟩ hb hvb rfl rfl rfl) ?_;refine gX ?_ ?_<;>intro h21;refine PD 11 ?_;refine PD 12 ?_;refine NT 13 ?_;refine NT 14 ?_;refine NT 15 ?_;refine NT 16 ?_;refine NT 17 ?_;refine NT 18 ?_;refine NT 19 ?_;refine PD 20 ?_;refine DN (ac J3 (CY (sr λ_ J5=>PS ?_)));refine nx J5 (ai (ad (WK [3] (ap rfl rfl ?_))));have e:ey v who b had ch=(v,false):=by rw[ey,mI,decide_eq_false h21,if_pos (by rw[h14];rfl)]
 exact⟨congrArg (λq:VoteT×Bool=>Value.bool q.2) e.symm,congrArg (λq:VoteT×Bool=>[ak vb (VoteT.cells q.1) 227]) e.symm⟩;refine PD 11 ?_;refine PD 12 ?_;refine PD 13 ?_;refine PD 14 ?_;refine FD 15 0 iX bf ?_;refine tb 16 rfl (aJ (vs:=ints v.view.flat) rfl eF rfl bf rfl (λ_ h=>h.2.1) (an v.view) (A0 v 0 rfl (by decide) (bj (an v.view)))) ?_;refine PD 17 ?_;refine AL 18 ?_;refine CE oT (dq v.view who) ID ?_;refine aX ?_ ?_<;>intro h29;have hw:0≤who∧who<5:=by unfold ij cD at h29;simp only[ax,decide_eq_true_eq]at h29;exact h29.1
 refine EN (PD 19 ?_);refine PD 20 ?_;refine DN (ac J3 (CN (qx J2 (aa λ_ J6=>D0 bc ?_))));refine PD 0 ?_;refine PD 1 ?_;refine FD 2 14 iX aM ?_;refine PD 4 ?_;refine ta 5 rfl (wV (r:=(cR who)) rfl rfl rfl (by omega) rfl) ?_;refine AL 3 ?_;refine LU 3 Y3 (kV v rfl) ?_;refine EN (ta 6 rfl (GR (r:=(hY .i64 v.vowed (cR who))) rfl rfl rfl rfl) ?_);refine PD 7 ?_;refine FD 8 14 iX aM ?_;refine AL 9 ?_;refine SS 3 aM (mG _) (VoteT.set_vowed v rfl _) ?_;refine EN (DN (ac J6 (aa λ_ J7=>aa λ_ J8=>D2 1 3 bc ?_)));refine FD 0 0 jC aM ?_;refine LR 1 Y3 (eQ had rfl) ?_;refine PD 2 ?_;refine gX ?_ ?_<;>intro h43;refine PD 3 ?_;refine PD 4 ?_;refine PD 5 ?_;refine FD 6 12 iX cp ?_;refine tb 7 rfl (aJ (vs:=ints v.best.flat) rfl jC rfl cp rfl (λ_ h=>h.2.2.1) (am v.best) (VoteT.sub_best (VoteT.mk v.view v.ballot v.change v.best (hY .i64 v.vowed (cR who)) v.took v.putting) 0 rfl (by decide) (bj (am v.best)))) ?_;refine LY 8 jC cp am ?_;refine AL 9 ?_;refine CE HZ (xz v.best had) ID ?_;refine aX ?_ ?_<;>intro h50;refine EN (PD 10 ?_);refine DN (ac J8 (CY (D2 1 0 bc ?_)));refine PD 0 ?_;refine PD 1 ?_;refine LY 2 jC cp am ?_;refine LY 3 mj e9 aI ?_;refine PD 4 ?_;refine FD 5 12 iX cp ?_;refine AL 6 ?_;refine SP 3 cp am mG VoteT.wp_best ?_;refine EN (PD 7 ?_);refine FD 8 9 iX e9 ?_;refine AL 9 ?_;refine SP 3 e9 aI mG VoteT.wp_change ?_
 refine EN (DN (ac J7 (aa λ_ J9=>eH (α:=Unit) (λ_=>True) (λ_u=>[(0,(.pointer (some ⟨vb,0,none⟩))),(10,(.bool false))]) (λ_u=>[ak b9 (ints ch.flat) 28,ak b8 (ints had.flat) 88,ak b7 (ints b.flat) 88,ak vb (VoteT.cells (VoteT.mk v.view v.ballot ch had (hY .i64 v.vowed (cR who)) v.took (gi v.view (hY .i64 v.vowed (cR who))))) 227]) (λ_u _=>?_) (λtl9=>?_))));refine ac J9 (sr λ_ J10=>P2 ?_);refine FA 16 iX kd ?_;refine LT 3 Y4 (.bool (gi v.view (hY .i64 v.vowed (cR who)))) ?_ (hc:=by exact ll _ rfl);refine PS ?_;refine nx J10 (ai (WK [3] (ap rfl rfl ?_)));have e:ey v who b had ch=((VoteT.mk v.view v.ballot ch had (hY .i64 v.vowed (cR who)) v.took (gi v.view (hY .i64 v.vowed (cR who)))),gi v.view (hY .i64 v.vowed (cR who))):=by rw[ey,mI,decide_eq_true (show b.flat=v.ballot.flat from Decidable.not_not.1 h21),h29,h14,if_neg (by decide),ui,decide_eq_true (show 0<had.round by omega),h50,if_pos (by decide)]
 exact⟨congrArg (λq:VoteT×Bool=>Value.bool q.2) e.symm,congrArg (λq:VoteT×Bool=>[ak vb (VoteT.cells q.1) 227]) e.symm⟩;refine D0 bc ?_;refine PD 0 ?_;refine PD 1 ?_;refine PD 2 ?_;refine FD 3 0 iX bf ?_;refine PD 5 ?_;refine PD 6 ?_;refine FD 7 14 iX aM ?_;refine cE [4,8] (by kernel_rfl) rfl (aE rfl ?_ ?_);refine LV 3 eF bf an ou (y:=v.view) ?_;refine EN (AL 8 ?_);refine LT 3 Y3 (.int .i64 ((hY .i64 v.vowed (cR who)))) ?_ (hc:=by exact kV _ rfl);refine EN (AL 9 ?_);refine CE va (iH v.view (hY .i64 v.vowed (cR who))) ID ?_;refine EN (PD 10 ?_);refine FD 11 16 iX kd ?_;refine AL 12 ?_;refine SS 3 kd (mG _) (ki _ rfl _) ?_;refine EN (DN ?_)
 exact aD
  SB
  (λ_ s=>s)
  (tl9 (():Unit) trivial)
 refine aE rfl ?_ ?_;refine LT 3 Y3 (.int .i64 ((hY .i64 v.vowed (cR who)))) ?_ (hc:=by exact kV _ rfl);refine EN (AL 4 ?_);refine LV 3 eF bf an ou (y:=v.view) ?_;refine EN (AL 9 ?_);refine CE va (iH v.view (hY .i64 v.vowed (cR who))) ID ?_;refine EN (PD 10 ?_);refine FD 11 16 iX kd ?_;refine AL 12 ?_;refine SS 3 kd (mG _) (ki _ rfl _) ?_;refine EN (DN ?_)
 exact aD
  SB
  (λ_ s=>s)
  (tl9 (():Unit) trivial)
 exact bA;refine EN (PD 10 ?_);refine DN (ac J8 (CN (qx J7 (aa λ_ J11=>eH (α:=Unit) (λ_=>True) (λ_u=>[(0,(.pointer (some ⟨vb,0,none⟩))),(10,(.bool false))]) (λ_u=>[ak b9 (ints ch.flat) 28,ak b8 (ints had.flat) 88,ak b7 (ints b.flat) 88,ak vb (VoteT.cells (VoteT.mk v.view v.ballot v.change v.best (hY .i64 v.vowed (cR who)) v.took (gi v.view (hY .i64 v.vowed (cR who))))) 227]) (λ_u _=>?_) (λtl11=>?_)))));refine ac J11 (sr λ_ J12=>P2 ?_);refine FA 16 iX kd ?_;refine LT 3 Y4 (.bool (gi v.view (hY .i64 v.vowed (cR who)))) ?_ (hc:=by exact ll _ rfl);refine PS ?_;refine nx J12 (ai (WK [3] (ap rfl rfl ?_)));have e:ey v who b had ch=((VoteT.mk v.view v.ballot v.change v.best (hY .i64 v.vowed (cR who)) v.took (gi v.view (hY .i64 v.vowed (cR who)))),gi v.view (hY .i64 v.vowed (cR who))):=by rw[ey,mI,decide_eq_true (show b.flat=v.ballot.flat from Decidable.not_not.1 h21),h29,h14,if_neg (by decide),ui,h50,lc,if_neg (by decide)]
 exact⟨congrArg (λq:VoteT×Bool=>Value.bool q.2) e.symm,congrArg (λq:VoteT×Bool=>[ak vb (VoteT.cells q.1) 227]) e.symm⟩;refine D0 bc ?_;refine PD 0 ?_;refine PD 1 ?_;refine PD 2 ?_;refine FD 3 0 iX bf ?_;refine PD 5 ?_;refine PD 6 ?_;refine FD 7 14 iX aM ?_;refine cE [4,8] (by kernel_rfl) rfl (aE rfl ?_ ?_);refine LV 3 eF bf an ou (y:=v.view) ?_;refine EN (AL 8 ?_);refine LT 3 Y3 (.int .i64 ((hY .i64 v.vowed (cR who)))) ?_ (hc:=by exact kV _ rfl);refine EN (AL 9 ?_);refine CE va (iH v.view (hY .i64 v.vowed (cR who))) ID ?_;refine EN (PD 10 ?_);refine FD 11 16 iX kd ?_;refine AL 12 ?_;refine SS 3 kd (mG _) (ki _ rfl _) ?_;refine EN (DN ?_)
 exact aD
  SB
  (λ_ s=>s)
  (tl11 (():Unit) trivial)
 refine aE rfl ?_ ?_;refine LT 3 Y3 (.int .i64 ((hY .i64 v.vowed (cR who)))) ?_ (hc:=by exact kV _ rfl);refine EN (AL 4 ?_);refine LV 3 eF bf an ou (y:=v.view) ?_;refine EN (AL 9 ?_);refine CE va (iH v.view (hY .i64 v.vowed (cR who))) ID ?_;refine EN (PD 10 ?_);refine FD 11 16 iX kd ?_;refine AL 12 ?_;refine SS 3 kd (mG _) (ki _ rfl _) ?_;refine EN (DN ?_)
 exact aD
  SB
  (λ_ s=>s)
  (tl11 (():Unit) trivial)
 exact bA;refine PD 3 ?_;refine NT 4 ?_;refine NT 5 ?_;refine NT 6 ?_;refine NT 7 ?_;refine NT 8 ?_;refine NT 9 ?_;refine PD 10 ?_;refine DN (ac J8 (CN (qx J7 (aa λ_ J13=>eH (α:=Unit) (λ_=>True) (λ_u=>[(0,(.pointer (some ⟨vb,0,none⟩))),(10,(.bool false))]) (λ_u=>[ak b9 (ints ch.flat) 28,ak b8 (ints had.flat) 88,ak b7 (ints b.flat) 88,ak vb (VoteT.cells (VoteT.mk v.view v.ballot v.change v.best (hY .i64 v.vowed (cR who)) v.took (gi v.view (hY .i64 v.vowed (cR who))))) 227]) (λ_u _=>?_) (λtl13=>?_)))));refine ac J13 (sr λ_ J14=>P2 ?_);refine FA 16 iX kd ?_;refine LT 3 Y4 (.bool (gi v.view (hY .i64 v.vowed (cR who)))) ?_ (hc:=by exact ll _ rfl);refine PS ?_;refine nx J14 (ai (WK [3] (ap rfl rfl ?_)));have e:ey v who b had ch=((VoteT.mk v.view v.ballot v.change v.best (hY .i64 v.vowed (cR who)) v.took (gi v.view (hY .i64 v.vowed (cR who)))),gi v.view (hY .i64 v.vowed (cR who))):=by rw[ey,mI,decide_eq_true (show b.flat=v.ballot.flat from Decidable.not_not.1 h21),h29,h14,if_neg (by decide),ui,decide_eq_false (show ¬0<had.round by omega),gk,if_neg (by decide)]
 exact⟨congrArg (λq:VoteT×Bool=>Value.bool q.2) e.symm,congrArg (λq:VoteT×Bool=>[ak vb (VoteT.cells q.1) 227]) e.symm⟩;refine D0 bc ?_;refine PD 0 ?_;refine PD 1 ?_;refine PD 2 ?_;refine FD 3 0 iX bf ?_;refine PD 5 ?_;refine PD 6 ?_;refine FD 7 14 iX aM ?_;refine cE [4,8] (by kernel_rfl) rfl (aE rfl ?_ ?_);refine LV 3 eF bf an ou (y:=v.view) ?_;refine EN (AL 8 ?_);refine LT 3 Y3 (.int .i64 ((hY .i64 v.vowed (cR who)))) ?_ (hc:=by exact kV _ rfl);refine EN (AL 9 ?_);refine CE va (iH v.view (hY .i64 v.vowed (cR who))) ID ?_;refine EN (PD 10 ?_);refine FD 11 16 iX kd ?_;refine AL 12 ?_;refine SS 3 kd (mG _) (ki _ rfl _) ?_;refine EN (DN ?_)
 exact aD
  SB
  (λ_ s=>s)
  (tl13 (():Unit) trivial)
 refine aE rfl ?_ ?_;refine LT 3 Y3 (.int .i64 ((hY .i64 v.vowed (cR who)))) ?_ (hc:=by exact kV _ rfl);refine EN (AL 4 ?_);refine LV 3 eF bf an ou (y:=v.view) ?_;refine EN (AL 9 ?_);refine CE va (iH v.view (hY .i64 v.vowed (cR who))) ID ?_;refine EN (PD 10 ?_);refine FD 11 16 iX kd ?_;refine AL 12 ?_;refine SS 3 kd (mG _) (ki _ rfl _) ?_;refine EN (DN ?_)
 exact aD
  SB
  (λ_ s=>s)
  (tl13 (():Unit) trivial)
 exact bA;refine EN (PD 19 ?_);refine PD 20 ?_;refine DN (ac J3 (CY (sr λ_ J15=>PS ?_)));refine nx J15 (ai (ad (WK [3] (ap rfl rfl ?_))));have e:ey v who b had ch=(v,false):=by rw[ey,mI,h29,if_pos (by rw[h14,lc];rfl)]
 exact⟨congrArg (λq:VoteT×Bool=>Value.bool q.2) e.symm,congrArg (λq:VoteT×Bool=>[ak vb (VoteT.cells q.1) 227]) e.symm⟩
theorem Bn(vb:Nat)(v:VoteT)(who:Int)(b:BallotT)(hb:WF b.flat)(hvb:WF v.ballot.flat):
 DT 173 #[(.pointer (some ⟨vb,0,none⟩)),(.int .i64 (who)),(.agg (ints b.flat).toArray)] T0 [ak vb (VoteT.cells v) 227] (RI (.bool (fV v who b).2) [ak vb (VoteT.cells (fV v who b).1) 227]):=by
 refine BD 47 Tryz.func173 rfl rfl rfl λw0 F hF=>sr λ_ J1=>XY (ints b.flat) λb5=>?_
 refine PS ?_;refine nx J1 (aa λ_ J2=>aa λ_ J3=>D2 1 0 bc ?_);refine PD 0 ?_;refine PD 1 ?_;refine FD 2 16 iX kd ?_;refine LR 3 Y4 (ll v rfl) ?_;refine qu ?_ ?_<;>intro h10;refine PD 4 ?_;refine PD 5 ?_;refine LY 6 jC cp am ?_;refine PD 7 ?_;refine PD 8 ?_;refine FD 9 7 iX cp ?_;refine tb 10 rfl (aJ (vs:=ints v.ballot.flat) rfl jC rfl cp rfl (λ_ h=>h.2.1) (am v.ballot) (HS v 0 rfl (by decide) (bj (am v.ballot)))) ?_;refine tb 11 rfl (we (a:=b.flat) (b:=v.ballot.flat) (m:=6) (c:=2) IH IF rfl I4 (c7 (am b)) (c7 (am v.ballot)) ⟨fo ER E3 (c7 (am b)),fo ER E3 (c7 (am v.ballot))⟩ hb hvb rfl rfl rfl) ?_;refine gX ?_ ?_<;>intro h18;refine PD 12 ?_;refine PD 13 ?_;refine NT 14 ?_;refine NT 15 ?_;refine NT 16 ?_;refine NT 17 ?_;refine NT 18 ?_;refine NT 19 ?_;refine NT 20 ?_;refine PD 21 ?_;refine DN (ac J3 (CY (sr λ_ J4=>PS ?_)));refine nx J4 (ai (ad (WK [1] (ap rfl rfl ?_))));have e:fV v who b=(v,false):=by rw[fV,mI,decide_eq_false h18,if_pos (by rw[h10];rfl)]
 exact⟨congrArg (λq:VoteT×Bool=>Value.bool q.2) e.symm,congrArg (λq:VoteT×Bool=>[ak vb (VoteT.cells q.1) 227]) e.symm⟩;refine PD 12 ?_;refine PD 13 ?_;refine PD 14 ?_;refine PD 15 ?_;refine FD 16 0 iX bf ?_;refine tb 17 rfl (aJ (vs:=ints v.view.flat) rfl eF rfl bf rfl (λ_ h=>h.2.1) (an v.view) (A0 v 0 rfl (by decide) (bj (an v.view)))) ?_;refine PD 18 ?_;refine AL 19 ?_;refine CE oT (dq v.view who) ID ?_;refine aX ?_ ?_<;>intro h26;have hw:0≤who∧who<5:=by unfold ij cD at h26;simp only[ax,decide_eq_true_eq]at h26;exact h26.1
 refine EN (PD 20 ?_);refine PD 21 ?_;refine DN (ac J3 (CN (qx J2 (aa λ_ J5=>D0 bc ?_))));refine PD 0 ?_;refine PD 1 ?_;refine FD 2 15 iX aM ?_;refine PD 4 ?_;refine ta 5 rfl (wV (r:=(cR who)) rfl rfl rfl (by omega) rfl) ?_;refine AL 3 ?_;refine LU 1 Y3 (VoteT.at_took v rfl) ?_;refine EN (ta 6 rfl (GR (r:=(hY .i64 v.took (cR who))) rfl rfl rfl rfl) ?_);refine PD 7 ?_;refine FD 8 15 iX aM ?_;refine AL 9 ?_;refine SS 1 aM (mG _) (VoteT.set_took v rfl _) ?_;refine EN (DN (ac J5 (aa λ_ J6=>D1 1 bc ?_)));refine PD 0 ?_;refine PD 1 ?_;refine FD 2 0 iX bf ?_;refine ta 3 rfl (aJ (vs:=ints v.view.flat) rfl eF rfl bf rfl (λ_ h=>h.2.1) (an v.view) (A0 (VoteT.mk v.view v.ballot v.change v.best v.vowed (hY .i64 v.took (cR who)) v.putting) 0 rfl (by decide) (bj (an v.view)))) ?_;refine PD 4 ?_;refine PD 5 ?_;refine FD 6 15 iX aM ?_;refine LX 7 Y3 (.int .i64 ((hY .i64 v.took (cR who)))) ?_ (hc:=by exact VoteT.at_took _ rfl);refine AL 8 ?_;refine CE va (iH v.view (hY .i64 v.took (cR who))) ID ?_;refine EN (PD 9 ?_);refine DN (ac J6 (ai (WK [1] (ap rfl rfl ?_))));have e:fV v who b=((VoteT.mk v.view v.ballot v.change v.best v.vowed (hY .i64 v.took (cR who)) v.putting),gi v.view (hY .i64 v.took (cR who))):=by rw[fV,mI,decide_eq_true (show b.flat=v.ballot.flat from Decidable.not_not.1 h18),h26,h10,if_neg (by decide)]
 exact⟨congrArg (λq:VoteT×Bool=>Value.bool q.2) e.symm,congrArg (λq:VoteT×Bool=>[ak vb (VoteT.cells q.1) 227]) e.symm⟩;refine EN (PD 20 ?_);refine PD 21 ?_;refine DN (ac J3 (CY (sr λ_ J7=>PS ?_)));refine nx J7 (ai (ad (WK [1] (ap rfl rfl ?_))));have e:fV v who b=(v,false):=by rw[fV,mI,h26,if_pos (by rw[h10,lc];rfl)]
 exact⟨congrArg (λq:VoteT×Bool=>Value.bool q.2) e.symm,congrArg (λq:VoteT×Bool=>[ak vb (VoteT.cells q.1) 227]) e.symm⟩;refine PD 4 ?_;refine PD 5 ?_;refine NT 6 ?_;refine NT 7 ?_;refine NT 8 ?_;refine NT 9 ?_;refine NT 10 ?_;refine NT 11 ?_;refine PD 12 ?_;refine PD 13 ?_;refine NT 14 ?_;refine NT 15 ?_;refine NT 16 ?_;refine NT 17 ?_;refine NT 18 ?_;refine NT 19 ?_;refine NT 20 ?_;refine PD 21 ?_;refine DN (ac J3 (CY (sr λ_ J8=>PS ?_)));refine nx J8 (ai (ad (WK [1] (ap rfl rfl ?_))));have e:fV v who b=(v,false):=by rw[fV,h10,if_pos (by rfl)]
 exact⟨congrArg (λq:VoteT×Bool=>Value.bool q.2) e.symm,congrArg (λq:VoteT×Bool=>[ak vb (VoteT.cells q.1) 227]) e.symm⟩
theorem yZ{δ:Type}(V:Env δ)(r vb:Nat)(s:MS δ)(vt:VoteT)(hv:s.vote=some vt)[OkR V.toDk s]:
 DT 174 #[(.pointer (some ⟨r,0,none⟩)),(.iface V.T V.ov)] T0 [tQ V r s (.pointer (some ⟨vb,0,none⟩)),ak vb (VoteT.cells vt) 227] (dG (λ_ H=>H=[cA V r (kC V.toDk s vt.change)])):=by
 refine BD 32 Tryz.func174 rfl rfl rfl λw0 F hF=>aa λ_ J1=>eH (α:=(Nat)) (λ_=>True) (λb4=>[(0,(.pointer (some ⟨r,0,none⟩))),(1,(.iface V.T V.ov)),(4,(.pointer (some ⟨b4,0,none⟩))),(5,(.int .i64 ((dx s.view vt.change).2)))]) (λb4=>[ak b4 (ints ((dx s.view vt.change).1).flat) 44,ak vb (VoteT.cells vt) 227,tQ V r s (.pointer (some ⟨vb,0,none⟩))]) (λb4 _=>?_) (λtl1=>?_)
 refine ac J1 (aa λ_ J2=>sr λ_ J3=>cn (H':=cA V r s::[ak b4 (ints ((dx s.view vt.change).1).flat) 44]) (λ_ q=>nc hv (aA [2,1] rfl q)) (P2 ?_));refine ao ?_ ?_<;>intro h20;refine PS ?_
 iterate 5 refine UT ?_
 refine PS ?_;refine nx J3 (CY (ai (ad (WK [0] (du rfl ?_)))));exact MQ (by rw[kC,if_pos h20]);refine P3 ?_;refine LW 1 eF bf an ?_;refine CE F1 (s6 V r s ((dx s.view vt.change).1)) ID ?_;refine aX ?_ ?_<;>intro h25;refine PS ?_;refine PS ?_;refine nx J3 (CN (qx J2 (ae (P2 ?_))));refine LW 1 eF bf an ?_;refine CZ Gb (lV V r (gN V.toDk s ((dx s.view vt.change).1)) ((dx s.view vt.change).1)) ID λvR=>?_
 refine au (WK [0] (bu rfl ?_));exact MQ (by rw[kC,if_neg h20,h25,if_pos rfl]);refine PS ?_;refine PS ?_;refine nx J3 (CY (ai (ad (WK [0] (du rfl ?_)))));exact MQ (by rw[kC,if_neg h20,h25,if_neg (by decide)]);refine D1 1 bc ?_;refine PD 0 ?_;refine PD 1 ?_;refine FD 2 2 bh bf ?_;refine PD 4 ?_;refine PD 5 ?_;refine FD 6 1067 bh ix ?_;refine cE [3,7,13] (by kernel_rfl) rfl (aE rfl ?_ ?_);refine LZ 0 eF bf an s.view ?_ (hc:=by exact λ_=>cT _);refine EN (cE [7,13] (by kernel_rfl) rfl (aE rfl ?_ ?_));refine LG 0 hZ (.pointer (some ⟨vb,0,none⟩)) ?_ (hc:=by exact λa_=>(bQ _ rfl));refine EN (cE [8,13] (by kernel_rfl) rfl (aE rfl ?_ ?_));refine CE na (cS vb vt) (SM [1]) ?_;refine EN (cE [9,13] (by kernel_rfl) rfl (aE rfl ?_ ?_));refine CE l6 (de s.view vt.change OkVw.rng) ID ?_;refine EN (PD 10 ?_);refine PD 11 ?_;refine PD 12 ?_;refine AL 13 ?_;refine XZ sK (ints ViewT.zero.flat) λb4=>?_
 refine EN (AL 14 ?_);refine SW 0 bf an ?_;refine EN (PD 15 ?_);refine DN ?_
 exact aD
  SB
  (λ_ s=>s)
  (tl1 ((b4):(Nat)) trivial)
 refine aE rfl ?_ ?_;refine XZ sK (ints ViewT.zero.flat) λb4=>?_
 refine EN (AL 9 ?_);refine CE l6 (de s.view vt.change OkVw.rng) ID ?_;refine EN (PD 10 ?_);refine PD 11 ?_;refine PD 12 ?_;refine AL 14 ?_;refine SW 0 bf an ?_;refine EN (PD 15 ?_);refine DN ?_
 exact aD
  SB
  (λ_ s=>s)
  (tl1 ((b4):(Nat)) trivial)
 exact bA;refine aE rfl ?_ ?_;refine XZ sK (ints ViewT.zero.flat) λb4=>?_
 refine EN (AL 8 ?_);refine CE na (cS vb vt) (SM [2]) ?_;refine EN (AL 9 ?_);refine CE l6 (de s.view vt.change OkVw.rng) ID ?_;refine EN (PD 10 ?_);refine PD 11 ?_;refine PD 12 ?_;refine AL 14 ?_;refine SW 1 bf an ?_;refine EN (PD 15 ?_);refine DN ?_
 exact aD
  SB
  (λ_ s=>aj [1,0,0] rfl s)
  (tl1 ((b4):(Nat)) trivial)
 exact bA;refine aE rfl ?_ ?_;refine XZ sK (ints ViewT.zero.flat) λb4=>?_
 refine EN (AL 7 ?_);refine LG 1 hZ (.pointer (some ⟨vb,0,none⟩)) ?_ (hc:=by exact λa_=>(bQ _ rfl));refine EN (AL 8 ?_);refine CE na (cS vb vt) (SM [2]) ?_;refine EN (AL 9 ?_);refine CE l6 (de s.view vt.change OkVw.rng) ID ?_;refine EN (PD 10 ?_);refine PD 11 ?_;refine PD 12 ?_;refine AL 14 ?_;refine SW 1 bf an ?_;refine EN (PD 15 ?_);refine DN ?_
 exact aD
  SB
  (λ_ s=>aj [1,0,0] rfl s)
  (tl1 ((b4):(Nat)) trivial)
 exact bA;refine aE rfl ?_ ?_;refine LG 0 hZ (.pointer (some ⟨vb,0,none⟩)) ?_ (hc:=by exact λa_=>(bQ _ rfl));refine EN (cE [3,8,13] (by kernel_rfl) rfl (aE rfl ?_ ?_));refine LZ 0 eF bf an s.view ?_ (hc:=by exact λ_=>cT _);refine EN (cE [8,13] (by kernel_rfl) rfl (aE rfl ?_ ?_));refine CE na (cS vb vt) (SM [1]) ?_;refine EN (cE [9,13] (by kernel_rfl) rfl (aE rfl ?_ ?_));refine CE l6 (de s.view vt.change OkVw.rng) ID ?_;refine EN (PD 10 ?_);refine PD 11 ?_;refine PD 12 ?_;refine AL 13 ?_;refine XZ sK (ints ViewT.zero.flat) λb4=>?_
 refine EN (AL 14 ?_);refine SW 0 bf an ?_;refine EN (PD 15 ?_);refine DN ?_
 exact aD
  SB
  (λ_ s=>s)
  (tl1 ((b4):(Nat)) trivial)
 refine aE rfl ?_ ?_;refine XZ sK (ints ViewT.zero.flat) λb4=>?_
 refine EN (AL 9 ?_);refine CE l6 (de s.view vt.change OkVw.rng) ID ?_;refine EN (PD 10 ?_);refine PD 11 ?_;refine PD 12 ?_;refine AL 14 ?_;refine SW 0 bf an ?_;refine EN (PD 15 ?_);refine DN ?_
 exact aD
  SB
  (λ_ s=>s)
  (tl1 ((b4):(Nat)) trivial)
 exact bA;refine aE rfl ?_ ?_;refine XZ sK (ints ViewT.zero.flat) λb4=>?_
 refine EN (AL 8 ?_);refine CE na (cS vb vt) (SM [2]) ?_;refine EN (AL 9 ?_);refine CE l6 (de s.view vt.change OkVw.rng) ID ?_;refine EN (PD 10 ?_);refine PD 11 ?_;refine PD 12 ?_;refine AL 14 ?_;refine SW 1 bf an ?_;refine EN (PD 15 ?_);refine DN ?_
 exact aD
  SB
  (λ_ s=>aj [1,0,0] rfl s)
  (tl1 ((b4):(Nat)) trivial)
 exact bA;refine aE rfl ?_ ?_;refine CE na (cS vb vt) (SM [1]) ?_;refine EN (cE [3,13] (by kernel_rfl) rfl (aE rfl ?_ ?_));refine LZ 1 eF bf an s.view ?_ (hc:=by exact λ_=>cT _);refine EN (cE [9,13] (by kernel_rfl) rfl (aE rfl ?_ ?_));refine CE l6 (de s.view vt.change OkVw.rng) ID ?_;refine EN (PD 10 ?_);refine PD 11 ?_;refine PD 12 ?_;refine AL 13 ?_;refine XZ sK (ints ViewT.zero.flat) λb4=>?_
 refine EN (AL 14 ?_);refine SW 0 bf an ?_;refine EN (PD 15 ?_);refine DN ?_
 exact aD
  SB
  (λ_ s=>s)
  (tl1 ((b4):(Nat)) trivial)
 refine aE rfl ?_ ?_;refine XZ sK (ints ViewT.zero.flat) λb4=>?_
 refine EN (AL 9 ?_);refine CE l6 (de s.view vt.change OkVw.rng) ID ?_;refine EN (PD 10 ?_);refine PD 11 ?_;refine PD 12 ?_;refine AL 14 ?_;refine SW 0 bf an ?_;refine EN (PD 15 ?_);refine DN ?_
 exact aD
  SB
  (λ_ s=>s)
  (tl1 ((b4):(Nat)) trivial)
 exact bA;refine aE rfl ?_ ?_;refine XZ sK (ints ViewT.zero.flat) λb4=>?_
 refine EN (AL 3 ?_);refine LZ 2 eF bf an s.view ?_ (hc:=by exact λ_=>cT _);refine EN (AL 9 ?_);refine CE l6 (de s.view vt.change OkVw.rng) ID ?_;refine EN (PD 10 ?_);refine PD 11 ?_;refine PD 12 ?_;refine AL 14 ?_;refine SW 0 bf an ?_;refine EN (PD 15 ?_);refine DN ?_
 exact aD
  SB
  (λ_ s=>s)
  (tl1 ((b4):(Nat)) trivial)
 exact bA;refine aE rfl ?_ ?_;refine XZ sK (ints ViewT.zero.flat) λb4=>?_
 refine EN (cE [3,8] (by kernel_rfl) rfl (aE rfl ?_ ?_));refine LZ 1 eF bf an s.view ?_ (hc:=by exact λ_=>cT _);refine EN (AL 8 ?_);refine CE na (cS vb vt) (SM [2]) ?_;refine EN (AL 9 ?_);refine CE l6 (de s.view vt.change OkVw.rng) ID ?_;refine EN (PD 10 ?_);refine PD 11 ?_;refine PD 12 ?_;refine AL 14 ?_;refine SW 1 bf an ?_;refine EN (PD 15 ?_);refine DN ?_
 exact aD
  SB
  (λ_ s=>aj [1,0,0] rfl s)
  (tl1 ((b4):(Nat)) trivial)
 refine aE rfl ?_ ?_;refine CE na (cS vb vt) (SM [2]) ?_;refine EN (AL 3 ?_);refine LZ 2 eF bf an s.view ?_ (hc:=by exact λ_=>cT _);refine EN (AL 9 ?_);refine CE l6 (de s.view vt.change OkVw.rng) ID ?_;refine EN (PD 10 ?_);refine PD 11 ?_;refine PD 12 ?_;refine AL 14 ?_;refine SW 1 bf an ?_;refine EN (PD 15 ?_);refine DN ?_
 exact aD
  SB
  (λ_ s=>aj [1,0,0] rfl s)
  (tl1 ((b4):(Nat)) trivial)
 exact bA;exact bA;refine aE rfl ?_ ?_;refine XZ sK (ints ViewT.zero.flat) λb4=>?_
 refine EN (cE [3,7] (by kernel_rfl) rfl (aE rfl ?_ ?_));refine LZ 1 eF bf an s.view ?_ (hc:=by exact λ_=>cT _);refine EN (AL 7 ?_);refine LG 1 hZ (.pointer (some ⟨vb,0,none⟩)) ?_ (hc:=by exact λa_=>(bQ _ rfl));refine EN (AL 8 ?_);refine CE na (cS vb vt) (SM [2]) ?_;refine EN (AL 9 ?_);refine CE l6 (de s.view vt.change OkVw.rng) ID ?_;refine EN (PD 10 ?_);refine PD 11 ?_;refine PD 12 ?_;refine AL 14 ?_;refine SW 1 bf an ?_;refine EN (PD 15 ?_);refine DN ?_
 exact aD
  SB
  (λ_ s=>aj [1,0,0] rfl s)
  (tl1 ((b4):(Nat)) trivial)
 refine aE rfl ?_ ?_;refine LG 1 hZ (.pointer (some ⟨vb,0,none⟩)) ?_ (hc:=by exact λa_=>(bQ _ rfl));refine EN (cE [3,8] (by kernel_rfl) rfl (aE rfl ?_ ?_));refine LZ 1 eF bf an s.view ?_ (hc:=by exact λ_=>cT _);refine EN (AL 8 ?_);refine CE na (cS vb vt) (SM [2]) ?_;refine EN (AL 9 ?_);refine CE l6 (de s.view vt.change OkVw.rng) ID ?_;refine EN (PD 10 ?_);refine PD 11 ?_;refine PD 12 ?_;refine AL 14 ?_;refine SW 1 bf an ?_;refine EN (PD 15 ?_);refine DN ?_
 exact aD
  SB
  (λ_ s=>aj [1,0,0] rfl s)
  (tl1 ((b4):(Nat)) trivial)
 refine aE rfl ?_ ?_;refine CE na (cS vb vt) (SM [2]) ?_;refine EN (AL 3 ?_);refine LZ 2 eF bf an s.view ?_ (hc:=by exact λ_=>cT _);refine EN (AL 9 ?_);refine CE l6 (de s.view vt.change OkVw.rng) ID ?_;refine EN (PD 10 ?_);refine PD 11 ?_;refine PD 12 ?_;refine AL 14 ?_;refine SW 1 bf an ?_;refine EN (PD 15 ?_);refine DN ?_
 exact aD
  SB
  (λ_ s=>aj [1,0,0] rfl s)
  (tl1 ((b4):(Nat)) trivial)
 exact bA;exact bA;exact bA
theorem yY{δ:Type}(V:Env δ)(r:Nat)(s:MS δ)(vt:VoteT)(hv:s.vote=some vt)[OkR V.toDk s]:DT 174 #[.pointer (some ⟨r,0,none⟩), .iface V.T V.ov] T0 [cA V r s] (dG (λ_ H=>H=[cA V r (kC V.toDk s vt.change)])):=
 Leg.Does.ex (λ_ q=>l7 hv q) λvb=>yZ V r vb s vt hv
theorem nd{δ:Type}{V:Env δ}{r:Nat}{s:MS δ}{H:List HP}{h:Hl}(hv:s.vote=none)(q:bI (tQ V r s (.pointer none)::H) h):bI (cA V r s::H) h:=by
 have q2:=Ai q
 rwa [show({s with vote:=none}:MS δ)=s by cases s;simp_all]at q2
theorem jU{δ:Type}(V:Env δ)(r:Nat)(s:MS δ)(f:MS δ→MS δ)(from':Int)(m:MsgT)[OkR V.toDk s][OkMg m](hfe:from'=s.id→m.epoch=s.view.epoch)(h3:m.kind=3→m.epoch=s.view.epoch→TK V r 170 (da s (max s.round m.ballot.round)) from' m (f (da s (max s.round m.ballot.round))))(h5:m.kind=5→m.epoch=s.view.epoch→TK V r 171 (da s (max s.round m.ballot.round)) from' m (f (da s (max s.round m.ballot.round))))(hn:m.kind≠3∧m.kind≠5→f (da s (max s.round m.ballot.round))=(da s (max s.round m.ballot.round)))(hv:m.kind=4∨m.kind=6→s.vote=none):
 DT 148 #[(.pointer (some ⟨r,0,none⟩)),(.iface V.T V.ov),(.int .i64 (from')),(.agg (ints m.flat).toArray)] T0 [cA V r s] (dG (λ_ H=>H=[cA V r (ez V.toDk f s from' m)])):=by
 refine BD 124 Tryz.func148 rfl rfl rfl λw0 F hF=>sr λ_ J1=>XY (ints m.flat) λb7=>?_
 refine nx J1 (aa λ_ J2=>aa λ_ J3=>DC bc (BL 0) (cK 1 rfl rfl) ?_);refine FD 0 177 aY aM ?_;refine LR 1 Y3 (el m rfl) ?_;refine PD 2 ?_;refine PD 3 ?_;refine FD 4 2 bh bf ?_;refine FD 5 2 eF aM ?_;refine ta 6 rfl (cX (v:=(.int .i64 (s.view.epoch))) rfl Y3 rfl rfl (λ_ h=>h.2.2.1) (λa_=>(ca (s.rep a_) 0 rfl (by decide) (be _ rfl)))) ?_;refine PD 7 ?_;refine gX ?_ ?_<;>intro h15;refine DN (ac J3 (CY (aa λ_ J4=>sr λ_ J5=>FA 0 aY aM ?_)));refine LU 0 Y3 (eB m rfl) ?_;refine PS ?_;refine ao ?_ ?_<;>intro h18;refine PS ?_
 iterate 3 refine UT ?_
 refine PS ?_;refine nx J5 (CY (ae ?_))
 iterate 5 refine PS ?_
 refine FA 2 bh bf ?_;refine LZ 1 eF bf an s.view ?_ (hc:=by exact λ_=>cT _);refine tp (kq MsgT.zero (MsgT.mk 7 0 RowT.zero 0 0 BallotT.zero BallotT.zero ChangeT.zero s.view) [(0,[Value.int .i64 7]),(8,ints s.view.flat)] aY bk (g:=MsgT.sg)) ?_;refine CZ iB (iT V r s from' (jx s.view) (λe=>absurd (hfe e) (by omega))) (SM [1]) λvR=>?_
 refine nx J4 (ai (ad (WK [0] (du rfl ?_))));exact congrArg (λq=>[cA V r q]) (show(ii V.toDk s ([SaidT.mk from' (jx s.view)]))=ez V.toDk f s from' m by rw[ez,if_pos h15,if_pos (.inl h18)];rfl);refine PS ?_;refine FA 0 aY aM ?_;refine LU 0 Y3 (eB m rfl) ?_;refine PS ?_;refine ao ?_ ?_<;>intro h22;refine PS ?_;refine nx J5 (CY (ae ?_))
 iterate 5 refine PS ?_
 refine FA 2 bh bf ?_;refine LZ 1 eF bf an s.view ?_ (hc:=by exact λ_=>cT _);refine tp (kq MsgT.zero (MsgT.mk 7 0 RowT.zero 0 0 BallotT.zero BallotT.zero ChangeT.zero s.view) [(0,[Value.int .i64 7]),(8,ints s.view.flat)] aY bk (g:=MsgT.sg)) ?_;refine CZ iB (iT V r s from' (jx s.view) (λe=>absurd (hfe e) (by omega))) (SM [1]) λvR=>?_
 refine nx J4 (ai (ad (WK [0] (du rfl ?_))));exact congrArg (λq=>[cA V r q]) (show(ii V.toDk s ([SaidT.mk from' (jx s.view)]))=ez V.toDk f s from' m by rw[ez,if_pos h15,if_pos (.inr h22)];rfl);refine PS ?_;refine nx J5 (CN (qx J4 (ai (ad (WK [1] (du rfl ?_))))));exact congrArg (λq=>[cA V r q]) (show s=ez V.toDk f s from' m by rw[ez,if_pos h15,if_neg (by omega)]);refine DN (ac J3 (CN (qx J2 (aa λ_ J6=>aa λ_ J7=>DC bc (BL 0) (cK 1 rfl rfl) ?_))));refine FD 0 177 aY aM ?_;refine LR 1 Y3 (el m rfl) ?_;refine PD 2 ?_;refine PD 3 ?_;refine FD 4 2 bh bf ?_;refine FD 5 2 eF aM ?_;refine ta 6 rfl (cX (v:=(.int .i64 (s.view.epoch))) rfl Y3 rfl rfl (λ_ h=>h.2.2.1) (λa_=>(ca (s.rep a_) 0 rfl (by decide) (be _ rfl)))) ?_;refine PD 7 ?_;refine gX ?_ ?_<;>intro h40;refine PD 8 ?_;refine NT 9 ?_;refine NT 10 ?_;refine NT 11 ?_;refine NT 12 ?_;refine NT 13 ?_;refine NT 14 ?_;refine NT 15 ?_;refine NT 16 ?_;refine NT 17 ?_;refine NT 18 ?_;refine PD 19 ?_;refine DN (ac J7 (CY (ai (ad (WK [1] (du rfl ?_))))));exact congrArg (λq=>[cA V r q]) (show s=ez V.toDk f s from' m by rw[ez,if_neg h15,if_pos (.inl (by omega))]);refine PD 8 ?_;refine PD 9 ?_;refine PD 10 ?_;refine FD 11 2 bh bf ?_;refine tb 12 rfl (fz (vs:=ints s.view.flat) rfl eF rfl bf rfl (λ_ h=>h.2.2.1) (an s.view) (λa_=>(fw (s.rep a_) 0 rfl (by decide) (bj (an ((s.rep a_).view)))))) ?_;refine PD 13 ?_;refine PD 14 ?_;refine FD 15 0 bh aM ?_
 refine tb 16 rfl (cX (v:=(.int .i64 (s.id))) rfl Y3 rfl rfl (λ_ h=>h.2.2.1) (λa_=>(cv _ rfl))) ?_;refine AL 17 ?_;refine CE oT (dq s.view s.id) ID ?_;refine aX ?_ ?_<;>intro h50;refine EN (PD 18 ?_);refine PD 19 ?_;refine DN (ac J7 (CN (qx J6 (aa λ_ J8=>D1 0 bc ?_))));refine PD 0 ?_;refine PD 1 ?_;refine PD 2 ?_;refine FD 3 1066 bh aM ?_;refine FD 5 178 aY cp ?_;refine FD 6 178 jC aM ?_;refine LX 7 Y3 (.int .i64 (m.ballot.round)) ?_ (hc:=by exact MsgT.pt_ballot m 0 rfl (by decide) (eQ m.ballot rfl));refine AL 4 ?_;refine LG 1 Y3 (.int .i64 (s.round)) ?_ (hc:=by exact λa_=>(tG _ rfl));refine EN (ta 8 rfl (wX rfl rfl rfl) ?_);refine PD 9 ?_;refine FD 10 1066 bh aM ?_;refine AL 11 ?_;refine SK 1 aM (λ_=>cJ _) ?_ (hc:=by exact λa_=>(kY _ rfl _));refine EN (DN (ac J8 (sr λ_ J9=>FA 0 aY aM ?_)));refine LU 0 Y3 (eB m rfl) ?_;refine nx J9 (aq (sr λ_ J10=>PS ?_));refine ao ?_ ?_<;>intro h67;refine PS ?_;refine nx J10 (CY (ae (P3 ?_)));refine LW 0 aY bW aG ?_;refine CZ Kl ((h3 (by omega) (by omega))) (SM [1]) λvR=>?_
 refine au (ag (WK [0] (bu rfl ?_)));exact congrArg (λq=>[cA V r q]) (show(f (da s (max s.round m.ballot.round)))=ez V.toDk f s from' m by rw[ez,if_neg h15,if_neg (λh=>h.elim (λh=>absurd h (by omega)) (λh=>by rw[h50]at h;cases h))]);refine PS ?_;refine nx J10 (CN (sr λ_ J11=>PS ?_));refine ao ?_ ?_<;>intro h74;refine PS ?_;refine nx J11 (CY (ae (P3 ?_)));refine LW 0 aY bW aG ?_;refine CZ Kk ((h5 (by omega) (by omega))) (SM [1]) λvR=>?_
 refine au (ag (WK [0] (bu rfl ?_)));exact congrArg (λq=>[cA V r q]) (show(f (da s (max s.round m.ballot.round)))=ez V.toDk f s from' m by rw[ez,if_neg h15,if_neg (λh=>h.elim (λh=>absurd h (by omega)) (λh=>by rw[h50]at h;cases h))]);refine PS ?_;refine nx J11 (CN (sr λ_ J12=>PS ?_));refine ao ?_ ?_<;>intro h81;refine cn (H':=tQ V r (da s (max s.round m.ballot.round)) (.pointer none)::[ak b7 (ints m.flat) 178]) (λ_ q=>rj (hv (by omega)) (aA [1] rfl q)) (PS ?_);refine nx J12 (CY (aa λ_ J13=>DC bc (cK 0 rfl rfl) (BL 1) ?_));refine PD 0 ?_;refine PD 1 ?_;refine FD 2 1067 bh ix ?_;refine ta 3 rfl (cX (v:=(.pointer none)) rfl hZ rfl rfl (λ_ h=>h.2.1) (λa_=>(bQ _ rfl))) ?_;refine ta 4 rfl (iq rfl hZ rfl rfl) ?_;refine PD 5 ?_;refine NT 6 ?_;refine NT 7 ?_;refine NT 8 ?_;refine NT 9 ?_;refine NT 10 ?_;refine NT 11 ?_;refine NT 12 ?_;refine NT 13 ?_;refine NT 14 ?_;refine NT 15 ?_;refine NT 16 ?_;refine NT 17 ?_;refine PD 18 ?_;refine DN (ac J13 (CN (aS (ag (aD (H':=[cA V r (da s (max s.round m.ballot.round))]) (dK _) (λ_ q=>nd (hv (by omega)) (aj [0] rfl q)) (bu rfl ?_))))));exact congrArg (λq=>[cA V r q]) (show(da s (max s.round m.ballot.round))=ez V.toDk f s from' m by rw[ez,if_neg h15,if_neg (λh=>h.elim (λh=>absurd h (by omega)) (λh=>by rw[h50]at h;cases h)),hn (by omega)]);refine PS ?_;refine nx J12 (CN (sr λ_ J14=>PS ?_));refine ao ?_ ?_<;>intro h105
 refine cn (H':=tQ V r (da s (max s.round m.ballot.round)) (.pointer none)::[ak b7 (ints m.flat) 178]) (λ_ q=>rj (hv (by omega)) (aA [1] rfl q)) (PS ?_);refine nx J14 (CY (aa λ_ J15=>DC bc (cK 0 rfl rfl) (BL 1) ?_));refine PD 0 ?_;refine PD 1 ?_;refine FD 2 1067 bh ix ?_;refine ta 3 rfl (cX (v:=(.pointer none)) rfl hZ rfl rfl (λ_ h=>h.2.1) (λa_=>(bQ _ rfl))) ?_;refine ta 4 rfl (iq rfl hZ rfl rfl) ?_;refine PD 5 ?_;refine NT 6 ?_;refine NT 7 ?_;refine NT 8 ?_;refine NT 9 ?_;refine NT 10 ?_;refine NT 11 ?_;refine NT 12 ?_;refine NT 13 ?_;refine PD 14 ?_;refine DN (ac J15 (CN (aS (ag (aD (H':=[cA V r (da s (max s.round m.ballot.round))]) (dK _) (λ_ q=>nd (hv (by omega)) (aj [0] rfl q)) (bu rfl ?_))))));exact congrArg (λq=>[cA V r q]) (show(da s (max s.round m.ballot.round))=ez V.toDk f s from' m by rw[ez,if_neg h15,if_neg (λh=>h.elim (λh=>absurd h (by omega)) (λh=>by rw[h50]at h;cases h)),hn (by omega)]);refine PS ?_;refine nx J14 (CN (aS (ag (WK [1] (bu rfl ?_)))));exact congrArg (λq=>[cA V r q]) (show(da s (max s.round m.ballot.round))=ez V.toDk f s from' m by rw[ez,if_neg h15,if_neg (λh=>h.elim (λh=>absurd h (by omega)) (λh=>by rw[h50]at h;cases h)),hn (by omega)]);refine EN (PD 18 ?_);refine PD 19 ?_;refine DN (ac J7 (CY (ai (ad (WK [1] (du rfl ?_))))));exact congrArg (λq=>[cA V r q]) (show s=ez V.toDk f s from' m by rw[ez,if_neg h15,if_pos (.inr h50)])
theorem ye(v:VoteT)(w:Int)(b:BallotT):(fV v w b).1.change=v.change:=by unfold fV;split<;>rfl
theorem oF{δ:Type}(V:Env δ)(r:Nat)(s:MS δ)(vt:VoteT)(from':Int)(m:MsgT)[OkR V.toDk s][OkMg m](hfe:from'=s.id→m.epoch=s.view.epoch)(hk:m.kind=4∨m.kind=6)(hv:s.vote=some vt)(hp:m.kind=4→(ey vt from' m.ballot m.had m.change).2=true→DT 113 #[.pointer (some ⟨r,0,none⟩), .iface V.T V.ov] T0 [cA V r (kE (da s (max s.round m.ballot.round)) (ey vt from' m.ballot m.had m.change).1)] (dG (λ_ H=>H=[cA V r (j5 V.toDk (kE (da s (max s.round m.ballot.round)) (ey vt from' m.ballot m.had m.change).1) (ey vt from' m.ballot m.had m.change).1)]))):
    DT 148 #[(.pointer (some ⟨r,0,none⟩)),(.iface V.T V.ov),(.int .i64 (from')),(.agg (ints m.flat).toArray)] T0 [cA V r s] (dG (λ_ H=>H=[cA V r (ez V.toDk (λs_=>if m.kind=4 then oB V.toDk from' m s_ else kG V.toDk from' m s_) s from' m)])):=by
 refine BD 124 Tryz.func148 rfl rfl rfl λw0 F hF=>?_
 have hov:OkVt vt:=OkR.vote vt hv;refine sr λ_ J1=>XY (ints m.flat) λb7=>?_
 refine nx J1 (aa λ_ J2=>aa λ_ J3=>DC bc (BL 0) (cK 1 rfl rfl) ?_);refine FD 0 177 aY aM ?_;refine LR 1 Y3 (el m rfl) ?_;refine PD 2 ?_;refine PD 3 ?_;refine FD 4 2 bh bf ?_;refine FD 5 2 eF aM ?_;refine ta 6 rfl (cX (v:=(.int .i64 (s.view.epoch))) rfl Y3 rfl rfl (λ_ h=>h.2.2.1) (λa_=>(ca (s.rep a_) 0 rfl (by decide) (be _ rfl)))) ?_;refine PD 7 ?_;refine gX ?_ ?_<;>intro h15;refine DN (ac J3 (CY (aa λ_ J4=>sr λ_ J5=>FA 0 aY aM ?_)));refine LU 0 Y3 (eB m rfl) ?_;refine PS ?_;refine ao ?_ ?_<;>intro h18;refine PS ?_
 iterate 3 refine UT ?_
 refine PS ?_;refine nx J5 (CY (ae ?_))
 iterate 5 refine PS ?_
 refine FA 2 bh bf ?_;refine LZ 1 eF bf an s.view ?_ (hc:=by exact λ_=>cT _);refine tp (kq MsgT.zero (MsgT.mk 7 0 RowT.zero 0 0 BallotT.zero BallotT.zero ChangeT.zero s.view) [(0,[Value.int .i64 7]),(8,ints s.view.flat)] aY bk (g:=MsgT.sg)) ?_;refine CZ iB (iT V r s from' (jx s.view) (λe=>absurd (hfe e) (by omega))) (SM [1]) λvR=>?_
 refine nx J4 (ai (ad (WK [0] (du rfl ?_))));exact MQ (by rw[ez,if_pos h15,if_pos (.inl h18)];rfl);refine PS ?_;refine FA 0 aY aM ?_;refine LU 0 Y3 (eB m rfl) ?_;refine PS ?_;refine ao ?_ ?_<;>intro h22;refine PS ?_;refine nx J5 (CY (ae ?_))
 iterate 5 refine PS ?_
 refine FA 2 bh bf ?_;refine LZ 1 eF bf an s.view ?_ (hc:=by exact λ_=>cT _);refine tp (kq MsgT.zero (MsgT.mk 7 0 RowT.zero 0 0 BallotT.zero BallotT.zero ChangeT.zero s.view) [(0,[Value.int .i64 7]),(8,ints s.view.flat)] aY bk (g:=MsgT.sg)) ?_;refine CZ iB (iT V r s from' (jx s.view) (λe=>absurd (hfe e) (by omega))) (SM [1]) λvR=>?_
 refine nx J4 (ai (ad (WK [0] (du rfl ?_))));exact MQ (by rw[ez,if_pos h15,if_pos (.inr h22)];rfl);refine PS ?_;refine nx J5 (CN (qx J4 (ai (ad (WK [1] (du rfl ?_))))));exact MQ (by rw[ez,if_pos h15,if_neg (by omega)]);refine DN (ac J3 (CN (qx J2 (aa λ_ J6=>aa λ_ J7=>DC bc (BL 0) (cK 1 rfl rfl) ?_))));refine FD 0 177 aY aM ?_;refine LR 1 Y3 (el m rfl) ?_;refine PD 2 ?_;refine PD 3 ?_;refine FD 4 2 bh bf ?_;refine FD 5 2 eF aM ?_;refine ta 6 rfl (cX (v:=(.int .i64 (s.view.epoch))) rfl Y3 rfl rfl (λ_ h=>h.2.2.1) (λa_=>(ca (s.rep a_) 0 rfl (by decide) (be _ rfl)))) ?_;refine PD 7 ?_;refine gX ?_ ?_<;>intro h40;refine PD 8 ?_;refine NT 9 ?_;refine NT 10 ?_;refine NT 11 ?_;refine NT 12 ?_;refine NT 13 ?_;refine NT 14 ?_;refine NT 15 ?_;refine NT 16 ?_;refine NT 17 ?_;refine NT 18 ?_;refine PD 19 ?_;refine DN (ac J7 (CY (ai (ad (WK [1] (du rfl ?_))))));exact MQ (by rw[ez,if_neg h15,if_pos (.inl (by omega))]);refine PD 8 ?_;refine PD 9 ?_;refine PD 10 ?_;refine FD 11 2 bh bf ?_;refine tb 12 rfl (fz (vs:=ints s.view.flat) rfl eF rfl bf rfl (λ_ h=>h.2.2.1) (an s.view) (λa_=>(fw (s.rep a_) 0 rfl (by decide) (bj (an ((s.rep a_).view)))))) ?_;refine PD 13 ?_;refine PD 14 ?_;refine FD 15 0 bh aM ?_;refine tb 16 rfl (cX (v:=(.int .i64 (s.id))) rfl Y3 rfl rfl (λ_ h=>h.2.2.1) (λa_=>(cv _ rfl))) ?_;refine AL 17 ?_;refine CE oT (dq s.view s.id) ID ?_;refine aX ?_ ?_<;>intro h50;refine EN (PD 18 ?_);refine PD 19 ?_
 refine DN (ac J7 (CN (qx J6 (aa λ_ J8=>D1 0 bc ?_))));refine PD 0 ?_;refine PD 1 ?_;refine PD 2 ?_;refine FD 3 1066 bh aM ?_;refine FD 5 178 aY cp ?_;refine FD 6 178 jC aM ?_;refine LX 7 Y3 (.int .i64 (m.ballot.round)) ?_ (hc:=by exact MsgT.pt_ballot m 0 rfl (by decide) (eQ m.ballot rfl));refine AL 4 ?_;refine LG 1 Y3 (.int .i64 (s.round)) ?_ (hc:=by exact λa_=>(tG _ rfl));refine EN (ta 8 rfl (wX rfl rfl rfl) ?_);refine PD 9 ?_;refine FD 10 1066 bh aM ?_;refine AL 11 ?_;refine SK 1 aM (λ_=>cJ _) ?_ (hc:=by exact λa_=>(kY _ rfl _));refine EN (DN (ac J8 (sr λ_ J9=>FA 0 aY aM ?_)));refine LU 0 Y3 (eB m rfl) ?_;refine nx J9 (aq (sr λ_ J10=>PS ?_));refine ao ?_ ?_<;>intro h67
 · exact absurd h67 (by omega)
 refine PS ?_;refine nx J10 (CN (sr λ_ J11=>PS ?_));refine ao ?_ ?_<;>intro h74
 · exact absurd h74 (by omega)
 refine PS ?_;refine nx J11 (CN (sr λ_ J12=>PS ?_));refine ao ?_ ?_<;>intro h81;refine KW (H':=λvb:Nat=>tQ V r (da s (max s.round m.ballot.round)) (.pointer (some ⟨vb,0,none⟩))::ak vb (VoteT.cells vt) 227::[ak b7 (ints m.flat) 178]) (λ_ q=>l7 (s:=(da s (max s.round m.ballot.round))) hv (aA [1] rfl q)) (λvb=>PS ?_);refine nx J12 (CY (aa λ_ J13=>D1 2 bc ?_));refine PD 0 ?_;refine PD 1 ?_;refine FD 2 1067 bh ix ?_;refine AL 3 ?_;refine LG 0 hZ (.pointer (some ⟨vb,0,none⟩)) ?_ (hc:=by exact λa_=>(bQ _ rfl));refine EN (ta 4 rfl (iM rfl hZ rfl rfl) ?_);refine PD 5 ?_;refine PD 6 ?_;refine PD 7 ?_;refine FD 8 1067 bh ix ?_;refine PD 10 ?_;refine FD 11 178 aY cp ?_;refine tb 12 rfl (aJ (vs:=ints m.ballot.flat) rfl jC rfl cp rfl (λ_ h=>h.2.1) (am m.ballot) (ir m 0 rfl (by decide) (bj (am m.ballot)))) ?_;refine FD 13 180 aY cp ?_;refine tb 14 rfl (aJ (vs:=ints m.had.flat) rfl jC rfl cp rfl (λ_ h=>h.2.1) (am m.had) (Mt m 0 rfl (by decide) (bj (am m.had)))) ?_;refine FD 15 182 aY e9 ?_;refine tb 16 rfl (aJ (vs:=ints m.change.flat) rfl mj rfl e9 rfl (λ_ h=>h.2.1) (aI m.change) (mq m 0 rfl (by decide) (bj (aI m.change)))) ?_;refine AL 9 ?_;refine LG 0 hZ (.pointer (some ⟨vb,0,none⟩)) ?_ (hc:=by exact λa_=>(bQ _ rfl));refine EN (AL 17 ?_);refine CE Kj (Bf vb vt from' m.ballot m.had m.change (OkMg.ballot) hov.ballot) (SM [1]) ?_;refine aX ?_ ?_<;>intro h99;refine EN (PD 18 ?_)
 refine DN (ac J13 (CY (ae (cn (H':=cA V r (kE (da s (max s.round m.ballot.round)) ((ey vt from' m.ballot m.had m.change).1))::[ak b7 (ints m.flat) 178]) (λ_ q=>nb (aA [1,0] rfl q)) (P2 ?_)))));refine CZ C6 ((hp (by omega) h99)) ID λvR=>?_
 refine au (ag (WK [0] (bu rfl ?_)))
 exact congrArg (λq=>[cA V r q]) (show _=ez V.toDk (λs_=>if m.kind=4 then oB V.toDk from' m s_ else kG V.toDk from' m s_) s from' m by
                              rw[ez,if_neg h15,if_neg (λh=>h.elim (λh=>absurd h (by omega)) (λh=>by rw[h50]at h;cases h)),if_pos (by omega),oB];simp only[show(da s (max s.round m.ballot.round)).vote=some vt from hv]
                              rw[if_pos h99])
 refine EN (PD 18 ?_);refine DN (ac J13 (CN (aS (ag (aD (H':=[cA V r (kE (da s (max s.round m.ballot.round)) (ey vt from' m.ballot m.had m.change).1)]) (dK _) (λ_ q=>nb (aj [1,0] rfl q)) (bu rfl ?_))))))
 exact congrArg (λq=>[cA V r q]) (show(kE (da s (max s.round m.ballot.round)) (ey vt from' m.ballot m.had m.change).1)=ez V.toDk (λs_=>if m.kind=4 then oB V.toDk from' m s_ else kG V.toDk from' m s_) s from' m by
                              rw[ez,if_neg h15,if_neg (λh=>h.elim (λh=>absurd h (by omega)) (λh=>by rw[h50]at h;cases h)),if_pos (by omega),oB];simp only[show(da s (max s.round m.ballot.round)).vote=some vt from hv]
                              rw[if_neg (by rw[h99];decide)])
 refine PS ?_;refine nx J12 (CN (sr λ_ J14=>PS ?_));refine ao ?_ ?_<;>intro h105;refine KW (H':=λvb:Nat=>tQ V r (da s (max s.round m.ballot.round)) (.pointer (some ⟨vb,0,none⟩))::ak vb (VoteT.cells vt) 227::[ak b7 (ints m.flat) 178]) (λ_ q=>l7 (s:=(da s (max s.round m.ballot.round))) hv (aA [1] rfl q)) (λvb=>PS ?_);refine nx J14 (CY (aa λ_ J15=>D1 2 bc ?_));refine PD 0 ?_;refine PD 1 ?_;refine FD 2 1067 bh ix ?_;refine AL 3 ?_;refine LG 0 hZ (.pointer (some ⟨vb,0,none⟩)) ?_ (hc:=by exact λa_=>(bQ _ rfl));refine EN (ta 4 rfl (iM rfl hZ rfl rfl) ?_);refine PD 5 ?_;refine PD 6 ?_;refine PD 7 ?_;refine FD 8 1067 bh ix ?_;refine PD 10 ?_;refine FD 11 178 aY cp ?_;refine tb 12 rfl (aJ (vs:=ints m.ballot.flat) rfl jC rfl cp rfl (λ_ h=>h.2.1) (am m.ballot) (ir m 0 rfl (by decide) (bj (am m.ballot)))) ?_;refine AL 9 ?_;refine LG 0 hZ (.pointer (some ⟨vb,0,none⟩)) ?_ (hc:=by exact λa_=>(bQ _ rfl));refine EN (AL 13 ?_);refine CE Ki (Bn vb vt from' m.ballot (OkMg.ballot) hov.ballot) (SM [1]) ?_;refine aX ?_ ?_<;>intro h119;refine EN (PD 14 ?_);refine DN (ac J15 (CY (ae (cn (H':=cA V r (kE (da s (max s.round m.ballot.round)) ((fV vt from' m.ballot).1))::[ak b7 (ints m.flat) 178]) (λ_ q=>nb (aA [1,0] rfl q)) (P2 ?_)))));refine CZ Kh (yY V r (kE (da s (max s.round m.ballot.round)) (fV vt from' m.ballot).1) (fV vt from' m.ballot).1 rfl) ID λvR=>?_
 refine au (ag (WK [0] (bu rfl ?_)))
 exact congrArg (λq=>[cA V r q]) (show _=ez V.toDk (λs_=>if m.kind=4 then oB V.toDk from' m s_ else kG V.toDk from' m s_) s from' m by
                                rw[ez,if_neg h15,if_neg (λh=>h.elim (λh=>absurd h (by omega)) (λh=>by rw[h50]at h;cases h)),if_neg (by omega),kG];simp only[show(da s (max s.round m.ballot.round)).vote=some vt from hv]
                                rw[if_pos h119,ye])
 refine EN (PD 14 ?_);refine DN (ac J15 (CN (aS (ag (aD (H':=[cA V r (kE (da s (max s.round m.ballot.round)) (fV vt from' m.ballot).1)]) (dK _) (λ_ q=>nb (aj [1,0] rfl q)) (bu rfl ?_))))))
 exact congrArg (λq=>[cA V r q]) (show(kE (da s (max s.round m.ballot.round)) (fV vt from' m.ballot).1)=ez V.toDk (λs_=>if m.kind=4 then oB V.toDk from' m s_ else kG V.toDk from' m s_) s from' m by
                                rw[ez,if_neg h15,if_neg (λh=>h.elim (λh=>absurd h (by omega)) (λh=>by rw[h50]at h;cases h)),if_neg (by omega),kG];simp only[show(da s (max s.round m.ballot.round)).vote=some vt from hv]
                                rw[if_neg (by rw[h119];decide)])
 · exact absurd h105 (by omega)
 refine EN (PD 18 ?_);refine PD 19 ?_;refine DN (ac J7 (CY (ai (ad (WK [1] (du rfl ?_))))));exact MQ (by rw[ez,if_neg h15,if_pos (.inr h50)])
theorem p2{δ:Type}(V:Env δ)(r:Nat)(s:MS δ)(from':Int)(m:MsgT)[OkR V.toDk s][OkMg m](hfe:from'=s.id→m.epoch=s.view.epoch)(hk:m.kind=6):TK V r 105 s from' m (p3 V.toDk s from' m):=nC (.inr (.inr (.inr hk))) (by
 cases hv:s.vote with
 |none=>exact jU V r s (kG V.toDk from' m) from' m hfe (λe=>by omega) (λe=>by omega) (λ_=>by rw[kG,show(da s (max s.round m.ballot.round)).vote=none from hv]) (λ_=>hv)
 |some vt=>
  have h:=oF V r s vt from' m hfe (.inr hk) hv (λe=>by omega)
  rwa [show(λs_:MS δ=>if m.kind=4 then oB V.toDk from' m s_ else kG V.toDk from' m s_)=kG V.toDk from' m from funext λ_=>if_neg (by omega)]at h)
theorem wm{δ:Type}(V:Env δ)(r:Nat)(s:MS δ)(from':Int)(m:MsgT)[OkR V.toDk s][OkMg m](hep:m.epoch=s.view.epoch):
 DT 171 #[(.pointer (some ⟨r,0,none⟩)),(.iface V.T V.ov),(.int .i64 (from')),(.agg (ints m.flat).toArray)] T0 [cA V r s] (dG (λ_ H=>H=[cA V r (n6 V.toDk from' m s)])):=by
 refine BD 69 Tryz.func171 rfl rfl rfl λw0 F hF=>sr λ_ J1=>XY (ints m.flat) λb7=>?_
 refine nx J1 (aa λ_ J2=>aa λ_ J3=>eH (α:=Unit) (λ_u=>True) (λ_u=>[(0,(.pointer (some ⟨r,0,none⟩))),(1,(.iface V.T V.ov)),(2,(.int .i64 (from'))),(7,(.pointer (some ⟨b7,0,none⟩))),(9,(.int .i64 ((dx s.view m.change).2)))]) (λ_u=>[cA V r s,ak b7 (ints m.flat) 178]) (λ_u hinv=>?_) (λtl3=>?_));have _:=hinv;refine ac J3 (sr λ_ J4=>P2 ?_);refine ao ?_ ?_<;>intro h23;refine nx J4 (CY (ai (ad (WK [0] (du rfl ?_)))));exact MQ (by rw[n6,if_pos h23]);refine nx J4 (CN (qx J2 (aa λ_ J5=>eH (α:=(Nat)) (λb10=>True) (λb10=>[(0,(.pointer (some ⟨r,0,none⟩))),(1,(.iface V.T V.ov)),(2,(.int .i64 (from'))),(7,(.pointer (some ⟨b7,0,none⟩))),(10,(.pointer (some ⟨b10,0,none⟩))),(11,(.bool ((fX s.acc m.epoch m.ballot m.change).2)))]) (λb10=>[cA V r s,ak b7 (ints m.flat) 178,ak b10 (ints ((fX s.acc m.epoch m.ballot m.change).1).flat) 118]) (λb10 hinv=>?_) (λtl5=>?_))));have _:=hinv;refine ac J5 (aa λ_ J6=>sr λ_ J7=>PS ?_);refine aX ?_ ?_<;>intro h38;refine PS ?_;refine nx J7 (CN (qx J6 (aa λ_ J8=>aa λ_ J9=>DC bc (BL 2) (cK 0 rfl rfl) ?_)));refine LY 0 im di aV ?_;refine PD 1 ?_;refine PD 2 ?_;refine FD 3 1058 bh di ?_;refine ta 4 rfl (fz (vs:=ints s.acc.flat) rfl im rfl di rfl (λ_ h=>h.2.2.1) (aV s.acc) (λa_=>(wS (s.rep a_) 0 rfl (by decide) (bj (aV ((s.rep a_).acc)))))) ?_
 refine ta 5 rfl (we (a:=((fX s.acc m.epoch m.ballot m.change).1).flat) (b:=s.acc.flat) (m:=6) (c:=8) JC Jy rfl KN (c7 (aV ((fX s.acc m.epoch m.ballot m.change).1))) (c7 (aV s.acc)) ⟨fo Is Iu (c7 (aV ((fX s.acc m.epoch m.ballot m.change).1))),fo Is Iu (c7 (aV s.acc))⟩ (OkAc.wf) (OkAc.wf) rfl rfl rfl) ?_;refine gX ?_ ?_<;>intro h45;refine DN (ac J9 (CY (aa λ_ J10=>sr λ_ J11=>PS ?_)));refine FA 177 aY aM ?_;refine LU 1 Y3 (el m rfl) ?_;refine FA 178 aY cp ?_;refine LV 1 jC cp am nt (y:=m.ballot) ?_;refine FA 182 aY e9 ?_;refine LV 1 mj e9 aI MsgT.sp_change (y:=m.change) ?_;refine tp (kq RecT.zero (RecT.mk 4 0 RowT.zero m.epoch m.ballot m.change ViewT.zero) [(0,[Value.int .i64 4]),(3,[Value.int .i64 m.epoch]),(4,ints m.ballot.flat),(5,ints m.change.flat)] io eL (g:=RecT.sg)) ?_;refine CE vc (km V r s (lE m.epoch m.ballot m.change)) ID ?_;refine PS ?_;refine ao ?_ ?_<;>intro h55;refine nx J11 (CY (ai (ad (ad (WK [0] (du rfl ?_))))));exact MQ (by rw[n6,if_neg h23,if_neg (by rw[h38];decide),if_pos h45,if_pos h55]);refine nx J11 (CN (qx J10 (ae (PS ?_))));refine LW 2 im di aV ?_;refine PS ?_;refine FA 1058 bh di ?_
 refine gr (vs:=ints ((fX s.acc m.epoch m.ballot m.change).1).flat) (i:=0) (ab rfl) rfl rfl rfl rfl rfl (by rw[(aV ((fX s.acc m.epoch m.ballot m.change).1))];exact di) (bv _) rfl rfl (λ_=>LC (cJ _) (aV _)) (λa_=>(jO ((dT V.toDk s (lE m.epoch m.ballot m.change)).rep a_) 0 rfl (by have h1:=(aV ((fX s.acc m.epoch m.ballot m.change).1));omega) (cu ((aV (((dT V.toDk s (lE m.epoch m.ballot m.change)).rep a_).acc)).trans (aV ((fX s.acc m.epoch m.ballot m.change).1)).symm)))) (nx J8 (ae (P3 ?_)));refine FA 177 aY aM ?_;refine LU 1 Y3 (el m rfl) ?_;refine FA 178 aY cp ?_;refine LV 1 jC cp am nt (y:=m.ballot) ?_;refine tp (kq MsgT.zero (MsgT.mk 6 0 RowT.zero 0 m.epoch m.ballot BallotT.zero ChangeT.zero ViewT.zero) [(0,[Value.int .i64 6]),(4,[Value.int .i64 m.epoch]),(5,ints m.ballot.flat)] aY bk (g:=MsgT.sg)) ?_;refine CZ iB (fK V r (vW (dT V.toDk s (lE m.epoch m.ballot m.change)) (fX s.acc m.epoch m.ballot m.change).1) from' (jl m.epoch m.ballot) (λs_=>p3 V.toDk s_ s_.id (jl m.epoch m.ballot)) (λ_=>p2 V r (vW (dT V.toDk s (lE m.epoch m.ballot m.change)) (fX s.acc m.epoch m.ballot m.change).1) (vW (dT V.toDk s (lE m.epoch m.ballot m.change)) (fX s.acc m.epoch m.ballot m.change).1).id (jl m.epoch m.ballot) (λ_=>hep) rfl)) ID λvR=>?_
 refine au (WK [0] (bu rfl ?_));exact MQ (by rw[n6,if_neg h23,if_neg (by rw[h38];decide),if_pos h45,if_neg h55];rfl);refine DN (ac J9 (CN (qx J8 (ae (P3 ?_)))));refine FA 177 aY aM ?_;refine LU 1 Y3 (el m rfl) ?_;refine FA 178 aY cp ?_;refine LV 1 jC cp am nt (y:=m.ballot) ?_;refine tp (kq MsgT.zero (MsgT.mk 6 0 RowT.zero 0 m.epoch m.ballot BallotT.zero ChangeT.zero ViewT.zero) [(0,[Value.int .i64 6]),(4,[Value.int .i64 m.epoch]),(5,ints m.ballot.flat)] aY bk (g:=MsgT.sg)) ?_;refine CZ iB (fK V r s from' (jl m.epoch m.ballot) (λs_=>p3 V.toDk s_ s_.id (jl m.epoch m.ballot)) (λ_=>p2 V r s s.id (jl m.epoch m.ballot) (λ_=>hep) rfl)) ID λvR=>?_
 refine au (WK [0] (bu rfl ?_));exact MQ (by rw[n6,if_neg h23,if_neg (by rw[h38];decide),if_neg h45];rfl);refine PS ?_;refine nx J7 (CY (ai (ad (WK [0] (du rfl ?_)))));exact MQ (by rw[n6,if_neg h23,if_pos h38]);refine DC bc (cK 0 rfl rfl) (BL 1) ?_;refine PD 0 ?_;refine PD 1 ?_;refine FD 2 1058 bh di ?_;refine ta 3 rfl (fz (vs:=ints s.acc.flat) rfl im rfl di rfl (λ_ h=>h.2.1) (aV s.acc) (λa_=>(wS (s.rep a_) 0 rfl (by decide) (bj (aV ((s.rep a_).acc)))))) ?_;refine FD 4 177 aY aM ?_;refine LR 5 Y3 (el m rfl) ?_;refine FD 6 178 aY cp ?_;refine ta 7 rfl (aJ (vs:=ints m.ballot.flat) rfl jC rfl cp rfl (λ_ h=>h.2.2.1) (am m.ballot) (ir m 0 rfl (by decide) (bj (am m.ballot)))) ?_;refine FD 8 182 aY e9 ?_;refine ta 9 rfl (aJ (vs:=ints m.change.flat) rfl mj rfl e9 rfl (λ_ h=>h.2.2.1) (aI m.change) (mq m 0 rfl (by decide) (bj (aI m.change)))) ?_;refine cE [10,14] (by kernel_rfl) rfl (aE rfl ?_ ?_);refine CE H0 (tm s.acc m.epoch m.ballot m.change) ID ?_;refine EN (PD 11 ?_);refine PD 12 ?_;refine PD 13 ?_;refine qu ?_ ?_<;>intro h37;refine AL 14 ?_;refine XZ tT (ints AccT.zero.flat) λb10=>?_
 refine EN (AL 15 ?_);refine SW 0 di aV ?_;refine EN (PD 16 ?_);refine DN ?_
 exact aD
  (aQ (aQ (aQ (aQ (aQ (bo rfl (by rw[h37]) SB))))))
  (λ_ s=>aj [1,1,0] rfl s)
  (tl5 ((b10):(Nat)) trivial)
 refine AL 14 ?_;refine XZ tT (ints AccT.zero.flat) λb10=>?_
 refine EN (AL 15 ?_);refine SW 0 di aV ?_;refine EN (PD 16 ?_);refine DN ?_
 exact aD
  (aQ (aQ (aQ (aQ (aQ (bo rfl (by rw[h37]) SB))))))
  (λ_ s=>aj [1,1,0] rfl s)
  (tl5 ((b10):(Nat)) trivial)
 refine aE rfl ?_ ?_;refine XZ tT (ints AccT.zero.flat) λb10=>?_
 refine EN (AL 10 ?_);refine CE H0 (tm s.acc m.epoch m.ballot m.change) ID ?_;refine EN (PD 11 ?_);refine PD 12 ?_;refine PD 13 ?_;refine qu ?_ ?_<;>intro h37;refine AL 15 ?_;refine SW 0 di aV ?_;refine EN (PD 16 ?_);refine DN ?_
 exact aD
  (aQ (aQ (aQ (aQ (aQ (bo rfl (by rw[h37]) SB))))))
  (λ_ s=>aj [1,1,0] rfl s)
  (tl5 ((b10):(Nat)) trivial)
 refine AL 15 ?_;refine SW 0 di aV ?_;refine EN (PD 16 ?_);refine DN ?_
 exact aD
  (aQ (aQ (aQ (aQ (aQ (bo rfl (by rw[h37]) SB))))))
  (λ_ s=>aj [1,1,0] rfl s)
  (tl5 ((b10):(Nat)) trivial)
 exact bA;refine DC bc (cK 1 rfl rfl) (BL 0) ?_;refine PD 0 ?_;refine PD 1 ?_;refine FD 2 2 bh bf ?_;refine ta 3 rfl (fz (vs:=ints s.view.flat) rfl eF rfl bf rfl (λ_ h=>h.2.1) (an s.view) (λa_=>(fw (s.rep a_) 0 rfl (by decide) (bj (an ((s.rep a_).view)))))) ?_;refine FD 4 182 aY e9 ?_;refine ta 5 rfl (aJ (vs:=ints m.change.flat) rfl mj rfl e9 rfl (λ_ h=>h.2.2.1) (aI m.change) (mq m 0 rfl (by decide) (bj (aI m.change)))) ?_;refine cE [6,10] (by kernel_rfl) rfl (aE rfl ?_ ?_);refine CE l6 (de s.view m.change OkVw.rng) ID ?_;refine EN (PD 7 ?_);refine PD 8 ?_;refine PD 9 ?_;refine AL 10 ?_;refine XZ sK (ints ViewT.zero.flat) λb8=>?_
 refine EN (AL 11 ?_);refine SW 0 bf an ?_;refine EN (PD 12 ?_);refine DN ?_
 exact aD
  SB
  (λ_ s=>aj [2,1] rfl s)
  (tl3 (():Unit) trivial)
 refine aE rfl ?_ ?_;refine XZ sK (ints ViewT.zero.flat) λb8=>?_
 refine EN (AL 6 ?_);refine CE l6 (de s.view m.change OkVw.rng) ID ?_;refine EN (PD 7 ?_);refine PD 8 ?_;refine PD 9 ?_;refine AL 11 ?_;refine SW 0 bf an ?_;refine EN (PD 12 ?_);refine DN ?_
 exact aD
  SB
  (λ_ s=>aj [2,1] rfl s)
  (tl3 (():Unit) trivial)
 exact bA
theorem uq{δ:Type}(V:Env δ)(r:Nat)(s:MS δ)(from':Int)(m:MsgT)[OkR V.toDk s][OkMg m](hfe:from'=s.id→m.epoch=s.view.epoch)(hk:m.kind=5):TK V r 105 s from' m (sa V.toDk s from' m):=nC (by omega) (jU V r s (n6 V.toDk from' m) from' m hfe (λe _=>by omega) (λ_ hep=>wm V r (da s (max s.round m.ballot.round)) from' m hep) (λe=>by omega) (λe=>by omega))
theorem wu{δ:Type}(V:Env δ)(r vb:Nat)(s:MS δ)(vt:VoteT)(hv:s.vote=some vt)(hpt:vt.putting=true)[OkR V.toDk s][OkVt vt]:
 DT 113 #[(.pointer (some ⟨r,0,none⟩)),(.iface V.T V.ov)] T0 [tQ V r s (.pointer (some ⟨vb,0,none⟩)),ak vb (VoteT.cells vt) 227] (dG (λ_ H=>H=[cA V r (j5 V.toDk s vt)])):=by
 refine BD 68 Tryz.func113 rfl rfl rfl λw0 F hF=>aa λ_ J1=>eH (α:=(Nat)) (λb4=>True) (λb4=>[(0,(.pointer (some ⟨r,0,none⟩))),(1,(.iface V.T V.ov)),(4,(.pointer (some ⟨b4,0,none⟩)))]) (λb4=>[tQ V r s (.pointer (some ⟨vb,0,none⟩)),ak vb (VoteT.cells vt) 227,ak b4 (ints (ff s.view.epoch vt.ballot).flat) 178]) (λb4 hinv=>?_) (λtl1=>?_)
 have _:=hinv;refine ac J1 (aa λ_ J2=>sr λ_ J3=>P2 ?_);refine FA 1067 bh ix ?_;refine LG 0 hZ (.pointer (some ⟨vb,0,none⟩)) ?_ (hc:=by exact λa_=>(bQ _ rfl));refine CE Ia (mV vb vt) (SM [1]) ?_;refine aX ?_ ?_<;>intro h22;refine nx J3 (CY (ae (P2 ?_)));refine FA 1067 bh ix ?_;refine LG 1 hZ (.pointer (some ⟨vb,0,none⟩)) ?_ (hc:=by exact λa_=>(bQ _ rfl));refine CE na (cS vb vt) ID ?_;refine FA 0 aY aM ?_;refine SS 2 aM (aG _) (MsgT.set_kind _ rfl _) ?_;refine FA 182 aY e9 ?_;refine SP 2 e9 aI aG KZ ?_;refine nx J2 (sr λ_ J4=>cn (H':=cA V r s::[ak b4 (ints (MsgT.mk 5 ((ff s.view.epoch vt.ballot).whose) ((ff s.view.epoch vt.ballot).row) ((ff s.view.epoch vt.ballot).version) ((ff s.view.epoch vt.ballot).epoch) ((ff s.view.epoch vt.ballot).ballot) ((ff s.view.epoch vt.ballot).had) vt.change ((ff s.view.epoch vt.ballot).view)).flat) 178]) (λ_ q=>nc hv (aA [1,0] rfl q)) (P2 ?_));refine FA 2 bh bf ?_;refine LZ 0 eF bf an s.view ?_ (hc:=by exact λ_=>cT _);refine XZ sK (ints ViewT.zero.flat) λb5=>?_
 refine SW 0 bf an ?_;refine nx J4 (aa λ_ J5=>sr λ_ J6=>PS ?_);refine nx J6 (aq ?_)
 refine bF (α:=(Nat)) (λk=>k≤5) (λk=>[(0,(.pointer (some ⟨r,0,none⟩))),(1,(.iface V.T V.ov)),(4,(.pointer (some ⟨b4,0,none⟩))),(5,(.pointer (some ⟨b5,0,none⟩))),(34,(.int .i64 (((k:Nat):Int))))]) (λk=>[ak b5 (ints s.view.flat) 44,ak b4 (ints (iz s.view.epoch vt.ballot vt.change).flat) 178,cA V r (ii V.toDk s (m9 s.id (iz s.view.epoch vt.ballot vt.change) (λi=>ij s.view ((i:Nat):Int)) k))]) (λk=>5-k) 0
  (aR _) SB
  (λ_ q=>by
  rw[show m9 s.id (iz s.view.epoch vt.ballot vt.change) (λi=>ij s.view ((i:Nat):Int)) 0=[]from rfl,oO]
  exact aj [0,1,0] rfl q) (λk hinv=>?_)
 obtain hk:=hinv;refine sr λ_ J7=>PS ?_
 refine ao ?_ ?_<;>intro h35;refine nx J7 (aa λ_ J8=>CY (qx J8 (aa λ_ J9=>aq (sr λ_ J10=>P2 ?_))));refine nx J10 (sr λ_ J11=>P3 ?_);refine FA 0 bh aM ?_;refine LG 2 Y3 (.int .i64 (s.id)) ?_ (hc:=by exact λa_=>(cv _ rfl));refine PS ?_;refine ao ?_ ?_<;>intro h42;refine PS ?_;refine LW 0 eF bf an ?_;refine PS ?_;refine CE oT (dq s.view ((k:Nat):Int)) ID ?_;refine aX ?_ ?_<;>intro h46;refine PS ?_;refine nx J11 (CY (ae (P3 ?_)));refine LW 1 aY bW aG ?_;refine CZ iB (mZ V r s (m9 s.id (iz s.view.epoch vt.ballot vt.change) (λi=>ij s.view ((i:Nat):Int)) k) ((k:Nat):Int) (iz s.view.epoch vt.ballot vt.change) h42) (SM [2]) λvR=>?_
 refine au (ag (ac J9 (ae (AD ?_))));refine PS ?_;refine au ?_
 exact aL ((k+1):(Nat)) (by omega) (by show 5- (k+1)<5-k;omega)
  SB
  (λ_ q=>by
   rw[hJ,if_pos ⟨h42,h46⟩]
   exact aj [1,1,0] rfl q)
 refine PS ?_;refine nx J11 (CN (aS (ag (ac J9 (ae (AD ?_))))));refine PS ?_;refine au ?_
 exact aL ((k+1):(Nat)) (by omega) (by show 5- (k+1)<5-k;omega)
  SB
  (λ_ q=>by
   rw[hJ,if_neg (λh=>by have:=h.2;rw[h46]at this;cases this)];rw[aT]
   exact aj [0,0,0] rfl q)
 refine PS ?_
 iterate 3 refine UF ?_
 refine PS ?_;refine nx J11 (CN (aS (ag (ac J9 (ae (AD ?_))))));refine PS ?_;refine au ?_
 exact aL ((k+1):(Nat)) (by omega) (by show 5- (k+1)<5-k;omega)
  SB
  (λ_ q=>by
   rw[hJ,if_neg (λh=>h42 h.1)];rw[aT]
   exact aj [0,0,0] rfl q)
 obtain rfl:k=5:=by omega
 refine nx J7 (aa λ_ J12=>CN (bg (aF (aF (bD (ac J5 (aa λ_ J13=>DC bc (BL 0) (cK 2 rfl rfl) ?_)))))));refine LY 0 eF bf an ?_;refine PD 1 ?_;refine PD 2 ?_;refine FD 3 0 bh aM ?_;refine ta 4 rfl (cX (v:=(.int .i64 ((jg V.toDk s (iz s.view.epoch vt.ballot vt.change)).id))) rfl Y3 rfl rfl (λ_ h=>h.2.2.1) (λa_=>(cv _ rfl))) ?_;refine AL 5 ?_;refine CE oT (dq s.view ((jg V.toDk s (iz s.view.epoch vt.ballot vt.change)).id)) ID ?_;refine aX ?_ ?_<;>intro h59;refine EN (DN (ac J13 (CY (D1 1 bc ?_))));refine PD 0 ?_;refine PD 1 ?_;refine PD 2 ?_;refine PD 3 ?_;refine FD 4 0 bh aM ?_;refine LY 6 aY bW aG ?_;refine AL 5 ?_;refine LG 2 Y3 (.int .i64 ((jg V.toDk s (iz s.view.epoch vt.ballot vt.change)).id)) ?_ (hc:=by exact λa_=>(cv _ rfl));refine EN (AL 7 ?_);refine CZ iB (fK V r (jg V.toDk s (iz s.view.epoch vt.ballot vt.change)) s.id (iz s.view.epoch vt.ballot vt.change) (λs_=>sa V.toDk s_ s_.id (iz s.view.epoch vt.ballot vt.change)) (λ_=>uq V r (jg V.toDk s (iz s.view.epoch vt.ballot vt.change)) s.id (iz s.view.epoch vt.ballot vt.change) (λ_=>rfl) rfl)) (SM [2]) λvR=>?_
 refine EN (DN (WK [0] (bu rfl ?_)));exact MQ (by rw[j5,jo,if_pos (show ij s.view s.id=true from h59),mA,if_pos (show s.id=(jg V.toDk s (iz s.view.epoch vt.ballot vt.change)).id from rfl)]<;>rfl);refine EN (DN (ac J13 (CN (aS (WK [2] (bu rfl ?_))))));exact MQ (by rw[j5,jo,if_neg (by rw[show ij s.view s.id=false from h59];decide)]<;>rfl)
 · rw[hpt]at h22;cases h22
 refine D1 1 bc ?_;refine PD 0 ?_;refine PD 1 ?_;refine FD 2 2 bh bf ?_;refine FD 3 2 eF aM ?_;refine PD 5 ?_;refine PD 6 ?_;refine FD 7 1067 bh ix ?_;refine cE [4,8,11] (by kernel_rfl) rfl (aE rfl ?_ ?_);refine LG 0 Y3 (.int .i64 (s.view.epoch)) ?_ (hc:=by exact λa_=>(ca (s.rep ⟨(a_:Nat×Value).1,(.pointer (some ⟨vb,0,none⟩)),a_.2⟩) 0 rfl (by decide) (be _ rfl)));refine EN (cE [8,11] (by kernel_rfl) rfl (aE rfl ?_ ?_));refine LG 0 hZ (.pointer (some ⟨vb,0,none⟩)) ?_ (hc:=by exact λa_=>(bQ _ rfl));refine EN (cE [9,11] (by kernel_rfl) rfl (aE rfl ?_ ?_));refine CE je (bB vb vt) (SM [1]) ?_;refine EN (ta 10 rfl (kq MsgT.zero (MsgT.mk 3 0 RowT.zero 0 s.view.epoch vt.ballot BallotT.zero ChangeT.zero ViewT.zero) [(0,[Value.int .i64 3]),(4,[Value.int .i64 s.view.epoch]),(5,ints vt.ballot.flat)] aY bk (g:=MsgT.sg)) ?_);refine AL 11 ?_;refine XZ lD (ints MsgT.zero.flat) λb4=>?_
 refine EN (AL 12 ?_);refine SW 0 bW aG ?_;refine EN (DN ?_)
 exact aD
  SB
  (λ_ s=>aj [2,1,0] rfl s)
  (tl1 ((b4):(Nat)) trivial)
 refine aE rfl ?_ ?_;refine XZ lD (ints MsgT.zero.flat) λb4=>?_
 refine EN (AL 9 ?_);refine CE je (bB vb vt) (SM [2]) ?_;refine EN (ta 10 rfl (kq MsgT.zero (MsgT.mk 3 0 RowT.zero 0 s.view.epoch vt.ballot BallotT.zero ChangeT.zero ViewT.zero) [(0,[Value.int .i64 3]),(4,[Value.int .i64 s.view.epoch]),(5,ints vt.ballot.flat)] aY bk (g:=MsgT.sg)) ?_);refine AL 12 ?_;refine SW 1 bW aG ?_;refine EN (DN ?_)
 exact aD
  SB
  (λ_ s=>aj [2,0,0] rfl s)
  (tl1 ((b4):(Nat)) trivial)
 exact bA;refine aE rfl ?_ ?_;refine XZ lD (ints MsgT.zero.flat) λb4=>?_
 refine EN (AL 8 ?_);refine LG 1 hZ (.pointer (some ⟨vb,0,none⟩)) ?_ (hc:=by exact λa_=>(bQ _ rfl));refine EN (AL 9 ?_);refine CE je (bB vb vt) (SM [2]) ?_;refine EN (ta 10 rfl (kq MsgT.zero (MsgT.mk 3 0 RowT.zero 0 s.view.epoch vt.ballot BallotT.zero ChangeT.zero ViewT.zero) [(0,[Value.int .i64 3]),(4,[Value.int .i64 s.view.epoch]),(5,ints vt.ballot.flat)] aY bk (g:=MsgT.sg)) ?_);refine AL 12 ?_;refine SW 1 bW aG ?_;refine EN (DN ?_)
 exact aD
  SB
  (λ_ s=>aj [2,0,0] rfl s)
  (tl1 ((b4):(Nat)) trivial)
 exact bA;refine aE rfl ?_ ?_;refine LG 0 hZ (.pointer (some ⟨vb,0,none⟩)) ?_ (hc:=by exact λa_=>(bQ _ rfl));refine EN (cE [4,9,11] (by kernel_rfl) rfl (aE rfl ?_ ?_));refine LG 0 Y3 (.int .i64 (s.view.epoch)) ?_ (hc:=by exact λa_=>(ca (s.rep ⟨(a_:Nat×Value).1,(.pointer (some ⟨vb,0,none⟩)),a_.2⟩) 0 rfl (by decide) (be _ rfl)));refine EN (cE [9,11] (by kernel_rfl) rfl (aE rfl ?_ ?_));refine CE je (bB vb vt) (SM [1]) ?_;refine EN (ta 10 rfl (kq MsgT.zero (MsgT.mk 3 0 RowT.zero 0 s.view.epoch vt.ballot BallotT.zero ChangeT.zero ViewT.zero) [(0,[Value.int .i64 3]),(4,[Value.int .i64 s.view.epoch]),(5,ints vt.ballot.flat)] aY bk (g:=MsgT.sg)) ?_);refine AL 11 ?_;refine XZ lD (ints MsgT.zero.flat) λb4=>?_
 refine EN (AL 12 ?_);refine SW 0 bW aG ?_;refine EN (DN ?_)
 exact aD
  SB
  (λ_ s=>aj [2,1,0] rfl s)
  (tl1 ((b4):(Nat)) trivial)
 refine aE rfl ?_ ?_;refine XZ lD (ints MsgT.zero.flat) λb4=>?_
 refine EN (AL 9 ?_);refine CE je (bB vb vt) (SM [2]) ?_;refine EN (ta 10 rfl (kq MsgT.zero (MsgT.mk 3 0 RowT.zero 0 s.view.epoch vt.ballot BallotT.zero ChangeT.zero ViewT.zero) [(0,[Value.int .i64 3]),(4,[Value.int .i64 s.view.epoch]),(5,ints vt.ballot.flat)] aY bk (g:=MsgT.sg)) ?_);refine AL 12 ?_;refine SW 1 bW aG ?_;refine EN (DN ?_)
 exact aD
  SB
  (λ_ s=>aj [2,0,0] rfl s)
  (tl1 ((b4):(Nat)) trivial)
 exact bA;refine aE rfl ?_ ?_;refine CE je (bB vb vt) (SM [1]) ?_;refine EN (cE [4,11] (by kernel_rfl) rfl (aE rfl ?_ ?_));refine LG 1 Y3 (.int .i64 (s.view.epoch)) ?_ (hc:=by exact λa_=>(ca (s.rep ⟨(a_:Nat×Value).1,(.pointer (some ⟨vb,0,none⟩)),a_.2⟩) 0 rfl (by decide) (be _ rfl)));refine EN (ta 10 rfl (kq MsgT.zero (MsgT.mk 3 0 RowT.zero 0 s.view.epoch vt.ballot BallotT.zero ChangeT.zero ViewT.zero) [(0,[Value.int .i64 3]),(4,[Value.int .i64 s.view.epoch]),(5,ints vt.ballot.flat)] aY bk (g:=MsgT.sg)) ?_);refine AL 11 ?_;refine XZ lD (ints MsgT.zero.flat) λb4=>?_
 refine EN (AL 12 ?_);refine SW 0 bW aG ?_;refine EN (DN ?_)
 exact aD
  SB
  (λ_ s=>aj [2,1,0] rfl s)
  (tl1 ((b4):(Nat)) trivial)
 refine aE rfl ?_ ?_;refine XZ lD (ints MsgT.zero.flat) λb4=>?_
 refine EN (AL 4 ?_);refine LG 2 Y3 (.int .i64 (s.view.epoch)) ?_ (hc:=by exact λa_=>(ca (s.rep ⟨(a_:Nat×Value).1,(.pointer (some ⟨vb,0,none⟩)),a_.2⟩) 0 rfl (by decide) (be _ rfl)));refine EN (ta 10 rfl (kq MsgT.zero (MsgT.mk 3 0 RowT.zero 0 s.view.epoch vt.ballot BallotT.zero ChangeT.zero ViewT.zero) [(0,[Value.int .i64 3]),(4,[Value.int .i64 s.view.epoch]),(5,ints vt.ballot.flat)] aY bk (g:=MsgT.sg)) ?_);refine AL 12 ?_;refine SW 0 bW aG ?_;refine EN (DN ?_)
 exact aD
  SB
  (λ_ s=>aj [2,1,0] rfl s)
  (tl1 ((b4):(Nat)) trivial)
 exact bA;refine aE rfl ?_ ?_;refine XZ lD (ints MsgT.zero.flat) λb4=>?_
 refine EN (cE [4,9] (by kernel_rfl) rfl (aE rfl ?_ ?_));refine LG 1 Y3 (.int .i64 (s.view.epoch)) ?_ (hc:=by exact λa_=>(ca (s.rep ⟨(a_:Nat×Value).1,(.pointer (some ⟨vb,0,none⟩)),a_.2⟩) 0 rfl (by decide) (be _ rfl)));refine EN (AL 9 ?_);refine CE je (bB vb vt) (SM [2]) ?_;refine EN (ta 10 rfl (kq MsgT.zero (MsgT.mk 3 0 RowT.zero 0 s.view.epoch vt.ballot BallotT.zero ChangeT.zero ViewT.zero) [(0,[Value.int .i64 3]),(4,[Value.int .i64 s.view.epoch]),(5,ints vt.ballot.flat)] aY bk (g:=MsgT.sg)) ?_);refine AL 12 ?_;refine SW 1 bW aG ?_;refine EN (DN ?_)
 exact aD
  SB
  (λ_ s=>aj [2,0,0] rfl s)
  (tl1 ((b4):(Nat)) trivial)
 refine aE rfl ?_ ?_;refine CE je (bB vb vt) (SM [2]) ?_;refine EN (AL 4 ?_);refine LG 2 Y3 (.int .i64 (s.view.epoch)) ?_ (hc:=by exact λa_=>(ca (s.rep ⟨(a_:Nat×Value).1,(.pointer (some ⟨vb,0,none⟩)),a_.2⟩) 0 rfl (by decide) (be _ rfl)));refine EN (ta 10 rfl (kq MsgT.zero (MsgT.mk 3 0 RowT.zero 0 s.view.epoch vt.ballot BallotT.zero ChangeT.zero ViewT.zero) [(0,[Value.int .i64 3]),(4,[Value.int .i64 s.view.epoch]),(5,ints vt.ballot.flat)] aY bk (g:=MsgT.sg)) ?_);refine AL 12 ?_;refine SW 1 bW aG ?_;refine EN (DN ?_)
 exact aD
  SB
  (λ_ s=>aj [2,0,0] rfl s)
  (tl1 ((b4):(Nat)) trivial)
 exact bA;exact bA;refine aE rfl ?_ ?_;refine XZ lD (ints MsgT.zero.flat) λb4=>?_
 refine EN (cE [4,8] (by kernel_rfl) rfl (aE rfl ?_ ?_));refine LG 1 Y3 (.int .i64 (s.view.epoch)) ?_ (hc:=by exact λa_=>(ca (s.rep ⟨(a_:Nat×Value).1,(.pointer (some ⟨vb,0,none⟩)),a_.2⟩) 0 rfl (by decide) (be _ rfl)));refine EN (AL 8 ?_);refine LG 1 hZ (.pointer (some ⟨vb,0,none⟩)) ?_ (hc:=by exact λa_=>(bQ _ rfl));refine EN (AL 9 ?_);refine CE je (bB vb vt) (SM [2]) ?_;refine EN (ta 10 rfl (kq MsgT.zero (MsgT.mk 3 0 RowT.zero 0 s.view.epoch vt.ballot BallotT.zero ChangeT.zero ViewT.zero) [(0,[Value.int .i64 3]),(4,[Value.int .i64 s.view.epoch]),(5,ints vt.ballot.flat)] aY bk (g:=MsgT.sg)) ?_);refine AL 12 ?_;refine SW 1 bW aG ?_;refine EN (DN ?_)
 exact aD
  SB
  (λ_ s=>aj [2,0,0] rfl s)
  (tl1 ((b4):(Nat)) trivial)
 refine aE rfl ?_ ?_;refine LG 1 hZ (.pointer (some ⟨vb,0,none⟩)) ?_ (hc:=by exact λa_=>(bQ _ rfl));refine EN (cE [4,9] (by kernel_rfl) rfl (aE rfl ?_ ?_));refine LG 1 Y3 (.int .i64 (s.view.epoch)) ?_ (hc:=by exact λa_=>(ca (s.rep ⟨(a_:Nat×Value).1,(.pointer (some ⟨vb,0,none⟩)),a_.2⟩) 0 rfl (by decide) (be _ rfl)));refine EN (AL 9 ?_);refine CE je (bB vb vt) (SM [2]) ?_;refine EN (ta 10 rfl (kq MsgT.zero (MsgT.mk 3 0 RowT.zero 0 s.view.epoch vt.ballot BallotT.zero ChangeT.zero ViewT.zero) [(0,[Value.int .i64 3]),(4,[Value.int .i64 s.view.epoch]),(5,ints vt.ballot.flat)] aY bk (g:=MsgT.sg)) ?_);refine AL 12 ?_;refine SW 1 bW aG ?_;refine EN (DN ?_)
 exact aD
  SB
  (λ_ s=>aj [2,0,0] rfl s)
  (tl1 ((b4):(Nat)) trivial)
 refine aE rfl ?_ ?_;refine CE je (bB vb vt) (SM [2]) ?_;refine EN (AL 4 ?_);refine LG 2 Y3 (.int .i64 (s.view.epoch)) ?_ (hc:=by exact λa_=>(ca (s.rep ⟨(a_:Nat×Value).1,(.pointer (some ⟨vb,0,none⟩)),a_.2⟩) 0 rfl (by decide) (be _ rfl)));refine EN (ta 10 rfl (kq MsgT.zero (MsgT.mk 3 0 RowT.zero 0 s.view.epoch vt.ballot BallotT.zero ChangeT.zero ViewT.zero) [(0,[Value.int .i64 3]),(4,[Value.int .i64 s.view.epoch]),(5,ints vt.ballot.flat)] aY bk (g:=MsgT.sg)) ?_);refine AL 12 ?_;refine SW 1 bW aG ?_;refine EN (DN ?_)
 exact aD
  SB
  (λ_ s=>aj [2,0,0] rfl s)
  (tl1 ((b4):(Nat)) trivial)
 exact bA;exact bA;exact bA
theorem re{δ:Type}(V:Env δ)(r:Nat)(s:MS δ)(vt:VoteT)(hv:s.vote=some vt)(hpt:vt.putting=true)[OkR V.toDk s]:DT 113 #[.pointer (some ⟨r,0,none⟩), .iface V.T V.ov] T0 [cA V r s] (dG (λ_ H=>H=[cA V r (j5 V.toDk s vt)])):=
 have:OkVt vt:=OkR.vote vt hv
 Leg.Does.ex (λ_ q=>l7 hv q) λvb=>wu V r vb s vt hv hpt
theorem p4{δ:Type}(V:Env δ)(r:Nat)(s:MS δ)(from':Int)(m:MsgT)[OkR V.toDk s][OkMg m](hfe:from'=s.id→m.epoch=s.view.epoch)(hk:m.kind=4):TK V r 105 s from' m (p5 V.toDk s from' m):=nC (by omega) (by
 cases hv:s.vote with
 |none=>exact jU V r s (oB V.toDk from' m) from' m hfe (λe=>by omega) (λe=>by omega) (λ_=>by rw[oB,show(da s (max s.round m.ballot.round)).vote=none from hv]) (λ_=>hv)
 |some vt=>
  have hov:OkVt vt:=OkR.vote vt hv;have h:=oF V r s vt from' m hfe (.inl hk) hv (λ_ h2=>re V r (kE (da s (max s.round m.ballot.round)) (ey vt from' m.ballot m.had m.change).1) (ey vt from' m.ballot m.had m.change).1 rfl (Be h2))
  rwa [show(λs_:MS δ=>if m.kind=4 then oB V.toDk from' m s_ else kG V.toDk from' m s_)=oB V.toDk from' m from funext λ_=>if_pos hk]at h)
theorem wn{δ:Type}(V:Env δ)(r:Nat)(s:MS δ)(from':Int)(m:MsgT)[OkR V.toDk s][OkMg m](hep:m.epoch=s.view.epoch):
 DT 170 #[(.pointer (some ⟨r,0,none⟩)),(.iface V.T V.ov),(.int .i64 (from')),(.agg (ints m.flat).toArray)] T0 [cA V r s] (dG (λ_ H=>H=[cA V r (pd V.toDk from' m s)])):=by
 refine BD 57 Tryz.func170 rfl rfl rfl λw0 F hF=>?_
 have hpm:OkMg (j0 m.epoch m.ballot (bP s.acc m.epoch m.ballot).1.had (bP s.acc m.epoch m.ballot).1.change):=OkMg.promM m.epoch inferInstance;refine sr λ_ J1=>XY (ints m.flat) λb7=>?_
 refine nx J1 (aa λ_ J2=>eH (α:=(Nat)) (λb8=>True) (λb8=>[(0,(.pointer (some ⟨r,0,none⟩))),(1,(.iface V.T V.ov)),(2,(.int .i64 (from'))),(7,(.pointer (some ⟨b7,0,none⟩))),(8,(.pointer (some ⟨b8,0,none⟩))),(9,(.bool ((bP s.acc m.epoch m.ballot).2)))]) (λb8=>[cA V r s,ak b7 (ints m.flat) 178,ak b8 (ints ((bP s.acc m.epoch m.ballot).1).flat) 118]) (λb8 hinv=>?_) (λtl2=>?_));have _:=hinv;refine ac J2 (aa λ_ J3=>sr λ_ J4=>PS ?_);refine aX ?_ ?_<;>intro h22;refine PS ?_;refine nx J4 (CN (qx J3 (aa λ_ J5=>aa λ_ J6=>DC bc (BL 2) (cK 0 rfl rfl) ?_)));refine FD 0 1 im cp ?_;refine ta 1 rfl (aJ (vs:=ints (((bP s.acc m.epoch m.ballot).1).vow).flat) rfl jC rfl cp rfl (λ_ h=>h.2.1) (am (((bP s.acc m.epoch m.ballot).1).vow)) (Mx ((bP s.acc m.epoch m.ballot).1) 0 rfl (by decide) (bj (am (((bP s.acc m.epoch m.ballot).1).vow))))) ?_;refine PD 2 ?_;refine PD 3 ?_;refine FD 4 1058 bh di ?_;refine FD 5 1059 im cp ?_;refine ta 6 rfl (fz (vs:=ints s.acc.vow.flat) rfl jC rfl cp rfl (λ_ h=>h.2.2.1) (am s.acc.vow) (λa_=>(wS (s.rep a_) 1 rfl (by decide) (Mx ((s.rep a_).acc) 0 rfl (by decide) (bj (am (((s.rep a_).acc).vow))))))) ?_
 refine ta 7 rfl (we (a:=(((bP s.acc m.epoch m.ballot).1).vow).flat) (b:=s.acc.vow.flat) (m:=6) (c:=2) IH IF rfl I4 (c7 (am (((bP s.acc m.epoch m.ballot).1).vow))) (c7 (am s.acc.vow)) ⟨fo ER E3 (c7 (am (((bP s.acc m.epoch m.ballot).1).vow))),fo ER E3 (c7 (am s.acc.vow))⟩ (OkAc.vow inferInstance) (OkAc.vow inferInstance) rfl rfl rfl) ?_;refine gX ?_ ?_<;>intro h31;refine DN (ac J6 (CY (aa λ_ J7=>sr λ_ J8=>PS ?_)));refine FA 177 aY aM ?_;refine LU 1 Y3 (el m rfl) ?_;refine FA 178 aY cp ?_;refine LV 1 jC cp am nt (y:=m.ballot) ?_;refine tp (kq RecT.zero (RecT.mk 3 0 RowT.zero m.epoch m.ballot ChangeT.zero ViewT.zero) [(0,[Value.int .i64 3]),(3,[Value.int .i64 m.epoch]),(4,ints m.ballot.flat)] io eL (g:=RecT.sg)) ?_;refine CE vc (km V r s (gz m.epoch m.ballot)) ID ?_;refine PS ?_;refine ao ?_ ?_<;>intro h39;refine nx J8 (CY (ai (ad (ad (WK [0] (du rfl ?_))))));exact MQ (by rw[pd,if_neg (by rw[h22];decide),if_pos h31,if_pos h39]);refine nx J8 (CN (qx J7 (ae (PS ?_))));refine LW 2 im di aV ?_;refine PS ?_;refine FA 1058 bh di ?_
 refine gr (vs:=ints ((bP s.acc m.epoch m.ballot).1).flat) (i:=0) (ab rfl) rfl rfl rfl rfl rfl (by rw[(aV ((bP s.acc m.epoch m.ballot).1))];exact di) (bv _) rfl rfl (λ_=>LC (cJ _) (aV _)) (λa_=>(jO ((dT V.toDk s (gz m.epoch m.ballot)).rep a_) 0 rfl (by have h1:=(aV ((bP s.acc m.epoch m.ballot).1));omega) (cu ((aV (((dT V.toDk s (gz m.epoch m.ballot)).rep a_).acc)).trans (aV ((bP s.acc m.epoch m.ballot).1)).symm)))) (nx J5 (ae (P3 ?_)));refine FA 177 aY aM ?_;refine LU 1 Y3 (el m rfl) ?_;refine FA 178 aY cp ?_;refine LV 1 jC cp am nt (y:=m.ballot) ?_;refine FA 3 im cp ?_;refine LV 2 jC cp am AccT.sp_had (y:=(((bP s.acc m.epoch m.ballot).1).had)) ?_;refine FA 5 im e9 ?_;refine LV 2 mj e9 aI AccT.sp_change (y:=(((bP s.acc m.epoch m.ballot).1).change)) ?_;refine tp (kq MsgT.zero (MsgT.mk 4 0 RowT.zero 0 m.epoch m.ballot (((bP s.acc m.epoch m.ballot).1).had) (((bP s.acc m.epoch m.ballot).1).change) ViewT.zero) [(0,[Value.int .i64 4]),(4,[Value.int .i64 m.epoch]),(5,ints m.ballot.flat),(6,ints (((bP s.acc m.epoch m.ballot).1).had).flat),(7,ints (((bP s.acc m.epoch m.ballot).1).change).flat)] aY bk (g:=MsgT.sg)) ?_
 refine CZ iB (fK V r (vW (dT V.toDk s (gz m.epoch m.ballot)) (bP s.acc m.epoch m.ballot).1) from' (j0 m.epoch m.ballot (bP s.acc m.epoch m.ballot).1.had (bP s.acc m.epoch m.ballot).1.change) (λs_=>p5 V.toDk s_ s_.id (j0 m.epoch m.ballot (bP s.acc m.epoch m.ballot).1.had (bP s.acc m.epoch m.ballot).1.change)) (λ_=>p4 V r (vW (dT V.toDk s (gz m.epoch m.ballot)) (bP s.acc m.epoch m.ballot).1) (vW (dT V.toDk s (gz m.epoch m.ballot)) (bP s.acc m.epoch m.ballot).1).id (j0 m.epoch m.ballot (bP s.acc m.epoch m.ballot).1.had (bP s.acc m.epoch m.ballot).1.change) (λ_=>hep) rfl)) ID λvR=>?_
 refine au (WK [0] (bu rfl ?_));exact MQ (by rw[pd,if_neg (by rw[h22];decide),if_pos h31,if_neg h39];rfl);refine DN (ac J6 (CN (qx J5 (ae (P3 ?_)))));refine FA 177 aY aM ?_;refine LU 1 Y3 (el m rfl) ?_;refine FA 178 aY cp ?_;refine LV 1 jC cp am nt (y:=m.ballot) ?_;refine FA 3 im cp ?_;refine LV 2 jC cp am AccT.sp_had (y:=(((bP s.acc m.epoch m.ballot).1).had)) ?_;refine FA 5 im e9 ?_;refine LV 2 mj e9 aI AccT.sp_change (y:=(((bP s.acc m.epoch m.ballot).1).change)) ?_;refine tp (kq MsgT.zero (MsgT.mk 4 0 RowT.zero 0 m.epoch m.ballot (((bP s.acc m.epoch m.ballot).1).had) (((bP s.acc m.epoch m.ballot).1).change) ViewT.zero) [(0,[Value.int .i64 4]),(4,[Value.int .i64 m.epoch]),(5,ints m.ballot.flat),(6,ints (((bP s.acc m.epoch m.ballot).1).had).flat),(7,ints (((bP s.acc m.epoch m.ballot).1).change).flat)] aY bk (g:=MsgT.sg)) ?_;refine CZ iB (fK V r s from' (j0 m.epoch m.ballot (bP s.acc m.epoch m.ballot).1.had (bP s.acc m.epoch m.ballot).1.change) (λs_=>p5 V.toDk s_ s_.id (j0 m.epoch m.ballot (bP s.acc m.epoch m.ballot).1.had (bP s.acc m.epoch m.ballot).1.change)) (λ_=>p4 V r s s.id (j0 m.epoch m.ballot (bP s.acc m.epoch m.ballot).1.had (bP s.acc m.epoch m.ballot).1.change) (λ_=>hep) rfl)) ID λvR=>?_
 refine au (WK [0] (bu rfl ?_));exact MQ (by rw[pd,if_neg (by rw[h22];decide),if_neg h31];rfl);refine PS ?_;refine nx J4 (CY (ai (ad (WK [0] (du rfl ?_)))));exact MQ (by rw[pd,if_pos h22]);refine DC bc (cK 1 rfl rfl) (BL 0) ?_;refine PD 0 ?_;refine PD 1 ?_;refine FD 2 1058 bh di ?_;refine ta 3 rfl (fz (vs:=ints s.acc.flat) rfl im rfl di rfl (λ_ h=>h.2.1) (aV s.acc) (λa_=>(wS (s.rep a_) 0 rfl (by decide) (bj (aV ((s.rep a_).acc)))))) ?_;refine FD 4 177 aY aM ?_;refine LR 5 Y3 (el m rfl) ?_;refine FD 6 178 aY cp ?_;refine ta 7 rfl (aJ (vs:=ints m.ballot.flat) rfl jC rfl cp rfl (λ_ h=>h.2.2.1) (am m.ballot) (ir m 0 rfl (by decide) (bj (am m.ballot)))) ?_;refine cE [8,12] (by kernel_rfl) rfl (aE rfl ?_ ?_);refine CE C1 (mE s.acc m.epoch m.ballot) ID ?_;refine EN (PD 9 ?_);refine PD 10 ?_;refine PD 11 ?_;refine qu ?_ ?_<;>intro h21;refine AL 12 ?_;refine XZ tT (ints AccT.zero.flat) λb8=>?_
 refine EN (AL 13 ?_);refine SW 0 di aV ?_;refine EN (PD 14 ?_);refine DN ?_
 exact aD
  (aQ (aQ (aQ (aQ (aQ (bo rfl (by rw[h21]) SB))))))
  (λ_ s=>aj [2,1,0] rfl s)
  (tl2 ((b8):(Nat)) trivial)
 refine AL 12 ?_;refine XZ tT (ints AccT.zero.flat) λb8=>?_
 refine EN (AL 13 ?_);refine SW 0 di aV ?_;refine EN (PD 14 ?_);refine DN ?_
 exact aD
  (aQ (aQ (aQ (aQ (aQ (bo rfl (by rw[h21]) SB))))))
  (λ_ s=>aj [2,1,0] rfl s)
  (tl2 ((b8):(Nat)) trivial)
 refine aE rfl ?_ ?_;refine XZ tT (ints AccT.zero.flat) λb8=>?_
 refine EN (AL 8 ?_);refine CE C1 (mE s.acc m.epoch m.ballot) ID ?_;refine EN (PD 9 ?_);refine PD 10 ?_;refine PD 11 ?_;refine qu ?_ ?_<;>intro h21;refine AL 13 ?_;refine SW 0 di aV ?_;refine EN (PD 14 ?_);refine DN ?_
 exact aD
  (aQ (aQ (aQ (aQ (aQ (bo rfl (by rw[h21]) SB))))))
  (λ_ s=>aj [2,1,0] rfl s)
  (tl2 ((b8):(Nat)) trivial)
 refine AL 13 ?_;refine SW 0 di aV ?_;refine EN (PD 14 ?_);refine DN ?_
 exact aD
  (aQ (aQ (aQ (aQ (aQ (bo rfl (by rw[h21]) SB))))))
  (λ_ s=>aj [2,1,0] rfl s)
  (tl2 ((b8):(Nat)) trivial)
 exact bA
theorem ut{δ:Type}(V:Env δ)(r:Nat)(s:MS δ)(from':Int)(m:MsgT)[OkR V.toDk s][OkMg m](hfe:from'=s.id→m.epoch=s.view.epoch)(hk:m.kind=3):TK V r 105 s from' m (sc V.toDk s from' m):=nC (by omega) (jU V r s (pd V.toDk from' m) from' m hfe (λ_ hep=>wn V r (da s (max s.round m.ballot.round)) from' m hep) (λe _=>by omega) (λe=>by omega) (λe=>by omega))
theorem ww{δ:Type}(V:Env δ)(r vb:Nat)(s:MS δ)(vt:VoteT)(hv:s.vote=some vt)(hpt:vt.putting=false)[OkR V.toDk s][OkVt vt]:
 DT 113 #[(.pointer (some ⟨r,0,none⟩)),(.iface V.T V.ov)] T0 [tQ V r s (.pointer (some ⟨vb,0,none⟩)),ak vb (VoteT.cells vt) 227] (dG (λ_ H=>H=[cA V r (l4 V.toDk s vt)])):=by
 refine BD 68 Tryz.func113 rfl rfl rfl λw0 F hF=>aa λ_ J1=>eH (α:=(Nat)) (λb4=>True) (λb4=>[(0,(.pointer (some ⟨r,0,none⟩))),(1,(.iface V.T V.ov)),(4,(.pointer (some ⟨b4,0,none⟩)))]) (λb4=>[tQ V r s (.pointer (some ⟨vb,0,none⟩)),ak vb (VoteT.cells vt) 227,ak b4 (ints (ff s.view.epoch vt.ballot).flat) 178]) (λb4 hinv=>?_) (λtl1=>?_)
 have _:=hinv;refine ac J1 (aa λ_ J2=>sr λ_ J3=>P2 ?_);refine FA 1067 bh ix ?_;refine LG 0 hZ (.pointer (some ⟨vb,0,none⟩)) ?_ (hc:=by exact λa_=>(bQ _ rfl));refine CE Ia (mV vb vt) (SM [1]) ?_;refine aX ?_ ?_<;>intro h22
 · rw[hpt]at h22;cases h22
 refine nx J3 (CN (qx J2 (sr λ_ J4=>cn (H':=cA V r s::[ak b4 (ints (ff s.view.epoch vt.ballot).flat) 178]) (λ_ q=>nc hv (aA [1,0] rfl q)) (P2 ?_))));refine FA 2 bh bf ?_;refine LZ 0 eF bf an s.view ?_ (hc:=by exact λ_=>cT _);refine XZ sK (ints ViewT.zero.flat) λb5=>?_
 refine SW 0 bf an ?_;refine nx J4 (aa λ_ J5=>sr λ_ J6=>PS ?_);refine nx J6 (aq ?_)
 refine bF (α:=(Nat)) (λk=>k≤5) (λk=>[(0,(.pointer (some ⟨r,0,none⟩))),(1,(.iface V.T V.ov)),(4,(.pointer (some ⟨b4,0,none⟩))),(5,(.pointer (some ⟨b5,0,none⟩))),(34,(.int .i64 (((k:Nat):Int))))]) (λk=>[ak b5 (ints s.view.flat) 44,ak b4 (ints (ff s.view.epoch vt.ballot).flat) 178,cA V r (ii V.toDk s (m9 s.id (ff s.view.epoch vt.ballot) (λi=>ij s.view ((i:Nat):Int)) k))]) (λk=>5-k) 0
  (aR _) SB
  (λ_ q=>by
  rw[show m9 s.id (ff s.view.epoch vt.ballot) (λi=>ij s.view ((i:Nat):Int)) 0=[]from rfl,oO]
  exact aj [0,1,0] rfl q) (λk hinv=>?_)
 obtain hk:=hinv;refine sr λ_ J7=>PS ?_
 refine ao ?_ ?_<;>intro h35;refine nx J7 (aa λ_ J8=>CY (qx J8 (aa λ_ J9=>aq (sr λ_ J10=>P2 ?_))));refine nx J10 (sr λ_ J11=>P3 ?_);refine FA 0 bh aM ?_;refine LG 2 Y3 (.int .i64 (s.id)) ?_ (hc:=by exact λa_=>(cv _ rfl));refine PS ?_;refine ao ?_ ?_<;>intro h42;refine PS ?_;refine LW 0 eF bf an ?_;refine PS ?_;refine CE oT (dq s.view ((k:Nat):Int)) ID ?_;refine aX ?_ ?_<;>intro h46;refine PS ?_;refine nx J11 (CY (ae (P3 ?_)));refine LW 1 aY bW aG ?_;refine CZ iB (mZ V r s (m9 s.id (ff s.view.epoch vt.ballot) (λi=>ij s.view ((i:Nat):Int)) k) ((k:Nat):Int) (ff s.view.epoch vt.ballot) h42) (SM [2]) λvR=>?_
 refine au (ag (ac J9 (ae (AD ?_))));refine PS ?_;refine au ?_
 exact aL ((k+1):(Nat)) (by omega) (by show 5- (k+1)<5-k;omega)
  SB
  (λ_ q=>by
   rw[hJ,if_pos ⟨h42,h46⟩]
   exact aj [1,1,0] rfl q)
 refine PS ?_;refine nx J11 (CN (aS (ag (ac J9 (ae (AD ?_))))));refine PS ?_;refine au ?_
 exact aL ((k+1):(Nat)) (by omega) (by show 5- (k+1)<5-k;omega)
  SB
  (λ_ q=>by
   rw[hJ,if_neg (λh=>by have:=h.2;rw[h46]at this;cases this)];rw[aT]
   exact aj [0,0,0] rfl q)
 refine PS ?_
 iterate 3 refine UF ?_
 refine PS ?_;refine nx J11 (CN (aS (ag (ac J9 (ae (AD ?_))))));refine PS ?_;refine au ?_
 exact aL ((k+1):(Nat)) (by omega) (by show 5- (k+1)<5-k;omega)
  SB
  (λ_ q=>by
   rw[hJ,if_neg (λh=>h42 h.1)];rw[aT]
   exact aj [0,0,0] rfl q)
 obtain rfl:k=5:=by omega
 refine nx J7 (aa λ_ J12=>CN (bg (aF (aF (bD (ac J5 (aa λ_ J13=>DC bc (BL 0) (cK 2 rfl rfl) ?_)))))));refine LY 0 eF bf an ?_;refine PD 1 ?_;refine PD 2 ?_;refine FD 3 0 bh aM ?_;refine ta 4 rfl (cX (v:=(.int .i64 ((jg V.toDk s (ff s.view.epoch vt.ballot)).id))) rfl Y3 rfl rfl (λ_ h=>h.2.2.1) (λa_=>(cv _ rfl))) ?_;refine AL 5 ?_;refine CE oT (dq s.view ((jg V.toDk s (ff s.view.epoch vt.ballot)).id)) ID ?_;refine aX ?_ ?_<;>intro h59;refine EN (DN (ac J13 (CY (D1 1 bc ?_))));refine PD 0 ?_;refine PD 1 ?_;refine PD 2 ?_;refine PD 3 ?_;refine FD 4 0 bh aM ?_;refine LY 6 aY bW aG ?_;refine AL 5 ?_;refine LG 2 Y3 (.int .i64 ((jg V.toDk s (ff s.view.epoch vt.ballot)).id)) ?_ (hc:=by exact λa_=>(cv _ rfl));refine EN (AL 7 ?_);refine CZ iB (fK V r (jg V.toDk s (ff s.view.epoch vt.ballot)) s.id (ff s.view.epoch vt.ballot) (λs_=>sc V.toDk s_ s_.id (ff s.view.epoch vt.ballot)) (λ_=>ut V r (jg V.toDk s (ff s.view.epoch vt.ballot)) s.id (ff s.view.epoch vt.ballot) (λ_=>rfl) rfl)) (SM [2]) λvR=>?_
 refine EN (DN (WK [0] (bu rfl ?_)));exact MQ (by rw[l4,jo,if_pos (show ij s.view s.id=true from h59),mA,if_pos (show s.id=(jg V.toDk s (ff s.view.epoch vt.ballot)).id from rfl)]<;>rfl);refine EN (DN (ac J13 (CN (aS (WK [2] (bu rfl ?_))))));exact MQ (by rw[l4,jo,if_neg (by rw[show ij s.view s.id=false from h59];decide)]<;>rfl);refine D1 1 bc ?_;refine PD 0 ?_;refine PD 1 ?_;refine FD 2 2 bh bf ?_;refine FD 3 2 eF aM ?_;refine PD 5 ?_;refine PD 6 ?_;refine FD 7 1067 bh ix ?_;refine cE [4,8,11] (by kernel_rfl) rfl (aE rfl ?_ ?_);refine LG 0 Y3 (.int .i64 (s.view.epoch)) ?_ (hc:=by exact λa_=>(ca (s.rep ⟨(a_:Nat×Value).1,(.pointer (some ⟨vb,0,none⟩)),a_.2⟩) 0 rfl (by decide) (be _ rfl)));refine EN (cE [8,11] (by kernel_rfl) rfl (aE rfl ?_ ?_));refine LG 0 hZ (.pointer (some ⟨vb,0,none⟩)) ?_ (hc:=by exact λa_=>(bQ _ rfl));refine EN (cE [9,11] (by kernel_rfl) rfl (aE rfl ?_ ?_));refine CE je (bB vb vt) (SM [1]) ?_;refine EN (ta 10 rfl (kq MsgT.zero (MsgT.mk 3 0 RowT.zero 0 s.view.epoch vt.ballot BallotT.zero ChangeT.zero ViewT.zero) [(0,[Value.int .i64 3]),(4,[Value.int .i64 s.view.epoch]),(5,ints vt.ballot.flat)] aY bk (g:=MsgT.sg)) ?_);refine AL 11 ?_;refine XZ lD (ints MsgT.zero.flat) λb4=>?_
 refine EN (AL 12 ?_);refine SW 0 bW aG ?_;refine EN (DN ?_)
 exact aD
  SB
  (λ_ s=>aj [2,1,0] rfl s)
  (tl1 ((b4):(Nat)) trivial)
 refine aE rfl ?_ ?_;refine XZ lD (ints MsgT.zero.flat) λb4=>?_
 refine EN (AL 9 ?_);refine CE je (bB vb vt) (SM [2]) ?_;refine EN (ta 10 rfl (kq MsgT.zero (MsgT.mk 3 0 RowT.zero 0 s.view.epoch vt.ballot BallotT.zero ChangeT.zero ViewT.zero) [(0,[Value.int .i64 3]),(4,[Value.int .i64 s.view.epoch]),(5,ints vt.ballot.flat)] aY bk (g:=MsgT.sg)) ?_);refine AL 12 ?_;refine SW 1 bW aG ?_;refine EN (DN ?_)
 exact aD
  SB
  (λ_ s=>aj [2,0,0] rfl s)
  (tl1 ((b4):(Nat)) trivial)
 exact bA;refine aE rfl ?_ ?_;refine XZ lD (ints MsgT.zero.flat) λb4=>?_
 refine EN (AL 8 ?_);refine LG 1 hZ (.pointer (some ⟨vb,0,none⟩)) ?_ (hc:=by exact λa_=>(bQ _ rfl));refine EN (AL 9 ?_);refine CE je (bB vb vt) (SM [2]) ?_;refine EN (ta 10 rfl (kq MsgT.zero (MsgT.mk 3 0 RowT.zero 0 s.view.epoch vt.ballot BallotT.zero ChangeT.zero ViewT.zero) [(0,[Value.int .i64 3]),(4,[Value.int .i64 s.view.epoch]),(5,ints vt.ballot.flat)] aY bk (g:=MsgT.sg)) ?_);refine AL 12 ?_;refine SW 1 bW aG ?_;refine EN (DN ?_)
 exact aD
  SB
  (λ_ s=>aj [2,0,0] rfl s)
  (tl1 ((b4):(Nat)) trivial)
 exact bA;refine aE rfl ?_ ?_;refine LG 0 hZ (.pointer (some ⟨vb,0,none⟩)) ?_ (hc:=by exact λa_=>(bQ _ rfl));refine EN (cE [4,9,11] (by kernel_rfl) rfl (aE rfl ?_ ?_));refine LG 0 Y3 (.int .i64 (s.view.epoch)) ?_ (hc:=by exact λa_=>(ca (s.rep ⟨(a_:Nat×Value).1,(.pointer (some ⟨vb,0,none⟩)),a_.2⟩) 0 rfl (by decide) (be _ rfl)));refine EN (cE [9,11] (by kernel_rfl) rfl (aE rfl ?_ ?_));refine CE je (bB vb vt) (SM [1]) ?_;refine EN (ta 10 rfl (kq MsgT.zero (MsgT.mk 3 0 RowT.zero 0 s.view.epoch vt.ballot BallotT.zero ChangeT.zero ViewT.zero) [(0,[Value.int .i64 3]),(4,[Value.int .i64 s.view.epoch]),(5,ints vt.ballot.flat)] aY bk (g:=MsgT.sg)) ?_);refine AL 11 ?_;refine XZ lD (ints MsgT.zero.flat) λb4=>?_
 refine EN (AL 12 ?_);refine SW 0 bW aG ?_;refine EN (DN ?_)
 exact aD
  SB
  (λ_ s=>aj [2,1,0] rfl s)
  (tl1 ((b4):(Nat)) trivial)
 refine aE rfl ?_ ?_;refine XZ lD (ints MsgT.zero.flat) λb4=>?_
 refine EN (AL 9 ?_);refine CE je (bB vb vt) (SM [2]) ?_;refine EN (ta 10 rfl (kq MsgT.zero (MsgT.mk 3 0 RowT.zero 0 s.view.epoch vt.ballot BallotT.zero ChangeT.zero ViewT.zero) [(0,[Value.int .i64 3]),(4,[Value.int .i64 s.view.epoch]),(5,ints vt.ballot.flat)] aY bk (g:=MsgT.sg)) ?_);refine AL 12 ?_;refine SW 1 bW aG ?_;refine EN (DN ?_)
 exact aD
  SB
  (λ_ s=>aj [2,0,0] rfl s)
  (tl1 ((b4):(Nat)) trivial)
 exact bA;refine aE rfl ?_ ?_;refine CE je (bB vb vt) (SM [1]) ?_;refine EN (cE [4,11] (by kernel_rfl) rfl (aE rfl ?_ ?_));refine LG 1 Y3 (.int .i64 (s.view.epoch)) ?_ (hc:=by exact λa_=>(ca (s.rep ⟨(a_:Nat×Value).1,(.pointer (some ⟨vb,0,none⟩)),a_.2⟩) 0 rfl (by decide) (be _ rfl)));refine EN (ta 10 rfl (kq MsgT.zero (MsgT.mk 3 0 RowT.zero 0 s.view.epoch vt.ballot BallotT.zero ChangeT.zero ViewT.zero) [(0,[Value.int .i64 3]),(4,[Value.int .i64 s.view.epoch]),(5,ints vt.ballot.flat)] aY bk (g:=MsgT.sg)) ?_);refine AL 11 ?_;refine XZ lD (ints MsgT.zero.flat) λb4=>?_
 refine EN (AL 12 ?_);refine SW 0 bW aG ?_;refine EN (DN ?_)
 exact aD
  SB
  (λ_ s=>aj [2,1,0] rfl s)
  (tl1 ((b4):(Nat)) trivial)
 refine aE rfl ?_ ?_;refine XZ lD (ints MsgT.zero.flat) λb4=>?_
 refine EN (AL 4 ?_);refine LG 2 Y3 (.int .i64 (s.view.epoch)) ?_ (hc:=by exact λa_=>(ca (s.rep ⟨(a_:Nat×Value).1,(.pointer (some ⟨vb,0,none⟩)),a_.2⟩) 0 rfl (by decide) (be _ rfl)));refine EN (ta 10 rfl (kq MsgT.zero (MsgT.mk 3 0 RowT.zero 0 s.view.epoch vt.ballot BallotT.zero ChangeT.zero ViewT.zero) [(0,[Value.int .i64 3]),(4,[Value.int .i64 s.view.epoch]),(5,ints vt.ballot.flat)] aY bk (g:=MsgT.sg)) ?_);refine AL 12 ?_;refine SW 0 bW aG ?_;refine EN (DN ?_)
 exact aD
  SB
  (λ_ s=>aj [2,1,0] rfl s)
  (tl1 ((b4):(Nat)) trivial)
 exact bA;refine aE rfl ?_ ?_;refine XZ lD (ints MsgT.zero.flat) λb4=>?_
 refine EN (cE [4,9] (by kernel_rfl) rfl (aE rfl ?_ ?_));refine LG 1 Y3 (.int .i64 (s.view.epoch)) ?_ (hc:=by exact λa_=>(ca (s.rep ⟨(a_:Nat×Value).1,(.pointer (some ⟨vb,0,none⟩)),a_.2⟩) 0 rfl (by decide) (be _ rfl)));refine EN (AL 9 ?_);refine CE je (bB vb vt) (SM [2]) ?_;refine EN (ta 10 rfl (kq MsgT.zero (MsgT.mk 3 0 RowT.zero 0 s.view.epoch vt.ballot BallotT.zero ChangeT.zero ViewT.zero) [(0,[Value.int .i64 3]),(4,[Value.int .i64 s.view.epoch]),(5,ints vt.ballot.flat)] aY bk (g:=MsgT.sg)) ?_);refine AL 12 ?_;refine SW 1 bW aG ?_;refine EN (DN ?_)
 exact aD
  SB
  (λ_ s=>aj [2,0,0] rfl s)
  (tl1 ((b4):(Nat)) trivial)
 refine aE rfl ?_ ?_;refine CE je (bB vb vt) (SM [2]) ?_;refine EN (AL 4 ?_);refine LG 2 Y3 (.int .i64 (s.view.epoch)) ?_ (hc:=by exact λa_=>(ca (s.rep ⟨(a_:Nat×Value).1,(.pointer (some ⟨vb,0,none⟩)),a_.2⟩) 0 rfl (by decide) (be _ rfl)));refine EN (ta 10 rfl (kq MsgT.zero (MsgT.mk 3 0 RowT.zero 0 s.view.epoch vt.ballot BallotT.zero ChangeT.zero ViewT.zero) [(0,[Value.int .i64 3]),(4,[Value.int .i64 s.view.epoch]),(5,ints vt.ballot.flat)] aY bk (g:=MsgT.sg)) ?_);refine AL 12 ?_;refine SW 1 bW aG ?_;refine EN (DN ?_)
 exact aD
  SB
  (λ_ s=>aj [2,0,0] rfl s)
  (tl1 ((b4):(Nat)) trivial)
 exact bA;exact bA;refine aE rfl ?_ ?_;refine XZ lD (ints MsgT.zero.flat) λb4=>?_
 refine EN (cE [4,8] (by kernel_rfl) rfl (aE rfl ?_ ?_));refine LG 1 Y3 (.int .i64 (s.view.epoch)) ?_ (hc:=by exact λa_=>(ca (s.rep ⟨(a_:Nat×Value).1,(.pointer (some ⟨vb,0,none⟩)),a_.2⟩) 0 rfl (by decide) (be _ rfl)));refine EN (AL 8 ?_);refine LG 1 hZ (.pointer (some ⟨vb,0,none⟩)) ?_ (hc:=by exact λa_=>(bQ _ rfl));refine EN (AL 9 ?_);refine CE je (bB vb vt) (SM [2]) ?_;refine EN (ta 10 rfl (kq MsgT.zero (MsgT.mk 3 0 RowT.zero 0 s.view.epoch vt.ballot BallotT.zero ChangeT.zero ViewT.zero) [(0,[Value.int .i64 3]),(4,[Value.int .i64 s.view.epoch]),(5,ints vt.ballot.flat)] aY bk (g:=MsgT.sg)) ?_);refine AL 12 ?_;refine SW 1 bW aG ?_;refine EN (DN ?_)
 exact aD
  SB
  (λ_ s=>aj [2,0,0] rfl s)
  (tl1 ((b4):(Nat)) trivial)
 refine aE rfl ?_ ?_;refine LG 1 hZ (.pointer (some ⟨vb,0,none⟩)) ?_ (hc:=by exact λa_=>(bQ _ rfl));refine EN (cE [4,9] (by kernel_rfl) rfl (aE rfl ?_ ?_));refine LG 1 Y3 (.int .i64 (s.view.epoch)) ?_ (hc:=by exact λa_=>(ca (s.rep ⟨(a_:Nat×Value).1,(.pointer (some ⟨vb,0,none⟩)),a_.2⟩) 0 rfl (by decide) (be _ rfl)));refine EN (AL 9 ?_);refine CE je (bB vb vt) (SM [2]) ?_;refine EN (ta 10 rfl (kq MsgT.zero (MsgT.mk 3 0 RowT.zero 0 s.view.epoch vt.ballot BallotT.zero ChangeT.zero ViewT.zero) [(0,[Value.int .i64 3]),(4,[Value.int .i64 s.view.epoch]),(5,ints vt.ballot.flat)] aY bk (g:=MsgT.sg)) ?_);refine AL 12 ?_;refine SW 1 bW aG ?_;refine EN (DN ?_)
 exact aD
  SB
  (λ_ s=>aj [2,0,0] rfl s)
  (tl1 ((b4):(Nat)) trivial)
 refine aE rfl ?_ ?_;refine CE je (bB vb vt) (SM [2]) ?_;refine EN (AL 4 ?_);refine LG 2 Y3 (.int .i64 (s.view.epoch)) ?_ (hc:=by exact λa_=>(ca (s.rep ⟨(a_:Nat×Value).1,(.pointer (some ⟨vb,0,none⟩)),a_.2⟩) 0 rfl (by decide) (be _ rfl)));refine EN (ta 10 rfl (kq MsgT.zero (MsgT.mk 3 0 RowT.zero 0 s.view.epoch vt.ballot BallotT.zero ChangeT.zero ViewT.zero) [(0,[Value.int .i64 3]),(4,[Value.int .i64 s.view.epoch]),(5,ints vt.ballot.flat)] aY bk (g:=MsgT.sg)) ?_);refine AL 12 ?_;refine SW 1 bW aG ?_;refine EN (DN ?_)
 exact aD
  SB
  (λ_ s=>aj [2,0,0] rfl s)
  (tl1 ((b4):(Nat)) trivial)
 exact bA;exact bA;exact bA
theorem yy{δ:Type}(V:Env δ)(r:Nat)(s:MS δ)(vt:VoteT)(hv:s.vote=some vt)(hpt:vt.putting=false)[OkR V.toDk s]:DT 113 #[.pointer (some ⟨r,0,none⟩), .iface V.T V.ov] T0 [cA V r s] (dG (λ_ H=>H=[cA V r (l4 V.toDk s vt)])):=
 have:OkVt vt:=OkR.vote vt hv
 Leg.Does.ex (λ_ q=>l7 hv q) λvb=>ww V r vb s vt hv hpt
theorem p9{δ:Type}(V:Env δ)(r:Nat)(s:MS δ)(vt:VoteT)(hv:s.vote=some vt)[OkR V.toDk s]:DT 113 #[.pointer (some ⟨r,0,none⟩), .iface V.T V.ov] T0 [cA V r s] (dG (λ_ H=>H=[cA V r (m8 V.toDk s vt)])):=by
 cases hp:vt.putting with
 |true=>rw[m8,if_pos hp];exact re V r s vt hv hp
 |false=>rw[m8,if_neg (by rw[hp];decide)];exact yy V r s vt hv hp
theorem yg{δ:Type}(V:Env δ)(r:Nat)(s:MS δ)(from':Int)(m:MsgT)[OkR V.toDk s][OkMg m](hto:from'≠s.id)(hrs:s.replies.length≤1000000):TK V r 105 s from' m (fI V.toDk s from' m):=by
 have hfe:from'=s.id→m.epoch=s.view.epoch:=λe=>absurd e hto
 by_cases h3:m.kind=3
 · rw[fI];simp only[h3];exact ut V r s from' m hfe h3
 by_cases h4:m.kind=4
 · rw[fI];simp only[h4];exact p4 V r s from' m hfe h4
 by_cases h5:m.kind=5
 · rw[fI];simp only[h5];exact uq V r s from' m hfe h5
 by_cases h6:m.kind=6
 · rw[fI];simp only[h6];exact p2 V r s from' m hfe h6
 refine nD V r s _ from' m (λh=>?_) (λh=>?_) (λh=>?_) (λh=>?_) (λh=>?_) (λh=>?_) (λh=>by omega) (λh=>?_)
 · rw[fI,if_pos h];exact wl V r s from' m hto
 · rw[fI,if_neg (by omega),if_pos h];exact uo V r s from' m hrs
 · rw[fI,if_neg (by omega),if_neg (by omega),if_pos h]
 · rw[fI,if_neg (by omega),if_neg (by omega),if_neg (by omega),if_pos h];exact s7 V r s m.view
 · rw[fI,if_neg (by omega),if_neg (by omega),if_neg (by omega),if_neg (by omega),if_pos h];exact um V r s from' m
 · rw[fI,if_neg (by omega),if_neg (by omega),if_neg (by omega),if_neg (by omega),if_neg (by omega),if_pos h];exact mX V r s from' m
 · rw[fI,if_neg h.1,if_neg h.2.1,if_neg h.2.2.1,if_neg h.2.2.2.1,if_neg h.2.2.2.2.1,if_neg h.2.2.2.2.2.1,if_neg h3,if_neg h4,if_neg h5,if_neg h6]
theorem pa{δ:Type}(V:Env δ)(r:Nat)(s:MS δ)(c:ChangeT)[OkR V.toDk s][OkCh c]:
 DT 112 #[(.pointer (some ⟨r,0,none⟩)),(.agg (ints c.flat).toArray)] T0 [cA V r s] (RI (.int .i64 (ck V.toDk s c).2) [cA V r (ck V.toDk s c).1]):=by
 refine BD 66 Tryz.func112 rfl rfl rfl λw0 F hF=>sr λ_ J1=>XY (ints c.flat) λb3=>?_
 refine PS ?_;refine nx J1 (aa λ_ J2=>eH (α:=(Nat)) (λb5=>True) (λb5=>[(0,(.pointer (some ⟨r,0,none⟩))),(3,(.pointer (some ⟨b3,0,none⟩))),(4,(.int .i64 0)),(5,(.pointer (some ⟨b5,0,none⟩)))]) (λb5=>[cA V r s,ak b3 (ints c.flat) 28,ak b5 (ints (ei s).flat) 88]) (λb5 hinv=>?_) (λtl2=>?_));have _:=hinv;refine ac J2 (aa λ_ J3=>eH (α:=(Nat)) (λb6=>True) (λb6=>[(0,(.pointer (some ⟨r,0,none⟩))),(3,(.pointer (some ⟨b3,0,none⟩))),(4,(.int .i64 0)),(5,(.pointer (some ⟨b5,0,none⟩))),(6,(.pointer (some ⟨b6,0,none⟩))),(7,(.bool ((bP s.acc s.view.epoch (ei s)).2)))]) (λb6=>[cA V r s,ak b3 (ints c.flat) 28,ak b5 (ints (ei s).flat) 88,ak b6 (ints ((bP s.acc s.view.epoch (ei s)).1).flat) 118]) (λb6 hinv=>?_) (λtl3=>?_));have _:=hinv;refine ac J3 (aa λ_ J4=>sr λ_ J5=>PS ?_);refine aX ?_ ?_<;>intro h33;refine PS ?_;refine nx J5 (CN (qx J4 (aa λ_ J6=>aa λ_ J7=>DC bc (cK 0 rfl rfl) (BL 2) ?_)));refine PD 0 ?_;refine PD 1 ?_;refine PD 2 ?_;refine FD 3 2 bh bf ?_;refine FD 4 2 eF aM ?_;refine ta 5 rfl (cX (v:=(.int .i64 (s.view.epoch))) rfl Y3 rfl rfl (λ_ h=>h.2.1) (λa_=>(ca (s.rep a_) 0 rfl (by decide) (be _ rfl)))) ?_;refine LY 6 jC cp am ?_;refine ta 7 rfl (kq RecT.zero (RecT.mk 3 0 RowT.zero s.view.epoch (ei s) ChangeT.zero ViewT.zero) [(0,[Value.int .i64 3]),(3,[Value.int .i64 s.view.epoch]),(4,ints (ei s).flat)] io eL (g:=RecT.sg)) ?_
 refine AL 8 ?_;refine CE vc (km V r s (gz s.view.epoch (ei s))) ID ?_;refine EN (PD 9 ?_);refine DN (ac J7 (sr λ_ J8=>P2 ?_));refine ao ?_ ?_<;>intro h45;refine nx J8 (CY (sr λ_ J9=>P2 ?_));refine nx J9 (ai (ad (WK [0] (ap rfl rfl ?_))));have e:ck V.toDk s c=(dT V.toDk s (gz s.view.epoch (ei s)),rc V.toDk s (gz s.view.epoch (ei s))):=by rw[ck,if_neg (by rw[h33];decide),if_pos h45]
 exact jd e;refine KW (H':=λvo:Value=>tQ V r (dT V.toDk s (gz s.view.epoch (ei s))) vo::[ak b3 (ints c.flat) 28,ak b5 (ints (ei s).flat) 88,ak b6 (ints ((bP s.acc s.view.epoch (ei s)).1).flat) 118]) (λ_ q=>C8 q) (λvo=>nx J8 (CN (qx J6 (aa λ_ J10=>D2 3 2 bc ?_))));refine PD 0 ?_;refine PD 1 ?_;refine LY 2 im di aV ?_;refine FD 3 0 jC aM ?_;refine LX 4 Y3 (.int .i64 ((ei s).round)) ?_ (hc:=by exact eQ _ rfl);refine PD 5 ?_;refine FD 6 1058 bh di ?_;refine AL 7 ?_;refine gr (vs:=ints ((bP s.acc s.view.epoch (ei s)).1).flat) (i:=0) (ab rfl) rfl rfl rfl rfl rfl (by rw[(aV ((bP s.acc s.view.epoch (ei s)).1))];exact di) (bv _) rfl rfl (λ_=>LC (cJ _) (aV _)) (λa_=>(jO ((dT V.toDk s (gz s.view.epoch (ei s))).rep ⟨(a_:Nat×Value).1,vo,a_.2⟩) 0 rfl (by have h1:=(aV ((bP s.acc s.view.epoch (ei s)).1));omega) (cu ((aV (((dT V.toDk s (gz s.view.epoch (ei s))).rep ⟨(a_:Nat×Value).1,vo,a_.2⟩).acc)).trans (aV ((bP s.acc s.view.epoch (ei s)).1)).symm)))) (EN (PD 8 ?_));refine FD 9 1066 bh aM ?_;refine AL 10 ?_;refine SK 0 aM (λ_=>cJ _) ?_ (hc:=by exact λa_=>(kY _ rfl _));refine EN (DN (ac J10 (aa λ_ J11=>D2 2 1 bc ?_)));refine PD 0 ?_;refine PD 1 ?_;refine PD 2 ?_;refine FD 3 2 bh bf ?_;refine LY 5 jC cp am ?_;refine LY 6 mj e9 aI ?_;refine AL 4 ?_;refine LZ 0 eF bf an s.view ?_ (hc:=by exact λ_=>cT _);refine EN (AL 7 ?_);refine CR Ks (yb s.view (ei s) c) ID λvR HR hR=>?_
 obtain⟨vb,rfl,rfl⟩:=hR;refine EN (PD 8 ?_);refine FD 9 1067 bh ix ?_;refine AL 10 ?_;refine SK 1 ix (λ_=>cJ _) ?_ (hc:=by exact λa_=>(Md _ rfl _));refine EN (DN (ac J11 (sr λ_ J12=>PS ?_)));refine nx J12 (ai (aD (H':=[cA V r (qo V.toDk s c)]) (dK _) (λ_ q=>nb (aj [1,0] rfl q)) (ap rfl rfl ?_)));have e:ck V.toDk s c=(qo V.toDk s c,0):=by rw[ck,if_neg (by rw[h33];decide),if_neg h45]
 exact jd e;refine PS ?_;refine nx J5 (CY (sr λ_ J13=>PS ?_));refine nx J13 (ai (ad (WK [0] (ap rfl rfl ?_))));have e:ck V.toDk s c=(s,6):=if_pos h33;exact jd e;refine DC bc (cK 0 rfl rfl) (BL 2) ?_;refine PD 0 ?_;refine PD 1 ?_;refine FD 2 1058 bh di ?_;refine ta 3 rfl (fz (vs:=ints s.acc.flat) rfl im rfl di rfl (λ_ h=>h.2.1) (aV s.acc) (λa_=>(wS (s.rep a_) 0 rfl (by decide) (bj (aV ((s.rep a_).acc)))))) ?_;refine PD 4 ?_;refine PD 5 ?_;refine FD 6 2 bh bf ?_;refine FD 7 2 eF aM ?_;refine ta 8 rfl (cX (v:=(.int .i64 (s.view.epoch))) rfl Y3 rfl rfl (λ_ h=>h.2.1) (λa_=>(ca (s.rep a_) 0 rfl (by decide) (be _ rfl)))) ?_;refine LY 9 jC cp am ?_;refine cE [10,14] (by kernel_rfl) rfl (aE rfl ?_ ?_);refine CE C1 (mE s.acc s.view.epoch (ei s)) ID ?_;refine EN (PD 11 ?_);refine PD 12 ?_;refine PD 13 ?_;refine qu ?_ ?_<;>intro h32;refine AL 14 ?_;refine XZ tT (ints AccT.zero.flat) λb6=>?_
 refine EN (AL 15 ?_);refine SW 0 di aV ?_;refine EN (PD 16 ?_);refine DN ?_
 exact aD
  (aQ (aQ (aQ (aQ (aQ (bo rfl (by rw[h32]) SB))))))
  (λ_ s=>aj [1,1,1,0] rfl s)
  (tl3 ((b6):(Nat)) trivial)
 refine AL 14 ?_;refine XZ tT (ints AccT.zero.flat) λb6=>?_
 refine EN (AL 15 ?_);refine SW 0 di aV ?_;refine EN (PD 16 ?_);refine DN ?_
 exact aD
  (aQ (aQ (aQ (aQ (aQ (bo rfl (by rw[h32]) SB))))))
  (λ_ s=>aj [1,1,1,0] rfl s)
  (tl3 ((b6):(Nat)) trivial)
 refine aE rfl ?_ ?_;refine XZ tT (ints AccT.zero.flat) λb6=>?_
 refine EN (AL 10 ?_);refine CE C1 (mE s.acc s.view.epoch (ei s)) ID ?_;refine EN (PD 11 ?_);refine PD 12 ?_;refine PD 13 ?_;refine qu ?_ ?_<;>intro h32;refine AL 15 ?_;refine SW 0 di aV ?_;refine EN (PD 16 ?_);refine DN ?_
 exact aD
  (aQ (aQ (aQ (aQ (aQ (bo rfl (by rw[h32]) SB))))))
  (λ_ s=>aj [1,1,1,0] rfl s)
  (tl3 ((b6):(Nat)) trivial)
 refine AL 15 ?_;refine SW 0 di aV ?_;refine EN (PD 16 ?_);refine DN ?_
 exact aD
  (aQ (aQ (aQ (aQ (aQ (bo rfl (by rw[h32]) SB))))))
  (λ_ s=>aj [1,1,1,0] rfl s)
  (tl3 ((b6):(Nat)) trivial)
 exact bA;refine DB bc (cK 1 rfl rfl) ?_;refine PD 0 ?_;refine PD 1 ?_;refine FD 2 1066 bh aM ?_;refine ta 3 rfl (cX (v:=(.int .i64 (s.round))) rfl Y3 rfl rfl (λ_ h=>h.2.1) (λa_=>(tG _ rfl))) ?_;refine ta 4 rfl (cw (r:=(fT (s.round+1))) rfl rfl rfl rfl) ?_;refine PD 5 ?_;refine PD 6 ?_;refine FD 7 0 bh aM ?_;refine ta 8 rfl (cX (v:=(.int .i64 (s.id))) rfl Y3 rfl rfl (λ_ h=>h.2.1) (λa_=>(cv _ rfl))) ?_;refine ta 9 rfl (kq BallotT.zero (BallotT.mk (fT (s.round+1)) s.id) [(0,[Value.int .i64 (fT (s.round+1))]),(1,[Value.int .i64 s.id])] jC Li (g:=BallotT.sg)) ?_;refine AL 10 ?_;refine XZ Lk (ints BallotT.zero.flat) λb5=>?_
 refine EN (AL 11 ?_);refine SW 0 cp am ?_;refine EN (DN ?_)
 exact aD
  SB
  (λ_ s=>aj [2,1,0] rfl s)
  (tl2 ((b5):(Nat)) trivial)
theorem y3{δ:Type}(V:Env δ)(r:Nat)(s:MS δ)(op:Int)(c:ChangeT)[OkR V.toDk s][OkCh c](hrs:s.replies.length≤1000000)(hv:s.vote=none):
 DT 95 #[(.pointer (some ⟨r,0,none⟩)),(.iface V.T V.ov),(.int .i64 (op)),(.agg (ints c.flat).toArray)] T0 [cA V r s] (RI (.int .i64 (dI V.toDk s op c).2) [cA V r (dI V.toDk s op c).1]):=by
 refine BD 44 Tryz.func95 rfl rfl rfl λw0 F hF=>sr λ_ J1=>XY (ints c.flat) λb7=>?_
 refine PS ?_;refine nx J1 (aa λ_ J2=>eH (α:=Unit) (λ_u=>True) (λ_u=>[(0,(.pointer (some ⟨r,0,none⟩))),(1,(.iface V.T V.ov)),(2,(.int .i64 (op))),(7,(.pointer (some ⟨b7,0,none⟩))),(8,(.int .i64 0)),(10,(.int .i64 ((dx s.view c).2)))]) (λ_u=>[cA V r s,ak b7 (ints c.flat) 28]) (λ_u hinv=>?_) (λtl2=>?_));have _:=hinv;refine ac J2 (aa λ_ J3=>sr λ_ J4=>cn (H':=tQ V r s (.pointer none)::[ak b7 (ints c.flat) 28]) (λ_ q=>rj hv q) (P2 ?_));refine ao ?_ ?_<;>intro h21;refine P3 ?_;refine FA 1067 bh ix ?_;refine LG 0 hZ (.pointer none) ?_ (hc:=by exact λa_=>(bQ _ rfl));refine tq (iq rfl hZ rfl rfl) ?_;refine PS ?_;refine nx J4 (CN (qx J3 (aa λ_ J5=>sr λ_ J6=>cn (H':=cA V r s::[ak b7 (ints c.flat) 28]) (λ_ q=>nd hv (aA [0] rfl q)) (P2 ?_))));refine ao ?_ ?_<;>intro h30;refine nx J6 (CY (ae (PS ?_)));refine LW 1 mj e9 aI ?_;refine CE F9 (pa V r s c) ID ?_;refine PS ?_;refine nx J5 (sr λ_ J7=>P3 ?_);refine CZ sw (eG V r ((ck V.toDk s c).1) op ((ck V.toDk s c).2) 0 (by first|exact hrs| (rw[hO];exact hrs))) ID λvR=>?_
 refine nx J7 (aa λ_ J8=>sr λ_ J9=>P2 ?_);refine ao ?_ ?_<;>intro h39;refine nx J9 (CY (ae (P2 ?_)));refine CZ C6 (p9 V r (db ((ck V.toDk s c).1) op ((ck V.toDk s c).2) 0) (iV s.view (ei s) c) (qn h39)) ID λvR=>?_
 refine nx J8 (sr λ_ J10=>P2 ?_);refine nx J10 (ai (WK [0] (ap rfl rfl ?_)));have e:dI V.toDk s op c=((m8 V.toDk (db ((ck V.toDk s c).1) op ((ck V.toDk s c).2) 0) (iV s.view (ei s) c)),(ck V.toDk s c).2):=by rw[dI,show fg s c=(dx s.view c).2 by rw[fg,if_neg (λh=>by rw[hv]at h;exact absurd h.2 (by decide))],if_neg (by rw[h30];decide),if_neg (by rw[h39];decide),h39]
 exact jd e;refine nx J9 (CN (qx J8 (sr λ_ J11=>P2 ?_)));refine nx J11 (ai (WK [0] (ap rfl rfl ?_)));have e:dI V.toDk s op c=((db ((ck V.toDk s c).1) op ((ck V.toDk s c).2) 0),(ck V.toDk s c).2):=by rw[dI,show fg s c=(dx s.view c).2 by rw[fg,if_neg (λh=>by rw[hv]at h;exact absurd h.2 (by decide))],if_neg (by rw[h30];decide),if_pos h39]
 exact jd e;refine nx J6 (CN (qx J5 (sr λ_ J12=>P3 ?_)));refine CZ sw (eG V r s op ((dx s.view c).2) 0 (by first|exact hrs| (rw[hO];exact hrs))) ID λvR=>?_
 refine nx J12 (aa λ_ J13=>sr λ_ J14=>P2 ?_);refine ao ?_ ?_<;>intro h39
 · exact absurd h39 h30
 refine nx J14 (CN (qx J13 (sr λ_ J15=>P2 ?_)));refine nx J15 (ai (WK [0] (ap rfl rfl ?_)));have e:dI V.toDk s op c=((db s op ((dx s.view c).2) 0),(dx s.view c).2):=by rw[dI,show fg s c=(dx s.view c).2 by rw[fg,if_neg (λh=>h30 h.1)]];exact if_pos (by exact h30)
 exact jd e;refine PS ?_
 iterate 5 refine UF ?_
 refine PS ?_;refine nx J4 (CN (qx J3 (aa λ_ J16=>sr λ_ J17=>cn (H':=cA V r s::[ak b7 (ints c.flat) 28]) (λ_ q=>nd hv (aA [0] rfl q)) (P2 ?_))));refine ao ?_ ?_<;>intro h30;refine nx J17 (CY (ae (PS ?_)));refine LW 1 mj e9 aI ?_;refine CE F9 (pa V r s c) ID ?_;refine PS ?_;refine nx J16 (sr λ_ J18=>P3 ?_);refine CZ sw (eG V r ((ck V.toDk s c).1) op ((ck V.toDk s c).2) 0 (by first|exact hrs| (rw[hO];exact hrs))) ID λvR=>?_
 refine nx J18 (aa λ_ J19=>sr λ_ J20=>P2 ?_);refine ao ?_ ?_<;>intro h39;refine nx J20 (CY (ae (P2 ?_)));refine CZ C6 (p9 V r (db ((ck V.toDk s c).1) op ((ck V.toDk s c).2) 0) (iV s.view (ei s) c) (qn h39)) ID λvR=>?_
 refine nx J19 (sr λ_ J21=>P2 ?_);refine nx J21 (ai (WK [0] (ap rfl rfl ?_)));have e:dI V.toDk s op c=((m8 V.toDk (db ((ck V.toDk s c).1) op ((ck V.toDk s c).2) 0) (iV s.view (ei s) c)),(ck V.toDk s c).2):=by rw[dI,show fg s c=(dx s.view c).2 by rw[fg,if_neg (λh=>by rw[hv]at h;exact absurd h.2 (by decide))],if_neg (by rw[h30];decide),if_neg (by rw[h39];decide),h39]
 exact jd e;refine nx J20 (CN (qx J19 (sr λ_ J22=>P2 ?_)));refine nx J22 (ai (WK [0] (ap rfl rfl ?_)));have e:dI V.toDk s op c=((db ((ck V.toDk s c).1) op ((ck V.toDk s c).2) 0),(ck V.toDk s c).2):=by rw[dI,show fg s c=(dx s.view c).2 by rw[fg,if_neg (λh=>by rw[hv]at h;exact absurd h.2 (by decide))],if_neg (by rw[h30];decide),if_pos h39]
 exact jd e;refine nx J17 (CN (qx J16 (sr λ_ J23=>P3 ?_)));refine CZ sw (eG V r s op ((dx s.view c).2) 0 (by first|exact hrs| (rw[hO];exact hrs))) ID λvR=>?_
 refine nx J23 (aa λ_ J24=>sr λ_ J25=>P2 ?_);refine ao ?_ ?_<;>intro h39
 · exact absurd h39 h30
 refine nx J25 (CN (qx J24 (sr λ_ J26=>P2 ?_)));refine nx J26 (ai (WK [0] (ap rfl rfl ?_)));have e:dI V.toDk s op c=((db s op ((dx s.view c).2) 0),(dx s.view c).2):=by rw[dI,show fg s c=(dx s.view c).2 by rw[fg,if_neg (λh=>h30 h.1)]];exact if_pos (by exact h30)
 exact jd e;refine DC bc (cK 1 rfl rfl) (BL 0) ?_;refine PD 0 ?_;refine PD 1 ?_;refine FD 2 2 bh bf ?_;refine ta 3 rfl (fz (vs:=ints s.view.flat) rfl eF rfl bf rfl (λ_ h=>h.2.1) (an s.view) (λa_=>(fw (s.rep a_) 0 rfl (by decide) (bj (an ((s.rep a_).view)))))) ?_;refine LY 4 mj e9 aI ?_;refine cE [5,9] (by kernel_rfl) rfl (aE rfl ?_ ?_);refine CE l6 (de s.view c OkVw.rng) ID ?_;refine EN (PD 6 ?_);refine PD 7 ?_;refine PD 8 ?_;refine AL 9 ?_;refine XZ sK (ints ViewT.zero.flat) λb9=>?_
 refine EN (AL 10 ?_);refine SW 0 bf an ?_;refine EN (PD 11 ?_);refine DN ?_
 exact aD
  SB
  (λ_ s=>aj [2,1] rfl s)
  (tl2 (():Unit) trivial)
 refine aE rfl ?_ ?_;refine XZ sK (ints ViewT.zero.flat) λb9=>?_
 refine EN (AL 5 ?_);refine CE l6 (de s.view c OkVw.rng) ID ?_;refine EN (PD 6 ?_);refine PD 7 ?_;refine PD 8 ?_;refine AL 10 ?_;refine SW 0 bf an ?_;refine EN (PD 11 ?_);refine DN ?_
 exact aD
  SB
  (λ_ s=>aj [2,1] rfl s)
  (tl2 (():Unit) trivial)
 exact bA
theorem y2{δ:Type}(V:Env δ)(r:Nat)(s:MS δ)(vt:VoteT)(op:Int)(c:ChangeT)[OkR V.toDk s][OkCh c](hrs:s.replies.length≤1000000)(hv:s.vote=some vt):
 DT 95 #[(.pointer (some ⟨r,0,none⟩)),(.iface V.T V.ov),(.int .i64 (op)),(.agg (ints c.flat).toArray)] T0 [cA V r s] (RI (.int .i64 (dI V.toDk s op c).2) [cA V r (dI V.toDk s op c).1]):=by
 refine BD 44 Tryz.func95 rfl rfl rfl λw0 F hF=>sr λ_ J1=>XY (ints c.flat) λb7=>?_
 refine PS ?_;refine nx J1 (aa λ_ J2=>eH (α:=Unit) (λ_u=>True) (λ_u=>[(0,(.pointer (some ⟨r,0,none⟩))),(1,(.iface V.T V.ov)),(2,(.int .i64 (op))),(7,(.pointer (some ⟨b7,0,none⟩))),(8,(.int .i64 0)),(10,(.int .i64 ((dx s.view c).2)))]) (λ_u=>[cA V r s,ak b7 (ints c.flat) 28]) (λ_u hinv=>?_) (λtl2=>?_));have _:=hinv;refine ac J2 (aa λ_ J3=>sr λ_ J4=>KW (H':=λvb:Nat=>tQ V r s (.pointer (some ⟨vb,0,none⟩))::ak vb (VoteT.cells vt) 227::[ak b7 (ints c.flat) 28]) (λ_ q=>l7 hv q) (λvb=>P2 ?_));refine ao ?_ ?_<;>intro h21;refine P3 ?_;refine FA 1067 bh ix ?_;refine LG 0 hZ (.pointer (some ⟨vb,0,none⟩)) ?_ (hc:=by exact λa_=>(bQ _ rfl));refine tq (iM rfl hZ rfl rfl) ?_;refine PS ?_;refine nx J4 (CY (ae (cn (H':=cA V r s::[ak b7 (ints c.flat) 28]) (λ_ q=>nc hv (aA [0,0] rfl q)) (PS ?_))));refine nx J3 (aa λ_ J5=>sr λ_ J6=>P2 ?_);refine nx J6 (CN (qx J5 (sr λ_ J7=>P3 ?_)));refine CZ sw (eG V r s op 8 0 (by first|exact hrs| (rw[hO];exact hrs))) ID λvR=>?_
 refine nx J7 (aa λ_ J8=>sr λ_ J9=>P2 ?_);refine nx J9 (CN (qx J8 (sr λ_ J10=>P2 ?_)));refine nx J10 (ai (WK [0] (ap rfl rfl ?_)));have e:dI V.toDk s op c=((db s op 8 0),8):=by rw[dI,show fg s c=8 by rw[fg,if_pos ⟨h21,by rw[hv];rfl⟩]];exact if_pos (by decide)
 exact jd e;refine PS ?_
 iterate 5 refine UF ?_
 refine PS ?_;refine nx J4 (CN (qx J3 (aa λ_ J11=>sr λ_ J12=>cn (H':=cA V r s::[ak b7 (ints c.flat) 28]) (λ_ q=>nc hv (aA [0,0] rfl q)) (P2 ?_))));refine ao ?_ ?_<;>intro h30
 · exact absurd h30 (by first|decide|exact h21)
 refine nx J12 (CN (qx J11 (sr λ_ J13=>P3 ?_)));refine CZ sw (eG V r s op ((dx s.view c).2) 0 (by first|exact hrs| (rw[hO];exact hrs))) ID λvR=>?_
 refine nx J13 (aa λ_ J14=>sr λ_ J15=>P2 ?_);refine ao ?_ ?_<;>intro h39
 · exact absurd h39 (by first|decide|exact h30)
 refine nx J15 (CN (qx J14 (sr λ_ J16=>P2 ?_)));refine nx J16 (ai (WK [0] (ap rfl rfl ?_)));have e:dI V.toDk s op c=((db s op ((dx s.view c).2) 0),(dx s.view c).2):=by rw[dI,show fg s c=(dx s.view c).2 by rw[fg,if_neg (λh=>h30 h.1)]];exact if_pos (by exact h30)
 exact jd e;refine DC bc (cK 1 rfl rfl) (BL 0) ?_;refine PD 0 ?_;refine PD 1 ?_;refine FD 2 2 bh bf ?_;refine ta 3 rfl (fz (vs:=ints s.view.flat) rfl eF rfl bf rfl (λ_ h=>h.2.1) (an s.view) (λa_=>(fw (s.rep a_) 0 rfl (by decide) (bj (an ((s.rep a_).view)))))) ?_;refine LY 4 mj e9 aI ?_;refine cE [5,9] (by kernel_rfl) rfl (aE rfl ?_ ?_);refine CE l6 (de s.view c OkVw.rng) ID ?_;refine EN (PD 6 ?_);refine PD 7 ?_;refine PD 8 ?_;refine AL 9 ?_;refine XZ sK (ints ViewT.zero.flat) λb9=>?_
 refine EN (AL 10 ?_);refine SW 0 bf an ?_;refine EN (PD 11 ?_);refine DN ?_
 exact aD
  SB
  (λ_ s=>aj [2,1] rfl s)
  (tl2 (():Unit) trivial)
 refine aE rfl ?_ ?_;refine XZ sK (ints ViewT.zero.flat) λb9=>?_
 refine EN (AL 5 ?_);refine CE l6 (de s.view c OkVw.rng) ID ?_;refine EN (PD 6 ?_);refine PD 7 ?_;refine PD 8 ?_;refine AL 10 ?_;refine SW 0 bf an ?_;refine EN (PD 11 ?_);refine DN ?_
 exact aD
  SB
  (λ_ s=>aj [2,1] rfl s)
  (tl2 (():Unit) trivial)
 exact bA
theorem y1{δ:Type}(V:Env δ)(r:Nat)(s:MS δ)(op:Int)(c:ChangeT)[OkR V.toDk s][OkCh c](hrs:s.replies.length≤1000000):DT 95 #[.pointer (some ⟨r,0,none⟩), .iface V.T V.ov, .int .i64 op, .agg (ints c.flat).toArray] T0 [cA V r s] (RI (.int .i64 (dI V.toDk s op c).2) [cA V r (dI V.toDk s op c).1]):=by
 cases hv:s.vote with
 |none=>exact y3 V r s op c hrs hv
 |some vt=>exact y2 V r s vt op c hrs hv
theorem uW{δ:Type}(V:Env δ)(r:Nat)(s:MS δ)(o:OpT):DT 96 #[.pointer (some ⟨r,0,none⟩), .agg (ints o.flat).toArray] T0 [cA V r s] (RI (.tuple #[.agg (ints (cV s o).1.flat).toArray, .int .i64 (cV s o).2.1, .int .i64 (cV s o).2.2]) [cA V r s]):=Leg.Does.hid (λa=>El r (s.rep a) o)
theorem yW{δ:Type}(V:Env δ)(r:Nat)(s:MS δ)(o:OpT)[OkR V.toDk s][OkCh o.change](hrs:s.replies.length≤1000000):
 DT 58 #[(.pointer (some ⟨r,0,none⟩)),(.iface V.T V.ov),(.agg (ints o.flat).toArray)] T0 [cA V r s] (RI (.int .i64 (bO V.toDk s o).2) [cA V r (bO V.toDk s o).1]):=by
 refine BD 74 Tryz.func58 rfl rfl rfl λw0 F hF=>sr λ_ J1=>XY (ints o.flat) λb5=>?_
 refine PS ?_;refine nx J1 (sr λ_ J2=>P2 ?_);refine FA 1941 bh aM ?_;refine LG 1 Y3 (.int .i64 (s.ops)) ?_ (hc:=by exact λa_=>(RepT.at_ops _ rfl));refine tp (cw (r:=(fT (s.ops+1))) rfl rfl rfl rfl) ?_;refine PS ?_;refine FA 1941 bh aM ?_;refine SK 1 aM (λ_=>cJ _) ?_ (hc:=by exact λa_=>(RepT.set_ops _ rfl _));refine nx J2 (sr λ_ J3=>P2 ?_);refine FA 1941 bh aM ?_;refine LG 1 Y3 (.int .i64 ((bq s).ops)) ?_ (hc:=by exact λa_=>(RepT.at_ops _ rfl));refine PS ?_;refine nx J3 (aa λ_ J4=>aa λ_ J5=>DC bc (cK 1 rfl rfl) (BL 0) ?_);refine PD 0 ?_;refine PD 1 ?_;refine FD 2 2 bh bf ?_;refine ta 3 rfl (fz (vs:=ints ((bq s).view).flat) rfl eF rfl bf rfl (λ_ h=>h.2.1) (an ((bq s).view)) (λa_=>(fw ((bq s).rep a_) 0 rfl (by decide) (bj (an (((bq s).rep a_).view)))))) ?_;refine PD 4 ?_;refine PD 5 ?_;refine FD 6 0 bh aM ?_;refine ta 7 rfl (cX (v:=(.int .i64 ((bq s).id))) rfl Y3 rfl rfl (λ_ h=>h.2.1) (λa_=>(cv _ rfl))) ?_;refine AL 8 ?_;refine CE oT (dq ((bq s).view) ((bq s).id)) ID ?_;refine aX ?_ ?_<;>intro h30;refine EN (PD 9 ?_);refine FD 10 0 eV aM ?_;refine LR 11 Y3 (cF o rfl) ?_;refine PD 12 ?_;refine gX ?_ ?_<;>intro h34;refine PD 13 ?_;refine DN (ac J5 (CY (sr λ_ J6=>P3 ?_)));refine FA 5 eV e9 ?_;refine LV 0 mj e9 aI OpT.sp_change (y:=o.change) ?_;refine CE Lx (y1 V r (bq s) ((bq s).ops) o.change hrs) (SM [1]) ?_;refine PS ?_;refine nx J6 (ai (ad (WK [0] (ap rfl rfl ?_))))
 have e:bO V.toDk s o=((dI V.toDk (bq s) ((bq s).ops) o.change).1,(dI V.toDk (bq s) (bq s).ops o.change).2):=by rw[bO,show ij s.view s.id=true from h30,decide_eq_true h34,if_pos (by rfl)]
 exact jd e;refine PD 13 ?_;refine DN (ac J5 (CN (qx J4 (sr λ_ J7=>PS ?_))));refine LW 0 eV oH fG ?_;refine CE JL (uW V r (bq s) o) (SM [1]) ?_;refine P4 ?_;refine XZ tS (ints RowT.zero.flat) λb8=>?_
 refine SW 0 aZ ah ?_;refine P2 ?_;refine nx J7 (aa λ_ J8=>sr λ_ J9=>P2 ?_);refine ao ?_ ?_<;>intro h50;refine PS ?_
 iterate 3 refine UT ?_
 refine PS ?_;refine nx J9 (CY (sr λ_ J10=>P4 ?_));refine CZ sw (eG V r (bq s) ((bq s).ops) ((cV (bq s) o).2.2) ((cV (bq s) o).2.1) (by first|exact hrs| (rw[iW];exact hrs))) (SM [1]) λvR=>?_
 refine nx J10 (sr λ_ J11=>P2 ?_);refine nx J11 (ai (ad (WK [0] (ap rfl rfl ?_))));have e:bO V.toDk s o=((db (bq s) ((bq s).ops) ((cV (bq s) o).2.2) ((cV (bq s) o).2.1)),(cV (bq s) o).2.2):=by rw[bO,show ij s.view s.id=true from h30,decide_eq_false h34,if_neg (by decide),mS,if_pos (.inl h50)]
 exact jd e;refine PS ?_;refine FA 0 eV aM ?_;refine LU 2 Y3 (cF o rfl) ?_;refine PS ?_;refine ao ?_ ?_<;>intro h54;refine PS ?_;refine nx J9 (CY (sr λ_ J12=>P4 ?_));refine CZ sw (eG V r (bq s) ((bq s).ops) ((cV (bq s) o).2.2) ((cV (bq s) o).2.1) (by first|exact hrs| (rw[iW];exact hrs))) (SM [1]) λvR=>?_
 refine nx J12 (sr λ_ J13=>P2 ?_);refine nx J13 (ai (ad (WK [0] (ap rfl rfl ?_))));have e:bO V.toDk s o=((db (bq s) ((bq s).ops) ((cV (bq s) o).2.2) ((cV (bq s) o).2.1)),(cV (bq s) o).2.2):=by rw[bO,show ij s.view s.id=true from h30,decide_eq_false h34,if_neg (by decide),mS,if_pos (.inr h54)]
 exact jd e;refine PS ?_;refine nx J9 (CN (qx J8 (aa λ_ J14=>sr λ_ J15=>P2 ?_)));refine LW 0 dP aZ ah ?_;refine PS ?_;refine CE IM (qj V r (bq s) ((cV (bq s) o).1) ((bq s).ops)) (SM [1]) ?_;refine PS ?_;refine nx J15 (sr λ_ J16=>P2 ?_);refine ao ?_ ?_<;>intro h68;refine nx J16 (CY (ae (P3 ?_)));refine CZ sw (eG V r ((eA V.toDk (bq s) ((cV (bq s) o).1) ((bq s).ops)).1) ((bq s).ops) ((eA V.toDk (bq s) ((cV (bq s) o).1) ((bq s).ops)).2) 0 (by first|exact hrs| (rw[iW];exact hrs))) ID λvR=>?_
 refine nx J14 (sr λ_ J17=>P2 ?_);refine nx J17 (ai (WK [0] (ap rfl rfl ?_)));have e:bO V.toDk s o=((db ((eA V.toDk (bq s) ((cV (bq s) o).1) ((bq s).ops)).1) ((bq s).ops) ((eA V.toDk (bq s) ((cV (bq s) o).1) ((bq s).ops)).2) 0),(eA V.toDk (bq s) (cV (bq s) o).1 (bq s).ops).2):=by rw[bO,show ij s.view s.id=true from h30,decide_eq_false h34,if_neg (by decide),mS,if_neg (λh=>h.elim (λh=>h50 h) (λh=>h54 h)),if_pos h68]
 exact jd e;refine nx J16 (CN (qx J14 (sr λ_ J18=>P2 ?_)));refine nx J18 (ai (WK [0] (ap rfl rfl ?_)));have e:bO V.toDk s o=((eA V.toDk (bq s) ((cV (bq s) o).1) ((bq s).ops)).1,(eA V.toDk (bq s) (cV (bq s) o).1 (bq s).ops).2):=by rw[bO,show ij s.view s.id=true from h30,decide_eq_false h34,if_neg (by decide),mS,if_neg (λh=>h.elim (λh=>h50 h) (λh=>h54 h)),if_neg h68,show(eA V.toDk (bq s) (cV (bq s) o).1 (bq s).ops).2=0 from Decidable.not_not.1 h68]
 exact jd e;refine EN (PD 9 ?_);refine NT 10 ?_;refine NT 11 ?_;refine NT 12 ?_;refine PD 13 ?_;refine DN (ac J5 (CN (qx J4 (sr λ_ J19=>PS ?_))));refine LW 0 eV oH fG ?_;refine CE JL (uW V r (bq s) o) (SM [1]) ?_;refine P4 ?_;refine XZ tS (ints RowT.zero.flat) λb8=>?_
 refine SW 0 aZ ah ?_;refine P2 ?_;refine nx J19 (aa λ_ J20=>sr λ_ J21=>P2 ?_);refine ao ?_ ?_<;>intro h50;refine PS ?_
 iterate 3 refine UT ?_
 refine PS ?_;refine nx J21 (CY (sr λ_ J22=>P4 ?_));refine CZ sw (eG V r (bq s) ((bq s).ops) ((cV (bq s) o).2.2) ((cV (bq s) o).2.1) (by first|exact hrs| (rw[iW];exact hrs))) (SM [1]) λvR=>?_
 refine nx J22 (sr λ_ J23=>P2 ?_);refine nx J23 (ai (ad (WK [0] (ap rfl rfl ?_))));have e:bO V.toDk s o=((db (bq s) ((bq s).ops) ((cV (bq s) o).2.2) ((cV (bq s) o).2.1)),(cV (bq s) o).2.2):=by rw[bO,show ij s.view s.id=false from h30,if_neg (by rw[gk];decide),mS,if_pos (.inl h50)]
 exact jd e;refine PS ?_;refine FA 0 eV aM ?_;refine LU 2 Y3 (cF o rfl) ?_;refine PS ?_;refine ao ?_ ?_<;>intro h54;refine PS ?_;refine nx J21 (CY (sr λ_ J24=>P4 ?_));refine CZ sw (eG V r (bq s) ((bq s).ops) ((cV (bq s) o).2.2) ((cV (bq s) o).2.1) (by first|exact hrs| (rw[iW];exact hrs))) (SM [1]) λvR=>?_
 refine nx J24 (sr λ_ J25=>P2 ?_);refine nx J25 (ai (ad (WK [0] (ap rfl rfl ?_))));have e:bO V.toDk s o=((db (bq s) ((bq s).ops) ((cV (bq s) o).2.2) ((cV (bq s) o).2.1)),(cV (bq s) o).2.2):=by rw[bO,show ij s.view s.id=false from h30,if_neg (by rw[gk];decide),mS,if_pos (.inr h54)]
 exact jd e;refine PS ?_;refine nx J21 (CN (qx J20 (aa λ_ J26=>sr λ_ J27=>P2 ?_)));refine LW 0 dP aZ ah ?_;refine PS ?_;refine CE IM (qj V r (bq s) ((cV (bq s) o).1) ((bq s).ops)) (SM [1]) ?_;refine PS ?_;refine nx J27 (sr λ_ J28=>P2 ?_);refine ao ?_ ?_<;>intro h68;refine nx J28 (CY (ae (P3 ?_)));refine CZ sw (eG V r ((eA V.toDk (bq s) ((cV (bq s) o).1) ((bq s).ops)).1) ((bq s).ops) ((eA V.toDk (bq s) ((cV (bq s) o).1) ((bq s).ops)).2) 0 (by first|exact hrs| (rw[iW];exact hrs))) ID λvR=>?_
 refine nx J26 (sr λ_ J29=>P2 ?_);refine nx J29 (ai (WK [0] (ap rfl rfl ?_)));have e:bO V.toDk s o=((db ((eA V.toDk (bq s) ((cV (bq s) o).1) ((bq s).ops)).1) ((bq s).ops) ((eA V.toDk (bq s) ((cV (bq s) o).1) ((bq s).ops)).2) 0),(eA V.toDk (bq s) (cV (bq s) o).1 (bq s).ops).2):=by rw[bO,show ij s.view s.id=false from h30,if_neg (by rw[gk];decide),mS,if_neg (λh=>h.elim (λh=>h50 h) (λh=>h54 h)),if_pos h68]
 exact jd e;refine nx J28 (CN (qx J26 (sr λ_ J30=>P2 ?_)));refine nx J30 (ai (WK [0] (ap rfl rfl ?_)));have e:bO V.toDk s o=((eA V.toDk (bq s) ((cV (bq s) o).1) ((bq s).ops)).1,(eA V.toDk (bq s) (cV (bq s) o).1 (bq s).ops).2):=by rw[bO,show ij s.view s.id=false from h30,if_neg (by rw[gk];decide),mS,if_neg (λh=>h.elim (λh=>h50 h) (λh=>h54 h)),if_neg h68,show(eA V.toDk (bq s) (cV (bq s) o).1 (bq s).ops).2=0 from Decidable.not_not.1 h68]
 exact jd e
end Go.Proofs.YtjblgopghhgflaaGreat
end
