/-
  Joined texts:what a statement's proof reaches.
-/
import Derived.Test.YtfocodjhmkokpaaGreatDoorPWB5
set_option maxHeartbeats 8000000
set_option maxRecDepth 100000
set_option linter.unusedSimpArgs false
set_option linter.unusedVariables false
section
namespace Go.Proofs.YtfocodjhmkokpaaGreatDoor
open Go Leg Codec Api Dsk Wal
theorem xH{δ:Type}(V:Env δ)(r:Nat)(s:MS δ)[OkR V.toDk s](hrs:s.replies.length≤1000000):
 DT 159 #[(.pointer (some ⟨r,0,none⟩)),(.iface V.T V.ov)] T0 [cH V r s] (c9 (λ_ H=>H=[cH V r (lw V.toDk s)])):=by
 refine BD 43 Tryz.func159 rfl rfl rfl λw0 F hF=>sr λ_ J1=>P2 ?_
 refine FA 1938 cW kE ?_;refine SK 0 kE (λ_=>cQ _) ?_ (hc:=by exact λa_=>(ON _ rfl _));refine nx J1 (aa λ_ J2=>eT (α:=Unit) (λ_u=>True) (λ_u=>[(0,(.pointer (some ⟨r,0,none⟩))),(1,(.iface V.T V.ov))]) (λ_u=>[cH V r (gD s)]) (λ_u hinv=>?_) (λtl2=>?_));have _:=hinv;refine ac J2 (aa λ_ J3=>eT (α:=Unit) (λ_u=>True) (λ_u=>[(0,(.pointer (some ⟨r,0,none⟩))),(1,(.iface V.T V.ov))]) (λ_u=>[cH V r (lR (gD s))]) (λ_u hinv=>?_) (λtl3=>?_));have _:=hinv;refine ac J3 (sr λ_ J4=>P4 ?_);refine FA 9 cW ba ?_;refine LZ 0 dI ba ai ((lR (gD s)).own) ?_ (hc:=by exact λ_=>Cr _);refine CZ KX (mw V r (lR (gD s)) ((lR (gD s)).own)) ID λvR=>?_
 refine nx J4 (ad (P2 ?_));refine CZ Jw (oo V r (mi V.toDk (lR (gD s)) ((lR (gD s)).own))) ID λvR=>?_
 exact ap (WK [0] (br rfl rfl));refine sr λ_ J5=>P2 ?_
 refine FA 1940 cW aO ?_;refine LG 0 Y3 (.int .i64 ((gD s).waits)) ?_ (hc:=by exact λa_=>(RepT.at_waits _ rfl));refine PS ?_;refine ao ?_ ?_<;>intro h23;refine nx J5 (CY (sr λ_ J6=>P3 ?_));refine FA 1940 cW aO ?_;refine LG 0 Y3 (.int .i64 ((gD s).waits)) ?_ (hc:=by exact λa_=>(RepT.at_waits _ rfl));refine CZ td (eP V r (gD s) ((gD s).waits) 0 0 hrs) ID λvR=>?_
 refine nx J6 (ad (P2 ?_));refine FA 1940 cW aO ?_;refine SK 0 aO (λ_=>cQ _) ?_ (hc:=by exact λa_=>(RepT.set_waits _ rfl _));refine ap ?_
 exact aF
  SB
  (λ_ q=>by
   rw[ya h23]
   exact ak [0] rfl q)
  (tl3 (():Unit) trivial)
 refine nx J5 (CN (aM ?_))
 exact aF
  SB
  (λ_ q=>by
   rw[yb h23]
   exact ak [0] rfl q)
  (tl3 (():Unit) trivial)
 refine D0 bf ?_;refine PD 0 ?_;refine PD 1 ?_;refine FD 2 1068 cW AG ?_;refine PD 3 ?_;refine PD 4 ?_;refine FD 5 0 cW aO ?_;refine PD 7 ?_;refine PD 8 ?_;refine FD 9 9 cW ba ?_;refine cx [6,10] (by kernel_rfl) rfl (aE rfl ?_ ?_);refine LG 0 Y3 (.int .i64 (s.id)) ?_ (hc:=by exact λa_=>(cF _ rfl));refine EN (AL 10 ?_);refine LZ 0 dI ba ai s.own ?_ (hc:=by exact λ_=>Cr _);refine EN (AL 11 ?_);refine CE Jx (Leg.Does.hid (λa_=>kA r 1068 87 _ (fR ((MS.setBusy s false).rep a_)) (MS.setBusy s false).book s.id s.own (IP inferInstance))) ID ?_;refine EN (DN ?_)
 exact aF
  SB
  (λ_ s=>ak [0] rfl s)
  (tl2 (():Unit) trivial)
 refine aE rfl ?_ ?_;refine LZ 0 dI ba ai s.own ?_ (hc:=by exact λ_=>Cr _);refine EN (AL 6 ?_);refine LG 0 Y3 (.int .i64 (s.id)) ?_ (hc:=by exact λa_=>(cF _ rfl));refine EN (AL 11 ?_);refine CE Jx (Leg.Does.hid (λa_=>kA r 1068 87 _ (fR ((MS.setBusy s false).rep a_)) (MS.setBusy s false).book s.id s.own (IP inferInstance))) ID ?_;refine EN (DN ?_)
 exact aF
  SB
  (λ_ s=>ak [0] rfl s)
  (tl2 (():Unit) trivial)
 exact bz
theorem vk{δ:Type}(V:Env δ)(r:Nat)(s:MS δ)(from':Int)(m:MsgT)[OkR V.toDk s](hrs:s.replies.length≤1000000):
 DT 122 #[(.pointer (some ⟨r,0,none⟩)),(.iface V.T V.ov),(.int .i64 (from')),(.agg (ints m.flat).toArray)] T0 [cH V r s] (c9 (λ_ H=>H=[cH V r (dF V.toDk s from' m)])):=by
 refine BD 64 Tryz.func122 rfl rfl rfl λw0 F hF=>?_
 have hid:cy s.id=true:=OkR.id;have hid2:0≤s.id∧s.id<5:=of_decide_eq_true hid;refine sr λ_ J1=>XY (ints m.flat) λb7=>?_
 refine nx J1 (sr λ_ J2=>P2 ?_);refine FA 0 cW aO ?_;refine LG 1 Y3 (.int .i64 (s.id)) ?_ (hc:=by exact λa_=>(cF _ rfl));refine CR Bu (pX s.id hid) ID λvR HR hR=>?_
 obtain⟨_,rfl,rfl⟩:=hR;revert vR;intro uw;refine gj 0 rfl rfl (λhluw _=>ij 0 rfl rfl (by omega) (λgw capw hvw hcapw=>PS ?_));refine nx J2 (aa λ_ J3=>aa λ_ J4=>DC bf (cR 2 rfl rfl) (BL 1) ?_);refine PD 0 ?_;refine PD 1 ?_;refine FD 2 1938 cW kE ?_;refine ta 3 rfl (c7 (v:=(.bool (s.busy))) rfl Y4 rfl rfl (λ_ h=>h.2.1) (λa_=>(xQ _ rfl))) ?_;refine q8 ?_ ?_<;>intro h19;refine PD 4 ?_;refine PD 5 ?_;refine FD 6 176 bd aO ?_;refine LR 7 Y3 (MsgT.at_version m rfl) ?_;refine PD 8 ?_;refine PD 9 ?_;refine FD 10 9 cW ba ?_;refine FD 11 9 dI aO ?_;refine tb 12 rfl (c7 (v:=(.int .i64 (s.own.version))) rfl Y3 rfl rfl (λ_ h=>h.2.1) (λa_=>(RepT.pt_own (s.rep a_) 0 rfl (by decide) (cA _ rfl)))) ?_;refine PD 13 ?_;refine jh ?_ ?_<;>intro h29;refine PD 14 ?_;refine PD 15 ?_;refine NT 16 ?_;refine NT 17 ?_;refine NT 18 ?_;refine NT 19 ?_;refine PD 20 ?_;refine DN (ac J4 (CY (ah (ae (WK [2] (dx rfl ?_))))));have ew:gL s.id=[(s.id+1)%5,(s.id+2)%5]:=by rw[gL,if_pos hid]
 have e:kP s from' m.version=false:=by rw[kP,ew,decide_eq_false h29,gC,jI]
 exact congrArg (λq=>[cH V r q]) (show s=dF V.toDk s from' m by rw[dF,e];rfl);refine PD 14 ?_;refine PD 15 ?_;refine PD 16 ?_;refine PD 17 ?_;refine AL 18 ?_;refine CF Ki (qo uw [(s.id+1)%5,(s.id+2)%5] from' (by decide:2≤1000000)) ID (sh (l:=[(s.id+1)%5,(s.id+2)%5]) 0 rfl rfl) ?_;refine ao ?_ ?_<;>intro h34;have hmem:=h34;simp only[bT,List.not_mem_nil,or_false]at hmem;have hfr:0≤from'∧from'<5:=by omega
 refine EN (PD 19 ?_);refine PD 20 ?_;refine DN (ac J4 (CN (qx J3 (aa λ_ J5=>D0 bf ?_))));refine PD 0 ?_;refine PD 1 ?_;refine FD 2 1939 cW aO ?_;refine PD 4 ?_;refine ta 5 rfl (uJ (r:=(cV from')) rfl rfl rfl (by omega) rfl) ?_;refine AL 3 ?_;refine LG 2 Y3 (.int .i64 (s.kept)) ?_ (hc:=by exact λa_=>(ra _ rfl));refine EN (ta 6 rfl (Ff (r:=(ig .i64 s.kept (cV from'))) rfl rfl rfl rfl) ?_);refine PD 7 ?_;refine FD 8 1939 cW aO ?_;refine AL 9 ?_;refine SK 2 aO (λ_=>cQ _) ?_ (hc:=by exact λa_=>(OM _ rfl _));refine EN (DN (ac J5 (aa λ_ J6=>sr λ_ J7=>PS ?_)));refine tp (c8 rfl ii rfl hluw) ?_;refine PS ?_;refine nx J7 (am (gK 2 (sr λ_ J8=>PS ?_)));refine nx J8 (aa λ_ J9=>CY (qx J9 (aa λ_ J10=>am (sr λ_ J11=>tp (bg (r:=0) hvw rfl ii aO rfl rfl (by omega) (by omega) rfl) ?_))));refine tp (bZ (v:=(.int .i64 (((s.id+1)%5)))) rfl Y3 rfl rfl (fI 0 rfl hvw rfl) rfl) ?_;refine PS ?_;refine nx J11 (sr λ_ J12=>P2 ?_);refine FA 1939 cW aO ?_;refine LG 2 Y3 (.int .i64 ((ig .i64 s.kept (cV from')))) ?_ (hc:=by exact λa_=>(ra _ rfl));refine PS ?_;refine tp (gM (r:=((ig .i64 s.kept (cV from')).fdiv (2^min (((s.id+1)%5)).toNat IntKind.i64.bits))) rfl rfl rfl (by omega) rfl) ?_;refine tp (iD (r:=(((ig .i64 s.kept (cV from')).fdiv (2^min (((s.id+1)%5)).toNat IntKind.i64.bits))%2)) rfl rfl rfl (mask (k:=1) (by decide) _)) ?_;refine PS ?_;refine ao ?_ ?_<;>intro h59
 refine nx J12 (CY (ah (aH (ae (ae (aH (ae (WK [2] (dx rfl ?_)))))))));have ew:gL s.id=[(s.id+1)%5,(s.id+2)%5]:=by rw[gL,if_pos hid]
 have e:kP s from' m.version=true:=by rw[kP,h19,ew,decide_eq_true (show m.version=s.own.version by omega),decide_eq_true h34];rfl
 have e2:wF (iz s from')=false:=by rw[wF,show gL (iz s from').id=[(s.id+1)%5,(s.id+2)%5]from ew];simp only[List.all_cons,List.all_nil,Ak,iz, *,decide_true,decide_false,OT,ND,OU,uM,gC,jI]
 exact congrArg (λq=>[cH V r q]) (show(MS.setKept s (ig .i64 s.kept (cV from')))=dF V.toDk s from' m by rw[dF,e,e2];rfl);refine nx J12 (CN (aM (af (ac J10 (ad (tp (bv (r:=1) rfl rfl rfl (by decide)) ?_))))));refine PS ?_;refine ap (bH (sr λ_ J13=>PS ?_));refine nx J13 (aa λ_ J14=>CY (qx J14 (aa λ_ J15=>am (sr λ_ J16=>tp (bg (r:=1) hvw rfl ii aO rfl rfl (by omega) (by omega) rfl) ?_))));refine tp (bZ (v:=(.int .i64 (((s.id+2)%5)))) rfl Y3 rfl rfl (fI 0 rfl hvw rfl) rfl) ?_;refine PS ?_;refine nx J16 (sr λ_ J17=>P2 ?_);refine FA 1939 cW aO ?_;refine LG 2 Y3 (.int .i64 ((ig .i64 s.kept (cV from')))) ?_ (hc:=by exact λa_=>(ra _ rfl));refine PS ?_;refine tp (gM (r:=((ig .i64 s.kept (cV from')).fdiv (2^min (((s.id+2)%5)).toNat IntKind.i64.bits))) rfl rfl rfl (by omega) rfl) ?_;refine tp (iD (r:=(((ig .i64 s.kept (cV from')).fdiv (2^min (((s.id+2)%5)).toNat IntKind.i64.bits))%2)) rfl rfl rfl (mask (k:=1) (by decide) _)) ?_;refine PS ?_;refine ao ?_ ?_<;>intro h59;refine nx J17 (CY (ah (aH (ae (ae (aH (ae (WK [2] (dx rfl ?_)))))))));have ew:gL s.id=[(s.id+1)%5,(s.id+2)%5]:=by rw[gL,if_pos hid]
 have e:kP s from' m.version=true:=by rw[kP,h19,ew,decide_eq_true (show m.version=s.own.version by omega),decide_eq_true h34];rfl
 have e2:wF (iz s from')=false:=by rw[wF,show gL (iz s from').id=[(s.id+1)%5,(s.id+2)%5]from ew];simp only[List.all_cons,List.all_nil,Ak,iz, *,decide_true,decide_false,OT,ND,OU,uM,gC,jI]
 exact congrArg (λq=>[cH V r q]) (show(MS.setKept s (ig .i64 s.kept (cV from')))=dF V.toDk s from' m by rw[dF,e,e2];rfl);refine nx J17 (CN (aM (af (ac J15 (ad (tp (bv (r:=2) rfl rfl rfl (by decide)) ?_))))));refine PS ?_;refine ap (bH (sr λ_ J18=>PS ?_));refine nx J18 (aa λ_ J19=>CN (aV (ay (ay (bh (ac J6 (ad (P2 ?_))))))));refine CZ MK (xH V r (iz s from') hrs) (SM [2]) λvR=>?_
 refine ap (WK [0] (br rfl ?_));have ew:gL s.id=[(s.id+1)%5,(s.id+2)%5]:=by rw[gL,if_pos hid]
 have e:kP s from' m.version=true:=by rw[kP,h19,ew,decide_eq_true (show m.version=s.own.version by omega),decide_eq_true h34];rfl
 have e2:wF (iz s from')=true:=by rw[wF,show gL (iz s from').id=[(s.id+1)%5,(s.id+2)%5]from ew];simp only[List.all_cons,List.all_nil,Ak,iz, *,decide_true,decide_false,OT,ND,OU,uM,gC,jI]
 exact congrArg (λq=>[cH V r q]) (show(lw V.toDk (iz s from'))=dF V.toDk s from' m by rw[dF,e,e2];rfl);refine EN (PD 19 ?_);refine PD 20 ?_;refine DN (ac J4 (CY (ah (ae (WK [2] (dx rfl ?_))))));have ew:gL s.id=[(s.id+1)%5,(s.id+2)%5]:=by rw[gL,if_pos hid]
 have e:kP s from' m.version=false:=by rw[kP,ew,decide_eq_false h34];simp
 exact congrArg (λq=>[cH V r q]) (show s=dF V.toDk s from' m by rw[dF,e];rfl);refine PD 4 ?_;refine PD 5 ?_;refine NT 6 ?_;refine NT 7 ?_;refine NT 8 ?_;refine NT 9 ?_;refine NT 10 ?_;refine NT 11 ?_;refine NT 12 ?_;refine NT 13 ?_;refine PD 14 ?_;refine PD 15 ?_;refine NT 16 ?_;refine NT 17 ?_;refine NT 18 ?_;refine NT 19 ?_;refine PD 20 ?_;refine DN (ac J4 (CY (ah (ae (WK [2] (dx rfl ?_))))));have ew:gL s.id=[(s.id+1)%5,(s.id+2)%5]:=by rw[gL,if_pos hid]
 have e:kP s from' m.version=false:=by rw[kP,ew,h19];simp
 exact congrArg (λq=>[cH V r q]) (show s=dF V.toDk s from' m by rw[dF,e];rfl)
theorem xk{δ:Type}(V:Env δ)(r:Nat)(s:MS δ)(from':Int)(m:MsgT)[OkR V.toDk s][OkMg m](hto:from'≠s.id):
 DT 121 #[(.pointer (some ⟨r,0,none⟩)),(.iface V.T V.ov),(.int .i64 (from')),(.agg (ints m.flat).toArray)] T0 [cH V r s] (c9 (λ_ H=>H=[cH V r (iI V.toDk s from' m)])):=by
 refine BD 56 Tryz.func121 rfl rfl rfl λw0 F hF=>sr λ_ J1=>XY (ints m.flat) λb7=>?_
 refine nx J1 (aa λ_ J2=>aa λ_ J3=>D1 0 bf ?_);refine FD 0 1 bd aO ?_;refine LR 1 Y3 (co m rfl) ?_;refine PD 2 ?_;refine PD 3 ?_;refine jh ?_ ?_<;>intro h11;refine PD 4 ?_;refine NT 5 ?_;refine NT 6 ?_;refine NT 7 ?_;refine NT 8 ?_;refine NT 9 ?_;refine NT 10 ?_;refine PD 11 ?_;refine DN (ac J3 (CY (ah (ae (WK [1] (dx rfl ?_))))));exact congrArg (λq=>[cH V r q]) (show _=iI V.toDk s from' m from(if_pos (.inl (by omega))).symm);refine PD 4 ?_;refine PD 5 ?_;refine PD 6 ?_;refine FD 7 183 cW sT ?_;refine FD 8 1 bd aO ?_;refine LR 9 Y3 (co m rfl) ?_;refine AL 10 ?_;refine CE Lb (Leg.Does.hid (λa_=>mI r 183 87 _ (dN (s.rep a_)) s.mirror m.whose)) (SM [1]) ?_;refine bc ?_ ?_<;>intro h18;refine EN (PD 11 ?_);refine DN (ac J3 (CY (ah (ae (WK [0] (dx rfl ?_))))));exact congrArg (λq=>[cH V r q]) (show _=iI V.toDk s from' m from(if_pos (.inr h18)).symm);refine EN (PD 11 ?_);refine DN (ac J3 (CN (qx J2 (aa λ_ J4=>aa λ_ J5=>D1 1 bf ?_))));refine PD 0 ?_;refine PD 1 ?_;refine FD 2 183 cW sT ?_;refine FD 3 1 bd aO ?_;refine LR 4 Y3 (co m rfl) ?_;refine FD 5 2 bd ba ?_;refine ta 6 rfl (aK (vs:=ints m.row.flat) rfl dI rfl ba rfl (λ_ h=>h.2.1) (ai m.row) (lP m 0 rfl (by decide) (whole (ai m.row)))) ?_;refine AL 7 ?_;refine CE Kk (Leg.Does.hid (λa_=>qi r 183 87 _ (dN (s.rep a_)) s.mirror m.whose m.row (IP inferInstance))) ID ?_;refine bc ?_ ?_<;>intro h27;refine EN (DN (ac J5 (CY (aa λ_ J6=>sr λ_ J7=>PS ?_))))
 refine FA 1 bd aO ?_;refine LU 1 Y3 (co m rfl) ?_;refine FA 2 bd ba ?_;refine LV 1 dI ba ai MsgT.sp_row (y:=m.row) ?_;refine tp (ke RecT.zero (RecT.mk 1 m.whose m.row 0 BallotT.zero ChangeT.zero ViewT.zero) [(0,[Value.int .i64 1]),(1,[Value.int .i64 m.whose]),(2,ints m.row.flat)] dT eU (g:=RecT.sg)) ?_;refine CE wk (kN V r s (jU m.whose m.row)) ID ?_;refine PS ?_;refine ao ?_ ?_<;>intro h35;refine nx J7 (CY (ah (ae (ae (WK [0] (dx rfl ?_))))));have hn: ¬(m.whose≠from'∨fw s.mirror m.whose=true):=λh=>h.elim (λh=>by omega) (λh=>by rw[h18]at h;cases h)
 exact MQ (by rw[iI,if_neg hn,if_pos h27,if_pos h35]<;>rfl);refine nx J7 (CN (qx J6 (D1 1 bf ?_)));refine PD 0 ?_;refine PD 1 ?_;refine FD 2 183 cW sT ?_;refine FD 3 1 bd aO ?_;refine LR 4 Y3 (co m rfl) ?_;refine FD 5 2 bd ba ?_;refine ta 6 rfl (aK (vs:=ints m.row.flat) rfl dI rfl ba rfl (λ_ h=>h.2.1) (ai m.row) (lP m 0 rfl (by decide) (whole (ai m.row)))) ?_;refine AL 7 ?_;refine CE Kt (Leg.Does.hid (λa_=>sa r 183 87 _ (dN ((dZ V.toDk s (jU m.whose m.row)).rep a_)) (dZ V.toDk s (jU m.whose m.row)).mirror m.whose m.row (IP inferInstance))) ID ?_;refine EN (DN (ac J4 (D1 1 bf ?_)));refine PD 0 ?_;refine PD 1 ?_;refine PD 2 ?_;refine PD 3 ?_;refine PD 4 ?_;refine FD 5 183 cW sT ?_;refine FD 6 1 bd aO ?_;refine LR 7 Y3 (co m rfl) ?_;refine AL 8 ?_;refine CE HO (Leg.Does.hid (λa_=>lp r 183 87 _ (dN ((ix (dZ V.toDk s (jU m.whose m.row)) m.whose m.row).rep a_)) (ix (dZ V.toDk s (jU m.whose m.row)) m.whose m.row).mirror m.whose)) ID ?_;refine EN (ta 9 rfl (xb (cs:=ints (cJ (ix (dZ V.toDk s (jU m.whose m.row)) m.whose m.row).mirror m.whose).flat) (v:=Value.int .i64 ((cJ (ix (dZ V.toDk s (jU m.whose m.row)) m.whose m.row).mirror m.whose).version)) rfl dI rfl Y3 rfl rfl (cA _ rfl)) ?_)
 refine ta 10 rfl (ke MsgT.zero (MsgT.mk 1 0 RowT.zero ((cJ (ix (dZ V.toDk s (jU m.whose m.row)) m.whose m.row).mirror m.whose).version) 0 BallotT.zero BallotT.zero ChangeT.zero ViewT.zero) [(0,[Value.int .i64 1]),(3,[Value.int .i64 ((cJ (ix (dZ V.toDk s (jU m.whose m.row)) m.whose m.row).mirror m.whose).version)])] bd bw (g:=MsgT.sg)) ?_;refine AL 11 ?_;refine CZ iN (jb V r (ix (dZ V.toDk s (jU m.whose m.row)) m.whose m.row) from' (se (cJ (ix (dZ V.toDk s (jU m.whose m.row)) m.whose m.row).mirror m.whose).version) hto) ID λvR=>?_
 refine EN (DN (WK [0] (br rfl ?_)));have hn: ¬(m.whose≠from'∨fw s.mirror m.whose=true):=λh=>h.elim (λh=>by omega) (λh=>by rw[h18]at h;cases h)
 exact MQ (by rw[iI,if_neg hn,if_pos h27,if_neg h35]<;>rfl);refine EN (DN (ac J5 (CN (qx J4 (D1 1 bf ?_)))));refine PD 0 ?_;refine PD 1 ?_;refine PD 2 ?_;refine PD 3 ?_;refine PD 4 ?_;refine FD 5 183 cW sT ?_;refine FD 6 1 bd aO ?_;refine LR 7 Y3 (co m rfl) ?_;refine AL 8 ?_;refine CE HO (Leg.Does.hid (λa_=>lp r 183 87 _ (dN (s.rep a_)) s.mirror m.whose)) ID ?_;refine EN (ta 9 rfl (xb (cs:=ints (cJ s.mirror m.whose).flat) (v:=Value.int .i64 ((cJ s.mirror m.whose).version)) rfl dI rfl Y3 rfl rfl (cA _ rfl)) ?_);refine ta 10 rfl (ke MsgT.zero (MsgT.mk 1 0 RowT.zero ((cJ s.mirror m.whose).version) 0 BallotT.zero BallotT.zero ChangeT.zero ViewT.zero) [(0,[Value.int .i64 1]),(3,[Value.int .i64 ((cJ s.mirror m.whose).version)])] bd bw (g:=MsgT.sg)) ?_;refine AL 11 ?_;refine CZ iN (jb V r s from' (se (cJ s.mirror m.whose).version) hto) ID λvR=>?_
 refine EN (DN (WK [0] (br rfl ?_)));have hn: ¬(m.whose≠from'∨fw s.mirror m.whose=true):=λh=>h.elim (λh=>by omega) (λh=>by rw[h18]at h;cases h)
 exact MQ (by rw[iI,if_neg hn,if_neg (by rw[h27];decide)]<;>rfl)
theorem nt{δ:Type}(V:Env δ)(r:Nat)(s:MS δ)(from':Int)(m:MsgT)[OkR V.toDk s][OkMg m]:
 DT 125 #[(.pointer (some ⟨r,0,none⟩)),(.iface V.T V.ov),(.int .i64 (from')),(.agg (ints m.flat).toArray)] T0 [cH V r s] (c9 (λ_ H=>H=[cH V r (fX V.toDk s from' m)])):=by
 refine BD 59 Tryz.func125 rfl rfl rfl λw0 F hF=>sr λ_ J1=>XY (ints m.flat) λb7=>?_
 refine nx J1 (aa λ_ J2=>eT (α:=Unit) (λ_u=>True) (λ_u=>[(0,(.pointer (some ⟨r,0,none⟩))),(1,(.iface V.T V.ov))]) (λ_u=>[cH V r (if from'∈gL m.whose then vd s from' m.whose m.row else s)]) (λ_u hinv=>?_) (λtl2=>?_));have _:=hinv;refine ac J2 (ad (P2 ?_));refine CZ Jw (oo V r (if from'∈gL m.whose then vd s from' m.whose m.row else s)) ID λvR=>?_
 exact ap (WK [0] (br rfl rfl));refine sr λ_ J3=>FA 1 bd aO ?_
 refine LU 0 Y3 (co m rfl) ?_;refine CR Bu (o6 m.whose) ID λvR HR hR=>?_
 obtain⟨_,rfl,rfl⟩:=hR;revert vR;intro uw;refine PS ?_;refine CF Ki (qo uw (gL m.whose) from' (G4 m.whose)) ID (sh (l:=(gL m.whose)) 0 rfl rfl) ?_;refine ao ?_ ?_<;>intro h12
 have hm:cy m.whose=true:=by
  unfold gL at h12;split at h12
  · assumption
  · cases h12
 have hm2:0≤m.whose∧m.whose<5:=of_decide_eq_true hm;have hta:qz s m.whose=s.told[m.whose.toNat]'(by omega):=by rw[qz,dif_pos hm]
 have hla:nd s m.whose=s.last[m.whose.toNat]'(by omega):=by rw[nd,dif_pos hm]
 have hf:0≤from'∧from'<5:=by
  rw[gL,if_pos hm]at h12;simp only[bT,List.not_mem_nil,or_false]at h12;omega
 refine nx J3 (CY (aa λ_ J4=>eT (α:=Unit) (λ_u=>True) (λ_u=>[(0,(.pointer (some ⟨r,0,none⟩))),(1,(.iface V.T V.ov)),(2,(.int .i64 (from'))),(7,(.pointer (some ⟨b7,0,none⟩)))]) (λ_u=>[cH V r (lr s m.whose m.row),aj b7 (ints m.flat) 163]) (λ_u hinv=>?_) (λtl4=>?_)));have _:=hinv;refine ac J4 (D1 1 bf ?_);refine PD 0 ?_;refine FD 1 1 bd aO ?_;refine LR 2 Y3 (co m rfl) ?_;refine PD 3 ?_;refine FD 4 1943 cW fb ?_;refine IY 5 (1943+(m.whose).toNat) jA aO ?_;refine PD 7 ?_;refine ta 8 rfl (uJ (r:=(cV from')) rfl rfl rfl (by omega) rfl) ?_;refine PD 10 ?_;refine FD 11 1943 cW fb ?_;refine AL 6 ?_;refine LG 0 Y3 (.int .i64 ((((lr s m.whose m.row).told)[(m.whose).toNat]'(by omega)))) ?_ (hc:=by exact λa_=>(O7 ((lr s m.whose m.row).rep a_) ((m.whose).toNat) (by omega) (by omega) (jZ (((lr s m.whose m.row).rep a_).told) (by omega))));refine EN (ta 9 rfl (Ff (r:=(ig .i64 (s.told[m.whose.toNat]'(by omega)) (cV from'))) rfl rfl rfl rfl) ?_);refine IY 12 (1943+(m.whose).toNat) jA aO ?_;refine AL 13 ?_;refine SK 0 aO (λ_=>cQ _) ?_ (hc:=by exact λa_=>(RepT.st_told ((lr s m.whose m.row).rep a_) ((m.whose).toNat) (by omega) (by omega) (pc (((lr s m.whose m.row).rep a_).told) (by omega) _)));refine EN (DN ?_)
 exact aF
  SB
  (λ_ q=>by
   rw[if_pos h12,show vd s from' m.whose m.row= {lr s m.whose m.row with told:=s.told.set m.whose.toNat (ig .i64 (s.told[m.whose.toNat]'(by omega)) (cV from')) (by omega)}by rw[vd,A2,dif_pos hm,hta]]
   exact ak [0] rfl q)
  (tl2 (():Unit) trivial)
 refine aa λ_ J5=>DC bf (BL 1) (cR 2 rfl rfl) ?_
 refine PD 0 ?_;refine FD 1 1 bd aO ?_;refine LR 2 Y3 (co m rfl) ?_;refine PD 3 ?_;refine FD 4 1943 cW fb ?_;refine IY 5 (1943+(m.whose).toNat) jA aO ?_;refine ta 6 rfl (c7 (v:=(.int .i64 ((s.told[(m.whose).toNat]'(by omega))))) rfl Y3 rfl rfl (λ_ h=>h.2.2.1) (λa_=>(O7 (s.rep a_) ((m.whose).toNat) (by omega) (by omega) (jZ ((s.rep a_).told) (by omega))))) ?_;refine PD 7 ?_;refine jh ?_ ?_<;>intro h20;refine PD 8 ?_;refine NT 9 ?_;refine NT 10 ?_;refine NT 11 ?_;refine NT 12 ?_;refine NT 13 ?_;refine NT 14 ?_;refine NT 15 ?_;refine NT 16 ?_;refine NT 17 ?_;refine NT 18 ?_;refine NT 19 ?_;refine NT 20 ?_;refine PD 21 ?_;refine DN (ac J5 (CY (D1 1 bf ?_)));refine PD 0 ?_;refine FD 1 1 bd aO ?_;refine LR 2 Y3 (co m rfl) ?_;refine FD 3 2 bd ba ?_;refine ta 4 rfl (aK (vs:=ints m.row.flat) rfl dI rfl ba rfl (λ_ h=>h.2.1) (ai m.row) (lP m 0 rfl (by decide) (whole (ai m.row)))) ?_;refine PD 5 ?_;refine FD 6 1948 cW sU ?_;refine IY 7 (1948+((m.whose).toNat)*174) GR ba ?_;refine AL 8 ?_;refine gI (vs:=ints m.row.flat) (i:=2) (ab rfl) rfl rfl rfl rfl rfl (by rw[(ai m.row)];exact ba) (bm _) rfl rfl (λ_=>LC (cQ _) (ai _)) (λa_=>(RepT.wr_last_ (s.rep a_) (((m.whose).toNat)*174) (by omega) (by have h1:=(ai m.row);omega) (oy dm ((s.rep a_).last) (i:=(m.whose).toNat) 0 (by omega) (by omega) (by have h1:=(ai m.row);omega) (cg ((ai (((s.rep a_).last)[(m.whose).toNat]'(by omega))).trans (ai m.row).symm))))) (EN (DN ?_))
 exact aF
  SB
  (λ_ q=>by
   rw[show lr s m.whose m.row= {s with last:=s.last.set m.whose.toNat m.row (by omega)}by rw[lr,if_pos (.inl (hta.trans h20)),A2,dif_pos hm]]
   exact ak [2,1] rfl q)
  (tl4 (():Unit) trivial)
 refine PD 8 ?_;refine FD 9 2 bd ba ?_;refine FD 10 2 dI aO ?_;refine LX 11 Y3 (.int .i64 (m.row.version)) ?_ (hc:=by exact MsgT.pt_row m 0 rfl (by decide) (cA m.row rfl));refine PD 12 ?_;refine FD 13 1 bd aO ?_;refine LR 14 Y3 (co m rfl) ?_;refine PD 15 ?_;refine FD 16 1948 cW sU ?_;refine IY 17 (1948+((m.whose).toNat)*174) GR ba ?_;refine tb 18 rfl (aW (r:=1948+((m.whose).toNat)*174) rfl dI rfl aO rfl rfl) ?_;refine tb 19 rfl (c7 (v:=(.int .i64 ((s.last[(m.whose).toNat]'(by omega)).version))) rfl Y3 rfl rfl (λ_ h=>h.2.2.1) (λa_=>(RepT.pt_last (s.rep a_) (((m.whose).toNat)*174) (by omega) (by omega) (oz dm ((s.rep a_).last) (i:=(m.whose).toNat) 0 (by omega) (by omega) (by decide) (cA _ rfl))))) ?_;refine PD 20 ?_;refine jh ?_ ?_<;>intro h33;refine PD 21 ?_;refine DN (ac J5 (CY (D1 1 bf ?_)));refine PD 0 ?_;refine FD 1 1 bd aO ?_;refine LR 2 Y3 (co m rfl) ?_;refine FD 3 2 bd ba ?_;refine ta 4 rfl (aK (vs:=ints m.row.flat) rfl dI rfl ba rfl (λ_ h=>h.2.1) (ai m.row) (lP m 0 rfl (by decide) (whole (ai m.row)))) ?_;refine PD 5 ?_;refine FD 6 1948 cW sU ?_;refine IY 7 (1948+((m.whose).toNat)*174) GR ba ?_;refine AL 8 ?_
 refine gI (vs:=ints m.row.flat) (i:=2) (ab rfl) rfl rfl rfl rfl rfl (by rw[(ai m.row)];exact ba) (bm _) rfl rfl (λ_=>LC (cQ _) (ai _)) (λa_=>(RepT.wr_last_ (s.rep a_) (((m.whose).toNat)*174) (by omega) (by have h1:=(ai m.row);omega) (oy dm ((s.rep a_).last) (i:=(m.whose).toNat) 0 (by omega) (by omega) (by have h1:=(ai m.row);omega) (cg ((ai (((s.rep a_).last)[(m.whose).toNat]'(by omega))).trans (ai m.row).symm))))) (EN (DN ?_))
 exact aF
  SB
  (λ_ q=>by
   rw[show lr s m.whose m.row= {s with last:=s.last.set m.whose.toNat m.row (by omega)}by rw[lr,if_pos (.inr (by rw[hla];omega)),A2,dif_pos hm]]
   exact ak [2,1] rfl q)
  (tl4 (():Unit) trivial)
 refine PD 21 ?_;refine DN (ac J5 (CN (aM ?_)))
 exact aF
  SB
  (λ_ q=>by
   rw[show lr s m.whose m.row= {s with last:=s.last}by rw[lr,if_neg (by rw[hta,hla];omega)]]
   exact ak [2,1] rfl q)
  (tl4 (():Unit) trivial)
 refine nx J3 (CN (aM ?_))
 exact aF
  SB
  (λ_ q=>by
   rw[if_neg h12]
   exact ak [2] rfl q)
  (tl2 (():Unit) trivial)
abbrev TK{δ:Type}(V:Env δ)(r f:Nat)(s:MS δ)(from':Int)(m:MsgT)(s':MS δ):Prop:=Leg.Does Tryz.prog f #[.pointer (some ⟨r,0,none⟩), .iface V.T V.ov, .int .i64 from', .agg (ints m.flat).toArray] (λ_=>True) [cH V r s] (c9 (λ_ H=>H=[cH V r s']))
theorem nX{δ:Type}(V:Env δ)(r:Nat)(s s':MS δ)(from':Int)(m:MsgT)[OkMg m](h0:m.kind=0→TK V r 121 s from' m s')(h1:m.kind=1→TK V r 122 s from' m s')(h2:m.kind=2→E9 s m.whose m.row=s')(h7:m.kind=7→DT 123 #[.pointer (some ⟨r,0,none⟩), .iface V.T V.ov, .agg (ints m.view.flat).toArray] T0 [cH V r s] (c9 (λv H=>(∃b,v= .bool b)∧H=[cH V r s'])))(h8:m.kind=8→TK V r 124 s from' m s')(h9:m.kind=9→TK V r 125 s from' m s')(hv:m.kind=3∨m.kind=4∨m.kind=5∨m.kind=6→TK V r 126 s from' m s')(hn:m.kind≠0∧m.kind≠1∧m.kind≠2∧m.kind≠7∧m.kind≠8∧m.kind≠9∧m.kind≠3∧m.kind≠4∧m.kind≠5∧m.kind≠6→s=s'):
 DT 82 #[(.pointer (some ⟨r,0,none⟩)),(.iface V.T V.ov),(.int .i64 (from')),(.agg (ints m.flat).toArray)] T0 [cH V r s] (c9 (λ_ H=>H=[cH V r s'])):=by
 refine BD 65 Tryz.func82 rfl rfl rfl λw0 F hF=>sr λ_ J1=>XY (ints m.flat) λb7=>?_
 refine nx J1 (sr λ_ J2=>FA 0 bd aO ?_);refine LU 0 Y3 (eM m rfl) ?_;refine nx J2 (am (sr λ_ J3=>PS ?_));refine ao ?_ ?_<;>intro h11;refine PS ?_;refine nx J3 (CY (ad (P3 ?_)));refine LW 0 bd cf aG ?_;refine CZ MZ ((h0 h11)) (SM [1]) λvR=>?_
 exact ap (af (WK [0] (br rfl rfl)));refine PS ?_;refine nx J3 (CN (sr λ_ J4=>PS ?_));refine ao ?_ ?_<;>intro h18;refine PS ?_;refine nx J4 (CY (ad (P3 ?_)));refine LW 0 bd cf aG ?_;refine CZ MY ((h1 h18)) (SM [1]) λvR=>?_
 exact ap (af (WK [0] (br rfl rfl)));refine PS ?_;refine nx J4 (CN (sr λ_ J5=>PS ?_));refine ao ?_ ?_<;>intro h25;refine PS ?_;refine nx J5 (CY (D1 0 bf ?_));refine PD 0 ?_;refine PD 1 ?_;refine FD 2 1068 cW AG ?_;refine FD 3 1 bd aO ?_;refine LR 4 Y3 (co m rfl) ?_;refine FD 5 2 bd ba ?_;refine ta 6 rfl (aK (vs:=ints m.row.flat) rfl dI rfl ba rfl (λ_ h=>h.2.1) (ai m.row) (lP m 0 rfl (by decide) (whole (ai m.row)))) ?_;refine AL 7 ?_;refine CE Jx (Leg.Does.hid (λa_=>kA r 1068 87 _ (fR (s.rep a_)) s.book m.whose m.row (IP inferInstance))) (SM [1]) ?_;refine EN (DN (af (WK [0] (br rfl ?_))));exact congrArg (λq=>[cH V r q]) (h2 h25);refine PS ?_;refine nx J5 (CN (sr λ_ J6=>PS ?_));refine ao ?_ ?_<;>intro h35;refine PS ?_;refine nx J6 (CY (ad (P2 ?_)));refine FA 185 bd be ?_;refine LV 0 dS be an MsgT.sp_view (y:=m.view) ?_;refine CR H4 ((h7 h35)) (SM [1]) λvR HR hR=>?_
 obtain⟨_,rfl⟩:=hR;exact ap (af (WK [0] (br rfl rfl)));refine PS ?_;refine nx J6 (CN (sr λ_ J7=>PS ?_));refine ao ?_ ?_<;>intro h42;refine PS ?_;refine nx J7 (CY (ad (P3 ?_)));refine LW 0 bd cf aG ?_;refine CZ MX ((h8 h42)) (SM [1]) λvR=>?_
 exact ap (af (WK [0] (br rfl rfl)));refine PS ?_;refine nx J7 (CN (sr λ_ J8=>PS ?_));refine ao ?_ ?_<;>intro h49;refine PS ?_;refine nx J8 (CY (ad (P3 ?_)));refine LW 0 bd cf aG ?_;refine CZ MW ((h9 h49)) (SM [1]) λvR=>?_
 exact ap (af (WK [0] (br rfl rfl)));refine PS ?_;refine nx J8 (CN (aa λ_ J9=>sr λ_ J10=>P2 ?_));refine ao ?_ ?_<;>intro h55;refine nx J10 (CY (qx J9 (CY (ad (P3 ?_)))));refine LW 0 bd cf aG ?_;refine CZ EP ((hv (by omega))) (SM [1]) λvR=>?_
 exact ap (af (WK [0] (br rfl rfl)));refine nx J10 (CN (sr λ_ J11=>P2 ?_));refine ao ?_ ?_<;>intro h55;refine nx J11 (CY (qx J9 (CY (ad (P3 ?_)))));refine LW 0 bd cf aG ?_;refine CZ EP ((hv (by omega))) (SM [1]) λvR=>?_
 exact ap (af (WK [0] (br rfl rfl)));refine nx J11 (CN (sr λ_ J12=>P2 ?_));refine ao ?_ ?_<;>intro h55;refine nx J12 (CY (qx J9 (CY (ad (P3 ?_)))));refine LW 0 bd cf aG ?_;refine CZ EP ((hv (by omega))) (SM [1]) λvR=>?_
 exact ap (af (WK [0] (br rfl rfl)));refine nx J12 (CN (ad (PS ?_)));refine ao ?_ ?_<;>intro h59;refine PS ?_;refine nx J9 (CY (ad (P3 ?_)));refine LW 0 bd cf aG ?_;refine CZ EP ((hv (by omega))) (SM [1]) λvR=>?_
 exact ap (af (WK [0] (br rfl rfl)));refine PS ?_;refine nx J9 (CN (aM (af (WK [1] (br rfl ?_)))));exact congrArg (λq=>[cH V r q]) (hn ⟨h11,h18,h25,h35,h42,h49,by omega,by omega,by omega,by omega⟩)
theorem C1{δ:Type}{V:Env δ}{r:Nat}{s s':MS δ}{from':Int}{m:MsgT}[OkMg m](hk:m.kind=9)(h:TK V r 125 s from' m s'):TK V r 82 s from' m s':=nX V r s s' from' m (λe=>by omega) (λe=>by omega) (λe=>by omega) (λe=>by omega) (λe=>by omega) (λ_=>h) (λe=>by omega) (λe=>by omega)
theorem C2{δ:Type}{V:Env δ}{r:Nat}{s s':MS δ}{from':Int}{m:MsgT}[OkMg m](hk:m.kind=8)(h:TK V r 124 s from' m s'):TK V r 82 s from' m s':=nX V r s s' from' m (λe=>by omega) (λe=>by omega) (λe=>by omega) (λe=>by omega) (λ_=>h) (λe=>by omega) (λe=>by omega) (λe=>by omega)
theorem nW{δ:Type}{V:Env δ}{r:Nat}{s s':MS δ}{from':Int}{m:MsgT}[OkMg m](hk:m.kind=3∨m.kind=4∨m.kind=5∨m.kind=6)(h:TK V r 126 s from' m s'):TK V r 82 s from' m s':=nX V r s s' from' m (λe=>by omega) (λe=>by omega) (λe=>by omega) (λe=>by omega) (λe=>by omega) (λe=>by omega) (λ_=>h) (λe=>by omega)
theorem vF{δ:Type}(V:Env δ)(r:Nat)(s:MS δ)(w:Int)(y:RowT)[OkR V.toDk s][OkRow y]:TK V r 82 s s.id (gS w y) (fX V.toDk s s.id (gS w y)):=C1 rfl (nt V r s s.id (gS w y))
theorem pj{δ:Type}(V:Env δ)(r:Nat)(s:MS δ)(s':MS δ)(from':Int)(m:MsgT)[OkR V.toDk s'][OkMg m](hl:DT 123 #[.pointer (some ⟨r,0,none⟩), .iface V.T V.ov, .agg (ints m.view.flat).toArray] T0 [cH V r s] (c9 (λv H=>(∃b,v= .bool b)∧H=[cH V r s']))):
 DT 124 #[(.pointer (some ⟨r,0,none⟩)),(.iface V.T V.ov),(.int .i64 (from')),(.agg (ints m.flat).toArray)] T0 [cH V r s] (c9 (λ_ H=>H=[cH V r (fu V.toDk s' from' m.whose)])):=by
 refine BD 64 Tryz.func124 rfl rfl rfl λw0 F hF=>sr λ_ J1=>XY (ints m.flat) λb7=>?_
 refine nx J1 (sr λ_ J2=>P2 ?_);refine FA 185 bd be ?_;refine LV 0 dS be an MsgT.sp_view (y:=m.view) ?_;refine CR H4 (hl) (SM [1]) λvR HR hR=>?_
 obtain⟨_,rfl⟩:=hR;refine nx J2 (aa λ_ J3=>aa λ_ J4=>DC bf (cR 0 rfl rfl) (BL 1) ?_);refine PD 0 ?_;refine PD 1 ?_;refine FD 2 2 cW be ?_;refine ta 3 rfl (fU (vs:=ints s'.view.flat) rfl dS rfl be rfl (λ_ h=>h.2.1) (an s'.view) (λa_=>(fO (s'.rep a_) 0 rfl (by decide) (whole (an ((s'.rep a_).view)))))) ?_;refine FD 4 1 bd aO ?_;refine LR 5 Y3 (co m rfl) ?_;refine AL 6 ?_;refine CE Bs (j6 s'.view m.whose OkVw.rng) ID ?_;refine EN (PD 7 ?_);refine PD 8 ?_;refine PD 9 ?_;refine q8 ?_ ?_<;>intro h24;refine PD 10 ?_;refine PD 11 ?_;refine DN (ac J4 (sr λ_ J5=>PS ?_));refine PS ?_;refine P4 ?_;refine ao ?_ ?_<;>intro h30;refine PS ?_;refine nx J5 (CY (ah (ae (WK [0] (dx rfl ?_)))));exact MQ (by rw[fu,if_pos (λh=>h30 (by rw[h];rfl))]);refine PS ?_;refine nx J5 (CN (qx J3 (aa λ_ J6=>aa λ_ J7=>D1 1 bf ?_)));refine PD 0 ?_;refine PD 1 ?_;refine FD 2 183 cW sT ?_;refine FD 3 1 bd aO ?_;refine LR 4 Y3 (co m rfl) ?_;refine AL 5 ?_;refine CE Lb (Leg.Does.hid (λa_=>mI r 183 87 _ (dN (s'.rep a_)) s'.mirror m.whose)) ID ?_;refine bc ?_ ?_<;>intro h37;refine EN (PD 6 ?_);refine DN (ac J7 (CN (qx J6 (D1 1 bf ?_))));refine PD 0 ?_;refine PD 1 ?_;refine PD 2 ?_;refine FD 3 1 bd aO ?_;refine LR 4 Y3 (co m rfl) ?_;refine PD 5 ?_;refine PD 6 ?_;refine FD 7 183 cW sT ?_;refine FD 8 1 bd aO ?_;refine LR 9 Y3 (co m rfl) ?_;refine AL 10 ?_;refine CE HO (Leg.Does.hid (λa_=>lp r 183 87 _ (dN (s'.rep a_)) s'.mirror m.whose)) ID ?_
 refine EN (ta 11 rfl (ke MsgT.zero (MsgT.mk 9 m.whose (cJ s'.mirror m.whose) 0 0 BallotT.zero BallotT.zero ChangeT.zero ViewT.zero) [(0,[Value.int .i64 9]),(1,[Value.int .i64 m.whose]),(2,ints (cJ s'.mirror m.whose).flat)] bd bw (g:=MsgT.sg)) ?_);refine AL 12 ?_;refine CZ iN (fZ V r s' from' (gS m.whose (cJ s'.mirror m.whose)) (λs=>fX V.toDk s s.id (gS m.whose (cJ s.mirror m.whose))) (λ_=>vF V r s' m.whose _)) ID λvR=>?_
 refine EN (DN (WK [0] (br rfl ?_)));exact MQ (by rw[fu,if_neg (λh=>h (tk h24 (by omega))),if_pos h37]);refine EN (PD 6 ?_);refine DN (ac J7 (CY (aa λ_ J8=>sr λ_ J9=>PS ?_)));refine FA 1 bd aO ?_;refine LU 1 Y3 (co m rfl) ?_;refine tp (ke RecT.zero (RecT.mk 2 m.whose RowT.zero 0 BallotT.zero ChangeT.zero ViewT.zero) [(0,[Value.int .i64 2]),(1,[Value.int .i64 m.whose])] dT eU (g:=RecT.sg)) ?_;refine CE wk (kN V r s' (ja m.whose)) ID ?_;refine PS ?_;refine ao ?_ ?_<;>intro h44;refine nx J9 (CY (ah (ae (ae (WK [0] (dx rfl ?_))))));exact MQ (by rw[fu,if_neg (λh=>h (tk h24 (by omega))),if_neg (by rw[h37];decide),if_pos h44]);refine nx J9 (CN (qx J8 (D1 1 bf ?_)));refine PD 0 ?_;refine PD 1 ?_;refine FD 2 183 cW sT ?_;refine FD 3 1 bd aO ?_;refine LR 4 Y3 (co m rfl) ?_;refine AL 5 ?_;refine CE Ks (Leg.Does.hid (λa_=>r9 r 183 87 _ (dN ((dZ V.toDk s' (ja m.whose)).rep a_)) (dZ V.toDk s' (ja m.whose)).mirror m.whose)) ID ?_;refine EN (DN (ac J6 (D1 1 bf ?_)));refine PD 0 ?_;refine PD 1 ?_;refine PD 2 ?_;refine FD 3 1 bd aO ?_;refine LR 4 Y3 (co m rfl) ?_;refine PD 5 ?_;refine PD 6 ?_;refine FD 7 183 cW sT ?_;refine FD 8 1 bd aO ?_;refine LR 9 Y3 (co m rfl) ?_;refine AL 10 ?_;refine CE HO (Leg.Does.hid (λa_=>lp r 183 87 _ (dN ((lL (dZ V.toDk s' (ja m.whose)) m.whose).rep a_)) (lL (dZ V.toDk s' (ja m.whose)) m.whose).mirror m.whose)) ID ?_
 refine EN (ta 11 rfl (ke MsgT.zero (MsgT.mk 9 m.whose (cJ (lL (dZ V.toDk s' (ja m.whose)) m.whose).mirror m.whose) 0 0 BallotT.zero BallotT.zero ChangeT.zero ViewT.zero) [(0,[Value.int .i64 9]),(1,[Value.int .i64 m.whose]),(2,ints (cJ (lL (dZ V.toDk s' (ja m.whose)) m.whose).mirror m.whose).flat)] bd bw (g:=MsgT.sg)) ?_);refine AL 12 ?_;refine CZ iN (fZ V r (lL (dZ V.toDk s' (ja m.whose)) m.whose) from' (gS m.whose (cJ (lL (dZ V.toDk s' (ja m.whose)) m.whose).mirror m.whose)) (λs=>fX V.toDk s s.id (gS m.whose (cJ s.mirror m.whose))) (λ_=>vF V r (lL (dZ V.toDk s' (ja m.whose)) m.whose) m.whose _)) ID λvR=>?_
 refine EN (DN (WK [0] (br rfl ?_)));exact MQ (by rw[fu,if_neg (λh=>h (tk h24 (by omega))),if_neg (by rw[h37];decide),if_neg h44]);refine PD 10 ?_;refine PD 11 ?_;refine DN (ac J4 (sr λ_ J10=>PS ?_));refine PS ?_;refine PS ?_
 iterate 3 refine UT ?_
 refine PS ?_;refine nx J10 (CY (ah (ae (WK [0] (dx rfl ?_)))));exact MQ (by rw[fu,if_pos (λh=>by rw[h]at h24;cases h24)])
section
variable {δ:Type} {V:Env δ} {r:Nat} {s:MS δ} {H:List HP} {h:Hl}
theorem EQ(q:bK (cH V r s::H) h): ∃vo,bK (uT V r s vo::H) h:=by
 obtain⟨a,q1⟩:=e5 q;exact⟨a.vo,bo (p:=λa':Nat×Value=>[aj r (RepT.cells (s.rep ⟨a'.1,a.vo,a'.2⟩)) 87,V.lg a'.1 s.e,own a'.2 s.replies.length (ints (s.replies.flatMap ReplyT.flat)) 47 3,V.E s.e s.o]) (a.lg,a.rs) (Hr (aA [3,0,0,0,0] rfl q1))⟩
theorem By(q:bK (uT V r s (.pointer none)::H) h):bK (cH V r {s with vote:=none}::H) h:=by
 obtain⟨a,q1⟩:=e5 q;have q2:bK (Er (.pointer none) none::([aj r (RepT.cells (s.rep ⟨a.1, .pointer none,a.2⟩)) 87,V.lg a.1 s.e,own a.2 s.replies.length (ints (s.replies.flatMap ReplyT.flat)) 47 3,V.E s.e s.o]++H)) h:=⟨em,h,Cu h,(qn h).symm,rfl,q1⟩;exact bo (p:=λa:Adr=>[aj r (RepT.cells ({s with vote:=none}.rep a)) 87,V.lg a.lg {s with vote:=none}.e,own a.rs {s with vote:=none}.replies.length (ints ({s with vote:=none}.replies.flatMap ReplyT.flat)) 47 3,Er a.vo {s with vote:=none}.vote,V.E {s with vote:=none}.e {s with vote:=none}.o]) ⟨a.1, .pointer none,a.2⟩ (aA [1,1,1,0,0] rfl q2)
theorem rZ(hv:s.vote=none)(q:bK (cH V r s::H) h):bK (uT V r s (.pointer none)::H) h:=by
 obtain⟨a,q1⟩:=e5 q;have q2:=aA [3,0,0,0,0] rfl q1;obtain⟨h1,h2,d,rfl,e,q3⟩:=q2;rw[hv]at e;have e':a.vo= .pointer none:=e;obtain⟨lg,vo,rs⟩:=a;obtain rfl:=e';rw[m5 d];exact ld _ (bo (p:=λa':Nat×Value=>[aj r (RepT.cells (s.rep ⟨a'.1, .pointer none,a'.2⟩)) 87,V.lg a'.1 s.e,own a'.2 s.replies.length (ints (s.replies.flatMap ReplyT.flat)) 47 3,V.E s.e s.o]) (lg,rs) q3) d.symm
theorem mH{vt:VoteT}(hv:s.vote=some vt)(q:bK (cH V r s::H) h): ∃vb,bK (uT V r s (.pointer (some ⟨vb,0,none⟩))::aj vb (VoteT.cells vt) 207::H) h:=by
 obtain⟨a,q1⟩:=e5 q;have q2:=aA [3,0,0,0,0] rfl q1;obtain⟨h1,h2,d,rfl,e,q3⟩:=q2;rw[hv]at e;obtain⟨vb,e',e⟩:=e;obtain⟨lg,vo,rs⟩:=a;have e2:vo= .pointer (some ⟨vb,0,none⟩):=e';obtain rfl:=e2;refine⟨vb,dY (List.Perm.swap _ _ _) ?_⟩;exact⟨h1,h2,d,rfl,e,bo (p:=λa':Nat×Value=>[aj r (RepT.cells (s.rep ⟨a'.1, .pointer (some ⟨vb,0,none⟩),a'.2⟩)) 87,V.lg a'.1 s.e,own a'.2 s.replies.length (ints (s.replies.flatMap ReplyT.flat)) 47 3,V.E s.e s.o]) (lg,rs) q3⟩
theorem nB{vt:VoteT}{vb:Nat}(q:bK (uT V r s (.pointer (some ⟨vb,0,none⟩))::aj vb (VoteT.cells vt) 207::H) h):bK (cH V r {s with vote:=some vt}::H) h:=by
 obtain⟨a,q1⟩:=e5 q;have q2:bK ([aj r (RepT.cells (s.rep ⟨a.1, .pointer (some ⟨vb,0,none⟩),a.2⟩)) 87,V.lg a.1 s.e,own a.2 s.replies.length (ints (s.replies.flatMap ReplyT.flat)) 47 3,V.E s.e s.o]++(Er (.pointer (some ⟨vb,0,none⟩)) (some vt)::H)) h:=Fz (λ_ e=>⟨vb,rfl,e⟩) q1;exact bo (p:=λa:Adr=>[aj r (RepT.cells ({s with vote:=some vt}.rep a)) 87,V.lg a.lg {s with vote:=some vt}.e,own a.rs {s with vote:=some vt}.replies.length (ints ({s with vote:=some vt}.replies.flatMap ReplyT.flat)) 47 3,Er a.vo {s with vote:=some vt}.vote,V.E {s with vote:=some vt}.e {s with vote:=some vt}.o]) ⟨a.1, .pointer (some ⟨vb,0,none⟩),a.2⟩ (aA [0,0,0,1,0] rfl q2)
theorem nC{vt:VoteT}{vb:Nat}(hv:s.vote=some vt)(q:bK (uT V r s (.pointer (some ⟨vb,0,none⟩))::aj vb (VoteT.cells vt) 207::H) h):bK (cH V r s::H) h:=by
 have q2:=nB q
 rwa [show({s with vote:=some vt}:MS δ)=s by cases s;simp_all]at q2
end
theorem BR{δ:Type}(V:Env δ)(r:Nat)(s:MS δ)(v:ViewT):
 DT 67 #[(.pointer (some ⟨r,0,none⟩)),(.agg (ints v.flat).toArray)] T0 [cH V r s] (c9 (λ_ H=>H=[cH V r (mL s v)])):=by
 refine BD 20 Tryz.func67 rfl rfl rfl λw0 F hF=>sr λ_ J1=>XY (ints v.flat) λb3=>?_
 refine nx J1 (sr λ_ J2=>PS ?_);refine LW 0 dS be an ?_;refine PS ?_;refine FA 2 cW be ?_;refine gI (vs:=ints v.flat) (i:=1) (ab rfl) rfl rfl rfl rfl rfl (by rw[(an v)];exact be) (bm _) rfl rfl (λ_=>LC (cQ _) (an _)) (λa_=>(OJ (s.rep a_) 0 rfl (by have h1:=(an v);omega) (cg ((an ((s.rep a_).view)).trans (an v).symm)))) (nx J2 (sr λ_ J3=>PS ?_));refine FA 0 dS aO ?_;refine LU 0 Y3 (aU v rfl) ?_;refine tp (ke AccT.zero (AccT.mk v.epoch BallotT.zero BallotT.zero ChangeT.zero) [(0,[Value.int .i64 v.epoch])] oU nR (g:=AccT.sg)) ?_;refine PS ?_;refine FA 1058 cW fD ?_;refine gI (vs:=ints (AccT.mk v.epoch BallotT.zero BallotT.zero ChangeT.zero).flat) (i:=1) (ab rfl) rfl rfl rfl rfl rfl (by rw[(a9 (AccT.mk v.epoch BallotT.zero BallotT.zero ChangeT.zero))];exact fD) (bm _) rfl rfl (λ_=>LC (cQ _) (a9 _)) (λa_=>(kb ((MS.setView s v).rep a_) 0 rfl (by have h1:=(a9 (AccT.mk v.epoch BallotT.zero BallotT.zero ChangeT.zero));omega) (cg ((a9 (((MS.setView s v).rep a_).acc)).trans (a9 (AccT.mk v.epoch BallotT.zero BallotT.zero ChangeT.zero)).symm)))) (nx J3 (sr λ_ J4=>ce (λ_ q=>aA [1] rfl q) (Nr (H':=λvo:Value=>uT V r (MS.setAcc (MS.setView s v) (AccT.mk v.epoch BallotT.zero BallotT.zero ChangeT.zero)) vo::[aj b3 (ints v.flat) 32]) (λ_ q=>EQ q) (λvo=>P2 ?_))));refine FA 1067 cW my ?_;refine SK 0 my (λ_=>cQ _) ?_ (hc:=by exact λa_=>(OL _ rfl _))
 refine nx J4 (ad (ce (H':=cH V r {{s with view:=v}with acc:= {AccT.zero with epoch:=v.epoch},vote:=none}::[aj b3 (ints v.flat) 32]) (λ_ q=>By (aA [0] rfl q)) (P2 ?_)));refine FA 1066 cW aO ?_;refine SK 0 aO (λ_=>cQ _) ?_ (hc:=by exact λa_=>(lC _ rfl _));exact ap (WK [0] (br rfl rfl))
theorem tV{δ:Type}(V:Env δ)(r:Nat)(s:MS δ)(v:ViewT)[OkR V.toDk s][OkVw v](hcl: ¬v.epoch≤s.view.epoch→DT 85 #[.pointer (some ⟨r,0,none⟩), .iface V.T V.ov] T0 [cH V r (mL (dZ V.toDk s (kR v)) v)] (c9 (λ_ H=>H=[cH V r (qW V.toDk (mL (dZ V.toDk s (kR v)) v))]))):
 DT 123 #[(.pointer (some ⟨r,0,none⟩)),(.iface V.T V.ov),(.agg (ints v.flat).toArray)] T0 [cH V r s] (RI (.bool (p5 V.toDk s v)) [cH V r (hO V.toDk s v)]):=by
 refine BD 28 Tryz.func123 rfl rfl rfl λw0 F hF=>sr λ_ J1=>XY (ints v.flat) λb5=>?_
 refine PS ?_;refine nx J1 (aa λ_ J2=>aa λ_ J3=>DC bf (BL 0) (cR 1 rfl rfl) ?_);refine FD 0 0 dS aO ?_;refine LR 1 Y3 (aU v rfl) ?_;refine PD 2 ?_;refine PD 3 ?_;refine FD 4 2 cW be ?_;refine FD 5 2 dS aO ?_;refine ta 6 rfl (c7 (v:=(.int .i64 (s.view.epoch))) rfl Y3 rfl rfl (λ_ h=>h.2.2.1) (λa_=>(cm (s.rep a_) 0 rfl (by decide) (aU _ rfl)))) ?_;refine PD 7 ?_;refine jh ?_ ?_<;>intro h14;refine PD 8 ?_;refine NT 9 ?_;refine NT 10 ?_;refine NT 11 ?_;refine NT 12 ?_;refine NT 13 ?_;refine PD 14 ?_;refine DN (ac J3 (CY (sr λ_ J4=>PS ?_)));refine nx J4 (ah (ae (WK [1] (av rfl rfl ?_))));have e:hO V.toDk s v=s:=by rw[hO,if_pos h14]
 exact⟨by rw[p5,decide_eq_false (by omega),gC],congrArg (λq=>[cH V r q]) e.symm⟩;refine PD 8 ?_;refine PD 9 ?_;refine LY 10 dS be an ?_;refine tb 11 rfl (ke RecT.zero (RecT.mk 5 0 RowT.zero 0 BallotT.zero ChangeT.zero v) [(0,[Value.int .i64 5]),(6,ints v.flat)] dT eU (g:=RecT.sg)) ?_;refine AL 12 ?_;refine CE wk (kN V r s (kR v)) (SM [1]) ?_;refine EN (PD 13 ?_);refine jh ?_ ?_<;>intro h20;refine PD 14 ?_;refine DN (ac J3 (CY (sr λ_ J5=>PS ?_)));refine nx J5 (ah (ae (WK [0] (av rfl rfl ?_))));have e:hO V.toDk s v=(dZ V.toDk s (kR v)):=by rw[hO,if_neg h14,if_pos h20]
 exact⟨by rw[p5,decide_eq_true (by omega),decide_eq_false h20,uM],congrArg (λq=>[cH V r q]) e.symm⟩;refine PD 14 ?_;refine DN (ac J3 (CN (qx J2 (sr λ_ J6=>PS ?_))));refine LW 1 dS be an ?_;refine CZ K8 (BR V r (dZ V.toDk s (kR v)) v) ID λvR=>?_
 refine nx J6 (sr λ_ J7=>P2 ?_);refine CZ KZ ((hcl (by omega))) ID λvR=>?_
 refine nx J7 (sr λ_ J8=>PS ?_);refine nx J8 (ah (WK [0] (av rfl rfl ?_)));have e:hO V.toDk s v=(qW V.toDk (mL (dZ V.toDk s (kR v)) v)):=by rw[hO,if_neg h14,if_neg h20]
 exact⟨by rw[p5,decide_eq_true (by omega),decide_eq_true (by omega),uM],congrArg (λq=>[cH V r q]) e.symm⟩
theorem BE{δ:Type}(V:Env δ)(r:Nat)(s:MS δ)(v:ViewT)[OkR V.toDk s][OkVw v](h:v.epoch≤s.view.epoch):DT 123 #[.pointer (some ⟨r,0,none⟩), .iface V.T V.ov, .agg (ints v.flat).toArray] T0 [cH V r s] (c9 (λq H=>(∃b,q= .bool b)∧H=[cH V r s])):=
 (tV V r s v (λq=>absurd h q)).mono λe H hp=>by
  cases e with
  |returned q=>exact⟨⟨_,hp.1⟩,hp.2.trans (by rw[hO,if_pos h])⟩
  |panicked c=>exact hp.elim
  |outgrown=>exact hp.elim
theorem vG{δ:Type}(V:Env δ)(r:Nat)(s:MS δ)(i:Int)[OkR V.toDk s]:TK V r 82 s s.id (n4 i s.view) (fu V.toDk s s.id i):=C2 rfl (pj V r s s s.id (n4 i s.view) (BE V r s s.view (Int.le_refl _)))
theorem pJ{δ:Type}(V:Env δ)(r:Nat)(s:MS δ)[OkR V.toDk s]:
 DT 85 #[(.pointer (some ⟨r,0,none⟩)),(.iface V.T V.ov)] T0 [cH V r s] (c9 (λ_ H=>H=[cH V r (qW V.toDk s)])):=by
 refine BD 39 Tryz.func85 rfl rfl rfl λw0 F hF=>sr λ_ J1=>PS ?_
 refine CR Ko (yM V r s) ID λvR HR hR=>?_
 obtain⟨_,rfl,rfl⟩:=hR;revert vR;intro ud;refine gj 0 rfl rfl (λhlud houd=>tp (c8 rfl ii rfl hlud) ?_);refine PS ?_;refine nx J1 (am ?_)
 refine bu (α:=(Nat)) (λk=>k≤(bE s).length) (λk=>[(0,(.pointer (some ⟨r,0,none⟩))),(1,(.iface V.T V.ov)),(9,ud),(10,(.int .i64 ((((bE s).length:Nat):Int)))),(11,(.int .i64 (((k:Nat):Int))))]) (λk=>[own ud ((bE s).length) (ints (bE s)) 3 1,cH V r (fW V.toDk ((bE s).take k) s)]) (λk=>(bE s).length-k) 0
  (aN _) SB
  (λ_ s=>s) (λk hinv=>?_)
 obtain hk:=hinv;have hcl:OkR V.toDk (fW V.toDk ((bE s).take k) s):=tn _ _ inferInstance;refine sr λ_ J2=>PS ?_
 refine ao ?_ ?_<;>intro h12;refine nx J2 (aa λ_ J3=>CY (qx J3 (aa λ_ J4=>am (sr λ_ J5=>?_))));have hmm1:(bE s).getD k 0∈bE s:=by rw[List.getD_eq_getElem?_getD,List.getElem?_eq_getElem (by omega)];exact eW _
 have hm1:cy ((bE s).getD k 0)=true:=(wN hmm1).1;have hn1:0≤(bE s).getD k 0∧(bE s).getD k 0<5:=of_decide_eq_true hm1;refine ij 0 rfl rfl (by omega) (λge1 ce1 he1 _=>tp (bg (r:=k) he1 rfl ii aO rfl rfl (by omega) (by omega) (by omega)) ?_);refine tp (bZ (v:=(.int .i64 (((bE s).getD k 0)))) rfl Y3 rfl rfl (fI 0 rfl he1 rfl) (wB (by omega))) ?_;refine PS ?_;refine nx J5 (sr λ_ J6=>PS ?_);refine CR Bu (pX ((bE s).getD k 0) hm1) ID λvR HR hR=>?_
 obtain⟨_,rfl,rfl⟩:=hR;revert vR;intro uw;refine gj 0 rfl rfl (λhluw _=>ij 0 rfl rfl (by omega) (λgw capw hvw hcapw=>tp (c8 rfl ii rfl hluw) ?_));refine PS ?_;refine nx J6 (am (gK 2 (sr λ_ J7=>PS ?_)));refine nx J7 (aa λ_ J8=>CY (qx J8 (aa λ_ J9=>eT (α:=Unit) (λ_u=>True) (λ_u=>[(0,(.pointer (some ⟨r,0,none⟩))),(1,(.iface V.T V.ov)),(5,(.int .i64 (((bE s).getD k 0)))),(9,ud),(10,(.int .i64 ((((bE s).length:Nat):Int)))),(11,(.int .i64 (((k:Nat):Int)))),(16,uw),(17,(.int .i64 2)),(18,(.int .i64 0)),(19,(.bool true))]) (λ_u=>[cH V r (gW V.toDk (fW V.toDk ((bE s).take k) s) ((bE s).getD k 0) ((((bE s).getD k 0)+1)%5)),own uw (2) ([.int .i64 ((((bE s).getD k 0)+1)%5), .int .i64 ((((bE s).getD k 0)+2)%5)]) 3 1,own ud ((bE s).length) (ints (bE s)) 3 1]) (λ_u hinv=>?_) (λtl9=>?_))));have _:=hinv;refine ac J9 (ad (tp (bv (r:=1) rfl rfl rfl (by decide)) ?_));refine PS ?_;refine ap (bH (sr λ_ J10=>PS ?_))
 refine nx J10 (aa λ_ J11=>CY (qx J11 (aa λ_ J12=>eT (α:=Unit) (λ_u=>True) (λ_u=>[(0,(.pointer (some ⟨r,0,none⟩))),(1,(.iface V.T V.ov)),(5,(.int .i64 (((bE s).getD k 0)))),(9,ud),(10,(.int .i64 ((((bE s).length:Nat):Int)))),(11,(.int .i64 (((k:Nat):Int)))),(16,uw),(17,(.int .i64 2)),(18,(.int .i64 1)),(19,(.bool true)),(37,(.int .i64 1))]) (λ_u=>[cH V r (gW V.toDk (gW V.toDk (fW V.toDk ((bE s).take k) s) ((bE s).getD k 0) ((((bE s).getD k 0)+1)%5)) ((bE s).getD k 0) ((((bE s).getD k 0)+2)%5)),own uw (2) ([.int .i64 ((((bE s).getD k 0)+1)%5), .int .i64 ((((bE s).getD k 0)+2)%5)]) 3 1,own ud ((bE s).length) (ints (bE s)) 3 1]) (λ_u hinv=>?_) (λtl12=>?_))));have _:=hinv;refine ac J12 (ad (tp (bv (r:=2) rfl rfl rfl (by decide)) ?_));refine PS ?_;refine ap (bH (sr λ_ J13=>PS ?_));refine nx J13 (aa λ_ J14=>CN (aV (ay (ay (bh (af (ac J4 (ad (AD ?_)))))))));refine PS ?_;refine ap ?_
 exact aJ ((k+1):(Nat)) (by omega) (by show(bE s).length- (k+1)< (bE s).length-k;omega)
  SB
  (λ_ q=>by
   rw[Cd V.toDk (by omega) s]
   exact ak [2,0] rfl q)
 refine am (sr λ_ J15=>tp (bg (r:=1) hvw rfl ii aO rfl rfl (by omega) (by omega) rfl) ?_);refine tp (bZ (v:=(.int .i64 (((((bE s).getD k 0)+2)%5)))) rfl Y3 rfl rfl (fI 1 rfl hvw rfl) rfl) ?_;refine PS ?_;refine nx J15 (sr λ_ J16=>P3 ?_);refine CE EO (m3 V r (gW V.toDk (fW V.toDk ((bE s).take k) s) ((bE s).getD k 0) ((((bE s).getD k 0)+1)%5)) ((bE s).getD k 0) ((((bE s).getD k 0)+2)%5) hm1 (by omega)) ID ?_;refine bc ?_ ?_<;>intro h25;refine PS ?_;refine nx J16 (CN (aM (af ?_)))
 exact aF
  SB
  (λ_ q=>by
   rw[gW,if_pos h25]
   exact ak [0,0,0] rfl q)
  (tl12 (():Unit) trivial)
 refine PS ?_;refine nx J16 (CY (ad ?_))
 iterate 6 refine PS ?_
 refine FA 2 cW be ?_;refine LZ 0 dS be an ((gW V.toDk (fW V.toDk ((bE s).take k) s) ((bE s).getD k 0) ((((bE s).getD k 0)+1)%5)).view) ?_ (hc:=by exact λ_=>cO _);refine tp (ke MsgT.zero (MsgT.mk 8 ((bE s).getD k 0) RowT.zero 0 0 BallotT.zero BallotT.zero ChangeT.zero ((gW V.toDk (fW V.toDk ((bE s).take k) s) ((bE s).getD k 0) ((((bE s).getD k 0)+1)%5)).view)) [(0,[Value.int .i64 8]),(1,[Value.int .i64 ((bE s).getD k 0)]),(8,ints ((gW V.toDk (fW V.toDk ((bE s).take k) s) ((bE s).getD k 0) ((((bE s).getD k 0)+1)%5)).view).flat)] bd bw (g:=MsgT.sg)) ?_;refine CZ iN (fZ V r (gW V.toDk (fW V.toDk ((bE s).take k) s) ((bE s).getD k 0) ((((bE s).getD k 0)+1)%5)) ((((bE s).getD k 0)+2)%5) (n4 ((bE s).getD k 0) (gW V.toDk (fW V.toDk ((bE s).take k) s) ((bE s).getD k 0) ((((bE s).getD k 0)+1)%5)).view) (λs_=>fu V.toDk s_ s_.id ((bE s).getD k 0)) (λ_=>vG V r (gW V.toDk (fW V.toDk ((bE s).take k) s) ((bE s).getD k 0) ((((bE s).getD k 0)+1)%5)) ((bE s).getD k 0))) ID λvR=>?_
 refine ap (af ?_)
 exact aF
  SB
  (λ_ q=>by
   rw[gW,if_neg (by rw[h25];decide)]
   exact ak [0,0,0] rfl q)
  (tl12 (():Unit) trivial)
 refine am (sr λ_ J17=>tp (bg (r:=0) hvw rfl ii aO rfl rfl (by omega) (by omega) rfl) ?_);refine tp (bZ (v:=(.int .i64 (((((bE s).getD k 0)+1)%5)))) rfl Y3 rfl rfl (fI 0 rfl hvw rfl) rfl) ?_;refine PS ?_;refine nx J17 (sr λ_ J18=>P3 ?_);refine CE EO (m3 V r (fW V.toDk ((bE s).take k) s) ((bE s).getD k 0) ((((bE s).getD k 0)+1)%5) hm1 (by omega)) (SM [2]) ?_;refine bc ?_ ?_<;>intro h25;refine PS ?_;refine nx J18 (CN (aM (af ?_)))
 exact aF
  SB
  (λ_ q=>by
   rw[gW,if_pos h25]
   exact ak [0,0,0] rfl q)
  (tl9 (():Unit) trivial)
 refine PS ?_;refine nx J18 (CY (ad ?_))
 iterate 6 refine PS ?_
 refine FA 2 cW be ?_;refine LZ 0 dS be an ((fW V.toDk ((bE s).take k) s).view) ?_ (hc:=by exact λ_=>cO _);refine tp (ke MsgT.zero (MsgT.mk 8 ((bE s).getD k 0) RowT.zero 0 0 BallotT.zero BallotT.zero ChangeT.zero ((fW V.toDk ((bE s).take k) s).view)) [(0,[Value.int .i64 8]),(1,[Value.int .i64 ((bE s).getD k 0)]),(8,ints ((fW V.toDk ((bE s).take k) s).view).flat)] bd bw (g:=MsgT.sg)) ?_;refine CZ iN (fZ V r (fW V.toDk ((bE s).take k) s) ((((bE s).getD k 0)+1)%5) (n4 ((bE s).getD k 0) (fW V.toDk ((bE s).take k) s).view) (λs_=>fu V.toDk s_ s_.id ((bE s).getD k 0)) (λ_=>vG V r (fW V.toDk ((bE s).take k) s) ((bE s).getD k 0))) ID λvR=>?_
 refine ap (af ?_)
 exact aF
  SB
  (λ_ q=>by
   rw[gW,if_neg (by rw[h25];decide)]
   exact ak [0,0,0] rfl q)
  (tl9 (():Unit) trivial)
 refine nx J2 (aa λ_ J19=>CN (aV (ay (ay (bh (WK [1] (br rfl ?_)))))));obtain rfl:k=(bE s).length:=by omega
 exact MQ (by rw[eV];rfl)
theorem tW{δ:Type}(V:Env δ)(r:Nat)(s:MS δ)(v:ViewT)[OkR V.toDk s][OkVw v]:DT 123 #[.pointer (some ⟨r,0,none⟩), .iface V.T V.ov, .agg (ints v.flat).toArray] T0 [cH V r s] (RI (.bool (p5 V.toDk s v)) [cH V r (hO V.toDk s v)]):=tV V r s v λ_=>pJ V r _
theorem tX{δ:Type}(V:Env δ)(r:Nat)(s:MS δ)(v:ViewT)[OkR V.toDk s][OkVw v]:DT 123 #[.pointer (some ⟨r,0,none⟩), .iface V.T V.ov, .agg (ints v.flat).toArray] T0 [cH V r s] (c9 (λq H=>(∃b,q= .bool b)∧H=[cH V r (hO V.toDk s v)])):=
 (tW V r s v).mono λe H hp=>by
  cases e with
  |returned q=>exact⟨⟨_,hp.1⟩,hp.2⟩
  |panicked c=>exact hp.elim
  |outgrown=>exact hp.elim
theorem vj{δ:Type}(V:Env δ)(r:Nat)(s:MS δ)(from':Int)(m:MsgT)[OkR V.toDk s][OkMg m]:TK V r 124 s from' m (mj V.toDk s from' m):=pj V r s _ from' m (tX V r s m.view)
theorem KQ:Tryz.prog.eqGuardType Tryz.prog.depth 80=false:=by kernel_rfl
theorem KO:Tryz.prog.keyTypeAt 6 80=true:=by kernel_rfl
theorem Lm:pD Tryz.prog 6 80=some 2:=by kernel_rfl
theorem GB:(match Tryz.prog.underlying 80 with|some (.struct _)|some (.array _ _)=>true|_=>false)=true:=by kernel_rfl
theorem GM:Tryz.prog.cellsOf 80=2:=by kernel_rfl
theorem N0:Tryz.prog.eqGuardType Tryz.prog.depth 82=false:=by kernel_rfl
theorem NW:Tryz.prog.keyTypeAt 6 82=true:=by kernel_rfl
theorem OE:pD Tryz.prog 6 82=some 8:=by kernel_rfl
theorem Nb:(match Tryz.prog.underlying 82 with|some (.struct _)|some (.array _ _)=>true|_=>false)=true:=by kernel_rfl
theorem Nh:Tryz.prog.cellsOf 82=8:=by kernel_rfl
theorem yD(a b:BallotT):
 DT 183 #[(.agg (ints a.flat).toArray),(.agg (ints b.flat).toArray)] T0 [] (RI (.bool (BC a b)) []):=by
 refine BD 20 Tryz.func183 rfl rfl rfl λw0 F hF=>sr λ_ J1=>XY (ints a.flat) λb2=>?_
 refine XY (ints b.flat) λb3=>?_
 refine PS ?_;refine nx J1 (aa λ_ J2=>sr λ_ J3=>FA 0 jQ aO ?_);refine LU 1 Y3 (eY a rfl) ?_;refine FA 0 jQ aO ?_;refine LU 0 Y3 (eY b rfl) ?_;refine PS ?_;refine ao ?_ ?_<;>intro h9;refine nx J3 (CY (sr λ_ J4=>FA 0 jQ aO ?_));refine LU 1 Y3 (eY a rfl) ?_;refine FA 0 jQ aO ?_;refine LU 0 Y3 (eY b rfl) ?_;refine P2 ?_;refine nx J4 (ah (ae (WK [] (av rfl rfl ?_))));exact⟨congrArg Value.bool (by simp[BC, *]),rfl⟩;refine nx J3 (CN (qx J2 (sr λ_ J5=>FA 1 jQ aO ?_)));refine LU 1 Y3 (BallotT.at_who a rfl) ?_;refine FA 1 jQ aO ?_;refine LU 0 Y3 (BallotT.at_who b rfl) ?_;refine P2 ?_;refine nx J5 (ah (WK [] (av rfl rfl ?_)));exact⟨congrArg Value.bool (by simp[BC, *]),rfl⟩
theorem rR(a:AccT)(ep:Int)(b:BallotT):
 DT 165 #[(.agg (ints a.flat).toArray),(.int .i64 (ep)),(.agg (ints b.flat).toArray)] T0 [] (RI (.bool (yV a ep b)) []):=by
 refine BD 22 Tryz.func165 rfl rfl rfl λw0 F hF=>sr λ_ J1=>XY (ints a.flat) λb3=>?_
 refine XY (ints b.flat) λb5=>?_
 refine PS ?_;refine nx J1 (sr λ_ J2=>PS ?_);refine FA 0 oU aO ?_;refine LU 1 Y3 (AccT.at_epoch a rfl) ?_;refine PS ?_;refine ao ?_ ?_<;>intro h10;refine PS ?_
 iterate 3 refine UT ?_
 refine P2 ?_
 iterate 4 refine UT ?_
 refine P2 ?_;refine nx J2 (ah (WK [] (av rfl rfl ?_)));exact⟨congrArg Value.bool (by simp[yV, *]),rfl⟩;refine PS ?_;refine FA 0 jQ aO ?_;refine LU 0 Y3 (eY b rfl) ?_;refine PS ?_;refine ao ?_ ?_<;>intro h14;refine P2 ?_
 iterate 4 refine UT ?_
 refine P2 ?_;refine nx J2 (ah (WK [] (av rfl rfl ?_)));exact⟨congrArg Value.bool (by simp[yV, *]),rfl⟩;refine P2 ?_;refine LW 0 jQ cw aq ?_;refine FA 1 oU cw ?_;refine LV 1 jQ cw aq AccT.sp_vow (y:=a.vow) ?_;refine CE Kb (yD b a.vow) ID ?_;refine P2 ?_;refine nx J2 (ah (WK [] (av rfl rfl ?_)));exact⟨congrArg Value.bool (by simp[yV, *]),rfl⟩
theorem m7(a:AccT)(ep:Int)(b:BallotT):
 DT 132 #[(.agg (ints a.flat).toArray),(.int .i64 (ep)),(.agg (ints b.flat).toArray)] T0 [] (RI (.tuple #[.agg (ints (bV a ep b).1.flat).toArray, .bool (bV a ep b).2]) []):=by
 refine BD 16 Tryz.func132 rfl rfl rfl λw0 F hF=>sr λ_ J1=>XY (ints a.flat) λb3=>?_
 refine XY (ints b.flat) λb5=>?_
 refine XZ GZ (ints AccT.zero.flat) λb6=>?_
 refine PS ?_;refine nx J1 (aa λ_ J2=>sr λ_ J3=>LW 2 oU fD a9 ?_);refine PS ?_;refine LW 1 jQ cw aq ?_;refine CE Kh (rR a ep b) ID ?_;refine bc ?_ ?_<;>intro h11;refine nx J3 (CY (sr λ_ J4=>LW 2 oU fD a9 ?_));refine SW 0 fD a9 ?_;refine PS ?_;refine nx J4 (ah (ae (RT 0 [] oU fD (a9 _) ?_)));exact⟨by rw[bV];simp_all,rfl⟩;refine nx J3 (CN (qx J2 (sr λ_ J5=>LW 1 jQ cw aq ?_)));refine FA 1 oU cw ?_;refine SP 2 cw aq a9 AccT.wp_vow ?_;refine nx J5 (sr λ_ J6=>LW 2 oU fD a9 ?_);refine SW 0 fD a9 ?_;refine PS ?_;refine nx J6 (ah (RT 0 [] oU fD (a9 _) ?_));exact⟨by rw[bV];simp_all,rfl⟩
theorem uq(a:AccT)(ep:Int)(b:BallotT)(ch:ChangeT):
 DT 182 #[(.agg (ints a.flat).toArray),(.int .i64 (ep)),(.agg (ints b.flat).toArray),(.agg (ints ch.flat).toArray)] T0 [] (RI (.tuple #[.agg (ints (gp a ep b ch).1.flat).toArray, .bool (gp a ep b ch).2]) []):=by
 refine BD 22 Tryz.func182 rfl rfl rfl λw0 F hF=>sr λ_ J1=>XY (ints a.flat) λb4=>?_
 refine XY (ints b.flat) λb6=>?_
 refine XY (ints ch.flat) λb7=>?_
 refine XZ GZ (ints AccT.zero.flat) λb8=>?_
 refine PS ?_;refine nx J1 (aa λ_ J2=>sr λ_ J3=>LW 3 oU fD a9 ?_);refine PS ?_;refine LW 2 jQ cw aq ?_;refine CE Kh (rR a ep b) ID ?_;refine bc ?_ ?_<;>intro h13;refine nx J3 (CY (sr λ_ J4=>LW 3 oU fD a9 ?_));refine SW 0 fD a9 ?_;refine PS ?_;refine nx J4 (ah (ae (RT 0 [] oU fD (a9 _) ?_)));exact⟨by rw[gp];simp_all,rfl⟩;refine nx J3 (CN (qx J2 (aa λ_ J5=>D2 2 1 bf ?_)));refine LY 0 jQ cw aq ?_;refine LY 1 jQ cw aq ?_;refine LY 2 lW eZ aI ?_;refine FD 3 1 oU cw ?_;refine AL 4 ?_;refine SP 3 cw aq a9 AccT.wp_vow ?_;refine EN (FD 5 3 oU cw ?_);refine AL 6 ?_;refine SP 3 cw aq a9 AccT.wp_had ?_;refine EN (FD 7 5 oU eZ ?_);refine AL 8 ?_;refine SP 3 eZ aI a9 AccT.wp_change ?_;refine EN (DN (ac J5 (sr λ_ J6=>LW 3 oU fD a9 ?_)));refine SW 0 fD a9 ?_;refine PS ?_;refine nx J6 (ah (RT 0 [] oU fD (a9 _) ?_));exact⟨by rw[gp];simp_all,rfl⟩
theorem tP(b:Int):
 DT 14 #[(.int .i64 (b))] T0 [] (c9 (λr' H=>∃u,r'=u∧H=[own u (C5 b).length (ints (C5 b)) 3 1])):=by
 refine BD 19 Tryz.func14 rfl rfl rfl λw0 F hF=>sr λ_ J1=>PS ?_
 refine nx J1 (sr λ_ J2=>PS ?_);refine nx J2 (aa λ_ J3=>sr λ_ J4=>PS ?_);refine nx J4 (am ?_)
 refine bu (α:=(Nat)×(Value)) (λ⟨k,u⟩=>k≤5∧u.oneCell'=true) (λ⟨k,u⟩=>[(0,(.int .i64 (b))),(2,(.slice none 0 0)),(3,u),(5,(.int .i64 (((k:Nat):Int))))]) (λ⟨k,u⟩=>[own u ((kH b k).length) (ints (kH b k)) 3 1]) (λ⟨k,u⟩=>5-k) (0,(.slice none 0 0))
  ⟨aN _,rfl⟩ SB
  (λ_ s=>fq 3 1 (ak [] rfl s)) (λ⟨k,u⟩ hinv=>?_)
 obtain⟨hk,hu⟩:=hinv;have hol:=sW b k;refine sr λ_ J5=>PS ?_
 refine ao ?_ ?_<;>intro h6;refine nx J5 (aa λ_ J6=>CY (qx J6 (aa λ_ J7=>am (sr λ_ J8=>P2 ?_))));refine nx J8 (sr λ_ J9=>P2 ?_);refine tp (gM (r:=(b.fdiv (2^min ((k:Nat):Int).toNat IntKind.i64.bits))) rfl rfl rfl (by omega) rfl) ?_;refine tp (iD (r:=((b.fdiv (2^min ((k:Nat):Int).toNat IntKind.i64.bits))%2)) rfl rfl rfl (mask (k:=1) (by decide) _)) ?_;refine PS ?_;refine ao ?_ ?_<;>intro h12;refine nx J9 (CY (ad (P2 ?_)));refine aL (cells:=#[(.int .i64 (((k:Nat):Int)))]) (ab rfl) rfl rfl rfl ii nf rfl rfl rfl (by as_aux_lemma=>kernel_rfl) (λb15=>bO (k:=1) (news:=[(.int .i64 (((k:Nat):Int)))]) (nn':=(kH b k).length+1) (xs':=ints (kH b k)++[(.int .i64 (((k:Nat):Int)))]) (ab rfl) rfl rfl rfl ii nf rfl rfl rfl rfl rfl rfl (λ_ _=>fB rfl (RO 0) rfl) (by simp[Value.oneCell']) (by simp only[maxLen];omega) (by omega) (by simp) (by simp) (λv16 ov16=>PS ?_));refine ap (af (ac J7 (ad (AD ?_))));refine PS ?_;refine ap ?_
 exact aJ ((k+1,v16):(Nat)×(Value)) ⟨by omega,ov16⟩ (by show 5- (k+1)<5-k;omega)
  SB
  (λ_ q=>by
   show bK [own v16 (kH b (k+1)).length (ints (kH b (k+1))) 3 1] _;rw[show kH b (k+1)=kH b k++[((k:Nat):Int)]by rw[vz,if_pos (by rw[GO,decide_eq_true (by assumption)])],ag,ee]
   exact ak [1] rfl q)
 refine nx J9 (CN (aM (af (ac J7 (ad (AD ?_))))));refine PS ?_;refine ap ?_
 exact aJ ((k+1,u):(Nat)×(Value)) ⟨by omega,hu⟩ (by show 5- (k+1)<5-k;omega)
  SB
  (λ_ q=>by
   show bK [own u (kH b (k+1)).length (ints (kH b (k+1))) 3 1] _;rw[show kH b (k+1)=kH b k by rw[vz,if_neg (by rw[GO,decide_eq_false (by assumption)];decide),a8]]
   exact ak [0] rfl q)
 refine nx J5 (aa λ_ J10=>CN (aV (ay (ay (bh (ac J3 (sr λ_ J11=>P2 ?_)))))));refine nx J11 (ah (WK [0] (av rfl rfl ?_)));obtain rfl:k=5:=by omega
 exact⟨u,rfl,rfl⟩
theorem zG(part all:Int):
 DT 192 #[(.int .i64 (part)),(.int .i64 (all))] T0 [] (RI (.bool (Kx part all)) []):=by
 refine BD 15 Tryz.func192 rfl rfl rfl λw0 F hF=>sr λ_ J1=>PS ?_
 refine nx J1 (sr λ_ J2=>P2 ?_);refine tp (iD (r:=(qc .i64 part all)) rfl rfl rfl rfl) ?_;refine CR JA (tP (qc .i64 part all)) ID λvR HR hR=>?_
 obtain⟨_,rfl,rfl⟩:=hR;revert vR;intro us1;refine gj 0 rfl rfl (λhlus1 _=>?_);have hzus1:=sW (qc .i64 part all) 5;change (C5 (qc .i64 part all)).length≤5 at hzus1;refine tp (c8 rfl ii rfl hlus1) ?_;refine tp (GV (r:=(2* (((C5 (qc .i64 part all)).length:Nat):Int))) rfl rfl rfl (bG (by omega) (by omega))) ?_;refine PS ?_;refine CR JA (tP all) ID λvR HR hR=>?_
 obtain⟨_,rfl,rfl⟩:=hR;revert vR;intro us2;refine gj 0 rfl rfl (λhlus2 _=>?_);have hzus2:=sW all 5;change (C5 all).length≤5 at hzus2;refine tp (c8 rfl ii rfl hlus2) ?_;refine P2 ?_;exact nx J2 (ah (WK [] (av rfl rfl ⟨rfl,rfl⟩)))
theorem iS(v:ViewT)(bits:Int):
 DT 184 #[(.agg (ints v.flat).toArray),(.int .i64 (bits))] T0 [] (RI (.bool (gA v bits)) []):=by
 refine BD 9 Tryz.func184 rfl rfl rfl λw0 F hF=>sr λ_ J1=>XY (ints v.flat) λb2=>?_
 refine PS ?_;refine nx J1 (sr λ_ J2=>PS ?_);refine FA 1 dS aO ?_;refine LU 0 Y3 (jC v rfl) ?_;refine CE MA (zG bits v.members) ID ?_;refine PS ?_;exact nx J2 (ah (WK [] (av rfl rfl ⟨rfl,rfl⟩)))
theorem y9(v:ViewT)(b:BallotT)(ch:ChangeT):
 DT 133 #[(.agg (ints v.flat).toArray),(.agg (ints b.flat).toArray),(.agg (ints ch.flat).toArray)] T0 [] (c9 (λr' H=>∃vb,r'= .pointer (some ⟨vb,0,none⟩)∧H=[aj vb (VoteT.cells (jO v b ch)) 207])):=by
 refine BD 12 Tryz.func133 rfl rfl rfl λw0 F hF=>sr λ_ J1=>XY (ints v.flat) λb3=>?_
 refine XY (ints b.flat) λb4=>?_
 refine XY (ints ch.flat) λb5=>?_
 refine PS ?_;refine nx J1 (sr λ_ J2=>LW 2 dS be an ?_);refine LW 1 jQ cw aq ?_;refine LW 0 lW eZ aI ?_;refine tp (xW (cs:=VoteT.cells (VoteT.mk v b ch BallotT.zero 0 0 false)) (segs:=[ints ViewT.zero.flat,ints BallotT.zero.flat,ints ChangeT.zero.flat,ints BallotT.zero.flat,[Value.int .i64 0],[Value.int .i64 0],[Value.bool false]]) (res:=[ints v.flat,ints b.flat,ints ch.flat,ints BallotT.zero.flat,[Value.int .i64 0],[Value.int .i64 0],[Value.bool false]]) (parts:=[(0,ints v.flat),(1,ints b.flat),(2,ints ch.flat)]) rfl rfl jg (by kernel_rfl) (by kernel_rfl) rfl (e6 rfl ((an v).trans (an ViewT.zero).symm) (e6 rfl ((aq b).trans (aq BallotT.zero).symm) (e6 rfl ((aI ch).trans (aI ChangeT.zero).symm) li))) (fp (VoteT.mk v b ch BallotT.zero 0 0 false)).symm) ?_;refine XY (VoteT.cells (VoteT.mk v b ch BallotT.zero 0 0 false)) λb11=>?_
 refine PS ?_;exact nx J2 (ah (WK [0] (av rfl rfl ⟨b11,rfl,rfl⟩)))
theorem bJ(vb:Nat)(v:VoteT):
 DT 134 #[(.pointer (some ⟨vb,0,none⟩))] T0 [aj vb (VoteT.cells v) 207] (RI (.agg (ints v.ballot.flat).toArray) [aj vb (VoteT.cells v) 207]):=by
 refine BD 7 Tryz.func134 rfl rfl rfl λw0 F hF=>sr λ_ J1=>XZ NI (ints BallotT.zero.flat) λb2=>?_
 refine nx J1 (sr λ_ J2=>P2 ?_);refine FA 7 jg cw ?_;refine LV 1 jQ cw aq VoteT.sp_ballot (y:=v.ballot) ?_;refine SW 0 cw aq ?_;refine nx J2 (ah (RC 0 [1] jQ cw (aq _) ?_));exact⟨rfl,rfl⟩
theorem cX(vb:Nat)(v:VoteT):
 DT 89 #[(.pointer (some ⟨vb,0,none⟩))] T0 [aj vb (VoteT.cells v) 207] (RI (.agg (ints v.change.flat).toArray) [aj vb (VoteT.cells v) 207]):=by
 refine BD 7 Tryz.func89 rfl rfl rfl λw0 F hF=>sr λ_ J1=>XZ NJ (ints ChangeT.zero.flat) λb2=>?_
 refine nx J1 (sr λ_ J2=>P2 ?_);refine FA 9 jg eZ ?_;refine LV 1 lW eZ aI VoteT.sp_change (y:=v.change) ?_;refine SW 0 eZ aI ?_;refine nx J2 (ah (RC 0 [1] lW eZ (aI _) ?_));exact⟨rfl,rfl⟩
theorem nq(vb:Nat)(v:VoteT):
 DT 135 #[(.pointer (some ⟨vb,0,none⟩))] T0 [aj vb (VoteT.cells v) 207] (RI (.bool v.putting) [aj vb (VoteT.cells v) 207]):=by
 refine BD 7 Tryz.func135 rfl rfl rfl λw0 F hF=>sr λ_ J1=>PS ?_
 refine nx J1 (sr λ_ J2=>P2 ?_);refine FA 16 jg kE ?_;refine LU 0 Y4 (lM v rfl) ?_;refine PS ?_;exact nx J2 (ah (WK [0] (av rfl rfl ⟨rfl,rfl⟩)))
theorem CI(vb:Nat)(v:VoteT)(who:Int)(b had:BallotT)(ch:ChangeT)(hb:WF b.flat)(hvb:WF v.ballot.flat):
 DT 162 #[(.pointer (some ⟨vb,0,none⟩)),(.int .i64 (who)),(.agg (ints b.flat).toArray),(.agg (ints had.flat).toArray),(.agg (ints ch.flat).toArray)] T0 [aj vb (VoteT.cells v) 207] (RI (.bool (eJ v who b had ch).2) [aj vb (VoteT.cells (eJ v who b had ch).1) 207]):=by
 refine BD 76 Tryz.func162 rfl rfl rfl λw0 F hF=>sr λ_ J1=>XY (ints b.flat) λb7=>?_
 refine XY (ints had.flat) λb8=>?_
 refine XY (ints ch.flat) λb9=>?_
 refine PS ?_;refine nx J1 (aa λ_ J2=>aa λ_ J3=>D2 3 2 bf ?_);refine PD 0 ?_;refine PD 1 ?_;refine FD 2 16 jg kE ?_;refine LR 3 Y4 (lM v rfl) ?_;refine q8 ?_ ?_<;>intro h14;refine PD 4 ?_;refine NT 5 ?_;refine NT 6 ?_;refine NT 7 ?_;refine NT 8 ?_;refine NT 9 ?_;refine NT 10 ?_;refine PD 11 ?_;refine PD 12 ?_;refine NT 13 ?_;refine NT 14 ?_;refine NT 15 ?_;refine NT 16 ?_;refine NT 17 ?_;refine NT 18 ?_;refine NT 19 ?_;refine PD 20 ?_;refine DN (ac J3 (CY (sr λ_ J4=>PS ?_)));refine nx J4 (ah (ae (WK [3] (av rfl rfl ?_))));have e:eJ v who b had ch=(v,false):=by rw[eJ,h14,if_pos (by rfl)]
 exact⟨congrArg (λq:VoteT×Bool=>Value.bool q.2) e.symm,congrArg (λq:VoteT×Bool=>[aj vb (VoteT.cells q.1) 207]) e.symm⟩;refine PD 4 ?_;refine LY 5 jQ cw aq ?_;refine PD 6 ?_;refine PD 7 ?_;refine FD 8 7 jg cw ?_;refine tb 9 rfl (aK (vs:=ints v.ballot.flat) rfl jQ rfl cw rfl (λ_ h=>h.2.1) (aq v.ballot) (JW v 0 rfl (by decide) (whole (aq v.ballot)))) ?_;refine tb 10 rfl (JY (a:=b.flat) (b:=v.ballot.flat) (m:=6) (c:=2) KQ KO rfl Lm (eQ (aq b)) (eQ (aq v.ballot)) ⟨ir GB GM (eQ (aq b)),ir GB GM (eQ (aq v.ballot))⟩ hb hvb rfl rfl rfl) ?_;refine jh ?_ ?_<;>intro h21;refine PD 11 ?_;refine PD 12 ?_;refine NT 13 ?_;refine NT 14 ?_;refine NT 15 ?_;refine NT 16 ?_;refine NT 17 ?_;refine NT 18 ?_;refine NT 19 ?_;refine PD 20 ?_;refine DN (ac J3 (CY (sr λ_ J5=>PS ?_)));refine nx J5 (ah (ae (WK [3] (av rfl rfl ?_))));have e:eJ v who b had ch=(v,false):=by rw[eJ,nb,decide_eq_false h21,if_pos (by rw[h14];rfl)]
 exact⟨congrArg (λq:VoteT×Bool=>Value.bool q.2) e.symm,congrArg (λq:VoteT×Bool=>[aj vb (VoteT.cells q.1) 207]) e.symm⟩;refine PD 11 ?_;refine PD 12 ?_;refine PD 13 ?_;refine PD 14 ?_;refine FD 15 0 jg be ?_;refine tb 16 rfl (aK (vs:=ints v.view.flat) rfl dS rfl be rfl (λ_ h=>h.2.1) (an v.view) (Co v 0 rfl (by decide) (whole (an v.view)))) ?_;refine PD 17 ?_;refine AL 18 ?_;refine CE px (dr v.view who) ID ?_;refine bc ?_ ?_<;>intro h29;have hw:0≤who∧who<5:=by unfold iB cy at h29;simp only[au,decide_eq_true_eq]at h29;exact h29.1
 refine EN (PD 19 ?_);refine PD 20 ?_;refine DN (ac J3 (CN (qx J2 (aa λ_ J6=>D0 bf ?_))));refine PD 0 ?_;refine PD 1 ?_;refine FD 2 14 jg aO ?_;refine PD 4 ?_;refine ta 5 rfl (uJ (r:=(cV who)) rfl rfl rfl (by omega) rfl) ?_;refine AL 3 ?_;refine LU 3 Y3 (lx v rfl) ?_;refine EN (ta 6 rfl (Ff (r:=(ig .i64 v.vowed (cV who))) rfl rfl rfl rfl) ?_);refine PD 7 ?_;refine FD 8 14 jg aO ?_;refine AL 9 ?_;refine SS 3 aO (m8 _) (VoteT.set_vowed v rfl _) ?_;refine EN (DN (ac J6 (aa λ_ J7=>aa λ_ J8=>D2 1 3 bf ?_)));refine FD 0 0 jQ aO ?_;refine LR 1 Y3 (eY had rfl) ?_;refine PD 2 ?_;refine jh ?_ ?_<;>intro h43;refine PD 3 ?_;refine PD 4 ?_;refine PD 5 ?_;refine FD 6 12 jg cw ?_;refine tb 7 rfl (aK (vs:=ints v.best.flat) rfl jQ rfl cw rfl (λ_ h=>h.2.2.1) (aq v.best) (VoteT.sub_best (VoteT.mk v.view v.ballot v.change v.best (ig .i64 v.vowed (cV who)) v.took v.putting) 0 rfl (by decide) (whole (aq v.best)))) ?_;refine LY 8 jQ cw aq ?_;refine AL 9 ?_;refine CE Kb (yD v.best had) ID ?_;refine bc ?_ ?_<;>intro h50;refine EN (PD 10 ?_);refine DN (ac J8 (CY (D2 1 0 bf ?_)));refine PD 0 ?_;refine PD 1 ?_;refine LY 2 jQ cw aq ?_;refine LY 3 lW eZ aI ?_;refine PD 4 ?_;refine FD 5 12 jg cw ?_;refine AL 6 ?_;refine SP 3 cw aq m8 VoteT.wp_best ?_;refine EN (PD 7 ?_);refine FD 8 9 jg eZ ?_;refine AL 9 ?_;refine SP 3 eZ aI m8 VoteT.wp_change ?_
 refine EN (DN (ac J7 (aa λ_ J9=>eT (α:=Unit) (λ_=>True) (λ_u=>[(0,(.pointer (some ⟨vb,0,none⟩))),(10,(.bool false))]) (λ_u=>[aj b9 (ints ch.flat) 61,aj b8 (ints had.flat) 80,aj b7 (ints b.flat) 80,aj vb (VoteT.cells (VoteT.mk v.view v.ballot ch had (ig .i64 v.vowed (cV who)) v.took (gA v.view (ig .i64 v.vowed (cV who))))) 207]) (λ_u _=>?_) (λtl9=>?_))));refine ac J9 (sr λ_ J10=>P2 ?_);refine FA 16 jg kE ?_;refine LT 3 Y4 (.bool (gA v.view (ig .i64 v.vowed (cV who)))) ?_ (hc:=by exact lM _ rfl);refine PS ?_;refine nx J10 (ah (WK [3] (av rfl rfl ?_)));have e:eJ v who b had ch=((VoteT.mk v.view v.ballot ch had (ig .i64 v.vowed (cV who)) v.took (gA v.view (ig .i64 v.vowed (cV who)))),gA v.view (ig .i64 v.vowed (cV who))):=by rw[eJ,nb,decide_eq_true (show b.flat=v.ballot.flat from Decidable.not_not.1 h21),h29,h14,if_neg (by decide),vc,decide_eq_true (show 0<had.round by omega),h50,if_pos (by decide)]
 exact⟨congrArg (λq:VoteT×Bool=>Value.bool q.2) e.symm,congrArg (λq:VoteT×Bool=>[aj vb (VoteT.cells q.1) 207]) e.symm⟩;refine D0 bf ?_;refine PD 0 ?_;refine PD 1 ?_;refine PD 2 ?_;refine FD 3 0 jg be ?_;refine PD 5 ?_;refine PD 6 ?_;refine FD 7 14 jg aO ?_;refine cx [4,8] (by kernel_rfl) rfl (aE rfl ?_ ?_);refine LV 3 dS be an oW (y:=v.view) ?_;refine EN (AL 8 ?_);refine LT 3 Y3 (.int .i64 ((ig .i64 v.vowed (cV who)))) ?_ (hc:=by exact lx _ rfl);refine EN (AL 9 ?_);refine CE wj (iS v.view (ig .i64 v.vowed (cV who))) ID ?_;refine EN (PD 10 ?_);refine FD 11 16 jg kE ?_;refine AL 12 ?_;refine SS 3 kE (m8 _) (kJ _ rfl _) ?_;refine EN (DN ?_)
 exact aF
  SB
  (λ_ s=>s)
  (tl9 (():Unit) trivial)
 refine aE rfl ?_ ?_;refine LT 3 Y3 (.int .i64 ((ig .i64 v.vowed (cV who)))) ?_ (hc:=by exact lx _ rfl);refine EN (AL 4 ?_);refine LV 3 dS be an oW (y:=v.view) ?_;refine EN (AL 9 ?_);refine CE wj (iS v.view (ig .i64 v.vowed (cV who))) ID ?_;refine EN (PD 10 ?_);refine FD 11 16 jg kE ?_;refine AL 12 ?_;refine SS 3 kE (m8 _) (kJ _ rfl _) ?_;refine EN (DN ?_)
 exact aF
  SB
  (λ_ s=>s)
  (tl9 (():Unit) trivial)
 exact bz;refine EN (PD 10 ?_);refine DN (ac J8 (CN (qx J7 (aa λ_ J11=>eT (α:=Unit) (λ_=>True) (λ_u=>[(0,(.pointer (some ⟨vb,0,none⟩))),(10,(.bool false))]) (λ_u=>[aj b9 (ints ch.flat) 61,aj b8 (ints had.flat) 80,aj b7 (ints b.flat) 80,aj vb (VoteT.cells (VoteT.mk v.view v.ballot v.change v.best (ig .i64 v.vowed (cV who)) v.took (gA v.view (ig .i64 v.vowed (cV who))))) 207]) (λ_u _=>?_) (λtl11=>?_)))));refine ac J11 (sr λ_ J12=>P2 ?_);refine FA 16 jg kE ?_;refine LT 3 Y4 (.bool (gA v.view (ig .i64 v.vowed (cV who)))) ?_ (hc:=by exact lM _ rfl);refine PS ?_;refine nx J12 (ah (WK [3] (av rfl rfl ?_)));have e:eJ v who b had ch=((VoteT.mk v.view v.ballot v.change v.best (ig .i64 v.vowed (cV who)) v.took (gA v.view (ig .i64 v.vowed (cV who)))),gA v.view (ig .i64 v.vowed (cV who))):=by rw[eJ,nb,decide_eq_true (show b.flat=v.ballot.flat from Decidable.not_not.1 h21),h29,h14,if_neg (by decide),vc,h50,jI,if_neg (by decide)]
 exact⟨congrArg (λq:VoteT×Bool=>Value.bool q.2) e.symm,congrArg (λq:VoteT×Bool=>[aj vb (VoteT.cells q.1) 207]) e.symm⟩;refine D0 bf ?_;refine PD 0 ?_;refine PD 1 ?_;refine PD 2 ?_;refine FD 3 0 jg be ?_;refine PD 5 ?_;refine PD 6 ?_;refine FD 7 14 jg aO ?_;refine cx [4,8] (by kernel_rfl) rfl (aE rfl ?_ ?_);refine LV 3 dS be an oW (y:=v.view) ?_;refine EN (AL 8 ?_);refine LT 3 Y3 (.int .i64 ((ig .i64 v.vowed (cV who)))) ?_ (hc:=by exact lx _ rfl);refine EN (AL 9 ?_);refine CE wj (iS v.view (ig .i64 v.vowed (cV who))) ID ?_;refine EN (PD 10 ?_);refine FD 11 16 jg kE ?_;refine AL 12 ?_;refine SS 3 kE (m8 _) (kJ _ rfl _) ?_;refine EN (DN ?_)
 exact aF
  SB
  (λ_ s=>s)
  (tl11 (():Unit) trivial)
 refine aE rfl ?_ ?_;refine LT 3 Y3 (.int .i64 ((ig .i64 v.vowed (cV who)))) ?_ (hc:=by exact lx _ rfl);refine EN (AL 4 ?_);refine LV 3 dS be an oW (y:=v.view) ?_;refine EN (AL 9 ?_);refine CE wj (iS v.view (ig .i64 v.vowed (cV who))) ID ?_;refine EN (PD 10 ?_);refine FD 11 16 jg kE ?_;refine AL 12 ?_;refine SS 3 kE (m8 _) (kJ _ rfl _) ?_;refine EN (DN ?_)
 exact aF
  SB
  (λ_ s=>s)
  (tl11 (():Unit) trivial)
 exact bz;refine PD 3 ?_;refine NT 4 ?_;refine NT 5 ?_;refine NT 6 ?_;refine NT 7 ?_;refine NT 8 ?_;refine NT 9 ?_;refine PD 10 ?_;refine DN (ac J8 (CN (qx J7 (aa λ_ J13=>eT (α:=Unit) (λ_=>True) (λ_u=>[(0,(.pointer (some ⟨vb,0,none⟩))),(10,(.bool false))]) (λ_u=>[aj b9 (ints ch.flat) 61,aj b8 (ints had.flat) 80,aj b7 (ints b.flat) 80,aj vb (VoteT.cells (VoteT.mk v.view v.ballot v.change v.best (ig .i64 v.vowed (cV who)) v.took (gA v.view (ig .i64 v.vowed (cV who))))) 207]) (λ_u _=>?_) (λtl13=>?_)))));refine ac J13 (sr λ_ J14=>P2 ?_);refine FA 16 jg kE ?_;refine LT 3 Y4 (.bool (gA v.view (ig .i64 v.vowed (cV who)))) ?_ (hc:=by exact lM _ rfl);refine PS ?_;refine nx J14 (ah (WK [3] (av rfl rfl ?_)));have e:eJ v who b had ch=((VoteT.mk v.view v.ballot v.change v.best (ig .i64 v.vowed (cV who)) v.took (gA v.view (ig .i64 v.vowed (cV who)))),gA v.view (ig .i64 v.vowed (cV who))):=by rw[eJ,nb,decide_eq_true (show b.flat=v.ballot.flat from Decidable.not_not.1 h21),h29,h14,if_neg (by decide),vc,decide_eq_false (show ¬0<had.round by omega),gC,if_neg (by decide)]
 exact⟨congrArg (λq:VoteT×Bool=>Value.bool q.2) e.symm,congrArg (λq:VoteT×Bool=>[aj vb (VoteT.cells q.1) 207]) e.symm⟩;refine D0 bf ?_;refine PD 0 ?_;refine PD 1 ?_;refine PD 2 ?_;refine FD 3 0 jg be ?_;refine PD 5 ?_;refine PD 6 ?_;refine FD 7 14 jg aO ?_;refine cx [4,8] (by kernel_rfl) rfl (aE rfl ?_ ?_);refine LV 3 dS be an oW (y:=v.view) ?_;refine EN (AL 8 ?_);refine LT 3 Y3 (.int .i64 ((ig .i64 v.vowed (cV who)))) ?_ (hc:=by exact lx _ rfl);refine EN (AL 9 ?_);refine CE wj (iS v.view (ig .i64 v.vowed (cV who))) ID ?_;refine EN (PD 10 ?_);refine FD 11 16 jg kE ?_;refine AL 12 ?_;refine SS 3 kE (m8 _) (kJ _ rfl _) ?_;refine EN (DN ?_)
 exact aF
  SB
  (λ_ s=>s)
  (tl13 (():Unit) trivial)
 refine aE rfl ?_ ?_;refine LT 3 Y3 (.int .i64 ((ig .i64 v.vowed (cV who)))) ?_ (hc:=by exact lx _ rfl);refine EN (AL 4 ?_);refine LV 3 dS be an oW (y:=v.view) ?_;refine EN (AL 9 ?_);refine CE wj (iS v.view (ig .i64 v.vowed (cV who))) ID ?_;refine EN (PD 10 ?_);refine FD 11 16 jg kE ?_;refine AL 12 ?_;refine SS 3 kE (m8 _) (kJ _ rfl _) ?_;refine EN (DN ?_)
 exact aF
  SB
  (λ_ s=>s)
  (tl13 (():Unit) trivial)
 exact bz;refine EN (PD 19 ?_);refine PD 20 ?_;refine DN (ac J3 (CY (sr λ_ J15=>PS ?_)));refine nx J15 (ah (ae (WK [3] (av rfl rfl ?_))));have e:eJ v who b had ch=(v,false):=by rw[eJ,nb,h29,if_pos (by rw[h14,jI];rfl)]
 exact⟨congrArg (λq:VoteT×Bool=>Value.bool q.2) e.symm,congrArg (λq:VoteT×Bool=>[aj vb (VoteT.cells q.1) 207]) e.symm⟩
theorem C0(vb:Nat)(v:VoteT)(who:Int)(b:BallotT)(hb:WF b.flat)(hvb:WF v.ballot.flat):
 DT 163 #[(.pointer (some ⟨vb,0,none⟩)),(.int .i64 (who)),(.agg (ints b.flat).toArray)] T0 [aj vb (VoteT.cells v) 207] (RI (.bool (gn v who b).2) [aj vb (VoteT.cells (gn v who b).1) 207]):=by
 refine BD 47 Tryz.func163 rfl rfl rfl λw0 F hF=>sr λ_ J1=>XY (ints b.flat) λb5=>?_
 refine PS ?_;refine nx J1 (aa λ_ J2=>aa λ_ J3=>D2 1 0 bf ?_);refine PD 0 ?_;refine PD 1 ?_;refine FD 2 16 jg kE ?_;refine LR 3 Y4 (lM v rfl) ?_;refine q8 ?_ ?_<;>intro h10;refine PD 4 ?_;refine PD 5 ?_;refine LY 6 jQ cw aq ?_;refine PD 7 ?_;refine PD 8 ?_;refine FD 9 7 jg cw ?_;refine tb 10 rfl (aK (vs:=ints v.ballot.flat) rfl jQ rfl cw rfl (λ_ h=>h.2.1) (aq v.ballot) (JW v 0 rfl (by decide) (whole (aq v.ballot)))) ?_;refine tb 11 rfl (JY (a:=b.flat) (b:=v.ballot.flat) (m:=6) (c:=2) KQ KO rfl Lm (eQ (aq b)) (eQ (aq v.ballot)) ⟨ir GB GM (eQ (aq b)),ir GB GM (eQ (aq v.ballot))⟩ hb hvb rfl rfl rfl) ?_;refine jh ?_ ?_<;>intro h18;refine PD 12 ?_;refine PD 13 ?_;refine NT 14 ?_;refine NT 15 ?_;refine NT 16 ?_;refine NT 17 ?_;refine NT 18 ?_;refine NT 19 ?_;refine NT 20 ?_;refine PD 21 ?_;refine DN (ac J3 (CY (sr λ_ J4=>PS ?_)));refine nx J4 (ah (ae (WK [1] (av rfl rfl ?_))));have e:gn v who b=(v,false):=by rw[gn,nb,decide_eq_false h18,if_pos (by rw[h10];rfl)]
 exact⟨congrArg (λq:VoteT×Bool=>Value.bool q.2) e.symm,congrArg (λq:VoteT×Bool=>[aj vb (VoteT.cells q.1) 207]) e.symm⟩;refine PD 12 ?_;refine PD 13 ?_;refine PD 14 ?_;refine PD 15 ?_;refine FD 16 0 jg be ?_;refine tb 17 rfl (aK (vs:=ints v.view.flat) rfl dS rfl be rfl (λ_ h=>h.2.1) (an v.view) (Co v 0 rfl (by decide) (whole (an v.view)))) ?_;refine PD 18 ?_;refine AL 19 ?_;refine CE px (dr v.view who) ID ?_;refine bc ?_ ?_<;>intro h26;have hw:0≤who∧who<5:=by unfold iB cy at h26;simp only[au,decide_eq_true_eq]at h26;exact h26.1
 refine EN (PD 20 ?_);refine PD 21 ?_;refine DN (ac J3 (CN (qx J2 (aa λ_ J5=>D0 bf ?_))));refine PD 0 ?_;refine PD 1 ?_;refine FD 2 15 jg aO ?_;refine PD 4 ?_;refine ta 5 rfl (uJ (r:=(cV who)) rfl rfl rfl (by omega) rfl) ?_;refine AL 3 ?_;refine LU 1 Y3 (VoteT.at_took v rfl) ?_;refine EN (ta 6 rfl (Ff (r:=(ig .i64 v.took (cV who))) rfl rfl rfl rfl) ?_);refine PD 7 ?_;refine FD 8 15 jg aO ?_;refine AL 9 ?_;refine SS 1 aO (m8 _) (VoteT.set_took v rfl _) ?_;refine EN (DN (ac J5 (aa λ_ J6=>D1 1 bf ?_)));refine PD 0 ?_;refine PD 1 ?_;refine FD 2 0 jg be ?_;refine ta 3 rfl (aK (vs:=ints v.view.flat) rfl dS rfl be rfl (λ_ h=>h.2.1) (an v.view) (Co (VoteT.mk v.view v.ballot v.change v.best v.vowed (ig .i64 v.took (cV who)) v.putting) 0 rfl (by decide) (whole (an v.view)))) ?_;refine PD 4 ?_;refine PD 5 ?_;refine FD 6 15 jg aO ?_;refine LX 7 Y3 (.int .i64 ((ig .i64 v.took (cV who)))) ?_ (hc:=by exact VoteT.at_took _ rfl);refine AL 8 ?_;refine CE wj (iS v.view (ig .i64 v.took (cV who))) ID ?_;refine EN (PD 9 ?_);refine DN (ac J6 (ah (WK [1] (av rfl rfl ?_))));have e:gn v who b=((VoteT.mk v.view v.ballot v.change v.best v.vowed (ig .i64 v.took (cV who)) v.putting),gA v.view (ig .i64 v.took (cV who))):=by rw[gn,nb,decide_eq_true (show b.flat=v.ballot.flat from Decidable.not_not.1 h18),h26,h10,if_neg (by decide)]
 exact⟨congrArg (λq:VoteT×Bool=>Value.bool q.2) e.symm,congrArg (λq:VoteT×Bool=>[aj vb (VoteT.cells q.1) 207]) e.symm⟩;refine EN (PD 20 ?_);refine PD 21 ?_;refine DN (ac J3 (CY (sr λ_ J7=>PS ?_)));refine nx J7 (ah (ae (WK [1] (av rfl rfl ?_))));have e:gn v who b=(v,false):=by rw[gn,nb,h26,if_pos (by rw[h10,jI];rfl)]
 exact⟨congrArg (λq:VoteT×Bool=>Value.bool q.2) e.symm,congrArg (λq:VoteT×Bool=>[aj vb (VoteT.cells q.1) 207]) e.symm⟩;refine PD 4 ?_;refine PD 5 ?_;refine NT 6 ?_;refine NT 7 ?_;refine NT 8 ?_;refine NT 9 ?_;refine NT 10 ?_;refine NT 11 ?_;refine PD 12 ?_;refine PD 13 ?_;refine NT 14 ?_;refine NT 15 ?_;refine NT 16 ?_;refine NT 17 ?_;refine NT 18 ?_;refine NT 19 ?_;refine NT 20 ?_;refine PD 21 ?_;refine DN (ac J3 (CY (sr λ_ J8=>PS ?_)));refine nx J8 (ah (ae (WK [1] (av rfl rfl ?_))));have e:gn v who b=(v,false):=by rw[gn,h10,if_pos (by rfl)]
 exact⟨congrArg (λq:VoteT×Bool=>Value.bool q.2) e.symm,congrArg (λq:VoteT×Bool=>[aj vb (VoteT.cells q.1) 207]) e.symm⟩
theorem Ad{δ:Type}(V:Env δ)(r vb:Nat)(s:MS δ)(vt:VoteT)(hv:s.vote=some vt)[OkR V.toDk s]:
 DT 164 #[(.pointer (some ⟨r,0,none⟩)),(.iface V.T V.ov)] T0 [uT V r s (.pointer (some ⟨vb,0,none⟩)),aj vb (VoteT.cells vt) 207] (c9 (λ_ H=>H=[cH V r (kX V.toDk s vt.change)])):=by
 refine BD 32 Tryz.func164 rfl rfl rfl λw0 F hF=>aa λ_ J1=>eT (α:=(Nat)) (λ_=>True) (λb4=>[(0,(.pointer (some ⟨r,0,none⟩))),(1,(.iface V.T V.ov)),(4,(.pointer (some ⟨b4,0,none⟩))),(5,(.int .i64 ((dL s.view vt.change).2)))]) (λb4=>[aj b4 (ints ((dL s.view vt.change).1).flat) 32,aj vb (VoteT.cells vt) 207,uT V r s (.pointer (some ⟨vb,0,none⟩))]) (λb4 _=>?_) (λtl1=>?_)
 refine ac J1 (aa λ_ J2=>sr λ_ J3=>ce (H':=cH V r s::[aj b4 (ints ((dL s.view vt.change).1).flat) 32]) (λ_ q=>nC hv (aA [2,1] rfl q)) (P2 ?_));refine ao ?_ ?_<;>intro h20;refine PS ?_
 iterate 5 refine UT ?_
 refine PS ?_;refine nx J3 (CY (ah (ae (WK [0] (dx rfl ?_)))));exact MQ (by rw[kX,if_pos h20]);refine P3 ?_;refine LW 1 dS be an ?_;refine CE H4 (tW V r s ((dL s.view vt.change).1)) ID ?_;refine bc ?_ ?_<;>intro h25;refine PS ?_;refine PS ?_;refine nx J3 (CN (qx J2 (ad (P2 ?_))));refine LW 1 dS be an ?_;refine CZ KY (mu V r (hO V.toDk s ((dL s.view vt.change).1)) ((dL s.view vt.change).1)) ID λvR=>?_
 refine ap (WK [0] (br rfl ?_));exact MQ (by rw[kX,if_neg h20,h25,if_pos rfl]);refine PS ?_;refine PS ?_;refine nx J3 (CY (ah (ae (WK [0] (dx rfl ?_)))));exact MQ (by rw[kX,if_neg h20,h25,if_neg (by decide)]);refine D1 1 bf ?_;refine PD 0 ?_;refine PD 1 ?_;refine FD 2 2 cW be ?_;refine PD 4 ?_;refine PD 5 ?_;refine FD 6 1067 cW my ?_;refine cx [3,7,13] (by kernel_rfl) rfl (aE rfl ?_ ?_);refine LZ 0 dS be an s.view ?_ (hc:=by exact λ_=>cO _);refine EN (cx [7,13] (by kernel_rfl) rfl (aE rfl ?_ ?_));refine LG 0 oO (.pointer (some ⟨vb,0,none⟩)) ?_ (hc:=by exact λa_=>(bW _ rfl));refine EN (cx [8,13] (by kernel_rfl) rfl (aE rfl ?_ ?_));refine CE tc (cX vb vt) (SM [1]) ?_;refine EN (cx [9,13] (by kernel_rfl) rfl (aE rfl ?_ ?_));refine CE mF (dh s.view vt.change OkVw.rng) ID ?_;refine EN (PD 10 ?_);refine PD 11 ?_;refine PD 12 ?_;refine AL 13 ?_;refine XZ rf (ints ViewT.zero.flat) λb4=>?_
 refine EN (AL 14 ?_);refine SW 0 be an ?_;refine EN (PD 15 ?_);refine DN ?_
 exact aF
  SB
  (λ_ s=>s)
  (tl1 ((b4):(Nat)) trivial)
 refine aE rfl ?_ ?_;refine XZ rf (ints ViewT.zero.flat) λb4=>?_
 refine EN (AL 9 ?_);refine CE mF (dh s.view vt.change OkVw.rng) ID ?_;refine EN (PD 10 ?_);refine PD 11 ?_;refine PD 12 ?_;refine AL 14 ?_;refine SW 0 be an ?_;refine EN (PD 15 ?_);refine DN ?_
 exact aF
  SB
  (λ_ s=>s)
  (tl1 ((b4):(Nat)) trivial)
 exact bz;refine aE rfl ?_ ?_;refine XZ rf (ints ViewT.zero.flat) λb4=>?_
 refine EN (AL 8 ?_);refine CE tc (cX vb vt) (SM [2]) ?_;refine EN (AL 9 ?_);refine CE mF (dh s.view vt.change OkVw.rng) ID ?_;refine EN (PD 10 ?_);refine PD 11 ?_;refine PD 12 ?_;refine AL 14 ?_;refine SW 1 be an ?_;refine EN (PD 15 ?_);refine DN ?_
 exact aF
  SB
  (λ_ s=>ak [1,0,0] rfl s)
  (tl1 ((b4):(Nat)) trivial)
 exact bz;refine aE rfl ?_ ?_;refine XZ rf (ints ViewT.zero.flat) λb4=>?_
 refine EN (AL 7 ?_);refine LG 1 oO (.pointer (some ⟨vb,0,none⟩)) ?_ (hc:=by exact λa_=>(bW _ rfl));refine EN (AL 8 ?_);refine CE tc (cX vb vt) (SM [2]) ?_;refine EN (AL 9 ?_);refine CE mF (dh s.view vt.change OkVw.rng) ID ?_;refine EN (PD 10 ?_);refine PD 11 ?_;refine PD 12 ?_;refine AL 14 ?_;refine SW 1 be an ?_;refine EN (PD 15 ?_);refine DN ?_
 exact aF
  SB
  (λ_ s=>ak [1,0,0] rfl s)
  (tl1 ((b4):(Nat)) trivial)
 exact bz;refine aE rfl ?_ ?_;refine LG 0 oO (.pointer (some ⟨vb,0,none⟩)) ?_ (hc:=by exact λa_=>(bW _ rfl));refine EN (cx [3,8,13] (by kernel_rfl) rfl (aE rfl ?_ ?_));refine LZ 0 dS be an s.view ?_ (hc:=by exact λ_=>cO _);refine EN (cx [8,13] (by kernel_rfl) rfl (aE rfl ?_ ?_));refine CE tc (cX vb vt) (SM [1]) ?_;refine EN (cx [9,13] (by kernel_rfl) rfl (aE rfl ?_ ?_));refine CE mF (dh s.view vt.change OkVw.rng) ID ?_;refine EN (PD 10 ?_);refine PD 11 ?_;refine PD 12 ?_;refine AL 13 ?_;refine XZ rf (ints ViewT.zero.flat) λb4=>?_
 refine EN (AL 14 ?_);refine SW 0 be an ?_;refine EN (PD 15 ?_);refine DN ?_
 exact aF
  SB
  (λ_ s=>s)
  (tl1 ((b4):(Nat)) trivial)
 refine aE rfl ?_ ?_;refine XZ rf (ints ViewT.zero.flat) λb4=>?_
 refine EN (AL 9 ?_);refine CE mF (dh s.view vt.change OkVw.rng) ID ?_;refine EN (PD 10 ?_);refine PD 11 ?_;refine PD 12 ?_;refine AL 14 ?_;refine SW 0 be an ?_;refine EN (PD 15 ?_);refine DN ?_
 exact aF
  SB
  (λ_ s=>s)
  (tl1 ((b4):(Nat)) trivial)
 exact bz;refine aE rfl ?_ ?_;refine XZ rf (ints ViewT.zero.flat) λb4=>?_
 refine EN (AL 8 ?_);refine CE tc (cX vb vt) (SM [2]) ?_;refine EN (AL 9 ?_);refine CE mF (dh s.view vt.change OkVw.rng) ID ?_;refine EN (PD 10 ?_);refine PD 11 ?_;refine PD 12 ?_;refine AL 14 ?_;refine SW 1 be an ?_;refine EN (PD 15 ?_);refine DN ?_
 exact aF
  SB
  (λ_ s=>ak [1,0,0] rfl s)
  (tl1 ((b4):(Nat)) trivial)
 exact bz;refine aE rfl ?_ ?_;refine CE tc (cX vb vt) (SM [1]) ?_;refine EN (cx [3,13] (by kernel_rfl) rfl (aE rfl ?_ ?_));refine LZ 1 dS be an s.view ?_ (hc:=by exact λ_=>cO _);refine EN (cx [9,13] (by kernel_rfl) rfl (aE rfl ?_ ?_));refine CE mF (dh s.view vt.change OkVw.rng) ID ?_;refine EN (PD 10 ?_);refine PD 11 ?_;refine PD 12 ?_;refine AL 13 ?_;refine XZ rf (ints ViewT.zero.flat) λb4=>?_
 refine EN (AL 14 ?_);refine SW 0 be an ?_;refine EN (PD 15 ?_);refine DN ?_
 exact aF
  SB
  (λ_ s=>s)
  (tl1 ((b4):(Nat)) trivial)
 refine aE rfl ?_ ?_;refine XZ rf (ints ViewT.zero.flat) λb4=>?_
 refine EN (AL 9 ?_);refine CE mF (dh s.view vt.change OkVw.rng) ID ?_;refine EN (PD 10 ?_);refine PD 11 ?_;refine PD 12 ?_;refine AL 14 ?_;refine SW 0 be an ?_;refine EN (PD 15 ?_);refine DN ?_
 exact aF
  SB
  (λ_ s=>s)
  (tl1 ((b4):(Nat)) trivial)
 exact bz;refine aE rfl ?_ ?_;refine XZ rf (ints ViewT.zero.flat) λb4=>?_
 refine EN (AL 3 ?_);refine LZ 2 dS be an s.view ?_ (hc:=by exact λ_=>cO _);refine EN (AL 9 ?_);refine CE mF (dh s.view vt.change OkVw.rng) ID ?_;refine EN (PD 10 ?_);refine PD 11 ?_;refine PD 12 ?_;refine AL 14 ?_;refine SW 0 be an ?_;refine EN (PD 15 ?_);refine DN ?_
 exact aF
  SB
  (λ_ s=>s)
  (tl1 ((b4):(Nat)) trivial)
 exact bz;refine aE rfl ?_ ?_;refine XZ rf (ints ViewT.zero.flat) λb4=>?_
 refine EN (cx [3,8] (by kernel_rfl) rfl (aE rfl ?_ ?_));refine LZ 1 dS be an s.view ?_ (hc:=by exact λ_=>cO _);refine EN (AL 8 ?_);refine CE tc (cX vb vt) (SM [2]) ?_;refine EN (AL 9 ?_);refine CE mF (dh s.view vt.change OkVw.rng) ID ?_;refine EN (PD 10 ?_);refine PD 11 ?_;refine PD 12 ?_;refine AL 14 ?_;refine SW 1 be an ?_;refine EN (PD 15 ?_);refine DN ?_
 exact aF
  SB
  (λ_ s=>ak [1,0,0] rfl s)
  (tl1 ((b4):(Nat)) trivial)
 refine aE rfl ?_ ?_;refine CE tc (cX vb vt) (SM [2]) ?_;refine EN (AL 3 ?_);refine LZ 2 dS be an s.view ?_ (hc:=by exact λ_=>cO _);refine EN (AL 9 ?_);refine CE mF (dh s.view vt.change OkVw.rng) ID ?_;refine EN (PD 10 ?_);refine PD 11 ?_;refine PD 12 ?_;refine AL 14 ?_;refine SW 1 be an ?_;refine EN (PD 15 ?_);refine DN ?_
 exact aF
  SB
  (λ_ s=>ak [1,0,0] rfl s)
  (tl1 ((b4):(Nat)) trivial)
 exact bz;exact bz;refine aE rfl ?_ ?_;refine XZ rf (ints ViewT.zero.flat) λb4=>?_
 refine EN (cx [3,7] (by kernel_rfl) rfl (aE rfl ?_ ?_));refine LZ 1 dS be an s.view ?_ (hc:=by exact λ_=>cO _);refine EN (AL 7 ?_);refine LG 1 oO (.pointer (some ⟨vb,0,none⟩)) ?_ (hc:=by exact λa_=>(bW _ rfl));refine EN (AL 8 ?_);refine CE tc (cX vb vt) (SM [2]) ?_;refine EN (AL 9 ?_);refine CE mF (dh s.view vt.change OkVw.rng) ID ?_;refine EN (PD 10 ?_);refine PD 11 ?_;refine PD 12 ?_;refine AL 14 ?_;refine SW 1 be an ?_;refine EN (PD 15 ?_);refine DN ?_
 exact aF
  SB
  (λ_ s=>ak [1,0,0] rfl s)
  (tl1 ((b4):(Nat)) trivial)
 refine aE rfl ?_ ?_;refine LG 1 oO (.pointer (some ⟨vb,0,none⟩)) ?_ (hc:=by exact λa_=>(bW _ rfl));refine EN (cx [3,8] (by kernel_rfl) rfl (aE rfl ?_ ?_));refine LZ 1 dS be an s.view ?_ (hc:=by exact λ_=>cO _);refine EN (AL 8 ?_);refine CE tc (cX vb vt) (SM [2]) ?_;refine EN (AL 9 ?_);refine CE mF (dh s.view vt.change OkVw.rng) ID ?_;refine EN (PD 10 ?_);refine PD 11 ?_;refine PD 12 ?_;refine AL 14 ?_;refine SW 1 be an ?_;refine EN (PD 15 ?_);refine DN ?_
 exact aF
  SB
  (λ_ s=>ak [1,0,0] rfl s)
  (tl1 ((b4):(Nat)) trivial)
 refine aE rfl ?_ ?_;refine CE tc (cX vb vt) (SM [2]) ?_;refine EN (AL 3 ?_);refine LZ 2 dS be an s.view ?_ (hc:=by exact λ_=>cO _);refine EN (AL 9 ?_);refine CE mF (dh s.view vt.change OkVw.rng) ID ?_;refine EN (PD 10 ?_);refine PD 11 ?_;refine PD 12 ?_;refine AL 14 ?_;refine SW 1 be an ?_;refine EN (PD 15 ?_);refine DN ?_
 exact aF
  SB
  (λ_ s=>ak [1,0,0] rfl s)
  (tl1 ((b4):(Nat)) trivial)
 exact bz;exact bz;exact bz
theorem Ac{δ:Type}(V:Env δ)(r:Nat)(s:MS δ)(vt:VoteT)(hv:s.vote=some vt)[OkR V.toDk s]:DT 164 #[.pointer (some ⟨r,0,none⟩), .iface V.T V.ov] T0 [cH V r s] (c9 (λ_ H=>H=[cH V r (kX V.toDk s vt.change)])):=
 Leg.Does.ex (λ_ q=>mH hv q) λvb=>Ad V r vb s vt hv
theorem nD{δ:Type}{V:Env δ}{r:Nat}{s:MS δ}{H:List HP}{h:Hl}(hv:s.vote=none)(q:bK (uT V r s (.pointer none)::H) h):bK (cH V r s::H) h:=by
 have q2:=By q
 rwa [show({s with vote:=none}:MS δ)=s by cases s;simp_all]at q2
theorem ki{δ:Type}(V:Env δ)(r:Nat)(s:MS δ)(f:MS δ→MS δ)(from':Int)(m:MsgT)[OkR V.toDk s][OkMg m](hfe:from'=s.id→m.epoch=s.view.epoch)(h3:m.kind=3→m.epoch=s.view.epoch→TK V r 160 (de s (max s.round m.ballot.round)) from' m (f (de s (max s.round m.ballot.round))))(h5:m.kind=5→m.epoch=s.view.epoch→TK V r 161 (de s (max s.round m.ballot.round)) from' m (f (de s (max s.round m.ballot.round))))(hn:m.kind≠3∧m.kind≠5→f (de s (max s.round m.ballot.round))=(de s (max s.round m.ballot.round)))(hv:m.kind=4∨m.kind=6→s.vote=none):
 DT 126 #[(.pointer (some ⟨r,0,none⟩)),(.iface V.T V.ov),(.int .i64 (from')),(.agg (ints m.flat).toArray)] T0 [cH V r s] (c9 (λ_ H=>H=[cH V r (eL V.toDk f s from' m)])):=by
 refine BD 124 Tryz.func126 rfl rfl rfl λw0 F hF=>sr λ_ J1=>XY (ints m.flat) λb7=>?_
 refine nx J1 (aa λ_ J2=>aa λ_ J3=>DC bf (BL 0) (cR 1 rfl rfl) ?_);refine FD 0 177 bd aO ?_;refine LR 1 Y3 (ez m rfl) ?_;refine PD 2 ?_;refine PD 3 ?_;refine FD 4 2 cW be ?_;refine FD 5 2 dS aO ?_;refine ta 6 rfl (c7 (v:=(.int .i64 (s.view.epoch))) rfl Y3 rfl rfl (λ_ h=>h.2.2.1) (λa_=>(cm (s.rep a_) 0 rfl (by decide) (aU _ rfl)))) ?_;refine PD 7 ?_;refine jh ?_ ?_<;>intro h15;refine DN (ac J3 (CY (aa λ_ J4=>sr λ_ J5=>FA 0 bd aO ?_)));refine LU 0 Y3 (eM m rfl) ?_;refine PS ?_;refine ao ?_ ?_<;>intro h18;refine PS ?_
 iterate 3 refine UT ?_
 refine PS ?_;refine nx J5 (CY (ad ?_))
 iterate 5 refine PS ?_
 refine FA 2 cW be ?_;refine LZ 1 dS be an s.view ?_ (hc:=by exact λ_=>cO _);refine tp (ke MsgT.zero (MsgT.mk 7 0 RowT.zero 0 0 BallotT.zero BallotT.zero ChangeT.zero s.view) [(0,[Value.int .i64 7]),(8,ints s.view.flat)] bd bw (g:=MsgT.sg)) ?_;refine CZ iN (jb V r s from' (jJ s.view) (λe=>absurd (hfe e) (by omega))) (SM [1]) λvR=>?_
 refine nx J4 (ah (ae (WK [0] (dx rfl ?_))));exact congrArg (λq=>[cH V r q]) (show(iA V.toDk s ([SaidT.mk from' (jJ s.view)]))=eL V.toDk f s from' m by rw[eL,if_pos h15,if_pos (.inl h18)];rfl);refine PS ?_;refine FA 0 bd aO ?_;refine LU 0 Y3 (eM m rfl) ?_;refine PS ?_;refine ao ?_ ?_<;>intro h22;refine PS ?_;refine nx J5 (CY (ad ?_))
 iterate 5 refine PS ?_
 refine FA 2 cW be ?_;refine LZ 1 dS be an s.view ?_ (hc:=by exact λ_=>cO _);refine tp (ke MsgT.zero (MsgT.mk 7 0 RowT.zero 0 0 BallotT.zero BallotT.zero ChangeT.zero s.view) [(0,[Value.int .i64 7]),(8,ints s.view.flat)] bd bw (g:=MsgT.sg)) ?_;refine CZ iN (jb V r s from' (jJ s.view) (λe=>absurd (hfe e) (by omega))) (SM [1]) λvR=>?_
 refine nx J4 (ah (ae (WK [0] (dx rfl ?_))));exact congrArg (λq=>[cH V r q]) (show(iA V.toDk s ([SaidT.mk from' (jJ s.view)]))=eL V.toDk f s from' m by rw[eL,if_pos h15,if_pos (.inr h22)];rfl);refine PS ?_;refine nx J5 (CN (qx J4 (ah (ae (WK [1] (dx rfl ?_))))));exact congrArg (λq=>[cH V r q]) (show s=eL V.toDk f s from' m by rw[eL,if_pos h15,if_neg (by omega)]);refine DN (ac J3 (CN (qx J2 (aa λ_ J6=>aa λ_ J7=>DC bf (BL 0) (cR 1 rfl rfl) ?_))));refine FD 0 177 bd aO ?_;refine LR 1 Y3 (ez m rfl) ?_;refine PD 2 ?_;refine PD 3 ?_;refine FD 4 2 cW be ?_;refine FD 5 2 dS aO ?_;refine ta 6 rfl (c7 (v:=(.int .i64 (s.view.epoch))) rfl Y3 rfl rfl (λ_ h=>h.2.2.1) (λa_=>(cm (s.rep a_) 0 rfl (by decide) (aU _ rfl)))) ?_;refine PD 7 ?_;refine jh ?_ ?_<;>intro h40;refine PD 8 ?_;refine NT 9 ?_;refine NT 10 ?_;refine NT 11 ?_;refine NT 12 ?_;refine NT 13 ?_;refine NT 14 ?_;refine NT 15 ?_;refine NT 16 ?_;refine NT 17 ?_;refine NT 18 ?_;refine PD 19 ?_;refine DN (ac J7 (CY (ah (ae (WK [1] (dx rfl ?_))))));exact congrArg (λq=>[cH V r q]) (show s=eL V.toDk f s from' m by rw[eL,if_neg h15,if_pos (.inl (by omega))]);refine PD 8 ?_;refine PD 9 ?_;refine PD 10 ?_;refine FD 11 2 cW be ?_;refine tb 12 rfl (fU (vs:=ints s.view.flat) rfl dS rfl be rfl (λ_ h=>h.2.2.1) (an s.view) (λa_=>(fO (s.rep a_) 0 rfl (by decide) (whole (an ((s.rep a_).view)))))) ?_;refine PD 13 ?_;refine PD 14 ?_;refine FD 15 0 cW aO ?_
 refine tb 16 rfl (c7 (v:=(.int .i64 (s.id))) rfl Y3 rfl rfl (λ_ h=>h.2.2.1) (λa_=>(cF _ rfl))) ?_;refine AL 17 ?_;refine CE px (dr s.view s.id) ID ?_;refine bc ?_ ?_<;>intro h50;refine EN (PD 18 ?_);refine PD 19 ?_;refine DN (ac J7 (CN (qx J6 (aa λ_ J8=>D1 0 bf ?_))));refine PD 0 ?_;refine PD 1 ?_;refine PD 2 ?_;refine FD 3 1066 cW aO ?_;refine FD 5 178 bd cw ?_;refine FD 6 178 jQ aO ?_;refine LX 7 Y3 (.int .i64 (m.ballot.round)) ?_ (hc:=by exact MsgT.pt_ballot m 0 rfl (by decide) (eY m.ballot rfl));refine AL 4 ?_;refine LG 1 Y3 (.int .i64 (s.round)) ?_ (hc:=by exact λa_=>(uI _ rfl));refine EN (ta 8 rfl (xT rfl rfl rfl) ?_);refine PD 9 ?_;refine FD 10 1066 cW aO ?_;refine AL 11 ?_;refine SK 1 aO (λ_=>cQ _) ?_ (hc:=by exact λa_=>(lC _ rfl _));refine EN (DN (ac J8 (sr λ_ J9=>FA 0 bd aO ?_)));refine LU 0 Y3 (eM m rfl) ?_;refine nx J9 (am (sr λ_ J10=>PS ?_));refine ao ?_ ?_<;>intro h67;refine PS ?_;refine nx J10 (CY (ad (P3 ?_)));refine LW 0 bd cf aG ?_;refine CZ MJ ((h3 (by omega) (by omega))) (SM [1]) λvR=>?_
 refine ap (af (WK [0] (br rfl ?_)));exact congrArg (λq=>[cH V r q]) (show(f (de s (max s.round m.ballot.round)))=eL V.toDk f s from' m by rw[eL,if_neg h15,if_neg (λh=>h.elim (λh=>absurd h (by omega)) (λh=>by rw[h50]at h;cases h))]);refine PS ?_;refine nx J10 (CN (sr λ_ J11=>PS ?_));refine ao ?_ ?_<;>intro h74;refine PS ?_;refine nx J11 (CY (ad (P3 ?_)));refine LW 0 bd cf aG ?_;refine CZ MI ((h5 (by omega) (by omega))) (SM [1]) λvR=>?_
 refine ap (af (WK [0] (br rfl ?_)));exact congrArg (λq=>[cH V r q]) (show(f (de s (max s.round m.ballot.round)))=eL V.toDk f s from' m by rw[eL,if_neg h15,if_neg (λh=>h.elim (λh=>absurd h (by omega)) (λh=>by rw[h50]at h;cases h))]);refine PS ?_;refine nx J11 (CN (sr λ_ J12=>PS ?_));refine ao ?_ ?_<;>intro h81;refine ce (H':=uT V r (de s (max s.round m.ballot.round)) (.pointer none)::[aj b7 (ints m.flat) 163]) (λ_ q=>rZ (hv (by omega)) (aA [1] rfl q)) (PS ?_);refine nx J12 (CY (aa λ_ J13=>DC bf (cR 0 rfl rfl) (BL 1) ?_));refine PD 0 ?_;refine PD 1 ?_;refine FD 2 1067 cW my ?_;refine ta 3 rfl (c7 (v:=(.pointer none)) rfl oO rfl rfl (λ_ h=>h.2.1) (λa_=>(bW _ rfl))) ?_;refine ta 4 rfl (iE rfl oO rfl rfl) ?_;refine PD 5 ?_;refine NT 6 ?_;refine NT 7 ?_;refine NT 8 ?_;refine NT 9 ?_;refine NT 10 ?_;refine NT 11 ?_;refine NT 12 ?_;refine NT 13 ?_;refine NT 14 ?_;refine NT 15 ?_;refine NT 16 ?_;refine NT 17 ?_;refine PD 18 ?_;refine DN (ac J13 (CN (aM (af (aF (H':=[cH V r (de s (max s.round m.ballot.round))]) (cZ _) (λ_ q=>nD (hv (by omega)) (ak [0] rfl q)) (br rfl ?_))))));exact congrArg (λq=>[cH V r q]) (show(de s (max s.round m.ballot.round))=eL V.toDk f s from' m by rw[eL,if_neg h15,if_neg (λh=>h.elim (λh=>absurd h (by omega)) (λh=>by rw[h50]at h;cases h)),hn (by omega)]);refine PS ?_;refine nx J12 (CN (sr λ_ J14=>PS ?_));refine ao ?_ ?_<;>intro h105
 refine ce (H':=uT V r (de s (max s.round m.ballot.round)) (.pointer none)::[aj b7 (ints m.flat) 163]) (λ_ q=>rZ (hv (by omega)) (aA [1] rfl q)) (PS ?_);refine nx J14 (CY (aa λ_ J15=>DC bf (cR 0 rfl rfl) (BL 1) ?_));refine PD 0 ?_;refine PD 1 ?_;refine FD 2 1067 cW my ?_;refine ta 3 rfl (c7 (v:=(.pointer none)) rfl oO rfl rfl (λ_ h=>h.2.1) (λa_=>(bW _ rfl))) ?_;refine ta 4 rfl (iE rfl oO rfl rfl) ?_;refine PD 5 ?_;refine NT 6 ?_;refine NT 7 ?_;refine NT 8 ?_;refine NT 9 ?_;refine NT 10 ?_;refine NT 11 ?_;refine NT 12 ?_;refine NT 13 ?_;refine PD 14 ?_;refine DN (ac J15 (CN (aM (af (aF (H':=[cH V r (de s (max s.round m.ballot.round))]) (cZ _) (λ_ q=>nD (hv (by omega)) (ak [0] rfl q)) (br rfl ?_))))));exact congrArg (λq=>[cH V r q]) (show(de s (max s.round m.ballot.round))=eL V.toDk f s from' m by rw[eL,if_neg h15,if_neg (λh=>h.elim (λh=>absurd h (by omega)) (λh=>by rw[h50]at h;cases h)),hn (by omega)]);refine PS ?_;refine nx J14 (CN (aM (af (WK [1] (br rfl ?_)))));exact congrArg (λq=>[cH V r q]) (show(de s (max s.round m.ballot.round))=eL V.toDk f s from' m by rw[eL,if_neg h15,if_neg (λh=>h.elim (λh=>absurd h (by omega)) (λh=>by rw[h50]at h;cases h)),hn (by omega)]);refine EN (PD 18 ?_);refine PD 19 ?_;refine DN (ac J7 (CY (ah (ae (WK [1] (dx rfl ?_))))));exact congrArg (λq=>[cH V r q]) (show s=eL V.toDk f s from' m by rw[eL,if_neg h15,if_pos (.inr h50)])
theorem zf(v:VoteT)(w:Int)(b:BallotT):(gn v w b).1.change=v.change:=by unfold gn;split<;>rfl
theorem pi{δ:Type}(V:Env δ)(r:Nat)(s:MS δ)(vt:VoteT)(from':Int)(m:MsgT)[OkR V.toDk s][OkMg m](hfe:from'=s.id→m.epoch=s.view.epoch)(hk:m.kind=4∨m.kind=6)(hv:s.vote=some vt)(hp:m.kind=4→(eJ vt from' m.ballot m.had m.change).2=true→DT 92 #[.pointer (some ⟨r,0,none⟩), .iface V.T V.ov] T0 [cH V r (kZ (de s (max s.round m.ballot.round)) (eJ vt from' m.ballot m.had m.change).1)] (c9 (λ_ H=>H=[cH V r (ku V.toDk (kZ (de s (max s.round m.ballot.round)) (eJ vt from' m.ballot m.had m.change).1) (eJ vt from' m.ballot m.had m.change).1)]))):
    DT 126 #[(.pointer (some ⟨r,0,none⟩)),(.iface V.T V.ov),(.int .i64 (from')),(.agg (ints m.flat).toArray)] T0 [cH V r s] (c9 (λ_ H=>H=[cH V r (eL V.toDk (λs_=>if m.kind=4 then pa V.toDk from' m s_ else k8 V.toDk from' m s_) s from' m)])):=by
 refine BD 124 Tryz.func126 rfl rfl rfl λw0 F hF=>?_
 have hov:OkVt vt:=OkR.vote vt hv;refine sr λ_ J1=>XY (ints m.flat) λb7=>?_
 refine nx J1 (aa λ_ J2=>aa λ_ J3=>DC bf (BL 0) (cR 1 rfl rfl) ?_);refine FD 0 177 bd aO ?_;refine LR 1 Y3 (ez m rfl) ?_;refine PD 2 ?_;refine PD 3 ?_;refine FD 4 2 cW be ?_;refine FD 5 2 dS aO ?_;refine ta 6 rfl (c7 (v:=(.int .i64 (s.view.epoch))) rfl Y3 rfl rfl (λ_ h=>h.2.2.1) (λa_=>(cm (s.rep a_) 0 rfl (by decide) (aU _ rfl)))) ?_;refine PD 7 ?_;refine jh ?_ ?_<;>intro h15;refine DN (ac J3 (CY (aa λ_ J4=>sr λ_ J5=>FA 0 bd aO ?_)));refine LU 0 Y3 (eM m rfl) ?_;refine PS ?_;refine ao ?_ ?_<;>intro h18;refine PS ?_
 iterate 3 refine UT ?_
 refine PS ?_;refine nx J5 (CY (ad ?_))
 iterate 5 refine PS ?_
 refine FA 2 cW be ?_;refine LZ 1 dS be an s.view ?_ (hc:=by exact λ_=>cO _);refine tp (ke MsgT.zero (MsgT.mk 7 0 RowT.zero 0 0 BallotT.zero BallotT.zero ChangeT.zero s.view) [(0,[Value.int .i64 7]),(8,ints s.view.flat)] bd bw (g:=MsgT.sg)) ?_;refine CZ iN (jb V r s from' (jJ s.view) (λe=>absurd (hfe e) (by omega))) (SM [1]) λvR=>?_
 refine nx J4 (ah (ae (WK [0] (dx rfl ?_))));exact MQ (by rw[eL,if_pos h15,if_pos (.inl h18)];rfl);refine PS ?_;refine FA 0 bd aO ?_;refine LU 0 Y3 (eM m rfl) ?_;refine PS ?_;refine ao ?_ ?_<;>intro h22;refine PS ?_;refine nx J5 (CY (ad ?_))
 iterate 5 refine PS ?_
 refine FA 2 cW be ?_;refine LZ 1 dS be an s.view ?_ (hc:=by exact λ_=>cO _);refine tp (ke MsgT.zero (MsgT.mk 7 0 RowT.zero 0 0 BallotT.zero BallotT.zero ChangeT.zero s.view) [(0,[Value.int .i64 7]),(8,ints s.view.flat)] bd bw (g:=MsgT.sg)) ?_;refine CZ iN (jb V r s from' (jJ s.view) (λe=>absurd (hfe e) (by omega))) (SM [1]) λvR=>?_
 refine nx J4 (ah (ae (WK [0] (dx rfl ?_))));exact MQ (by rw[eL,if_pos h15,if_pos (.inr h22)];rfl);refine PS ?_;refine nx J5 (CN (qx J4 (ah (ae (WK [1] (dx rfl ?_))))));exact MQ (by rw[eL,if_pos h15,if_neg (by omega)]);refine DN (ac J3 (CN (qx J2 (aa λ_ J6=>aa λ_ J7=>DC bf (BL 0) (cR 1 rfl rfl) ?_))));refine FD 0 177 bd aO ?_;refine LR 1 Y3 (ez m rfl) ?_;refine PD 2 ?_;refine PD 3 ?_;refine FD 4 2 cW be ?_;refine FD 5 2 dS aO ?_;refine ta 6 rfl (c7 (v:=(.int .i64 (s.view.epoch))) rfl Y3 rfl rfl (λ_ h=>h.2.2.1) (λa_=>(cm (s.rep a_) 0 rfl (by decide) (aU _ rfl)))) ?_;refine PD 7 ?_;refine jh ?_ ?_<;>intro h40;refine PD 8 ?_;refine NT 9 ?_;refine NT 10 ?_;refine NT 11 ?_;refine NT 12 ?_;refine NT 13 ?_;refine NT 14 ?_;refine NT 15 ?_;refine NT 16 ?_;refine NT 17 ?_;refine NT 18 ?_;refine PD 19 ?_;refine DN (ac J7 (CY (ah (ae (WK [1] (dx rfl ?_))))));exact MQ (by rw[eL,if_neg h15,if_pos (.inl (by omega))]);refine PD 8 ?_;refine PD 9 ?_;refine PD 10 ?_;refine FD 11 2 cW be ?_;refine tb 12 rfl (fU (vs:=ints s.view.flat) rfl dS rfl be rfl (λ_ h=>h.2.2.1) (an s.view) (λa_=>(fO (s.rep a_) 0 rfl (by decide) (whole (an ((s.rep a_).view)))))) ?_;refine PD 13 ?_;refine PD 14 ?_;refine FD 15 0 cW aO ?_;refine tb 16 rfl (c7 (v:=(.int .i64 (s.id))) rfl Y3 rfl rfl (λ_ h=>h.2.2.1) (λa_=>(cF _ rfl))) ?_;refine AL 17 ?_;refine CE px (dr s.view s.id) ID ?_;refine bc ?_ ?_<;>intro h50;refine EN (PD 18 ?_);refine PD 19 ?_
 refine DN (ac J7 (CN (qx J6 (aa λ_ J8=>D1 0 bf ?_))));refine PD 0 ?_;refine PD 1 ?_;refine PD 2 ?_;refine FD 3 1066 cW aO ?_;refine FD 5 178 bd cw ?_;refine FD 6 178 jQ aO ?_;refine LX 7 Y3 (.int .i64 (m.ballot.round)) ?_ (hc:=by exact MsgT.pt_ballot m 0 rfl (by decide) (eY m.ballot rfl));refine AL 4 ?_;refine LG 1 Y3 (.int .i64 (s.round)) ?_ (hc:=by exact λa_=>(uI _ rfl));refine EN (ta 8 rfl (xT rfl rfl rfl) ?_);refine PD 9 ?_;refine FD 10 1066 cW aO ?_;refine AL 11 ?_;refine SK 1 aO (λ_=>cQ _) ?_ (hc:=by exact λa_=>(lC _ rfl _));refine EN (DN (ac J8 (sr λ_ J9=>FA 0 bd aO ?_)));refine LU 0 Y3 (eM m rfl) ?_;refine nx J9 (am (sr λ_ J10=>PS ?_));refine ao ?_ ?_<;>intro h67
 · exact absurd h67 (by omega)
 refine PS ?_;refine nx J10 (CN (sr λ_ J11=>PS ?_));refine ao ?_ ?_<;>intro h74
 · exact absurd h74 (by omega)
 refine PS ?_;refine nx J11 (CN (sr λ_ J12=>PS ?_));refine ao ?_ ?_<;>intro h81;refine Nr (H':=λvb:Nat=>uT V r (de s (max s.round m.ballot.round)) (.pointer (some ⟨vb,0,none⟩))::aj vb (VoteT.cells vt) 207::[aj b7 (ints m.flat) 163]) (λ_ q=>mH (s:=(de s (max s.round m.ballot.round))) hv (aA [1] rfl q)) (λvb=>PS ?_);refine nx J12 (CY (aa λ_ J13=>D1 2 bf ?_));refine PD 0 ?_;refine PD 1 ?_;refine FD 2 1067 cW my ?_;refine AL 3 ?_;refine LG 0 oO (.pointer (some ⟨vb,0,none⟩)) ?_ (hc:=by exact λa_=>(bW _ rfl));refine EN (ta 4 rfl (fy rfl oO rfl rfl) ?_);refine PD 5 ?_;refine PD 6 ?_;refine PD 7 ?_;refine FD 8 1067 cW my ?_;refine PD 10 ?_;refine FD 11 178 bd cw ?_;refine tb 12 rfl (aK (vs:=ints m.ballot.flat) rfl jQ rfl cw rfl (λ_ h=>h.2.1) (aq m.ballot) (iF m 0 rfl (by decide) (whole (aq m.ballot)))) ?_;refine FD 13 180 bd cw ?_;refine tb 14 rfl (aK (vs:=ints m.had.flat) rfl jQ rfl cw rfl (λ_ h=>h.2.1) (aq m.had) (Pa m 0 rfl (by decide) (whole (aq m.had)))) ?_;refine FD 15 182 bd eZ ?_;refine tb 16 rfl (aK (vs:=ints m.change.flat) rfl lW rfl eZ rfl (λ_ h=>h.2.1) (aI m.change) (mS m 0 rfl (by decide) (whole (aI m.change)))) ?_;refine AL 9 ?_;refine LG 0 oO (.pointer (some ⟨vb,0,none⟩)) ?_ (hc:=by exact λa_=>(bW _ rfl));refine EN (AL 17 ?_);refine CE MH (CI vb vt from' m.ballot m.had m.change (OkMg.ballot) hov.ballot) (SM [1]) ?_;refine bc ?_ ?_<;>intro h99;refine EN (PD 18 ?_)
 refine DN (ac J13 (CY (ad (ce (H':=cH V r (kZ (de s (max s.round m.ballot.round)) ((eJ vt from' m.ballot m.had m.change).1))::[aj b7 (ints m.flat) 163]) (λ_ q=>nB (aA [1,0] rfl q)) (P2 ?_)))));refine CZ Ju ((hp (by omega) h99)) ID λvR=>?_
 refine ap (af (WK [0] (br rfl ?_)))
 exact congrArg (λq=>[cH V r q]) (show _=eL V.toDk (λs_=>if m.kind=4 then pa V.toDk from' m s_ else k8 V.toDk from' m s_) s from' m by
                              rw[eL,if_neg h15,if_neg (λh=>h.elim (λh=>absurd h (by omega)) (λh=>by rw[h50]at h;cases h)),if_pos (by omega),pa];simp only[show(de s (max s.round m.ballot.round)).vote=some vt from hv]
                              rw[if_pos h99])
 refine EN (PD 18 ?_);refine DN (ac J13 (CN (aM (af (aF (H':=[cH V r (kZ (de s (max s.round m.ballot.round)) (eJ vt from' m.ballot m.had m.change).1)]) (cZ _) (λ_ q=>nB (ak [1,0] rfl q)) (br rfl ?_))))))
 exact congrArg (λq=>[cH V r q]) (show(kZ (de s (max s.round m.ballot.round)) (eJ vt from' m.ballot m.had m.change).1)=eL V.toDk (λs_=>if m.kind=4 then pa V.toDk from' m s_ else k8 V.toDk from' m s_) s from' m by
                              rw[eL,if_neg h15,if_neg (λh=>h.elim (λh=>absurd h (by omega)) (λh=>by rw[h50]at h;cases h)),if_pos (by omega),pa];simp only[show(de s (max s.round m.ballot.round)).vote=some vt from hv]
                              rw[if_neg (by rw[h99];decide)])
 refine PS ?_;refine nx J12 (CN (sr λ_ J14=>PS ?_));refine ao ?_ ?_<;>intro h105;refine Nr (H':=λvb:Nat=>uT V r (de s (max s.round m.ballot.round)) (.pointer (some ⟨vb,0,none⟩))::aj vb (VoteT.cells vt) 207::[aj b7 (ints m.flat) 163]) (λ_ q=>mH (s:=(de s (max s.round m.ballot.round))) hv (aA [1] rfl q)) (λvb=>PS ?_);refine nx J14 (CY (aa λ_ J15=>D1 2 bf ?_));refine PD 0 ?_;refine PD 1 ?_;refine FD 2 1067 cW my ?_;refine AL 3 ?_;refine LG 0 oO (.pointer (some ⟨vb,0,none⟩)) ?_ (hc:=by exact λa_=>(bW _ rfl));refine EN (ta 4 rfl (fy rfl oO rfl rfl) ?_);refine PD 5 ?_;refine PD 6 ?_;refine PD 7 ?_;refine FD 8 1067 cW my ?_;refine PD 10 ?_;refine FD 11 178 bd cw ?_;refine tb 12 rfl (aK (vs:=ints m.ballot.flat) rfl jQ rfl cw rfl (λ_ h=>h.2.1) (aq m.ballot) (iF m 0 rfl (by decide) (whole (aq m.ballot)))) ?_;refine AL 9 ?_;refine LG 0 oO (.pointer (some ⟨vb,0,none⟩)) ?_ (hc:=by exact λa_=>(bW _ rfl));refine EN (AL 13 ?_);refine CE MG (C0 vb vt from' m.ballot (OkMg.ballot) hov.ballot) (SM [1]) ?_;refine bc ?_ ?_<;>intro h119;refine EN (PD 14 ?_);refine DN (ac J15 (CY (ad (ce (H':=cH V r (kZ (de s (max s.round m.ballot.round)) ((gn vt from' m.ballot).1))::[aj b7 (ints m.flat) 163]) (λ_ q=>nB (aA [1,0] rfl q)) (P2 ?_)))));refine CZ MF (Ac V r (kZ (de s (max s.round m.ballot.round)) (gn vt from' m.ballot).1) (gn vt from' m.ballot).1 rfl) ID λvR=>?_
 refine ap (af (WK [0] (br rfl ?_)))
 exact congrArg (λq=>[cH V r q]) (show _=eL V.toDk (λs_=>if m.kind=4 then pa V.toDk from' m s_ else k8 V.toDk from' m s_) s from' m by
                                rw[eL,if_neg h15,if_neg (λh=>h.elim (λh=>absurd h (by omega)) (λh=>by rw[h50]at h;cases h)),if_neg (by omega),k8];simp only[show(de s (max s.round m.ballot.round)).vote=some vt from hv]
                                rw[if_pos h119,zf])
 refine EN (PD 14 ?_);refine DN (ac J15 (CN (aM (af (aF (H':=[cH V r (kZ (de s (max s.round m.ballot.round)) (gn vt from' m.ballot).1)]) (cZ _) (λ_ q=>nB (ak [1,0] rfl q)) (br rfl ?_))))))
 exact congrArg (λq=>[cH V r q]) (show(kZ (de s (max s.round m.ballot.round)) (gn vt from' m.ballot).1)=eL V.toDk (λs_=>if m.kind=4 then pa V.toDk from' m s_ else k8 V.toDk from' m s_) s from' m by
                                rw[eL,if_neg h15,if_neg (λh=>h.elim (λh=>absurd h (by omega)) (λh=>by rw[h50]at h;cases h)),if_neg (by omega),k8];simp only[show(de s (max s.round m.ballot.round)).vote=some vt from hv]
                                rw[if_neg (by rw[h119];decide)])
 · exact absurd h105 (by omega)
 refine EN (PD 18 ?_);refine PD 19 ?_;refine DN (ac J7 (CY (ah (ae (WK [1] (dx rfl ?_))))));exact MQ (by rw[eL,if_neg h15,if_pos (.inr h50)])
theorem qC{δ:Type}(V:Env δ)(r:Nat)(s:MS δ)(from':Int)(m:MsgT)[OkR V.toDk s][OkMg m](hfe:from'=s.id→m.epoch=s.view.epoch)(hk:m.kind=6):TK V r 82 s from' m (qD V.toDk s from' m):=nW (.inr (.inr (.inr hk))) (by
 cases hv:s.vote with
 |none=>exact ki V r s (k8 V.toDk from' m) from' m hfe (λe=>by omega) (λe=>by omega) (λ_=>by rw[k8,show(de s (max s.round m.ballot.round)).vote=none from hv]) (λ_=>hv)
 |some vt=>
  have h:=pi V r s vt from' m hfe (.inr hk) hv (λe=>by omega)
  rwa [show(λs_:MS δ=>if m.kind=4 then pa V.toDk from' m s_ else k8 V.toDk from' m s_)=k8 V.toDk from' m from funext λ_=>if_neg (by omega)]at h)
theorem xl{δ:Type}(V:Env δ)(r:Nat)(s:MS δ)(from':Int)(m:MsgT)[OkR V.toDk s][OkMg m](hep:m.epoch=s.view.epoch):
 DT 161 #[(.pointer (some ⟨r,0,none⟩)),(.iface V.T V.ov),(.int .i64 (from')),(.agg (ints m.flat).toArray)] T0 [cH V r s] (c9 (λ_ H=>H=[cH V r (oC V.toDk from' m s)])):=by
 refine BD 69 Tryz.func161 rfl rfl rfl λw0 F hF=>sr λ_ J1=>XY (ints m.flat) λb7=>?_
 refine nx J1 (aa λ_ J2=>aa λ_ J3=>eT (α:=Unit) (λ_u=>True) (λ_u=>[(0,(.pointer (some ⟨r,0,none⟩))),(1,(.iface V.T V.ov)),(2,(.int .i64 (from'))),(7,(.pointer (some ⟨b7,0,none⟩))),(9,(.int .i64 ((dL s.view m.change).2)))]) (λ_u=>[cH V r s,aj b7 (ints m.flat) 163]) (λ_u hinv=>?_) (λtl3=>?_));have _:=hinv;refine ac J3 (sr λ_ J4=>P2 ?_);refine ao ?_ ?_<;>intro h23;refine nx J4 (CY (ah (ae (WK [0] (dx rfl ?_)))));exact MQ (by rw[oC,if_pos h23]);refine nx J4 (CN (qx J2 (aa λ_ J5=>eT (α:=(Nat)) (λb10=>True) (λb10=>[(0,(.pointer (some ⟨r,0,none⟩))),(1,(.iface V.T V.ov)),(2,(.int .i64 (from'))),(7,(.pointer (some ⟨b7,0,none⟩))),(10,(.pointer (some ⟨b10,0,none⟩))),(11,(.bool ((gp s.acc m.epoch m.ballot m.change).2)))]) (λb10=>[cH V r s,aj b7 (ints m.flat) 163,aj b10 (ints ((gp s.acc m.epoch m.ballot m.change).1).flat) 82]) (λb10 hinv=>?_) (λtl5=>?_))));have _:=hinv;refine ac J5 (aa λ_ J6=>sr λ_ J7=>PS ?_);refine bc ?_ ?_<;>intro h38;refine PS ?_;refine nx J7 (CN (qx J6 (aa λ_ J8=>aa λ_ J9=>DC bf (BL 2) (cR 0 rfl rfl) ?_)));refine LY 0 oU fD a9 ?_;refine PD 1 ?_;refine PD 2 ?_;refine FD 3 1058 cW fD ?_;refine ta 4 rfl (fU (vs:=ints s.acc.flat) rfl oU rfl fD rfl (λ_ h=>h.2.2.1) (a9 s.acc) (λa_=>(xP (s.rep a_) 0 rfl (by decide) (whole (a9 ((s.rep a_).acc)))))) ?_
 refine ta 5 rfl (JY (a:=((gp s.acc m.epoch m.ballot m.change).1).flat) (b:=s.acc.flat) (m:=6) (c:=8) N0 NW rfl OE (eQ (a9 ((gp s.acc m.epoch m.ballot m.change).1))) (eQ (a9 s.acc)) ⟨ir Nb Nh (eQ (a9 ((gp s.acc m.epoch m.ballot m.change).1))),ir Nb Nh (eQ (a9 s.acc))⟩ (OkAc.wf) (OkAc.wf) rfl rfl rfl) ?_;refine jh ?_ ?_<;>intro h45;refine DN (ac J9 (CY (aa λ_ J10=>sr λ_ J11=>PS ?_)));refine FA 177 bd aO ?_;refine LU 1 Y3 (ez m rfl) ?_;refine FA 178 bd cw ?_;refine LV 1 jQ cw aq nP (y:=m.ballot) ?_;refine FA 182 bd eZ ?_;refine LV 1 lW eZ aI MsgT.sp_change (y:=m.change) ?_;refine tp (ke RecT.zero (RecT.mk 4 0 RowT.zero m.epoch m.ballot m.change ViewT.zero) [(0,[Value.int .i64 4]),(3,[Value.int .i64 m.epoch]),(4,ints m.ballot.flat),(5,ints m.change.flat)] dT eU (g:=RecT.sg)) ?_;refine CE wk (kN V r s (lY m.epoch m.ballot m.change)) ID ?_;refine PS ?_;refine ao ?_ ?_<;>intro h55;refine nx J11 (CY (ah (ae (ae (WK [0] (dx rfl ?_))))));exact MQ (by rw[oC,if_neg h23,if_neg (by rw[h38];decide),if_pos h45,if_pos h55]);refine nx J11 (CN (qx J10 (ad (PS ?_))));refine LW 2 oU fD a9 ?_;refine PS ?_;refine FA 1058 cW fD ?_
 refine gI (vs:=ints ((gp s.acc m.epoch m.ballot m.change).1).flat) (i:=0) (ab rfl) rfl rfl rfl rfl rfl (by rw[(a9 ((gp s.acc m.epoch m.ballot m.change).1))];exact fD) (bm _) rfl rfl (λ_=>LC (cQ _) (a9 _)) (λa_=>(kb ((dZ V.toDk s (lY m.epoch m.ballot m.change)).rep a_) 0 rfl (by have h1:=(a9 ((gp s.acc m.epoch m.ballot m.change).1));omega) (cg ((a9 (((dZ V.toDk s (lY m.epoch m.ballot m.change)).rep a_).acc)).trans (a9 ((gp s.acc m.epoch m.ballot m.change).1)).symm)))) (nx J8 (ad (P3 ?_)));refine FA 177 bd aO ?_;refine LU 1 Y3 (ez m rfl) ?_;refine FA 178 bd cw ?_;refine LV 1 jQ cw aq nP (y:=m.ballot) ?_;refine tp (ke MsgT.zero (MsgT.mk 6 0 RowT.zero 0 m.epoch m.ballot BallotT.zero ChangeT.zero ViewT.zero) [(0,[Value.int .i64 6]),(4,[Value.int .i64 m.epoch]),(5,ints m.ballot.flat)] bd bw (g:=MsgT.sg)) ?_;refine CZ iN (fZ V r (w7 (dZ V.toDk s (lY m.epoch m.ballot m.change)) (gp s.acc m.epoch m.ballot m.change).1) from' (ju m.epoch m.ballot) (λs_=>qD V.toDk s_ s_.id (ju m.epoch m.ballot)) (λ_=>qC V r (w7 (dZ V.toDk s (lY m.epoch m.ballot m.change)) (gp s.acc m.epoch m.ballot m.change).1) (w7 (dZ V.toDk s (lY m.epoch m.ballot m.change)) (gp s.acc m.epoch m.ballot m.change).1).id (ju m.epoch m.ballot) (λ_=>hep) rfl)) ID λvR=>?_
 refine ap (WK [0] (br rfl ?_));exact MQ (by rw[oC,if_neg h23,if_neg (by rw[h38];decide),if_pos h45,if_neg h55];rfl);refine DN (ac J9 (CN (qx J8 (ad (P3 ?_)))));refine FA 177 bd aO ?_;refine LU 1 Y3 (ez m rfl) ?_;refine FA 178 bd cw ?_;refine LV 1 jQ cw aq nP (y:=m.ballot) ?_;refine tp (ke MsgT.zero (MsgT.mk 6 0 RowT.zero 0 m.epoch m.ballot BallotT.zero ChangeT.zero ViewT.zero) [(0,[Value.int .i64 6]),(4,[Value.int .i64 m.epoch]),(5,ints m.ballot.flat)] bd bw (g:=MsgT.sg)) ?_;refine CZ iN (fZ V r s from' (ju m.epoch m.ballot) (λs_=>qD V.toDk s_ s_.id (ju m.epoch m.ballot)) (λ_=>qC V r s s.id (ju m.epoch m.ballot) (λ_=>hep) rfl)) ID λvR=>?_
 refine ap (WK [0] (br rfl ?_));exact MQ (by rw[oC,if_neg h23,if_neg (by rw[h38];decide),if_neg h45];rfl);refine PS ?_;refine nx J7 (CY (ah (ae (WK [0] (dx rfl ?_)))));exact MQ (by rw[oC,if_neg h23,if_pos h38]);refine DC bf (cR 0 rfl rfl) (BL 1) ?_;refine PD 0 ?_;refine PD 1 ?_;refine FD 2 1058 cW fD ?_;refine ta 3 rfl (fU (vs:=ints s.acc.flat) rfl oU rfl fD rfl (λ_ h=>h.2.1) (a9 s.acc) (λa_=>(xP (s.rep a_) 0 rfl (by decide) (whole (a9 ((s.rep a_).acc)))))) ?_;refine FD 4 177 bd aO ?_;refine LR 5 Y3 (ez m rfl) ?_;refine FD 6 178 bd cw ?_;refine ta 7 rfl (aK (vs:=ints m.ballot.flat) rfl jQ rfl cw rfl (λ_ h=>h.2.2.1) (aq m.ballot) (iF m 0 rfl (by decide) (whole (aq m.ballot)))) ?_;refine FD 8 182 bd eZ ?_;refine ta 9 rfl (aK (vs:=ints m.change.flat) rfl lW rfl eZ rfl (λ_ h=>h.2.2.1) (aI m.change) (mS m 0 rfl (by decide) (whole (aI m.change)))) ?_;refine cx [10,14] (by kernel_rfl) rfl (aE rfl ?_ ?_);refine CE Kc (uq s.acc m.epoch m.ballot m.change) ID ?_;refine EN (PD 11 ?_);refine PD 12 ?_;refine PD 13 ?_;refine q8 ?_ ?_<;>intro h37;refine AL 14 ?_;refine XZ GZ (ints AccT.zero.flat) λb10=>?_
 refine EN (AL 15 ?_);refine SW 0 fD a9 ?_;refine EN (PD 16 ?_);refine DN ?_
 exact aF
  (aX (aX (aX (aX (aX (bC rfl (by rw[h37]) SB))))))
  (λ_ s=>ak [1,1,0] rfl s)
  (tl5 ((b10):(Nat)) trivial)
 refine AL 14 ?_;refine XZ GZ (ints AccT.zero.flat) λb10=>?_
 refine EN (AL 15 ?_);refine SW 0 fD a9 ?_;refine EN (PD 16 ?_);refine DN ?_
 exact aF
  (aX (aX (aX (aX (aX (bC rfl (by rw[h37]) SB))))))
  (λ_ s=>ak [1,1,0] rfl s)
  (tl5 ((b10):(Nat)) trivial)
 refine aE rfl ?_ ?_;refine XZ GZ (ints AccT.zero.flat) λb10=>?_
 refine EN (AL 10 ?_);refine CE Kc (uq s.acc m.epoch m.ballot m.change) ID ?_;refine EN (PD 11 ?_);refine PD 12 ?_;refine PD 13 ?_;refine q8 ?_ ?_<;>intro h37;refine AL 15 ?_;refine SW 0 fD a9 ?_;refine EN (PD 16 ?_);refine DN ?_
 exact aF
  (aX (aX (aX (aX (aX (bC rfl (by rw[h37]) SB))))))
  (λ_ s=>ak [1,1,0] rfl s)
  (tl5 ((b10):(Nat)) trivial)
 refine AL 15 ?_;refine SW 0 fD a9 ?_;refine EN (PD 16 ?_);refine DN ?_
 exact aF
  (aX (aX (aX (aX (aX (bC rfl (by rw[h37]) SB))))))
  (λ_ s=>ak [1,1,0] rfl s)
  (tl5 ((b10):(Nat)) trivial)
 exact bz;refine DC bf (cR 1 rfl rfl) (BL 0) ?_;refine PD 0 ?_;refine PD 1 ?_;refine FD 2 2 cW be ?_;refine ta 3 rfl (fU (vs:=ints s.view.flat) rfl dS rfl be rfl (λ_ h=>h.2.1) (an s.view) (λa_=>(fO (s.rep a_) 0 rfl (by decide) (whole (an ((s.rep a_).view)))))) ?_;refine FD 4 182 bd eZ ?_;refine ta 5 rfl (aK (vs:=ints m.change.flat) rfl lW rfl eZ rfl (λ_ h=>h.2.2.1) (aI m.change) (mS m 0 rfl (by decide) (whole (aI m.change)))) ?_;refine cx [6,10] (by kernel_rfl) rfl (aE rfl ?_ ?_);refine CE mF (dh s.view m.change OkVw.rng) ID ?_;refine EN (PD 7 ?_);refine PD 8 ?_;refine PD 9 ?_;refine AL 10 ?_;refine XZ rf (ints ViewT.zero.flat) λb8=>?_
 refine EN (AL 11 ?_);refine SW 0 be an ?_;refine EN (PD 12 ?_);refine DN ?_
 exact aF
  SB
  (λ_ s=>ak [2,1] rfl s)
  (tl3 (():Unit) trivial)
 refine aE rfl ?_ ?_;refine XZ rf (ints ViewT.zero.flat) λb8=>?_
 refine EN (AL 6 ?_);refine CE mF (dh s.view m.change OkVw.rng) ID ?_;refine EN (PD 7 ?_);refine PD 8 ?_;refine PD 9 ?_;refine AL 11 ?_;refine SW 0 be an ?_;refine EN (PD 12 ?_);refine DN ?_
 exact aF
  SB
  (λ_ s=>ak [2,1] rfl s)
  (tl3 (():Unit) trivial)
 exact bz
theorem vl{δ:Type}(V:Env δ)(r:Nat)(s:MS δ)(from':Int)(m:MsgT)[OkR V.toDk s][OkMg m](hfe:from'=s.id→m.epoch=s.view.epoch)(hk:m.kind=5):TK V r 82 s from' m (sR V.toDk s from' m):=nW (by omega) (ki V r s (oC V.toDk from' m) from' m hfe (λe _=>by omega) (λ_ hep=>xl V r (de s (max s.round m.ballot.round)) from' m hep) (λe=>by omega) (λe=>by omega))
theorem xr{δ:Type}(V:Env δ)(r vb:Nat)(s:MS δ)(vt:VoteT)(hv:s.vote=some vt)(hpt:vt.putting=true)[OkR V.toDk s][OkVt vt]:
 DT 92 #[(.pointer (some ⟨r,0,none⟩)),(.iface V.T V.ov)] T0 [uT V r s (.pointer (some ⟨vb,0,none⟩)),aj vb (VoteT.cells vt) 207] (c9 (λ_ H=>H=[cH V r (ku V.toDk s vt)])):=by
 refine BD 68 Tryz.func92 rfl rfl rfl λw0 F hF=>aa λ_ J1=>eT (α:=(Nat)) (λb4=>True) (λb4=>[(0,(.pointer (some ⟨r,0,none⟩))),(1,(.iface V.T V.ov)),(4,(.pointer (some ⟨b4,0,none⟩)))]) (λb4=>[uT V r s (.pointer (some ⟨vb,0,none⟩)),aj vb (VoteT.cells vt) 207,aj b4 (ints (fx s.view.epoch vt.ballot).flat) 163]) (λb4 hinv=>?_) (λtl1=>?_)
 have _:=hinv;refine ac J1 (aa λ_ J2=>sr λ_ J3=>P2 ?_);refine FA 1067 cW my ?_;refine LG 0 oO (.pointer (some ⟨vb,0,none⟩)) ?_ (hc:=by exact λa_=>(bW _ rfl));refine CE Km (nq vb vt) (SM [1]) ?_;refine bc ?_ ?_<;>intro h22;refine nx J3 (CY (ad (P2 ?_)));refine FA 1067 cW my ?_;refine LG 1 oO (.pointer (some ⟨vb,0,none⟩)) ?_ (hc:=by exact λa_=>(bW _ rfl));refine CE tc (cX vb vt) ID ?_;refine FA 0 bd aO ?_;refine SS 2 aO (aG _) (MsgT.set_kind _ rfl _) ?_;refine FA 182 bd eZ ?_;refine SP 2 eZ aI aG Nu ?_;refine nx J2 (sr λ_ J4=>ce (H':=cH V r s::[aj b4 (ints (MsgT.mk 5 ((fx s.view.epoch vt.ballot).whose) ((fx s.view.epoch vt.ballot).row) ((fx s.view.epoch vt.ballot).version) ((fx s.view.epoch vt.ballot).epoch) ((fx s.view.epoch vt.ballot).ballot) ((fx s.view.epoch vt.ballot).had) vt.change ((fx s.view.epoch vt.ballot).view)).flat) 163]) (λ_ q=>nC hv (aA [1,0] rfl q)) (P2 ?_));refine FA 2 cW be ?_;refine LZ 0 dS be an s.view ?_ (hc:=by exact λ_=>cO _);refine XZ rf (ints ViewT.zero.flat) λb5=>?_
 refine SW 0 be an ?_;refine nx J4 (aa λ_ J5=>sr λ_ J6=>PS ?_);refine nx J6 (am ?_)
 refine bu (α:=(Nat)) (λk=>k≤5) (λk=>[(0,(.pointer (some ⟨r,0,none⟩))),(1,(.iface V.T V.ov)),(4,(.pointer (some ⟨b4,0,none⟩))),(5,(.pointer (some ⟨b5,0,none⟩))),(34,(.int .i64 (((k:Nat):Int))))]) (λk=>[aj b5 (ints s.view.flat) 32,aj b4 (ints (iK s.view.epoch vt.ballot vt.change).flat) 163,cH V r (iA V.toDk s (nA s.id (iK s.view.epoch vt.ballot vt.change) (λi=>iB s.view ((i:Nat):Int)) k))]) (λk=>5-k) 0
  (aN _) SB
  (λ_ q=>by
  rw[show nA s.id (iK s.view.epoch vt.ballot vt.change) (λi=>iB s.view ((i:Nat):Int)) 0=[]from rfl,po]
  exact ak [0,1,0] rfl q) (λk hinv=>?_)
 obtain hk:=hinv;refine sr λ_ J7=>PS ?_
 refine ao ?_ ?_<;>intro h35;refine nx J7 (aa λ_ J8=>CY (qx J8 (aa λ_ J9=>am (sr λ_ J10=>P2 ?_))));refine nx J10 (sr λ_ J11=>P3 ?_);refine FA 0 cW aO ?_;refine LG 2 Y3 (.int .i64 (s.id)) ?_ (hc:=by exact λa_=>(cF _ rfl));refine PS ?_;refine ao ?_ ?_<;>intro h42;refine PS ?_;refine LW 0 dS be an ?_;refine PS ?_;refine CE px (dr s.view ((k:Nat):Int)) ID ?_;refine bc ?_ ?_<;>intro h46;refine PS ?_;refine nx J11 (CY (ad (P3 ?_)));refine LW 1 bd cf aG ?_;refine CZ iN (nv V r s (nA s.id (iK s.view.epoch vt.ballot vt.change) (λi=>iB s.view ((i:Nat):Int)) k) ((k:Nat):Int) (iK s.view.epoch vt.ballot vt.change) h42) (SM [2]) λvR=>?_
 refine ap (af (ac J9 (ad (AD ?_))));refine PS ?_;refine ap ?_
 exact aJ ((k+1):(Nat)) (by omega) (by show 5- (k+1)<5-k;omega)
  SB
  (λ_ q=>by
   rw[iq,if_pos ⟨h42,h46⟩]
   exact ak [1,1,0] rfl q)
 refine PS ?_;refine nx J11 (CN (aM (af (ac J9 (ad (AD ?_))))));refine PS ?_;refine ap ?_
 exact aJ ((k+1):(Nat)) (by omega) (by show 5- (k+1)<5-k;omega)
  SB
  (λ_ q=>by
   rw[iq,if_neg (λh=>by have:=h.2;rw[h46]at this;cases this)];rw[a8]
   exact ak [0,0,0] rfl q)
 refine PS ?_
 iterate 3 refine UF ?_
 refine PS ?_;refine nx J11 (CN (aM (af (ac J9 (ad (AD ?_))))));refine PS ?_;refine ap ?_
 exact aJ ((k+1):(Nat)) (by omega) (by show 5- (k+1)<5-k;omega)
  SB
  (λ_ q=>by
   rw[iq,if_neg (λh=>h42 h.1)];rw[a8]
   exact ak [0,0,0] rfl q)
 obtain rfl:k=5:=by omega
 refine nx J7 (aa λ_ J12=>CN (aV (ay (ay (bh (ac J5 (aa λ_ J13=>DC bf (BL 0) (cR 2 rfl rfl) ?_)))))));refine LY 0 dS be an ?_;refine PD 1 ?_;refine PD 2 ?_;refine FD 3 0 cW aO ?_;refine ta 4 rfl (c7 (v:=(.int .i64 ((jq V.toDk s (iK s.view.epoch vt.ballot vt.change)).id))) rfl Y3 rfl rfl (λ_ h=>h.2.2.1) (λa_=>(cF _ rfl))) ?_;refine AL 5 ?_;refine CE px (dr s.view ((jq V.toDk s (iK s.view.epoch vt.ballot vt.change)).id)) ID ?_;refine bc ?_ ?_<;>intro h59;refine EN (DN (ac J13 (CY (D1 1 bf ?_))));refine PD 0 ?_;refine PD 1 ?_;refine PD 2 ?_;refine PD 3 ?_;refine FD 4 0 cW aO ?_;refine LY 6 bd cf aG ?_;refine AL 5 ?_;refine LG 2 Y3 (.int .i64 ((jq V.toDk s (iK s.view.epoch vt.ballot vt.change)).id)) ?_ (hc:=by exact λa_=>(cF _ rfl));refine EN (AL 7 ?_);refine CZ iN (fZ V r (jq V.toDk s (iK s.view.epoch vt.ballot vt.change)) s.id (iK s.view.epoch vt.ballot vt.change) (λs_=>sR V.toDk s_ s_.id (iK s.view.epoch vt.ballot vt.change)) (λ_=>vl V r (jq V.toDk s (iK s.view.epoch vt.ballot vt.change)) s.id (iK s.view.epoch vt.ballot vt.change) (λ_=>rfl) rfl)) (SM [2]) λvR=>?_
 refine EN (DN (WK [0] (br rfl ?_)));exact MQ (by rw[ku,jw,if_pos (show iB s.view s.id=true from h59),m4,if_pos (show s.id=(jq V.toDk s (iK s.view.epoch vt.ballot vt.change)).id from rfl)]<;>rfl);refine EN (DN (ac J13 (CN (aM (WK [2] (br rfl ?_))))));exact MQ (by rw[ku,jw,if_neg (by rw[show iB s.view s.id=false from h59];decide)]<;>rfl)
 · rw[hpt]at h22;cases h22
 refine D1 1 bf ?_;refine PD 0 ?_;refine PD 1 ?_;refine FD 2 2 cW be ?_;refine FD 3 2 dS aO ?_;refine PD 5 ?_;refine PD 6 ?_;refine FD 7 1067 cW my ?_;refine cx [4,8,11] (by kernel_rfl) rfl (aE rfl ?_ ?_);refine LG 0 Y3 (.int .i64 (s.view.epoch)) ?_ (hc:=by exact λa_=>(cm (s.rep ⟨(a_:Nat×Value).1,(.pointer (some ⟨vb,0,none⟩)),a_.2⟩) 0 rfl (by decide) (aU _ rfl)));refine EN (cx [8,11] (by kernel_rfl) rfl (aE rfl ?_ ?_));refine LG 0 oO (.pointer (some ⟨vb,0,none⟩)) ?_ (hc:=by exact λa_=>(bW _ rfl));refine EN (cx [9,11] (by kernel_rfl) rfl (aE rfl ?_ ?_));refine CE jo (bJ vb vt) (SM [1]) ?_;refine EN (ta 10 rfl (ke MsgT.zero (MsgT.mk 3 0 RowT.zero 0 s.view.epoch vt.ballot BallotT.zero ChangeT.zero ViewT.zero) [(0,[Value.int .i64 3]),(4,[Value.int .i64 s.view.epoch]),(5,ints vt.ballot.flat)] bd bw (g:=MsgT.sg)) ?_);refine AL 11 ?_;refine XZ lX (ints MsgT.zero.flat) λb4=>?_
 refine EN (AL 12 ?_);refine SW 0 cf aG ?_;refine EN (DN ?_)
 exact aF
  SB
  (λ_ s=>ak [2,1,0] rfl s)
  (tl1 ((b4):(Nat)) trivial)
 refine aE rfl ?_ ?_;refine XZ lX (ints MsgT.zero.flat) λb4=>?_
 refine EN (AL 9 ?_);refine CE jo (bJ vb vt) (SM [2]) ?_;refine EN (ta 10 rfl (ke MsgT.zero (MsgT.mk 3 0 RowT.zero 0 s.view.epoch vt.ballot BallotT.zero ChangeT.zero ViewT.zero) [(0,[Value.int .i64 3]),(4,[Value.int .i64 s.view.epoch]),(5,ints vt.ballot.flat)] bd bw (g:=MsgT.sg)) ?_);refine AL 12 ?_;refine SW 1 cf aG ?_;refine EN (DN ?_)
 exact aF
  SB
  (λ_ s=>ak [2,0,0] rfl s)
  (tl1 ((b4):(Nat)) trivial)
 exact bz;refine aE rfl ?_ ?_;refine XZ lX (ints MsgT.zero.flat) λb4=>?_
 refine EN (AL 8 ?_);refine LG 1 oO (.pointer (some ⟨vb,0,none⟩)) ?_ (hc:=by exact λa_=>(bW _ rfl));refine EN (AL 9 ?_);refine CE jo (bJ vb vt) (SM [2]) ?_;refine EN (ta 10 rfl (ke MsgT.zero (MsgT.mk 3 0 RowT.zero 0 s.view.epoch vt.ballot BallotT.zero ChangeT.zero ViewT.zero) [(0,[Value.int .i64 3]),(4,[Value.int .i64 s.view.epoch]),(5,ints vt.ballot.flat)] bd bw (g:=MsgT.sg)) ?_);refine AL 12 ?_;refine SW 1 cf aG ?_;refine EN (DN ?_)
 exact aF
  SB
  (λ_ s=>ak [2,0,0] rfl s)
  (tl1 ((b4):(Nat)) trivial)
 exact bz;refine aE rfl ?_ ?_;refine LG 0 oO (.pointer (some ⟨vb,0,none⟩)) ?_ (hc:=by exact λa_=>(bW _ rfl));refine EN (cx [4,9,11] (by kernel_rfl) rfl (aE rfl ?_ ?_));refine LG 0 Y3 (.int .i64 (s.view.epoch)) ?_ (hc:=by exact λa_=>(cm (s.rep ⟨(a_:Nat×Value).1,(.pointer (some ⟨vb,0,none⟩)),a_.2⟩) 0 rfl (by decide) (aU _ rfl)));refine EN (cx [9,11] (by kernel_rfl) rfl (aE rfl ?_ ?_));refine CE jo (bJ vb vt) (SM [1]) ?_;refine EN (ta 10 rfl (ke MsgT.zero (MsgT.mk 3 0 RowT.zero 0 s.view.epoch vt.ballot BallotT.zero ChangeT.zero ViewT.zero) [(0,[Value.int .i64 3]),(4,[Value.int .i64 s.view.epoch]),(5,ints vt.ballot.flat)] bd bw (g:=MsgT.sg)) ?_);refine AL 11 ?_;refine XZ lX (ints MsgT.zero.flat) λb4=>?_
 refine EN (AL 12 ?_);refine SW 0 cf aG ?_;refine EN (DN ?_)
 exact aF
  SB
  (λ_ s=>ak [2,1,0] rfl s)
  (tl1 ((b4):(Nat)) trivial)
 refine aE rfl ?_ ?_;refine XZ lX (ints MsgT.zero.flat) λb4=>?_
 refine EN (AL 9 ?_);refine CE jo (bJ vb vt) (SM [2]) ?_;refine EN (ta 10 rfl (ke MsgT.zero (MsgT.mk 3 0 RowT.zero 0 s.view.epoch vt.ballot BallotT.zero ChangeT.zero ViewT.zero) [(0,[Value.int .i64 3]),(4,[Value.int .i64 s.view.epoch]),(5,ints vt.ballot.flat)] bd bw (g:=MsgT.sg)) ?_);refine AL 12 ?_;refine SW 1 cf aG ?_;refine EN (DN ?_)
 exact aF
  SB
  (λ_ s=>ak [2,0,0] rfl s)
  (tl1 ((b4):(Nat)) trivial)
 exact bz;refine aE rfl ?_ ?_;refine CE jo (bJ vb vt) (SM [1]) ?_;refine EN (cx [4,11] (by kernel_rfl) rfl (aE rfl ?_ ?_));refine LG 1 Y3 (.int .i64 (s.view.epoch)) ?_ (hc:=by exact λa_=>(cm (s.rep ⟨(a_:Nat×Value).1,(.pointer (some ⟨vb,0,none⟩)),a_.2⟩) 0 rfl (by decide) (aU _ rfl)));refine EN (ta 10 rfl (ke MsgT.zero (MsgT.mk 3 0 RowT.zero 0 s.view.epoch vt.ballot BallotT.zero ChangeT.zero ViewT.zero) [(0,[Value.int .i64 3]),(4,[Value.int .i64 s.view.epoch]),(5,ints vt.ballot.flat)] bd bw (g:=MsgT.sg)) ?_);refine AL 11 ?_;refine XZ lX (ints MsgT.zero.flat) λb4=>?_
 refine EN (AL 12 ?_);refine SW 0 cf aG ?_;refine EN (DN ?_)
 exact aF
  SB
  (λ_ s=>ak [2,1,0] rfl s)
  (tl1 ((b4):(Nat)) trivial)
 refine aE rfl ?_ ?_;refine XZ lX (ints MsgT.zero.flat) λb4=>?_
 refine EN (AL 4 ?_);refine LG 2 Y3 (.int .i64 (s.view.epoch)) ?_ (hc:=by exact λa_=>(cm (s.rep ⟨(a_:Nat×Value).1,(.pointer (some ⟨vb,0,none⟩)),a_.2⟩) 0 rfl (by decide) (aU _ rfl)));refine EN (ta 10 rfl (ke MsgT.zero (MsgT.mk 3 0 RowT.zero 0 s.view.epoch vt.ballot BallotT.zero ChangeT.zero ViewT.zero) [(0,[Value.int .i64 3]),(4,[Value.int .i64 s.view.epoch]),(5,ints vt.ballot.flat)] bd bw (g:=MsgT.sg)) ?_);refine AL 12 ?_;refine SW 0 cf aG ?_;refine EN (DN ?_)
 exact aF
  SB
  (λ_ s=>ak [2,1,0] rfl s)
  (tl1 ((b4):(Nat)) trivial)
 exact bz;refine aE rfl ?_ ?_;refine XZ lX (ints MsgT.zero.flat) λb4=>?_
 refine EN (cx [4,9] (by kernel_rfl) rfl (aE rfl ?_ ?_));refine LG 1 Y3 (.int .i64 (s.view.epoch)) ?_ (hc:=by exact λa_=>(cm (s.rep ⟨(a_:Nat×Value).1,(.pointer (some ⟨vb,0,none⟩)),a_.2⟩) 0 rfl (by decide) (aU _ rfl)));refine EN (AL 9 ?_);refine CE jo (bJ vb vt) (SM [2]) ?_;refine EN (ta 10 rfl (ke MsgT.zero (MsgT.mk 3 0 RowT.zero 0 s.view.epoch vt.ballot BallotT.zero ChangeT.zero ViewT.zero) [(0,[Value.int .i64 3]),(4,[Value.int .i64 s.view.epoch]),(5,ints vt.ballot.flat)] bd bw (g:=MsgT.sg)) ?_);refine AL 12 ?_;refine SW 1 cf aG ?_;refine EN (DN ?_)
 exact aF
  SB
  (λ_ s=>ak [2,0,0] rfl s)
  (tl1 ((b4):(Nat)) trivial)
 refine aE rfl ?_ ?_;refine CE jo (bJ vb vt) (SM [2]) ?_;refine EN (AL 4 ?_);refine LG 2 Y3 (.int .i64 (s.view.epoch)) ?_ (hc:=by exact λa_=>(cm (s.rep ⟨(a_:Nat×Value).1,(.pointer (some ⟨vb,0,none⟩)),a_.2⟩) 0 rfl (by decide) (aU _ rfl)));refine EN (ta 10 rfl (ke MsgT.zero (MsgT.mk 3 0 RowT.zero 0 s.view.epoch vt.ballot BallotT.zero ChangeT.zero ViewT.zero) [(0,[Value.int .i64 3]),(4,[Value.int .i64 s.view.epoch]),(5,ints vt.ballot.flat)] bd bw (g:=MsgT.sg)) ?_);refine AL 12 ?_;refine SW 1 cf aG ?_;refine EN (DN ?_)
 exact aF
  SB
  (λ_ s=>ak [2,0,0] rfl s)
  (tl1 ((b4):(Nat)) trivial)
 exact bz;exact bz;refine aE rfl ?_ ?_;refine XZ lX (ints MsgT.zero.flat) λb4=>?_
 refine EN (cx [4,8] (by kernel_rfl) rfl (aE rfl ?_ ?_));refine LG 1 Y3 (.int .i64 (s.view.epoch)) ?_ (hc:=by exact λa_=>(cm (s.rep ⟨(a_:Nat×Value).1,(.pointer (some ⟨vb,0,none⟩)),a_.2⟩) 0 rfl (by decide) (aU _ rfl)));refine EN (AL 8 ?_);refine LG 1 oO (.pointer (some ⟨vb,0,none⟩)) ?_ (hc:=by exact λa_=>(bW _ rfl));refine EN (AL 9 ?_);refine CE jo (bJ vb vt) (SM [2]) ?_;refine EN (ta 10 rfl (ke MsgT.zero (MsgT.mk 3 0 RowT.zero 0 s.view.epoch vt.ballot BallotT.zero ChangeT.zero ViewT.zero) [(0,[Value.int .i64 3]),(4,[Value.int .i64 s.view.epoch]),(5,ints vt.ballot.flat)] bd bw (g:=MsgT.sg)) ?_);refine AL 12 ?_;refine SW 1 cf aG ?_;refine EN (DN ?_)
 exact aF
  SB
  (λ_ s=>ak [2,0,0] rfl s)
  (tl1 ((b4):(Nat)) trivial)
 refine aE rfl ?_ ?_;refine LG 1 oO (.pointer (some ⟨vb,0,none⟩)) ?_ (hc:=by exact λa_=>(bW _ rfl));refine EN (cx [4,9] (by kernel_rfl) rfl (aE rfl ?_ ?_));refine LG 1 Y3 (.int .i64 (s.view.epoch)) ?_ (hc:=by exact λa_=>(cm (s.rep ⟨(a_:Nat×Value).1,(.pointer (some ⟨vb,0,none⟩)),a_.2⟩) 0 rfl (by decide) (aU _ rfl)));refine EN (AL 9 ?_);refine CE jo (bJ vb vt) (SM [2]) ?_;refine EN (ta 10 rfl (ke MsgT.zero (MsgT.mk 3 0 RowT.zero 0 s.view.epoch vt.ballot BallotT.zero ChangeT.zero ViewT.zero) [(0,[Value.int .i64 3]),(4,[Value.int .i64 s.view.epoch]),(5,ints vt.ballot.flat)] bd bw (g:=MsgT.sg)) ?_);refine AL 12 ?_;refine SW 1 cf aG ?_;refine EN (DN ?_)
 exact aF
  SB
  (λ_ s=>ak [2,0,0] rfl s)
  (tl1 ((b4):(Nat)) trivial)
 refine aE rfl ?_ ?_;refine CE jo (bJ vb vt) (SM [2]) ?_;refine EN (AL 4 ?_);refine LG 2 Y3 (.int .i64 (s.view.epoch)) ?_ (hc:=by exact λa_=>(cm (s.rep ⟨(a_:Nat×Value).1,(.pointer (some ⟨vb,0,none⟩)),a_.2⟩) 0 rfl (by decide) (aU _ rfl)));refine EN (ta 10 rfl (ke MsgT.zero (MsgT.mk 3 0 RowT.zero 0 s.view.epoch vt.ballot BallotT.zero ChangeT.zero ViewT.zero) [(0,[Value.int .i64 3]),(4,[Value.int .i64 s.view.epoch]),(5,ints vt.ballot.flat)] bd bw (g:=MsgT.sg)) ?_);refine AL 12 ?_;refine SW 1 cf aG ?_;refine EN (DN ?_)
 exact aF
  SB
  (λ_ s=>ak [2,0,0] rfl s)
  (tl1 ((b4):(Nat)) trivial)
 exact bz;exact bz;exact bz
theorem rU{δ:Type}(V:Env δ)(r:Nat)(s:MS δ)(vt:VoteT)(hv:s.vote=some vt)(hpt:vt.putting=true)[OkR V.toDk s]:DT 92 #[.pointer (some ⟨r,0,none⟩), .iface V.T V.ov] T0 [cH V r s] (c9 (λ_ H=>H=[cH V r (ku V.toDk s vt)])):=
 have:OkVt vt:=OkR.vote vt hv
 Leg.Does.ex (λ_ q=>mH hv q) λvb=>xr V r vb s vt hv hpt
theorem qE{δ:Type}(V:Env δ)(r:Nat)(s:MS δ)(from':Int)(m:MsgT)[OkR V.toDk s][OkMg m](hfe:from'=s.id→m.epoch=s.view.epoch)(hk:m.kind=4):TK V r 82 s from' m (qF V.toDk s from' m):=nW (by omega) (by
 cases hv:s.vote with
 |none=>exact ki V r s (pa V.toDk from' m) from' m hfe (λe=>by omega) (λe=>by omega) (λ_=>by rw[pa,show(de s (max s.round m.ballot.round)).vote=none from hv]) (λ_=>hv)
 |some vt=>
  have hov:OkVt vt:=OkR.vote vt hv;have h:=pi V r s vt from' m hfe (.inl hk) hv (λ_ h2=>rU V r (kZ (de s (max s.round m.ballot.round)) (eJ vt from' m.ballot m.had m.change).1) (eJ vt from' m.ballot m.had m.change).1 rfl (CH h2))
  rwa [show(λs_:MS δ=>if m.kind=4 then pa V.toDk from' m s_ else k8 V.toDk from' m s_)=pa V.toDk from' m from funext λ_=>if_pos hk]at h)
theorem xm{δ:Type}(V:Env δ)(r:Nat)(s:MS δ)(from':Int)(m:MsgT)[OkR V.toDk s][OkMg m](hep:m.epoch=s.view.epoch):
 DT 160 #[(.pointer (some ⟨r,0,none⟩)),(.iface V.T V.ov),(.int .i64 (from')),(.agg (ints m.flat).toArray)] T0 [cH V r s] (c9 (λ_ H=>H=[cH V r (pN V.toDk from' m s)])):=by
 refine BD 57 Tryz.func160 rfl rfl rfl λw0 F hF=>?_
 have hpm:OkMg (kr m.epoch m.ballot (bV s.acc m.epoch m.ballot).1.had (bV s.acc m.epoch m.ballot).1.change):=OkMg.promM m.epoch inferInstance;refine sr λ_ J1=>XY (ints m.flat) λb7=>?_
 refine nx J1 (aa λ_ J2=>eT (α:=(Nat)) (λb8=>True) (λb8=>[(0,(.pointer (some ⟨r,0,none⟩))),(1,(.iface V.T V.ov)),(2,(.int .i64 (from'))),(7,(.pointer (some ⟨b7,0,none⟩))),(8,(.pointer (some ⟨b8,0,none⟩))),(9,(.bool ((bV s.acc m.epoch m.ballot).2)))]) (λb8=>[cH V r s,aj b7 (ints m.flat) 163,aj b8 (ints ((bV s.acc m.epoch m.ballot).1).flat) 82]) (λb8 hinv=>?_) (λtl2=>?_));have _:=hinv;refine ac J2 (aa λ_ J3=>sr λ_ J4=>PS ?_);refine bc ?_ ?_<;>intro h22;refine PS ?_;refine nx J4 (CN (qx J3 (aa λ_ J5=>aa λ_ J6=>DC bf (BL 2) (cR 0 rfl rfl) ?_)));refine FD 0 1 oU cw ?_;refine ta 1 rfl (aK (vs:=ints (((bV s.acc m.epoch m.ballot).1).vow).flat) rfl jQ rfl cw rfl (λ_ h=>h.2.1) (aq (((bV s.acc m.epoch m.ballot).1).vow)) (Pd ((bV s.acc m.epoch m.ballot).1) 0 rfl (by decide) (whole (aq (((bV s.acc m.epoch m.ballot).1).vow))))) ?_;refine PD 2 ?_;refine PD 3 ?_;refine FD 4 1058 cW fD ?_;refine FD 5 1059 oU cw ?_;refine ta 6 rfl (fU (vs:=ints s.acc.vow.flat) rfl jQ rfl cw rfl (λ_ h=>h.2.2.1) (aq s.acc.vow) (λa_=>(xP (s.rep a_) 1 rfl (by decide) (Pd ((s.rep a_).acc) 0 rfl (by decide) (whole (aq (((s.rep a_).acc).vow))))))) ?_
 refine ta 7 rfl (JY (a:=(((bV s.acc m.epoch m.ballot).1).vow).flat) (b:=s.acc.vow.flat) (m:=6) (c:=2) KQ KO rfl Lm (eQ (aq (((bV s.acc m.epoch m.ballot).1).vow))) (eQ (aq s.acc.vow)) ⟨ir GB GM (eQ (aq (((bV s.acc m.epoch m.ballot).1).vow))),ir GB GM (eQ (aq s.acc.vow))⟩ (OkAc.vow inferInstance) (OkAc.vow inferInstance) rfl rfl rfl) ?_;refine jh ?_ ?_<;>intro h31;refine DN (ac J6 (CY (aa λ_ J7=>sr λ_ J8=>PS ?_)));refine FA 177 bd aO ?_;refine LU 1 Y3 (ez m rfl) ?_;refine FA 178 bd cw ?_;refine LV 1 jQ cw aq nP (y:=m.ballot) ?_;refine tp (ke RecT.zero (RecT.mk 3 0 RowT.zero m.epoch m.ballot ChangeT.zero ViewT.zero) [(0,[Value.int .i64 3]),(3,[Value.int .i64 m.epoch]),(4,ints m.ballot.flat)] dT eU (g:=RecT.sg)) ?_;refine CE wk (kN V r s (gQ m.epoch m.ballot)) ID ?_;refine PS ?_;refine ao ?_ ?_<;>intro h39;refine nx J8 (CY (ah (ae (ae (WK [0] (dx rfl ?_))))));exact MQ (by rw[pN,if_neg (by rw[h22];decide),if_pos h31,if_pos h39]);refine nx J8 (CN (qx J7 (ad (PS ?_))));refine LW 2 oU fD a9 ?_;refine PS ?_;refine FA 1058 cW fD ?_
 refine gI (vs:=ints ((bV s.acc m.epoch m.ballot).1).flat) (i:=0) (ab rfl) rfl rfl rfl rfl rfl (by rw[(a9 ((bV s.acc m.epoch m.ballot).1))];exact fD) (bm _) rfl rfl (λ_=>LC (cQ _) (a9 _)) (λa_=>(kb ((dZ V.toDk s (gQ m.epoch m.ballot)).rep a_) 0 rfl (by have h1:=(a9 ((bV s.acc m.epoch m.ballot).1));omega) (cg ((a9 (((dZ V.toDk s (gQ m.epoch m.ballot)).rep a_).acc)).trans (a9 ((bV s.acc m.epoch m.ballot).1)).symm)))) (nx J5 (ad (P3 ?_)));refine FA 177 bd aO ?_;refine LU 1 Y3 (ez m rfl) ?_;refine FA 178 bd cw ?_;refine LV 1 jQ cw aq nP (y:=m.ballot) ?_;refine FA 3 oU cw ?_;refine LV 2 jQ cw aq AccT.sp_had (y:=(((bV s.acc m.epoch m.ballot).1).had)) ?_;refine FA 5 oU eZ ?_;refine LV 2 lW eZ aI AccT.sp_change (y:=(((bV s.acc m.epoch m.ballot).1).change)) ?_;refine tp (ke MsgT.zero (MsgT.mk 4 0 RowT.zero 0 m.epoch m.ballot (((bV s.acc m.epoch m.ballot).1).had) (((bV s.acc m.epoch m.ballot).1).change) ViewT.zero) [(0,[Value.int .i64 4]),(4,[Value.int .i64 m.epoch]),(5,ints m.ballot.flat),(6,ints (((bV s.acc m.epoch m.ballot).1).had).flat),(7,ints (((bV s.acc m.epoch m.ballot).1).change).flat)] bd bw (g:=MsgT.sg)) ?_
 refine CZ iN (fZ V r (w7 (dZ V.toDk s (gQ m.epoch m.ballot)) (bV s.acc m.epoch m.ballot).1) from' (kr m.epoch m.ballot (bV s.acc m.epoch m.ballot).1.had (bV s.acc m.epoch m.ballot).1.change) (λs_=>qF V.toDk s_ s_.id (kr m.epoch m.ballot (bV s.acc m.epoch m.ballot).1.had (bV s.acc m.epoch m.ballot).1.change)) (λ_=>qE V r (w7 (dZ V.toDk s (gQ m.epoch m.ballot)) (bV s.acc m.epoch m.ballot).1) (w7 (dZ V.toDk s (gQ m.epoch m.ballot)) (bV s.acc m.epoch m.ballot).1).id (kr m.epoch m.ballot (bV s.acc m.epoch m.ballot).1.had (bV s.acc m.epoch m.ballot).1.change) (λ_=>hep) rfl)) ID λvR=>?_
 refine ap (WK [0] (br rfl ?_));exact MQ (by rw[pN,if_neg (by rw[h22];decide),if_pos h31,if_neg h39];rfl);refine DN (ac J6 (CN (qx J5 (ad (P3 ?_)))));refine FA 177 bd aO ?_;refine LU 1 Y3 (ez m rfl) ?_;refine FA 178 bd cw ?_;refine LV 1 jQ cw aq nP (y:=m.ballot) ?_;refine FA 3 oU cw ?_;refine LV 2 jQ cw aq AccT.sp_had (y:=(((bV s.acc m.epoch m.ballot).1).had)) ?_;refine FA 5 oU eZ ?_;refine LV 2 lW eZ aI AccT.sp_change (y:=(((bV s.acc m.epoch m.ballot).1).change)) ?_;refine tp (ke MsgT.zero (MsgT.mk 4 0 RowT.zero 0 m.epoch m.ballot (((bV s.acc m.epoch m.ballot).1).had) (((bV s.acc m.epoch m.ballot).1).change) ViewT.zero) [(0,[Value.int .i64 4]),(4,[Value.int .i64 m.epoch]),(5,ints m.ballot.flat),(6,ints (((bV s.acc m.epoch m.ballot).1).had).flat),(7,ints (((bV s.acc m.epoch m.ballot).1).change).flat)] bd bw (g:=MsgT.sg)) ?_;refine CZ iN (fZ V r s from' (kr m.epoch m.ballot (bV s.acc m.epoch m.ballot).1.had (bV s.acc m.epoch m.ballot).1.change) (λs_=>qF V.toDk s_ s_.id (kr m.epoch m.ballot (bV s.acc m.epoch m.ballot).1.had (bV s.acc m.epoch m.ballot).1.change)) (λ_=>qE V r s s.id (kr m.epoch m.ballot (bV s.acc m.epoch m.ballot).1.had (bV s.acc m.epoch m.ballot).1.change) (λ_=>hep) rfl)) ID λvR=>?_
 refine ap (WK [0] (br rfl ?_));exact MQ (by rw[pN,if_neg (by rw[h22];decide),if_neg h31];rfl);refine PS ?_;refine nx J4 (CY (ah (ae (WK [0] (dx rfl ?_)))));exact MQ (by rw[pN,if_pos h22]);refine DC bf (cR 1 rfl rfl) (BL 0) ?_;refine PD 0 ?_;refine PD 1 ?_;refine FD 2 1058 cW fD ?_;refine ta 3 rfl (fU (vs:=ints s.acc.flat) rfl oU rfl fD rfl (λ_ h=>h.2.1) (a9 s.acc) (λa_=>(xP (s.rep a_) 0 rfl (by decide) (whole (a9 ((s.rep a_).acc)))))) ?_;refine FD 4 177 bd aO ?_;refine LR 5 Y3 (ez m rfl) ?_;refine FD 6 178 bd cw ?_;refine ta 7 rfl (aK (vs:=ints m.ballot.flat) rfl jQ rfl cw rfl (λ_ h=>h.2.2.1) (aq m.ballot) (iF m 0 rfl (by decide) (whole (aq m.ballot)))) ?_;refine cx [8,12] (by kernel_rfl) rfl (aE rfl ?_ ?_);refine CE EM (m7 s.acc m.epoch m.ballot) ID ?_;refine EN (PD 9 ?_);refine PD 10 ?_;refine PD 11 ?_;refine q8 ?_ ?_<;>intro h21;refine AL 12 ?_;refine XZ GZ (ints AccT.zero.flat) λb8=>?_
 refine EN (AL 13 ?_);refine SW 0 fD a9 ?_;refine EN (PD 14 ?_);refine DN ?_
 exact aF
  (aX (aX (aX (aX (aX (bC rfl (by rw[h21]) SB))))))
  (λ_ s=>ak [2,1,0] rfl s)
  (tl2 ((b8):(Nat)) trivial)
 refine AL 12 ?_;refine XZ GZ (ints AccT.zero.flat) λb8=>?_
 refine EN (AL 13 ?_);refine SW 0 fD a9 ?_;refine EN (PD 14 ?_);refine DN ?_
 exact aF
  (aX (aX (aX (aX (aX (bC rfl (by rw[h21]) SB))))))
  (λ_ s=>ak [2,1,0] rfl s)
  (tl2 ((b8):(Nat)) trivial)
 refine aE rfl ?_ ?_;refine XZ GZ (ints AccT.zero.flat) λb8=>?_
 refine EN (AL 8 ?_);refine CE EM (m7 s.acc m.epoch m.ballot) ID ?_;refine EN (PD 9 ?_);refine PD 10 ?_;refine PD 11 ?_;refine q8 ?_ ?_<;>intro h21;refine AL 13 ?_;refine SW 0 fD a9 ?_;refine EN (PD 14 ?_);refine DN ?_
 exact aF
  (aX (aX (aX (aX (aX (bC rfl (by rw[h21]) SB))))))
  (λ_ s=>ak [2,1,0] rfl s)
  (tl2 ((b8):(Nat)) trivial)
 refine AL 13 ?_;refine SW 0 fD a9 ?_;refine EN (PD 14 ?_);refine DN ?_
 exact aF
  (aX (aX (aX (aX (aX (bC rfl (by rw[h21]) SB))))))
  (λ_ s=>ak [2,1,0] rfl s)
  (tl2 ((b8):(Nat)) trivial)
 exact bz
theorem vm{δ:Type}(V:Env δ)(r:Nat)(s:MS δ)(from':Int)(m:MsgT)[OkR V.toDk s][OkMg m](hfe:from'=s.id→m.epoch=s.view.epoch)(hk:m.kind=3):TK V r 82 s from' m (sS V.toDk s from' m):=nW (by omega) (ki V r s (pN V.toDk from' m) from' m hfe (λ_ hep=>xm V r (de s (max s.round m.ballot.round)) from' m hep) (λe _=>by omega) (λe=>by omega) (λe=>by omega))
theorem xt{δ:Type}(V:Env δ)(r vb:Nat)(s:MS δ)(vt:VoteT)(hv:s.vote=some vt)(hpt:vt.putting=false)[OkR V.toDk s][OkVt vt]:
 DT 92 #[(.pointer (some ⟨r,0,none⟩)),(.iface V.T V.ov)] T0 [uT V r s (.pointer (some ⟨vb,0,none⟩)),aj vb (VoteT.cells vt) 207] (c9 (λ_ H=>H=[cH V r (mC V.toDk s vt)])):=by
 refine BD 68 Tryz.func92 rfl rfl rfl λw0 F hF=>aa λ_ J1=>eT (α:=(Nat)) (λb4=>True) (λb4=>[(0,(.pointer (some ⟨r,0,none⟩))),(1,(.iface V.T V.ov)),(4,(.pointer (some ⟨b4,0,none⟩)))]) (λb4=>[uT V r s (.pointer (some ⟨vb,0,none⟩)),aj vb (VoteT.cells vt) 207,aj b4 (ints (fx s.view.epoch vt.ballot).flat) 163]) (λb4 hinv=>?_) (λtl1=>?_)
 have _:=hinv;refine ac J1 (aa λ_ J2=>sr λ_ J3=>P2 ?_);refine FA 1067 cW my ?_;refine LG 0 oO (.pointer (some ⟨vb,0,none⟩)) ?_ (hc:=by exact λa_=>(bW _ rfl));refine CE Km (nq vb vt) (SM [1]) ?_;refine bc ?_ ?_<;>intro h22
 · rw[hpt]at h22;cases h22
 refine nx J3 (CN (qx J2 (sr λ_ J4=>ce (H':=cH V r s::[aj b4 (ints (fx s.view.epoch vt.ballot).flat) 163]) (λ_ q=>nC hv (aA [1,0] rfl q)) (P2 ?_))));refine FA 2 cW be ?_;refine LZ 0 dS be an s.view ?_ (hc:=by exact λ_=>cO _);refine XZ rf (ints ViewT.zero.flat) λb5=>?_
 refine SW 0 be an ?_;refine nx J4 (aa λ_ J5=>sr λ_ J6=>PS ?_);refine nx J6 (am ?_)
 refine bu (α:=(Nat)) (λk=>k≤5) (λk=>[(0,(.pointer (some ⟨r,0,none⟩))),(1,(.iface V.T V.ov)),(4,(.pointer (some ⟨b4,0,none⟩))),(5,(.pointer (some ⟨b5,0,none⟩))),(34,(.int .i64 (((k:Nat):Int))))]) (λk=>[aj b5 (ints s.view.flat) 32,aj b4 (ints (fx s.view.epoch vt.ballot).flat) 163,cH V r (iA V.toDk s (nA s.id (fx s.view.epoch vt.ballot) (λi=>iB s.view ((i:Nat):Int)) k))]) (λk=>5-k) 0
  (aN _) SB
  (λ_ q=>by
  rw[show nA s.id (fx s.view.epoch vt.ballot) (λi=>iB s.view ((i:Nat):Int)) 0=[]from rfl,po]
  exact ak [0,1,0] rfl q) (λk hinv=>?_)
 obtain hk:=hinv;refine sr λ_ J7=>PS ?_
 refine ao ?_ ?_<;>intro h35;refine nx J7 (aa λ_ J8=>CY (qx J8 (aa λ_ J9=>am (sr λ_ J10=>P2 ?_))));refine nx J10 (sr λ_ J11=>P3 ?_);refine FA 0 cW aO ?_;refine LG 2 Y3 (.int .i64 (s.id)) ?_ (hc:=by exact λa_=>(cF _ rfl));refine PS ?_;refine ao ?_ ?_<;>intro h42;refine PS ?_;refine LW 0 dS be an ?_;refine PS ?_;refine CE px (dr s.view ((k:Nat):Int)) ID ?_;refine bc ?_ ?_<;>intro h46;refine PS ?_;refine nx J11 (CY (ad (P3 ?_)));refine LW 1 bd cf aG ?_;refine CZ iN (nv V r s (nA s.id (fx s.view.epoch vt.ballot) (λi=>iB s.view ((i:Nat):Int)) k) ((k:Nat):Int) (fx s.view.epoch vt.ballot) h42) (SM [2]) λvR=>?_
 refine ap (af (ac J9 (ad (AD ?_))));refine PS ?_;refine ap ?_
 exact aJ ((k+1):(Nat)) (by omega) (by show 5- (k+1)<5-k;omega)
  SB
  (λ_ q=>by
   rw[iq,if_pos ⟨h42,h46⟩]
   exact ak [1,1,0] rfl q)
 refine PS ?_;refine nx J11 (CN (aM (af (ac J9 (ad (AD ?_))))));refine PS ?_;refine ap ?_
 exact aJ ((k+1):(Nat)) (by omega) (by show 5- (k+1)<5-k;omega)
  SB
  (λ_ q=>by
   rw[iq,if_neg (λh=>by have:=h.2;rw[h46]at this;cases this)];rw[a8]
   exact ak [0,0,0] rfl q)
 refine PS ?_
 iterate 3 refine UF ?_
 refine PS ?_;refine nx J11 (CN (aM (af (ac J9 (ad (AD ?_))))));refine PS ?_;refine ap ?_
 exact aJ ((k+1):(Nat)) (by omega) (by show 5- (k+1)<5-k;omega)
  SB
  (λ_ q=>by
   rw[iq,if_neg (λh=>h42 h.1)];rw[a8]
   exact ak [0,0,0] rfl q)
 obtain rfl:k=5:=by omega
 refine nx J7 (aa λ_ J12=>CN (aV (ay (ay (bh (ac J5 (aa λ_ J13=>DC bf (BL 0) (cR 2 rfl rfl) ?_)))))));refine LY 0 dS be an ?_;refine PD 1 ?_;refine PD 2 ?_;refine FD 3 0 cW aO ?_;refine ta 4 rfl (c7 (v:=(.int .i64 ((jq V.toDk s (fx s.view.epoch vt.ballot)).id))) rfl Y3 rfl rfl (λ_ h=>h.2.2.1) (λa_=>(cF _ rfl))) ?_;refine AL 5 ?_;refine CE px (dr s.view ((jq V.toDk s (fx s.view.epoch vt.ballot)).id)) ID ?_;refine bc ?_ ?_<;>intro h59;refine EN (DN (ac J13 (CY (D1 1 bf ?_))));refine PD 0 ?_;refine PD 1 ?_;refine PD 2 ?_;refine PD 3 ?_;refine FD 4 0 cW aO ?_;refine LY 6 bd cf aG ?_;refine AL 5 ?_;refine LG 2 Y3 (.int .i64 ((jq V.toDk s (fx s.view.epoch vt.ballot)).id)) ?_ (hc:=by exact λa_=>(cF _ rfl));refine EN (AL 7 ?_);refine CZ iN (fZ V r (jq V.toDk s (fx s.view.epoch vt.ballot)) s.id (fx s.view.epoch vt.ballot) (λs_=>sS V.toDk s_ s_.id (fx s.view.epoch vt.ballot)) (λ_=>vm V r (jq V.toDk s (fx s.view.epoch vt.ballot)) s.id (fx s.view.epoch vt.ballot) (λ_=>rfl) rfl)) (SM [2]) λvR=>?_
 refine EN (DN (WK [0] (br rfl ?_)));exact MQ (by rw[mC,jw,if_pos (show iB s.view s.id=true from h59),m4,if_pos (show s.id=(jq V.toDk s (fx s.view.epoch vt.ballot)).id from rfl)]<;>rfl);refine EN (DN (ac J13 (CN (aM (WK [2] (br rfl ?_))))));exact MQ (by rw[mC,jw,if_neg (by rw[show iB s.view s.id=false from h59];decide)]<;>rfl);refine D1 1 bf ?_;refine PD 0 ?_;refine PD 1 ?_;refine FD 2 2 cW be ?_;refine FD 3 2 dS aO ?_;refine PD 5 ?_;refine PD 6 ?_;refine FD 7 1067 cW my ?_;refine cx [4,8,11] (by kernel_rfl) rfl (aE rfl ?_ ?_);refine LG 0 Y3 (.int .i64 (s.view.epoch)) ?_ (hc:=by exact λa_=>(cm (s.rep ⟨(a_:Nat×Value).1,(.pointer (some ⟨vb,0,none⟩)),a_.2⟩) 0 rfl (by decide) (aU _ rfl)));refine EN (cx [8,11] (by kernel_rfl) rfl (aE rfl ?_ ?_));refine LG 0 oO (.pointer (some ⟨vb,0,none⟩)) ?_ (hc:=by exact λa_=>(bW _ rfl));refine EN (cx [9,11] (by kernel_rfl) rfl (aE rfl ?_ ?_));refine CE jo (bJ vb vt) (SM [1]) ?_;refine EN (ta 10 rfl (ke MsgT.zero (MsgT.mk 3 0 RowT.zero 0 s.view.epoch vt.ballot BallotT.zero ChangeT.zero ViewT.zero) [(0,[Value.int .i64 3]),(4,[Value.int .i64 s.view.epoch]),(5,ints vt.ballot.flat)] bd bw (g:=MsgT.sg)) ?_);refine AL 11 ?_;refine XZ lX (ints MsgT.zero.flat) λb4=>?_
 refine EN (AL 12 ?_);refine SW 0 cf aG ?_;refine EN (DN ?_)
 exact aF
  SB
  (λ_ s=>ak [2,1,0] rfl s)
  (tl1 ((b4):(Nat)) trivial)
 refine aE rfl ?_ ?_;refine XZ lX (ints MsgT.zero.flat) λb4=>?_
 refine EN (AL 9 ?_);refine CE jo (bJ vb vt) (SM [2]) ?_;refine EN (ta 10 rfl (ke MsgT.zero (MsgT.mk 3 0 RowT.zero 0 s.view.epoch vt.ballot BallotT.zero ChangeT.zero ViewT.zero) [(0,[Value.int .i64 3]),(4,[Value.int .i64 s.view.epoch]),(5,ints vt.ballot.flat)] bd bw (g:=MsgT.sg)) ?_);refine AL 12 ?_;refine SW 1 cf aG ?_;refine EN (DN ?_)
 exact aF
  SB
  (λ_ s=>ak [2,0,0] rfl s)
  (tl1 ((b4):(Nat)) trivial)
 exact bz;refine aE rfl ?_ ?_;refine XZ lX (ints MsgT.zero.flat) λb4=>?_
 refine EN (AL 8 ?_);refine LG 1 oO (.pointer (some ⟨vb,0,none⟩)) ?_ (hc:=by exact λa_=>(bW _ rfl));refine EN (AL 9 ?_);refine CE jo (bJ vb vt) (SM [2]) ?_;refine EN (ta 10 rfl (ke MsgT.zero (MsgT.mk 3 0 RowT.zero 0 s.view.epoch vt.ballot BallotT.zero ChangeT.zero ViewT.zero) [(0,[Value.int .i64 3]),(4,[Value.int .i64 s.view.epoch]),(5,ints vt.ballot.flat)] bd bw (g:=MsgT.sg)) ?_);refine AL 12 ?_;refine SW 1 cf aG ?_;refine EN (DN ?_)
 exact aF
  SB
  (λ_ s=>ak [2,0,0] rfl s)
  (tl1 ((b4):(Nat)) trivial)
 exact bz;refine aE rfl ?_ ?_;refine LG 0 oO (.pointer (some ⟨vb,0,none⟩)) ?_ (hc:=by exact λa_=>(bW _ rfl));refine EN (cx [4,9,11] (by kernel_rfl) rfl (aE rfl ?_ ?_));refine LG 0 Y3 (.int .i64 (s.view.epoch)) ?_ (hc:=by exact λa_=>(cm (s.rep ⟨(a_:Nat×Value).1,(.pointer (some ⟨vb,0,none⟩)),a_.2⟩) 0 rfl (by decide) (aU _ rfl)));refine EN (cx [9,11] (by kernel_rfl) rfl (aE rfl ?_ ?_));refine CE jo (bJ vb vt) (SM [1]) ?_;refine EN (ta 10 rfl (ke MsgT.zero (MsgT.mk 3 0 RowT.zero 0 s.view.epoch vt.ballot BallotT.zero ChangeT.zero ViewT.zero) [(0,[Value.int .i64 3]),(4,[Value.int .i64 s.view.epoch]),(5,ints vt.ballot.flat)] bd bw (g:=MsgT.sg)) ?_);refine AL 11 ?_;refine XZ lX (ints MsgT.zero.flat) λb4=>?_
 refine EN (AL 12 ?_);refine SW 0 cf aG ?_;refine EN (DN ?_)
 exact aF
  SB
  (λ_ s=>ak [2,1,0] rfl s)
  (tl1 ((b4):(Nat)) trivial)
 refine aE rfl ?_ ?_;refine XZ lX (ints MsgT.zero.flat) λb4=>?_
 refine EN (AL 9 ?_);refine CE jo (bJ vb vt) (SM [2]) ?_;refine EN (ta 10 rfl (ke MsgT.zero (MsgT.mk 3 0 RowT.zero 0 s.view.epoch vt.ballot BallotT.zero ChangeT.zero ViewT.zero) [(0,[Value.int .i64 3]),(4,[Value.int .i64 s.view.epoch]),(5,ints vt.ballot.flat)] bd bw (g:=MsgT.sg)) ?_);refine AL 12 ?_;refine SW 1 cf aG ?_;refine EN (DN ?_)
 exact aF
  SB
  (λ_ s=>ak [2,0,0] rfl s)
  (tl1 ((b4):(Nat)) trivial)
 exact bz;refine aE rfl ?_ ?_;refine CE jo (bJ vb vt) (SM [1]) ?_;refine EN (cx [4,11] (by kernel_rfl) rfl (aE rfl ?_ ?_));refine LG 1 Y3 (.int .i64 (s.view.epoch)) ?_ (hc:=by exact λa_=>(cm (s.rep ⟨(a_:Nat×Value).1,(.pointer (some ⟨vb,0,none⟩)),a_.2⟩) 0 rfl (by decide) (aU _ rfl)));refine EN (ta 10 rfl (ke MsgT.zero (MsgT.mk 3 0 RowT.zero 0 s.view.epoch vt.ballot BallotT.zero ChangeT.zero ViewT.zero) [(0,[Value.int .i64 3]),(4,[Value.int .i64 s.view.epoch]),(5,ints vt.ballot.flat)] bd bw (g:=MsgT.sg)) ?_);refine AL 11 ?_;refine XZ lX (ints MsgT.zero.flat) λb4=>?_
 refine EN (AL 12 ?_);refine SW 0 cf aG ?_;refine EN (DN ?_)
 exact aF
  SB
  (λ_ s=>ak [2,1,0] rfl s)
  (tl1 ((b4):(Nat)) trivial)
 refine aE rfl ?_ ?_;refine XZ lX (ints MsgT.zero.flat) λb4=>?_
 refine EN (AL 4 ?_);refine LG 2 Y3 (.int .i64 (s.view.epoch)) ?_ (hc:=by exact λa_=>(cm (s.rep ⟨(a_:Nat×Value).1,(.pointer (some ⟨vb,0,none⟩)),a_.2⟩) 0 rfl (by decide) (aU _ rfl)));refine EN (ta 10 rfl (ke MsgT.zero (MsgT.mk 3 0 RowT.zero 0 s.view.epoch vt.ballot BallotT.zero ChangeT.zero ViewT.zero) [(0,[Value.int .i64 3]),(4,[Value.int .i64 s.view.epoch]),(5,ints vt.ballot.flat)] bd bw (g:=MsgT.sg)) ?_);refine AL 12 ?_;refine SW 0 cf aG ?_;refine EN (DN ?_)
 exact aF
  SB
  (λ_ s=>ak [2,1,0] rfl s)
  (tl1 ((b4):(Nat)) trivial)
 exact bz;refine aE rfl ?_ ?_;refine XZ lX (ints MsgT.zero.flat) λb4=>?_
 refine EN (cx [4,9] (by kernel_rfl) rfl (aE rfl ?_ ?_));refine LG 1 Y3 (.int .i64 (s.view.epoch)) ?_ (hc:=by exact λa_=>(cm (s.rep ⟨(a_:Nat×Value).1,(.pointer (some ⟨vb,0,none⟩)),a_.2⟩) 0 rfl (by decide) (aU _ rfl)));refine EN (AL 9 ?_);refine CE jo (bJ vb vt) (SM [2]) ?_;refine EN (ta 10 rfl (ke MsgT.zero (MsgT.mk 3 0 RowT.zero 0 s.view.epoch vt.ballot BallotT.zero ChangeT.zero ViewT.zero) [(0,[Value.int .i64 3]),(4,[Value.int .i64 s.view.epoch]),(5,ints vt.ballot.flat)] bd bw (g:=MsgT.sg)) ?_);refine AL 12 ?_;refine SW 1 cf aG ?_;refine EN (DN ?_)
 exact aF
  SB
  (λ_ s=>ak [2,0,0] rfl s)
  (tl1 ((b4):(Nat)) trivial)
 refine aE rfl ?_ ?_;refine CE jo (bJ vb vt) (SM [2]) ?_;refine EN (AL 4 ?_);refine LG 2 Y3 (.int .i64 (s.view.epoch)) ?_ (hc:=by exact λa_=>(cm (s.rep ⟨(a_:Nat×Value).1,(.pointer (some ⟨vb,0,none⟩)),a_.2⟩) 0 rfl (by decide) (aU _ rfl)));refine EN (ta 10 rfl (ke MsgT.zero (MsgT.mk 3 0 RowT.zero 0 s.view.epoch vt.ballot BallotT.zero ChangeT.zero ViewT.zero) [(0,[Value.int .i64 3]),(4,[Value.int .i64 s.view.epoch]),(5,ints vt.ballot.flat)] bd bw (g:=MsgT.sg)) ?_);refine AL 12 ?_;refine SW 1 cf aG ?_;refine EN (DN ?_)
 exact aF
  SB
  (λ_ s=>ak [2,0,0] rfl s)
  (tl1 ((b4):(Nat)) trivial)
 exact bz;exact bz;refine aE rfl ?_ ?_;refine XZ lX (ints MsgT.zero.flat) λb4=>?_
 refine EN (cx [4,8] (by kernel_rfl) rfl (aE rfl ?_ ?_));refine LG 1 Y3 (.int .i64 (s.view.epoch)) ?_ (hc:=by exact λa_=>(cm (s.rep ⟨(a_:Nat×Value).1,(.pointer (some ⟨vb,0,none⟩)),a_.2⟩) 0 rfl (by decide) (aU _ rfl)));refine EN (AL 8 ?_);refine LG 1 oO (.pointer (some ⟨vb,0,none⟩)) ?_ (hc:=by exact λa_=>(bW _ rfl));refine EN (AL 9 ?_);refine CE jo (bJ vb vt) (SM [2]) ?_;refine EN (ta 10 rfl (ke MsgT.zero (MsgT.mk 3 0 RowT.zero 0 s.view.epoch vt.ballot BallotT.zero ChangeT.zero ViewT.zero) [(0,[Value.int .i64 3]),(4,[Value.int .i64 s.view.epoch]),(5,ints vt.ballot.flat)] bd bw (g:=MsgT.sg)) ?_);refine AL 12 ?_;refine SW 1 cf aG ?_;refine EN (DN ?_)
 exact aF
  SB
  (λ_ s=>ak [2,0,0] rfl s)
  (tl1 ((b4):(Nat)) trivial)
 refine aE rfl ?_ ?_;refine LG 1 oO (.pointer (some ⟨vb,0,none⟩)) ?_ (hc:=by exact λa_=>(bW _ rfl));refine EN (cx [4,9] (by kernel_rfl) rfl (aE rfl ?_ ?_));refine LG 1 Y3 (.int .i64 (s.view.epoch)) ?_ (hc:=by exact λa_=>(cm (s.rep ⟨(a_:Nat×Value).1,(.pointer (some ⟨vb,0,none⟩)),a_.2⟩) 0 rfl (by decide) (aU _ rfl)));refine EN (AL 9 ?_);refine CE jo (bJ vb vt) (SM [2]) ?_;refine EN (ta 10 rfl (ke MsgT.zero (MsgT.mk 3 0 RowT.zero 0 s.view.epoch vt.ballot BallotT.zero ChangeT.zero ViewT.zero) [(0,[Value.int .i64 3]),(4,[Value.int .i64 s.view.epoch]),(5,ints vt.ballot.flat)] bd bw (g:=MsgT.sg)) ?_);refine AL 12 ?_;refine SW 1 cf aG ?_;refine EN (DN ?_)
 exact aF
  SB
  (λ_ s=>ak [2,0,0] rfl s)
  (tl1 ((b4):(Nat)) trivial)
 refine aE rfl ?_ ?_;refine CE jo (bJ vb vt) (SM [2]) ?_;refine EN (AL 4 ?_);refine LG 2 Y3 (.int .i64 (s.view.epoch)) ?_ (hc:=by exact λa_=>(cm (s.rep ⟨(a_:Nat×Value).1,(.pointer (some ⟨vb,0,none⟩)),a_.2⟩) 0 rfl (by decide) (aU _ rfl)));refine EN (ta 10 rfl (ke MsgT.zero (MsgT.mk 3 0 RowT.zero 0 s.view.epoch vt.ballot BallotT.zero ChangeT.zero ViewT.zero) [(0,[Value.int .i64 3]),(4,[Value.int .i64 s.view.epoch]),(5,ints vt.ballot.flat)] bd bw (g:=MsgT.sg)) ?_);refine AL 12 ?_;refine SW 1 cf aG ?_;refine EN (DN ?_)
 exact aF
  SB
  (λ_ s=>ak [2,0,0] rfl s)
  (tl1 ((b4):(Nat)) trivial)
 exact bz;exact bz;exact bz
theorem zD{δ:Type}(V:Env δ)(r:Nat)(s:MS δ)(vt:VoteT)(hv:s.vote=some vt)(hpt:vt.putting=false)[OkR V.toDk s]:DT 92 #[.pointer (some ⟨r,0,none⟩), .iface V.T V.ov] T0 [cH V r s] (c9 (λ_ H=>H=[cH V r (mC V.toDk s vt)])):=
 have:OkVt vt:=OkR.vote vt hv
 Leg.Does.ex (λ_ q=>mH hv q) λvb=>xt V r vb s vt hv hpt
theorem qL{δ:Type}(V:Env δ)(r:Nat)(s:MS δ)(vt:VoteT)(hv:s.vote=some vt)[OkR V.toDk s]:DT 92 #[.pointer (some ⟨r,0,none⟩), .iface V.T V.ov] T0 [cH V r s] (c9 (λ_ H=>H=[cH V r (oD V.toDk s vt)])):=by
 cases hp:vt.putting with
 |true=>rw[oD,if_pos hp];exact rU V r s vt hv hp
 |false=>rw[oD,if_neg (by rw[hp];decide)];exact zD V r s vt hv hp
theorem zg{δ:Type}(V:Env δ)(r:Nat)(s:MS δ)(from':Int)(m:MsgT)[OkR V.toDk s][OkMg m](hto:from'≠s.id)(hrs:s.replies.length≤1000000):TK V r 82 s from' m (gk V.toDk s from' m):=by
 have hfe:from'=s.id→m.epoch=s.view.epoch:=λe=>absurd e hto
 by_cases h3:m.kind=3
 · rw[gk];simp only[h3];exact vm V r s from' m hfe h3
 by_cases h4:m.kind=4
 · rw[gk];simp only[h4];exact qE V r s from' m hfe h4
 by_cases h5:m.kind=5
 · rw[gk];simp only[h5];exact vl V r s from' m hfe h5
 by_cases h6:m.kind=6
 · rw[gk];simp only[h6];exact qC V r s from' m hfe h6
 refine nX V r s _ from' m (λh=>?_) (λh=>?_) (λh=>?_) (λh=>?_) (λh=>?_) (λh=>?_) (λh=>by omega) (λh=>?_)
 · rw[gk,if_pos h];exact xk V r s from' m hto
 · rw[gk,if_neg (by omega),if_pos h];exact vk V r s from' m hrs
 · rw[gk,if_neg (by omega),if_neg (by omega),if_pos h]
 · rw[gk,if_neg (by omega),if_neg (by omega),if_neg (by omega),if_pos h];exact tX V r s m.view
 · rw[gk,if_neg (by omega),if_neg (by omega),if_neg (by omega),if_neg (by omega),if_pos h];exact vj V r s from' m
 · rw[gk,if_neg (by omega),if_neg (by omega),if_neg (by omega),if_neg (by omega),if_neg (by omega),if_pos h];exact nt V r s from' m
 · rw[gk,if_neg h.1,if_neg h.2.1,if_neg h.2.2.1,if_neg h.2.2.2.1,if_neg h.2.2.2.2.1,if_neg h.2.2.2.2.2.1,if_neg h3,if_neg h4,if_neg h5,if_neg h6]
theorem pL{δ:Type}(V:Env δ)(r:Nat)(s:MS δ)(c:ChangeT)[OkR V.toDk s][OkCh c]:
 DT 91 #[(.pointer (some ⟨r,0,none⟩)),(.agg (ints c.flat).toArray)] T0 [cH V r s] (RI (.int .i64 (cG V.toDk s c).2) [cH V r (cG V.toDk s c).1]):=by
 refine BD 66 Tryz.func91 rfl rfl rfl λw0 F hF=>sr λ_ J1=>XY (ints c.flat) λb3=>?_
 refine PS ?_;refine nx J1 (aa λ_ J2=>eT (α:=(Nat)) (λb5=>True) (λb5=>[(0,(.pointer (some ⟨r,0,none⟩))),(3,(.pointer (some ⟨b3,0,none⟩))),(4,(.int .i64 0)),(5,(.pointer (some ⟨b5,0,none⟩)))]) (λb5=>[cH V r s,aj b3 (ints c.flat) 61,aj b5 (ints (eC s).flat) 80]) (λb5 hinv=>?_) (λtl2=>?_));have _:=hinv;refine ac J2 (aa λ_ J3=>eT (α:=(Nat)) (λb6=>True) (λb6=>[(0,(.pointer (some ⟨r,0,none⟩))),(3,(.pointer (some ⟨b3,0,none⟩))),(4,(.int .i64 0)),(5,(.pointer (some ⟨b5,0,none⟩))),(6,(.pointer (some ⟨b6,0,none⟩))),(7,(.bool ((bV s.acc s.view.epoch (eC s)).2)))]) (λb6=>[cH V r s,aj b3 (ints c.flat) 61,aj b5 (ints (eC s).flat) 80,aj b6 (ints ((bV s.acc s.view.epoch (eC s)).1).flat) 82]) (λb6 hinv=>?_) (λtl3=>?_));have _:=hinv;refine ac J3 (aa λ_ J4=>sr λ_ J5=>PS ?_);refine bc ?_ ?_<;>intro h33;refine PS ?_;refine nx J5 (CN (qx J4 (aa λ_ J6=>aa λ_ J7=>DC bf (cR 0 rfl rfl) (BL 2) ?_)));refine PD 0 ?_;refine PD 1 ?_;refine PD 2 ?_;refine FD 3 2 cW be ?_;refine FD 4 2 dS aO ?_;refine ta 5 rfl (c7 (v:=(.int .i64 (s.view.epoch))) rfl Y3 rfl rfl (λ_ h=>h.2.1) (λa_=>(cm (s.rep a_) 0 rfl (by decide) (aU _ rfl)))) ?_;refine LY 6 jQ cw aq ?_;refine ta 7 rfl (ke RecT.zero (RecT.mk 3 0 RowT.zero s.view.epoch (eC s) ChangeT.zero ViewT.zero) [(0,[Value.int .i64 3]),(3,[Value.int .i64 s.view.epoch]),(4,ints (eC s).flat)] dT eU (g:=RecT.sg)) ?_;refine AL 8 ?_
 refine CE wk (kN V r s (gQ s.view.epoch (eC s))) ID ?_;refine EN (PD 9 ?_);refine DN (ac J7 (sr λ_ J8=>P2 ?_));refine ao ?_ ?_<;>intro h45;refine nx J8 (CY (sr λ_ J9=>P2 ?_));refine nx J9 (ah (ae (WK [0] (av rfl rfl ?_))));have e:cG V.toDk s c=(dZ V.toDk s (gQ s.view.epoch (eC s)),rT V.toDk s (gQ s.view.epoch (eC s))):=by rw[cG,if_neg (by rw[h33];decide),if_pos h45]
 exact jm e;refine Nr (H':=λvo:Value=>uT V r (dZ V.toDk s (gQ s.view.epoch (eC s))) vo::[aj b3 (ints c.flat) 61,aj b5 (ints (eC s).flat) 80,aj b6 (ints ((bV s.acc s.view.epoch (eC s)).1).flat) 82]) (λ_ q=>EQ q) (λvo=>nx J8 (CN (qx J6 (aa λ_ J10=>D2 3 2 bf ?_))));refine PD 0 ?_;refine PD 1 ?_;refine LY 2 oU fD a9 ?_;refine FD 3 0 jQ aO ?_;refine LX 4 Y3 (.int .i64 ((eC s).round)) ?_ (hc:=by exact eY _ rfl);refine PD 5 ?_;refine FD 6 1058 cW fD ?_;refine AL 7 ?_;refine gI (vs:=ints ((bV s.acc s.view.epoch (eC s)).1).flat) (i:=0) (ab rfl) rfl rfl rfl rfl rfl (by rw[(a9 ((bV s.acc s.view.epoch (eC s)).1))];exact fD) (bm _) rfl rfl (λ_=>LC (cQ _) (a9 _)) (λa_=>(kb ((dZ V.toDk s (gQ s.view.epoch (eC s))).rep ⟨(a_:Nat×Value).1,vo,a_.2⟩) 0 rfl (by have h1:=(a9 ((bV s.acc s.view.epoch (eC s)).1));omega) (cg ((a9 (((dZ V.toDk s (gQ s.view.epoch (eC s))).rep ⟨(a_:Nat×Value).1,vo,a_.2⟩).acc)).trans (a9 ((bV s.acc s.view.epoch (eC s)).1)).symm)))) (EN (PD 8 ?_));refine FD 9 1066 cW aO ?_;refine AL 10 ?_;refine SK 0 aO (λ_=>cQ _) ?_ (hc:=by exact λa_=>(lC _ rfl _));refine EN (DN (ac J10 (aa λ_ J11=>D2 2 1 bf ?_)));refine PD 0 ?_;refine PD 1 ?_;refine PD 2 ?_;refine FD 3 2 cW be ?_;refine LY 5 jQ cw aq ?_;refine LY 6 lW eZ aI ?_;refine AL 4 ?_;refine LZ 0 dS be an s.view ?_ (hc:=by exact λ_=>cO _);refine EN (AL 7 ?_);refine CR MV (y9 s.view (eC s) c) ID λvR HR hR=>?_
 obtain⟨vb,rfl,rfl⟩:=hR;refine EN (PD 8 ?_);refine FD 9 1067 cW my ?_;refine AL 10 ?_;refine SK 1 my (λ_=>cQ _) ?_ (hc:=by exact λa_=>(OL _ rfl _));refine EN (DN (ac J11 (sr λ_ J12=>PS ?_)));refine nx J12 (ah (aF (H':=[cH V r (qZ V.toDk s c)]) (cZ _) (λ_ q=>nB (ak [1,0] rfl q)) (av rfl rfl ?_)));have e:cG V.toDk s c=(qZ V.toDk s c,0):=by rw[cG,if_neg (by rw[h33];decide),if_neg h45]
 exact jm e;refine PS ?_;refine nx J5 (CY (sr λ_ J13=>PS ?_));refine nx J13 (ah (ae (WK [0] (av rfl rfl ?_))));have e:cG V.toDk s c=(s,6):=if_pos h33;exact jm e;refine DC bf (cR 0 rfl rfl) (BL 2) ?_;refine PD 0 ?_;refine PD 1 ?_;refine FD 2 1058 cW fD ?_;refine ta 3 rfl (fU (vs:=ints s.acc.flat) rfl oU rfl fD rfl (λ_ h=>h.2.1) (a9 s.acc) (λa_=>(xP (s.rep a_) 0 rfl (by decide) (whole (a9 ((s.rep a_).acc)))))) ?_;refine PD 4 ?_;refine PD 5 ?_;refine FD 6 2 cW be ?_;refine FD 7 2 dS aO ?_;refine ta 8 rfl (c7 (v:=(.int .i64 (s.view.epoch))) rfl Y3 rfl rfl (λ_ h=>h.2.1) (λa_=>(cm (s.rep a_) 0 rfl (by decide) (aU _ rfl)))) ?_;refine LY 9 jQ cw aq ?_;refine cx [10,14] (by kernel_rfl) rfl (aE rfl ?_ ?_);refine CE EM (m7 s.acc s.view.epoch (eC s)) ID ?_;refine EN (PD 11 ?_);refine PD 12 ?_;refine PD 13 ?_;refine q8 ?_ ?_<;>intro h32;refine AL 14 ?_;refine XZ GZ (ints AccT.zero.flat) λb6=>?_
 refine EN (AL 15 ?_);refine SW 0 fD a9 ?_;refine EN (PD 16 ?_);refine DN ?_
 exact aF
  (aX (aX (aX (aX (aX (bC rfl (by rw[h32]) SB))))))
  (λ_ s=>ak [1,1,1,0] rfl s)
  (tl3 ((b6):(Nat)) trivial)
 refine AL 14 ?_;refine XZ GZ (ints AccT.zero.flat) λb6=>?_
 refine EN (AL 15 ?_);refine SW 0 fD a9 ?_;refine EN (PD 16 ?_);refine DN ?_
 exact aF
  (aX (aX (aX (aX (aX (bC rfl (by rw[h32]) SB))))))
  (λ_ s=>ak [1,1,1,0] rfl s)
  (tl3 ((b6):(Nat)) trivial)
 refine aE rfl ?_ ?_;refine XZ GZ (ints AccT.zero.flat) λb6=>?_
 refine EN (AL 10 ?_);refine CE EM (m7 s.acc s.view.epoch (eC s)) ID ?_;refine EN (PD 11 ?_);refine PD 12 ?_;refine PD 13 ?_;refine q8 ?_ ?_<;>intro h32;refine AL 15 ?_;refine SW 0 fD a9 ?_;refine EN (PD 16 ?_);refine DN ?_
 exact aF
  (aX (aX (aX (aX (aX (bC rfl (by rw[h32]) SB))))))
  (λ_ s=>ak [1,1,1,0] rfl s)
  (tl3 ((b6):(Nat)) trivial)
 refine AL 15 ?_;refine SW 0 fD a9 ?_;refine EN (PD 16 ?_);refine DN ?_
 exact aF
  (aX (aX (aX (aX (aX (bC rfl (by rw[h32]) SB))))))
  (λ_ s=>ak [1,1,1,0] rfl s)
  (tl3 ((b6):(Nat)) trivial)
 exact bz;refine DB bf (cR 1 rfl rfl) ?_;refine PD 0 ?_;refine PD 1 ?_;refine FD 2 1066 cW aO ?_;refine ta 3 rfl (c7 (v:=(.int .i64 (s.round))) rfl Y3 rfl rfl (λ_ h=>h.2.1) (λa_=>(uI _ rfl))) ?_;refine ta 4 rfl (bv (r:=(gm (s.round+1))) rfl rfl rfl rfl) ?_;refine PD 5 ?_;refine PD 6 ?_;refine FD 7 0 cW aO ?_;refine ta 8 rfl (c7 (v:=(.int .i64 (s.id))) rfl Y3 rfl rfl (λ_ h=>h.2.1) (λa_=>(cF _ rfl))) ?_;refine ta 9 rfl (ke BallotT.zero (BallotT.mk (gm (s.round+1)) s.id) [(0,[Value.int .i64 (gm (s.round+1))]),(1,[Value.int .i64 s.id])] jQ NG (g:=BallotT.sg)) ?_;refine AL 10 ?_;refine XZ NI (ints BallotT.zero.flat) λb5=>?_
 refine EN (AL 11 ?_);refine SW 0 cw aq ?_;refine EN (DN ?_)
 exact aF
  SB
  (λ_ s=>ak [2,1,0] rfl s)
  (tl2 ((b5):(Nat)) trivial)
theorem Ag{δ:Type}(V:Env δ)(r:Nat)(s:MS δ)(op:Int)(c:ChangeT)[OkR V.toDk s][OkCh c](hrs:s.replies.length≤1000000)(hv:s.vote=none):
 DT 72 #[(.pointer (some ⟨r,0,none⟩)),(.iface V.T V.ov),(.int .i64 (op)),(.agg (ints c.flat).toArray)] T0 [cH V r s] (RI (.int .i64 (dW V.toDk s op c).2) [cH V r (dW V.toDk s op c).1]):=by
 refine BD 44 Tryz.func72 rfl rfl rfl λw0 F hF=>sr λ_ J1=>XY (ints c.flat) λb7=>?_
 refine PS ?_;refine nx J1 (aa λ_ J2=>eT (α:=Unit) (λ_u=>True) (λ_u=>[(0,(.pointer (some ⟨r,0,none⟩))),(1,(.iface V.T V.ov)),(2,(.int .i64 (op))),(7,(.pointer (some ⟨b7,0,none⟩))),(8,(.int .i64 0)),(10,(.int .i64 ((dL s.view c).2)))]) (λ_u=>[cH V r s,aj b7 (ints c.flat) 61]) (λ_u hinv=>?_) (λtl2=>?_));have _:=hinv;refine ac J2 (aa λ_ J3=>sr λ_ J4=>ce (H':=uT V r s (.pointer none)::[aj b7 (ints c.flat) 61]) (λ_ q=>rZ hv q) (P2 ?_));refine ao ?_ ?_<;>intro h21;refine P3 ?_;refine FA 1067 cW my ?_;refine LG 0 oO (.pointer none) ?_ (hc:=by exact λa_=>(bW _ rfl));refine tq (iE rfl oO rfl rfl) ?_;refine PS ?_;refine nx J4 (CN (qx J3 (aa λ_ J5=>sr λ_ J6=>ce (H':=cH V r s::[aj b7 (ints c.flat) 61]) (λ_ q=>nD hv (aA [0] rfl q)) (P2 ?_))));refine ao ?_ ?_<;>intro h30;refine nx J6 (CY (ad (PS ?_)));refine LW 1 lW eZ aI ?_;refine CE KW (pL V r s c) ID ?_;refine PS ?_;refine nx J5 (sr λ_ J7=>P3 ?_);refine CZ td (eP V r ((cG V.toDk s c).1) op ((cG V.toDk s c).2) 0 (by first|exact hrs| (rw[iu];exact hrs))) ID λvR=>?_
 refine nx J7 (aa λ_ J8=>sr λ_ J9=>P2 ?_);refine ao ?_ ?_<;>intro h39;refine nx J9 (CY (ad (P2 ?_)));refine CZ Ju (qL V r (dA ((cG V.toDk s c).1) op ((cG V.toDk s c).2) 0) (jO s.view (eC s) c) (qY h39)) ID λvR=>?_
 refine nx J8 (sr λ_ J10=>P2 ?_);refine nx J10 (ah (WK [0] (av rfl rfl ?_)));have e:dW V.toDk s op c=((oD V.toDk (dA ((cG V.toDk s c).1) op ((cG V.toDk s c).2) 0) (jO s.view (eC s) c)),(cG V.toDk s c).2):=by rw[dW,show fK s c=(dL s.view c).2 by rw[fK,if_neg (λh=>by rw[hv]at h;exact absurd h.2 (by decide))],if_neg (by rw[h30];decide),if_neg (by rw[h39];decide),h39]
 exact jm e;refine nx J9 (CN (qx J8 (sr λ_ J11=>P2 ?_)));refine nx J11 (ah (WK [0] (av rfl rfl ?_)));have e:dW V.toDk s op c=((dA ((cG V.toDk s c).1) op ((cG V.toDk s c).2) 0),(cG V.toDk s c).2):=by rw[dW,show fK s c=(dL s.view c).2 by rw[fK,if_neg (λh=>by rw[hv]at h;exact absurd h.2 (by decide))],if_neg (by rw[h30];decide),if_pos h39]
 exact jm e;refine nx J6 (CN (qx J5 (sr λ_ J12=>P3 ?_)));refine CZ td (eP V r s op ((dL s.view c).2) 0 (by first|exact hrs| (rw[iu];exact hrs))) ID λvR=>?_
 refine nx J12 (aa λ_ J13=>sr λ_ J14=>P2 ?_);refine ao ?_ ?_<;>intro h39
 · exact absurd h39 h30
 refine nx J14 (CN (qx J13 (sr λ_ J15=>P2 ?_)));refine nx J15 (ah (WK [0] (av rfl rfl ?_)));have e:dW V.toDk s op c=((dA s op ((dL s.view c).2) 0),(dL s.view c).2):=by rw[dW,show fK s c=(dL s.view c).2 by rw[fK,if_neg (λh=>h30 h.1)]];exact if_pos (by exact h30)
 exact jm e;refine PS ?_
 iterate 5 refine UF ?_
 refine PS ?_;refine nx J4 (CN (qx J3 (aa λ_ J16=>sr λ_ J17=>ce (H':=cH V r s::[aj b7 (ints c.flat) 61]) (λ_ q=>nD hv (aA [0] rfl q)) (P2 ?_))));refine ao ?_ ?_<;>intro h30;refine nx J17 (CY (ad (PS ?_)));refine LW 1 lW eZ aI ?_;refine CE KW (pL V r s c) ID ?_;refine PS ?_;refine nx J16 (sr λ_ J18=>P3 ?_);refine CZ td (eP V r ((cG V.toDk s c).1) op ((cG V.toDk s c).2) 0 (by first|exact hrs| (rw[iu];exact hrs))) ID λvR=>?_
 refine nx J18 (aa λ_ J19=>sr λ_ J20=>P2 ?_);refine ao ?_ ?_<;>intro h39;refine nx J20 (CY (ad (P2 ?_)));refine CZ Ju (qL V r (dA ((cG V.toDk s c).1) op ((cG V.toDk s c).2) 0) (jO s.view (eC s) c) (qY h39)) ID λvR=>?_
 refine nx J19 (sr λ_ J21=>P2 ?_);refine nx J21 (ah (WK [0] (av rfl rfl ?_)));have e:dW V.toDk s op c=((oD V.toDk (dA ((cG V.toDk s c).1) op ((cG V.toDk s c).2) 0) (jO s.view (eC s) c)),(cG V.toDk s c).2):=by rw[dW,show fK s c=(dL s.view c).2 by rw[fK,if_neg (λh=>by rw[hv]at h;exact absurd h.2 (by decide))],if_neg (by rw[h30];decide),if_neg (by rw[h39];decide),h39]
 exact jm e;refine nx J20 (CN (qx J19 (sr λ_ J22=>P2 ?_)));refine nx J22 (ah (WK [0] (av rfl rfl ?_)));have e:dW V.toDk s op c=((dA ((cG V.toDk s c).1) op ((cG V.toDk s c).2) 0),(cG V.toDk s c).2):=by rw[dW,show fK s c=(dL s.view c).2 by rw[fK,if_neg (λh=>by rw[hv]at h;exact absurd h.2 (by decide))],if_neg (by rw[h30];decide),if_pos h39]
 exact jm e;refine nx J17 (CN (qx J16 (sr λ_ J23=>P3 ?_)));refine CZ td (eP V r s op ((dL s.view c).2) 0 (by first|exact hrs| (rw[iu];exact hrs))) ID λvR=>?_
 refine nx J23 (aa λ_ J24=>sr λ_ J25=>P2 ?_);refine ao ?_ ?_<;>intro h39
 · exact absurd h39 h30
 refine nx J25 (CN (qx J24 (sr λ_ J26=>P2 ?_)));refine nx J26 (ah (WK [0] (av rfl rfl ?_)));have e:dW V.toDk s op c=((dA s op ((dL s.view c).2) 0),(dL s.view c).2):=by rw[dW,show fK s c=(dL s.view c).2 by rw[fK,if_neg (λh=>h30 h.1)]];exact if_pos (by exact h30)
 exact jm e;refine DC bf (cR 1 rfl rfl) (BL 0) ?_;refine PD 0 ?_;refine PD 1 ?_;refine FD 2 2 cW be ?_;refine ta 3 rfl (fU (vs:=ints s.view.flat) rfl dS rfl be rfl (λ_ h=>h.2.1) (an s.view) (λa_=>(fO (s.rep a_) 0 rfl (by decide) (whole (an ((s.rep a_).view)))))) ?_;refine LY 4 lW eZ aI ?_;refine cx [5,9] (by kernel_rfl) rfl (aE rfl ?_ ?_);refine CE mF (dh s.view c OkVw.rng) ID ?_;refine EN (PD 6 ?_);refine PD 7 ?_;refine PD 8 ?_;refine AL 9 ?_;refine XZ rf (ints ViewT.zero.flat) λb9=>?_
 refine EN (AL 10 ?_);refine SW 0 be an ?_;refine EN (PD 11 ?_);refine DN ?_
 exact aF
  SB
  (λ_ s=>ak [2,1] rfl s)
  (tl2 (():Unit) trivial)
 refine aE rfl ?_ ?_;refine XZ rf (ints ViewT.zero.flat) λb9=>?_
 refine EN (AL 5 ?_);refine CE mF (dh s.view c OkVw.rng) ID ?_;refine EN (PD 6 ?_);refine PD 7 ?_;refine PD 8 ?_;refine AL 10 ?_;refine SW 0 be an ?_;refine EN (PD 11 ?_);refine DN ?_
 exact aF
  SB
  (λ_ s=>ak [2,1] rfl s)
  (tl2 (():Unit) trivial)
 exact bz
theorem Af{δ:Type}(V:Env δ)(r:Nat)(s:MS δ)(vt:VoteT)(op:Int)(c:ChangeT)[OkR V.toDk s][OkCh c](hrs:s.replies.length≤1000000)(hv:s.vote=some vt):
 DT 72 #[(.pointer (some ⟨r,0,none⟩)),(.iface V.T V.ov),(.int .i64 (op)),(.agg (ints c.flat).toArray)] T0 [cH V r s] (RI (.int .i64 (dW V.toDk s op c).2) [cH V r (dW V.toDk s op c).1]):=by
 refine BD 44 Tryz.func72 rfl rfl rfl λw0 F hF=>sr λ_ J1=>XY (ints c.flat) λb7=>?_
 refine PS ?_;refine nx J1 (aa λ_ J2=>eT (α:=Unit) (λ_u=>True) (λ_u=>[(0,(.pointer (some ⟨r,0,none⟩))),(1,(.iface V.T V.ov)),(2,(.int .i64 (op))),(7,(.pointer (some ⟨b7,0,none⟩))),(8,(.int .i64 0)),(10,(.int .i64 ((dL s.view c).2)))]) (λ_u=>[cH V r s,aj b7 (ints c.flat) 61]) (λ_u hinv=>?_) (λtl2=>?_));have _:=hinv;refine ac J2 (aa λ_ J3=>sr λ_ J4=>Nr (H':=λvb:Nat=>uT V r s (.pointer (some ⟨vb,0,none⟩))::aj vb (VoteT.cells vt) 207::[aj b7 (ints c.flat) 61]) (λ_ q=>mH hv q) (λvb=>P2 ?_));refine ao ?_ ?_<;>intro h21;refine P3 ?_;refine FA 1067 cW my ?_;refine LG 0 oO (.pointer (some ⟨vb,0,none⟩)) ?_ (hc:=by exact λa_=>(bW _ rfl));refine tq (fy rfl oO rfl rfl) ?_;refine PS ?_;refine nx J4 (CY (ad (ce (H':=cH V r s::[aj b7 (ints c.flat) 61]) (λ_ q=>nC hv (aA [0,0] rfl q)) (PS ?_))));refine nx J3 (aa λ_ J5=>sr λ_ J6=>P2 ?_);refine nx J6 (CN (qx J5 (sr λ_ J7=>P3 ?_)));refine CZ td (eP V r s op 8 0 (by first|exact hrs| (rw[iu];exact hrs))) ID λvR=>?_
 refine nx J7 (aa λ_ J8=>sr λ_ J9=>P2 ?_);refine nx J9 (CN (qx J8 (sr λ_ J10=>P2 ?_)));refine nx J10 (ah (WK [0] (av rfl rfl ?_)));have e:dW V.toDk s op c=((dA s op 8 0),8):=by rw[dW,show fK s c=8 by rw[fK,if_pos ⟨h21,by rw[hv];rfl⟩]];exact if_pos (by decide)
 exact jm e;refine PS ?_
 iterate 5 refine UF ?_
 refine PS ?_;refine nx J4 (CN (qx J3 (aa λ_ J11=>sr λ_ J12=>ce (H':=cH V r s::[aj b7 (ints c.flat) 61]) (λ_ q=>nC hv (aA [0,0] rfl q)) (P2 ?_))));refine ao ?_ ?_<;>intro h30
 · exact absurd h30 (by first|decide|exact h21)
 refine nx J12 (CN (qx J11 (sr λ_ J13=>P3 ?_)));refine CZ td (eP V r s op ((dL s.view c).2) 0 (by first|exact hrs| (rw[iu];exact hrs))) ID λvR=>?_
 refine nx J13 (aa λ_ J14=>sr λ_ J15=>P2 ?_);refine ao ?_ ?_<;>intro h39
 · exact absurd h39 (by first|decide|exact h30)
 refine nx J15 (CN (qx J14 (sr λ_ J16=>P2 ?_)));refine nx J16 (ah (WK [0] (av rfl rfl ?_)));have e:dW V.toDk s op c=((dA s op ((dL s.view c).2) 0),(dL s.view c).2):=by rw[dW,show fK s c=(dL s.view c).2 by rw[fK,if_neg (λh=>h30 h.1)]];exact if_pos (by exact h30)
 exact jm e;refine DC bf (cR 1 rfl rfl) (BL 0) ?_;refine PD 0 ?_;refine PD 1 ?_;refine FD 2 2 cW be ?_;refine ta 3 rfl (fU (vs:=ints s.view.flat) rfl dS rfl be rfl (λ_ h=>h.2.1) (an s.view) (λa_=>(fO (s.rep a_) 0 rfl (by decide) (whole (an ((s.rep a_).view)))))) ?_;refine LY 4 lW eZ aI ?_;refine cx [5,9] (by kernel_rfl) rfl (aE rfl ?_ ?_);refine CE mF (dh s.view c OkVw.rng) ID ?_;refine EN (PD 6 ?_);refine PD 7 ?_;refine PD 8 ?_;refine AL 9 ?_;refine XZ rf (ints ViewT.zero.flat) λb9=>?_
 refine EN (AL 10 ?_);refine SW 0 be an ?_;refine EN (PD 11 ?_);refine DN ?_
 exact aF
  SB
  (λ_ s=>ak [2,1] rfl s)
  (tl2 (():Unit) trivial)
 refine aE rfl ?_ ?_;refine XZ rf (ints ViewT.zero.flat) λb9=>?_
 refine EN (AL 5 ?_);refine CE mF (dh s.view c OkVw.rng) ID ?_;refine EN (PD 6 ?_);refine PD 7 ?_;refine PD 8 ?_;refine AL 10 ?_;refine SW 0 be an ?_;refine EN (PD 11 ?_);refine DN ?_
 exact aF
  SB
  (λ_ s=>ak [2,1] rfl s)
  (tl2 (():Unit) trivial)
 exact bz
theorem Ae{δ:Type}(V:Env δ)(r:Nat)(s:MS δ)(op:Int)(c:ChangeT)[OkR V.toDk s][OkCh c](hrs:s.replies.length≤1000000):DT 72 #[.pointer (some ⟨r,0,none⟩), .iface V.T V.ov, .int .i64 op, .agg (ints c.flat).toArray] T0 [cH V r s] (RI (.int .i64 (dW V.toDk s op c).2) [cH V r (dW V.toDk s op c).1]):=by
 cases hv:s.vote with
 |none=>exact Ag V r s op c hrs hv
 |some vt=>exact Af V r s vt op c hrs hv
theorem vW{δ:Type}(V:Env δ)(r:Nat)(s:MS δ)(o:OpT):DT 73 #[.pointer (some ⟨r,0,none⟩), .agg (ints o.flat).toArray] T0 [cH V r s] (RI (.tuple #[.agg (ints (db s o).1.flat).toArray, .int .i64 (db s o).2.1, .int .i64 (db s o).2.2]) [cH V r s]):=Leg.Does.hid (λa=>F2 r (s.rep a) o)
theorem Aa{δ:Type}(V:Env δ)(r:Nat)(s:MS δ)(o:OpT)[OkR V.toDk s][OkCh o.change](hrs:s.replies.length≤1000000):
 DT 45 #[(.pointer (some ⟨r,0,none⟩)),(.iface V.T V.ov),(.agg (ints o.flat).toArray)] T0 [cH V r s] (RI (.int .i64 (cj V.toDk s o).2) [cH V r (cj V.toDk s o).1]):=by
 refine BD 74 Tryz.func45 rfl rfl rfl λw0 F hF=>sr λ_ J1=>XY (ints o.flat) λb5=>?_
 refine PS ?_;refine nx J1 (sr λ_ J2=>P2 ?_);refine FA 1941 cW aO ?_;refine LG 1 Y3 (.int .i64 (s.ops)) ?_ (hc:=by exact λa_=>(RepT.at_ops _ rfl));refine tp (bv (r:=(gm (s.ops+1))) rfl rfl rfl rfl) ?_;refine PS ?_;refine FA 1941 cW aO ?_;refine SK 1 aO (λ_=>cQ _) ?_ (hc:=by exact λa_=>(RepT.set_ops _ rfl _));refine nx J2 (sr λ_ J3=>P2 ?_);refine FA 1941 cW aO ?_;refine LG 1 Y3 (.int .i64 ((bQ s).ops)) ?_ (hc:=by exact λa_=>(RepT.at_ops _ rfl));refine PS ?_;refine nx J3 (aa λ_ J4=>aa λ_ J5=>DC bf (cR 1 rfl rfl) (BL 0) ?_);refine PD 0 ?_;refine PD 1 ?_;refine FD 2 2 cW be ?_;refine ta 3 rfl (fU (vs:=ints ((bQ s).view).flat) rfl dS rfl be rfl (λ_ h=>h.2.1) (an ((bQ s).view)) (λa_=>(fO ((bQ s).rep a_) 0 rfl (by decide) (whole (an (((bQ s).rep a_).view)))))) ?_;refine PD 4 ?_;refine PD 5 ?_;refine FD 6 0 cW aO ?_;refine ta 7 rfl (c7 (v:=(.int .i64 ((bQ s).id))) rfl Y3 rfl rfl (λ_ h=>h.2.1) (λa_=>(cF _ rfl))) ?_;refine AL 8 ?_;refine CE px (dr ((bQ s).view) ((bQ s).id)) ID ?_;refine bc ?_ ?_<;>intro h30;refine EN (PD 9 ?_);refine FD 10 0 eI aO ?_;refine LR 11 Y3 (cB o rfl) ?_;refine PD 12 ?_;refine jh ?_ ?_<;>intro h34;refine PD 13 ?_;refine DN (ac J5 (CY (sr λ_ J6=>P3 ?_)));refine FA 5 eI eZ ?_;refine LV 0 lW eZ aI OpT.sp_change (y:=o.change) ?_;refine CE N5 (Ae V r (bQ s) ((bQ s).ops) o.change hrs) (SM [1]) ?_;refine PS ?_;refine nx J6 (ah (ae (WK [0] (av rfl rfl ?_))))
 have e:cj V.toDk s o=((dW V.toDk (bQ s) ((bQ s).ops) o.change).1,(dW V.toDk (bQ s) (bQ s).ops o.change).2):=by rw[cj,show iB s.view s.id=true from h30,decide_eq_true h34,if_pos (by rfl)]
 exact jm e;refine PD 13 ?_;refine DN (ac J5 (CN (qx J4 (sr λ_ J7=>PS ?_))));refine LW 0 eI qG gq ?_;refine CE Mm (vW V r (bQ s) o) (SM [1]) ?_;refine P4 ?_;refine XZ tx (ints RowT.zero.flat) λb8=>?_
 refine SW 0 ba ai ?_;refine P2 ?_;refine nx J7 (aa λ_ J8=>sr λ_ J9=>P2 ?_);refine ao ?_ ?_<;>intro h50;refine PS ?_
 iterate 3 refine UT ?_
 refine PS ?_;refine nx J9 (CY (sr λ_ J10=>P4 ?_));refine CZ td (eP V r (bQ s) ((bQ s).ops) ((db (bQ s) o).2.2) ((db (bQ s) o).2.1) (by first|exact hrs| (rw[jd];exact hrs))) (SM [1]) λvR=>?_
 refine nx J10 (sr λ_ J11=>P2 ?_);refine nx J11 (ah (ae (WK [0] (av rfl rfl ?_))));have e:cj V.toDk s o=((dA (bQ s) ((bQ s).ops) ((db (bQ s) o).2.2) ((db (bQ s) o).2.1)),(db (bQ s) o).2.2):=by rw[cj,show iB s.view s.id=true from h30,decide_eq_false h34,if_neg (by decide),ow,if_pos (.inl h50)]
 exact jm e;refine PS ?_;refine FA 0 eI aO ?_;refine LU 2 Y3 (cB o rfl) ?_;refine PS ?_;refine ao ?_ ?_<;>intro h54;refine PS ?_;refine nx J9 (CY (sr λ_ J12=>P4 ?_));refine CZ td (eP V r (bQ s) ((bQ s).ops) ((db (bQ s) o).2.2) ((db (bQ s) o).2.1) (by first|exact hrs| (rw[jd];exact hrs))) (SM [1]) λvR=>?_
 refine nx J12 (sr λ_ J13=>P2 ?_);refine nx J13 (ah (ae (WK [0] (av rfl rfl ?_))));have e:cj V.toDk s o=((dA (bQ s) ((bQ s).ops) ((db (bQ s) o).2.2) ((db (bQ s) o).2.1)),(db (bQ s) o).2.2):=by rw[cj,show iB s.view s.id=true from h30,decide_eq_false h34,if_neg (by decide),ow,if_pos (.inr h54)]
 exact jm e;refine PS ?_;refine nx J9 (CN (qx J8 (aa λ_ J14=>sr λ_ J15=>P2 ?_)));refine LW 0 dI ba ai ?_;refine PS ?_;refine CE K6 (qU V r (bQ s) ((db (bQ s) o).1) ((bQ s).ops)) (SM [1]) ?_;refine PS ?_;refine nx J15 (sr λ_ J16=>P2 ?_);refine ao ?_ ?_<;>intro h68;refine nx J16 (CY (ad (P3 ?_)));refine CZ td (eP V r ((eS V.toDk (bQ s) ((db (bQ s) o).1) ((bQ s).ops)).1) ((bQ s).ops) ((eS V.toDk (bQ s) ((db (bQ s) o).1) ((bQ s).ops)).2) 0 (by first|exact hrs| (rw[jd];exact hrs))) ID λvR=>?_
 refine nx J14 (sr λ_ J17=>P2 ?_);refine nx J17 (ah (WK [0] (av rfl rfl ?_)));have e:cj V.toDk s o=((dA ((eS V.toDk (bQ s) ((db (bQ s) o).1) ((bQ s).ops)).1) ((bQ s).ops) ((eS V.toDk (bQ s) ((db (bQ s) o).1) ((bQ s).ops)).2) 0),(eS V.toDk (bQ s) (db (bQ s) o).1 (bQ s).ops).2):=by rw[cj,show iB s.view s.id=true from h30,decide_eq_false h34,if_neg (by decide),ow,if_neg (λh=>h.elim (λh=>h50 h) (λh=>h54 h)),if_pos h68]
 exact jm e;refine nx J16 (CN (qx J14 (sr λ_ J18=>P2 ?_)));refine nx J18 (ah (WK [0] (av rfl rfl ?_)));have e:cj V.toDk s o=((eS V.toDk (bQ s) ((db (bQ s) o).1) ((bQ s).ops)).1,(eS V.toDk (bQ s) (db (bQ s) o).1 (bQ s).ops).2):=by rw[cj,show iB s.view s.id=true from h30,decide_eq_false h34,if_neg (by decide),ow,if_neg (λh=>h.elim (λh=>h50 h) (λh=>h54 h)),if_neg h68,show(eS V.toDk (bQ s) (db (bQ s) o).1 (bQ s).ops).2=0 from Decidable.not_not.1 h68]
 exact jm e;refine EN (PD 9 ?_);refine NT 10 ?_;refine NT 11 ?_;refine NT 12 ?_;refine PD 13 ?_;refine DN (ac J5 (CN (qx J4 (sr λ_ J19=>PS ?_))));refine LW 0 eI qG gq ?_;refine CE Mm (vW V r (bQ s) o) (SM [1]) ?_;refine P4 ?_;refine XZ tx (ints RowT.zero.flat) λb8=>?_
 refine SW 0 ba ai ?_;refine P2 ?_;refine nx J19 (aa λ_ J20=>sr λ_ J21=>P2 ?_);refine ao ?_ ?_<;>intro h50;refine PS ?_
 iterate 3 refine UT ?_
 refine PS ?_;refine nx J21 (CY (sr λ_ J22=>P4 ?_));refine CZ td (eP V r (bQ s) ((bQ s).ops) ((db (bQ s) o).2.2) ((db (bQ s) o).2.1) (by first|exact hrs| (rw[jd];exact hrs))) (SM [1]) λvR=>?_
 refine nx J22 (sr λ_ J23=>P2 ?_);refine nx J23 (ah (ae (WK [0] (av rfl rfl ?_))));have e:cj V.toDk s o=((dA (bQ s) ((bQ s).ops) ((db (bQ s) o).2.2) ((db (bQ s) o).2.1)),(db (bQ s) o).2.2):=by rw[cj,show iB s.view s.id=false from h30,if_neg (by rw[gC];decide),ow,if_pos (.inl h50)]
 exact jm e;refine PS ?_;refine FA 0 eI aO ?_;refine LU 2 Y3 (cB o rfl) ?_;refine PS ?_;refine ao ?_ ?_<;>intro h54;refine PS ?_;refine nx J21 (CY (sr λ_ J24=>P4 ?_));refine CZ td (eP V r (bQ s) ((bQ s).ops) ((db (bQ s) o).2.2) ((db (bQ s) o).2.1) (by first|exact hrs| (rw[jd];exact hrs))) (SM [1]) λvR=>?_
 refine nx J24 (sr λ_ J25=>P2 ?_);refine nx J25 (ah (ae (WK [0] (av rfl rfl ?_))));have e:cj V.toDk s o=((dA (bQ s) ((bQ s).ops) ((db (bQ s) o).2.2) ((db (bQ s) o).2.1)),(db (bQ s) o).2.2):=by rw[cj,show iB s.view s.id=false from h30,if_neg (by rw[gC];decide),ow,if_pos (.inr h54)]
 exact jm e;refine PS ?_;refine nx J21 (CN (qx J20 (aa λ_ J26=>sr λ_ J27=>P2 ?_)));refine LW 0 dI ba ai ?_;refine PS ?_;refine CE K6 (qU V r (bQ s) ((db (bQ s) o).1) ((bQ s).ops)) (SM [1]) ?_;refine PS ?_;refine nx J27 (sr λ_ J28=>P2 ?_);refine ao ?_ ?_<;>intro h68;refine nx J28 (CY (ad (P3 ?_)));refine CZ td (eP V r ((eS V.toDk (bQ s) ((db (bQ s) o).1) ((bQ s).ops)).1) ((bQ s).ops) ((eS V.toDk (bQ s) ((db (bQ s) o).1) ((bQ s).ops)).2) 0 (by first|exact hrs| (rw[jd];exact hrs))) ID λvR=>?_
 refine nx J26 (sr λ_ J29=>P2 ?_);refine nx J29 (ah (WK [0] (av rfl rfl ?_)));have e:cj V.toDk s o=((dA ((eS V.toDk (bQ s) ((db (bQ s) o).1) ((bQ s).ops)).1) ((bQ s).ops) ((eS V.toDk (bQ s) ((db (bQ s) o).1) ((bQ s).ops)).2) 0),(eS V.toDk (bQ s) (db (bQ s) o).1 (bQ s).ops).2):=by rw[cj,show iB s.view s.id=false from h30,if_neg (by rw[gC];decide),ow,if_neg (λh=>h.elim (λh=>h50 h) (λh=>h54 h)),if_pos h68]
 exact jm e;refine nx J28 (CN (qx J26 (sr λ_ J30=>P2 ?_)));refine nx J30 (ah (WK [0] (av rfl rfl ?_)));have e:cj V.toDk s o=((eS V.toDk (bQ s) ((db (bQ s) o).1) ((bQ s).ops)).1,(eS V.toDk (bQ s) (db (bQ s) o).1 (bQ s).ops).2):=by rw[cj,show iB s.view s.id=false from h30,if_neg (by rw[gC];decide),ow,if_neg (λh=>h.elim (λh=>h50 h) (λh=>h54 h)),if_neg h68,show(eS V.toDk (bQ s) (db (bQ s) o).1 (bQ s).ops).2=0 from Decidable.not_not.1 h68]
 exact jm e
end Go.Proofs.YtfocodjhmkokpaaGreatDoor
end
