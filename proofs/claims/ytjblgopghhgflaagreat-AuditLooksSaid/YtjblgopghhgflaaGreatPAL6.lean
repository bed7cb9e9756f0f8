/-
  Joined texts:what a statement's proof reaches.
-/
import Derived.Test.YtjblgopghhgflaaGreatPAL5
set_option maxHeartbeats 8000000
set_option maxRecDepth 100000
set_option linter.unusedSimpArgs false
set_option linter.unusedVariables false
section
namespace Go.Proofs.YtjblgopghhgflaaGreat
open Go Leg Codec Api Dsk Wal
theorem xn{δ:Type}(V:Env δ)(r:Nat)(s:MS δ)[OkR V.toDk s](hrs:s.replies.length≤1000000):
 DT 169 #[(.pointer (some ⟨r,0,none⟩)),(.iface V.T V.ov)] T0 [cC V r s] (c9 (λ_ H=>H=[cC V r (lx V.toDk s)])):=by
 refine BD 43 Tryz.func169 rfl rfl rfl λw0 F hF=>sr λ_ J1=>P2 ?_
 refine FA 1938 bg ka ?_;refine SK 0 ka (λ_=>cK _) ?_ (hc:=by exact λa_=>(NX _ rfl _));refine nx J1 (ab λ_ J2=>eV (α:=Unit) (λ_u=>True) (λ_u=>[(0,(.pointer (some ⟨r,0,none⟩))),(1,(.iface V.T V.ov))]) (λ_u=>[cC V r (gA s)]) (λ_u hinv=>?_) (λtl2=>?_));have _:=hinv;refine ac J2 (ab λ_ J3=>eV (α:=Unit) (λ_u=>True) (λ_u=>[(0,(.pointer (some ⟨r,0,none⟩))),(1,(.iface V.T V.ov))]) (λ_u=>[cC V r (lW (gA s))]) (λ_u hinv=>?_) (λtl3=>?_));have _:=hinv;refine ac J3 (sr λ_ J4=>P4 ?_);refine FA 9 bg aZ ?_;refine LZ 0 dN aZ ah ((lW (gA s)).own) ?_ (hc:=by exact λ_=>BZ _);refine CZ Hi (mz V r (lW (gA s)) ((lW (gA s)).own)) ID λvR=>?_
 refine nx J4 (ad (P2 ?_));refine CZ Ei (oA V r (mj V.toDk (lW (gA s)) ((lW (gA s)).own))) ID λvR=>?_
 exact ap (WK [0] (bz rfl rfl));refine sr λ_ J5=>P2 ?_
 refine FA 1940 bg aP ?_;refine LG 0 Y3 (.int .i64 ((gA s).waits)) ?_ (hc:=by exact λa_=>(RepT.at_waits _ rfl));refine PS ?_;refine an ?_ ?_<;>intro h23;refine nx J5 (CY (sr λ_ J6=>P3 ?_));refine FA 1940 bg aP ?_;refine LG 0 Y3 (.int .i64 ((gA s).waits)) ?_ (hc:=by exact λa_=>(RepT.at_waits _ rfl));refine CZ s6 (eR V r (gA s) ((gA s).waits) 0 0 hrs) ID λvR=>?_
 refine nx J6 (ad (P2 ?_));refine FA 1940 bg aP ?_;refine SK 0 aP (λ_=>cK _) ?_ (hc:=by exact λa_=>(RepT.set_waits _ rfl _));refine ap ?_
 exact aF
  SB
  (λ_ q=>by
   rw[xL h23]
   exact ak [0] rfl q)
  (tl3 (():Unit) trivial)
 refine nx J5 (CN (aQ ?_))
 exact aF
  SB
  (λ_ q=>by
   rw[xM h23]
   exact ak [0] rfl q)
  (tl3 (():Unit) trivial)
 refine D0 bh ?_;refine PD 0 ?_;refine PD 1 ?_;refine FD 2 1068 bg u6 ?_;refine PD 3 ?_;refine PD 4 ?_;refine FD 5 0 bg aP ?_;refine PD 7 ?_;refine PD 8 ?_;refine FD 9 9 bg aZ ?_;refine cw [6,10] (by kernel_rfl) rfl (aE rfl ?_ ?_);refine LG 0 Y3 (.int .i64 (s.id)) ?_ (hc:=by exact λa_=>(cx _ rfl));refine EN (AL 10 ?_);refine LZ 0 dN aZ ah s.own ?_ (hc:=by exact λ_=>BZ _);refine EN (AL 11 ?_);refine CE IG (Leg.Does.hid (λa_=>kA r 1068 123 _ (gv ((MS.setBusy s false).rep a_)) (MS.setBusy s false).book s.id s.own (H7 inferInstance))) ID ?_;refine EN (DN ?_)
 exact aF
  SB
  (λ_ s=>ak [0] rfl s)
  (tl2 (():Unit) trivial)
 refine aE rfl ?_ ?_;refine LZ 0 dN aZ ah s.own ?_ (hc:=by exact λ_=>BZ _);refine EN (AL 6 ?_);refine LG 0 Y3 (.int .i64 (s.id)) ?_ (hc:=by exact λa_=>(cx _ rfl));refine EN (AL 11 ?_);refine CE IG (Leg.Does.hid (λa_=>kA r 1068 123 _ (gv ((MS.setBusy s false).rep a_)) (MS.setBusy s false).book s.id s.own (H7 inferInstance))) ID ?_;refine EN (DN ?_)
 exact aF
  SB
  (λ_ s=>ak [0] rfl s)
  (tl2 (():Unit) trivial)
 exact bw
theorem uY{δ:Type}(V:Env δ)(r:Nat)(s:MS δ)(from':Int)(m:MsgT)[OkR V.toDk s](hrs:s.replies.length≤1000000):
 DT 144 #[(.pointer (some ⟨r,0,none⟩)),(.iface V.T V.ov),(.int .i64 (from')),(.agg (ints m.flat).toArray)] T0 [cC V r s] (c9 (λ_ H=>H=[cC V r (dF V.toDk s from' m)])):=by
 refine BD 64 Tryz.func144 rfl rfl rfl λw0 F hF=>?_
 have hid:cF s.id=true:=OkR.id;have hid2:0≤s.id∧s.id<5:=of_decide_eq_true hid;refine sr λ_ J1=>XY (ints m.flat) λb7=>?_
 refine nx J1 (sr λ_ J2=>P2 ?_);refine FA 0 bg aP ?_;refine LG 1 Y3 (.int .i64 (s.id)) ?_ (hc:=by exact λa_=>(cx _ rfl));refine CR G4 (pX s.id hid) ID λvR HR hR=>?_
 obtain⟨_,rfl,rfl⟩:=hR;revert vR;intro uw;refine kD 0 rfl rfl (λhluw _=>jJ 0 rfl rfl (by omega) (λgw capw hvw hcapw=>PS ?_));refine nx J2 (ab λ_ J3=>ab λ_ J4=>DC bh (cL 2 rfl rfl) (BL 1) ?_);refine PD 0 ?_;refine PD 1 ?_;refine FD 2 1938 bg ka ?_;refine ta 3 rfl (cY (v:=(.bool (s.busy))) rfl Y4 rfl rfl (λ_ h=>h.2.1) (λa_=>(xB _ rfl))) ?_;refine kM ?_ ?_<;>intro h19;refine PD 4 ?_;refine PD 5 ?_;refine FD 6 176 a9 aP ?_;refine LR 7 Y3 (MsgT.at_version m rfl) ?_;refine PD 8 ?_;refine PD 9 ?_;refine FD 10 9 bg aZ ?_;refine FD 11 9 dN aP ?_;refine tb 12 rfl (cY (v:=(.int .i64 (s.own.version))) rfl Y3 rfl rfl (λ_ h=>h.2.1) (λa_=>(RepT.pt_own (s.rep a_) 0 rfl (by decide) (cB _ rfl)))) ?_;refine PD 13 ?_;refine gR ?_ ?_<;>intro h29;refine PD 14 ?_;refine PD 15 ?_;refine NT 16 ?_;refine NT 17 ?_;refine NT 18 ?_;refine NT 19 ?_;refine PD 20 ?_;refine DN (ac J4 (CY (ai (ae (WK [2] (dz rfl ?_))))));have ew:gE s.id=[(s.id+1)%5,(s.id+2)%5]:=by rw[gE,if_pos hid]
 have e:kS s from' m.version=false:=by rw[kS,ew,decide_eq_false h29,gx,lJ]
 exact congrArg (λq=>[cC V r q]) (show s=dF V.toDk s from' m by rw[dF,e];rfl);refine PD 14 ?_;refine PD 15 ?_;refine PD 16 ?_;refine PD 17 ?_;refine AL 18 ?_;refine CF Jw (qm uw [(s.id+1)%5,(s.id+2)%5] from' (by decide:2≤1000000)) ID (Er (l:=[(s.id+1)%5,(s.id+2)%5]) 0 rfl rfl) ?_;refine an ?_ ?_<;>intro h34;have hmem:=h34;simp only[cn,List.not_mem_nil,or_false]at hmem;have hfr:0≤from'∧from'<5:=by omega
 refine EN (PD 19 ?_);refine PD 20 ?_;refine DN (ac J4 (CN (qx J3 (ab λ_ J5=>D0 bh ?_))));refine PD 0 ?_;refine PD 1 ?_;refine FD 2 1939 bg aP ?_;refine PD 4 ?_;refine ta 5 rfl (xC (r:=(cU from')) rfl rfl rfl (by omega) rfl) ?_;refine AL 3 ?_;refine LG 2 Y3 (.int .i64 (s.kept)) ?_ (hc:=by exact λa_=>(qZ _ rfl));refine EN (ta 6 rfl (H4 (r:=(iu .i64 s.kept (cU from'))) rfl rfl rfl rfl) ?_);refine PD 7 ?_;refine FD 8 1939 bg aP ?_;refine AL 9 ?_;refine SK 2 aP (λ_=>cK _) ?_ (hc:=by exact λa_=>(NW _ rfl _));refine EN (DN (ac J5 (ab λ_ J6=>sr λ_ J7=>PS ?_)));refine tp (dX rfl jZ rfl hluw) ?_;refine PS ?_;refine nx J7 (aq (ra 2 (sr λ_ J8=>PS ?_)));refine nx J8 (ab λ_ J9=>CY (qx J9 (ab λ_ J10=>aq (sr λ_ J11=>tp (bS (r:=0) hvw rfl jZ aP rfl rfl (by omega) (by omega) rfl) ?_))));refine tp (cX (v:=(.int .i64 (((s.id+1)%5)))) rfl Y3 rfl rfl (fU 0 rfl hvw rfl) rfl) ?_;refine PS ?_;refine nx J11 (sr λ_ J12=>P2 ?_);refine FA 1939 bg aP ?_;refine LG 2 Y3 (.int .i64 ((iu .i64 s.kept (cU from')))) ?_ (hc:=by exact λa_=>(qZ _ rfl));refine PS ?_;refine tp (lD (r:=((iu .i64 s.kept (cU from')).fdiv (2^min (((s.id+1)%5)).toNat IntKind.i64.bits))) rfl rfl rfl (by omega) rfl) ?_;refine tp (uu (r:=(((iu .i64 s.kept (cU from')).fdiv (2^min (((s.id+1)%5)).toNat IntKind.i64.bits))%2)) rfl rfl rfl (mask (k:=1) (by decide) _)) ?_;refine PS ?_;refine an ?_ ?_<;>intro h59
 refine nx J12 (CY (ai (aH (ae (ae (aH (ae (WK [2] (dz rfl ?_)))))))));have ew:gE s.id=[(s.id+1)%5,(s.id+2)%5]:=by rw[gE,if_pos hid]
 have e:kS s from' m.version=true:=by rw[kS,h19,ew,decide_eq_true (show m.version=s.own.version by omega),decide_eq_true h34];rfl
 have e2:wl (iB s from')=false:=by rw[wl,show gE (iB s from').id=[(s.id+1)%5,(s.id+2)%5]from ew];simp only[List.all_cons,List.all_nil,zR,iB, *,decide_true,decide_false,N2,MZ,N3,uy,gx,lJ]
 exact congrArg (λq=>[cC V r q]) (show(MS.setKept s (iu .i64 s.kept (cU from')))=dF V.toDk s from' m by rw[dF,e,e2];rfl);refine nx J12 (CN (aQ (af (ac J10 (ad (tp (cg (r:=1) rfl rfl rfl (by decide)) ?_))))));refine PS ?_;refine ap (ei (sr λ_ J13=>PS ?_));refine nx J13 (ab λ_ J14=>CY (qx J14 (ab λ_ J15=>aq (sr λ_ J16=>tp (bS (r:=1) hvw rfl jZ aP rfl rfl (by omega) (by omega) rfl) ?_))));refine tp (cX (v:=(.int .i64 (((s.id+2)%5)))) rfl Y3 rfl rfl (fU 0 rfl hvw rfl) rfl) ?_;refine PS ?_;refine nx J16 (sr λ_ J17=>P2 ?_);refine FA 1939 bg aP ?_;refine LG 2 Y3 (.int .i64 ((iu .i64 s.kept (cU from')))) ?_ (hc:=by exact λa_=>(qZ _ rfl));refine PS ?_;refine tp (lD (r:=((iu .i64 s.kept (cU from')).fdiv (2^min (((s.id+2)%5)).toNat IntKind.i64.bits))) rfl rfl rfl (by omega) rfl) ?_;refine tp (uu (r:=(((iu .i64 s.kept (cU from')).fdiv (2^min (((s.id+2)%5)).toNat IntKind.i64.bits))%2)) rfl rfl rfl (mask (k:=1) (by decide) _)) ?_;refine PS ?_;refine an ?_ ?_<;>intro h59;refine nx J17 (CY (ai (aH (ae (ae (aH (ae (WK [2] (dz rfl ?_)))))))));have ew:gE s.id=[(s.id+1)%5,(s.id+2)%5]:=by rw[gE,if_pos hid]
 have e:kS s from' m.version=true:=by rw[kS,h19,ew,decide_eq_true (show m.version=s.own.version by omega),decide_eq_true h34];rfl
 have e2:wl (iB s from')=false:=by rw[wl,show gE (iB s from').id=[(s.id+1)%5,(s.id+2)%5]from ew];simp only[List.all_cons,List.all_nil,zR,iB, *,decide_true,decide_false,N2,MZ,N3,uy,gx,lJ]
 exact congrArg (λq=>[cC V r q]) (show(MS.setKept s (iu .i64 s.kept (cU from')))=dF V.toDk s from' m by rw[dF,e,e2];rfl);refine nx J17 (CN (aQ (af (ac J15 (ad (tp (cg (r:=2) rfl rfl rfl (by decide)) ?_))))));refine PS ?_;refine ap (ei (sr λ_ J18=>PS ?_));refine nx J18 (ab λ_ J19=>CN (aS (ay (ay (bj (ac J6 (ad (P2 ?_))))))));refine CZ L8 (xn V r (iB s from') hrs) (SM [2]) λvR=>?_
 refine ap (WK [0] (bz rfl ?_));have ew:gE s.id=[(s.id+1)%5,(s.id+2)%5]:=by rw[gE,if_pos hid]
 have e:kS s from' m.version=true:=by rw[kS,h19,ew,decide_eq_true (show m.version=s.own.version by omega),decide_eq_true h34];rfl
 have e2:wl (iB s from')=true:=by rw[wl,show gE (iB s from').id=[(s.id+1)%5,(s.id+2)%5]from ew];simp only[List.all_cons,List.all_nil,zR,iB, *,decide_true,decide_false,N2,MZ,N3,uy,gx,lJ]
 exact congrArg (λq=>[cC V r q]) (show(lx V.toDk (iB s from'))=dF V.toDk s from' m by rw[dF,e,e2];rfl);refine EN (PD 19 ?_);refine PD 20 ?_;refine DN (ac J4 (CY (ai (ae (WK [2] (dz rfl ?_))))));have ew:gE s.id=[(s.id+1)%5,(s.id+2)%5]:=by rw[gE,if_pos hid]
 have e:kS s from' m.version=false:=by rw[kS,ew,decide_eq_false h34];simp
 exact congrArg (λq=>[cC V r q]) (show s=dF V.toDk s from' m by rw[dF,e];rfl);refine PD 4 ?_;refine PD 5 ?_;refine NT 6 ?_;refine NT 7 ?_;refine NT 8 ?_;refine NT 9 ?_;refine NT 10 ?_;refine NT 11 ?_;refine NT 12 ?_;refine NT 13 ?_;refine PD 14 ?_;refine PD 15 ?_;refine NT 16 ?_;refine NT 17 ?_;refine NT 18 ?_;refine NT 19 ?_;refine PD 20 ?_;refine DN (ac J4 (CY (ai (ae (WK [2] (dz rfl ?_))))));have ew:gE s.id=[(s.id+1)%5,(s.id+2)%5]:=by rw[gE,if_pos hid]
 have e:kS s from' m.version=false:=by rw[kS,ew,h19];simp
 exact congrArg (λq=>[cC V r q]) (show s=dF V.toDk s from' m by rw[dF,e];rfl)
theorem w3{δ:Type}(V:Env δ)(r:Nat)(s:MS δ)(from':Int)(m:MsgT)[OkR V.toDk s][OkMg m](hto:from'≠s.id):
 DT 143 #[(.pointer (some ⟨r,0,none⟩)),(.iface V.T V.ov),(.int .i64 (from')),(.agg (ints m.flat).toArray)] T0 [cC V r s] (c9 (λ_ H=>H=[cC V r (iM V.toDk s from' m)])):=by
 refine BD 56 Tryz.func143 rfl rfl rfl λw0 F hF=>sr λ_ J1=>XY (ints m.flat) λb7=>?_
 refine nx J1 (ab λ_ J2=>ab λ_ J3=>D1 0 bh ?_);refine FD 0 1 a9 aP ?_;refine LR 1 Y3 (ce m rfl) ?_;refine PD 2 ?_;refine PD 3 ?_;refine gR ?_ ?_<;>intro h11;refine PD 4 ?_;refine NT 5 ?_;refine NT 6 ?_;refine NT 7 ?_;refine NT 8 ?_;refine NT 9 ?_;refine NT 10 ?_;refine PD 11 ?_;refine DN (ac J3 (CY (ai (ae (WK [1] (dz rfl ?_))))));exact congrArg (λq=>[cC V r q]) (show _=iM V.toDk s from' m from(if_pos (.inl (by omega))).symm);refine PD 4 ?_;refine PD 5 ?_;refine PD 6 ?_;refine FD 7 183 bg nF ?_;refine FD 8 1 a9 aP ?_;refine LR 9 Y3 (ce m rfl) ?_;refine AL 10 ?_;refine CE Ko (Leg.Does.hid (λa_=>mJ r 183 123 _ (dR (s.rep a_)) s.mirror m.whose)) (SM [1]) ?_;refine aW ?_ ?_<;>intro h18;refine EN (PD 11 ?_);refine DN (ac J3 (CY (ai (ae (WK [0] (dz rfl ?_))))));exact congrArg (λq=>[cC V r q]) (show _=iM V.toDk s from' m from(if_pos (.inr h18)).symm);refine EN (PD 11 ?_);refine DN (ac J3 (CN (qx J2 (ab λ_ J4=>ab λ_ J5=>D1 1 bh ?_))));refine PD 0 ?_;refine PD 1 ?_;refine FD 2 183 bg nF ?_;refine FD 3 1 a9 aP ?_;refine LR 4 Y3 (ce m rfl) ?_;refine FD 5 2 a9 aZ ?_;refine ta 6 rfl (aM (vs:=ints m.row.flat) rfl dN rfl aZ rfl (λ_ h=>h.2.1) (ah m.row) (lV m 0 rfl (by decide) (whole (ah m.row)))) ?_;refine AL 7 ?_;refine CE Jy (Leg.Does.hid (λa_=>qh r 183 123 _ (dR (s.rep a_)) s.mirror m.whose m.row (H7 inferInstance))) ID ?_;refine aW ?_ ?_<;>intro h27;refine EN (DN (ac J5 (CY (ab λ_ J6=>sr λ_ J7=>PS ?_))))
 refine FA 1 a9 aP ?_;refine LU 1 Y3 (ce m rfl) ?_;refine FA 2 a9 aZ ?_;refine LV 1 dN aZ ah MsgT.sp_row (y:=m.row) ?_;refine tp (kO RecT.zero (RecT.mk 1 m.whose m.row 0 BallotT.zero ChangeT.zero ViewT.zero) [(0,[Value.int .i64 1]),(1,[Value.int .i64 m.whose]),(2,ints m.row.flat)] iI eW (g:=RecT.sg)) ?_;refine CE vL (kQ V r s (jW m.whose m.row)) ID ?_;refine PS ?_;refine an ?_ ?_<;>intro h35;refine nx J7 (CY (ai (ae (ae (WK [0] (dz rfl ?_))))));have hn: ¬(m.whose≠from'∨e8 s.mirror m.whose=true):=λh=>h.elim (λh=>by omega) (λh=>by rw[h18]at h;cases h)
 exact MQ (by rw[iM,if_neg hn,if_pos h27,if_pos h35]<;>rfl);refine nx J7 (CN (qx J6 (D1 1 bh ?_)));refine PD 0 ?_;refine PD 1 ?_;refine FD 2 183 bg nF ?_;refine FD 3 1 a9 aP ?_;refine LR 4 Y3 (ce m rfl) ?_;refine FD 5 2 a9 aZ ?_;refine ta 6 rfl (aM (vs:=ints m.row.flat) rfl dN rfl aZ rfl (λ_ h=>h.2.1) (ah m.row) (lV m 0 rfl (by decide) (whole (ah m.row)))) ?_;refine AL 7 ?_;refine CE JH (Leg.Does.hid (λa_=>rV r 183 123 _ (dR ((ef V.toDk s (jW m.whose m.row)).rep a_)) (ef V.toDk s (jW m.whose m.row)).mirror m.whose m.row (H7 inferInstance))) ID ?_;refine EN (DN (ac J4 (D1 1 bh ?_)));refine PD 0 ?_;refine PD 1 ?_;refine PD 2 ?_;refine PD 3 ?_;refine PD 4 ?_;refine FD 5 183 bg nF ?_;refine FD 6 1 a9 aP ?_;refine LR 7 Y3 (ce m rfl) ?_;refine AL 8 ?_;refine CE G2 (Leg.Does.hid (λa_=>lu r 183 123 _ (dR ((iz (ef V.toDk s (jW m.whose m.row)) m.whose m.row).rep a_)) (iz (ef V.toDk s (jW m.whose m.row)) m.whose m.row).mirror m.whose)) ID ?_;refine EN (ta 9 rfl (PV.field1 (cs:=ints (c7 (iz (ef V.toDk s (jW m.whose m.row)) m.whose m.row).mirror m.whose).flat) (v:=Value.int .i64 ((c7 (iz (ef V.toDk s (jW m.whose m.row)) m.whose m.row).mirror m.whose).version)) rfl dN rfl Y3 rfl rfl (cB _ rfl)) ?_)
 refine ta 10 rfl (kO MsgT.zero (MsgT.mk 1 0 RowT.zero ((c7 (iz (ef V.toDk s (jW m.whose m.row)) m.whose m.row).mirror m.whose).version) 0 BallotT.zero BallotT.zero ChangeT.zero ViewT.zero) [(0,[Value.int .i64 1]),(3,[Value.int .i64 ((c7 (iz (ef V.toDk s (jW m.whose m.row)) m.whose m.row).mirror m.whose).version)])] a9 bo (g:=MsgT.sg)) ?_;refine AL 11 ?_;refine CZ iT (jh V r (iz (ef V.toDk s (jW m.whose m.row)) m.whose m.row) from' (rZ (c7 (iz (ef V.toDk s (jW m.whose m.row)) m.whose m.row).mirror m.whose).version) hto) ID λvR=>?_
 refine EN (DN (WK [0] (bz rfl ?_)));have hn: ¬(m.whose≠from'∨e8 s.mirror m.whose=true):=λh=>h.elim (λh=>by omega) (λh=>by rw[h18]at h;cases h)
 exact MQ (by rw[iM,if_neg hn,if_pos h27,if_neg h35]<;>rfl);refine EN (DN (ac J5 (CN (qx J4 (D1 1 bh ?_)))));refine PD 0 ?_;refine PD 1 ?_;refine PD 2 ?_;refine PD 3 ?_;refine PD 4 ?_;refine FD 5 183 bg nF ?_;refine FD 6 1 a9 aP ?_;refine LR 7 Y3 (ce m rfl) ?_;refine AL 8 ?_;refine CE G2 (Leg.Does.hid (λa_=>lu r 183 123 _ (dR (s.rep a_)) s.mirror m.whose)) ID ?_;refine EN (ta 9 rfl (PV.field1 (cs:=ints (c7 s.mirror m.whose).flat) (v:=Value.int .i64 ((c7 s.mirror m.whose).version)) rfl dN rfl Y3 rfl rfl (cB _ rfl)) ?_);refine ta 10 rfl (kO MsgT.zero (MsgT.mk 1 0 RowT.zero ((c7 s.mirror m.whose).version) 0 BallotT.zero BallotT.zero ChangeT.zero ViewT.zero) [(0,[Value.int .i64 1]),(3,[Value.int .i64 ((c7 s.mirror m.whose).version)])] a9 bo (g:=MsgT.sg)) ?_;refine AL 11 ?_;refine CZ iT (jh V r s from' (rZ (c7 s.mirror m.whose).version) hto) ID λvR=>?_
 refine EN (DN (WK [0] (bz rfl ?_)));have hn: ¬(m.whose≠from'∨e8 s.mirror m.whose=true):=λh=>h.elim (λh=>by omega) (λh=>by rw[h18]at h;cases h)
 exact MQ (by rw[iM,if_neg hn,if_neg (by rw[h27];decide)]<;>rfl)
theorem nD{δ:Type}(V:Env δ)(r:Nat)(s:MS δ)(from':Int)(m:MsgT)[OkR V.toDk s][OkMg m]:
 DT 147 #[(.pointer (some ⟨r,0,none⟩)),(.iface V.T V.ov),(.int .i64 (from')),(.agg (ints m.flat).toArray)] T0 [cC V r s] (c9 (λ_ H=>H=[cC V r (fS V.toDk s from' m)])):=by
 refine BD 59 Tryz.func147 rfl rfl rfl λw0 F hF=>sr λ_ J1=>XY (ints m.flat) λb7=>?_
 refine nx J1 (ab λ_ J2=>eV (α:=Unit) (λ_u=>True) (λ_u=>[(0,(.pointer (some ⟨r,0,none⟩))),(1,(.iface V.T V.ov))]) (λ_u=>[cC V r (if from'∈gE m.whose then uU s from' m.whose m.row else s)]) (λ_u hinv=>?_) (λtl2=>?_));have _:=hinv;refine ac J2 (ad (P2 ?_));refine CZ Ei (oA V r (if from'∈gE m.whose then uU s from' m.whose m.row else s)) ID λvR=>?_
 exact ap (WK [0] (bz rfl rfl));refine sr λ_ J3=>FA 1 a9 aP ?_
 refine LU 0 Y3 (ce m rfl) ?_;refine CR G4 (o6 m.whose) ID λvR HR hR=>?_
 obtain⟨_,rfl,rfl⟩:=hR;revert vR;intro uw;refine PS ?_;refine CF Jw (qm uw (gE m.whose) from' (Gr m.whose)) ID (Er (l:=(gE m.whose)) 0 rfl rfl) ?_;refine an ?_ ?_<;>intro h12
 have hm:cF m.whose=true:=by
  unfold gE at h12;split at h12
  · assumption
  · cases h12
 have hm2:0≤m.whose∧m.whose<5:=of_decide_eq_true hm;have hta:qu s m.whose=s.told[m.whose.toNat]'(by omega):=by rw[qu,dif_pos hm]
 have hla:nl s m.whose=s.last[m.whose.toNat]'(by omega):=by rw[nl,dif_pos hm]
 have hf:0≤from'∧from'<5:=by
  rw[gE,if_pos hm]at h12;simp only[cn,List.not_mem_nil,or_false]at h12;omega
 refine nx J3 (CY (ab λ_ J4=>eV (α:=Unit) (λ_u=>True) (λ_u=>[(0,(.pointer (some ⟨r,0,none⟩))),(1,(.iface V.T V.ov)),(2,(.int .i64 (from'))),(7,(.pointer (some ⟨b7,0,none⟩)))]) (λ_u=>[cC V r (lv s m.whose m.row),ag b7 (ints m.flat) 178]) (λ_u hinv=>?_) (λtl4=>?_)));have _:=hinv;refine ac J4 (D1 1 bh ?_);refine PD 0 ?_;refine FD 1 1 a9 aP ?_;refine LR 2 Y3 (ce m rfl) ?_;refine PD 3 ?_;refine FD 4 1943 bg eQ ?_;refine IY 5 (1943+(m.whose).toNat) jz aP ?_;refine PD 7 ?_;refine ta 8 rfl (xC (r:=(cU from')) rfl rfl rfl (by omega) rfl) ?_;refine PD 10 ?_;refine FD 11 1943 bg eQ ?_;refine AL 6 ?_;refine LG 0 Y3 (.int .i64 ((((lv s m.whose m.row).told)[(m.whose).toNat]'(by omega)))) ?_ (hc:=by exact λa_=>(Oe ((lv s m.whose m.row).rep a_) ((m.whose).toNat) (by omega) (by omega) (j0 (((lv s m.whose m.row).rep a_).told) (by omega))));refine EN (ta 9 rfl (H4 (r:=(iu .i64 (s.told[m.whose.toNat]'(by omega)) (cU from'))) rfl rfl rfl rfl) ?_);refine IY 12 (1943+(m.whose).toNat) jz aP ?_;refine AL 13 ?_;refine SK 0 aP (λ_=>cK _) ?_ (hc:=by exact λa_=>(RepT.st_told ((lv s m.whose m.row).rep a_) ((m.whose).toNat) (by omega) (by omega) (xO (((lv s m.whose m.row).rep a_).told) (by omega) _)));refine EN (DN ?_)
 exact aF
  SB
  (λ_ q=>by
   rw[if_pos h12,show uU s from' m.whose m.row= {lv s m.whose m.row with told:=s.told.set m.whose.toNat (iu .i64 (s.told[m.whose.toNat]'(by omega)) (cU from')) (by omega)}by rw[uU,AK,dif_pos hm,hta]]
   exact ak [0] rfl q)
  (tl2 (():Unit) trivial)
 refine ab λ_ J5=>DC bh (BL 1) (cL 2 rfl rfl) ?_
 refine PD 0 ?_;refine FD 1 1 a9 aP ?_;refine LR 2 Y3 (ce m rfl) ?_;refine PD 3 ?_;refine FD 4 1943 bg eQ ?_;refine IY 5 (1943+(m.whose).toNat) jz aP ?_;refine ta 6 rfl (cY (v:=(.int .i64 ((s.told[(m.whose).toNat]'(by omega))))) rfl Y3 rfl rfl (λ_ h=>h.2.2.1) (λa_=>(Oe (s.rep a_) ((m.whose).toNat) (by omega) (by omega) (j0 ((s.rep a_).told) (by omega))))) ?_;refine PD 7 ?_;refine gR ?_ ?_<;>intro h20;refine PD 8 ?_;refine NT 9 ?_;refine NT 10 ?_;refine NT 11 ?_;refine NT 12 ?_;refine NT 13 ?_;refine NT 14 ?_;refine NT 15 ?_;refine NT 16 ?_;refine NT 17 ?_;refine NT 18 ?_;refine NT 19 ?_;refine NT 20 ?_;refine PD 21 ?_;refine DN (ac J5 (CY (D1 1 bh ?_)));refine PD 0 ?_;refine FD 1 1 a9 aP ?_;refine LR 2 Y3 (ce m rfl) ?_;refine FD 3 2 a9 aZ ?_;refine ta 4 rfl (aM (vs:=ints m.row.flat) rfl dN rfl aZ rfl (λ_ h=>h.2.1) (ah m.row) (lV m 0 rfl (by decide) (whole (ah m.row)))) ?_;refine PD 5 ?_;refine FD 6 1948 bg sO ?_;refine IY 7 (1948+((m.whose).toNat)*174) Gh aZ ?_;refine AL 8 ?_;refine gD (vs:=ints m.row.flat) (i:=2) (aa rfl) rfl rfl rfl rfl rfl (by rw[(ah m.row)];exact aZ) (bu _) rfl rfl (λ_=>LC (cK _) (ah _)) (λa_=>(RepT.wr_last_ (s.rep a_) (((m.whose).toNat)*174) (by omega) (by have h1:=(ah m.row);omega) (tl dp ((s.rep a_).last) (i:=(m.whose).toNat) 0 (by omega) (by omega) (by have h1:=(ah m.row);omega) (cm ((ah (((s.rep a_).last)[(m.whose).toNat]'(by omega))).trans (ah m.row).symm))))) (EN (DN ?_))
 exact aF
  SB
  (λ_ q=>by
   rw[show lv s m.whose m.row= {s with last:=s.last.set m.whose.toNat m.row (by omega)}by rw[lv,if_pos (.inl (hta.trans h20)),AK,dif_pos hm]]
   exact ak [2,1] rfl q)
  (tl4 (():Unit) trivial)
 refine PD 8 ?_;refine FD 9 2 a9 aZ ?_;refine FD 10 2 dN aP ?_;refine LX 11 Y3 (.int .i64 (m.row.version)) ?_ (hc:=by exact MsgT.pt_row m 0 rfl (by decide) (cB m.row rfl));refine PD 12 ?_;refine FD 13 1 a9 aP ?_;refine LR 14 Y3 (ce m rfl) ?_;refine PD 15 ?_;refine FD 16 1948 bg sO ?_;refine IY 17 (1948+((m.whose).toNat)*174) Gh aZ ?_;refine tb 18 rfl (aV (r:=1948+((m.whose).toNat)*174) rfl dN rfl aP rfl rfl) ?_;refine tb 19 rfl (cY (v:=(.int .i64 ((s.last[(m.whose).toNat]'(by omega)).version))) rfl Y3 rfl rfl (λ_ h=>h.2.2.1) (λa_=>(RepT.pt_last (s.rep a_) (((m.whose).toNat)*174) (by omega) (by omega) (nA dp ((s.rep a_).last) (i:=(m.whose).toNat) 0 (by omega) (by omega) (by decide) (cB _ rfl))))) ?_;refine PD 20 ?_;refine gR ?_ ?_<;>intro h33;refine PD 21 ?_;refine DN (ac J5 (CY (D1 1 bh ?_)));refine PD 0 ?_;refine FD 1 1 a9 aP ?_;refine LR 2 Y3 (ce m rfl) ?_;refine FD 3 2 a9 aZ ?_;refine ta 4 rfl (aM (vs:=ints m.row.flat) rfl dN rfl aZ rfl (λ_ h=>h.2.1) (ah m.row) (lV m 0 rfl (by decide) (whole (ah m.row)))) ?_;refine PD 5 ?_;refine FD 6 1948 bg sO ?_;refine IY 7 (1948+((m.whose).toNat)*174) Gh aZ ?_;refine AL 8 ?_
 refine gD (vs:=ints m.row.flat) (i:=2) (aa rfl) rfl rfl rfl rfl rfl (by rw[(ah m.row)];exact aZ) (bu _) rfl rfl (λ_=>LC (cK _) (ah _)) (λa_=>(RepT.wr_last_ (s.rep a_) (((m.whose).toNat)*174) (by omega) (by have h1:=(ah m.row);omega) (tl dp ((s.rep a_).last) (i:=(m.whose).toNat) 0 (by omega) (by omega) (by have h1:=(ah m.row);omega) (cm ((ah (((s.rep a_).last)[(m.whose).toNat]'(by omega))).trans (ah m.row).symm))))) (EN (DN ?_))
 exact aF
  SB
  (λ_ q=>by
   rw[show lv s m.whose m.row= {s with last:=s.last.set m.whose.toNat m.row (by omega)}by rw[lv,if_pos (.inr (by rw[hla];omega)),AK,dif_pos hm]]
   exact ak [2,1] rfl q)
  (tl4 (():Unit) trivial)
 refine PD 21 ?_;refine DN (ac J5 (CN (aQ ?_)))
 exact aF
  SB
  (λ_ q=>by
   rw[show lv s m.whose m.row= {s with last:=s.last}by rw[lv,if_neg (by rw[hta,hla];omega)]]
   exact ak [2,1] rfl q)
  (tl4 (():Unit) trivial)
 refine nx J3 (CN (aQ ?_))
 exact aF
  SB
  (λ_ q=>by
   rw[if_neg h12]
   exact ak [2] rfl q)
  (tl2 (():Unit) trivial)
abbrev TK{δ:Type}(V:Env δ)(r f:Nat)(s:MS δ)(from':Int)(m:MsgT)(s':MS δ):Prop:=Leg.Does Tryz.prog f #[.pointer (some ⟨r,0,none⟩), .iface V.T V.ov, .int .i64 from', .agg (ints m.flat).toArray] (λ_=>True) [cC V r s] (c9 (λ_ H=>H=[cC V r s']))
theorem oa{δ:Type}(V:Env δ)(r:Nat)(s s':MS δ)(from':Int)(m:MsgT)[OkMg m](h0:m.kind=0→TK V r 143 s from' m s')(h1:m.kind=1→TK V r 144 s from' m s')(h2:m.kind=2→Ey s m.whose m.row=s')(h7:m.kind=7→DT 145 #[.pointer (some ⟨r,0,none⟩), .iface V.T V.ov, .agg (ints m.view.flat).toArray] T0 [cC V r s] (c9 (λv H=>(∃b,v= .bool b)∧H=[cC V r s'])))(h8:m.kind=8→TK V r 146 s from' m s')(h9:m.kind=9→TK V r 147 s from' m s')(hv:m.kind=3∨m.kind=4∨m.kind=5∨m.kind=6→TK V r 148 s from' m s')(hn:m.kind≠0∧m.kind≠1∧m.kind≠2∧m.kind≠7∧m.kind≠8∧m.kind≠9∧m.kind≠3∧m.kind≠4∧m.kind≠5∧m.kind≠6→s=s'):
 DT 105 #[(.pointer (some ⟨r,0,none⟩)),(.iface V.T V.ov),(.int .i64 (from')),(.agg (ints m.flat).toArray)] T0 [cC V r s] (c9 (λ_ H=>H=[cC V r s'])):=by
 refine BD 65 Tryz.func105 rfl rfl rfl λw0 F hF=>sr λ_ J1=>XY (ints m.flat) λb7=>?_
 refine nx J1 (sr λ_ J2=>FA 0 a9 aP ?_);refine LU 0 Y3 (eL m rfl) ?_;refine nx J2 (aq (sr λ_ J3=>PS ?_));refine an ?_ ?_<;>intro h11;refine PS ?_;refine nx J3 (CY (ad (P3 ?_)));refine LW 0 a9 bW aG ?_;refine CZ Mi ((h0 h11)) (SM [1]) λvR=>?_
 exact ap (af (WK [0] (bz rfl rfl)));refine PS ?_;refine nx J3 (CN (sr λ_ J4=>PS ?_));refine an ?_ ?_<;>intro h18;refine PS ?_;refine nx J4 (CY (ad (P3 ?_)));refine LW 0 a9 bW aG ?_;refine CZ Mh ((h1 h18)) (SM [1]) λvR=>?_
 exact ap (af (WK [0] (bz rfl rfl)));refine PS ?_;refine nx J4 (CN (sr λ_ J5=>PS ?_));refine an ?_ ?_<;>intro h25;refine PS ?_;refine nx J5 (CY (D1 0 bh ?_));refine PD 0 ?_;refine PD 1 ?_;refine FD 2 1068 bg u6 ?_;refine FD 3 1 a9 aP ?_;refine LR 4 Y3 (ce m rfl) ?_;refine FD 5 2 a9 aZ ?_;refine ta 6 rfl (aM (vs:=ints m.row.flat) rfl dN rfl aZ rfl (λ_ h=>h.2.1) (ah m.row) (lV m 0 rfl (by decide) (whole (ah m.row)))) ?_;refine AL 7 ?_;refine CE IG (Leg.Does.hid (λa_=>kA r 1068 123 _ (gv (s.rep a_)) s.book m.whose m.row (H7 inferInstance))) (SM [1]) ?_;refine EN (DN (af (WK [0] (bz rfl ?_))));exact congrArg (λq=>[cC V r q]) (h2 h25);refine PS ?_;refine nx J5 (CN (sr λ_ J6=>PS ?_));refine an ?_ ?_<;>intro h35;refine PS ?_;refine nx J6 (CY (ad (P2 ?_)));refine FA 185 a9 bc ?_;refine LV 0 eE bc am MsgT.sp_view (y:=m.view) ?_;refine CR G8 ((h7 h35)) (SM [1]) λvR HR hR=>?_
 obtain⟨_,rfl⟩:=hR;exact ap (af (WK [0] (bz rfl rfl)));refine PS ?_;refine nx J6 (CN (sr λ_ J7=>PS ?_));refine an ?_ ?_<;>intro h42;refine PS ?_;refine nx J7 (CY (ad (P3 ?_)));refine LW 0 a9 bW aG ?_;refine CZ Mg ((h8 h42)) (SM [1]) λvR=>?_
 exact ap (af (WK [0] (bz rfl rfl)));refine PS ?_;refine nx J7 (CN (sr λ_ J8=>PS ?_));refine an ?_ ?_<;>intro h49;refine PS ?_;refine nx J8 (CY (ad (P3 ?_)));refine LW 0 a9 bW aG ?_;refine CZ Mf ((h9 h49)) (SM [1]) λvR=>?_
 exact ap (af (WK [0] (bz rfl rfl)));refine PS ?_;refine nx J8 (CN (ab λ_ J9=>sr λ_ J10=>P2 ?_));refine an ?_ ?_<;>intro h55;refine nx J10 (CY (qx J9 (CY (ad (P3 ?_)))));refine LW 0 a9 bW aG ?_;refine CZ Ee ((hv (by omega))) (SM [1]) λvR=>?_
 exact ap (af (WK [0] (bz rfl rfl)));refine nx J10 (CN (sr λ_ J11=>P2 ?_));refine an ?_ ?_<;>intro h55;refine nx J11 (CY (qx J9 (CY (ad (P3 ?_)))));refine LW 0 a9 bW aG ?_;refine CZ Ee ((hv (by omega))) (SM [1]) λvR=>?_
 exact ap (af (WK [0] (bz rfl rfl)));refine nx J11 (CN (sr λ_ J12=>P2 ?_));refine an ?_ ?_<;>intro h55;refine nx J12 (CY (qx J9 (CY (ad (P3 ?_)))));refine LW 0 a9 bW aG ?_;refine CZ Ee ((hv (by omega))) (SM [1]) λvR=>?_
 exact ap (af (WK [0] (bz rfl rfl)));refine nx J12 (CN (ad (PS ?_)));refine an ?_ ?_<;>intro h59;refine PS ?_;refine nx J9 (CY (ad (P3 ?_)));refine LW 0 a9 bW aG ?_;refine CZ Ee ((hv (by omega))) (SM [1]) λvR=>?_
 exact ap (af (WK [0] (bz rfl rfl)));refine PS ?_;refine nx J9 (CN (aQ (af (WK [1] (bz rfl ?_)))));exact congrArg (λq=>[cC V r q]) (hn ⟨h11,h18,h25,h35,h42,h49,by omega,by omega,by omega,by omega⟩)
theorem Cn{δ:Type}{V:Env δ}{r:Nat}{s s':MS δ}{from':Int}{m:MsgT}[OkMg m](hk:m.kind=9)(h:TK V r 147 s from' m s'):TK V r 105 s from' m s':=oa V r s s' from' m (λe=>by omega) (λe=>by omega) (λe=>by omega) (λe=>by omega) (λe=>by omega) (λ_=>h) (λe=>by omega) (λe=>by omega)
theorem Co{δ:Type}{V:Env δ}{r:Nat}{s s':MS δ}{from':Int}{m:MsgT}[OkMg m](hk:m.kind=8)(h:TK V r 146 s from' m s'):TK V r 105 s from' m s':=oa V r s s' from' m (λe=>by omega) (λe=>by omega) (λe=>by omega) (λe=>by omega) (λ_=>h) (λe=>by omega) (λe=>by omega) (λe=>by omega)
theorem n9{δ:Type}{V:Env δ}{r:Nat}{s s':MS δ}{from':Int}{m:MsgT}[OkMg m](hk:m.kind=3∨m.kind=4∨m.kind=5∨m.kind=6)(h:TK V r 148 s from' m s'):TK V r 105 s from' m s':=oa V r s s' from' m (λe=>by omega) (λe=>by omega) (λe=>by omega) (λe=>by omega) (λe=>by omega) (λe=>by omega) (λ_=>h) (λe=>by omega)
theorem vi{δ:Type}(V:Env δ)(r:Nat)(s:MS δ)(w:Int)(y:RowT)[OkR V.toDk s][OkRow y]:TK V r 105 s s.id (gL w y) (fS V.toDk s s.id (gL w y)):=Cn rfl (nD V r s s.id (gL w y))
theorem pm{δ:Type}(V:Env δ)(r:Nat)(s:MS δ)(s':MS δ)(from':Int)(m:MsgT)[OkR V.toDk s'][OkMg m](hl:DT 145 #[.pointer (some ⟨r,0,none⟩), .iface V.T V.ov, .agg (ints m.view.flat).toArray] T0 [cC V r s] (c9 (λv H=>(∃b,v= .bool b)∧H=[cC V r s']))):
 DT 146 #[(.pointer (some ⟨r,0,none⟩)),(.iface V.T V.ov),(.int .i64 (from')),(.agg (ints m.flat).toArray)] T0 [cC V r s] (c9 (λ_ H=>H=[cC V r (fq V.toDk s' from' m.whose)])):=by
 refine BD 64 Tryz.func146 rfl rfl rfl λw0 F hF=>sr λ_ J1=>XY (ints m.flat) λb7=>?_
 refine nx J1 (sr λ_ J2=>P2 ?_);refine FA 185 a9 bc ?_;refine LV 0 eE bc am MsgT.sp_view (y:=m.view) ?_;refine CR G8 (hl) (SM [1]) λvR HR hR=>?_
 obtain⟨_,rfl⟩:=hR;refine nx J2 (ab λ_ J3=>ab λ_ J4=>DC bh (cL 0 rfl rfl) (BL 1) ?_);refine PD 0 ?_;refine PD 1 ?_;refine FD 2 2 bg bc ?_;refine ta 3 rfl (fQ (vs:=ints s'.view.flat) rfl eE rfl bc rfl (λ_ h=>h.2.1) (am s'.view) (λa_=>(fL (s'.rep a_) 0 rfl (by decide) (whole (am ((s'.rep a_).view)))))) ?_;refine FD 4 1 a9 aP ?_;refine LR 5 Y3 (ce m rfl) ?_;refine AL 6 ?_;refine CE IH (p5 s'.view m.whose OkVw.rng) ID ?_;refine EN (PD 7 ?_);refine PD 8 ?_;refine PD 9 ?_;refine kM ?_ ?_<;>intro h24;refine PD 10 ?_;refine PD 11 ?_;refine DN (ac J4 (sr λ_ J5=>PS ?_));refine PS ?_;refine P4 ?_;refine an ?_ ?_<;>intro h30;refine PS ?_;refine nx J5 (CY (ai (ae (WK [0] (dz rfl ?_)))));exact MQ (by rw[fq,if_pos (λh=>h30 (by rw[h];rfl))]);refine PS ?_;refine nx J5 (CN (qx J3 (ab λ_ J6=>ab λ_ J7=>D1 1 bh ?_)));refine PD 0 ?_;refine PD 1 ?_;refine FD 2 183 bg nF ?_;refine FD 3 1 a9 aP ?_;refine LR 4 Y3 (ce m rfl) ?_;refine AL 5 ?_;refine CE Ko (Leg.Does.hid (λa_=>mJ r 183 123 _ (dR (s'.rep a_)) s'.mirror m.whose)) ID ?_;refine aW ?_ ?_<;>intro h37;refine EN (PD 6 ?_);refine DN (ac J7 (CN (qx J6 (D1 1 bh ?_))));refine PD 0 ?_;refine PD 1 ?_;refine PD 2 ?_;refine FD 3 1 a9 aP ?_;refine LR 4 Y3 (ce m rfl) ?_;refine PD 5 ?_;refine PD 6 ?_;refine FD 7 183 bg nF ?_;refine FD 8 1 a9 aP ?_;refine LR 9 Y3 (ce m rfl) ?_;refine AL 10 ?_;refine CE G2 (Leg.Does.hid (λa_=>lu r 183 123 _ (dR (s'.rep a_)) s'.mirror m.whose)) ID ?_
 refine EN (ta 11 rfl (kO MsgT.zero (MsgT.mk 9 m.whose (c7 s'.mirror m.whose) 0 0 BallotT.zero BallotT.zero ChangeT.zero ViewT.zero) [(0,[Value.int .i64 9]),(1,[Value.int .i64 m.whose]),(2,ints (c7 s'.mirror m.whose).flat)] a9 bo (g:=MsgT.sg)) ?_);refine AL 12 ?_;refine CZ iT (fW V r s' from' (gL m.whose (c7 s'.mirror m.whose)) (λs=>fS V.toDk s s.id (gL m.whose (c7 s.mirror m.whose))) (λ_=>vi V r s' m.whose _)) ID λvR=>?_
 refine EN (DN (WK [0] (bz rfl ?_)));exact MQ (by rw[fq,if_neg (λh=>h (td h24 (by omega))),if_pos h37]);refine EN (PD 6 ?_);refine DN (ac J7 (CY (ab λ_ J8=>sr λ_ J9=>PS ?_)));refine FA 1 a9 aP ?_;refine LU 1 Y3 (ce m rfl) ?_;refine tp (kO RecT.zero (RecT.mk 2 m.whose RowT.zero 0 BallotT.zero ChangeT.zero ViewT.zero) [(0,[Value.int .i64 2]),(1,[Value.int .i64 m.whose])] iI eW (g:=RecT.sg)) ?_;refine CE vL (kQ V r s' (jg m.whose)) ID ?_;refine PS ?_;refine an ?_ ?_<;>intro h44;refine nx J9 (CY (ai (ae (ae (WK [0] (dz rfl ?_))))));exact MQ (by rw[fq,if_neg (λh=>h (td h24 (by omega))),if_neg (by rw[h37];decide),if_pos h44]);refine nx J9 (CN (qx J8 (D1 1 bh ?_)));refine PD 0 ?_;refine PD 1 ?_;refine FD 2 183 bg nF ?_;refine FD 3 1 a9 aP ?_;refine LR 4 Y3 (ce m rfl) ?_;refine AL 5 ?_;refine CE JG (Leg.Does.hid (λa_=>rU r 183 123 _ (dR ((ef V.toDk s' (jg m.whose)).rep a_)) (ef V.toDk s' (jg m.whose)).mirror m.whose)) ID ?_;refine EN (DN (ac J6 (D1 1 bh ?_)));refine PD 0 ?_;refine PD 1 ?_;refine PD 2 ?_;refine FD 3 1 a9 aP ?_;refine LR 4 Y3 (ce m rfl) ?_;refine PD 5 ?_;refine PD 6 ?_;refine FD 7 183 bg nF ?_;refine FD 8 1 a9 aP ?_;refine LR 9 Y3 (ce m rfl) ?_;refine AL 10 ?_;refine CE G2 (Leg.Does.hid (λa_=>lu r 183 123 _ (dR ((lN (ef V.toDk s' (jg m.whose)) m.whose).rep a_)) (lN (ef V.toDk s' (jg m.whose)) m.whose).mirror m.whose)) ID ?_
 refine EN (ta 11 rfl (kO MsgT.zero (MsgT.mk 9 m.whose (c7 (lN (ef V.toDk s' (jg m.whose)) m.whose).mirror m.whose) 0 0 BallotT.zero BallotT.zero ChangeT.zero ViewT.zero) [(0,[Value.int .i64 9]),(1,[Value.int .i64 m.whose]),(2,ints (c7 (lN (ef V.toDk s' (jg m.whose)) m.whose).mirror m.whose).flat)] a9 bo (g:=MsgT.sg)) ?_);refine AL 12 ?_;refine CZ iT (fW V r (lN (ef V.toDk s' (jg m.whose)) m.whose) from' (gL m.whose (c7 (lN (ef V.toDk s' (jg m.whose)) m.whose).mirror m.whose)) (λs=>fS V.toDk s s.id (gL m.whose (c7 s.mirror m.whose))) (λ_=>vi V r (lN (ef V.toDk s' (jg m.whose)) m.whose) m.whose _)) ID λvR=>?_
 refine EN (DN (WK [0] (bz rfl ?_)));exact MQ (by rw[fq,if_neg (λh=>h (td h24 (by omega))),if_neg (by rw[h37];decide),if_neg h44]);refine PD 10 ?_;refine PD 11 ?_;refine DN (ac J4 (sr λ_ J10=>PS ?_));refine PS ?_;refine PS ?_
 iterate 3 refine UT ?_
 refine PS ?_;refine nx J10 (CY (ai (ae (WK [0] (dz rfl ?_)))));exact MQ (by rw[fq,if_pos (λh=>by rw[h]at h24;cases h24)])
section
variable {δ:Type} {V:Env δ} {r:Nat} {s:MS δ} {H:List HP} {h:Hl}
theorem Ej(q:bC (cC V r s::H) h): ∃vo,bC (uG V r s vo::H) h:=by
 obtain⟨a,q1⟩:=fk q;exact⟨a.vo,bi (p:=λa':Nat×Value=>[ag r (RepT.cells (s.rep ⟨a'.1,a.vo,a'.2⟩)) 123,V.lg a'.1 s.e,own a'.2 s.replies.length (ints (s.replies.flatMap ReplyT.flat)) 37 3,V.E s.e s.o]) (a.lg,a.rs) (GI (az [3,0,0,0,0] rfl q1))⟩
theorem A8(q:bC (uG V r s (.pointer none)::H) h):bC (cC V r {s with vote:=none}::H) h:=by
 obtain⟨a,q1⟩:=fk q;have q2:bC (DO (.pointer none) none::([ag r (RepT.cells (s.rep ⟨a.1, .pointer none,a.2⟩)) 123,V.lg a.1 s.e,own a.2 s.replies.length (ints (s.replies.flatMap ReplyT.flat)) 37 3,V.E s.e s.o]++H)) h:=⟨em,h,B3 h,(ql h).symm,rfl,q1⟩;exact bi (p:=λa:Adr=>[ag r (RepT.cells ({s with vote:=none}.rep a)) 123,V.lg a.lg {s with vote:=none}.e,own a.rs {s with vote:=none}.replies.length (ints ({s with vote:=none}.replies.flatMap ReplyT.flat)) 37 3,DO a.vo {s with vote:=none}.vote,V.E {s with vote:=none}.e {s with vote:=none}.o]) ⟨a.1, .pointer none,a.2⟩ (az [1,1,1,0,0] rfl q2)
theorem rT(hv:s.vote=none)(q:bC (cC V r s::H) h):bC (uG V r s (.pointer none)::H) h:=by
 obtain⟨a,q1⟩:=fk q;have q2:=az [3,0,0,0,0] rfl q1;obtain⟨h1,h2,d,rfl,e,q3⟩:=q2;rw[hv]at e;have e':a.vo= .pointer none:=e;obtain⟨lg,vo,rs⟩:=a;obtain rfl:=e';rw[m7 d];exact lh _ (bi (p:=λa':Nat×Value=>[ag r (RepT.cells (s.rep ⟨a'.1, .pointer none,a'.2⟩)) 123,V.lg a'.1 s.e,own a'.2 s.replies.length (ints (s.replies.flatMap ReplyT.flat)) 37 3,V.E s.e s.o]) (lg,rs) q3) d.symm
theorem mI{vt:VoteT}(hv:s.vote=some vt)(q:bC (cC V r s::H) h): ∃vb,bC (uG V r s (.pointer (some ⟨vb,0,none⟩))::ag vb (VoteT.cells vt) 227::H) h:=by
 obtain⟨a,q1⟩:=fk q;have q2:=az [3,0,0,0,0] rfl q1;obtain⟨h1,h2,d,rfl,e,q3⟩:=q2;rw[hv]at e;obtain⟨vb,e',e⟩:=e;obtain⟨lg,vo,rs⟩:=a;have e2:vo= .pointer (some ⟨vb,0,none⟩):=e';obtain rfl:=e2;refine⟨vb,ee (List.Perm.swap _ _ _) ?_⟩;exact⟨h1,h2,d,rfl,e,bi (p:=λa':Nat×Value=>[ag r (RepT.cells (s.rep ⟨a'.1, .pointer (some ⟨vb,0,none⟩),a'.2⟩)) 123,V.lg a'.1 s.e,own a'.2 s.replies.length (ints (s.replies.flatMap ReplyT.flat)) 37 3,V.E s.e s.o]) (lg,rs) q3⟩
theorem nO{vt:VoteT}{vb:Nat}(q:bC (uG V r s (.pointer (some ⟨vb,0,none⟩))::ag vb (VoteT.cells vt) 227::H) h):bC (cC V r {s with vote:=some vt}::H) h:=by
 obtain⟨a,q1⟩:=fk q;have q2:bC ([ag r (RepT.cells (s.rep ⟨a.1, .pointer (some ⟨vb,0,none⟩),a.2⟩)) 123,V.lg a.1 s.e,own a.2 s.replies.length (ints (s.replies.flatMap ReplyT.flat)) 37 3,V.E s.e s.o]++(DO (.pointer (some ⟨vb,0,none⟩)) (some vt)::H)) h:=EX (λ_ e=>⟨vb,rfl,e⟩) q1;exact bi (p:=λa:Adr=>[ag r (RepT.cells ({s with vote:=some vt}.rep a)) 123,V.lg a.lg {s with vote:=some vt}.e,own a.rs {s with vote:=some vt}.replies.length (ints ({s with vote:=some vt}.replies.flatMap ReplyT.flat)) 37 3,DO a.vo {s with vote:=some vt}.vote,V.E {s with vote:=some vt}.e {s with vote:=some vt}.o]) ⟨a.1, .pointer (some ⟨vb,0,none⟩),a.2⟩ (az [0,0,0,1,0] rfl q2)
theorem nP{vt:VoteT}{vb:Nat}(hv:s.vote=some vt)(q:bC (uG V r s (.pointer (some ⟨vb,0,none⟩))::ag vb (VoteT.cells vt) 227::H) h):bC (cC V r s::H) h:=by
 have q2:=nO q
 rwa [show({s with vote:=some vt}:MS δ)=s by cases s;simp_all]at q2
end
theorem Bq{δ:Type}(V:Env δ)(r:Nat)(s:MS δ)(v:ViewT):
 DT 93 #[(.pointer (some ⟨r,0,none⟩)),(.agg (ints v.flat).toArray)] T0 [cC V r s] (c9 (λ_ H=>H=[cC V r (mM s v)])):=by
 refine BD 20 Tryz.func93 rfl rfl rfl λw0 F hF=>sr λ_ J1=>XY (ints v.flat) λb3=>?_
 refine nx J1 (sr λ_ J2=>PS ?_);refine LW 0 eE bc am ?_;refine PS ?_;refine FA 2 bg bc ?_;refine gD (vs:=ints v.flat) (i:=1) (aa rfl) rfl rfl rfl rfl rfl (by rw[(am v)];exact bc) (bu _) rfl rfl (λ_=>LC (cK _) (am _)) (λa_=>(NU (s.rep a_) 0 rfl (by have h1:=(am v);omega) (cm ((am ((s.rep a_).view)).trans (am v).symm)))) (nx J2 (sr λ_ J3=>PS ?_));refine FA 0 eE aP ?_;refine LU 0 Y3 (ba v rfl) ?_;refine tp (kO AccT.zero (AccT.mk v.epoch BallotT.zero BallotT.zero ChangeT.zero) [(0,[Value.int .i64 v.epoch])] iF n5 (g:=AccT.sg)) ?_;refine PS ?_;refine FA 1058 bg dq ?_;refine gD (vs:=ints (AccT.mk v.epoch BallotT.zero BallotT.zero ChangeT.zero).flat) (i:=1) (aa rfl) rfl rfl rfl rfl rfl (by rw[(aY (AccT.mk v.epoch BallotT.zero BallotT.zero ChangeT.zero))];exact dq) (bu _) rfl rfl (λ_=>LC (cK _) (aY _)) (λa_=>(kb ((MS.setView s v).rep a_) 0 rfl (by have h1:=(aY (AccT.mk v.epoch BallotT.zero BallotT.zero ChangeT.zero));omega) (cm ((aY (((MS.setView s v).rep a_).acc)).trans (aY (AccT.mk v.epoch BallotT.zero BallotT.zero ChangeT.zero)).symm)))) (nx J3 (sr λ_ J4=>cq (λ_ q=>az [1] rfl q) (JV (H':=λvo:Value=>uG V r (MS.setAcc (MS.setView s v) (AccT.mk v.epoch BallotT.zero BallotT.zero ChangeT.zero)) vo::[ag b3 (ints v.flat) 44]) (λ_ q=>Ej q) (λvo=>P2 ?_))));refine FA 1067 bg iO ?_;refine SK 0 iO (λ_=>cK _) ?_ (hc:=by exact λa_=>(NV _ rfl _))
 refine nx J4 (ad (cq (H':=cC V r {{s with view:=v}with acc:= {AccT.zero with epoch:=v.epoch},vote:=none}::[ag b3 (ints v.flat) 44]) (λ_ q=>A8 (az [0] rfl q)) (P2 ?_)));refine FA 1066 bg aP ?_;refine SK 0 aP (λ_=>cK _) ?_ (hc:=by exact λa_=>(lC _ rfl _));exact ap (WK [0] (bz rfl rfl))
theorem tK{δ:Type}(V:Env δ)(r:Nat)(s:MS δ)(v:ViewT)[OkR V.toDk s][OkVw v](hcl: ¬v.epoch≤s.view.epoch→DT 108 #[.pointer (some ⟨r,0,none⟩), .iface V.T V.ov] T0 [cC V r (mM (ef V.toDk s (kU v)) v)] (c9 (λ_ H=>H=[cC V r (qT V.toDk (mM (ef V.toDk s (kU v)) v))]))):
 DT 145 #[(.pointer (some ⟨r,0,none⟩)),(.iface V.T V.ov),(.agg (ints v.flat).toArray)] T0 [cC V r s] (RI (.bool (p4 V.toDk s v)) [cC V r (gY V.toDk s v)]):=by
 refine BD 28 Tryz.func145 rfl rfl rfl λw0 F hF=>sr λ_ J1=>XY (ints v.flat) λb5=>?_
 refine PS ?_;refine nx J1 (ab λ_ J2=>ab λ_ J3=>DC bh (BL 0) (cL 1 rfl rfl) ?_);refine FD 0 0 eE aP ?_;refine LR 1 Y3 (ba v rfl) ?_;refine PD 2 ?_;refine PD 3 ?_;refine FD 4 2 bg bc ?_;refine FD 5 2 eE aP ?_;refine ta 6 rfl (cY (v:=(.int .i64 (s.view.epoch))) rfl Y3 rfl rfl (λ_ h=>h.2.2.1) (λa_=>(ca (s.rep a_) 0 rfl (by decide) (ba _ rfl)))) ?_;refine PD 7 ?_;refine gR ?_ ?_<;>intro h14;refine PD 8 ?_;refine NT 9 ?_;refine NT 10 ?_;refine NT 11 ?_;refine NT 12 ?_;refine NT 13 ?_;refine PD 14 ?_;refine DN (ac J3 (CY (sr λ_ J4=>PS ?_)));refine nx J4 (ai (ae (WK [1] (au rfl rfl ?_))));have e:gY V.toDk s v=s:=by rw[gY,if_pos h14]
 exact⟨by rw[p4,decide_eq_false (by omega),gx],congrArg (λq=>[cC V r q]) e.symm⟩;refine PD 8 ?_;refine PD 9 ?_;refine LY 10 eE bc am ?_;refine tb 11 rfl (kO RecT.zero (RecT.mk 5 0 RowT.zero 0 BallotT.zero ChangeT.zero v) [(0,[Value.int .i64 5]),(6,ints v.flat)] iI eW (g:=RecT.sg)) ?_;refine AL 12 ?_;refine CE vL (kQ V r s (kU v)) (SM [1]) ?_;refine EN (PD 13 ?_);refine gR ?_ ?_<;>intro h20;refine PD 14 ?_;refine DN (ac J3 (CY (sr λ_ J5=>PS ?_)));refine nx J5 (ai (ae (WK [0] (au rfl rfl ?_))));have e:gY V.toDk s v=(ef V.toDk s (kU v)):=by rw[gY,if_neg h14,if_pos h20]
 exact⟨by rw[p4,decide_eq_true (by omega),decide_eq_false h20,uy],congrArg (λq=>[cC V r q]) e.symm⟩;refine PD 14 ?_;refine DN (ac J3 (CN (qx J2 (sr λ_ J6=>PS ?_))));refine LW 1 eE bc am ?_;refine CZ Kj (Bq V r (ef V.toDk s (kU v)) v) ID λvR=>?_
 refine nx J6 (sr λ_ J7=>P2 ?_);refine CZ Hk ((hcl (by omega))) ID λvR=>?_
 refine nx J7 (sr λ_ J8=>PS ?_);refine nx J8 (ai (WK [0] (au rfl rfl ?_)));have e:gY V.toDk s v=(qT V.toDk (mM (ef V.toDk s (kU v)) v)):=by rw[gY,if_neg h14,if_neg h20]
 exact⟨by rw[p4,decide_eq_true (by omega),decide_eq_true (by omega),uy],congrArg (λq=>[cC V r q]) e.symm⟩
theorem Bd{δ:Type}(V:Env δ)(r:Nat)(s:MS δ)(v:ViewT)[OkR V.toDk s][OkVw v](h:v.epoch≤s.view.epoch):DT 145 #[.pointer (some ⟨r,0,none⟩), .iface V.T V.ov, .agg (ints v.flat).toArray] T0 [cC V r s] (c9 (λq H=>(∃b,q= .bool b)∧H=[cC V r s])):=
 (tK V r s v (λq=>absurd h q)).mono λe H hp=>by
  cases e with
  |returned q=>exact⟨⟨_,hp.1⟩,hp.2.trans (by rw[gY,if_pos h])⟩
  |panicked c=>exact hp.elim
  |outgrown=>exact hp.elim
theorem vj{δ:Type}(V:Env δ)(r:Nat)(s:MS δ)(i:Int)[OkR V.toDk s]:TK V r 105 s s.id (oe i s.view) (fq V.toDk s s.id i):=Co rfl (pm V r s s s.id (oe i s.view) (Bd V r s s.view (Int.le_refl _)))
theorem pM{δ:Type}(V:Env δ)(r:Nat)(s:MS δ)[OkR V.toDk s]:
 DT 108 #[(.pointer (some ⟨r,0,none⟩)),(.iface V.T V.ov)] T0 [cC V r s] (c9 (λ_ H=>H=[cC V r (qT V.toDk s)])):=by
 refine BD 39 Tryz.func108 rfl rfl rfl λw0 F hF=>sr λ_ J1=>PS ?_
 refine CR JD (yq V r s) ID λvR HR hR=>?_
 obtain⟨_,rfl,rfl⟩:=hR;revert vR;intro ud;refine kD 0 rfl rfl (λhlud houd=>tp (dX rfl jZ rfl hlud) ?_);refine PS ?_;refine nx J1 (aq ?_)
 refine bn (α:=(Nat)) (λk=>k≤(bB s).length) (λk=>[(0,(.pointer (some ⟨r,0,none⟩))),(1,(.iface V.T V.ov)),(9,ud),(10,(.int .i64 ((((bB s).length:Nat):Int)))),(11,(.int .i64 (((k:Nat):Int))))]) (λk=>[own ud ((bB s).length) (ints (bB s)) 3 1,cC V r (fR V.toDk ((bB s).take k) s)]) (λk=>(bB s).length-k) 0
  (aN _) SB
  (λ_ s=>s) (λk hinv=>?_)
 obtain hk:=hinv;have hcl:OkR V.toDk (fR V.toDk ((bB s).take k) s):=tg _ _ inferInstance;refine sr λ_ J2=>PS ?_
 refine an ?_ ?_<;>intro h12;refine nx J2 (ab λ_ J3=>CY (qx J3 (ab λ_ J4=>aq (sr λ_ J5=>?_))));have hmm1:(bB s).getD k 0∈bB s:=by rw[List.getD_eq_getElem?_getD,List.getElem?_eq_getElem (by omega)];exact eY _
 have hm1:cF ((bB s).getD k 0)=true:=(wu hmm1).1;have hn1:0≤(bB s).getD k 0∧(bB s).getD k 0<5:=of_decide_eq_true hm1;refine jJ 0 rfl rfl (by omega) (λge1 ce1 he1 _=>tp (bS (r:=k) he1 rfl jZ aP rfl rfl (by omega) (by omega) (by omega)) ?_);refine tp (cX (v:=(.int .i64 (((bB s).getD k 0)))) rfl Y3 rfl rfl (fU 0 rfl he1 rfl) (wi (by omega))) ?_;refine PS ?_;refine nx J5 (sr λ_ J6=>PS ?_);refine CR G4 (pX ((bB s).getD k 0) hm1) ID λvR HR hR=>?_
 obtain⟨_,rfl,rfl⟩:=hR;revert vR;intro uw;refine kD 0 rfl rfl (λhluw _=>jJ 0 rfl rfl (by omega) (λgw capw hvw hcapw=>tp (dX rfl jZ rfl hluw) ?_));refine PS ?_;refine nx J6 (aq (ra 2 (sr λ_ J7=>PS ?_)));refine nx J7 (ab λ_ J8=>CY (qx J8 (ab λ_ J9=>eV (α:=Unit) (λ_u=>True) (λ_u=>[(0,(.pointer (some ⟨r,0,none⟩))),(1,(.iface V.T V.ov)),(5,(.int .i64 (((bB s).getD k 0)))),(9,ud),(10,(.int .i64 ((((bB s).length:Nat):Int)))),(11,(.int .i64 (((k:Nat):Int)))),(16,uw),(17,(.int .i64 2)),(18,(.int .i64 0)),(19,(.bool true))]) (λ_u=>[cC V r (gO V.toDk (fR V.toDk ((bB s).take k) s) ((bB s).getD k 0) ((((bB s).getD k 0)+1)%5)),own uw (2) ([.int .i64 ((((bB s).getD k 0)+1)%5), .int .i64 ((((bB s).getD k 0)+2)%5)]) 3 1,own ud ((bB s).length) (ints (bB s)) 3 1]) (λ_u hinv=>?_) (λtl9=>?_))));have _:=hinv;refine ac J9 (ad (tp (cg (r:=1) rfl rfl rfl (by decide)) ?_));refine PS ?_;refine ap (ei (sr λ_ J10=>PS ?_))
 refine nx J10 (ab λ_ J11=>CY (qx J11 (ab λ_ J12=>eV (α:=Unit) (λ_u=>True) (λ_u=>[(0,(.pointer (some ⟨r,0,none⟩))),(1,(.iface V.T V.ov)),(5,(.int .i64 (((bB s).getD k 0)))),(9,ud),(10,(.int .i64 ((((bB s).length:Nat):Int)))),(11,(.int .i64 (((k:Nat):Int)))),(16,uw),(17,(.int .i64 2)),(18,(.int .i64 1)),(19,(.bool true)),(37,(.int .i64 1))]) (λ_u=>[cC V r (gO V.toDk (gO V.toDk (fR V.toDk ((bB s).take k) s) ((bB s).getD k 0) ((((bB s).getD k 0)+1)%5)) ((bB s).getD k 0) ((((bB s).getD k 0)+2)%5)),own uw (2) ([.int .i64 ((((bB s).getD k 0)+1)%5), .int .i64 ((((bB s).getD k 0)+2)%5)]) 3 1,own ud ((bB s).length) (ints (bB s)) 3 1]) (λ_u hinv=>?_) (λtl12=>?_))));have _:=hinv;refine ac J12 (ad (tp (cg (r:=2) rfl rfl rfl (by decide)) ?_));refine PS ?_;refine ap (ei (sr λ_ J13=>PS ?_));refine nx J13 (ab λ_ J14=>CN (aS (ay (ay (bj (af (ac J4 (ad (AD ?_)))))))));refine PS ?_;refine ap ?_
 exact aI ((k+1):(Nat)) (by omega) (by show(bB s).length- (k+1)< (bB s).length-k;omega)
  SB
  (λ_ q=>by
   rw[BH V.toDk (by omega) s]
   exact ak [2,0] rfl q)
 refine aq (sr λ_ J15=>tp (bS (r:=1) hvw rfl jZ aP rfl rfl (by omega) (by omega) rfl) ?_);refine tp (cX (v:=(.int .i64 (((((bB s).getD k 0)+2)%5)))) rfl Y3 rfl rfl (fU 1 rfl hvw rfl) rfl) ?_;refine PS ?_;refine nx J15 (sr λ_ J16=>P3 ?_);refine CE Ed (m4 V r (gO V.toDk (fR V.toDk ((bB s).take k) s) ((bB s).getD k 0) ((((bB s).getD k 0)+1)%5)) ((bB s).getD k 0) ((((bB s).getD k 0)+2)%5) hm1 (by omega)) ID ?_;refine aW ?_ ?_<;>intro h25;refine PS ?_;refine nx J16 (CN (aQ (af ?_)))
 exact aF
  SB
  (λ_ q=>by
   rw[gO,if_pos h25]
   exact ak [0,0,0] rfl q)
  (tl12 (():Unit) trivial)
 refine PS ?_;refine nx J16 (CY (ad ?_))
 iterate 6 refine PS ?_
 refine FA 2 bg bc ?_;refine LZ 0 eE bc am ((gO V.toDk (fR V.toDk ((bB s).take k) s) ((bB s).getD k 0) ((((bB s).getD k 0)+1)%5)).view) ?_ (hc:=by exact λ_=>cJ _);refine tp (kO MsgT.zero (MsgT.mk 8 ((bB s).getD k 0) RowT.zero 0 0 BallotT.zero BallotT.zero ChangeT.zero ((gO V.toDk (fR V.toDk ((bB s).take k) s) ((bB s).getD k 0) ((((bB s).getD k 0)+1)%5)).view)) [(0,[Value.int .i64 8]),(1,[Value.int .i64 ((bB s).getD k 0)]),(8,ints ((gO V.toDk (fR V.toDk ((bB s).take k) s) ((bB s).getD k 0) ((((bB s).getD k 0)+1)%5)).view).flat)] a9 bo (g:=MsgT.sg)) ?_;refine CZ iT (fW V r (gO V.toDk (fR V.toDk ((bB s).take k) s) ((bB s).getD k 0) ((((bB s).getD k 0)+1)%5)) ((((bB s).getD k 0)+2)%5) (oe ((bB s).getD k 0) (gO V.toDk (fR V.toDk ((bB s).take k) s) ((bB s).getD k 0) ((((bB s).getD k 0)+1)%5)).view) (λs_=>fq V.toDk s_ s_.id ((bB s).getD k 0)) (λ_=>vj V r (gO V.toDk (fR V.toDk ((bB s).take k) s) ((bB s).getD k 0) ((((bB s).getD k 0)+1)%5)) ((bB s).getD k 0))) ID λvR=>?_
 refine ap (af ?_)
 exact aF
  SB
  (λ_ q=>by
   rw[gO,if_neg (by rw[h25];decide)]
   exact ak [0,0,0] rfl q)
  (tl12 (():Unit) trivial)
 refine aq (sr λ_ J17=>tp (bS (r:=0) hvw rfl jZ aP rfl rfl (by omega) (by omega) rfl) ?_);refine tp (cX (v:=(.int .i64 (((((bB s).getD k 0)+1)%5)))) rfl Y3 rfl rfl (fU 0 rfl hvw rfl) rfl) ?_;refine PS ?_;refine nx J17 (sr λ_ J18=>P3 ?_);refine CE Ed (m4 V r (fR V.toDk ((bB s).take k) s) ((bB s).getD k 0) ((((bB s).getD k 0)+1)%5) hm1 (by omega)) (SM [2]) ?_;refine aW ?_ ?_<;>intro h25;refine PS ?_;refine nx J18 (CN (aQ (af ?_)))
 exact aF
  SB
  (λ_ q=>by
   rw[gO,if_pos h25]
   exact ak [0,0,0] rfl q)
  (tl9 (():Unit) trivial)
 refine PS ?_;refine nx J18 (CY (ad ?_))
 iterate 6 refine PS ?_
 refine FA 2 bg bc ?_;refine LZ 0 eE bc am ((fR V.toDk ((bB s).take k) s).view) ?_ (hc:=by exact λ_=>cJ _);refine tp (kO MsgT.zero (MsgT.mk 8 ((bB s).getD k 0) RowT.zero 0 0 BallotT.zero BallotT.zero ChangeT.zero ((fR V.toDk ((bB s).take k) s).view)) [(0,[Value.int .i64 8]),(1,[Value.int .i64 ((bB s).getD k 0)]),(8,ints ((fR V.toDk ((bB s).take k) s).view).flat)] a9 bo (g:=MsgT.sg)) ?_;refine CZ iT (fW V r (fR V.toDk ((bB s).take k) s) ((((bB s).getD k 0)+1)%5) (oe ((bB s).getD k 0) (fR V.toDk ((bB s).take k) s).view) (λs_=>fq V.toDk s_ s_.id ((bB s).getD k 0)) (λ_=>vj V r (fR V.toDk ((bB s).take k) s) ((bB s).getD k 0))) ID λvR=>?_
 refine ap (af ?_)
 exact aF
  SB
  (λ_ q=>by
   rw[gO,if_neg (by rw[h25];decide)]
   exact ak [0,0,0] rfl q)
  (tl9 (():Unit) trivial)
 refine nx J2 (ab λ_ J19=>CN (aS (ay (ay (bj (WK [1] (bz rfl ?_)))))));obtain rfl:k=(bB s).length:=by omega
 exact MQ (by rw[hO];rfl)
theorem tL{δ:Type}(V:Env δ)(r:Nat)(s:MS δ)(v:ViewT)[OkR V.toDk s][OkVw v]:DT 145 #[.pointer (some ⟨r,0,none⟩), .iface V.T V.ov, .agg (ints v.flat).toArray] T0 [cC V r s] (RI (.bool (p4 V.toDk s v)) [cC V r (gY V.toDk s v)]):=tK V r s v λ_=>pM V r _
theorem tM{δ:Type}(V:Env δ)(r:Nat)(s:MS δ)(v:ViewT)[OkR V.toDk s][OkVw v]:DT 145 #[.pointer (some ⟨r,0,none⟩), .iface V.T V.ov, .agg (ints v.flat).toArray] T0 [cC V r s] (c9 (λq H=>(∃b,q= .bool b)∧H=[cC V r (gY V.toDk s v)])):=
 (tL V r s v).mono λe H hp=>by
  cases e with
  |returned q=>exact⟨⟨_,hp.1⟩,hp.2⟩
  |panicked c=>exact hp.elim
  |outgrown=>exact hp.elim
theorem uX{δ:Type}(V:Env δ)(r:Nat)(s:MS δ)(from':Int)(m:MsgT)[OkR V.toDk s][OkMg m]:TK V r 146 s from' m (ml V.toDk s from' m):=pm V r s _ from' m (tM V r s m.view)
theorem Kc:Tryz.prog.eqGuardType Tryz.prog.depth 88=false:=by kernel_rfl
theorem Ka:Tryz.prog.keyTypeAt 6 88=true:=by kernel_rfl
theorem KC:m9 Tryz.prog 6 88=some 2:=by kernel_rfl
theorem F5:(match Tryz.prog.underlying 88 with|some (.struct _)|some (.array _ _)=>true|_=>false)=true:=by kernel_rfl
theorem Gd:Tryz.prog.cellsOf 88=2:=by kernel_rfl
theorem Ll:Tryz.prog.eqGuardType Tryz.prog.depth 118=false:=by kernel_rfl
theorem Lj:Tryz.prog.keyTypeAt 6 118=true:=by kernel_rfl
theorem MC:m9 Tryz.prog 6 118=some 8:=by kernel_rfl
theorem JQ:(match Tryz.prog.underlying 118 with|some (.struct _)|some (.array _ _)=>true|_=>false)=true:=by kernel_rfl
theorem JS:Tryz.prog.cellsOf 118=8:=by kernel_rfl
theorem yf(a b:BallotT):
 DT 181 #[(.agg (ints a.flat).toArray),(.agg (ints b.flat).toArray)] T0 [] (RI (.bool (Bc a b)) []):=by
 refine BD 20 Tryz.func181 rfl rfl rfl λw0 F hF=>sr λ_ J1=>XY (ints a.flat) λb2=>?_
 refine XY (ints b.flat) λb3=>?_
 refine PS ?_;refine nx J1 (ab λ_ J2=>sr λ_ J3=>FA 0 jT aP ?_);refine LU 1 Y3 (e4 a rfl) ?_;refine FA 0 jT aP ?_;refine LU 0 Y3 (e4 b rfl) ?_;refine PS ?_;refine an ?_ ?_<;>intro h9;refine nx J3 (CY (sr λ_ J4=>FA 0 jT aP ?_));refine LU 1 Y3 (e4 a rfl) ?_;refine FA 0 jT aP ?_;refine LU 0 Y3 (e4 b rfl) ?_;refine P2 ?_;refine nx J4 (ai (ae (WK [] (au rfl rfl ?_))));exact⟨congrArg Value.bool (by simp[Bc, *]),rfl⟩;refine nx J3 (CN (qx J2 (sr λ_ J5=>FA 1 jT aP ?_)));refine LU 1 Y3 (BallotT.at_who a rfl) ?_;refine FA 1 jT aP ?_;refine LU 0 Y3 (BallotT.at_who b rfl) ?_;refine P2 ?_;refine nx J5 (ai (WK [] (au rfl rfl ?_)));exact⟨congrArg Value.bool (by simp[Bc, *]),rfl⟩
theorem rK(a:AccT)(ep:Int)(b:BallotT):
 DT 175 #[(.agg (ints a.flat).toArray),(.int .i64 (ep)),(.agg (ints b.flat).toArray)] T0 [] (RI (.bool (yz a ep b)) []):=by
 refine BD 22 Tryz.func175 rfl rfl rfl λw0 F hF=>sr λ_ J1=>XY (ints a.flat) λb3=>?_
 refine XY (ints b.flat) λb5=>?_
 refine PS ?_;refine nx J1 (sr λ_ J2=>PS ?_);refine FA 0 iF aP ?_;refine LU 1 Y3 (AccT.at_epoch a rfl) ?_;refine PS ?_;refine an ?_ ?_<;>intro h10;refine PS ?_
 iterate 3 refine UT ?_
 refine P2 ?_
 iterate 4 refine UT ?_
 refine P2 ?_;refine nx J2 (ai (WK [] (au rfl rfl ?_)));exact⟨congrArg Value.bool (by simp[yz, *]),rfl⟩;refine PS ?_;refine FA 0 jT aP ?_;refine LU 0 Y3 (e4 b rfl) ?_;refine PS ?_;refine an ?_ ?_<;>intro h14;refine P2 ?_
 iterate 4 refine UT ?_
 refine P2 ?_;refine nx J2 (ai (WK [] (au rfl rfl ?_)));exact⟨congrArg Value.bool (by simp[yz, *]),rfl⟩;refine P2 ?_;refine LW 0 jT cp ao ?_;refine FA 1 iF cp ?_;refine LV 1 jT cp ao AccT.sp_vow (y:=a.vow) ?_;refine CE Js (yf b a.vow) ID ?_;refine P2 ?_;refine nx J2 (ai (WK [] (au rfl rfl ?_)));exact⟨congrArg Value.bool (by simp[yz, *]),rfl⟩
theorem nb(a:AccT)(ep:Int)(b:BallotT):
 DT 153 #[(.agg (ints a.flat).toArray),(.int .i64 (ep)),(.agg (ints b.flat).toArray)] T0 [] (RI (.tuple #[.agg (ints (bP a ep b).1.flat).toArray, .bool (bP a ep b).2]) []):=by
 refine BD 16 Tryz.func153 rfl rfl rfl λw0 F hF=>sr λ_ J1=>XY (ints a.flat) λb3=>?_
 refine XY (ints b.flat) λb5=>?_
 refine XZ uI (ints AccT.zero.flat) λb6=>?_
 refine PS ?_;refine nx J1 (ab λ_ J2=>sr λ_ J3=>LW 2 iF dq aY ?_);refine PS ?_;refine LW 1 jT cp ao ?_;refine CE Jv (rK a ep b) ID ?_;refine aW ?_ ?_<;>intro h11;refine nx J3 (CY (sr λ_ J4=>LW 2 iF dq aY ?_));refine SW 0 dq aY ?_;refine PS ?_;refine nx J4 (ai (ae (RT 0 [] iF dq (aY _) ?_)));exact⟨by rw[bP];simp_all,rfl⟩;refine nx J3 (CN (qx J2 (sr λ_ J5=>LW 1 jT cp ao ?_)));refine FA 1 iF cp ?_;refine SP 2 cp ao aY AccT.wp_vow ?_;refine nx J5 (sr λ_ J6=>LW 2 iF dq aY ?_);refine SW 0 dq aY ?_;refine PS ?_;refine nx J6 (ai (RT 0 [] iF dq (aY _) ?_));exact⟨by rw[bP];simp_all,rfl⟩
theorem tY(a:AccT)(ep:Int)(b:BallotT)(ch:ChangeT):
 DT 180 #[(.agg (ints a.flat).toArray),(.int .i64 (ep)),(.agg (ints b.flat).toArray),(.agg (ints ch.flat).toArray)] T0 [] (RI (.tuple #[.agg (ints (gi a ep b ch).1.flat).toArray, .bool (gi a ep b ch).2]) []):=by
 refine BD 22 Tryz.func180 rfl rfl rfl λw0 F hF=>sr λ_ J1=>XY (ints a.flat) λb4=>?_
 refine XY (ints b.flat) λb6=>?_
 refine XY (ints ch.flat) λb7=>?_
 refine XZ uI (ints AccT.zero.flat) λb8=>?_
 refine PS ?_;refine nx J1 (ab λ_ J2=>sr λ_ J3=>LW 3 iF dq aY ?_);refine PS ?_;refine LW 2 jT cp ao ?_;refine CE Jv (rK a ep b) ID ?_;refine aW ?_ ?_<;>intro h13;refine nx J3 (CY (sr λ_ J4=>LW 3 iF dq aY ?_));refine SW 0 dq aY ?_;refine PS ?_;refine nx J4 (ai (ae (RT 0 [] iF dq (aY _) ?_)));exact⟨by rw[gi];simp_all,rfl⟩;refine nx J3 (CN (qx J2 (ab λ_ J5=>D2 2 1 bh ?_)));refine LY 0 jT cp ao ?_;refine LY 1 jT cp ao ?_;refine LY 2 mR fy aJ ?_;refine FD 3 1 iF cp ?_;refine AL 4 ?_;refine SP 3 cp ao aY AccT.wp_vow ?_;refine EN (FD 5 3 iF cp ?_);refine AL 6 ?_;refine SP 3 cp ao aY AccT.wp_had ?_;refine EN (FD 7 5 iF fy ?_);refine AL 8 ?_;refine SP 3 fy aJ aY AccT.wp_change ?_;refine EN (DN (ac J5 (sr λ_ J6=>LW 3 iF dq aY ?_)));refine SW 0 dq aY ?_;refine PS ?_;refine nx J6 (ai (RT 0 [] iF dq (aY _) ?_));exact⟨by rw[gi];simp_all,rfl⟩
theorem tF(b:Int):
 DT 184 #[(.int .i64 (b))] T0 [] (c9 (λr' H=>∃u,r'=u∧H=[own u (Cq b).length (ints (Cq b)) 3 1])):=by
 refine BD 19 Tryz.func184 rfl rfl rfl λw0 F hF=>sr λ_ J1=>PS ?_
 refine nx J1 (sr λ_ J2=>PS ?_);refine nx J2 (ab λ_ J3=>sr λ_ J4=>PS ?_);refine nx J4 (aq ?_)
 refine bn (α:=(Nat)×(Value)) (λ⟨k,u⟩=>k≤5∧u.oneCell'=true) (λ⟨k,u⟩=>[(0,(.int .i64 (b))),(2,(.slice none 0 0)),(3,u),(5,(.int .i64 (((k:Nat):Int))))]) (λ⟨k,u⟩=>[own u ((kI b k).length) (ints (kI b k)) 3 1]) (λ⟨k,u⟩=>5-k) (0,(.slice none 0 0))
  ⟨aN _,rfl⟩ SB
  (λ_ s=>gy 3 1 (ak [] rfl s)) (λ⟨k,u⟩ hinv=>?_)
 obtain⟨hk,hu⟩:=hinv;have hol:=sR b k;refine sr λ_ J5=>PS ?_
 refine an ?_ ?_<;>intro h6;refine nx J5 (ab λ_ J6=>CY (qx J6 (ab λ_ J7=>aq (sr λ_ J8=>P2 ?_))));refine nx J8 (sr λ_ J9=>P2 ?_);refine tp (lD (r:=(b.fdiv (2^min ((k:Nat):Int).toNat IntKind.i64.bits))) rfl rfl rfl (by omega) rfl) ?_;refine tp (uu (r:=((b.fdiv (2^min ((k:Nat):Int).toNat IntKind.i64.bits))%2)) rfl rfl rfl (mask (k:=1) (by decide) _)) ?_;refine PS ?_;refine an ?_ ?_<;>intro h12;refine nx J9 (CY (ad (P2 ?_)));refine aU (cells:=#[(.int .i64 (((k:Nat):Int)))]) (aa rfl) rfl rfl rfl jZ qO rfl rfl rfl (by as_aux_lemma=>kernel_rfl) (λb15=>cE (k:=1) (news:=[(.int .i64 (((k:Nat):Int)))]) (nn':=(kI b k).length+1) (xs':=ints (kI b k)++[(.int .i64 (((k:Nat):Int)))]) (aa rfl) rfl rfl rfl jZ qO rfl rfl rfl rfl rfl rfl (λ_ _=>jl rfl (RO 0) rfl) (by simp[Value.oneCell']) (by simp only[maxLen];omega) (by omega) (by simp) (by simp) (λv16 ov16=>PS ?_));refine ap (af (ac J7 (ad (AD ?_))));refine PS ?_;refine ap ?_
 exact aI ((k+1,v16):(Nat)×(Value)) ⟨by omega,ov16⟩ (by show 5- (k+1)<5-k;omega)
  SB
  (λ_ q=>by
   show bC [own v16 (kI b (k+1)).length (ints (kI b (k+1))) 3 1] _;rw[show kI b (k+1)=kI b k++[((k:Nat):Int)]by rw[vd,if_pos (by rw[Gf,decide_eq_true (by assumption)])],aj,eh]
   exact ak [1] rfl q)
 refine nx J9 (CN (aQ (af (ac J7 (ad (AD ?_))))));refine PS ?_;refine ap ?_
 exact aI ((k+1,u):(Nat)×(Value)) ⟨by omega,hu⟩ (by show 5- (k+1)<5-k;omega)
  SB
  (λ_ q=>by
   show bC [own u (kI b (k+1)).length (ints (kI b (k+1))) 3 1] _;rw[show kI b (k+1)=kI b k by rw[vd,if_neg (by rw[Gf,decide_eq_false (by assumption)];decide),bb]]
   exact ak [0] rfl q)
 refine nx J5 (ab λ_ J10=>CN (aS (ay (ay (bj (ac J3 (sr λ_ J11=>P2 ?_)))))));refine nx J11 (ai (WK [0] (au rfl rfl ?_)));obtain rfl:k=5:=by omega
 exact⟨u,rfl,rfl⟩
theorem zj(part all:Int):
 DT 183 #[(.int .i64 (part)),(.int .i64 (all))] T0 [] (RI (.bool (JN part all)) []):=by
 refine BD 15 Tryz.func183 rfl rfl rfl λw0 F hF=>sr λ_ J1=>PS ?_
 refine nx J1 (sr λ_ J2=>P2 ?_);refine tp (uu (r:=(sw .i64 part all)) rfl rfl rfl rfl) ?_;refine CR Jr (tF (sw .i64 part all)) ID λvR HR hR=>?_
 obtain⟨_,rfl,rfl⟩:=hR;revert vR;intro us1;refine kD 0 rfl rfl (λhlus1 _=>?_);have hzus1:=sR (sw .i64 part all) 5;change (Cq (sw .i64 part all)).length≤5 at hzus1;refine tp (dX rfl jZ rfl hlus1) ?_;refine tp (Jg (r:=(2* (((Cq (sw .i64 part all)).length:Nat):Int))) rfl rfl rfl (bH (by omega) (by omega))) ?_;refine PS ?_;refine CR Jr (tF all) ID λvR HR hR=>?_
 obtain⟨_,rfl,rfl⟩:=hR;revert vR;intro us2;refine kD 0 rfl rfl (λhlus2 _=>?_);have hzus2:=sR all 5;change (Cq all).length≤5 at hzus2;refine tp (dX rfl jZ rfl hlus2) ?_;refine P2 ?_;exact nx J2 (ai (WK [] (au rfl rfl ⟨rfl,rfl⟩)))
theorem iZ(v:ViewT)(bits:Int):
 DT 182 #[(.agg (ints v.flat).toArray),(.int .i64 (bits))] T0 [] (RI (.bool (gp v bits)) []):=by
 refine BD 9 Tryz.func182 rfl rfl rfl λw0 F hF=>sr λ_ J1=>XY (ints v.flat) λb2=>?_
 refine PS ?_;refine nx J1 (sr λ_ J2=>PS ?_);refine FA 1 eE aP ?_;refine LU 0 Y3 (lP v rfl) ?_;refine CE LQ (zj bits v.members) ID ?_;refine PS ?_;exact nx J2 (ai (WK [] (au rfl rfl ⟨rfl,rfl⟩)))
theorem yK(v:ViewT)(b:BallotT)(ch:ChangeT):
 DT 154 #[(.agg (ints v.flat).toArray),(.agg (ints b.flat).toArray),(.agg (ints ch.flat).toArray)] T0 [] (c9 (λr' H=>∃vb,r'= .pointer (some ⟨vb,0,none⟩)∧H=[ag vb (VoteT.cells (jR v b ch)) 227])):=by
 refine BD 12 Tryz.func154 rfl rfl rfl λw0 F hF=>sr λ_ J1=>XY (ints v.flat) λb3=>?_
 refine XY (ints b.flat) λb4=>?_
 refine XY (ints ch.flat) λb5=>?_
 refine PS ?_;refine nx J1 (sr λ_ J2=>LW 2 eE bc am ?_);refine LW 1 jT cp ao ?_;refine LW 0 mR fy aJ ?_;refine tp (xE (cs:=VoteT.cells (VoteT.mk v b ch BallotT.zero 0 0 false)) (segs:=[ints ViewT.zero.flat,ints BallotT.zero.flat,ints ChangeT.zero.flat,ints BallotT.zero.flat,[Value.int .i64 0],[Value.int .i64 0],[Value.bool false]]) (res:=[ints v.flat,ints b.flat,ints ch.flat,ints BallotT.zero.flat,[Value.int .i64 0],[Value.int .i64 0],[Value.bool false]]) (parts:=[(0,ints v.flat),(1,ints b.flat),(2,ints ch.flat)]) rfl rfl jk (by kernel_rfl) (by kernel_rfl) rfl (e5 rfl ((am v).trans (am ViewT.zero).symm) (e5 rfl ((ao b).trans (ao BallotT.zero).symm) (e5 rfl ((aJ ch).trans (aJ ChangeT.zero).symm) ll))) (fm (VoteT.mk v b ch BallotT.zero 0 0 false)).symm) ?_;refine XY (VoteT.cells (VoteT.mk v b ch BallotT.zero 0 0 false)) λb11=>?_
 refine PS ?_;exact nx J2 (ai (WK [0] (au rfl rfl ⟨b11,rfl,rfl⟩)))
theorem bE(vb:Nat)(v:VoteT):
 DT 155 #[(.pointer (some ⟨vb,0,none⟩))] T0 [ag vb (VoteT.cells v) 227] (RI (.agg (ints v.ballot.flat).toArray) [ag vb (VoteT.cells v) 227]):=by
 refine BD 7 Tryz.func155 rfl rfl rfl λw0 F hF=>sr λ_ J1=>XZ M4 (ints BallotT.zero.flat) λb2=>?_
 refine nx J1 (sr λ_ J2=>P2 ?_);refine FA 7 jk cp ?_;refine LV 1 jT cp ao VoteT.sp_ballot (y:=v.ballot) ?_;refine SW 0 cp ao ?_;refine nx J2 (ai (RC 0 [1] jT cp (ao _) ?_));exact⟨rfl,rfl⟩
theorem cV(vb:Nat)(v:VoteT):
 DT 111 #[(.pointer (some ⟨vb,0,none⟩))] T0 [ag vb (VoteT.cells v) 227] (RI (.agg (ints v.change.flat).toArray) [ag vb (VoteT.cells v) 227]):=by
 refine BD 7 Tryz.func111 rfl rfl rfl λw0 F hF=>sr λ_ J1=>XZ M7 (ints ChangeT.zero.flat) λb2=>?_
 refine nx J1 (sr λ_ J2=>P2 ?_);refine FA 9 jk fy ?_;refine LV 1 mR fy aJ VoteT.sp_change (y:=v.change) ?_;refine SW 0 fy aJ ?_;refine nx J2 (ai (RC 0 [1] mR fy (aJ _) ?_));exact⟨rfl,rfl⟩
theorem nB(vb:Nat)(v:VoteT):
 DT 156 #[(.pointer (some ⟨vb,0,none⟩))] T0 [ag vb (VoteT.cells v) 227] (RI (.bool v.putting) [ag vb (VoteT.cells v) 227]):=by
 refine BD 7 Tryz.func156 rfl rfl rfl λw0 F hF=>sr λ_ J1=>PS ?_
 refine nx J1 (sr λ_ J2=>P2 ?_);refine FA 16 jk ka ?_;refine LU 0 Y4 (lO v rfl) ?_;refine PS ?_;exact nx J2 (ai (WK [0] (au rfl rfl ⟨rfl,rfl⟩)))
theorem Ce(vb:Nat)(v:VoteT)(who:Int)(b had:BallotT)(ch:ChangeT)(hb:WF b.flat)(hvb:WF v.ballot.flat):
 DT 172 #[(.pointer (some ⟨vb,0,none⟩)),(.int .i64 (who)),(.agg (ints b.flat).toArray),(.agg (ints had.flat).toArray),(.agg (ints ch.flat).toArray)] T0 [ag vb (VoteT.cells v) 227] (RI (.bool (eI v who b had ch).2) [ag vb (VoteT.cells (eI v who b had ch).1) 227]):=by
 refine BD 76 Tryz.func172 rfl rfl rfl λw0 F hF=>sr λ_ J1=>XY (ints b.flat) λb7=>?_
 refine XY (ints had.flat) λb8=>?_
 refine XY (ints ch.flat) λb9=>?_
 refine PS ?_;refine nx J1 (ab λ_ J2=>ab λ_ J3=>D2 3 2 bh ?_);refine PD 0 ?_;refine PD 1 ?_;refine FD 2 16 jk ka ?_;refine LR 3 Y4 (lO v rfl) ?_;refine kM ?_ ?_<;>intro h14;refine PD 4 ?_;refine NT 5 ?_;refine NT 6 ?_;refine NT 7 ?_;refine NT 8 ?_;refine NT 9 ?_;refine NT 10 ?_;refine PD 11 ?_;refine PD 12 ?_;refine NT 13 ?_;refine NT 14 ?_;refine NT 15 ?_;refine NT 16 ?_;refine NT 17 ?_;refine NT 18 ?_;refine NT 19 ?_;refine PD 20 ?_;refine DN (ac J3 (CY (sr λ_ J4=>PS ?_)));refine nx J4 (ai (ae (WK [3] (au rfl rfl ?_))));have e:eI v who b had ch=(v,false):=by rw[eI,h14,if_pos (by rfl)]
 exact⟨congrArg (λq:VoteT×Bool=>Value.bool q.2) e.symm,congrArg (λq:VoteT×Bool=>[ag vb (VoteT.cells q.1) 227]) e.symm⟩;refine PD 4 ?_;refine LY 5 jT cp ao ?_;refine PD 6 ?_;refine PD 7 ?_;refine FD 8 7 jk cp ?_;refine tb 9 rfl (aM (vs:=ints v.ballot.flat) rfl jT rfl cp rfl (λ_ h=>h.2.1) (ao v.ballot) (Je v 0 rfl (by decide) (whole (ao v.ballot)))) ?_;refine tb 10 rfl (wR (a:=b.flat) (b:=v.ballot.flat) (m:=6) (c:=2) Kc Ka rfl KC (cG (ao b)) (cG (ao v.ballot)) ⟨e9 F5 Gd (cG (ao b)),e9 F5 Gd (cG (ao v.ballot))⟩ hb hvb rfl rfl rfl) ?_;refine gR ?_ ?_<;>intro h21;refine PD 11 ?_;refine PD 12 ?_;refine NT 13 ?_;refine NT 14 ?_;refine NT 15 ?_;refine NT 16 ?_;refine NT 17 ?_;refine NT 18 ?_;refine NT 19 ?_;refine PD 20 ?_;refine DN (ac J3 (CY (sr λ_ J5=>PS ?_)));refine nx J5 (ai (ae (WK [3] (au rfl rfl ?_))));have e:eI v who b had ch=(v,false):=by rw[eI,ng,decide_eq_false h21,if_pos (by rw[h14];rfl)]
 exact⟨congrArg (λq:VoteT×Bool=>Value.bool q.2) e.symm,congrArg (λq:VoteT×Bool=>[ag vb (VoteT.cells q.1) 227]) e.symm⟩;refine PD 11 ?_;refine PD 12 ?_;refine PD 13 ?_;refine PD 14 ?_;refine FD 15 0 jk bc ?_;refine tb 16 rfl (aM (vs:=ints v.view.flat) rfl eE rfl bc rfl (λ_ h=>h.2.1) (am v.view) (BW v 0 rfl (by decide) (whole (am v.view)))) ?_;refine PD 17 ?_;refine AL 18 ?_;refine CE pD (dv v.view who) ID ?_;refine aW ?_ ?_<;>intro h29;have hw:0≤who∧who<5:=by unfold iD cF at h29;simp only[av,decide_eq_true_eq]at h29;exact h29.1
 refine EN (PD 19 ?_);refine PD 20 ?_;refine DN (ac J3 (CN (qx J2 (ab λ_ J6=>D0 bh ?_))));refine PD 0 ?_;refine PD 1 ?_;refine FD 2 14 jk aP ?_;refine PD 4 ?_;refine ta 5 rfl (xC (r:=(cU who)) rfl rfl rfl (by omega) rfl) ?_;refine AL 3 ?_;refine LU 3 Y3 (ly v rfl) ?_;refine EN (ta 6 rfl (H4 (r:=(iu .i64 v.vowed (cU who))) rfl rfl rfl rfl) ?_);refine PD 7 ?_;refine FD 8 14 jk aP ?_;refine AL 9 ?_;refine SS 3 aP (nc _) (VoteT.set_vowed v rfl _) ?_;refine EN (DN (ac J6 (ab λ_ J7=>ab λ_ J8=>D2 1 3 bh ?_)));refine FD 0 0 jT aP ?_;refine LR 1 Y3 (e4 had rfl) ?_;refine PD 2 ?_;refine gR ?_ ?_<;>intro h43;refine PD 3 ?_;refine PD 4 ?_;refine PD 5 ?_;refine FD 6 12 jk cp ?_;refine tb 7 rfl (aM (vs:=ints v.best.flat) rfl jT rfl cp rfl (λ_ h=>h.2.2.1) (ao v.best) (VoteT.sub_best (VoteT.mk v.view v.ballot v.change v.best (iu .i64 v.vowed (cU who)) v.took v.putting) 0 rfl (by decide) (whole (ao v.best)))) ?_;refine LY 8 jT cp ao ?_;refine AL 9 ?_;refine CE Js (yf v.best had) ID ?_;refine aW ?_ ?_<;>intro h50;refine EN (PD 10 ?_);refine DN (ac J8 (CY (D2 1 0 bh ?_)));refine PD 0 ?_;refine PD 1 ?_;refine LY 2 jT cp ao ?_;refine LY 3 mR fy aJ ?_;refine PD 4 ?_;refine FD 5 12 jk cp ?_;refine AL 6 ?_;refine SP 3 cp ao nc VoteT.wp_best ?_;refine EN (PD 7 ?_);refine FD 8 9 jk fy ?_;refine AL 9 ?_;refine SP 3 fy aJ nc VoteT.wp_change ?_
 refine EN (DN (ac J7 (ab λ_ J9=>eV (α:=Unit) (λ_=>True) (λ_u=>[(0,(.pointer (some ⟨vb,0,none⟩))),(10,(.bool false))]) (λ_u=>[ag b9 (ints ch.flat) 28,ag b8 (ints had.flat) 88,ag b7 (ints b.flat) 88,ag vb (VoteT.cells (VoteT.mk v.view v.ballot ch had (iu .i64 v.vowed (cU who)) v.took (gp v.view (iu .i64 v.vowed (cU who))))) 227]) (λ_u _=>?_) (λtl9=>?_))));refine ac J9 (sr λ_ J10=>P2 ?_);refine FA 16 jk ka ?_;refine LT 3 Y4 (.bool (gp v.view (iu .i64 v.vowed (cU who)))) ?_ (hc:=by exact lO _ rfl);refine PS ?_;refine nx J10 (ai (WK [3] (au rfl rfl ?_)));have e:eI v who b had ch=((VoteT.mk v.view v.ballot ch had (iu .i64 v.vowed (cU who)) v.took (gp v.view (iu .i64 v.vowed (cU who)))),gp v.view (iu .i64 v.vowed (cU who))):=by rw[eI,ng,decide_eq_true (show b.flat=v.ballot.flat from Decidable.not_not.1 h21),h29,h14,if_neg (by decide),uS,decide_eq_true (show 0<had.round by omega),h50,if_pos (by decide)]
 exact⟨congrArg (λq:VoteT×Bool=>Value.bool q.2) e.symm,congrArg (λq:VoteT×Bool=>[ag vb (VoteT.cells q.1) 227]) e.symm⟩;refine D0 bh ?_;refine PD 0 ?_;refine PD 1 ?_;refine PD 2 ?_;refine FD 3 0 jk bc ?_;refine PD 5 ?_;refine PD 6 ?_;refine FD 7 14 jk aP ?_;refine cw [4,8] (by kernel_rfl) rfl (aE rfl ?_ ?_);refine LV 3 eE bc am oX (y:=v.view) ?_;refine EN (AL 8 ?_);refine LT 3 Y3 (.int .i64 ((iu .i64 v.vowed (cU who)))) ?_ (hc:=by exact ly _ rfl);refine EN (AL 9 ?_);refine CE vK (iZ v.view (iu .i64 v.vowed (cU who))) ID ?_;refine EN (PD 10 ?_);refine FD 11 16 jk ka ?_;refine AL 12 ?_;refine SS 3 ka (nc _) (kL _ rfl _) ?_;refine EN (DN ?_)
 exact aF
  SB
  (λ_ s=>s)
  (tl9 (():Unit) trivial)
 refine aE rfl ?_ ?_;refine LT 3 Y3 (.int .i64 ((iu .i64 v.vowed (cU who)))) ?_ (hc:=by exact ly _ rfl);refine EN (AL 4 ?_);refine LV 3 eE bc am oX (y:=v.view) ?_;refine EN (AL 9 ?_);refine CE vK (iZ v.view (iu .i64 v.vowed (cU who))) ID ?_;refine EN (PD 10 ?_);refine FD 11 16 jk ka ?_;refine AL 12 ?_;refine SS 3 ka (nc _) (kL _ rfl _) ?_;refine EN (DN ?_)
 exact aF
  SB
  (λ_ s=>s)
  (tl9 (():Unit) trivial)
 exact bw;refine EN (PD 10 ?_);refine DN (ac J8 (CN (qx J7 (ab λ_ J11=>eV (α:=Unit) (λ_=>True) (λ_u=>[(0,(.pointer (some ⟨vb,0,none⟩))),(10,(.bool false))]) (λ_u=>[ag b9 (ints ch.flat) 28,ag b8 (ints had.flat) 88,ag b7 (ints b.flat) 88,ag vb (VoteT.cells (VoteT.mk v.view v.ballot v.change v.best (iu .i64 v.vowed (cU who)) v.took (gp v.view (iu .i64 v.vowed (cU who))))) 227]) (λ_u _=>?_) (λtl11=>?_)))));refine ac J11 (sr λ_ J12=>P2 ?_);refine FA 16 jk ka ?_;refine LT 3 Y4 (.bool (gp v.view (iu .i64 v.vowed (cU who)))) ?_ (hc:=by exact lO _ rfl);refine PS ?_;refine nx J12 (ai (WK [3] (au rfl rfl ?_)));have e:eI v who b had ch=((VoteT.mk v.view v.ballot v.change v.best (iu .i64 v.vowed (cU who)) v.took (gp v.view (iu .i64 v.vowed (cU who)))),gp v.view (iu .i64 v.vowed (cU who))):=by rw[eI,ng,decide_eq_true (show b.flat=v.ballot.flat from Decidable.not_not.1 h21),h29,h14,if_neg (by decide),uS,h50,lJ,if_neg (by decide)]
 exact⟨congrArg (λq:VoteT×Bool=>Value.bool q.2) e.symm,congrArg (λq:VoteT×Bool=>[ag vb (VoteT.cells q.1) 227]) e.symm⟩;refine D0 bh ?_;refine PD 0 ?_;refine PD 1 ?_;refine PD 2 ?_;refine FD 3 0 jk bc ?_;refine PD 5 ?_;refine PD 6 ?_;refine FD 7 14 jk aP ?_;refine cw [4,8] (by kernel_rfl) rfl (aE rfl ?_ ?_);refine LV 3 eE bc am oX (y:=v.view) ?_;refine EN (AL 8 ?_);refine LT 3 Y3 (.int .i64 ((iu .i64 v.vowed (cU who)))) ?_ (hc:=by exact ly _ rfl);refine EN (AL 9 ?_);refine CE vK (iZ v.view (iu .i64 v.vowed (cU who))) ID ?_;refine EN (PD 10 ?_);refine FD 11 16 jk ka ?_;refine AL 12 ?_;refine SS 3 ka (nc _) (kL _ rfl _) ?_;refine EN (DN ?_)
 exact aF
  SB
  (λ_ s=>s)
  (tl11 (():Unit) trivial)
 refine aE rfl ?_ ?_;refine LT 3 Y3 (.int .i64 ((iu .i64 v.vowed (cU who)))) ?_ (hc:=by exact ly _ rfl);refine EN (AL 4 ?_);refine LV 3 eE bc am oX (y:=v.view) ?_;refine EN (AL 9 ?_);refine CE vK (iZ v.view (iu .i64 v.vowed (cU who))) ID ?_;refine EN (PD 10 ?_);refine FD 11 16 jk ka ?_;refine AL 12 ?_;refine SS 3 ka (nc _) (kL _ rfl _) ?_;refine EN (DN ?_)
 exact aF
  SB
  (λ_ s=>s)
  (tl11 (():Unit) trivial)
 exact bw;refine PD 3 ?_;refine NT 4 ?_;refine NT 5 ?_;refine NT 6 ?_;refine NT 7 ?_;refine NT 8 ?_;refine NT 9 ?_;refine PD 10 ?_;refine DN (ac J8 (CN (qx J7 (ab λ_ J13=>eV (α:=Unit) (λ_=>True) (λ_u=>[(0,(.pointer (some ⟨vb,0,none⟩))),(10,(.bool false))]) (λ_u=>[ag b9 (ints ch.flat) 28,ag b8 (ints had.flat) 88,ag b7 (ints b.flat) 88,ag vb (VoteT.cells (VoteT.mk v.view v.ballot v.change v.best (iu .i64 v.vowed (cU who)) v.took (gp v.view (iu .i64 v.vowed (cU who))))) 227]) (λ_u _=>?_) (λtl13=>?_)))));refine ac J13 (sr λ_ J14=>P2 ?_);refine FA 16 jk ka ?_;refine LT 3 Y4 (.bool (gp v.view (iu .i64 v.vowed (cU who)))) ?_ (hc:=by exact lO _ rfl);refine PS ?_;refine nx J14 (ai (WK [3] (au rfl rfl ?_)));have e:eI v who b had ch=((VoteT.mk v.view v.ballot v.change v.best (iu .i64 v.vowed (cU who)) v.took (gp v.view (iu .i64 v.vowed (cU who)))),gp v.view (iu .i64 v.vowed (cU who))):=by rw[eI,ng,decide_eq_true (show b.flat=v.ballot.flat from Decidable.not_not.1 h21),h29,h14,if_neg (by decide),uS,decide_eq_false (show ¬0<had.round by omega),gx,if_neg (by decide)]
 exact⟨congrArg (λq:VoteT×Bool=>Value.bool q.2) e.symm,congrArg (λq:VoteT×Bool=>[ag vb (VoteT.cells q.1) 227]) e.symm⟩;refine D0 bh ?_;refine PD 0 ?_;refine PD 1 ?_;refine PD 2 ?_;refine FD 3 0 jk bc ?_;refine PD 5 ?_;refine PD 6 ?_;refine FD 7 14 jk aP ?_;refine cw [4,8] (by kernel_rfl) rfl (aE rfl ?_ ?_);refine LV 3 eE bc am oX (y:=v.view) ?_;refine EN (AL 8 ?_);refine LT 3 Y3 (.int .i64 ((iu .i64 v.vowed (cU who)))) ?_ (hc:=by exact ly _ rfl);refine EN (AL 9 ?_);refine CE vK (iZ v.view (iu .i64 v.vowed (cU who))) ID ?_;refine EN (PD 10 ?_);refine FD 11 16 jk ka ?_;refine AL 12 ?_;refine SS 3 ka (nc _) (kL _ rfl _) ?_;refine EN (DN ?_)
 exact aF
  SB
  (λ_ s=>s)
  (tl13 (():Unit) trivial)
 refine aE rfl ?_ ?_;refine LT 3 Y3 (.int .i64 ((iu .i64 v.vowed (cU who)))) ?_ (hc:=by exact ly _ rfl);refine EN (AL 4 ?_);refine LV 3 eE bc am oX (y:=v.view) ?_;refine EN (AL 9 ?_);refine CE vK (iZ v.view (iu .i64 v.vowed (cU who))) ID ?_;refine EN (PD 10 ?_);refine FD 11 16 jk ka ?_;refine AL 12 ?_;refine SS 3 ka (nc _) (kL _ rfl _) ?_;refine EN (DN ?_)
 exact aF
  SB
  (λ_ s=>s)
  (tl13 (():Unit) trivial)
 exact bw;refine EN (PD 19 ?_);refine PD 20 ?_;refine DN (ac J3 (CY (sr λ_ J15=>PS ?_)));refine nx J15 (ai (ae (WK [3] (au rfl rfl ?_))));have e:eI v who b had ch=(v,false):=by rw[eI,ng,h29,if_pos (by rw[h14,lJ];rfl)]
 exact⟨congrArg (λq:VoteT×Bool=>Value.bool q.2) e.symm,congrArg (λq:VoteT×Bool=>[ag vb (VoteT.cells q.1) 227]) e.symm⟩
theorem Cm(vb:Nat)(v:VoteT)(who:Int)(b:BallotT)(hb:WF b.flat)(hvb:WF v.ballot.flat):
 DT 173 #[(.pointer (some ⟨vb,0,none⟩)),(.int .i64 (who)),(.agg (ints b.flat).toArray)] T0 [ag vb (VoteT.cells v) 227] (RI (.bool (gh v who b).2) [ag vb (VoteT.cells (gh v who b).1) 227]):=by
 refine BD 47 Tryz.func173 rfl rfl rfl λw0 F hF=>sr λ_ J1=>XY (ints b.flat) λb5=>?_
 refine PS ?_;refine nx J1 (ab λ_ J2=>ab λ_ J3=>D2 1 0 bh ?_);refine PD 0 ?_;refine PD 1 ?_;refine FD 2 16 jk ka ?_;refine LR 3 Y4 (lO v rfl) ?_;refine kM ?_ ?_<;>intro h10;refine PD 4 ?_;refine PD 5 ?_;refine LY 6 jT cp ao ?_;refine PD 7 ?_;refine PD 8 ?_;refine FD 9 7 jk cp ?_;refine tb 10 rfl (aM (vs:=ints v.ballot.flat) rfl jT rfl cp rfl (λ_ h=>h.2.1) (ao v.ballot) (Je v 0 rfl (by decide) (whole (ao v.ballot)))) ?_;refine tb 11 rfl (wR (a:=b.flat) (b:=v.ballot.flat) (m:=6) (c:=2) Kc Ka rfl KC (cG (ao b)) (cG (ao v.ballot)) ⟨e9 F5 Gd (cG (ao b)),e9 F5 Gd (cG (ao v.ballot))⟩ hb hvb rfl rfl rfl) ?_;refine gR ?_ ?_<;>intro h18;refine PD 12 ?_;refine PD 13 ?_;refine NT 14 ?_;refine NT 15 ?_;refine NT 16 ?_;refine NT 17 ?_;refine NT 18 ?_;refine NT 19 ?_;refine NT 20 ?_;refine PD 21 ?_;refine DN (ac J3 (CY (sr λ_ J4=>PS ?_)));refine nx J4 (ai (ae (WK [1] (au rfl rfl ?_))));have e:gh v who b=(v,false):=by rw[gh,ng,decide_eq_false h18,if_pos (by rw[h10];rfl)]
 exact⟨congrArg (λq:VoteT×Bool=>Value.bool q.2) e.symm,congrArg (λq:VoteT×Bool=>[ag vb (VoteT.cells q.1) 227]) e.symm⟩;refine PD 12 ?_;refine PD 13 ?_;refine PD 14 ?_;refine PD 15 ?_;refine FD 16 0 jk bc ?_;refine tb 17 rfl (aM (vs:=ints v.view.flat) rfl eE rfl bc rfl (λ_ h=>h.2.1) (am v.view) (BW v 0 rfl (by decide) (whole (am v.view)))) ?_;refine PD 18 ?_;refine AL 19 ?_;refine CE pD (dv v.view who) ID ?_;refine aW ?_ ?_<;>intro h26;have hw:0≤who∧who<5:=by unfold iD cF at h26;simp only[av,decide_eq_true_eq]at h26;exact h26.1
 refine EN (PD 20 ?_);refine PD 21 ?_;refine DN (ac J3 (CN (qx J2 (ab λ_ J5=>D0 bh ?_))));refine PD 0 ?_;refine PD 1 ?_;refine FD 2 15 jk aP ?_;refine PD 4 ?_;refine ta 5 rfl (xC (r:=(cU who)) rfl rfl rfl (by omega) rfl) ?_;refine AL 3 ?_;refine LU 1 Y3 (VoteT.at_took v rfl) ?_;refine EN (ta 6 rfl (H4 (r:=(iu .i64 v.took (cU who))) rfl rfl rfl rfl) ?_);refine PD 7 ?_;refine FD 8 15 jk aP ?_;refine AL 9 ?_;refine SS 1 aP (nc _) (VoteT.set_took v rfl _) ?_;refine EN (DN (ac J5 (ab λ_ J6=>D1 1 bh ?_)));refine PD 0 ?_;refine PD 1 ?_;refine FD 2 0 jk bc ?_;refine ta 3 rfl (aM (vs:=ints v.view.flat) rfl eE rfl bc rfl (λ_ h=>h.2.1) (am v.view) (BW (VoteT.mk v.view v.ballot v.change v.best v.vowed (iu .i64 v.took (cU who)) v.putting) 0 rfl (by decide) (whole (am v.view)))) ?_;refine PD 4 ?_;refine PD 5 ?_;refine FD 6 15 jk aP ?_;refine LX 7 Y3 (.int .i64 ((iu .i64 v.took (cU who)))) ?_ (hc:=by exact VoteT.at_took _ rfl);refine AL 8 ?_;refine CE vK (iZ v.view (iu .i64 v.took (cU who))) ID ?_;refine EN (PD 9 ?_);refine DN (ac J6 (ai (WK [1] (au rfl rfl ?_))));have e:gh v who b=((VoteT.mk v.view v.ballot v.change v.best v.vowed (iu .i64 v.took (cU who)) v.putting),gp v.view (iu .i64 v.took (cU who))):=by rw[gh,ng,decide_eq_true (show b.flat=v.ballot.flat from Decidable.not_not.1 h18),h26,h10,if_neg (by decide)]
 exact⟨congrArg (λq:VoteT×Bool=>Value.bool q.2) e.symm,congrArg (λq:VoteT×Bool=>[ag vb (VoteT.cells q.1) 227]) e.symm⟩;refine EN (PD 20 ?_);refine PD 21 ?_;refine DN (ac J3 (CY (sr λ_ J7=>PS ?_)));refine nx J7 (ai (ae (WK [1] (au rfl rfl ?_))));have e:gh v who b=(v,false):=by rw[gh,ng,h26,if_pos (by rw[h10,lJ];rfl)]
 exact⟨congrArg (λq:VoteT×Bool=>Value.bool q.2) e.symm,congrArg (λq:VoteT×Bool=>[ag vb (VoteT.cells q.1) 227]) e.symm⟩;refine PD 4 ?_;refine PD 5 ?_;refine NT 6 ?_;refine NT 7 ?_;refine NT 8 ?_;refine NT 9 ?_;refine NT 10 ?_;refine NT 11 ?_;refine PD 12 ?_;refine PD 13 ?_;refine NT 14 ?_;refine NT 15 ?_;refine NT 16 ?_;refine NT 17 ?_;refine NT 18 ?_;refine NT 19 ?_;refine NT 20 ?_;refine PD 21 ?_;refine DN (ac J3 (CY (sr λ_ J8=>PS ?_)));refine nx J8 (ai (ae (WK [1] (au rfl rfl ?_))));have e:gh v who b=(v,false):=by rw[gh,h10,if_pos (by rfl)]
 exact⟨congrArg (λq:VoteT×Bool=>Value.bool q.2) e.symm,congrArg (λq:VoteT×Bool=>[ag vb (VoteT.cells q.1) 227]) e.symm⟩
theorem zK{δ:Type}(V:Env δ)(r vb:Nat)(s:MS δ)(vt:VoteT)(hv:s.vote=some vt)[OkR V.toDk s]:
 DT 174 #[(.pointer (some ⟨r,0,none⟩)),(.iface V.T V.ov)] T0 [uG V r s (.pointer (some ⟨vb,0,none⟩)),ag vb (VoteT.cells vt) 227] (c9 (λ_ H=>H=[cC V r (k8 V.toDk s vt.change)])):=by
 refine BD 32 Tryz.func174 rfl rfl rfl λw0 F hF=>ab λ_ J1=>eV (α:=(Nat)) (λ_=>True) (λb4=>[(0,(.pointer (some ⟨r,0,none⟩))),(1,(.iface V.T V.ov)),(4,(.pointer (some ⟨b4,0,none⟩))),(5,(.int .i64 ((dQ s.view vt.change).2)))]) (λb4=>[ag b4 (ints ((dQ s.view vt.change).1).flat) 44,ag vb (VoteT.cells vt) 227,uG V r s (.pointer (some ⟨vb,0,none⟩))]) (λb4 _=>?_) (λtl1=>?_)
 refine ac J1 (ab λ_ J2=>sr λ_ J3=>cq (H':=cC V r s::[ag b4 (ints ((dQ s.view vt.change).1).flat) 44]) (λ_ q=>nP hv (az [2,1] rfl q)) (P2 ?_));refine an ?_ ?_<;>intro h20;refine PS ?_
 iterate 5 refine UT ?_
 refine PS ?_;refine nx J3 (CY (ai (ae (WK [0] (dz rfl ?_)))));exact MQ (by rw[k8,if_pos h20]);refine P3 ?_;refine LW 1 eE bc am ?_;refine CE G8 (tL V r s ((dQ s.view vt.change).1)) ID ?_;refine aW ?_ ?_<;>intro h25;refine PS ?_;refine PS ?_;refine nx J3 (CN (qx J2 (ad (P2 ?_))));refine LW 1 eE bc am ?_;refine CZ Hj (my V r (gY V.toDk s ((dQ s.view vt.change).1)) ((dQ s.view vt.change).1)) ID λvR=>?_
 refine ap (WK [0] (bz rfl ?_));exact MQ (by rw[k8,if_neg h20,h25,if_pos rfl]);refine PS ?_;refine PS ?_;refine nx J3 (CY (ai (ae (WK [0] (dz rfl ?_)))));exact MQ (by rw[k8,if_neg h20,h25,if_neg (by decide)]);refine D1 1 bh ?_;refine PD 0 ?_;refine PD 1 ?_;refine FD 2 2 bg bc ?_;refine PD 4 ?_;refine PD 5 ?_;refine FD 6 1067 bg iO ?_;refine cw [3,7,13] (by kernel_rfl) rfl (aE rfl ?_ ?_);refine LZ 0 eE bc am s.view ?_ (hc:=by exact λ_=>cJ _);refine EN (cw [7,13] (by kernel_rfl) rfl (aE rfl ?_ ?_));refine LG 0 iw (.pointer (some ⟨vb,0,none⟩)) ?_ (hc:=by exact λa_=>(bQ _ rfl));refine EN (cw [8,13] (by kernel_rfl) rfl (aE rfl ?_ ?_));refine CE nN (cV vb vt) (SM [1]) ?_;refine EN (cw [9,13] (by kernel_rfl) rfl (aE rfl ?_ ?_));refine CE mH (de s.view vt.change OkVw.rng) ID ?_;refine EN (PD 10 ?_);refine PD 11 ?_;refine PD 12 ?_;refine AL 13 ?_;refine XZ re (ints ViewT.zero.flat) λb4=>?_
 refine EN (AL 14 ?_);refine SW 0 bc am ?_;refine EN (PD 15 ?_);refine DN ?_
 exact aF
  SB
  (λ_ s=>s)
  (tl1 ((b4):(Nat)) trivial)
 refine aE rfl ?_ ?_;refine XZ re (ints ViewT.zero.flat) λb4=>?_
 refine EN (AL 9 ?_);refine CE mH (de s.view vt.change OkVw.rng) ID ?_;refine EN (PD 10 ?_);refine PD 11 ?_;refine PD 12 ?_;refine AL 14 ?_;refine SW 0 bc am ?_;refine EN (PD 15 ?_);refine DN ?_
 exact aF
  SB
  (λ_ s=>s)
  (tl1 ((b4):(Nat)) trivial)
 exact bw;refine aE rfl ?_ ?_;refine XZ re (ints ViewT.zero.flat) λb4=>?_
 refine EN (AL 8 ?_);refine CE nN (cV vb vt) (SM [2]) ?_;refine EN (AL 9 ?_);refine CE mH (de s.view vt.change OkVw.rng) ID ?_;refine EN (PD 10 ?_);refine PD 11 ?_;refine PD 12 ?_;refine AL 14 ?_;refine SW 1 bc am ?_;refine EN (PD 15 ?_);refine DN ?_
 exact aF
  SB
  (λ_ s=>ak [1,0,0] rfl s)
  (tl1 ((b4):(Nat)) trivial)
 exact bw;refine aE rfl ?_ ?_;refine XZ re (ints ViewT.zero.flat) λb4=>?_
 refine EN (AL 7 ?_);refine LG 1 iw (.pointer (some ⟨vb,0,none⟩)) ?_ (hc:=by exact λa_=>(bQ _ rfl));refine EN (AL 8 ?_);refine CE nN (cV vb vt) (SM [2]) ?_;refine EN (AL 9 ?_);refine CE mH (de s.view vt.change OkVw.rng) ID ?_;refine EN (PD 10 ?_);refine PD 11 ?_;refine PD 12 ?_;refine AL 14 ?_;refine SW 1 bc am ?_;refine EN (PD 15 ?_);refine DN ?_
 exact aF
  SB
  (λ_ s=>ak [1,0,0] rfl s)
  (tl1 ((b4):(Nat)) trivial)
 exact bw;refine aE rfl ?_ ?_;refine LG 0 iw (.pointer (some ⟨vb,0,none⟩)) ?_ (hc:=by exact λa_=>(bQ _ rfl));refine EN (cw [3,8,13] (by kernel_rfl) rfl (aE rfl ?_ ?_));refine LZ 0 eE bc am s.view ?_ (hc:=by exact λ_=>cJ _);refine EN (cw [8,13] (by kernel_rfl) rfl (aE rfl ?_ ?_));refine CE nN (cV vb vt) (SM [1]) ?_;refine EN (cw [9,13] (by kernel_rfl) rfl (aE rfl ?_ ?_));refine CE mH (de s.view vt.change OkVw.rng) ID ?_;refine EN (PD 10 ?_);refine PD 11 ?_;refine PD 12 ?_;refine AL 13 ?_;refine XZ re (ints ViewT.zero.flat) λb4=>?_
 refine EN (AL 14 ?_);refine SW 0 bc am ?_;refine EN (PD 15 ?_);refine DN ?_
 exact aF
  SB
  (λ_ s=>s)
  (tl1 ((b4):(Nat)) trivial)
 refine aE rfl ?_ ?_;refine XZ re (ints ViewT.zero.flat) λb4=>?_
 refine EN (AL 9 ?_);refine CE mH (de s.view vt.change OkVw.rng) ID ?_;refine EN (PD 10 ?_);refine PD 11 ?_;refine PD 12 ?_;refine AL 14 ?_;refine SW 0 bc am ?_;refine EN (PD 15 ?_);refine DN ?_
 exact aF
  SB
  (λ_ s=>s)
  (tl1 ((b4):(Nat)) trivial)
 exact bw;refine aE rfl ?_ ?_;refine XZ re (ints ViewT.zero.flat) λb4=>?_
 refine EN (AL 8 ?_);refine CE nN (cV vb vt) (SM [2]) ?_;refine EN (AL 9 ?_);refine CE mH (de s.view vt.change OkVw.rng) ID ?_;refine EN (PD 10 ?_);refine PD 11 ?_;refine PD 12 ?_;refine AL 14 ?_;refine SW 1 bc am ?_;refine EN (PD 15 ?_);refine DN ?_
 exact aF
  SB
  (λ_ s=>ak [1,0,0] rfl s)
  (tl1 ((b4):(Nat)) trivial)
 exact bw;refine aE rfl ?_ ?_;refine CE nN (cV vb vt) (SM [1]) ?_;refine EN (cw [3,13] (by kernel_rfl) rfl (aE rfl ?_ ?_));refine LZ 1 eE bc am s.view ?_ (hc:=by exact λ_=>cJ _);refine EN (cw [9,13] (by kernel_rfl) rfl (aE rfl ?_ ?_));refine CE mH (de s.view vt.change OkVw.rng) ID ?_;refine EN (PD 10 ?_);refine PD 11 ?_;refine PD 12 ?_;refine AL 13 ?_;refine XZ re (ints ViewT.zero.flat) λb4=>?_
 refine EN (AL 14 ?_);refine SW 0 bc am ?_;refine EN (PD 15 ?_);refine DN ?_
 exact aF
  SB
  (λ_ s=>s)
  (tl1 ((b4):(Nat)) trivial)
 refine aE rfl ?_ ?_;refine XZ re (ints ViewT.zero.flat) λb4=>?_
 refine EN (AL 9 ?_);refine CE mH (de s.view vt.change OkVw.rng) ID ?_;refine EN (PD 10 ?_);refine PD 11 ?_;refine PD 12 ?_;refine AL 14 ?_;refine SW 0 bc am ?_;refine EN (PD 15 ?_);refine DN ?_
 exact aF
  SB
  (λ_ s=>s)
  (tl1 ((b4):(Nat)) trivial)
 exact bw;refine aE rfl ?_ ?_;refine XZ re (ints ViewT.zero.flat) λb4=>?_
 refine EN (AL 3 ?_);refine LZ 2 eE bc am s.view ?_ (hc:=by exact λ_=>cJ _);refine EN (AL 9 ?_);refine CE mH (de s.view vt.change OkVw.rng) ID ?_;refine EN (PD 10 ?_);refine PD 11 ?_;refine PD 12 ?_;refine AL 14 ?_;refine SW 0 bc am ?_;refine EN (PD 15 ?_);refine DN ?_
 exact aF
  SB
  (λ_ s=>s)
  (tl1 ((b4):(Nat)) trivial)
 exact bw;refine aE rfl ?_ ?_;refine XZ re (ints ViewT.zero.flat) λb4=>?_
 refine EN (cw [3,8] (by kernel_rfl) rfl (aE rfl ?_ ?_));refine LZ 1 eE bc am s.view ?_ (hc:=by exact λ_=>cJ _);refine EN (AL 8 ?_);refine CE nN (cV vb vt) (SM [2]) ?_;refine EN (AL 9 ?_);refine CE mH (de s.view vt.change OkVw.rng) ID ?_;refine EN (PD 10 ?_);refine PD 11 ?_;refine PD 12 ?_;refine AL 14 ?_;refine SW 1 bc am ?_;refine EN (PD 15 ?_);refine DN ?_
 exact aF
  SB
  (λ_ s=>ak [1,0,0] rfl s)
  (tl1 ((b4):(Nat)) trivial)
 refine aE rfl ?_ ?_;refine CE nN (cV vb vt) (SM [2]) ?_;refine EN (AL 3 ?_);refine LZ 2 eE bc am s.view ?_ (hc:=by exact λ_=>cJ _);refine EN (AL 9 ?_);refine CE mH (de s.view vt.change OkVw.rng) ID ?_;refine EN (PD 10 ?_);refine PD 11 ?_;refine PD 12 ?_;refine AL 14 ?_;refine SW 1 bc am ?_;refine EN (PD 15 ?_);refine DN ?_
 exact aF
  SB
  (λ_ s=>ak [1,0,0] rfl s)
  (tl1 ((b4):(Nat)) trivial)
 exact bw;exact bw;refine aE rfl ?_ ?_;refine XZ re (ints ViewT.zero.flat) λb4=>?_
 refine EN (cw [3,7] (by kernel_rfl) rfl (aE rfl ?_ ?_));refine LZ 1 eE bc am s.view ?_ (hc:=by exact λ_=>cJ _);refine EN (AL 7 ?_);refine LG 1 iw (.pointer (some ⟨vb,0,none⟩)) ?_ (hc:=by exact λa_=>(bQ _ rfl));refine EN (AL 8 ?_);refine CE nN (cV vb vt) (SM [2]) ?_;refine EN (AL 9 ?_);refine CE mH (de s.view vt.change OkVw.rng) ID ?_;refine EN (PD 10 ?_);refine PD 11 ?_;refine PD 12 ?_;refine AL 14 ?_;refine SW 1 bc am ?_;refine EN (PD 15 ?_);refine DN ?_
 exact aF
  SB
  (λ_ s=>ak [1,0,0] rfl s)
  (tl1 ((b4):(Nat)) trivial)
 refine aE rfl ?_ ?_;refine LG 1 iw (.pointer (some ⟨vb,0,none⟩)) ?_ (hc:=by exact λa_=>(bQ _ rfl));refine EN (cw [3,8] (by kernel_rfl) rfl (aE rfl ?_ ?_));refine LZ 1 eE bc am s.view ?_ (hc:=by exact λ_=>cJ _);refine EN (AL 8 ?_);refine CE nN (cV vb vt) (SM [2]) ?_;refine EN (AL 9 ?_);refine CE mH (de s.view vt.change OkVw.rng) ID ?_;refine EN (PD 10 ?_);refine PD 11 ?_;refine PD 12 ?_;refine AL 14 ?_;refine SW 1 bc am ?_;refine EN (PD 15 ?_);refine DN ?_
 exact aF
  SB
  (λ_ s=>ak [1,0,0] rfl s)
  (tl1 ((b4):(Nat)) trivial)
 refine aE rfl ?_ ?_;refine CE nN (cV vb vt) (SM [2]) ?_;refine EN (AL 3 ?_);refine LZ 2 eE bc am s.view ?_ (hc:=by exact λ_=>cJ _);refine EN (AL 9 ?_);refine CE mH (de s.view vt.change OkVw.rng) ID ?_;refine EN (PD 10 ?_);refine PD 11 ?_;refine PD 12 ?_;refine AL 14 ?_;refine SW 1 bc am ?_;refine EN (PD 15 ?_);refine DN ?_
 exact aF
  SB
  (λ_ s=>ak [1,0,0] rfl s)
  (tl1 ((b4):(Nat)) trivial)
 exact bw;exact bw;exact bw
theorem zJ{δ:Type}(V:Env δ)(r:Nat)(s:MS δ)(vt:VoteT)(hv:s.vote=some vt)[OkR V.toDk s]:DT 174 #[.pointer (some ⟨r,0,none⟩), .iface V.T V.ov] T0 [cC V r s] (c9 (λ_ H=>H=[cC V r (k8 V.toDk s vt.change)])):=
 Leg.Does.ex (λ_ q=>mI hv q) λvb=>zK V r vb s vt hv
theorem nQ{δ:Type}{V:Env δ}{r:Nat}{s:MS δ}{H:List HP}{h:Hl}(hv:s.vote=none)(q:bC (uG V r s (.pointer none)::H) h):bC (cC V r s::H) h:=by
 have q2:=A8 q
 rwa [show({s with vote:=none}:MS δ)=s by cases s;simp_all]at q2
theorem kh{δ:Type}(V:Env δ)(r:Nat)(s:MS δ)(f:MS δ→MS δ)(from':Int)(m:MsgT)[OkR V.toDk s][OkMg m](hfe:from'=s.id→m.epoch=s.view.epoch)(h3:m.kind=3→m.epoch=s.view.epoch→TK V r 170 (db s (max s.round m.ballot.round)) from' m (f (db s (max s.round m.ballot.round))))(h5:m.kind=5→m.epoch=s.view.epoch→TK V r 171 (db s (max s.round m.ballot.round)) from' m (f (db s (max s.round m.ballot.round))))(hn:m.kind≠3∧m.kind≠5→f (db s (max s.round m.ballot.round))=(db s (max s.round m.ballot.round)))(hv:m.kind=4∨m.kind=6→s.vote=none):
 DT 148 #[(.pointer (some ⟨r,0,none⟩)),(.iface V.T V.ov),(.int .i64 (from')),(.agg (ints m.flat).toArray)] T0 [cC V r s] (c9 (λ_ H=>H=[cC V r (eJ V.toDk f s from' m)])):=by
 refine BD 124 Tryz.func148 rfl rfl rfl λw0 F hF=>sr λ_ J1=>XY (ints m.flat) λb7=>?_
 refine nx J1 (ab λ_ J2=>ab λ_ J3=>DC bh (BL 0) (cL 1 rfl rfl) ?_);refine FD 0 177 a9 aP ?_;refine LR 1 Y3 (eC m rfl) ?_;refine PD 2 ?_;refine PD 3 ?_;refine FD 4 2 bg bc ?_;refine FD 5 2 eE aP ?_;refine ta 6 rfl (cY (v:=(.int .i64 (s.view.epoch))) rfl Y3 rfl rfl (λ_ h=>h.2.2.1) (λa_=>(ca (s.rep a_) 0 rfl (by decide) (ba _ rfl)))) ?_;refine PD 7 ?_;refine gR ?_ ?_<;>intro h15;refine DN (ac J3 (CY (ab λ_ J4=>sr λ_ J5=>FA 0 a9 aP ?_)));refine LU 0 Y3 (eL m rfl) ?_;refine PS ?_;refine an ?_ ?_<;>intro h18;refine PS ?_
 iterate 3 refine UT ?_
 refine PS ?_;refine nx J5 (CY (ad ?_))
 iterate 5 refine PS ?_
 refine FA 2 bg bc ?_;refine LZ 1 eE bc am s.view ?_ (hc:=by exact λ_=>cJ _);refine tp (kO MsgT.zero (MsgT.mk 7 0 RowT.zero 0 0 BallotT.zero BallotT.zero ChangeT.zero s.view) [(0,[Value.int .i64 7]),(8,ints s.view.flat)] a9 bo (g:=MsgT.sg)) ?_;refine CZ iT (jh V r s from' (jO s.view) (λe=>absurd (hfe e) (by omega))) (SM [1]) λvR=>?_
 refine nx J4 (ai (ae (WK [0] (dz rfl ?_))));exact congrArg (λq=>[cC V r q]) (show(iC V.toDk s ([SaidT.mk from' (jO s.view)]))=eJ V.toDk f s from' m by rw[eJ,if_pos h15,if_pos (.inl h18)];rfl);refine PS ?_;refine FA 0 a9 aP ?_;refine LU 0 Y3 (eL m rfl) ?_;refine PS ?_;refine an ?_ ?_<;>intro h22;refine PS ?_;refine nx J5 (CY (ad ?_))
 iterate 5 refine PS ?_
 refine FA 2 bg bc ?_;refine LZ 1 eE bc am s.view ?_ (hc:=by exact λ_=>cJ _);refine tp (kO MsgT.zero (MsgT.mk 7 0 RowT.zero 0 0 BallotT.zero BallotT.zero ChangeT.zero s.view) [(0,[Value.int .i64 7]),(8,ints s.view.flat)] a9 bo (g:=MsgT.sg)) ?_;refine CZ iT (jh V r s from' (jO s.view) (λe=>absurd (hfe e) (by omega))) (SM [1]) λvR=>?_
 refine nx J4 (ai (ae (WK [0] (dz rfl ?_))));exact congrArg (λq=>[cC V r q]) (show(iC V.toDk s ([SaidT.mk from' (jO s.view)]))=eJ V.toDk f s from' m by rw[eJ,if_pos h15,if_pos (.inr h22)];rfl);refine PS ?_;refine nx J5 (CN (qx J4 (ai (ae (WK [1] (dz rfl ?_))))));exact congrArg (λq=>[cC V r q]) (show s=eJ V.toDk f s from' m by rw[eJ,if_pos h15,if_neg (by omega)]);refine DN (ac J3 (CN (qx J2 (ab λ_ J6=>ab λ_ J7=>DC bh (BL 0) (cL 1 rfl rfl) ?_))));refine FD 0 177 a9 aP ?_;refine LR 1 Y3 (eC m rfl) ?_;refine PD 2 ?_;refine PD 3 ?_;refine FD 4 2 bg bc ?_;refine FD 5 2 eE aP ?_;refine ta 6 rfl (cY (v:=(.int .i64 (s.view.epoch))) rfl Y3 rfl rfl (λ_ h=>h.2.2.1) (λa_=>(ca (s.rep a_) 0 rfl (by decide) (ba _ rfl)))) ?_;refine PD 7 ?_;refine gR ?_ ?_<;>intro h40;refine PD 8 ?_;refine NT 9 ?_;refine NT 10 ?_;refine NT 11 ?_;refine NT 12 ?_;refine NT 13 ?_;refine NT 14 ?_;refine NT 15 ?_;refine NT 16 ?_;refine NT 17 ?_;refine NT 18 ?_;refine PD 19 ?_;refine DN (ac J7 (CY (ai (ae (WK [1] (dz rfl ?_))))));exact congrArg (λq=>[cC V r q]) (show s=eJ V.toDk f s from' m by rw[eJ,if_neg h15,if_pos (.inl (by omega))]);refine PD 8 ?_;refine PD 9 ?_;refine PD 10 ?_;refine FD 11 2 bg bc ?_;refine tb 12 rfl (fQ (vs:=ints s.view.flat) rfl eE rfl bc rfl (λ_ h=>h.2.2.1) (am s.view) (λa_=>(fL (s.rep a_) 0 rfl (by decide) (whole (am ((s.rep a_).view)))))) ?_;refine PD 13 ?_;refine PD 14 ?_;refine FD 15 0 bg aP ?_
 refine tb 16 rfl (cY (v:=(.int .i64 (s.id))) rfl Y3 rfl rfl (λ_ h=>h.2.2.1) (λa_=>(cx _ rfl))) ?_;refine AL 17 ?_;refine CE pD (dv s.view s.id) ID ?_;refine aW ?_ ?_<;>intro h50;refine EN (PD 18 ?_);refine PD 19 ?_;refine DN (ac J7 (CN (qx J6 (ab λ_ J8=>D1 0 bh ?_))));refine PD 0 ?_;refine PD 1 ?_;refine PD 2 ?_;refine FD 3 1066 bg aP ?_;refine FD 5 178 a9 cp ?_;refine FD 6 178 jT aP ?_;refine LX 7 Y3 (.int .i64 (m.ballot.round)) ?_ (hc:=by exact MsgT.pt_ballot m 0 rfl (by decide) (e4 m.ballot rfl));refine AL 4 ?_;refine LG 1 Y3 (.int .i64 (s.round)) ?_ (hc:=by exact λa_=>(ut _ rfl));refine EN (ta 8 rfl (xD rfl rfl rfl) ?_);refine PD 9 ?_;refine FD 10 1066 bg aP ?_;refine AL 11 ?_;refine SK 1 aP (λ_=>cK _) ?_ (hc:=by exact λa_=>(lC _ rfl _));refine EN (DN (ac J8 (sr λ_ J9=>FA 0 a9 aP ?_)));refine LU 0 Y3 (eL m rfl) ?_;refine nx J9 (aq (sr λ_ J10=>PS ?_));refine an ?_ ?_<;>intro h67;refine PS ?_;refine nx J10 (CY (ad (P3 ?_)));refine LW 0 a9 bW aG ?_;refine CZ L7 ((h3 (by omega) (by omega))) (SM [1]) λvR=>?_
 refine ap (af (WK [0] (bz rfl ?_)));exact congrArg (λq=>[cC V r q]) (show(f (db s (max s.round m.ballot.round)))=eJ V.toDk f s from' m by rw[eJ,if_neg h15,if_neg (λh=>h.elim (λh=>absurd h (by omega)) (λh=>by rw[h50]at h;cases h))]);refine PS ?_;refine nx J10 (CN (sr λ_ J11=>PS ?_));refine an ?_ ?_<;>intro h74;refine PS ?_;refine nx J11 (CY (ad (P3 ?_)));refine LW 0 a9 bW aG ?_;refine CZ L6 ((h5 (by omega) (by omega))) (SM [1]) λvR=>?_
 refine ap (af (WK [0] (bz rfl ?_)));exact congrArg (λq=>[cC V r q]) (show(f (db s (max s.round m.ballot.round)))=eJ V.toDk f s from' m by rw[eJ,if_neg h15,if_neg (λh=>h.elim (λh=>absurd h (by omega)) (λh=>by rw[h50]at h;cases h))]);refine PS ?_;refine nx J11 (CN (sr λ_ J12=>PS ?_));refine an ?_ ?_<;>intro h81;refine cq (H':=uG V r (db s (max s.round m.ballot.round)) (.pointer none)::[ag b7 (ints m.flat) 178]) (λ_ q=>rT (hv (by omega)) (az [1] rfl q)) (PS ?_);refine nx J12 (CY (ab λ_ J13=>DC bh (cL 0 rfl rfl) (BL 1) ?_));refine PD 0 ?_;refine PD 1 ?_;refine FD 2 1067 bg iO ?_;refine ta 3 rfl (cY (v:=(.pointer none)) rfl iw rfl rfl (λ_ h=>h.2.1) (λa_=>(bQ _ rfl))) ?_;refine ta 4 rfl (gF rfl iw rfl rfl) ?_;refine PD 5 ?_;refine NT 6 ?_;refine NT 7 ?_;refine NT 8 ?_;refine NT 9 ?_;refine NT 10 ?_;refine NT 11 ?_;refine NT 12 ?_;refine NT 13 ?_;refine NT 14 ?_;refine NT 15 ?_;refine NT 16 ?_;refine NT 17 ?_;refine PD 18 ?_;refine DN (ac J13 (CN (aQ (af (aF (H':=[cC V r (db s (max s.round m.ballot.round))]) (dh _) (λ_ q=>nQ (hv (by omega)) (ak [0] rfl q)) (bz rfl ?_))))));exact congrArg (λq=>[cC V r q]) (show(db s (max s.round m.ballot.round))=eJ V.toDk f s from' m by rw[eJ,if_neg h15,if_neg (λh=>h.elim (λh=>absurd h (by omega)) (λh=>by rw[h50]at h;cases h)),hn (by omega)]);refine PS ?_;refine nx J12 (CN (sr λ_ J14=>PS ?_));refine an ?_ ?_<;>intro h105
 refine cq (H':=uG V r (db s (max s.round m.ballot.round)) (.pointer none)::[ag b7 (ints m.flat) 178]) (λ_ q=>rT (hv (by omega)) (az [1] rfl q)) (PS ?_);refine nx J14 (CY (ab λ_ J15=>DC bh (cL 0 rfl rfl) (BL 1) ?_));refine PD 0 ?_;refine PD 1 ?_;refine FD 2 1067 bg iO ?_;refine ta 3 rfl (cY (v:=(.pointer none)) rfl iw rfl rfl (λ_ h=>h.2.1) (λa_=>(bQ _ rfl))) ?_;refine ta 4 rfl (gF rfl iw rfl rfl) ?_;refine PD 5 ?_;refine NT 6 ?_;refine NT 7 ?_;refine NT 8 ?_;refine NT 9 ?_;refine NT 10 ?_;refine NT 11 ?_;refine NT 12 ?_;refine NT 13 ?_;refine PD 14 ?_;refine DN (ac J15 (CN (aQ (af (aF (H':=[cC V r (db s (max s.round m.ballot.round))]) (dh _) (λ_ q=>nQ (hv (by omega)) (ak [0] rfl q)) (bz rfl ?_))))));exact congrArg (λq=>[cC V r q]) (show(db s (max s.round m.ballot.round))=eJ V.toDk f s from' m by rw[eJ,if_neg h15,if_neg (λh=>h.elim (λh=>absurd h (by omega)) (λh=>by rw[h50]at h;cases h)),hn (by omega)]);refine PS ?_;refine nx J14 (CN (aQ (af (WK [1] (bz rfl ?_)))));exact congrArg (λq=>[cC V r q]) (show(db s (max s.round m.ballot.round))=eJ V.toDk f s from' m by rw[eJ,if_neg h15,if_neg (λh=>h.elim (λh=>absurd h (by omega)) (λh=>by rw[h50]at h;cases h)),hn (by omega)]);refine EN (PD 18 ?_);refine PD 19 ?_;refine DN (ac J7 (CY (ai (ae (WK [1] (dz rfl ?_))))));exact congrArg (λq=>[cC V r q]) (show s=eJ V.toDk f s from' m by rw[eJ,if_neg h15,if_pos (.inr h50)])
theorem yR(v:VoteT)(w:Int)(b:BallotT):(gh v w b).1.change=v.change:=by unfold gh;split<;>rfl
theorem pk{δ:Type}(V:Env δ)(r:Nat)(s:MS δ)(vt:VoteT)(from':Int)(m:MsgT)[OkR V.toDk s][OkMg m](hfe:from'=s.id→m.epoch=s.view.epoch)(hk:m.kind=4∨m.kind=6)(hv:s.vote=some vt)(hp:m.kind=4→(eI vt from' m.ballot m.had m.change).2=true→DT 113 #[.pointer (some ⟨r,0,none⟩), .iface V.T V.ov] T0 [cC V r (la (db s (max s.round m.ballot.round)) (eI vt from' m.ballot m.had m.change).1)] (c9 (λ_ H=>H=[cC V r (ku V.toDk (la (db s (max s.round m.ballot.round)) (eI vt from' m.ballot m.had m.change).1) (eI vt from' m.ballot m.had m.change).1)]))):
    DT 148 #[(.pointer (some ⟨r,0,none⟩)),(.iface V.T V.ov),(.int .i64 (from')),(.agg (ints m.flat).toArray)] T0 [cC V r s] (c9 (λ_ H=>H=[cC V r (eJ V.toDk (λs_=>if m.kind=4 then pd V.toDk from' m s_ else lc V.toDk from' m s_) s from' m)])):=by
 refine BD 124 Tryz.func148 rfl rfl rfl λw0 F hF=>?_
 have hov:OkVt vt:=OkR.vote vt hv;refine sr λ_ J1=>XY (ints m.flat) λb7=>?_
 refine nx J1 (ab λ_ J2=>ab λ_ J3=>DC bh (BL 0) (cL 1 rfl rfl) ?_);refine FD 0 177 a9 aP ?_;refine LR 1 Y3 (eC m rfl) ?_;refine PD 2 ?_;refine PD 3 ?_;refine FD 4 2 bg bc ?_;refine FD 5 2 eE aP ?_;refine ta 6 rfl (cY (v:=(.int .i64 (s.view.epoch))) rfl Y3 rfl rfl (λ_ h=>h.2.2.1) (λa_=>(ca (s.rep a_) 0 rfl (by decide) (ba _ rfl)))) ?_;refine PD 7 ?_;refine gR ?_ ?_<;>intro h15;refine DN (ac J3 (CY (ab λ_ J4=>sr λ_ J5=>FA 0 a9 aP ?_)));refine LU 0 Y3 (eL m rfl) ?_;refine PS ?_;refine an ?_ ?_<;>intro h18;refine PS ?_
 iterate 3 refine UT ?_
 refine PS ?_;refine nx J5 (CY (ad ?_))
 iterate 5 refine PS ?_
 refine FA 2 bg bc ?_;refine LZ 1 eE bc am s.view ?_ (hc:=by exact λ_=>cJ _);refine tp (kO MsgT.zero (MsgT.mk 7 0 RowT.zero 0 0 BallotT.zero BallotT.zero ChangeT.zero s.view) [(0,[Value.int .i64 7]),(8,ints s.view.flat)] a9 bo (g:=MsgT.sg)) ?_;refine CZ iT (jh V r s from' (jO s.view) (λe=>absurd (hfe e) (by omega))) (SM [1]) λvR=>?_
 refine nx J4 (ai (ae (WK [0] (dz rfl ?_))));exact MQ (by rw[eJ,if_pos h15,if_pos (.inl h18)];rfl);refine PS ?_;refine FA 0 a9 aP ?_;refine LU 0 Y3 (eL m rfl) ?_;refine PS ?_;refine an ?_ ?_<;>intro h22;refine PS ?_;refine nx J5 (CY (ad ?_))
 iterate 5 refine PS ?_
 refine FA 2 bg bc ?_;refine LZ 1 eE bc am s.view ?_ (hc:=by exact λ_=>cJ _);refine tp (kO MsgT.zero (MsgT.mk 7 0 RowT.zero 0 0 BallotT.zero BallotT.zero ChangeT.zero s.view) [(0,[Value.int .i64 7]),(8,ints s.view.flat)] a9 bo (g:=MsgT.sg)) ?_;refine CZ iT (jh V r s from' (jO s.view) (λe=>absurd (hfe e) (by omega))) (SM [1]) λvR=>?_
 refine nx J4 (ai (ae (WK [0] (dz rfl ?_))));exact MQ (by rw[eJ,if_pos h15,if_pos (.inr h22)];rfl);refine PS ?_;refine nx J5 (CN (qx J4 (ai (ae (WK [1] (dz rfl ?_))))));exact MQ (by rw[eJ,if_pos h15,if_neg (by omega)]);refine DN (ac J3 (CN (qx J2 (ab λ_ J6=>ab λ_ J7=>DC bh (BL 0) (cL 1 rfl rfl) ?_))));refine FD 0 177 a9 aP ?_;refine LR 1 Y3 (eC m rfl) ?_;refine PD 2 ?_;refine PD 3 ?_;refine FD 4 2 bg bc ?_;refine FD 5 2 eE aP ?_;refine ta 6 rfl (cY (v:=(.int .i64 (s.view.epoch))) rfl Y3 rfl rfl (λ_ h=>h.2.2.1) (λa_=>(ca (s.rep a_) 0 rfl (by decide) (ba _ rfl)))) ?_;refine PD 7 ?_;refine gR ?_ ?_<;>intro h40;refine PD 8 ?_;refine NT 9 ?_;refine NT 10 ?_;refine NT 11 ?_;refine NT 12 ?_;refine NT 13 ?_;refine NT 14 ?_;refine NT 15 ?_;refine NT 16 ?_;refine NT 17 ?_;refine NT 18 ?_;refine PD 19 ?_;refine DN (ac J7 (CY (ai (ae (WK [1] (dz rfl ?_))))));exact MQ (by rw[eJ,if_neg h15,if_pos (.inl (by omega))]);refine PD 8 ?_;refine PD 9 ?_;refine PD 10 ?_;refine FD 11 2 bg bc ?_;refine tb 12 rfl (fQ (vs:=ints s.view.flat) rfl eE rfl bc rfl (λ_ h=>h.2.2.1) (am s.view) (λa_=>(fL (s.rep a_) 0 rfl (by decide) (whole (am ((s.rep a_).view)))))) ?_;refine PD 13 ?_;refine PD 14 ?_;refine FD 15 0 bg aP ?_;refine tb 16 rfl (cY (v:=(.int .i64 (s.id))) rfl Y3 rfl rfl (λ_ h=>h.2.2.1) (λa_=>(cx _ rfl))) ?_;refine AL 17 ?_;refine CE pD (dv s.view s.id) ID ?_;refine aW ?_ ?_<;>intro h50;refine EN (PD 18 ?_);refine PD 19 ?_
 refine DN (ac J7 (CN (qx J6 (ab λ_ J8=>D1 0 bh ?_))));refine PD 0 ?_;refine PD 1 ?_;refine PD 2 ?_;refine FD 3 1066 bg aP ?_;refine FD 5 178 a9 cp ?_;refine FD 6 178 jT aP ?_;refine LX 7 Y3 (.int .i64 (m.ballot.round)) ?_ (hc:=by exact MsgT.pt_ballot m 0 rfl (by decide) (e4 m.ballot rfl));refine AL 4 ?_;refine LG 1 Y3 (.int .i64 (s.round)) ?_ (hc:=by exact λa_=>(ut _ rfl));refine EN (ta 8 rfl (xD rfl rfl rfl) ?_);refine PD 9 ?_;refine FD 10 1066 bg aP ?_;refine AL 11 ?_;refine SK 1 aP (λ_=>cK _) ?_ (hc:=by exact λa_=>(lC _ rfl _));refine EN (DN (ac J8 (sr λ_ J9=>FA 0 a9 aP ?_)));refine LU 0 Y3 (eL m rfl) ?_;refine nx J9 (aq (sr λ_ J10=>PS ?_));refine an ?_ ?_<;>intro h67
 · exact absurd h67 (by omega)
 refine PS ?_;refine nx J10 (CN (sr λ_ J11=>PS ?_));refine an ?_ ?_<;>intro h74
 · exact absurd h74 (by omega)
 refine PS ?_;refine nx J11 (CN (sr λ_ J12=>PS ?_));refine an ?_ ?_<;>intro h81;refine JV (H':=λvb:Nat=>uG V r (db s (max s.round m.ballot.round)) (.pointer (some ⟨vb,0,none⟩))::ag vb (VoteT.cells vt) 227::[ag b7 (ints m.flat) 178]) (λ_ q=>mI (s:=(db s (max s.round m.ballot.round))) hv (az [1] rfl q)) (λvb=>PS ?_);refine nx J12 (CY (ab λ_ J13=>D1 2 bh ?_));refine PD 0 ?_;refine PD 1 ?_;refine FD 2 1067 bg iO ?_;refine AL 3 ?_;refine LG 0 iw (.pointer (some ⟨vb,0,none⟩)) ?_ (hc:=by exact λa_=>(bQ _ rfl));refine EN (ta 4 rfl (fP rfl iw rfl rfl) ?_);refine PD 5 ?_;refine PD 6 ?_;refine PD 7 ?_;refine FD 8 1067 bg iO ?_;refine PD 10 ?_;refine FD 11 178 a9 cp ?_;refine tb 12 rfl (aM (vs:=ints m.ballot.flat) rfl jT rfl cp rfl (λ_ h=>h.2.1) (ao m.ballot) (iJ m 0 rfl (by decide) (whole (ao m.ballot)))) ?_;refine FD 13 180 a9 cp ?_;refine tb 14 rfl (aM (vs:=ints m.had.flat) rfl jT rfl cp rfl (λ_ h=>h.2.1) (ao m.had) (Og m 0 rfl (by decide) (whole (ao m.had)))) ?_;refine FD 15 182 a9 fy ?_;refine tb 16 rfl (aM (vs:=ints m.change.flat) rfl mR rfl fy rfl (λ_ h=>h.2.1) (aJ m.change) (mW m 0 rfl (by decide) (whole (aJ m.change)))) ?_;refine AL 9 ?_;refine LG 0 iw (.pointer (some ⟨vb,0,none⟩)) ?_ (hc:=by exact λa_=>(bQ _ rfl));refine EN (AL 17 ?_);refine CE L5 (Ce vb vt from' m.ballot m.had m.change (OkMg.ballot) hov.ballot) (SM [1]) ?_;refine aW ?_ ?_<;>intro h99;refine EN (PD 18 ?_)
 refine DN (ac J13 (CY (ad (cq (H':=cC V r (la (db s (max s.round m.ballot.round)) ((eI vt from' m.ballot m.had m.change).1))::[ag b7 (ints m.flat) 178]) (λ_ q=>nO (az [1,0] rfl q)) (P2 ?_)))));refine CZ Eh ((hp (by omega) h99)) ID λvR=>?_
 refine ap (af (WK [0] (bz rfl ?_)))
 exact congrArg (λq=>[cC V r q]) (show _=eJ V.toDk (λs_=>if m.kind=4 then pd V.toDk from' m s_ else lc V.toDk from' m s_) s from' m by
                              rw[eJ,if_neg h15,if_neg (λh=>h.elim (λh=>absurd h (by omega)) (λh=>by rw[h50]at h;cases h)),if_pos (by omega),pd];simp only[show(db s (max s.round m.ballot.round)).vote=some vt from hv]
                              rw[if_pos h99])
 refine EN (PD 18 ?_);refine DN (ac J13 (CN (aQ (af (aF (H':=[cC V r (la (db s (max s.round m.ballot.round)) (eI vt from' m.ballot m.had m.change).1)]) (dh _) (λ_ q=>nO (ak [1,0] rfl q)) (bz rfl ?_))))))
 exact congrArg (λq=>[cC V r q]) (show(la (db s (max s.round m.ballot.round)) (eI vt from' m.ballot m.had m.change).1)=eJ V.toDk (λs_=>if m.kind=4 then pd V.toDk from' m s_ else lc V.toDk from' m s_) s from' m by
                              rw[eJ,if_neg h15,if_neg (λh=>h.elim (λh=>absurd h (by omega)) (λh=>by rw[h50]at h;cases h)),if_pos (by omega),pd];simp only[show(db s (max s.round m.ballot.round)).vote=some vt from hv]
                              rw[if_neg (by rw[h99];decide)])
 refine PS ?_;refine nx J12 (CN (sr λ_ J14=>PS ?_));refine an ?_ ?_<;>intro h105;refine JV (H':=λvb:Nat=>uG V r (db s (max s.round m.ballot.round)) (.pointer (some ⟨vb,0,none⟩))::ag vb (VoteT.cells vt) 227::[ag b7 (ints m.flat) 178]) (λ_ q=>mI (s:=(db s (max s.round m.ballot.round))) hv (az [1] rfl q)) (λvb=>PS ?_);refine nx J14 (CY (ab λ_ J15=>D1 2 bh ?_));refine PD 0 ?_;refine PD 1 ?_;refine FD 2 1067 bg iO ?_;refine AL 3 ?_;refine LG 0 iw (.pointer (some ⟨vb,0,none⟩)) ?_ (hc:=by exact λa_=>(bQ _ rfl));refine EN (ta 4 rfl (fP rfl iw rfl rfl) ?_);refine PD 5 ?_;refine PD 6 ?_;refine PD 7 ?_;refine FD 8 1067 bg iO ?_;refine PD 10 ?_;refine FD 11 178 a9 cp ?_;refine tb 12 rfl (aM (vs:=ints m.ballot.flat) rfl jT rfl cp rfl (λ_ h=>h.2.1) (ao m.ballot) (iJ m 0 rfl (by decide) (whole (ao m.ballot)))) ?_;refine AL 9 ?_;refine LG 0 iw (.pointer (some ⟨vb,0,none⟩)) ?_ (hc:=by exact λa_=>(bQ _ rfl));refine EN (AL 13 ?_);refine CE L4 (Cm vb vt from' m.ballot (OkMg.ballot) hov.ballot) (SM [1]) ?_;refine aW ?_ ?_<;>intro h119;refine EN (PD 14 ?_);refine DN (ac J15 (CY (ad (cq (H':=cC V r (la (db s (max s.round m.ballot.round)) ((gh vt from' m.ballot).1))::[ag b7 (ints m.flat) 178]) (λ_ q=>nO (az [1,0] rfl q)) (P2 ?_)))));refine CZ L3 (zJ V r (la (db s (max s.round m.ballot.round)) (gh vt from' m.ballot).1) (gh vt from' m.ballot).1 rfl) ID λvR=>?_
 refine ap (af (WK [0] (bz rfl ?_)))
 exact congrArg (λq=>[cC V r q]) (show _=eJ V.toDk (λs_=>if m.kind=4 then pd V.toDk from' m s_ else lc V.toDk from' m s_) s from' m by
                                rw[eJ,if_neg h15,if_neg (λh=>h.elim (λh=>absurd h (by omega)) (λh=>by rw[h50]at h;cases h)),if_neg (by omega),lc];simp only[show(db s (max s.round m.ballot.round)).vote=some vt from hv]
                                rw[if_pos h119,yR])
 refine EN (PD 14 ?_);refine DN (ac J15 (CN (aQ (af (aF (H':=[cC V r (la (db s (max s.round m.ballot.round)) (gh vt from' m.ballot).1)]) (dh _) (λ_ q=>nO (ak [1,0] rfl q)) (bz rfl ?_))))))
 exact congrArg (λq=>[cC V r q]) (show(la (db s (max s.round m.ballot.round)) (gh vt from' m.ballot).1)=eJ V.toDk (λs_=>if m.kind=4 then pd V.toDk from' m s_ else lc V.toDk from' m s_) s from' m by
                                rw[eJ,if_neg h15,if_neg (λh=>h.elim (λh=>absurd h (by omega)) (λh=>by rw[h50]at h;cases h)),if_neg (by omega),lc];simp only[show(db s (max s.round m.ballot.round)).vote=some vt from hv]
                                rw[if_neg (by rw[h119];decide)])
 · exact absurd h105 (by omega)
 refine EN (PD 18 ?_);refine PD 19 ?_;refine DN (ac J7 (CY (ai (ae (WK [1] (dz rfl ?_))))));exact MQ (by rw[eJ,if_neg h15,if_pos (.inr h50)])
theorem qy{δ:Type}(V:Env δ)(r:Nat)(s:MS δ)(from':Int)(m:MsgT)[OkR V.toDk s][OkMg m](hfe:from'=s.id→m.epoch=s.view.epoch)(hk:m.kind=6):TK V r 105 s from' m (qz V.toDk s from' m):=n9 (.inr (.inr (.inr hk))) (by
 cases hv:s.vote with
 |none=>exact kh V r s (lc V.toDk from' m) from' m hfe (λe=>by omega) (λe=>by omega) (λ_=>by rw[lc,show(db s (max s.round m.ballot.round)).vote=none from hv]) (λ_=>hv)
 |some vt=>
  have h:=pk V r s vt from' m hfe (.inr hk) hv (λe=>by omega)
  rwa [show(λs_:MS δ=>if m.kind=4 then pd V.toDk from' m s_ else lc V.toDk from' m s_)=lc V.toDk from' m from funext λ_=>if_neg (by omega)]at h)
theorem w4{δ:Type}(V:Env δ)(r:Nat)(s:MS δ)(from':Int)(m:MsgT)[OkR V.toDk s][OkMg m](hep:m.epoch=s.view.epoch):
 DT 171 #[(.pointer (some ⟨r,0,none⟩)),(.iface V.T V.ov),(.int .i64 (from')),(.agg (ints m.flat).toArray)] T0 [cC V r s] (c9 (λ_ H=>H=[cC V r (oI V.toDk from' m s)])):=by
 refine BD 69 Tryz.func171 rfl rfl rfl λw0 F hF=>sr λ_ J1=>XY (ints m.flat) λb7=>?_
 refine nx J1 (ab λ_ J2=>ab λ_ J3=>eV (α:=Unit) (λ_u=>True) (λ_u=>[(0,(.pointer (some ⟨r,0,none⟩))),(1,(.iface V.T V.ov)),(2,(.int .i64 (from'))),(7,(.pointer (some ⟨b7,0,none⟩))),(9,(.int .i64 ((dQ s.view m.change).2)))]) (λ_u=>[cC V r s,ag b7 (ints m.flat) 178]) (λ_u hinv=>?_) (λtl3=>?_));have _:=hinv;refine ac J3 (sr λ_ J4=>P2 ?_);refine an ?_ ?_<;>intro h23;refine nx J4 (CY (ai (ae (WK [0] (dz rfl ?_)))));exact MQ (by rw[oI,if_pos h23]);refine nx J4 (CN (qx J2 (ab λ_ J5=>eV (α:=(Nat)) (λb10=>True) (λb10=>[(0,(.pointer (some ⟨r,0,none⟩))),(1,(.iface V.T V.ov)),(2,(.int .i64 (from'))),(7,(.pointer (some ⟨b7,0,none⟩))),(10,(.pointer (some ⟨b10,0,none⟩))),(11,(.bool ((gi s.acc m.epoch m.ballot m.change).2)))]) (λb10=>[cC V r s,ag b7 (ints m.flat) 178,ag b10 (ints ((gi s.acc m.epoch m.ballot m.change).1).flat) 118]) (λb10 hinv=>?_) (λtl5=>?_))));have _:=hinv;refine ac J5 (ab λ_ J6=>sr λ_ J7=>PS ?_);refine aW ?_ ?_<;>intro h38;refine PS ?_;refine nx J7 (CN (qx J6 (ab λ_ J8=>ab λ_ J9=>DC bh (BL 2) (cL 0 rfl rfl) ?_)));refine LY 0 iF dq aY ?_;refine PD 1 ?_;refine PD 2 ?_;refine FD 3 1058 bg dq ?_;refine ta 4 rfl (fQ (vs:=ints s.acc.flat) rfl iF rfl dq rfl (λ_ h=>h.2.2.1) (aY s.acc) (λa_=>(xA (s.rep a_) 0 rfl (by decide) (whole (aY ((s.rep a_).acc)))))) ?_
 refine ta 5 rfl (wR (a:=((gi s.acc m.epoch m.ballot m.change).1).flat) (b:=s.acc.flat) (m:=6) (c:=8) Ll Lj rfl MC (cG (aY ((gi s.acc m.epoch m.ballot m.change).1))) (cG (aY s.acc)) ⟨e9 JQ JS (cG (aY ((gi s.acc m.epoch m.ballot m.change).1))),e9 JQ JS (cG (aY s.acc))⟩ (OkAc.wf) (OkAc.wf) rfl rfl rfl) ?_;refine gR ?_ ?_<;>intro h45;refine DN (ac J9 (CY (ab λ_ J10=>sr λ_ J11=>PS ?_)));refine FA 177 a9 aP ?_;refine LU 1 Y3 (eC m rfl) ?_;refine FA 178 a9 cp ?_;refine LV 1 jT cp ao nZ (y:=m.ballot) ?_;refine FA 182 a9 fy ?_;refine LV 1 mR fy aJ MsgT.sp_change (y:=m.change) ?_;refine tp (kO RecT.zero (RecT.mk 4 0 RowT.zero m.epoch m.ballot m.change ViewT.zero) [(0,[Value.int .i64 4]),(3,[Value.int .i64 m.epoch]),(4,ints m.ballot.flat),(5,ints m.change.flat)] iI eW (g:=RecT.sg)) ?_;refine CE vL (kQ V r s (l5 m.epoch m.ballot m.change)) ID ?_;refine PS ?_;refine an ?_ ?_<;>intro h55;refine nx J11 (CY (ai (ae (ae (WK [0] (dz rfl ?_))))));exact MQ (by rw[oI,if_neg h23,if_neg (by rw[h38];decide),if_pos h45,if_pos h55]);refine nx J11 (CN (qx J10 (ad (PS ?_))));refine LW 2 iF dq aY ?_;refine PS ?_;refine FA 1058 bg dq ?_
 refine gD (vs:=ints ((gi s.acc m.epoch m.ballot m.change).1).flat) (i:=0) (aa rfl) rfl rfl rfl rfl rfl (by rw[(aY ((gi s.acc m.epoch m.ballot m.change).1))];exact dq) (bu _) rfl rfl (λ_=>LC (cK _) (aY _)) (λa_=>(kb ((ef V.toDk s (l5 m.epoch m.ballot m.change)).rep a_) 0 rfl (by have h1:=(aY ((gi s.acc m.epoch m.ballot m.change).1));omega) (cm ((aY (((ef V.toDk s (l5 m.epoch m.ballot m.change)).rep a_).acc)).trans (aY ((gi s.acc m.epoch m.ballot m.change).1)).symm)))) (nx J8 (ad (P3 ?_)));refine FA 177 a9 aP ?_;refine LU 1 Y3 (eC m rfl) ?_;refine FA 178 a9 cp ?_;refine LV 1 jT cp ao nZ (y:=m.ballot) ?_;refine tp (kO MsgT.zero (MsgT.mk 6 0 RowT.zero 0 m.epoch m.ballot BallotT.zero ChangeT.zero ViewT.zero) [(0,[Value.int .i64 6]),(4,[Value.int .i64 m.epoch]),(5,ints m.ballot.flat)] a9 bo (g:=MsgT.sg)) ?_;refine CZ iT (fW V r (wN (ef V.toDk s (l5 m.epoch m.ballot m.change)) (gi s.acc m.epoch m.ballot m.change).1) from' (jB m.epoch m.ballot) (λs_=>qz V.toDk s_ s_.id (jB m.epoch m.ballot)) (λ_=>qy V r (wN (ef V.toDk s (l5 m.epoch m.ballot m.change)) (gi s.acc m.epoch m.ballot m.change).1) (wN (ef V.toDk s (l5 m.epoch m.ballot m.change)) (gi s.acc m.epoch m.ballot m.change).1).id (jB m.epoch m.ballot) (λ_=>hep) rfl)) ID λvR=>?_
 refine ap (WK [0] (bz rfl ?_));exact MQ (by rw[oI,if_neg h23,if_neg (by rw[h38];decide),if_pos h45,if_neg h55];rfl);refine DN (ac J9 (CN (qx J8 (ad (P3 ?_)))));refine FA 177 a9 aP ?_;refine LU 1 Y3 (eC m rfl) ?_;refine FA 178 a9 cp ?_;refine LV 1 jT cp ao nZ (y:=m.ballot) ?_;refine tp (kO MsgT.zero (MsgT.mk 6 0 RowT.zero 0 m.epoch m.ballot BallotT.zero ChangeT.zero ViewT.zero) [(0,[Value.int .i64 6]),(4,[Value.int .i64 m.epoch]),(5,ints m.ballot.flat)] a9 bo (g:=MsgT.sg)) ?_;refine CZ iT (fW V r s from' (jB m.epoch m.ballot) (λs_=>qz V.toDk s_ s_.id (jB m.epoch m.ballot)) (λ_=>qy V r s s.id (jB m.epoch m.ballot) (λ_=>hep) rfl)) ID λvR=>?_
 refine ap (WK [0] (bz rfl ?_));exact MQ (by rw[oI,if_neg h23,if_neg (by rw[h38];decide),if_neg h45];rfl);refine PS ?_;refine nx J7 (CY (ai (ae (WK [0] (dz rfl ?_)))));exact MQ (by rw[oI,if_neg h23,if_pos h38]);refine DC bh (cL 0 rfl rfl) (BL 1) ?_;refine PD 0 ?_;refine PD 1 ?_;refine FD 2 1058 bg dq ?_;refine ta 3 rfl (fQ (vs:=ints s.acc.flat) rfl iF rfl dq rfl (λ_ h=>h.2.1) (aY s.acc) (λa_=>(xA (s.rep a_) 0 rfl (by decide) (whole (aY ((s.rep a_).acc)))))) ?_;refine FD 4 177 a9 aP ?_;refine LR 5 Y3 (eC m rfl) ?_;refine FD 6 178 a9 cp ?_;refine ta 7 rfl (aM (vs:=ints m.ballot.flat) rfl jT rfl cp rfl (λ_ h=>h.2.2.1) (ao m.ballot) (iJ m 0 rfl (by decide) (whole (ao m.ballot)))) ?_;refine FD 8 182 a9 fy ?_;refine ta 9 rfl (aM (vs:=ints m.change.flat) rfl mR rfl fy rfl (λ_ h=>h.2.2.1) (aJ m.change) (mW m 0 rfl (by decide) (whole (aJ m.change)))) ?_;refine cw [10,14] (by kernel_rfl) rfl (aE rfl ?_ ?_);refine CE Jt (tY s.acc m.epoch m.ballot m.change) ID ?_;refine EN (PD 11 ?_);refine PD 12 ?_;refine PD 13 ?_;refine kM ?_ ?_<;>intro h37;refine AL 14 ?_;refine XZ uI (ints AccT.zero.flat) λb10=>?_
 refine EN (AL 15 ?_);refine SW 0 dq aY ?_;refine EN (PD 16 ?_);refine DN ?_
 exact aF
  (aL (aL (aL (aL (aL (bd rfl (by rw[h37]) SB))))))
  (λ_ s=>ak [1,1,0] rfl s)
  (tl5 ((b10):(Nat)) trivial)
 refine AL 14 ?_;refine XZ uI (ints AccT.zero.flat) λb10=>?_
 refine EN (AL 15 ?_);refine SW 0 dq aY ?_;refine EN (PD 16 ?_);refine DN ?_
 exact aF
  (aL (aL (aL (aL (aL (bd rfl (by rw[h37]) SB))))))
  (λ_ s=>ak [1,1,0] rfl s)
  (tl5 ((b10):(Nat)) trivial)
 refine aE rfl ?_ ?_;refine XZ uI (ints AccT.zero.flat) λb10=>?_
 refine EN (AL 10 ?_);refine CE Jt (tY s.acc m.epoch m.ballot m.change) ID ?_;refine EN (PD 11 ?_);refine PD 12 ?_;refine PD 13 ?_;refine kM ?_ ?_<;>intro h37;refine AL 15 ?_;refine SW 0 dq aY ?_;refine EN (PD 16 ?_);refine DN ?_
 exact aF
  (aL (aL (aL (aL (aL (bd rfl (by rw[h37]) SB))))))
  (λ_ s=>ak [1,1,0] rfl s)
  (tl5 ((b10):(Nat)) trivial)
 refine AL 15 ?_;refine SW 0 dq aY ?_;refine EN (PD 16 ?_);refine DN ?_
 exact aF
  (aL (aL (aL (aL (aL (bd rfl (by rw[h37]) SB))))))
  (λ_ s=>ak [1,1,0] rfl s)
  (tl5 ((b10):(Nat)) trivial)
 exact bw;refine DC bh (cL 1 rfl rfl) (BL 0) ?_;refine PD 0 ?_;refine PD 1 ?_;refine FD 2 2 bg bc ?_;refine ta 3 rfl (fQ (vs:=ints s.view.flat) rfl eE rfl bc rfl (λ_ h=>h.2.1) (am s.view) (λa_=>(fL (s.rep a_) 0 rfl (by decide) (whole (am ((s.rep a_).view)))))) ?_;refine FD 4 182 a9 fy ?_;refine ta 5 rfl (aM (vs:=ints m.change.flat) rfl mR rfl fy rfl (λ_ h=>h.2.2.1) (aJ m.change) (mW m 0 rfl (by decide) (whole (aJ m.change)))) ?_;refine cw [6,10] (by kernel_rfl) rfl (aE rfl ?_ ?_);refine CE mH (de s.view m.change OkVw.rng) ID ?_;refine EN (PD 7 ?_);refine PD 8 ?_;refine PD 9 ?_;refine AL 10 ?_;refine XZ re (ints ViewT.zero.flat) λb8=>?_
 refine EN (AL 11 ?_);refine SW 0 bc am ?_;refine EN (PD 12 ?_);refine DN ?_
 exact aF
  SB
  (λ_ s=>ak [2,1] rfl s)
  (tl3 (():Unit) trivial)
 refine aE rfl ?_ ?_;refine XZ re (ints ViewT.zero.flat) λb8=>?_
 refine EN (AL 6 ?_);refine CE mH (de s.view m.change OkVw.rng) ID ?_;refine EN (PD 7 ?_);refine PD 8 ?_;refine PD 9 ?_;refine AL 11 ?_;refine SW 0 bc am ?_;refine EN (PD 12 ?_);refine DN ?_
 exact aF
  SB
  (λ_ s=>ak [2,1] rfl s)
  (tl3 (():Unit) trivial)
 exact bw
theorem uZ{δ:Type}(V:Env δ)(r:Nat)(s:MS δ)(from':Int)(m:MsgT)[OkR V.toDk s][OkMg m](hfe:from'=s.id→m.epoch=s.view.epoch)(hk:m.kind=5):TK V r 105 s from' m (sM V.toDk s from' m):=n9 (by omega) (kh V r s (oI V.toDk from' m) from' m hfe (λe _=>by omega) (λ_ hep=>w4 V r (db s (max s.round m.ballot.round)) from' m hep) (λe=>by omega) (λe=>by omega))
theorem xa{δ:Type}(V:Env δ)(r vb:Nat)(s:MS δ)(vt:VoteT)(hv:s.vote=some vt)(hpt:vt.putting=true)[OkR V.toDk s][OkVt vt]:
 DT 113 #[(.pointer (some ⟨r,0,none⟩)),(.iface V.T V.ov)] T0 [uG V r s (.pointer (some ⟨vb,0,none⟩)),ag vb (VoteT.cells vt) 227] (c9 (λ_ H=>H=[cC V r (ku V.toDk s vt)])):=by
 refine BD 68 Tryz.func113 rfl rfl rfl λw0 F hF=>ab λ_ J1=>eV (α:=(Nat)) (λb4=>True) (λb4=>[(0,(.pointer (some ⟨r,0,none⟩))),(1,(.iface V.T V.ov)),(4,(.pointer (some ⟨b4,0,none⟩)))]) (λb4=>[uG V r s (.pointer (some ⟨vb,0,none⟩)),ag vb (VoteT.cells vt) 227,ag b4 (ints (fw s.view.epoch vt.ballot).flat) 178]) (λb4 hinv=>?_) (λtl1=>?_)
 have _:=hinv;refine ac J1 (ab λ_ J2=>sr λ_ J3=>P2 ?_);refine FA 1067 bg iO ?_;refine LG 0 iw (.pointer (some ⟨vb,0,none⟩)) ?_ (hc:=by exact λa_=>(bQ _ rfl));refine CE JB (nB vb vt) (SM [1]) ?_;refine aW ?_ ?_<;>intro h22;refine nx J3 (CY (ad (P2 ?_)));refine FA 1067 bg iO ?_;refine LG 1 iw (.pointer (some ⟨vb,0,none⟩)) ?_ (hc:=by exact λa_=>(bQ _ rfl));refine CE nN (cV vb vt) ID ?_;refine FA 0 a9 aP ?_;refine SS 2 aP (aG _) (MsgT.set_kind _ rfl _) ?_;refine FA 182 a9 fy ?_;refine SP 2 fy aJ aG MO ?_;refine nx J2 (sr λ_ J4=>cq (H':=cC V r s::[ag b4 (ints (MsgT.mk 5 ((fw s.view.epoch vt.ballot).whose) ((fw s.view.epoch vt.ballot).row) ((fw s.view.epoch vt.ballot).version) ((fw s.view.epoch vt.ballot).epoch) ((fw s.view.epoch vt.ballot).ballot) ((fw s.view.epoch vt.ballot).had) vt.change ((fw s.view.epoch vt.ballot).view)).flat) 178]) (λ_ q=>nP hv (az [1,0] rfl q)) (P2 ?_));refine FA 2 bg bc ?_;refine LZ 0 eE bc am s.view ?_ (hc:=by exact λ_=>cJ _);refine XZ re (ints ViewT.zero.flat) λb5=>?_
 refine SW 0 bc am ?_;refine nx J4 (ab λ_ J5=>sr λ_ J6=>PS ?_);refine nx J6 (aq ?_)
 refine bn (α:=(Nat)) (λk=>k≤5) (λk=>[(0,(.pointer (some ⟨r,0,none⟩))),(1,(.iface V.T V.ov)),(4,(.pointer (some ⟨b4,0,none⟩))),(5,(.pointer (some ⟨b5,0,none⟩))),(34,(.int .i64 (((k:Nat):Int))))]) (λk=>[ag b5 (ints s.view.flat) 44,ag b4 (ints (iR s.view.epoch vt.ballot vt.change).flat) 178,cC V r (iC V.toDk s (nL s.id (iR s.view.epoch vt.ballot vt.change) (λi=>iD s.view ((i:Nat):Int)) k))]) (λk=>5-k) 0
  (aN _) SB
  (λ_ q=>by
  rw[show nL s.id (iR s.view.epoch vt.ballot vt.change) (λi=>iD s.view ((i:Nat):Int)) 0=[]from rfl,pw]
  exact ak [0,1,0] rfl q) (λk hinv=>?_)
 obtain hk:=hinv;refine sr λ_ J7=>PS ?_
 refine an ?_ ?_<;>intro h35;refine nx J7 (ab λ_ J8=>CY (qx J8 (ab λ_ J9=>aq (sr λ_ J10=>P2 ?_))));refine nx J10 (sr λ_ J11=>P3 ?_);refine FA 0 bg aP ?_;refine LG 2 Y3 (.int .i64 (s.id)) ?_ (hc:=by exact λa_=>(cx _ rfl));refine PS ?_;refine an ?_ ?_<;>intro h42;refine PS ?_;refine LW 0 eE bc am ?_;refine PS ?_;refine CE pD (dv s.view ((k:Nat):Int)) ID ?_;refine aW ?_ ?_<;>intro h46;refine PS ?_;refine nx J11 (CY (ad (P3 ?_)));refine LW 1 a9 bW aG ?_;refine CZ iT (nH V r s (nL s.id (iR s.view.epoch vt.ballot vt.change) (λi=>iD s.view ((i:Nat):Int)) k) ((k:Nat):Int) (iR s.view.epoch vt.ballot vt.change) h42) (SM [2]) λvR=>?_
 refine ap (af (ac J9 (ad (AD ?_))));refine PS ?_;refine ap ?_
 exact aI ((k+1):(Nat)) (by omega) (by show 5- (k+1)<5-k;omega)
  SB
  (λ_ q=>by
   rw[im,if_pos ⟨h42,h46⟩]
   exact ak [1,1,0] rfl q)
 refine PS ?_;refine nx J11 (CN (aQ (af (ac J9 (ad (AD ?_))))));refine PS ?_;refine ap ?_
 exact aI ((k+1):(Nat)) (by omega) (by show 5- (k+1)<5-k;omega)
  SB
  (λ_ q=>by
   rw[im,if_neg (λh=>by have:=h.2;rw[h46]at this;cases this)];rw[bb]
   exact ak [0,0,0] rfl q)
 refine PS ?_
 iterate 3 refine UF ?_
 refine PS ?_;refine nx J11 (CN (aQ (af (ac J9 (ad (AD ?_))))));refine PS ?_;refine ap ?_
 exact aI ((k+1):(Nat)) (by omega) (by show 5- (k+1)<5-k;omega)
  SB
  (λ_ q=>by
   rw[im,if_neg (λh=>h42 h.1)];rw[bb]
   exact ak [0,0,0] rfl q)
 obtain rfl:k=5:=by omega
 refine nx J7 (ab λ_ J12=>CN (aS (ay (ay (bj (ac J5 (ab λ_ J13=>DC bh (BL 0) (cL 2 rfl rfl) ?_)))))));refine LY 0 eE bc am ?_;refine PD 1 ?_;refine PD 2 ?_;refine FD 3 0 bg aP ?_;refine ta 4 rfl (cY (v:=(.int .i64 ((jx V.toDk s (iR s.view.epoch vt.ballot vt.change)).id))) rfl Y3 rfl rfl (λ_ h=>h.2.2.1) (λa_=>(cx _ rfl))) ?_;refine AL 5 ?_;refine CE pD (dv s.view ((jx V.toDk s (iR s.view.epoch vt.ballot vt.change)).id)) ID ?_;refine aW ?_ ?_<;>intro h59;refine EN (DN (ac J13 (CY (D1 1 bh ?_))));refine PD 0 ?_;refine PD 1 ?_;refine PD 2 ?_;refine PD 3 ?_;refine FD 4 0 bg aP ?_;refine LY 6 a9 bW aG ?_;refine AL 5 ?_;refine LG 2 Y3 (.int .i64 ((jx V.toDk s (iR s.view.epoch vt.ballot vt.change)).id)) ?_ (hc:=by exact λa_=>(cx _ rfl));refine EN (AL 7 ?_);refine CZ iT (fW V r (jx V.toDk s (iR s.view.epoch vt.ballot vt.change)) s.id (iR s.view.epoch vt.ballot vt.change) (λs_=>sM V.toDk s_ s_.id (iR s.view.epoch vt.ballot vt.change)) (λ_=>uZ V r (jx V.toDk s (iR s.view.epoch vt.ballot vt.change)) s.id (iR s.view.epoch vt.ballot vt.change) (λ_=>rfl) rfl)) (SM [2]) λvR=>?_
 refine EN (DN (WK [0] (bz rfl ?_)));exact MQ (by rw[ku,jC,if_pos (show iD s.view s.id=true from h59),m6,if_pos (show s.id=(jx V.toDk s (iR s.view.epoch vt.ballot vt.change)).id from rfl)]<;>rfl);refine EN (DN (ac J13 (CN (aQ (WK [2] (bz rfl ?_))))));exact MQ (by rw[ku,jC,if_neg (by rw[show iD s.view s.id=false from h59];decide)]<;>rfl)
 · rw[hpt]at h22;cases h22
 refine D1 1 bh ?_;refine PD 0 ?_;refine PD 1 ?_;refine FD 2 2 bg bc ?_;refine FD 3 2 eE aP ?_;refine PD 5 ?_;refine PD 6 ?_;refine FD 7 1067 bg iO ?_;refine cw [4,8,11] (by kernel_rfl) rfl (aE rfl ?_ ?_);refine LG 0 Y3 (.int .i64 (s.view.epoch)) ?_ (hc:=by exact λa_=>(ca (s.rep ⟨(a_:Nat×Value).1,(.pointer (some ⟨vb,0,none⟩)),a_.2⟩) 0 rfl (by decide) (ba _ rfl)));refine EN (cw [8,11] (by kernel_rfl) rfl (aE rfl ?_ ?_));refine LG 0 iw (.pointer (some ⟨vb,0,none⟩)) ?_ (hc:=by exact λa_=>(bQ _ rfl));refine EN (cw [9,11] (by kernel_rfl) rfl (aE rfl ?_ ?_));refine CE ju (bE vb vt) (SM [1]) ?_;refine EN (ta 10 rfl (kO MsgT.zero (MsgT.mk 3 0 RowT.zero 0 s.view.epoch vt.ballot BallotT.zero ChangeT.zero ViewT.zero) [(0,[Value.int .i64 3]),(4,[Value.int .i64 s.view.epoch]),(5,ints vt.ballot.flat)] a9 bo (g:=MsgT.sg)) ?_);refine AL 11 ?_;refine XZ l4 (ints MsgT.zero.flat) λb4=>?_
 refine EN (AL 12 ?_);refine SW 0 bW aG ?_;refine EN (DN ?_)
 exact aF
  SB
  (λ_ s=>ak [2,1,0] rfl s)
  (tl1 ((b4):(Nat)) trivial)
 refine aE rfl ?_ ?_;refine XZ l4 (ints MsgT.zero.flat) λb4=>?_
 refine EN (AL 9 ?_);refine CE ju (bE vb vt) (SM [2]) ?_;refine EN (ta 10 rfl (kO MsgT.zero (MsgT.mk 3 0 RowT.zero 0 s.view.epoch vt.ballot BallotT.zero ChangeT.zero ViewT.zero) [(0,[Value.int .i64 3]),(4,[Value.int .i64 s.view.epoch]),(5,ints vt.ballot.flat)] a9 bo (g:=MsgT.sg)) ?_);refine AL 12 ?_;refine SW 1 bW aG ?_;refine EN (DN ?_)
 exact aF
  SB
  (λ_ s=>ak [2,0,0] rfl s)
  (tl1 ((b4):(Nat)) trivial)
 exact bw;refine aE rfl ?_ ?_;refine XZ l4 (ints MsgT.zero.flat) λb4=>?_
 refine EN (AL 8 ?_);refine LG 1 iw (.pointer (some ⟨vb,0,none⟩)) ?_ (hc:=by exact λa_=>(bQ _ rfl));refine EN (AL 9 ?_);refine CE ju (bE vb vt) (SM [2]) ?_;refine EN (ta 10 rfl (kO MsgT.zero (MsgT.mk 3 0 RowT.zero 0 s.view.epoch vt.ballot BallotT.zero ChangeT.zero ViewT.zero) [(0,[Value.int .i64 3]),(4,[Value.int .i64 s.view.epoch]),(5,ints vt.ballot.flat)] a9 bo (g:=MsgT.sg)) ?_);refine AL 12 ?_;refine SW 1 bW aG ?_;refine EN (DN ?_)
 exact aF
  SB
  (λ_ s=>ak [2,0,0] rfl s)
  (tl1 ((b4):(Nat)) trivial)
 exact bw;refine aE rfl ?_ ?_;refine LG 0 iw (.pointer (some ⟨vb,0,none⟩)) ?_ (hc:=by exact λa_=>(bQ _ rfl));refine EN (cw [4,9,11] (by kernel_rfl) rfl (aE rfl ?_ ?_));refine LG 0 Y3 (.int .i64 (s.view.epoch)) ?_ (hc:=by exact λa_=>(ca (s.rep ⟨(a_:Nat×Value).1,(.pointer (some ⟨vb,0,none⟩)),a_.2⟩) 0 rfl (by decide) (ba _ rfl)));refine EN (cw [9,11] (by kernel_rfl) rfl (aE rfl ?_ ?_));refine CE ju (bE vb vt) (SM [1]) ?_;refine EN (ta 10 rfl (kO MsgT.zero (MsgT.mk 3 0 RowT.zero 0 s.view.epoch vt.ballot BallotT.zero ChangeT.zero ViewT.zero) [(0,[Value.int .i64 3]),(4,[Value.int .i64 s.view.epoch]),(5,ints vt.ballot.flat)] a9 bo (g:=MsgT.sg)) ?_);refine AL 11 ?_;refine XZ l4 (ints MsgT.zero.flat) λb4=>?_
 refine EN (AL 12 ?_);refine SW 0 bW aG ?_;refine EN (DN ?_)
 exact aF
  SB
  (λ_ s=>ak [2,1,0] rfl s)
  (tl1 ((b4):(Nat)) trivial)
 refine aE rfl ?_ ?_;refine XZ l4 (ints MsgT.zero.flat) λb4=>?_
 refine EN (AL 9 ?_);refine CE ju (bE vb vt) (SM [2]) ?_;refine EN (ta 10 rfl (kO MsgT.zero (MsgT.mk 3 0 RowT.zero 0 s.view.epoch vt.ballot BallotT.zero ChangeT.zero ViewT.zero) [(0,[Value.int .i64 3]),(4,[Value.int .i64 s.view.epoch]),(5,ints vt.ballot.flat)] a9 bo (g:=MsgT.sg)) ?_);refine AL 12 ?_;refine SW 1 bW aG ?_;refine EN (DN ?_)
 exact aF
  SB
  (λ_ s=>ak [2,0,0] rfl s)
  (tl1 ((b4):(Nat)) trivial)
 exact bw;refine aE rfl ?_ ?_;refine CE ju (bE vb vt) (SM [1]) ?_;refine EN (cw [4,11] (by kernel_rfl) rfl (aE rfl ?_ ?_));refine LG 1 Y3 (.int .i64 (s.view.epoch)) ?_ (hc:=by exact λa_=>(ca (s.rep ⟨(a_:Nat×Value).1,(.pointer (some ⟨vb,0,none⟩)),a_.2⟩) 0 rfl (by decide) (ba _ rfl)));refine EN (ta 10 rfl (kO MsgT.zero (MsgT.mk 3 0 RowT.zero 0 s.view.epoch vt.ballot BallotT.zero ChangeT.zero ViewT.zero) [(0,[Value.int .i64 3]),(4,[Value.int .i64 s.view.epoch]),(5,ints vt.ballot.flat)] a9 bo (g:=MsgT.sg)) ?_);refine AL 11 ?_;refine XZ l4 (ints MsgT.zero.flat) λb4=>?_
 refine EN (AL 12 ?_);refine SW 0 bW aG ?_;refine EN (DN ?_)
 exact aF
  SB
  (λ_ s=>ak [2,1,0] rfl s)
  (tl1 ((b4):(Nat)) trivial)
 refine aE rfl ?_ ?_;refine XZ l4 (ints MsgT.zero.flat) λb4=>?_
 refine EN (AL 4 ?_);refine LG 2 Y3 (.int .i64 (s.view.epoch)) ?_ (hc:=by exact λa_=>(ca (s.rep ⟨(a_:Nat×Value).1,(.pointer (some ⟨vb,0,none⟩)),a_.2⟩) 0 rfl (by decide) (ba _ rfl)));refine EN (ta 10 rfl (kO MsgT.zero (MsgT.mk 3 0 RowT.zero 0 s.view.epoch vt.ballot BallotT.zero ChangeT.zero ViewT.zero) [(0,[Value.int .i64 3]),(4,[Value.int .i64 s.view.epoch]),(5,ints vt.ballot.flat)] a9 bo (g:=MsgT.sg)) ?_);refine AL 12 ?_;refine SW 0 bW aG ?_;refine EN (DN ?_)
 exact aF
  SB
  (λ_ s=>ak [2,1,0] rfl s)
  (tl1 ((b4):(Nat)) trivial)
 exact bw;refine aE rfl ?_ ?_;refine XZ l4 (ints MsgT.zero.flat) λb4=>?_
 refine EN (cw [4,9] (by kernel_rfl) rfl (aE rfl ?_ ?_));refine LG 1 Y3 (.int .i64 (s.view.epoch)) ?_ (hc:=by exact λa_=>(ca (s.rep ⟨(a_:Nat×Value).1,(.pointer (some ⟨vb,0,none⟩)),a_.2⟩) 0 rfl (by decide) (ba _ rfl)));refine EN (AL 9 ?_);refine CE ju (bE vb vt) (SM [2]) ?_;refine EN (ta 10 rfl (kO MsgT.zero (MsgT.mk 3 0 RowT.zero 0 s.view.epoch vt.ballot BallotT.zero ChangeT.zero ViewT.zero) [(0,[Value.int .i64 3]),(4,[Value.int .i64 s.view.epoch]),(5,ints vt.ballot.flat)] a9 bo (g:=MsgT.sg)) ?_);refine AL 12 ?_;refine SW 1 bW aG ?_;refine EN (DN ?_)
 exact aF
  SB
  (λ_ s=>ak [2,0,0] rfl s)
  (tl1 ((b4):(Nat)) trivial)
 refine aE rfl ?_ ?_;refine CE ju (bE vb vt) (SM [2]) ?_;refine EN (AL 4 ?_);refine LG 2 Y3 (.int .i64 (s.view.epoch)) ?_ (hc:=by exact λa_=>(ca (s.rep ⟨(a_:Nat×Value).1,(.pointer (some ⟨vb,0,none⟩)),a_.2⟩) 0 rfl (by decide) (ba _ rfl)));refine EN (ta 10 rfl (kO MsgT.zero (MsgT.mk 3 0 RowT.zero 0 s.view.epoch vt.ballot BallotT.zero ChangeT.zero ViewT.zero) [(0,[Value.int .i64 3]),(4,[Value.int .i64 s.view.epoch]),(5,ints vt.ballot.flat)] a9 bo (g:=MsgT.sg)) ?_);refine AL 12 ?_;refine SW 1 bW aG ?_;refine EN (DN ?_)
 exact aF
  SB
  (λ_ s=>ak [2,0,0] rfl s)
  (tl1 ((b4):(Nat)) trivial)
 exact bw;exact bw;refine aE rfl ?_ ?_;refine XZ l4 (ints MsgT.zero.flat) λb4=>?_
 refine EN (cw [4,8] (by kernel_rfl) rfl (aE rfl ?_ ?_));refine LG 1 Y3 (.int .i64 (s.view.epoch)) ?_ (hc:=by exact λa_=>(ca (s.rep ⟨(a_:Nat×Value).1,(.pointer (some ⟨vb,0,none⟩)),a_.2⟩) 0 rfl (by decide) (ba _ rfl)));refine EN (AL 8 ?_);refine LG 1 iw (.pointer (some ⟨vb,0,none⟩)) ?_ (hc:=by exact λa_=>(bQ _ rfl));refine EN (AL 9 ?_);refine CE ju (bE vb vt) (SM [2]) ?_;refine EN (ta 10 rfl (kO MsgT.zero (MsgT.mk 3 0 RowT.zero 0 s.view.epoch vt.ballot BallotT.zero ChangeT.zero ViewT.zero) [(0,[Value.int .i64 3]),(4,[Value.int .i64 s.view.epoch]),(5,ints vt.ballot.flat)] a9 bo (g:=MsgT.sg)) ?_);refine AL 12 ?_;refine SW 1 bW aG ?_;refine EN (DN ?_)
 exact aF
  SB
  (λ_ s=>ak [2,0,0] rfl s)
  (tl1 ((b4):(Nat)) trivial)
 refine aE rfl ?_ ?_;refine LG 1 iw (.pointer (some ⟨vb,0,none⟩)) ?_ (hc:=by exact λa_=>(bQ _ rfl));refine EN (cw [4,9] (by kernel_rfl) rfl (aE rfl ?_ ?_));refine LG 1 Y3 (.int .i64 (s.view.epoch)) ?_ (hc:=by exact λa_=>(ca (s.rep ⟨(a_:Nat×Value).1,(.pointer (some ⟨vb,0,none⟩)),a_.2⟩) 0 rfl (by decide) (ba _ rfl)));refine EN (AL 9 ?_);refine CE ju (bE vb vt) (SM [2]) ?_;refine EN (ta 10 rfl (kO MsgT.zero (MsgT.mk 3 0 RowT.zero 0 s.view.epoch vt.ballot BallotT.zero ChangeT.zero ViewT.zero) [(0,[Value.int .i64 3]),(4,[Value.int .i64 s.view.epoch]),(5,ints vt.ballot.flat)] a9 bo (g:=MsgT.sg)) ?_);refine AL 12 ?_;refine SW 1 bW aG ?_;refine EN (DN ?_)
 exact aF
  SB
  (λ_ s=>ak [2,0,0] rfl s)
  (tl1 ((b4):(Nat)) trivial)
 refine aE rfl ?_ ?_;refine CE ju (bE vb vt) (SM [2]) ?_;refine EN (AL 4 ?_);refine LG 2 Y3 (.int .i64 (s.view.epoch)) ?_ (hc:=by exact λa_=>(ca (s.rep ⟨(a_:Nat×Value).1,(.pointer (some ⟨vb,0,none⟩)),a_.2⟩) 0 rfl (by decide) (ba _ rfl)));refine EN (ta 10 rfl (kO MsgT.zero (MsgT.mk 3 0 RowT.zero 0 s.view.epoch vt.ballot BallotT.zero ChangeT.zero ViewT.zero) [(0,[Value.int .i64 3]),(4,[Value.int .i64 s.view.epoch]),(5,ints vt.ballot.flat)] a9 bo (g:=MsgT.sg)) ?_);refine AL 12 ?_;refine SW 1 bW aG ?_;refine EN (DN ?_)
 exact aF
  SB
  (λ_ s=>ak [2,0,0] rfl s)
  (tl1 ((b4):(Nat)) trivial)
 exact bw;exact bw;exact bw
theorem rO{δ:Type}(V:Env δ)(r:Nat)(s:MS δ)(vt:VoteT)(hv:s.vote=some vt)(hpt:vt.putting=true)[OkR V.toDk s]:DT 113 #[.pointer (some ⟨r,0,none⟩), .iface V.T V.ov] T0 [cC V r s] (c9 (λ_ H=>H=[cC V r (ku V.toDk s vt)])):=
 have:OkVt vt:=OkR.vote vt hv
 Leg.Does.ex (λ_ q=>mI hv q) λvb=>xa V r vb s vt hv hpt
theorem qA{δ:Type}(V:Env δ)(r:Nat)(s:MS δ)(from':Int)(m:MsgT)[OkR V.toDk s][OkMg m](hfe:from'=s.id→m.epoch=s.view.epoch)(hk:m.kind=4):TK V r 105 s from' m (qB V.toDk s from' m):=n9 (by omega) (by
 cases hv:s.vote with
 |none=>exact kh V r s (pd V.toDk from' m) from' m hfe (λe=>by omega) (λe=>by omega) (λ_=>by rw[pd,show(db s (max s.round m.ballot.round)).vote=none from hv]) (λ_=>hv)
 |some vt=>
  have hov:OkVt vt:=OkR.vote vt hv;have h:=pk V r s vt from' m hfe (.inl hk) hv (λ_ h2=>rO V r (la (db s (max s.round m.ballot.round)) (eI vt from' m.ballot m.had m.change).1) (eI vt from' m.ballot m.had m.change).1 rfl (Cd h2))
  rwa [show(λs_:MS δ=>if m.kind=4 then pd V.toDk from' m s_ else lc V.toDk from' m s_)=pd V.toDk from' m from funext λ_=>if_pos hk]at h)
theorem w5{δ:Type}(V:Env δ)(r:Nat)(s:MS δ)(from':Int)(m:MsgT)[OkR V.toDk s][OkMg m](hep:m.epoch=s.view.epoch):
 DT 170 #[(.pointer (some ⟨r,0,none⟩)),(.iface V.T V.ov),(.int .i64 (from')),(.agg (ints m.flat).toArray)] T0 [cC V r s] (c9 (λ_ H=>H=[cC V r (pR V.toDk from' m s)])):=by
 refine BD 57 Tryz.func170 rfl rfl rfl λw0 F hF=>?_
 have hpm:OkMg (kr m.epoch m.ballot (bP s.acc m.epoch m.ballot).1.had (bP s.acc m.epoch m.ballot).1.change):=OkMg.promM m.epoch inferInstance;refine sr λ_ J1=>XY (ints m.flat) λb7=>?_
 refine nx J1 (ab λ_ J2=>eV (α:=(Nat)) (λb8=>True) (λb8=>[(0,(.pointer (some ⟨r,0,none⟩))),(1,(.iface V.T V.ov)),(2,(.int .i64 (from'))),(7,(.pointer (some ⟨b7,0,none⟩))),(8,(.pointer (some ⟨b8,0,none⟩))),(9,(.bool ((bP s.acc m.epoch m.ballot).2)))]) (λb8=>[cC V r s,ag b7 (ints m.flat) 178,ag b8 (ints ((bP s.acc m.epoch m.ballot).1).flat) 118]) (λb8 hinv=>?_) (λtl2=>?_));have _:=hinv;refine ac J2 (ab λ_ J3=>sr λ_ J4=>PS ?_);refine aW ?_ ?_<;>intro h22;refine PS ?_;refine nx J4 (CN (qx J3 (ab λ_ J5=>ab λ_ J6=>DC bh (BL 2) (cL 0 rfl rfl) ?_)));refine FD 0 1 iF cp ?_;refine ta 1 rfl (aM (vs:=ints (((bP s.acc m.epoch m.ballot).1).vow).flat) rfl jT rfl cp rfl (λ_ h=>h.2.1) (ao (((bP s.acc m.epoch m.ballot).1).vow)) (Ol ((bP s.acc m.epoch m.ballot).1) 0 rfl (by decide) (whole (ao (((bP s.acc m.epoch m.ballot).1).vow))))) ?_;refine PD 2 ?_;refine PD 3 ?_;refine FD 4 1058 bg dq ?_;refine FD 5 1059 iF cp ?_;refine ta 6 rfl (fQ (vs:=ints s.acc.vow.flat) rfl jT rfl cp rfl (λ_ h=>h.2.2.1) (ao s.acc.vow) (λa_=>(xA (s.rep a_) 1 rfl (by decide) (Ol ((s.rep a_).acc) 0 rfl (by decide) (whole (ao (((s.rep a_).acc).vow))))))) ?_
 refine ta 7 rfl (wR (a:=(((bP s.acc m.epoch m.ballot).1).vow).flat) (b:=s.acc.vow.flat) (m:=6) (c:=2) Kc Ka rfl KC (cG (ao (((bP s.acc m.epoch m.ballot).1).vow))) (cG (ao s.acc.vow)) ⟨e9 F5 Gd (cG (ao (((bP s.acc m.epoch m.ballot).1).vow))),e9 F5 Gd (cG (ao s.acc.vow))⟩ (OkAc.vow inferInstance) (OkAc.vow inferInstance) rfl rfl rfl) ?_;refine gR ?_ ?_<;>intro h31;refine DN (ac J6 (CY (ab λ_ J7=>sr λ_ J8=>PS ?_)));refine FA 177 a9 aP ?_;refine LU 1 Y3 (eC m rfl) ?_;refine FA 178 a9 cp ?_;refine LV 1 jT cp ao nZ (y:=m.ballot) ?_;refine tp (kO RecT.zero (RecT.mk 3 0 RowT.zero m.epoch m.ballot ChangeT.zero ViewT.zero) [(0,[Value.int .i64 3]),(3,[Value.int .i64 m.epoch]),(4,ints m.ballot.flat)] iI eW (g:=RecT.sg)) ?_;refine CE vL (kQ V r s (gJ m.epoch m.ballot)) ID ?_;refine PS ?_;refine an ?_ ?_<;>intro h39;refine nx J8 (CY (ai (ae (ae (WK [0] (dz rfl ?_))))));exact MQ (by rw[pR,if_neg (by rw[h22];decide),if_pos h31,if_pos h39]);refine nx J8 (CN (qx J7 (ad (PS ?_))));refine LW 2 iF dq aY ?_;refine PS ?_;refine FA 1058 bg dq ?_
 refine gD (vs:=ints ((bP s.acc m.epoch m.ballot).1).flat) (i:=0) (aa rfl) rfl rfl rfl rfl rfl (by rw[(aY ((bP s.acc m.epoch m.ballot).1))];exact dq) (bu _) rfl rfl (λ_=>LC (cK _) (aY _)) (λa_=>(kb ((ef V.toDk s (gJ m.epoch m.ballot)).rep a_) 0 rfl (by have h1:=(aY ((bP s.acc m.epoch m.ballot).1));omega) (cm ((aY (((ef V.toDk s (gJ m.epoch m.ballot)).rep a_).acc)).trans (aY ((bP s.acc m.epoch m.ballot).1)).symm)))) (nx J5 (ad (P3 ?_)));refine FA 177 a9 aP ?_;refine LU 1 Y3 (eC m rfl) ?_;refine FA 178 a9 cp ?_;refine LV 1 jT cp ao nZ (y:=m.ballot) ?_;refine FA 3 iF cp ?_;refine LV 2 jT cp ao AccT.sp_had (y:=(((bP s.acc m.epoch m.ballot).1).had)) ?_;refine FA 5 iF fy ?_;refine LV 2 mR fy aJ AccT.sp_change (y:=(((bP s.acc m.epoch m.ballot).1).change)) ?_;refine tp (kO MsgT.zero (MsgT.mk 4 0 RowT.zero 0 m.epoch m.ballot (((bP s.acc m.epoch m.ballot).1).had) (((bP s.acc m.epoch m.ballot).1).change) ViewT.zero) [(0,[Value.int .i64 4]),(4,[Value.int .i64 m.epoch]),(5,ints m.ballot.flat),(6,ints (((bP s.acc m.epoch m.ballot).1).had).flat),(7,ints (((bP s.acc m.epoch m.ballot).1).change).flat)] a9 bo (g:=MsgT.sg)) ?_
 refine CZ iT (fW V r (wN (ef V.toDk s (gJ m.epoch m.ballot)) (bP s.acc m.epoch m.ballot).1) from' (kr m.epoch m.ballot (bP s.acc m.epoch m.ballot).1.had (bP s.acc m.epoch m.ballot).1.change) (λs_=>qB V.toDk s_ s_.id (kr m.epoch m.ballot (bP s.acc m.epoch m.ballot).1.had (bP s.acc m.epoch m.ballot).1.change)) (λ_=>qA V r (wN (ef V.toDk s (gJ m.epoch m.ballot)) (bP s.acc m.epoch m.ballot).1) (wN (ef V.toDk s (gJ m.epoch m.ballot)) (bP s.acc m.epoch m.ballot).1).id (kr m.epoch m.ballot (bP s.acc m.epoch m.ballot).1.had (bP s.acc m.epoch m.ballot).1.change) (λ_=>hep) rfl)) ID λvR=>?_
 refine ap (WK [0] (bz rfl ?_));exact MQ (by rw[pR,if_neg (by rw[h22];decide),if_pos h31,if_neg h39];rfl);refine DN (ac J6 (CN (qx J5 (ad (P3 ?_)))));refine FA 177 a9 aP ?_;refine LU 1 Y3 (eC m rfl) ?_;refine FA 178 a9 cp ?_;refine LV 1 jT cp ao nZ (y:=m.ballot) ?_;refine FA 3 iF cp ?_;refine LV 2 jT cp ao AccT.sp_had (y:=(((bP s.acc m.epoch m.ballot).1).had)) ?_;refine FA 5 iF fy ?_;refine LV 2 mR fy aJ AccT.sp_change (y:=(((bP s.acc m.epoch m.ballot).1).change)) ?_;refine tp (kO MsgT.zero (MsgT.mk 4 0 RowT.zero 0 m.epoch m.ballot (((bP s.acc m.epoch m.ballot).1).had) (((bP s.acc m.epoch m.ballot).1).change) ViewT.zero) [(0,[Value.int .i64 4]),(4,[Value.int .i64 m.epoch]),(5,ints m.ballot.flat),(6,ints (((bP s.acc m.epoch m.ballot).1).had).flat),(7,ints (((bP s.acc m.epoch m.ballot).1).change).flat)] a9 bo (g:=MsgT.sg)) ?_;refine CZ iT (fW V r s from' (kr m.epoch m.ballot (bP s.acc m.epoch m.ballot).1.had (bP s.acc m.epoch m.ballot).1.change) (λs_=>qB V.toDk s_ s_.id (kr m.epoch m.ballot (bP s.acc m.epoch m.ballot).1.had (bP s.acc m.epoch m.ballot).1.change)) (λ_=>qA V r s s.id (kr m.epoch m.ballot (bP s.acc m.epoch m.ballot).1.had (bP s.acc m.epoch m.ballot).1.change) (λ_=>hep) rfl)) ID λvR=>?_
 refine ap (WK [0] (bz rfl ?_));exact MQ (by rw[pR,if_neg (by rw[h22];decide),if_neg h31];rfl);refine PS ?_;refine nx J4 (CY (ai (ae (WK [0] (dz rfl ?_)))));exact MQ (by rw[pR,if_pos h22]);refine DC bh (cL 1 rfl rfl) (BL 0) ?_;refine PD 0 ?_;refine PD 1 ?_;refine FD 2 1058 bg dq ?_;refine ta 3 rfl (fQ (vs:=ints s.acc.flat) rfl iF rfl dq rfl (λ_ h=>h.2.1) (aY s.acc) (λa_=>(xA (s.rep a_) 0 rfl (by decide) (whole (aY ((s.rep a_).acc)))))) ?_;refine FD 4 177 a9 aP ?_;refine LR 5 Y3 (eC m rfl) ?_;refine FD 6 178 a9 cp ?_;refine ta 7 rfl (aM (vs:=ints m.ballot.flat) rfl jT rfl cp rfl (λ_ h=>h.2.2.1) (ao m.ballot) (iJ m 0 rfl (by decide) (whole (ao m.ballot)))) ?_;refine cw [8,12] (by kernel_rfl) rfl (aE rfl ?_ ?_);refine CE Ec (nb s.acc m.epoch m.ballot) ID ?_;refine EN (PD 9 ?_);refine PD 10 ?_;refine PD 11 ?_;refine kM ?_ ?_<;>intro h21;refine AL 12 ?_;refine XZ uI (ints AccT.zero.flat) λb8=>?_
 refine EN (AL 13 ?_);refine SW 0 dq aY ?_;refine EN (PD 14 ?_);refine DN ?_
 exact aF
  (aL (aL (aL (aL (aL (bd rfl (by rw[h21]) SB))))))
  (λ_ s=>ak [2,1,0] rfl s)
  (tl2 ((b8):(Nat)) trivial)
 refine AL 12 ?_;refine XZ uI (ints AccT.zero.flat) λb8=>?_
 refine EN (AL 13 ?_);refine SW 0 dq aY ?_;refine EN (PD 14 ?_);refine DN ?_
 exact aF
  (aL (aL (aL (aL (aL (bd rfl (by rw[h21]) SB))))))
  (λ_ s=>ak [2,1,0] rfl s)
  (tl2 ((b8):(Nat)) trivial)
 refine aE rfl ?_ ?_;refine XZ uI (ints AccT.zero.flat) λb8=>?_
 refine EN (AL 8 ?_);refine CE Ec (nb s.acc m.epoch m.ballot) ID ?_;refine EN (PD 9 ?_);refine PD 10 ?_;refine PD 11 ?_;refine kM ?_ ?_<;>intro h21;refine AL 13 ?_;refine SW 0 dq aY ?_;refine EN (PD 14 ?_);refine DN ?_
 exact aF
  (aL (aL (aL (aL (aL (bd rfl (by rw[h21]) SB))))))
  (λ_ s=>ak [2,1,0] rfl s)
  (tl2 ((b8):(Nat)) trivial)
 refine AL 13 ?_;refine SW 0 dq aY ?_;refine EN (PD 14 ?_);refine DN ?_
 exact aF
  (aL (aL (aL (aL (aL (bd rfl (by rw[h21]) SB))))))
  (λ_ s=>ak [2,1,0] rfl s)
  (tl2 ((b8):(Nat)) trivial)
 exact bw
theorem u0{δ:Type}(V:Env δ)(r:Nat)(s:MS δ)(from':Int)(m:MsgT)[OkR V.toDk s][OkMg m](hfe:from'=s.id→m.epoch=s.view.epoch)(hk:m.kind=3):TK V r 105 s from' m (sN V.toDk s from' m):=n9 (by omega) (kh V r s (pR V.toDk from' m) from' m hfe (λ_ hep=>w5 V r (db s (max s.round m.ballot.round)) from' m hep) (λe _=>by omega) (λe=>by omega) (λe=>by omega))
theorem xb{δ:Type}(V:Env δ)(r vb:Nat)(s:MS δ)(vt:VoteT)(hv:s.vote=some vt)(hpt:vt.putting=false)[OkR V.toDk s][OkVt vt]:
 DT 113 #[(.pointer (some ⟨r,0,none⟩)),(.iface V.T V.ov)] T0 [uG V r s (.pointer (some ⟨vb,0,none⟩)),ag vb (VoteT.cells vt) 227] (c9 (λ_ H=>H=[cC V r (mF V.toDk s vt)])):=by
 refine BD 68 Tryz.func113 rfl rfl rfl λw0 F hF=>ab λ_ J1=>eV (α:=(Nat)) (λb4=>True) (λb4=>[(0,(.pointer (some ⟨r,0,none⟩))),(1,(.iface V.T V.ov)),(4,(.pointer (some ⟨b4,0,none⟩)))]) (λb4=>[uG V r s (.pointer (some ⟨vb,0,none⟩)),ag vb (VoteT.cells vt) 227,ag b4 (ints (fw s.view.epoch vt.ballot).flat) 178]) (λb4 hinv=>?_) (λtl1=>?_)
 have _:=hinv;refine ac J1 (ab λ_ J2=>sr λ_ J3=>P2 ?_);refine FA 1067 bg iO ?_;refine LG 0 iw (.pointer (some ⟨vb,0,none⟩)) ?_ (hc:=by exact λa_=>(bQ _ rfl));refine CE JB (nB vb vt) (SM [1]) ?_;refine aW ?_ ?_<;>intro h22
 · rw[hpt]at h22;cases h22
 refine nx J3 (CN (qx J2 (sr λ_ J4=>cq (H':=cC V r s::[ag b4 (ints (fw s.view.epoch vt.ballot).flat) 178]) (λ_ q=>nP hv (az [1,0] rfl q)) (P2 ?_))));refine FA 2 bg bc ?_;refine LZ 0 eE bc am s.view ?_ (hc:=by exact λ_=>cJ _);refine XZ re (ints ViewT.zero.flat) λb5=>?_
 refine SW 0 bc am ?_;refine nx J4 (ab λ_ J5=>sr λ_ J6=>PS ?_);refine nx J6 (aq ?_)
 refine bn (α:=(Nat)) (λk=>k≤5) (λk=>[(0,(.pointer (some ⟨r,0,none⟩))),(1,(.iface V.T V.ov)),(4,(.pointer (some ⟨b4,0,none⟩))),(5,(.pointer (some ⟨b5,0,none⟩))),(34,(.int .i64 (((k:Nat):Int))))]) (λk=>[ag b5 (ints s.view.flat) 44,ag b4 (ints (fw s.view.epoch vt.ballot).flat) 178,cC V r (iC V.toDk s (nL s.id (fw s.view.epoch vt.ballot) (λi=>iD s.view ((i:Nat):Int)) k))]) (λk=>5-k) 0
  (aN _) SB
  (λ_ q=>by
  rw[show nL s.id (fw s.view.epoch vt.ballot) (λi=>iD s.view ((i:Nat):Int)) 0=[]from rfl,pw]
  exact ak [0,1,0] rfl q) (λk hinv=>?_)
 obtain hk:=hinv;refine sr λ_ J7=>PS ?_
 refine an ?_ ?_<;>intro h35;refine nx J7 (ab λ_ J8=>CY (qx J8 (ab λ_ J9=>aq (sr λ_ J10=>P2 ?_))));refine nx J10 (sr λ_ J11=>P3 ?_);refine FA 0 bg aP ?_;refine LG 2 Y3 (.int .i64 (s.id)) ?_ (hc:=by exact λa_=>(cx _ rfl));refine PS ?_;refine an ?_ ?_<;>intro h42;refine PS ?_;refine LW 0 eE bc am ?_;refine PS ?_;refine CE pD (dv s.view ((k:Nat):Int)) ID ?_;refine aW ?_ ?_<;>intro h46;refine PS ?_;refine nx J11 (CY (ad (P3 ?_)));refine LW 1 a9 bW aG ?_;refine CZ iT (nH V r s (nL s.id (fw s.view.epoch vt.ballot) (λi=>iD s.view ((i:Nat):Int)) k) ((k:Nat):Int) (fw s.view.epoch vt.ballot) h42) (SM [2]) λvR=>?_
 refine ap (af (ac J9 (ad (AD ?_))));refine PS ?_;refine ap ?_
 exact aI ((k+1):(Nat)) (by omega) (by show 5- (k+1)<5-k;omega)
  SB
  (λ_ q=>by
   rw[im,if_pos ⟨h42,h46⟩]
   exact ak [1,1,0] rfl q)
 refine PS ?_;refine nx J11 (CN (aQ (af (ac J9 (ad (AD ?_))))));refine PS ?_;refine ap ?_
 exact aI ((k+1):(Nat)) (by omega) (by show 5- (k+1)<5-k;omega)
  SB
  (λ_ q=>by
   rw[im,if_neg (λh=>by have:=h.2;rw[h46]at this;cases this)];rw[bb]
   exact ak [0,0,0] rfl q)
 refine PS ?_
 iterate 3 refine UF ?_
 refine PS ?_;refine nx J11 (CN (aQ (af (ac J9 (ad (AD ?_))))));refine PS ?_;refine ap ?_
 exact aI ((k+1):(Nat)) (by omega) (by show 5- (k+1)<5-k;omega)
  SB
  (λ_ q=>by
   rw[im,if_neg (λh=>h42 h.1)];rw[bb]
   exact ak [0,0,0] rfl q)
 obtain rfl:k=5:=by omega
 refine nx J7 (ab λ_ J12=>CN (aS (ay (ay (bj (ac J5 (ab λ_ J13=>DC bh (BL 0) (cL 2 rfl rfl) ?_)))))));refine LY 0 eE bc am ?_;refine PD 1 ?_;refine PD 2 ?_;refine FD 3 0 bg aP ?_;refine ta 4 rfl (cY (v:=(.int .i64 ((jx V.toDk s (fw s.view.epoch vt.ballot)).id))) rfl Y3 rfl rfl (λ_ h=>h.2.2.1) (λa_=>(cx _ rfl))) ?_;refine AL 5 ?_;refine CE pD (dv s.view ((jx V.toDk s (fw s.view.epoch vt.ballot)).id)) ID ?_;refine aW ?_ ?_<;>intro h59;refine EN (DN (ac J13 (CY (D1 1 bh ?_))));refine PD 0 ?_;refine PD 1 ?_;refine PD 2 ?_;refine PD 3 ?_;refine FD 4 0 bg aP ?_;refine LY 6 a9 bW aG ?_;refine AL 5 ?_;refine LG 2 Y3 (.int .i64 ((jx V.toDk s (fw s.view.epoch vt.ballot)).id)) ?_ (hc:=by exact λa_=>(cx _ rfl));refine EN (AL 7 ?_);refine CZ iT (fW V r (jx V.toDk s (fw s.view.epoch vt.ballot)) s.id (fw s.view.epoch vt.ballot) (λs_=>sN V.toDk s_ s_.id (fw s.view.epoch vt.ballot)) (λ_=>u0 V r (jx V.toDk s (fw s.view.epoch vt.ballot)) s.id (fw s.view.epoch vt.ballot) (λ_=>rfl) rfl)) (SM [2]) λvR=>?_
 refine EN (DN (WK [0] (bz rfl ?_)));exact MQ (by rw[mF,jC,if_pos (show iD s.view s.id=true from h59),m6,if_pos (show s.id=(jx V.toDk s (fw s.view.epoch vt.ballot)).id from rfl)]<;>rfl);refine EN (DN (ac J13 (CN (aQ (WK [2] (bz rfl ?_))))));exact MQ (by rw[mF,jC,if_neg (by rw[show iD s.view s.id=false from h59];decide)]<;>rfl);refine D1 1 bh ?_;refine PD 0 ?_;refine PD 1 ?_;refine FD 2 2 bg bc ?_;refine FD 3 2 eE aP ?_;refine PD 5 ?_;refine PD 6 ?_;refine FD 7 1067 bg iO ?_;refine cw [4,8,11] (by kernel_rfl) rfl (aE rfl ?_ ?_);refine LG 0 Y3 (.int .i64 (s.view.epoch)) ?_ (hc:=by exact λa_=>(ca (s.rep ⟨(a_:Nat×Value).1,(.pointer (some ⟨vb,0,none⟩)),a_.2⟩) 0 rfl (by decide) (ba _ rfl)));refine EN (cw [8,11] (by kernel_rfl) rfl (aE rfl ?_ ?_));refine LG 0 iw (.pointer (some ⟨vb,0,none⟩)) ?_ (hc:=by exact λa_=>(bQ _ rfl));refine EN (cw [9,11] (by kernel_rfl) rfl (aE rfl ?_ ?_));refine CE ju (bE vb vt) (SM [1]) ?_;refine EN (ta 10 rfl (kO MsgT.zero (MsgT.mk 3 0 RowT.zero 0 s.view.epoch vt.ballot BallotT.zero ChangeT.zero ViewT.zero) [(0,[Value.int .i64 3]),(4,[Value.int .i64 s.view.epoch]),(5,ints vt.ballot.flat)] a9 bo (g:=MsgT.sg)) ?_);refine AL 11 ?_;refine XZ l4 (ints MsgT.zero.flat) λb4=>?_
 refine EN (AL 12 ?_);refine SW 0 bW aG ?_;refine EN (DN ?_)
 exact aF
  SB
  (λ_ s=>ak [2,1,0] rfl s)
  (tl1 ((b4):(Nat)) trivial)
 refine aE rfl ?_ ?_;refine XZ l4 (ints MsgT.zero.flat) λb4=>?_
 refine EN (AL 9 ?_);refine CE ju (bE vb vt) (SM [2]) ?_;refine EN (ta 10 rfl (kO MsgT.zero (MsgT.mk 3 0 RowT.zero 0 s.view.epoch vt.ballot BallotT.zero ChangeT.zero ViewT.zero) [(0,[Value.int .i64 3]),(4,[Value.int .i64 s.view.epoch]),(5,ints vt.ballot.flat)] a9 bo (g:=MsgT.sg)) ?_);refine AL 12 ?_;refine SW 1 bW aG ?_;refine EN (DN ?_)
 exact aF
  SB
  (λ_ s=>ak [2,0,0] rfl s)
  (tl1 ((b4):(Nat)) trivial)
 exact bw;refine aE rfl ?_ ?_;refine XZ l4 (ints MsgT.zero.flat) λb4=>?_
 refine EN (AL 8 ?_);refine LG 1 iw (.pointer (some ⟨vb,0,none⟩)) ?_ (hc:=by exact λa_=>(bQ _ rfl));refine EN (AL 9 ?_);refine CE ju (bE vb vt) (SM [2]) ?_;refine EN (ta 10 rfl (kO MsgT.zero (MsgT.mk 3 0 RowT.zero 0 s.view.epoch vt.ballot BallotT.zero ChangeT.zero ViewT.zero) [(0,[Value.int .i64 3]),(4,[Value.int .i64 s.view.epoch]),(5,ints vt.ballot.flat)] a9 bo (g:=MsgT.sg)) ?_);refine AL 12 ?_;refine SW 1 bW aG ?_;refine EN (DN ?_)
 exact aF
  SB
  (λ_ s=>ak [2,0,0] rfl s)
  (tl1 ((b4):(Nat)) trivial)
 exact bw;refine aE rfl ?_ ?_;refine LG 0 iw (.pointer (some ⟨vb,0,none⟩)) ?_ (hc:=by exact λa_=>(bQ _ rfl));refine EN (cw [4,9,11] (by kernel_rfl) rfl (aE rfl ?_ ?_));refine LG 0 Y3 (.int .i64 (s.view.epoch)) ?_ (hc:=by exact λa_=>(ca (s.rep ⟨(a_:Nat×Value).1,(.pointer (some ⟨vb,0,none⟩)),a_.2⟩) 0 rfl (by decide) (ba _ rfl)));refine EN (cw [9,11] (by kernel_rfl) rfl (aE rfl ?_ ?_));refine CE ju (bE vb vt) (SM [1]) ?_;refine EN (ta 10 rfl (kO MsgT.zero (MsgT.mk 3 0 RowT.zero 0 s.view.epoch vt.ballot BallotT.zero ChangeT.zero ViewT.zero) [(0,[Value.int .i64 3]),(4,[Value.int .i64 s.view.epoch]),(5,ints vt.ballot.flat)] a9 bo (g:=MsgT.sg)) ?_);refine AL 11 ?_;refine XZ l4 (ints MsgT.zero.flat) λb4=>?_
 refine EN (AL 12 ?_);refine SW 0 bW aG ?_;refine EN (DN ?_)
 exact aF
  SB
  (λ_ s=>ak [2,1,0] rfl s)
  (tl1 ((b4):(Nat)) trivial)
 refine aE rfl ?_ ?_;refine XZ l4 (ints MsgT.zero.flat) λb4=>?_
 refine EN (AL 9 ?_);refine CE ju (bE vb vt) (SM [2]) ?_;refine EN (ta 10 rfl (kO MsgT.zero (MsgT.mk 3 0 RowT.zero 0 s.view.epoch vt.ballot BallotT.zero ChangeT.zero ViewT.zero) [(0,[Value.int .i64 3]),(4,[Value.int .i64 s.view.epoch]),(5,ints vt.ballot.flat)] a9 bo (g:=MsgT.sg)) ?_);refine AL 12 ?_;refine SW 1 bW aG ?_;refine EN (DN ?_)
 exact aF
  SB
  (λ_ s=>ak [2,0,0] rfl s)
  (tl1 ((b4):(Nat)) trivial)
 exact bw;refine aE rfl ?_ ?_;refine CE ju (bE vb vt) (SM [1]) ?_;refine EN (cw [4,11] (by kernel_rfl) rfl (aE rfl ?_ ?_));refine LG 1 Y3 (.int .i64 (s.view.epoch)) ?_ (hc:=by exact λa_=>(ca (s.rep ⟨(a_:Nat×Value).1,(.pointer (some ⟨vb,0,none⟩)),a_.2⟩) 0 rfl (by decide) (ba _ rfl)));refine EN (ta 10 rfl (kO MsgT.zero (MsgT.mk 3 0 RowT.zero 0 s.view.epoch vt.ballot BallotT.zero ChangeT.zero ViewT.zero) [(0,[Value.int .i64 3]),(4,[Value.int .i64 s.view.epoch]),(5,ints vt.ballot.flat)] a9 bo (g:=MsgT.sg)) ?_);refine AL 11 ?_;refine XZ l4 (ints MsgT.zero.flat) λb4=>?_
 refine EN (AL 12 ?_);refine SW 0 bW aG ?_;refine EN (DN ?_)
 exact aF
  SB
  (λ_ s=>ak [2,1,0] rfl s)
  (tl1 ((b4):(Nat)) trivial)
 refine aE rfl ?_ ?_;refine XZ l4 (ints MsgT.zero.flat) λb4=>?_
 refine EN (AL 4 ?_);refine LG 2 Y3 (.int .i64 (s.view.epoch)) ?_ (hc:=by exact λa_=>(ca (s.rep ⟨(a_:Nat×Value).1,(.pointer (some ⟨vb,0,none⟩)),a_.2⟩) 0 rfl (by decide) (ba _ rfl)));refine EN (ta 10 rfl (kO MsgT.zero (MsgT.mk 3 0 RowT.zero 0 s.view.epoch vt.ballot BallotT.zero ChangeT.zero ViewT.zero) [(0,[Value.int .i64 3]),(4,[Value.int .i64 s.view.epoch]),(5,ints vt.ballot.flat)] a9 bo (g:=MsgT.sg)) ?_);refine AL 12 ?_;refine SW 0 bW aG ?_;refine EN (DN ?_)
 exact aF
  SB
  (λ_ s=>ak [2,1,0] rfl s)
  (tl1 ((b4):(Nat)) trivial)
 exact bw;refine aE rfl ?_ ?_;refine XZ l4 (ints MsgT.zero.flat) λb4=>?_
 refine EN (cw [4,9] (by kernel_rfl) rfl (aE rfl ?_ ?_));refine LG 1 Y3 (.int .i64 (s.view.epoch)) ?_ (hc:=by exact λa_=>(ca (s.rep ⟨(a_:Nat×Value).1,(.pointer (some ⟨vb,0,none⟩)),a_.2⟩) 0 rfl (by decide) (ba _ rfl)));refine EN (AL 9 ?_);refine CE ju (bE vb vt) (SM [2]) ?_;refine EN (ta 10 rfl (kO MsgT.zero (MsgT.mk 3 0 RowT.zero 0 s.view.epoch vt.ballot BallotT.zero ChangeT.zero ViewT.zero) [(0,[Value.int .i64 3]),(4,[Value.int .i64 s.view.epoch]),(5,ints vt.ballot.flat)] a9 bo (g:=MsgT.sg)) ?_);refine AL 12 ?_;refine SW 1 bW aG ?_;refine EN (DN ?_)
 exact aF
  SB
  (λ_ s=>ak [2,0,0] rfl s)
  (tl1 ((b4):(Nat)) trivial)
 refine aE rfl ?_ ?_;refine CE ju (bE vb vt) (SM [2]) ?_;refine EN (AL 4 ?_);refine LG 2 Y3 (.int .i64 (s.view.epoch)) ?_ (hc:=by exact λa_=>(ca (s.rep ⟨(a_:Nat×Value).1,(.pointer (some ⟨vb,0,none⟩)),a_.2⟩) 0 rfl (by decide) (ba _ rfl)));refine EN (ta 10 rfl (kO MsgT.zero (MsgT.mk 3 0 RowT.zero 0 s.view.epoch vt.ballot BallotT.zero ChangeT.zero ViewT.zero) [(0,[Value.int .i64 3]),(4,[Value.int .i64 s.view.epoch]),(5,ints vt.ballot.flat)] a9 bo (g:=MsgT.sg)) ?_);refine AL 12 ?_;refine SW 1 bW aG ?_;refine EN (DN ?_)
 exact aF
  SB
  (λ_ s=>ak [2,0,0] rfl s)
  (tl1 ((b4):(Nat)) trivial)
 exact bw;exact bw;refine aE rfl ?_ ?_;refine XZ l4 (ints MsgT.zero.flat) λb4=>?_
 refine EN (cw [4,8] (by kernel_rfl) rfl (aE rfl ?_ ?_));refine LG 1 Y3 (.int .i64 (s.view.epoch)) ?_ (hc:=by exact λa_=>(ca (s.rep ⟨(a_:Nat×Value).1,(.pointer (some ⟨vb,0,none⟩)),a_.2⟩) 0 rfl (by decide) (ba _ rfl)));refine EN (AL 8 ?_);refine LG 1 iw (.pointer (some ⟨vb,0,none⟩)) ?_ (hc:=by exact λa_=>(bQ _ rfl));refine EN (AL 9 ?_);refine CE ju (bE vb vt) (SM [2]) ?_;refine EN (ta 10 rfl (kO MsgT.zero (MsgT.mk 3 0 RowT.zero 0 s.view.epoch vt.ballot BallotT.zero ChangeT.zero ViewT.zero) [(0,[Value.int .i64 3]),(4,[Value.int .i64 s.view.epoch]),(5,ints vt.ballot.flat)] a9 bo (g:=MsgT.sg)) ?_);refine AL 12 ?_;refine SW 1 bW aG ?_;refine EN (DN ?_)
 exact aF
  SB
  (λ_ s=>ak [2,0,0] rfl s)
  (tl1 ((b4):(Nat)) trivial)
 refine aE rfl ?_ ?_;refine LG 1 iw (.pointer (some ⟨vb,0,none⟩)) ?_ (hc:=by exact λa_=>(bQ _ rfl));refine EN (cw [4,9] (by kernel_rfl) rfl (aE rfl ?_ ?_));refine LG 1 Y3 (.int .i64 (s.view.epoch)) ?_ (hc:=by exact λa_=>(ca (s.rep ⟨(a_:Nat×Value).1,(.pointer (some ⟨vb,0,none⟩)),a_.2⟩) 0 rfl (by decide) (ba _ rfl)));refine EN (AL 9 ?_);refine CE ju (bE vb vt) (SM [2]) ?_;refine EN (ta 10 rfl (kO MsgT.zero (MsgT.mk 3 0 RowT.zero 0 s.view.epoch vt.ballot BallotT.zero ChangeT.zero ViewT.zero) [(0,[Value.int .i64 3]),(4,[Value.int .i64 s.view.epoch]),(5,ints vt.ballot.flat)] a9 bo (g:=MsgT.sg)) ?_);refine AL 12 ?_;refine SW 1 bW aG ?_;refine EN (DN ?_)
 exact aF
  SB
  (λ_ s=>ak [2,0,0] rfl s)
  (tl1 ((b4):(Nat)) trivial)
 refine aE rfl ?_ ?_;refine CE ju (bE vb vt) (SM [2]) ?_;refine EN (AL 4 ?_);refine LG 2 Y3 (.int .i64 (s.view.epoch)) ?_ (hc:=by exact λa_=>(ca (s.rep ⟨(a_:Nat×Value).1,(.pointer (some ⟨vb,0,none⟩)),a_.2⟩) 0 rfl (by decide) (ba _ rfl)));refine EN (ta 10 rfl (kO MsgT.zero (MsgT.mk 3 0 RowT.zero 0 s.view.epoch vt.ballot BallotT.zero ChangeT.zero ViewT.zero) [(0,[Value.int .i64 3]),(4,[Value.int .i64 s.view.epoch]),(5,ints vt.ballot.flat)] a9 bo (g:=MsgT.sg)) ?_);refine AL 12 ?_;refine SW 1 bW aG ?_;refine EN (DN ?_)
 exact aF
  SB
  (λ_ s=>ak [2,0,0] rfl s)
  (tl1 ((b4):(Nat)) trivial)
 exact bw;exact bw;exact bw
theorem ze{δ:Type}(V:Env δ)(r:Nat)(s:MS δ)(vt:VoteT)(hv:s.vote=some vt)(hpt:vt.putting=false)[OkR V.toDk s]:DT 113 #[.pointer (some ⟨r,0,none⟩), .iface V.T V.ov] T0 [cC V r s] (c9 (λ_ H=>H=[cC V r (mF V.toDk s vt)])):=
 have:OkVt vt:=OkR.vote vt hv
 Leg.Does.ex (λ_ q=>mI hv q) λvb=>xb V r vb s vt hv hpt
theorem qG{δ:Type}(V:Env δ)(r:Nat)(s:MS δ)(vt:VoteT)(hv:s.vote=some vt)[OkR V.toDk s]:DT 113 #[.pointer (some ⟨r,0,none⟩), .iface V.T V.ov] T0 [cC V r s] (c9 (λ_ H=>H=[cC V r (oJ V.toDk s vt)])):=by
 cases hp:vt.putting with
 |true=>rw[oJ,if_pos hp];exact rO V r s vt hv hp
 |false=>rw[oJ,if_neg (by rw[hp];decide)];exact ze V r s vt hv hp
theorem yS{δ:Type}(V:Env δ)(r:Nat)(s:MS δ)(from':Int)(m:MsgT)[OkR V.toDk s][OkMg m](hto:from'≠s.id)(hrs:s.replies.length≤1000000):TK V r 105 s from' m (gf V.toDk s from' m):=by
 have hfe:from'=s.id→m.epoch=s.view.epoch:=λe=>absurd e hto
 by_cases h3:m.kind=3
 · rw[gf];simp only[h3];exact u0 V r s from' m hfe h3
 by_cases h4:m.kind=4
 · rw[gf];simp only[h4];exact qA V r s from' m hfe h4
 by_cases h5:m.kind=5
 · rw[gf];simp only[h5];exact uZ V r s from' m hfe h5
 by_cases h6:m.kind=6
 · rw[gf];simp only[h6];exact qy V r s from' m hfe h6
 refine oa V r s _ from' m (λh=>?_) (λh=>?_) (λh=>?_) (λh=>?_) (λh=>?_) (λh=>?_) (λh=>by omega) (λh=>?_)
 · rw[gf,if_pos h];exact w3 V r s from' m hto
 · rw[gf,if_neg (by omega),if_pos h];exact uY V r s from' m hrs
 · rw[gf,if_neg (by omega),if_neg (by omega),if_pos h]
 · rw[gf,if_neg (by omega),if_neg (by omega),if_neg (by omega),if_pos h];exact tM V r s m.view
 · rw[gf,if_neg (by omega),if_neg (by omega),if_neg (by omega),if_neg (by omega),if_pos h];exact uX V r s from' m
 · rw[gf,if_neg (by omega),if_neg (by omega),if_neg (by omega),if_neg (by omega),if_neg (by omega),if_pos h];exact nD V r s from' m
 · rw[gf,if_neg h.1,if_neg h.2.1,if_neg h.2.2.1,if_neg h.2.2.2.1,if_neg h.2.2.2.2.1,if_neg h.2.2.2.2.2.1,if_neg h3,if_neg h4,if_neg h5,if_neg h6]
theorem pP{δ:Type}(V:Env δ)(r:Nat)(s:MS δ)(c:ChangeT)[OkR V.toDk s][OkCh c]:
 DT 112 #[(.pointer (some ⟨r,0,none⟩)),(.agg (ints c.flat).toArray)] T0 [cC V r s] (RI (.int .i64 (cz V.toDk s c).2) [cC V r (cz V.toDk s c).1]):=by
 refine BD 66 Tryz.func112 rfl rfl rfl λw0 F hF=>sr λ_ J1=>XY (ints c.flat) λb3=>?_
 refine PS ?_;refine nx J1 (ab λ_ J2=>eV (α:=(Nat)) (λb5=>True) (λb5=>[(0,(.pointer (some ⟨r,0,none⟩))),(3,(.pointer (some ⟨b3,0,none⟩))),(4,(.int .i64 0)),(5,(.pointer (some ⟨b5,0,none⟩)))]) (λb5=>[cC V r s,ag b3 (ints c.flat) 28,ag b5 (ints (eD s).flat) 88]) (λb5 hinv=>?_) (λtl2=>?_));have _:=hinv;refine ac J2 (ab λ_ J3=>eV (α:=(Nat)) (λb6=>True) (λb6=>[(0,(.pointer (some ⟨r,0,none⟩))),(3,(.pointer (some ⟨b3,0,none⟩))),(4,(.int .i64 0)),(5,(.pointer (some ⟨b5,0,none⟩))),(6,(.pointer (some ⟨b6,0,none⟩))),(7,(.bool ((bP s.acc s.view.epoch (eD s)).2)))]) (λb6=>[cC V r s,ag b3 (ints c.flat) 28,ag b5 (ints (eD s).flat) 88,ag b6 (ints ((bP s.acc s.view.epoch (eD s)).1).flat) 118]) (λb6 hinv=>?_) (λtl3=>?_));have _:=hinv;refine ac J3 (ab λ_ J4=>sr λ_ J5=>PS ?_);refine aW ?_ ?_<;>intro h33;refine PS ?_;refine nx J5 (CN (qx J4 (ab λ_ J6=>ab λ_ J7=>DC bh (cL 0 rfl rfl) (BL 2) ?_)));refine PD 0 ?_;refine PD 1 ?_;refine PD 2 ?_;refine FD 3 2 bg bc ?_;refine FD 4 2 eE aP ?_;refine ta 5 rfl (cY (v:=(.int .i64 (s.view.epoch))) rfl Y3 rfl rfl (λ_ h=>h.2.1) (λa_=>(ca (s.rep a_) 0 rfl (by decide) (ba _ rfl)))) ?_;refine LY 6 jT cp ao ?_;refine ta 7 rfl (kO RecT.zero (RecT.mk 3 0 RowT.zero s.view.epoch (eD s) ChangeT.zero ViewT.zero) [(0,[Value.int .i64 3]),(3,[Value.int .i64 s.view.epoch]),(4,ints (eD s).flat)] iI eW (g:=RecT.sg)) ?_
 refine AL 8 ?_;refine CE vL (kQ V r s (gJ s.view.epoch (eD s))) ID ?_;refine EN (PD 9 ?_);refine DN (ac J7 (sr λ_ J8=>P2 ?_));refine an ?_ ?_<;>intro h45;refine nx J8 (CY (sr λ_ J9=>P2 ?_));refine nx J9 (ai (ae (WK [0] (au rfl rfl ?_))));have e:cz V.toDk s c=(ef V.toDk s (gJ s.view.epoch (eD s)),rN V.toDk s (gJ s.view.epoch (eD s))):=by rw[cz,if_neg (by rw[h33];decide),if_pos h45]
 exact jt e;refine JV (H':=λvo:Value=>uG V r (ef V.toDk s (gJ s.view.epoch (eD s))) vo::[ag b3 (ints c.flat) 28,ag b5 (ints (eD s).flat) 88,ag b6 (ints ((bP s.acc s.view.epoch (eD s)).1).flat) 118]) (λ_ q=>Ej q) (λvo=>nx J8 (CN (qx J6 (ab λ_ J10=>D2 3 2 bh ?_))));refine PD 0 ?_;refine PD 1 ?_;refine LY 2 iF dq aY ?_;refine FD 3 0 jT aP ?_;refine LX 4 Y3 (.int .i64 ((eD s).round)) ?_ (hc:=by exact e4 _ rfl);refine PD 5 ?_;refine FD 6 1058 bg dq ?_;refine AL 7 ?_;refine gD (vs:=ints ((bP s.acc s.view.epoch (eD s)).1).flat) (i:=0) (aa rfl) rfl rfl rfl rfl rfl (by rw[(aY ((bP s.acc s.view.epoch (eD s)).1))];exact dq) (bu _) rfl rfl (λ_=>LC (cK _) (aY _)) (λa_=>(kb ((ef V.toDk s (gJ s.view.epoch (eD s))).rep ⟨(a_:Nat×Value).1,vo,a_.2⟩) 0 rfl (by have h1:=(aY ((bP s.acc s.view.epoch (eD s)).1));omega) (cm ((aY (((ef V.toDk s (gJ s.view.epoch (eD s))).rep ⟨(a_:Nat×Value).1,vo,a_.2⟩).acc)).trans (aY ((bP s.acc s.view.epoch (eD s)).1)).symm)))) (EN (PD 8 ?_));refine FD 9 1066 bg aP ?_;refine AL 10 ?_;refine SK 0 aP (λ_=>cK _) ?_ (hc:=by exact λa_=>(lC _ rfl _));refine EN (DN (ac J10 (ab λ_ J11=>D2 2 1 bh ?_)));refine PD 0 ?_;refine PD 1 ?_;refine PD 2 ?_;refine FD 3 2 bg bc ?_;refine LY 5 jT cp ao ?_;refine LY 6 mR fy aJ ?_;refine AL 4 ?_;refine LZ 0 eE bc am s.view ?_ (hc:=by exact λ_=>cJ _);refine EN (AL 7 ?_);refine CR Md (yK s.view (eD s) c) ID λvR HR hR=>?_
 obtain⟨vb,rfl,rfl⟩:=hR;refine EN (PD 8 ?_);refine FD 9 1067 bg iO ?_;refine AL 10 ?_;refine SK 1 iO (λ_=>cK _) ?_ (hc:=by exact λa_=>(NV _ rfl _));refine EN (DN (ac J11 (sr λ_ J12=>PS ?_)));refine nx J12 (ai (aF (H':=[cC V r (qW V.toDk s c)]) (dh _) (λ_ q=>nO (ak [1,0] rfl q)) (au rfl rfl ?_)));have e:cz V.toDk s c=(qW V.toDk s c,0):=by rw[cz,if_neg (by rw[h33];decide),if_neg h45]
 exact jt e;refine PS ?_;refine nx J5 (CY (sr λ_ J13=>PS ?_));refine nx J13 (ai (ae (WK [0] (au rfl rfl ?_))));have e:cz V.toDk s c=(s,6):=if_pos h33;exact jt e;refine DC bh (cL 0 rfl rfl) (BL 2) ?_;refine PD 0 ?_;refine PD 1 ?_;refine FD 2 1058 bg dq ?_;refine ta 3 rfl (fQ (vs:=ints s.acc.flat) rfl iF rfl dq rfl (λ_ h=>h.2.1) (aY s.acc) (λa_=>(xA (s.rep a_) 0 rfl (by decide) (whole (aY ((s.rep a_).acc)))))) ?_;refine PD 4 ?_;refine PD 5 ?_;refine FD 6 2 bg bc ?_;refine FD 7 2 eE aP ?_;refine ta 8 rfl (cY (v:=(.int .i64 (s.view.epoch))) rfl Y3 rfl rfl (λ_ h=>h.2.1) (λa_=>(ca (s.rep a_) 0 rfl (by decide) (ba _ rfl)))) ?_;refine LY 9 jT cp ao ?_;refine cw [10,14] (by kernel_rfl) rfl (aE rfl ?_ ?_);refine CE Ec (nb s.acc s.view.epoch (eD s)) ID ?_;refine EN (PD 11 ?_);refine PD 12 ?_;refine PD 13 ?_;refine kM ?_ ?_<;>intro h32;refine AL 14 ?_;refine XZ uI (ints AccT.zero.flat) λb6=>?_
 refine EN (AL 15 ?_);refine SW 0 dq aY ?_;refine EN (PD 16 ?_);refine DN ?_
 exact aF
  (aL (aL (aL (aL (aL (bd rfl (by rw[h32]) SB))))))
  (λ_ s=>ak [1,1,1,0] rfl s)
  (tl3 ((b6):(Nat)) trivial)
 refine AL 14 ?_;refine XZ uI (ints AccT.zero.flat) λb6=>?_
 refine EN (AL 15 ?_);refine SW 0 dq aY ?_;refine EN (PD 16 ?_);refine DN ?_
 exact aF
  (aL (aL (aL (aL (aL (bd rfl (by rw[h32]) SB))))))
  (λ_ s=>ak [1,1,1,0] rfl s)
  (tl3 ((b6):(Nat)) trivial)
 refine aE rfl ?_ ?_;refine XZ uI (ints AccT.zero.flat) λb6=>?_
 refine EN (AL 10 ?_);refine CE Ec (nb s.acc s.view.epoch (eD s)) ID ?_;refine EN (PD 11 ?_);refine PD 12 ?_;refine PD 13 ?_;refine kM ?_ ?_<;>intro h32;refine AL 15 ?_;refine SW 0 dq aY ?_;refine EN (PD 16 ?_);refine DN ?_
 exact aF
  (aL (aL (aL (aL (aL (bd rfl (by rw[h32]) SB))))))
  (λ_ s=>ak [1,1,1,0] rfl s)
  (tl3 ((b6):(Nat)) trivial)
 refine AL 15 ?_;refine SW 0 dq aY ?_;refine EN (PD 16 ?_);refine DN ?_
 exact aF
  (aL (aL (aL (aL (aL (bd rfl (by rw[h32]) SB))))))
  (λ_ s=>ak [1,1,1,0] rfl s)
  (tl3 ((b6):(Nat)) trivial)
 exact bw;refine DB bh (cL 1 rfl rfl) ?_;refine PD 0 ?_;refine PD 1 ?_;refine FD 2 1066 bg aP ?_;refine ta 3 rfl (cY (v:=(.int .i64 (s.round))) rfl Y3 rfl rfl (λ_ h=>h.2.1) (λa_=>(ut _ rfl))) ?_;refine ta 4 rfl (cg (r:=(fM (s.round+1))) rfl rfl rfl rfl) ?_;refine PD 5 ?_;refine PD 6 ?_;refine FD 7 0 bg aP ?_;refine ta 8 rfl (cY (v:=(.int .i64 (s.id))) rfl Y3 rfl rfl (λ_ h=>h.2.1) (λa_=>(cx _ rfl))) ?_;refine ta 9 rfl (kO BallotT.zero (BallotT.mk (fM (s.round+1)) s.id) [(0,[Value.int .i64 (fM (s.round+1))]),(1,[Value.int .i64 s.id])] jT M2 (g:=BallotT.sg)) ?_;refine AL 10 ?_;refine XZ M4 (ints BallotT.zero.flat) λb5=>?_
 refine EN (AL 11 ?_);refine SW 0 cp ao ?_;refine EN (DN ?_)
 exact aF
  SB
  (λ_ s=>ak [2,1,0] rfl s)
  (tl2 ((b5):(Nat)) trivial)
theorem zN{δ:Type}(V:Env δ)(r:Nat)(s:MS δ)(op:Int)(c:ChangeT)[OkR V.toDk s][OkCh c](hrs:s.replies.length≤1000000)(hv:s.vote=none):
 DT 95 #[(.pointer (some ⟨r,0,none⟩)),(.iface V.T V.ov),(.int .i64 (op)),(.agg (ints c.flat).toArray)] T0 [cC V r s] (RI (.int .i64 (eb V.toDk s op c).2) [cC V r (eb V.toDk s op c).1]):=by
 refine BD 44 Tryz.func95 rfl rfl rfl λw0 F hF=>sr λ_ J1=>XY (ints c.flat) λb7=>?_
 refine PS ?_;refine nx J1 (ab λ_ J2=>eV (α:=Unit) (λ_u=>True) (λ_u=>[(0,(.pointer (some ⟨r,0,none⟩))),(1,(.iface V.T V.ov)),(2,(.int .i64 (op))),(7,(.pointer (some ⟨b7,0,none⟩))),(8,(.int .i64 0)),(10,(.int .i64 ((dQ s.view c).2)))]) (λ_u=>[cC V r s,ag b7 (ints c.flat) 28]) (λ_u hinv=>?_) (λtl2=>?_));have _:=hinv;refine ac J2 (ab λ_ J3=>sr λ_ J4=>cq (H':=uG V r s (.pointer none)::[ag b7 (ints c.flat) 28]) (λ_ q=>rT hv q) (P2 ?_));refine an ?_ ?_<;>intro h21;refine P3 ?_;refine FA 1067 bg iO ?_;refine LG 0 iw (.pointer none) ?_ (hc:=by exact λa_=>(bQ _ rfl));refine tq (gF rfl iw rfl rfl) ?_;refine PS ?_;refine nx J4 (CN (qx J3 (ab λ_ J5=>sr λ_ J6=>cq (H':=cC V r s::[ag b7 (ints c.flat) 28]) (λ_ q=>nQ hv (az [0] rfl q)) (P2 ?_))));refine an ?_ ?_<;>intro h30;refine nx J6 (CY (ad (PS ?_)));refine LW 1 mR fy aJ ?_;refine CE Hh (pP V r s c) ID ?_;refine PS ?_;refine nx J5 (sr λ_ J7=>P3 ?_);refine CZ s6 (eR V r ((cz V.toDk s c).1) op ((cz V.toDk s c).2) 0 (by first|exact hrs| (rw[io];exact hrs))) ID λvR=>?_
 refine nx J7 (ab λ_ J8=>sr λ_ J9=>P2 ?_);refine an ?_ ?_<;>intro h39;refine nx J9 (CY (ad (P2 ?_)));refine CZ Eh (qG V r (dB ((cz V.toDk s c).1) op ((cz V.toDk s c).2) 0) (jR s.view (eD s) c) (qV h39)) ID λvR=>?_
 refine nx J8 (sr λ_ J10=>P2 ?_);refine nx J10 (ai (WK [0] (au rfl rfl ?_)));have e:eb V.toDk s op c=((oJ V.toDk (dB ((cz V.toDk s c).1) op ((cz V.toDk s c).2) 0) (jR s.view (eD s) c)),(cz V.toDk s c).2):=by rw[eb,show fH s c=(dQ s.view c).2 by rw[fH,if_neg (λh=>by rw[hv]at h;exact absurd h.2 (by decide))],if_neg (by rw[h30];decide),if_neg (by rw[h39];decide),h39]
 exact jt e;refine nx J9 (CN (qx J8 (sr λ_ J11=>P2 ?_)));refine nx J11 (ai (WK [0] (au rfl rfl ?_)));have e:eb V.toDk s op c=((dB ((cz V.toDk s c).1) op ((cz V.toDk s c).2) 0),(cz V.toDk s c).2):=by rw[eb,show fH s c=(dQ s.view c).2 by rw[fH,if_neg (λh=>by rw[hv]at h;exact absurd h.2 (by decide))],if_neg (by rw[h30];decide),if_pos h39]
 exact jt e;refine nx J6 (CN (qx J5 (sr λ_ J12=>P3 ?_)));refine CZ s6 (eR V r s op ((dQ s.view c).2) 0 (by first|exact hrs| (rw[io];exact hrs))) ID λvR=>?_
 refine nx J12 (ab λ_ J13=>sr λ_ J14=>P2 ?_);refine an ?_ ?_<;>intro h39
 · exact absurd h39 h30
 refine nx J14 (CN (qx J13 (sr λ_ J15=>P2 ?_)));refine nx J15 (ai (WK [0] (au rfl rfl ?_)));have e:eb V.toDk s op c=((dB s op ((dQ s.view c).2) 0),(dQ s.view c).2):=by rw[eb,show fH s c=(dQ s.view c).2 by rw[fH,if_neg (λh=>h30 h.1)]];exact if_pos (by exact h30)
 exact jt e;refine PS ?_
 iterate 5 refine UF ?_
 refine PS ?_;refine nx J4 (CN (qx J3 (ab λ_ J16=>sr λ_ J17=>cq (H':=cC V r s::[ag b7 (ints c.flat) 28]) (λ_ q=>nQ hv (az [0] rfl q)) (P2 ?_))));refine an ?_ ?_<;>intro h30;refine nx J17 (CY (ad (PS ?_)));refine LW 1 mR fy aJ ?_;refine CE Hh (pP V r s c) ID ?_;refine PS ?_;refine nx J16 (sr λ_ J18=>P3 ?_);refine CZ s6 (eR V r ((cz V.toDk s c).1) op ((cz V.toDk s c).2) 0 (by first|exact hrs| (rw[io];exact hrs))) ID λvR=>?_
 refine nx J18 (ab λ_ J19=>sr λ_ J20=>P2 ?_);refine an ?_ ?_<;>intro h39;refine nx J20 (CY (ad (P2 ?_)));refine CZ Eh (qG V r (dB ((cz V.toDk s c).1) op ((cz V.toDk s c).2) 0) (jR s.view (eD s) c) (qV h39)) ID λvR=>?_
 refine nx J19 (sr λ_ J21=>P2 ?_);refine nx J21 (ai (WK [0] (au rfl rfl ?_)));have e:eb V.toDk s op c=((oJ V.toDk (dB ((cz V.toDk s c).1) op ((cz V.toDk s c).2) 0) (jR s.view (eD s) c)),(cz V.toDk s c).2):=by rw[eb,show fH s c=(dQ s.view c).2 by rw[fH,if_neg (λh=>by rw[hv]at h;exact absurd h.2 (by decide))],if_neg (by rw[h30];decide),if_neg (by rw[h39];decide),h39]
 exact jt e;refine nx J20 (CN (qx J19 (sr λ_ J22=>P2 ?_)));refine nx J22 (ai (WK [0] (au rfl rfl ?_)));have e:eb V.toDk s op c=((dB ((cz V.toDk s c).1) op ((cz V.toDk s c).2) 0),(cz V.toDk s c).2):=by rw[eb,show fH s c=(dQ s.view c).2 by rw[fH,if_neg (λh=>by rw[hv]at h;exact absurd h.2 (by decide))],if_neg (by rw[h30];decide),if_pos h39]
 exact jt e;refine nx J17 (CN (qx J16 (sr λ_ J23=>P3 ?_)));refine CZ s6 (eR V r s op ((dQ s.view c).2) 0 (by first|exact hrs| (rw[io];exact hrs))) ID λvR=>?_
 refine nx J23 (ab λ_ J24=>sr λ_ J25=>P2 ?_);refine an ?_ ?_<;>intro h39
 · exact absurd h39 h30
 refine nx J25 (CN (qx J24 (sr λ_ J26=>P2 ?_)));refine nx J26 (ai (WK [0] (au rfl rfl ?_)));have e:eb V.toDk s op c=((dB s op ((dQ s.view c).2) 0),(dQ s.view c).2):=by rw[eb,show fH s c=(dQ s.view c).2 by rw[fH,if_neg (λh=>h30 h.1)]];exact if_pos (by exact h30)
 exact jt e;refine DC bh (cL 1 rfl rfl) (BL 0) ?_;refine PD 0 ?_;refine PD 1 ?_;refine FD 2 2 bg bc ?_;refine ta 3 rfl (fQ (vs:=ints s.view.flat) rfl eE rfl bc rfl (λ_ h=>h.2.1) (am s.view) (λa_=>(fL (s.rep a_) 0 rfl (by decide) (whole (am ((s.rep a_).view)))))) ?_;refine LY 4 mR fy aJ ?_;refine cw [5,9] (by kernel_rfl) rfl (aE rfl ?_ ?_);refine CE mH (de s.view c OkVw.rng) ID ?_;refine EN (PD 6 ?_);refine PD 7 ?_;refine PD 8 ?_;refine AL 9 ?_;refine XZ re (ints ViewT.zero.flat) λb9=>?_
 refine EN (AL 10 ?_);refine SW 0 bc am ?_;refine EN (PD 11 ?_);refine DN ?_
 exact aF
  SB
  (λ_ s=>ak [2,1] rfl s)
  (tl2 (():Unit) trivial)
 refine aE rfl ?_ ?_;refine XZ re (ints ViewT.zero.flat) λb9=>?_
 refine EN (AL 5 ?_);refine CE mH (de s.view c OkVw.rng) ID ?_;refine EN (PD 6 ?_);refine PD 7 ?_;refine PD 8 ?_;refine AL 10 ?_;refine SW 0 bc am ?_;refine EN (PD 11 ?_);refine DN ?_
 exact aF
  SB
  (λ_ s=>ak [2,1] rfl s)
  (tl2 (():Unit) trivial)
 exact bw
theorem zM{δ:Type}(V:Env δ)(r:Nat)(s:MS δ)(vt:VoteT)(op:Int)(c:ChangeT)[OkR V.toDk s][OkCh c](hrs:s.replies.length≤1000000)(hv:s.vote=some vt):
 DT 95 #[(.pointer (some ⟨r,0,none⟩)),(.iface V.T V.ov),(.int .i64 (op)),(.agg (ints c.flat).toArray)] T0 [cC V r s] (RI (.int .i64 (eb V.toDk s op c).2) [cC V r (eb V.toDk s op c).1]):=by
 refine BD 44 Tryz.func95 rfl rfl rfl λw0 F hF=>sr λ_ J1=>XY (ints c.flat) λb7=>?_
 refine PS ?_;refine nx J1 (ab λ_ J2=>eV (α:=Unit) (λ_u=>True) (λ_u=>[(0,(.pointer (some ⟨r,0,none⟩))),(1,(.iface V.T V.ov)),(2,(.int .i64 (op))),(7,(.pointer (some ⟨b7,0,none⟩))),(8,(.int .i64 0)),(10,(.int .i64 ((dQ s.view c).2)))]) (λ_u=>[cC V r s,ag b7 (ints c.flat) 28]) (λ_u hinv=>?_) (λtl2=>?_));have _:=hinv;refine ac J2 (ab λ_ J3=>sr λ_ J4=>JV (H':=λvb:Nat=>uG V r s (.pointer (some ⟨vb,0,none⟩))::ag vb (VoteT.cells vt) 227::[ag b7 (ints c.flat) 28]) (λ_ q=>mI hv q) (λvb=>P2 ?_));refine an ?_ ?_<;>intro h21;refine P3 ?_;refine FA 1067 bg iO ?_;refine LG 0 iw (.pointer (some ⟨vb,0,none⟩)) ?_ (hc:=by exact λa_=>(bQ _ rfl));refine tq (fP rfl iw rfl rfl) ?_;refine PS ?_;refine nx J4 (CY (ad (cq (H':=cC V r s::[ag b7 (ints c.flat) 28]) (λ_ q=>nP hv (az [0,0] rfl q)) (PS ?_))));refine nx J3 (ab λ_ J5=>sr λ_ J6=>P2 ?_);refine nx J6 (CN (qx J5 (sr λ_ J7=>P3 ?_)));refine CZ s6 (eR V r s op 8 0 (by first|exact hrs| (rw[io];exact hrs))) ID λvR=>?_
 refine nx J7 (ab λ_ J8=>sr λ_ J9=>P2 ?_);refine nx J9 (CN (qx J8 (sr λ_ J10=>P2 ?_)));refine nx J10 (ai (WK [0] (au rfl rfl ?_)));have e:eb V.toDk s op c=((dB s op 8 0),8):=by rw[eb,show fH s c=8 by rw[fH,if_pos ⟨h21,by rw[hv];rfl⟩]];exact if_pos (by decide)
 exact jt e;refine PS ?_
 iterate 5 refine UF ?_
 refine PS ?_;refine nx J4 (CN (qx J3 (ab λ_ J11=>sr λ_ J12=>cq (H':=cC V r s::[ag b7 (ints c.flat) 28]) (λ_ q=>nP hv (az [0,0] rfl q)) (P2 ?_))));refine an ?_ ?_<;>intro h30
 · exact absurd h30 (by first|decide|exact h21)
 refine nx J12 (CN (qx J11 (sr λ_ J13=>P3 ?_)));refine CZ s6 (eR V r s op ((dQ s.view c).2) 0 (by first|exact hrs| (rw[io];exact hrs))) ID λvR=>?_
 refine nx J13 (ab λ_ J14=>sr λ_ J15=>P2 ?_);refine an ?_ ?_<;>intro h39
 · exact absurd h39 (by first|decide|exact h30)
 refine nx J15 (CN (qx J14 (sr λ_ J16=>P2 ?_)));refine nx J16 (ai (WK [0] (au rfl rfl ?_)));have e:eb V.toDk s op c=((dB s op ((dQ s.view c).2) 0),(dQ s.view c).2):=by rw[eb,show fH s c=(dQ s.view c).2 by rw[fH,if_neg (λh=>h30 h.1)]];exact if_pos (by exact h30)
 exact jt e;refine DC bh (cL 1 rfl rfl) (BL 0) ?_;refine PD 0 ?_;refine PD 1 ?_;refine FD 2 2 bg bc ?_;refine ta 3 rfl (fQ (vs:=ints s.view.flat) rfl eE rfl bc rfl (λ_ h=>h.2.1) (am s.view) (λa_=>(fL (s.rep a_) 0 rfl (by decide) (whole (am ((s.rep a_).view)))))) ?_;refine LY 4 mR fy aJ ?_;refine cw [5,9] (by kernel_rfl) rfl (aE rfl ?_ ?_);refine CE mH (de s.view c OkVw.rng) ID ?_;refine EN (PD 6 ?_);refine PD 7 ?_;refine PD 8 ?_;refine AL 9 ?_;refine XZ re (ints ViewT.zero.flat) λb9=>?_
 refine EN (AL 10 ?_);refine SW 0 bc am ?_;refine EN (PD 11 ?_);refine DN ?_
 exact aF
  SB
  (λ_ s=>ak [2,1] rfl s)
  (tl2 (():Unit) trivial)
 refine aE rfl ?_ ?_;refine XZ re (ints ViewT.zero.flat) λb9=>?_
 refine EN (AL 5 ?_);refine CE mH (de s.view c OkVw.rng) ID ?_;refine EN (PD 6 ?_);refine PD 7 ?_;refine PD 8 ?_;refine AL 10 ?_;refine SW 0 bc am ?_;refine EN (PD 11 ?_);refine DN ?_
 exact aF
  SB
  (λ_ s=>ak [2,1] rfl s)
  (tl2 (():Unit) trivial)
 exact bw
theorem zL{δ:Type}(V:Env δ)(r:Nat)(s:MS δ)(op:Int)(c:ChangeT)[OkR V.toDk s][OkCh c](hrs:s.replies.length≤1000000):DT 95 #[.pointer (some ⟨r,0,none⟩), .iface V.T V.ov, .int .i64 op, .agg (ints c.flat).toArray] T0 [cC V r s] (RI (.int .i64 (eb V.toDk s op c).2) [cC V r (eb V.toDk s op c).1]):=by
 cases hv:s.vote with
 |none=>exact zN V r s op c hrs hv
 |some vt=>exact zM V r s vt op c hrs hv
theorem vE{δ:Type}(V:Env δ)(r:Nat)(s:MS δ)(o:OpT):DT 96 #[.pointer (some ⟨r,0,none⟩), .agg (ints o.flat).toArray] T0 [cC V r s] (RI (.tuple #[.agg (ints (c8 s o).1.flat).toArray, .int .i64 (c8 s o).2.1, .int .i64 (c8 s o).2.2]) [cC V r s]):=Leg.Does.hid (λa=>Fv r (s.rep a) o)
theorem zI{δ:Type}(V:Env δ)(r:Nat)(s:MS δ)(o:OpT)[OkR V.toDk s][OkCh o.change](hrs:s.replies.length≤1000000):
 DT 58 #[(.pointer (some ⟨r,0,none⟩)),(.iface V.T V.ov),(.agg (ints o.flat).toArray)] T0 [cC V r s] (RI (.int .i64 (bY V.toDk s o).2) [cC V r (bY V.toDk s o).1]):=by
 refine BD 74 Tryz.func58 rfl rfl rfl λw0 F hF=>sr λ_ J1=>XY (ints o.flat) λb5=>?_
 refine PS ?_;refine nx J1 (sr λ_ J2=>P2 ?_);refine FA 1941 bg aP ?_;refine LG 1 Y3 (.int .i64 (s.ops)) ?_ (hc:=by exact λa_=>(RepT.at_ops _ rfl));refine tp (cg (r:=(fM (s.ops+1))) rfl rfl rfl rfl) ?_;refine PS ?_;refine FA 1941 bg aP ?_;refine SK 1 aP (λ_=>cK _) ?_ (hc:=by exact λa_=>(RepT.set_ops _ rfl _));refine nx J2 (sr λ_ J3=>P2 ?_);refine FA 1941 bg aP ?_;refine LG 1 Y3 (.int .i64 ((bK s).ops)) ?_ (hc:=by exact λa_=>(RepT.at_ops _ rfl));refine PS ?_;refine nx J3 (ab λ_ J4=>ab λ_ J5=>DC bh (cL 1 rfl rfl) (BL 0) ?_);refine PD 0 ?_;refine PD 1 ?_;refine FD 2 2 bg bc ?_;refine ta 3 rfl (fQ (vs:=ints ((bK s).view).flat) rfl eE rfl bc rfl (λ_ h=>h.2.1) (am ((bK s).view)) (λa_=>(fL ((bK s).rep a_) 0 rfl (by decide) (whole (am (((bK s).rep a_).view)))))) ?_;refine PD 4 ?_;refine PD 5 ?_;refine FD 6 0 bg aP ?_;refine ta 7 rfl (cY (v:=(.int .i64 ((bK s).id))) rfl Y3 rfl rfl (λ_ h=>h.2.1) (λa_=>(cx _ rfl))) ?_;refine AL 8 ?_;refine CE pD (dv ((bK s).view) ((bK s).id)) ID ?_;refine aW ?_ ?_<;>intro h30;refine EN (PD 9 ?_);refine FD 10 0 fz aP ?_;refine LR 11 Y3 (cS o rfl) ?_;refine PD 12 ?_;refine gR ?_ ?_<;>intro h34;refine PD 13 ?_;refine DN (ac J5 (CY (sr λ_ J6=>P3 ?_)));refine FA 5 fz fy ?_;refine LV 0 mR fy aJ OpT.sp_change (y:=o.change) ?_;refine CE Nn (zL V r (bK s) ((bK s).ops) o.change hrs) (SM [1]) ?_;refine PS ?_;refine nx J6 (ai (ae (WK [0] (au rfl rfl ?_))))
 have e:bY V.toDk s o=((eb V.toDk (bK s) ((bK s).ops) o.change).1,(eb V.toDk (bK s) (bK s).ops o.change).2):=by rw[bY,show iD s.view s.id=true from h30,decide_eq_true h34,if_pos (by rfl)]
 exact jt e;refine PD 13 ?_;refine DN (ac J5 (CN (qx J4 (sr λ_ J7=>PS ?_))));refine LW 0 fz Ap H6 ?_;refine CE Lr (vE V r (bK s) o) (SM [1]) ?_;refine P4 ?_;refine XZ tk (ints RowT.zero.flat) λb8=>?_
 refine SW 0 aZ ah ?_;refine P2 ?_;refine nx J7 (ab λ_ J8=>sr λ_ J9=>P2 ?_);refine an ?_ ?_<;>intro h50;refine PS ?_
 iterate 3 refine UT ?_
 refine PS ?_;refine nx J9 (CY (sr λ_ J10=>P4 ?_));refine CZ s6 (eR V r (bK s) ((bK s).ops) ((c8 (bK s) o).2.2) ((c8 (bK s) o).2.1) (by first|exact hrs| (rw[jj];exact hrs))) (SM [1]) λvR=>?_
 refine nx J10 (sr λ_ J11=>P2 ?_);refine nx J11 (ai (ae (WK [0] (au rfl rfl ?_))));have e:bY V.toDk s o=((dB (bK s) ((bK s).ops) ((c8 (bK s) o).2.2) ((c8 (bK s) o).2.1)),(c8 (bK s) o).2.2):=by rw[bY,show iD s.view s.id=true from h30,decide_eq_false h34,if_neg (by decide),oE,if_pos (.inl h50)]
 exact jt e;refine PS ?_;refine FA 0 fz aP ?_;refine LU 2 Y3 (cS o rfl) ?_;refine PS ?_;refine an ?_ ?_<;>intro h54;refine PS ?_;refine nx J9 (CY (sr λ_ J12=>P4 ?_));refine CZ s6 (eR V r (bK s) ((bK s).ops) ((c8 (bK s) o).2.2) ((c8 (bK s) o).2.1) (by first|exact hrs| (rw[jj];exact hrs))) (SM [1]) λvR=>?_
 refine nx J12 (sr λ_ J13=>P2 ?_);refine nx J13 (ai (ae (WK [0] (au rfl rfl ?_))));have e:bY V.toDk s o=((dB (bK s) ((bK s).ops) ((c8 (bK s) o).2.2) ((c8 (bK s) o).2.1)),(c8 (bK s) o).2.2):=by rw[bY,show iD s.view s.id=true from h30,decide_eq_false h34,if_neg (by decide),oE,if_pos (.inr h54)]
 exact jt e;refine PS ?_;refine nx J9 (CN (qx J8 (ab λ_ J14=>sr λ_ J15=>P2 ?_)));refine LW 0 dN aZ ah ?_;refine PS ?_;refine CE Ki (qQ V r (bK s) ((c8 (bK s) o).1) ((bK s).ops)) (SM [1]) ?_;refine PS ?_;refine nx J15 (sr λ_ J16=>P2 ?_);refine an ?_ ?_<;>intro h68;refine nx J16 (CY (ad (P3 ?_)));refine CZ s6 (eR V r ((eU V.toDk (bK s) ((c8 (bK s) o).1) ((bK s).ops)).1) ((bK s).ops) ((eU V.toDk (bK s) ((c8 (bK s) o).1) ((bK s).ops)).2) 0 (by first|exact hrs| (rw[jj];exact hrs))) ID λvR=>?_
 refine nx J14 (sr λ_ J17=>P2 ?_);refine nx J17 (ai (WK [0] (au rfl rfl ?_)));have e:bY V.toDk s o=((dB ((eU V.toDk (bK s) ((c8 (bK s) o).1) ((bK s).ops)).1) ((bK s).ops) ((eU V.toDk (bK s) ((c8 (bK s) o).1) ((bK s).ops)).2) 0),(eU V.toDk (bK s) (c8 (bK s) o).1 (bK s).ops).2):=by rw[bY,show iD s.view s.id=true from h30,decide_eq_false h34,if_neg (by decide),oE,if_neg (λh=>h.elim (λh=>h50 h) (λh=>h54 h)),if_pos h68]
 exact jt e;refine nx J16 (CN (qx J14 (sr λ_ J18=>P2 ?_)));refine nx J18 (ai (WK [0] (au rfl rfl ?_)));have e:bY V.toDk s o=((eU V.toDk (bK s) ((c8 (bK s) o).1) ((bK s).ops)).1,(eU V.toDk (bK s) (c8 (bK s) o).1 (bK s).ops).2):=by rw[bY,show iD s.view s.id=true from h30,decide_eq_false h34,if_neg (by decide),oE,if_neg (λh=>h.elim (λh=>h50 h) (λh=>h54 h)),if_neg h68,show(eU V.toDk (bK s) (c8 (bK s) o).1 (bK s).ops).2=0 from Decidable.not_not.1 h68]
 exact jt e;refine EN (PD 9 ?_);refine NT 10 ?_;refine NT 11 ?_;refine NT 12 ?_;refine PD 13 ?_;refine DN (ac J5 (CN (qx J4 (sr λ_ J19=>PS ?_))));refine LW 0 fz Ap H6 ?_;refine CE Lr (vE V r (bK s) o) (SM [1]) ?_;refine P4 ?_;refine XZ tk (ints RowT.zero.flat) λb8=>?_
 refine SW 0 aZ ah ?_;refine P2 ?_;refine nx J19 (ab λ_ J20=>sr λ_ J21=>P2 ?_);refine an ?_ ?_<;>intro h50;refine PS ?_
 iterate 3 refine UT ?_
 refine PS ?_;refine nx J21 (CY (sr λ_ J22=>P4 ?_));refine CZ s6 (eR V r (bK s) ((bK s).ops) ((c8 (bK s) o).2.2) ((c8 (bK s) o).2.1) (by first|exact hrs| (rw[jj];exact hrs))) (SM [1]) λvR=>?_
 refine nx J22 (sr λ_ J23=>P2 ?_);refine nx J23 (ai (ae (WK [0] (au rfl rfl ?_))));have e:bY V.toDk s o=((dB (bK s) ((bK s).ops) ((c8 (bK s) o).2.2) ((c8 (bK s) o).2.1)),(c8 (bK s) o).2.2):=by rw[bY,show iD s.view s.id=false from h30,if_neg (by rw[gx];decide),oE,if_pos (.inl h50)]
 exact jt e;refine PS ?_;refine FA 0 fz aP ?_;refine LU 2 Y3 (cS o rfl) ?_;refine PS ?_;refine an ?_ ?_<;>intro h54;refine PS ?_;refine nx J21 (CY (sr λ_ J24=>P4 ?_));refine CZ s6 (eR V r (bK s) ((bK s).ops) ((c8 (bK s) o).2.2) ((c8 (bK s) o).2.1) (by first|exact hrs| (rw[jj];exact hrs))) (SM [1]) λvR=>?_
 refine nx J24 (sr λ_ J25=>P2 ?_);refine nx J25 (ai (ae (WK [0] (au rfl rfl ?_))));have e:bY V.toDk s o=((dB (bK s) ((bK s).ops) ((c8 (bK s) o).2.2) ((c8 (bK s) o).2.1)),(c8 (bK s) o).2.2):=by rw[bY,show iD s.view s.id=false from h30,if_neg (by rw[gx];decide),oE,if_pos (.inr h54)]
 exact jt e;refine PS ?_;refine nx J21 (CN (qx J20 (ab λ_ J26=>sr λ_ J27=>P2 ?_)));refine LW 0 dN aZ ah ?_;refine PS ?_;refine CE Ki (qQ V r (bK s) ((c8 (bK s) o).1) ((bK s).ops)) (SM [1]) ?_;refine PS ?_;refine nx J27 (sr λ_ J28=>P2 ?_);refine an ?_ ?_<;>intro h68;refine nx J28 (CY (ad (P3 ?_)));refine CZ s6 (eR V r ((eU V.toDk (bK s) ((c8 (bK s) o).1) ((bK s).ops)).1) ((bK s).ops) ((eU V.toDk (bK s) ((c8 (bK s) o).1) ((bK s).ops)).2) 0 (by first|exact hrs| (rw[jj];exact hrs))) ID λvR=>?_
 refine nx J26 (sr λ_ J29=>P2 ?_);refine nx J29 (ai (WK [0] (au rfl rfl ?_)));have e:bY V.toDk s o=((dB ((eU V.toDk (bK s) ((c8 (bK s) o).1) ((bK s).ops)).1) ((bK s).ops) ((eU V.toDk (bK s) ((c8 (bK s) o).1) ((bK s).ops)).2) 0),(eU V.toDk (bK s) (c8 (bK s) o).1 (bK s).ops).2):=by rw[bY,show iD s.view s.id=false from h30,if_neg (by rw[gx];decide),oE,if_neg (λh=>h.elim (λh=>h50 h) (λh=>h54 h)),if_pos h68]
 exact jt e;refine nx J28 (CN (qx J26 (sr λ_ J30=>P2 ?_)));refine nx J30 (ai (WK [0] (au rfl rfl ?_)));have e:bY V.toDk s o=((eU V.toDk (bK s) ((c8 (bK s) o).1) ((bK s).ops)).1,(eU V.toDk (bK s) (c8 (bK s) o).1 (bK s).ops).2):=by rw[bY,show iD s.view s.id=false from h30,if_neg (by rw[gx];decide),oE,if_neg (λh=>h.elim (λh=>h50 h) (λh=>h54 h)),if_neg h68,show(eU V.toDk (bK s) (c8 (bK s) o).1 (bK s).ops).2=0 from Decidable.not_not.1 h68]
 exact jt e
end Go.Proofs.YtjblgopghhgflaaGreat
end
