/-
  DiskRuns, walked.
-/

import Derived.Test.YtocdameafihnaaaLaw6
import Derived.Test.YtocdameafihnaaaLaw6Q

namespace Go.Proofs.Ytocdameafihnaaa

open Go Leg Codec Api Dsk

set_option maxRecDepth 100000

set_option maxHeartbeats 8000000

theorem diskRuns_does (x : Value) (l : List CallT) :
    Does Try.prog 4 #[x] (IsL 5 EC x l) [] (Ret (fun v H => v = .bool true ∧ H = [])) := by
  refine Does.body (vs := [x]) (n := 213) Try.func4 rfl rfl rfl (fun w0 F hF => ?_)
  refine TC.seq (fun K1 hK1 => ?_)
  refine TC.region ?_
  refine TL.v (Want.plain rfl) rfl rfl (PV.assign rfl rfl) ?_
  refine TL.nil ?_
  refine TE.next hK1 ?_
  clear hK1
  refine TC.seq (fun K2 hK2 => ?_)
  refine TC.seq (fun K3 hK3 => ?_)
  refine TC.region ?_
  refine TL.callR (A := []) (B := []) (Want.plain rfl) rfl rfl rfl nm12 rfl (fit6_does ) (fun _ s => s) (fun _ _ _ => trivial) (fun vR HR hR => ?_)
  obtain ⟨rfl, rfl⟩ := hR
  change TL _ _ _ _ _ _ _ _ _ []
  refine TL.v (Want.plain rfl) rfl rfl (PV.not (r := false) rfl rfl rfl) ?_
  refine TL.nil ?_
  refine TE.next hK3 ?_
  clear hK3
  refine TC.no rfl ?_
  refine TC.skip ?_
  refine TE.next hK2 ?_
  clear hK2
  refine TC.seq (fun K4 hK4 => ?_)
  refine TC.seq (fun K5 hK5 => ?_)
  refine TC.region ?_
  refine TL.v (Want.plain rfl) rfl rfl (PV.move rfl rfl) ?_
  refine TL.v (Want.plain rfl) rfl rfl (PV.lenV rfl Try.underlying32 rfl hF.len) ?_
  refine TL.v (Want.plain rfl) rfl rfl (PV.gtr rfl rfl rfl) ?_
  refine TL.dec (fun h24 => ?_) (fun h24 => ?_)
  · skip
    refine TL.nil ?_
    refine TE.next hK5 ?_
    clear hK5
    refine TC.yes rfl ?_
    refine TC.seq (fun K6 hK6 => ?_)
    refine TC.region ?_
    refine TL.v (Want.plain rfl) rfl rfl (PV.assign rfl rfl) ?_
    refine TL.nil ?_
    refine TE.next hK6 ?_
    clear hK6
    refine TC.ret ?_
    refine TE.passRet ?_
    clear hK4
    refine TE.weak (Sub.refl _) (fun _ s => sep_keep [] rfl s) ?_
    refine TE.ret1 rfl rfl ?_
    exact ⟨rfl, rfl⟩
  · skip
    refine TL.nil ?_
    refine TE.next hK5 ?_
    clear hK5
    refine TC.no rfl ?_
    refine TC.skip ?_
    refine TE.next hK4 ?_
    clear hK4
    refine TC.seq (fun K7 hK7 => ?_)
    refine TC.region ?_
    refine TL.callR (A := []) (B := []) (Want.plain rfl) rfl rfl rfl nm13 rfl (dk_new) (fun _ s => s) (fun _ _ _ => trivial) (fun vR HR hR => ?_)
    obtain ⟨d, rfl, rfl⟩ := hR
    change TL _ _ _ _ _ _ _ _ _ [dk d (DS.new)]
    refine TL.v (Want.plain rfl) rfl rfl (PV.assign rfl rfl) ?_
    refine TL.nil ?_
    refine TE.next hK7 ?_
    clear hK7
    refine TC.seq (fun K8 hK8 => ?_)
    refine TC.region ?_
    refine TL.makeMap (Want.plain rfl) rfl rfl rfl (fun m26 => ?_)
    change TL _ _ _ _ _ _ _ _ _ [mapP m26 ([]), dk d (DS.new)]
    refine TL.v (Want.plain rfl) rfl rfl (PV.assign rfl rfl) ?_
    refine TL.nil ?_
    refine TE.next hK8 ?_
    clear hK8
    refine TC.seq (fun K9 hK9 => ?_)
    refine TC.region ?_
    refine TL.v (Want.plain rfl) rfl rfl (PV.assign rfl rfl) ?_
    refine TL.nil ?_
    refine TE.next hK9 ?_
    clear hK9
    refine TC.seq (fun K10 hK10 => ?_)
    refine TC.region ?_
    refine TL.v (Want.plain rfl) rfl rfl (PV.assign rfl rfl) ?_
    refine TL.v (Want.plain rfl) rfl rfl (PV.assign rfl rfl) ?_
    refine TL.nil ?_
    refine TE.next hK10 ?_
    clear hK10
    refine TC.seq (fun K11 hK11 => ?_)
    refine TC.seq (fun K12 hK12 => ?_)
    refine TC.region ?_
    refine TL.v (Want.plain rfl) rfl rfl (PV.move rfl rfl) ?_
    refine TL.v (Want.plain rfl) rfl rfl (PV.lenV rfl Try.underlying32 rfl hF.len) ?_
    refine TL.v (Want.plain rfl) rfl rfl (PV.move rfl rfl) ?_
    refine TL.nil ?_
    refine TE.next hK12 ?_
    clear hK12
    refine TC.block ?_
    refine TC.loop (α := (Nat) × (DS) × (Value)) (fun ⟨k, D, wv⟩ => k ≤ l.length ∧ D.Ok ∧ D.ws.length ≤ k) (fun ⟨k, D, wv⟩ => [(3, (.pointer (some ⟨d, 0, none⟩))), (4, (.map (some m26))), (5, wv), (6, (.int .i64 (leftD D))), (7, (.bool (D.dn))), (27, x), (28, (.int .i64 (((l.length : Nat) : Int)))), (29, (.int .i64 (((k : Nat) : Int))))]) (fun ⟨k, D, wv⟩ => [dk d (D), mapP m26 (kvS D.s), own wv (D.ws.length) (wflat D.ws) 39 65]) (fun ⟨k, D, wv⟩ => l.length - k) (0, DS.new, (.slice none 0 0))
        ⟨Nat.zero_le _, DS.new_ok, Nat.le_refl _⟩ (Sub.r (Sub.r (Sub.r (Sub.cons rfl (by congr 1) (Sub.r (Sub.r (Sub.r (Sub.cons rfl (by congr 1) (Sub.nil _)))))))))
        (fun _ s => sep_perm (List.Perm.trans (List.Perm.swap _ _ _) (List.Perm.trans (List.Perm.cons _ (List.Perm.swap _ _ _)) (List.Perm.swap _ _ _))) (sep_ownNil 39 65 s)) (fun ⟨k, D, wv⟩ hinv => ?_)
    obtain ⟨hk, hD, hDk⟩ := hinv
    have hw := hD.ws
    have hle := left_le hD
    refine TC.ownLen 2 rfl rfl (fun hwv _ => ?_)
    refine TC.seq (fun K13 hK13 => ?_)
    refine TC.region ?_
    refine TL.v (Want.plain rfl) rfl rfl (PV.lss rfl rfl rfl) ?_
    refine TL.dec (fun h30 => ?_) (fun h30 => ?_)
    · skip
      obtain ⟨b_a, off_a, cap_a, cs_a, T_a, z_a, us_a, hv_a, hc_a, hb_a, hl_a, hs_a, hE_a⟩ := IsL.at hF (j := k) (by omega)
      obtain ⟨c, hc⟩ : ∃ c, l[k] = c := ⟨_, rfl⟩
      rw [hc] at hE_a
      obtain ⟨u, rfl, hu, hcn⟩ := hE_a
      have huo := hu.one
      obtain ⟨q, hq, hq1, hq2⟩ := tmod5_lt c.kind
      refine TL.nil ?_
      refine TE.next hK13 ?_
      clear hK13
      refine TC.seq (fun K14 hK14 => ?_)
      refine TC.yes rfl ?_
      refine TC.skip ?_
      refine TE.next hK14 ?_
      clear hK14
      refine TC.seq (fun K15 hK15 => ?_)
      refine TC.block ?_
      refine TC.seq (fun K16 hK16 => ?_)
      refine TC.region ?_
      refine TL.v (Want.plain rfl) rfl rfl (PV.indexSlV (r := off_a + k * 5) hv_a rfl Try.underlying32 sz36 rfl rfl (by omega) (by omega) (by omega)) ?_
      refine TL.v (Want.plain rfl) rfl rfl (PV.loadNX (vs := [(.int .i64 (c.kind)), (.int .i64 (c.at')), (.int .i64 (c.n)), (.int .i64 (c.mask)), u]) rfl Try.underlying36 rfl sz36 rfl (RdX.frm hb_a (fun _ h => Frm.of h)) rfl hs_a) ?_
      refine TL.alloc (Want.plain rfl) rfl rfl rfl z36 (fun b9 => ?_)
      change TL _ _ _ _ _ _ _ _ _ [blkA b9 [(.int .i64 0), (.int .i64 0), (.int .i64 0), (.int .i64 0), (.slice none 0 0)] 36, dk d (D), mapP m26 (kvS D.s), own wv (D.ws.length) (wflat D.ws) 39 65]
      refine TL.store (vs := [(.int .i64 (c.kind)), (.int .i64 (c.at')), (.int .i64 (c.n)), (.int .i64 (c.mask)), u]) (i := 0) (H' := [blkA b9 [(.int .i64 (c.kind)), (.int .i64 (c.at')), (.int .i64 (c.n)), (.int .i64 (c.mask)), u] 36, dk d (D), mapP m26 (kvS D.s), own wv (D.ws.length) (wflat D.ws) 39 65]) (Want.plain rfl) rfl rfl rfl rfl rfl sz36 (List.forall_mem_cons.2 ⟨rfl, (List.forall_mem_cons.2 ⟨rfl, (List.forall_mem_cons.2 ⟨rfl, (List.forall_mem_cons.2 ⟨rfl, (List.forall_mem_cons.2 ⟨huo, (fun _ h => by cases h)⟩)⟩)⟩)⟩)⟩) rfl rfl (lbe rfl) rfl rfl ?_
      refine TL.nil ?_
      refine TE.next hK16 ?_
      clear hK16
      refine TC.seq (fun K17 hK17 => ?_)
      refine TC.seq (fun K18 hK18 => ?_)
      refine TC.region ?_
      refine TL.v (Want.plain rfl) rfl rfl (PV.fieldAddr (r := 4) rfl Try.underlying36 rfl sz28 rfl rfl) ?_
      refine TL.v (Want.plain rfl) rfl rfl (PV.load1 (v := u) rfl Try.underlying28 rfl rfl (Rd.own 0 rfl rfl) rfl) ?_
      refine TL.v (Want.plain rfl) rfl rfl (PV.lenV rfl Try.underlying28 rfl hu.len) ?_
      refine TL.v (Want.plain rfl) rfl rfl (PV.gtr rfl rfl rfl) ?_
      refine TL.dec (fun h36 => ?_) (fun h36 => ?_)
      · skip
        refine TL.nil ?_
        refine TE.next hK18 ?_
        clear hK18
        refine TC.yes rfl ?_
        refine TC.seq (fun K19 hK19 => ?_)
        refine TC.region ?_
        refine TL.v (Want.plain rfl) rfl rfl (PV.assign rfl rfl) ?_
        refine TL.nil ?_
        refine TE.next hK19 ?_
        clear hK19
        refine TC.ret ?_
        refine TE.passRet ?_
        clear hK17
        refine TE.blockRet ?_
        refine TE.passRet ?_
        clear hK15
        refine TE.passRet ?_
        refine TE.blockRet ?_
        refine TE.passRet ?_
        clear hK11
        refine TE.weak (Sub.refl _) (fun _ s => sep_keep [] rfl s) ?_
        refine TE.ret1 rfl rfl ?_
        exact ⟨rfl, rfl⟩
      · skip
        refine TL.nil ?_
        refine TE.next hK18 ?_
        clear hK18
        refine TC.no rfl ?_
        refine TC.skip ?_
        refine TE.next hK17 ?_
        clear hK17
        refine TC.seq (fun K20 hK20 => ?_)
        refine TC.cut (α := (DS) × (Value)) (fun ⟨D2, wv2⟩ => D2.Ok ∧ D2.ws.length ≤ k + 1) (fun ⟨D2, wv2⟩ => [(3, (.pointer (some ⟨d, 0, none⟩))), (4, (.map (some m26))), (5, wv2), (6, (.int .i64 (leftD D2))), (7, (.bool (D2.dn))), (9, (.pointer (some ⟨b9, 0, none⟩))), (27, x), (28, (.int .i64 (((l.length : Nat) : Int)))), (29, (.int .i64 (((k : Nat) : Int))))]) (fun ⟨D2, wv2⟩ => [own wv2 (D2.ws.length) (wflat D2.ws) 39 65, dk d (D2), mapP m26 (kvS D2.s), blkA b9 [(.int .i64 (c.kind)), (.int .i64 (c.at')), (.int .i64 (c.n)), (.int .i64 (c.mask)), u] 36]) (fun ⟨D2, wv2⟩ hinv => ?_) (fun tl20 => ?_)
        · skip
          obtain ⟨hD2, hDw⟩ := hinv
          refine TE.next hK20 ?_
          clear hK20
          refine TC.ownLen 0 rfl rfl (fun hwl how => ?_)
          refine TC.seq (fun K21 hK21 => ?_)
          refine TC.region ?_
          refine TL.v (Want.plain rfl) rfl rfl (PV.move rfl rfl) ?_
          refine TL.v (Want.plain rfl) rfl rfl (PV.fieldAddr (r := 1) rfl Try.underlying36 rfl sz3 rfl rfl) ?_
          refine TL.v (Want.plain rfl) rfl rfl (PV.load1 (v := (.int .i64 (c.at'))) rfl Try.underlying3 rfl rfl (Rd.own 3 rfl rfl) rfl) ?_
          refine TL.v (Want.plain rfl) rfl rfl (PV.lookup rfl Try.underlying33 Try.underlying3 z37 rfl rfl (RdM.own 2 rfl rfl) (kget_kvS _ _)) ?_
          refine TL.alloc (Want.plain rfl) rfl rfl rfl z37 (fun b17 => ?_)
          change TL _ _ _ _ _ _ _ _ _ [blkA b17 (u8s zs) 37, own wv2 (D2.ws.length) (wflat D2.ws) 39 65, dk d (D2), mapP m26 (kvS D2.s), blkA b9 [(.int .i64 (c.kind)), (.int .i64 (c.at')), (.int .i64 (c.n)), (.int .i64 (c.mask)), u] 36]
          refine TL.store (vs := u8s (sget D2.s c.at')) (i := 0) (H' := [blkA b17 (u8s (sget D2.s c.at')) 37, own wv2 (D2.ws.length) (wflat D2.ws) 39 65, dk d (D2), mapP m26 (kvS D2.s), blkA b9 [(.int .i64 (c.kind)), (.int .i64 (c.at')), (.int .i64 (c.n)), (.int .i64 (c.mask)), u] 36]) (Want.plain rfl) rfl rfl rfl rfl rfl (by rw [u8s_length, sget_whole hD2.s]; exact sz37) (u8s_one _) rfl rfl (by rw [u8s_length, sget_whole hD2.s]; rw [u8s_length, zs_len]; exact Nat.le_refl _) (wr_whole (Eq.trans (by rw [u8s_length, zs_len] : (u8s zs).length = 64) (by rw [u8s_length, sget_whole hD2.s] : (u8s (sget D2.s c.at')).length = 64).symm)) rfl ?_
          refine TL.nil ?_
          refine TE.next hK21 ?_
          clear hK21
          refine TC.seq (fun K22 hK22 => ?_)
          refine TC.seq (fun K23 hK23 => ?_)
          refine TC.region ?_
          refine TL.v (Want.plain rfl) rfl rfl (PV.move rfl rfl) ?_
          refine TL.v (Want.plain rfl) rfl rfl (PV.lenV rfl Try.underlying34 rfl hwl) ?_
          refine TL.v (Want.plain rfl) rfl rfl (PV.move rfl rfl) ?_
          refine TL.nil ?_
          refine TE.next hK23 ?_
          clear hK23
          refine TC.block ?_
          refine TC.loop (α := (Nat)) (fun i => i ≤ D2.ws.length) (fun i => [(3, (.pointer (some ⟨d, 0, none⟩))), (4, (.map (some m26))), (5, wv2), (6, (.int .i64 (leftD D2))), (7, (.bool (D2.dn))), (9, (.pointer (some ⟨b9, 0, none⟩))), (17, (.pointer (some ⟨b17, 0, none⟩))), (27, x), (28, (.int .i64 (((l.length : Nat) : Int)))), (29, (.int .i64 (((k : Nat) : Int)))), (168, wv2), (169, (.int .i64 (((D2.ws.length : Nat) : Int)))), (170, (.int .i64 (((i : Nat) : Int))))]) (fun i => [blkA b17 (u8s (readN D2.s D2.ws c.at' i)) 37, own wv2 (D2.ws.length) (wflat D2.ws) 39 65, dk d (D2), mapP m26 (kvS D2.s), blkA b9 [(.int .i64 (c.kind)), (.int .i64 (c.at')), (.int .i64 (c.n)), (.int .i64 (c.mask)), u] 36]) (fun i => D2.ws.length - i) 0
              (Nat.zero_le _) (Sub.r (Sub.r (Sub.r (Sub.r (Sub.r (Sub.r (Sub.r (Sub.r (Sub.r (Sub.r (Sub.r (Sub.r (Sub.cons rfl (by congr 1) (Sub.nil _))))))))))))))
              (fun _ s => s) (fun i hinv => ?_)
          obtain hi := hinv
          refine TC.seq (fun K24 hK24 => ?_)
          refine TC.region ?_
          refine TL.v (Want.plain rfl) rfl rfl (PV.lss rfl rfl rfl) ?_
          refine TL.dec (fun h171 => ?_) (fun h171 => ?_)
          · skip
            refine TL.ownAt 1 rfl rfl (by omega) (fun g cap hv hcap => ?_)
            refine TL.nil ?_
            refine TE.next hK24 ?_
            clear hK24
            refine TC.seq (fun K25 hK25 => ?_)
            refine TC.yes rfl ?_
            refine TC.skip ?_
            refine TE.next hK25 ?_
            clear hK25
            refine TC.seq (fun K26 hK26 => ?_)
            refine TC.block ?_
            refine TC.seq (fun K27 hK27 => ?_)
            refine TC.region ?_
            refine TL.v (Want.plain rfl) rfl rfl (PV.indexSlV (r := i * 65) hv rfl Try.underlying34 sz39 rfl rfl (by omega) (by omega) (by omega)) ?_
            refine TL.v (Want.plain rfl) rfl rfl (PV.loadNX (vs := wcell (wat D2.ws i)) rfl Try.underlying39 rfl sz39 rfl (RdX.own 1 rfl hv rfl) (wcell_len (wat_len hD2.ws (by omega))) (wflat_atN hD2.ws (by omega))) ?_
            refine TL.alloc (Want.plain rfl) rfl rfl rfl z39 (fun b19 => ?_)
            change TL _ _ _ _ _ _ _ _ _ [blkA b19 (wcell (0, zs)) 39, blkA b17 (u8s (readN D2.s D2.ws c.at' i)) 37, own wv2 (D2.ws.length) (wflat D2.ws) 39 65, dk d (D2), mapP m26 (kvS D2.s), blkA b9 [(.int .i64 (c.kind)), (.int .i64 (c.at')), (.int .i64 (c.n)), (.int .i64 (c.mask)), u] 36]
            refine TL.store (vs := wcell (wat D2.ws i)) (i := 0) (H' := [blkA b19 (wcell (wat D2.ws i)) 39, blkA b17 (u8s (readN D2.s D2.ws c.at' i)) 37, own wv2 (D2.ws.length) (wflat D2.ws) 39 65, dk d (D2), mapP m26 (kvS D2.s), blkA b9 [(.int .i64 (c.kind)), (.int .i64 (c.at')), (.int .i64 (c.n)), (.int .i64 (c.mask)), u] 36]) (Want.plain rfl) rfl rfl rfl rfl rfl (by rw [wcell_len (wat_len hD2.ws (by omega))]; exact sz39) (wcell_one _) rfl rfl (by rw [wcell_len (wat_len hD2.ws (by omega))]; rw [wcell_len zs_len]; exact Nat.le_refl _) (wr_whole (Eq.trans (by rw [wcell_len zs_len] : (wcell (0, zs)).length = 65) (by rw [wcell_len (wat_len hD2.ws (by omega))] : (wcell (wat D2.ws i)).length = 65).symm)) rfl ?_
            refine TL.nil ?_
            refine TE.next hK27 ?_
            clear hK27
            refine TC.seq (fun K28 hK28 => ?_)
            refine TC.region ?_
            refine TL.v (Want.plain rfl) rfl rfl (PV.fieldAddr (r := 0) rfl Try.underlying39 rfl sz3 rfl rfl) ?_
            refine TL.v (Want.plain rfl) rfl rfl (PV.load1 (v := (.int .i64 ((wat D2.ws i).1))) rfl Try.underlying3 rfl rfl (Rd.own 0 rfl rfl) rfl) ?_
            refine TL.v (Want.plain rfl) rfl rfl (PV.fieldAddr (r := 1) rfl Try.underlying36 rfl sz3 rfl rfl) ?_
            refine TL.v (Want.plain rfl) rfl rfl (PV.load1 (v := (.int .i64 (c.at'))) rfl Try.underlying3 rfl rfl (Rd.own 5 rfl rfl) rfl) ?_
            refine TL.v (Want.plain rfl) rfl rfl (PV.eql rfl rfl rfl) ?_
            refine TL.dec (fun h178 => ?_) (fun h178 => ?_)
            · skip
              refine TL.nil ?_
              refine TE.next hK28 ?_
              clear hK28
              refine TC.yes rfl ?_
              refine TC.region ?_
              refine TL.v (Want.plain rfl) rfl rfl (PV.fieldAddr (r := 1) rfl Try.underlying39 rfl sz37 rfl rfl) ?_
              refine TL.v (Want.plain rfl) rfl rfl (PV.loadN (vs := u8s (wat D2.ws i).2) rfl Try.underlying37 rfl sz37 rfl (Rd.own 0 rfl rfl) (by rw [u8s_length]; exact wat_len hD2.ws (by omega)) (wcell_tail (wat_len hD2.ws (by omega)))) ?_
              refine TL.store (vs := u8s (wat D2.ws i).2) (i := 1) (H' := [blkA b19 (wcell (wat D2.ws i)) 39, blkA b17 (u8s (wat D2.ws i).2) 37, own wv2 (D2.ws.length) (wflat D2.ws) 39 65, dk d (D2), mapP m26 (kvS D2.s), blkA b9 [(.int .i64 (c.kind)), (.int .i64 (c.at')), (.int .i64 (c.n)), (.int .i64 (c.mask)), u] 36]) (Want.plain rfl) rfl rfl rfl rfl rfl (by rw [u8s_length, wat_len hD2.ws (by omega)]; exact sz37) (u8s_one _) rfl rfl (by rw [u8s_length, wat_len hD2.ws (by omega)]; rw [u8s_length, readN_len hD2.s hD2.ws c.at' i (by omega)]; exact Nat.le_refl _) (wr_whole (Eq.trans (by rw [u8s_length, readN_len hD2.s hD2.ws c.at' i (by omega)] : (u8s (readN D2.s D2.ws c.at' i)).length = 64) (by rw [u8s_length, wat_len hD2.ws (by omega)] : (u8s (wat D2.ws i).2).length = 64).symm)) rfl ?_
              refine TL.nil ?_
              refine TE.blockEnd ?_
              refine TE.next hK26 ?_
              clear hK26
              refine TC.region ?_
              refine TL.v (Want.plain rfl) rfl rfl (PV.add rfl rfl rfl (wrap_i64 (by omega) (by omega))) ?_
              refine TL.v (Want.plain rfl) rfl rfl (PV.move rfl rfl) ?_
              refine TL.nil ?_
              exact TE.round ((i + 1) : (Nat)) (by omega) (by show D2.ws.length - (i + 1) < D2.ws.length - i; omega)
                (Sub.r (Sub.r (Sub.r (Sub.r (Sub.r (Sub.r (Sub.r (Sub.r (Sub.r (Sub.r (Sub.r (Sub.r (Sub.cons rfl (by simp) (Sub.nil _))))))))))))))
                (fun _ s => by
      rw [readN_hit h178]
      exact sep_keep [1, 1, 1, 1, 1] rfl s)
            · skip
              refine TL.nil ?_
              refine TE.next hK28 ?_
              clear hK28
              refine TC.no rfl ?_
              refine TC.skip ?_
              refine TE.blockEnd ?_
              refine TE.next hK26 ?_
              clear hK26
              refine TC.region ?_
              refine TL.v (Want.plain rfl) rfl rfl (PV.add rfl rfl rfl (wrap_i64 (by omega) (by omega))) ?_
              refine TL.v (Want.plain rfl) rfl rfl (PV.move rfl rfl) ?_
              refine TL.nil ?_
              exact TE.round ((i + 1) : (Nat)) (by omega) (by show D2.ws.length - (i + 1) < D2.ws.length - i; omega)
                (Sub.r (Sub.r (Sub.r (Sub.r (Sub.r (Sub.r (Sub.r (Sub.r (Sub.r (Sub.r (Sub.r (Sub.r (Sub.cons rfl (by simp) (Sub.nil _))))))))))))))
                (fun _ s => by
      rw [readN_miss h178]
      exact sep_keep [1, 1, 1, 1, 1] rfl s)
          · skip
            obtain rfl : i = D2.ws.length := by omega
            refine TL.nil ?_
            refine TE.next hK24 ?_
            clear hK24
            refine TC.seq (fun K29 hK29 => ?_)
            refine TC.no rfl ?_
            refine TC.exit ?_
            refine TE.pass ?_
            clear hK29
            refine TE.pass ?_
            refine TE.hit ?_
            refine TE.next hK22 ?_
            clear hK22
            refine TC.seq (fun K30 hK30 => ?_)
            refine TC.draw (fun w => Frm F w ∧ w.heap[b9]? = some (.cells ([(.int .i64 (c.kind)), (.int .i64 (c.at')), (.int .i64 (c.n)), (.int .i64 (c.mask)), u]).toArray 36 (0, 0)) ∧ w.heap[b17]? = some (.cells (u8s (readN D2.s D2.ws c.at' D2.ws.length)).toArray 37 (0, 0)) ∧ Hm m26 (kvS D2.s) w ∧ True) mixed rfl (fun _ s => ⟨Frm.of s, s.block 4 (lb rfl) rfl, s.block 0 (lb rfl) rfl, s.map 3 rfl rfl, trivial⟩) ?_
            refine TD.take (i := 0) rfl (by kernel_rfl) (by kernel_rfl) (by kernel_rfl) (fun _ _ _ _ h => h) (Want.plain rfl) rfl rfl (PV.move rfl rfl) ?_
            refine TD.take (i := 1) rfl (by kernel_rfl) (by kernel_rfl) (by kernel_rfl) (fun _ _ _ _ h => h) (Want.plain rfl) rfl rfl (PV.fieldAddr (r := 1) rfl Try.underlying36 rfl sz3 rfl rfl) ?_
            refine TD.take (i := 2) rfl (by kernel_rfl) (by kernel_rfl) (by kernel_rfl) (fun _ _ _ _ h => h) (Want.plain rfl) rfl rfl (PV.load1 (v := (.int .i64 (c.at'))) rfl Try.underlying3 rfl rfl (fun _ h => h.2.1) rfl) ?_
            refine TD.take (i := 4) rfl (by kernel_rfl) (by kernel_rfl) (by kernel_rfl) (fun _ _ _ _ h => h) (Want.plain rfl) rfl rfl (PV.loadN (vs := u8s (readN D2.s D2.ws c.at' D2.ws.length)) rfl Try.underlying37 rfl sz37 rfl (fun _ h => h.2.2.1) (by rw [u8s_length, readN_len hD2.s hD2.ws c.at' D2.ws.length (by omega)]) (take_all (by rw [u8s_length, readN_len hD2.s hD2.ws c.at' D2.ws.length (by omega)]))) ?_
            refine TD.all [3] (by kernel_rfl) rfl ?_
            refine AllT.cons rfl ?_ ?_
            · skip
              refine TL.callR (A := [dk d (D2)]) (B := [blkA b17 (u8s (readN D2.s D2.ws c.at' D2.ws.length)) 37, own wv2 (D2.ws.length) (wflat D2.ws) 39 65, mapP m26 (kvS D2.s), blkA b9 [(.int .i64 (c.kind)), (.int .i64 (c.at')), (.int .i64 (c.n)), (.int .i64 (c.mask)), u] 36]) (Want.plain rfl) rfl rfl rfl nm21 rfl (dk_read d (D2) c.at' hD2 (by have := hDw; omega)) (fun _ s => sep_selR [2] rfl s) (fun _ _ _ => trivial) (fun vR HR hR => ?_)
              obtain ⟨hv, rfl⟩ := hR
              subst hv
              change TL _ _ _ _ _ _ _ _ _ [dk d (D2), blkA b17 (u8s (readN D2.s D2.ws c.at' D2.ws.length)) 37, own wv2 (D2.ws.length) (wflat D2.ws) 39 65, mapP m26 (kvS D2.s), blkA b9 [(.int .i64 (c.kind)), (.int .i64 (c.at')), (.int .i64 (c.n)), (.int .i64 (c.mask)), u] 36]
              refine TL.nil ?_
              refine TE.draw (fun _ s => ⟨Frm.of s, s.block 4 (lb rfl) rfl, s.block 1 (lb rfl) rfl, s.map 3 rfl rfl, trivial⟩) ?_
              refine TD.take (i := 5) rfl (by kernel_rfl) (by kernel_rfl) (by kernel_rfl) (fun _ _ _ _ h => h) (Want.plain rfl) rfl rfl (PV.neqB (a := ((D2).read c.at')) (b := (readN D2.s D2.ws c.at' D2.ws.length)) (m := 2) sg37 sk37 rfl sf37 sa37 sc37 (DS.read_len hD2 _) (readN_len hD2.s hD2.ws _ _ (Nat.le_refl _)) rfl rfl rfl) ?_
              refine TD.dec (fun h187 => ?_) (fun h187 => ?_)
              · exact absurd rfl h187
              · skip
                refine TD.take (i := 6) rfl (by kernel_rfl) (by kernel_rfl) (by kernel_rfl) (fun _ _ _ _ h => h) (Want.plain rfl) rfl rfl (PV.move rfl rfl) ?_
                refine TD.take (i := 7) rfl (by kernel_rfl) (by kernel_rfl) (by kernel_rfl) (fun _ _ _ _ h => h) (Want.met rfl rfl rfl) rfl rfl (PV.move rfl rfl) ?_
                refine TD.take (i := 8) rfl (by kernel_rfl) (by kernel_rfl) (by kernel_rfl) (fun _ _ _ _ h => h) (Want.met rfl rfl rfl) rfl rfl (PV.fieldAddr (r := 1) rfl Try.underlying36 rfl sz3 rfl rfl) ?_
                refine TD.take (i := 9) rfl (by kernel_rfl) (by kernel_rfl) (by kernel_rfl) (fun _ _ _ _ h => h) (Want.met rfl rfl rfl) rfl rfl (PV.load1 (v := (.int .i64 (c.at'))) rfl Try.underlying3 rfl rfl (fun _ h => h.2.1) rfl) ?_
                refine TD.take (i := 11) rfl (by kernel_rfl) (by kernel_rfl) (by kernel_rfl) (fun _ _ _ _ h => h) (Want.met rfl rfl rfl) rfl rfl (PV.move rfl rfl) ?_
                refine TD.take (i := 12) rfl (by kernel_rfl) (by kernel_rfl) (by kernel_rfl) (fun _ _ _ _ h => h) (Want.met rfl rfl rfl) rfl rfl (PV.fieldAddr (r := 1) rfl Try.underlying36 rfl sz3 rfl rfl) ?_
                refine TD.take (i := 13) rfl (by kernel_rfl) (by kernel_rfl) (by kernel_rfl) (fun _ _ _ _ h => h) (Want.met rfl rfl rfl) rfl rfl (PV.load1 (v := (.int .i64 (c.at'))) rfl Try.underlying3 rfl rfl (fun _ h => h.2.1) rfl) ?_
                refine TD.take (i := 14) rfl (by kernel_rfl) (by kernel_rfl) (by kernel_rfl) (fun _ _ _ _ h => h) (Want.met rfl rfl rfl) rfl rfl (PV.lookup rfl Try.underlying33 Try.underlying3 z37 rfl rfl (fun _ h => h.2.2.2.1) (kget_kvS _ _)) ?_
                refine TD.all [10] (by kernel_rfl) rfl ?_
                refine AllT.cons rfl ?_ ?_
                · skip
                  refine TL.callR (A := [dk d (D2)]) (B := [blkA b17 (u8s (readN D2.s D2.ws c.at' D2.ws.length)) 37, own wv2 (D2.ws.length) (wflat D2.ws) 39 65, mapP m26 (kvS D2.s), blkA b9 [(.int .i64 (c.kind)), (.int .i64 (c.at')), (.int .i64 (c.n)), (.int .i64 (c.mask)), u] 36]) (Want.met rfl rfl rfl) rfl rfl rfl nm22 rfl (dk_sure d (D2) c.at' hD2) (fun _ s => s) (fun _ _ _ => trivial) (fun vR HR hR => ?_)
                  obtain ⟨hv, rfl⟩ := hR
                  subst hv
                  change TL _ _ _ _ _ _ _ _ _ [dk d (D2), blkA b17 (u8s (readN D2.s D2.ws c.at' D2.ws.length)) 37, own wv2 (D2.ws.length) (wflat D2.ws) 39 65, mapP m26 (kvS D2.s), blkA b9 [(.int .i64 (c.kind)), (.int .i64 (c.at')), (.int .i64 (c.n)), (.int .i64 (c.mask)), u] 36]
                  refine TL.nil ?_
                  refine TE.draw (fun _ s => ⟨Frm.of s, s.block 4 (lb rfl) rfl, s.block 1 (lb rfl) rfl, s.map 3 rfl rfl, trivial⟩) ?_
                  refine TD.take (i := 15) rfl (by kernel_rfl) (by kernel_rfl) (by kernel_rfl) (fun _ _ _ _ h => h) (Want.met rfl rfl rfl) rfl rfl (PV.neqB (a := (sget (D2).s c.at')) (b := (sget D2.s c.at')) (m := 2) sg37 sk37 rfl sf37 sa37 sc37 (sget_whole hD2.s _) (sget_whole hD2.s _) rfl rfl rfl) ?_
                  refine TD.dec (fun h197 => ?_) (fun h197 => ?_)
                  · exact absurd rfl h197
                  · skip
                    refine TD.take (i := 16) rfl (by kernel_rfl) (by kernel_rfl) (by kernel_rfl) (fun _ _ _ _ h => h) (Want.plain rfl) rfl rfl (PV.pick rfl rfl rfl) ?_
                    refine TD.take (i := 17) rfl (by kernel_rfl) (by kernel_rfl) (by kernel_rfl) (fun _ _ _ _ h => h) (Want.plain rfl) rfl rfl (PV.move rfl rfl) ?_
                    refine TD.take (i := 18) rfl (by kernel_rfl) (by kernel_rfl) (by kernel_rfl) (fun _ _ _ _ h => h) (Want.met rfl rfl rfl) rfl rfl (PV.move rfl rfl) ?_
                    refine TD.take (i := 20) rfl (by kernel_rfl) (by kernel_rfl) (by kernel_rfl) (fun _ _ _ _ h => h) (Want.met rfl rfl rfl) rfl rfl (PV.move rfl rfl) ?_
                    refine TD.take (i := 21) rfl (by kernel_rfl) (by kernel_rfl) (by kernel_rfl) (fun _ _ _ _ h => h) (Want.met rfl rfl rfl) rfl rfl (PV.lenV rfl Try.underlying34 rfl hwl) ?_
                    refine TD.all [19] (by kernel_rfl) rfl ?_
                    refine AllT.cons rfl ?_ ?_
                    · skip
                      refine TL.callR (A := [dk d (D2)]) (B := [blkA b17 (u8s (readN D2.s D2.ws c.at' D2.ws.length)) 37, own wv2 (D2.ws.length) (wflat D2.ws) 39 65, mapP m26 (kvS D2.s), blkA b9 [(.int .i64 (c.kind)), (.int .i64 (c.at')), (.int .i64 (c.n)), (.int .i64 (c.mask)), u] 36]) (Want.met rfl rfl rfl) rfl rfl rfl nm18 rfl (dk_waits d (D2) ) (fun _ s => s) (fun _ _ _ => trivial) (fun vR HR hR => ?_)
                      obtain ⟨hv, rfl⟩ := hR
                      subst hv
                      change TL _ _ _ _ _ _ _ _ _ [dk d (D2), blkA b17 (u8s (readN D2.s D2.ws c.at' D2.ws.length)) 37, own wv2 (D2.ws.length) (wflat D2.ws) 39 65, mapP m26 (kvS D2.s), blkA b9 [(.int .i64 (c.kind)), (.int .i64 (c.at')), (.int .i64 (c.n)), (.int .i64 (c.mask)), u] 36]
                      refine TL.nil ?_
                      refine TE.draw (fun _ s => ⟨Frm.of s, s.block 4 (lb rfl) rfl, s.block 1 (lb rfl) rfl, s.map 3 rfl rfl, trivial⟩) ?_
                      refine TD.take (i := 22) rfl (by kernel_rfl) (by kernel_rfl) (by kernel_rfl) (fun _ _ _ _ h => h) (Want.met rfl rfl rfl) rfl rfl (PV.neq rfl rfl rfl) ?_
                      refine TD.dec (fun h204 => ?_) (fun h204 => ?_)
                      · exact absurd rfl h204
                      · skip
                        refine TD.take (i := 23) rfl (by kernel_rfl) (by kernel_rfl) (by kernel_rfl) (fun _ _ _ _ h => h) (Want.plain rfl) rfl rfl (PV.pick rfl rfl rfl) ?_
                        refine TD.take (i := 24) rfl (by kernel_rfl) (by kernel_rfl) (by kernel_rfl) (fun _ _ _ _ h => h) (Want.plain rfl) rfl rfl (PV.move rfl rfl) ?_
                        refine TD.take (i := 25) rfl (by kernel_rfl) (by kernel_rfl) (by kernel_rfl) (fun _ _ _ _ h => h) (Want.met rfl rfl rfl) rfl rfl (PV.move rfl rfl) ?_
                        refine TD.take (i := 27) rfl (by kernel_rfl) (by kernel_rfl) (by kernel_rfl) (fun _ _ _ _ h => h) (Want.met rfl rfl rfl) rfl rfl (PV.move rfl rfl) ?_
                        refine TD.all [26] (by kernel_rfl) rfl ?_
                        refine AllT.cons rfl ?_ ?_
                        · skip
                          refine TL.callR (A := [dk d (D2)]) (B := [blkA b17 (u8s (readN D2.s D2.ws c.at' D2.ws.length)) 37, own wv2 (D2.ws.length) (wflat D2.ws) 39 65, mapP m26 (kvS D2.s), blkA b9 [(.int .i64 (c.kind)), (.int .i64 (c.at')), (.int .i64 (c.n)), (.int .i64 (c.mask)), u] 36]) (Want.met rfl rfl rfl) rfl rfl rfl nm16 rfl (dk_down d (D2) ) (fun _ s => s) (fun _ _ _ => trivial) (fun vR HR hR => ?_)
                          obtain ⟨hv, rfl⟩ := hR
                          subst hv
                          change TL _ _ _ _ _ _ _ _ _ [dk d (D2), blkA b17 (u8s (readN D2.s D2.ws c.at' D2.ws.length)) 37, own wv2 (D2.ws.length) (wflat D2.ws) 39 65, mapP m26 (kvS D2.s), blkA b9 [(.int .i64 (c.kind)), (.int .i64 (c.at')), (.int .i64 (c.n)), (.int .i64 (c.mask)), u] 36]
                          refine TL.nil ?_
                          refine TE.draw (fun _ s => ⟨Frm.of s, s.block 4 (lb rfl) rfl, s.block 1 (lb rfl) rfl, s.map 3 rfl rfl, trivial⟩) ?_
                          refine TD.take (i := 28) rfl (by kernel_rfl) (by kernel_rfl) (by kernel_rfl) (fun _ _ _ _ h => h) (Want.met rfl rfl rfl) rfl rfl (PV.neqBo rfl Try.underlying4 rfl rfl) ?_
                          refine TD.decB (fun h210 => ?_) (fun h210 => ?_)
                          · exact absurd h210 (by simp)
                          · skip
                            refine TD.take (i := 29) rfl (by kernel_rfl) (by kernel_rfl) (by kernel_rfl) (fun _ _ _ _ h => h) (Want.plain rfl) rfl rfl (PV.pick rfl rfl rfl) ?_
                            refine TD.done (by kernel_rfl) ?_
                            refine TE.next hK30 ?_
                            clear hK30
                            refine TC.no rfl ?_
                            refine TC.skip ?_
                            refine TE.blockEnd ?_
                            refine TE.next hK15 ?_
                            clear hK15
                            refine TC.region ?_
                            refine TL.v (Want.plain rfl) rfl rfl (PV.add rfl rfl rfl (wrap_i64 (by omega) (by omega))) ?_
                            refine TL.v (Want.plain rfl) rfl rfl (PV.move rfl rfl) ?_
                            refine TL.nil ?_
                            exact TE.round ((k + 1, D2, wv2) : (Nat) × (DS) × (Value)) ⟨by omega, hD2, hDw⟩ (by show l.length - (k + 1) < l.length - k; omega)
                              (Sub.r (Sub.r (Sub.r (Sub.r (Sub.r (Sub.r (Sub.r (Sub.cons rfl (by simp) (Sub.nil _)))))))))
                              (fun _ s => sep_keep [0, 2, 1] rfl s)
                        exact AllT.nil
                    exact AllT.nil
                exact AllT.nil
            exact AllT.nil
        clear hK20
        refine TC.seq (fun K31 hK31 => ?_)
        refine TC.region ?_
        refine TL.v (Want.plain rfl) rfl rfl (PV.fieldAddr (r := 0) rfl Try.underlying36 rfl sz3 rfl rfl) ?_
        refine TL.v (Want.plain rfl) rfl rfl (PV.load1 (v := (.int .i64 (c.kind))) rfl Try.underlying3 rfl rfl (Rd.own 0 rfl rfl) rfl) ?_
        refine TL.v (Want.plain rfl) rfl rfl (PV.rem (r := q) rfl rfl rfl (by omega) hq) ?_
        refine TL.v (Want.plain rfl) rfl rfl (PV.add rfl rfl rfl (wrap_i64 (by omega) (by omega))) ?_
        refine TL.v (Want.plain rfl) rfl rfl (PV.rem (r := ((q + 5) % 5)) rfl rfl rfl (by omega) (tmod5 q hq1 hq2)) ?_
        refine TL.nil ?_
        refine TE.next hK31 ?_
        clear hK31
        refine TC.block ?_
        refine TC.seq (fun K32 hK32 => ?_)
        refine TC.region ?_
        refine TL.v (Want.plain rfl) rfl rfl (PV.eql rfl rfl rfl) ?_
        refine TL.dec (fun h85 => ?_) (fun h85 => ?_)
        · skip
          refine TL.v (Want.plain rfl) rfl rfl (PV.assign rfl rfl) ?_
          refine TL.nil ?_
          refine TE.next hK32 ?_
          clear hK32
          refine TC.yes rfl ?_
          refine TC.seq (fun K33 hK33 => ?_)
          refine TC.region ?_
          refine TL.v (Want.plain rfl) rfl rfl (PV.assign rfl rfl) ?_
          refine TL.nil ?_
          refine TE.next hK33 ?_
          clear hK33
          refine TC.seq (fun K34 hK34 => ?_)
          refine TC.seq (fun K35 hK35 => ?_)
          refine TC.region ?_
          refine TL.v (Want.plain rfl) rfl rfl (PV.move rfl rfl) ?_
          refine TL.decB (fun h86 => ?_) (fun h86 => ?_)
          · skip
            refine TL.weak (L' := [(3, (.pointer (some ⟨d, 0, none⟩))), (4, (.map (some m26))), (5, wv), (6, (.int .i64 (leftD D))), (7, (.bool true)), (9, (.pointer (some ⟨b9, 0, none⟩))), (10, (.int .i64 0)), (27, x), (28, (.int .i64 (((l.length : Nat) : Int)))), (29, (.int .i64 (((k : Nat) : Int)))), (30, (.bool true)), (31, (.pointer (some ⟨b_a, off_a + k * 5, none⟩))), (32, (.agg #[(.int .i64 (c.kind)), (.int .i64 (c.at')), (.int .i64 (c.n)), (.int .i64 (c.mask)), u])), (33, (.pointer (some ⟨b9, 4, none⟩))), (34, u), (35, (.int .i64 (((c.data.length : Nat) : Int)))), (36, (.bool false)), (37, (.pointer (some ⟨b9, 0, none⟩))), (38, (.int .i64 (c.kind))), (39, (.int .i64 (q))), (40, (.int .i64 (q + 5))), (41, (.int .i64 (((q + 5) % 5)))), (84, (.bool true)), (85, (.bool true)), (86, (.bool true))]) (Sub.cons rfl rfl (Sub.cons rfl rfl (Sub.cons rfl rfl (Sub.cons rfl rfl (Sub.cons rfl (congrArg Value.bool h86) (Sub.cons rfl rfl (Sub.cons rfl rfl (Sub.cons rfl rfl (Sub.cons rfl rfl (Sub.cons rfl rfl (Sub.cons rfl rfl (Sub.cons rfl rfl (Sub.cons rfl rfl (Sub.cons rfl rfl (Sub.cons rfl rfl (Sub.cons rfl rfl (Sub.cons rfl rfl (Sub.cons rfl rfl (Sub.cons rfl rfl (Sub.cons rfl rfl (Sub.cons rfl rfl (Sub.cons rfl rfl (Sub.cons rfl rfl (Sub.cons rfl rfl (Sub.cons rfl rfl (Sub.nil _)))))))))))))))))))))))))) (fun _ s => s) ?_
            refine TL.nil ?_
            refine TE.next hK35 ?_
            clear hK35
            refine TC.yes rfl ?_
            refine TC.region ?_
            refine TL.v (Want.plain rfl) rfl rfl (PV.assign rfl rfl) ?_
            refine TL.nil ?_
            refine TE.next hK34 ?_
            clear hK34
            refine TC.seq (fun K36 hK36 => ?_)
            refine TC.seq (fun K37 hK37 => ?_)
            refine TC.region ?_
            refine TL.v (Want.plain rfl) rfl rfl (PV.move rfl rfl) ?_
            refine TL.callR (A := [dk d (D)]) (B := [blkA b9 [(.int .i64 (c.kind)), (.int .i64 (c.at')), (.int .i64 (c.n)), (.int .i64 (c.mask)), u] 36, mapP m26 (kvS D.s), own wv (D.ws.length) (wflat D.ws) 39 65]) (Want.plain rfl) rfl rfl rfl nm17 rfl (dk_sync d (D)  hD) (fun _ s => sep_selR [1] rfl s) (fun _ _ _ => trivial) (fun vR HR hR => ?_)
            obtain ⟨hv, rfl⟩ := hR
            subst hv
            rw [sync_down h86]
            change TL _ _ _ _ _ _ _ _ _ [dk d (D), blkA b9 [(.int .i64 (c.kind)), (.int .i64 (c.at')), (.int .i64 (c.n)), (.int .i64 (c.mask)), u] 36, mapP m26 (kvS D.s), own wv (D.ws.length) (wflat D.ws) 39 65]
            refine TL.v (Want.plain rfl) rfl rfl (PV.move rfl rfl) ?_
            refine TL.v (Want.plain rfl) rfl rfl (PV.neq rfl rfl rfl) ?_
            refine TL.nil ?_
            refine TE.next hK37 ?_
            clear hK37
            refine TC.no rfl ?_
            refine TC.skip ?_
            refine TE.next hK36 ?_
            clear hK36
            refine TC.seq (fun K38 hK38 => ?_)
            refine TC.region ?_
            refine TL.v (Want.plain rfl) rfl rfl (PV.move rfl rfl) ?_
            refine TL.v (Want.plain rfl) rfl rfl (PV.not (r := false) rfl rfl rfl) ?_
            refine TL.nil ?_
            refine TE.next hK38 ?_
            clear hK38
            refine TC.no rfl ?_
            refine TC.skip ?_
            refine TE.blockEnd ?_
            have h6 : leftD D = leftD D := rfl
            have h7 : true = D.dn := h86.symm
            exact TE.weak
              (Sub.r (Sub.r (Sub.r (Sub.cons rfl (congrArg (Value.int .i64) h6) (Sub.cons rfl (congrArg Value.bool h7) (Sub.r (Sub.r (Sub.r (Sub.r (Sub.nil _))))))))))
              (fun _ s => sep_keep [3, 0, 1, 0] rfl s)
              (tl20 ((D, wv) : (DS) × (Value)) ⟨hD, (by omega)⟩)
          · skip
            refine TL.weak (L' := [(3, (.pointer (some ⟨d, 0, none⟩))), (4, (.map (some m26))), (5, wv), (6, (.int .i64 (leftD D))), (7, (.bool false)), (9, (.pointer (some ⟨b9, 0, none⟩))), (10, (.int .i64 0)), (27, x), (28, (.int .i64 (((l.length : Nat) : Int)))), (29, (.int .i64 (((k : Nat) : Int)))), (30, (.bool true)), (31, (.pointer (some ⟨b_a, off_a + k * 5, none⟩))), (32, (.agg #[(.int .i64 (c.kind)), (.int .i64 (c.at')), (.int .i64 (c.n)), (.int .i64 (c.mask)), u])), (33, (.pointer (some ⟨b9, 4, none⟩))), (34, u), (35, (.int .i64 (((c.data.length : Nat) : Int)))), (36, (.bool false)), (37, (.pointer (some ⟨b9, 0, none⟩))), (38, (.int .i64 (c.kind))), (39, (.int .i64 (q))), (40, (.int .i64 (q + 5))), (41, (.int .i64 (((q + 5) % 5)))), (84, (.bool true)), (85, (.bool true)), (86, (.bool false))]) (Sub.cons rfl rfl (Sub.cons rfl rfl (Sub.cons rfl rfl (Sub.cons rfl rfl (Sub.cons rfl (congrArg Value.bool h86) (Sub.cons rfl rfl (Sub.cons rfl rfl (Sub.cons rfl rfl (Sub.cons rfl rfl (Sub.cons rfl rfl (Sub.cons rfl rfl (Sub.cons rfl rfl (Sub.cons rfl rfl (Sub.cons rfl rfl (Sub.cons rfl rfl (Sub.cons rfl rfl (Sub.cons rfl rfl (Sub.cons rfl rfl (Sub.cons rfl rfl (Sub.cons rfl rfl (Sub.cons rfl rfl (Sub.cons rfl rfl (Sub.cons rfl rfl (Sub.cons rfl rfl (Sub.cons rfl rfl (Sub.nil _)))))))))))))))))))))))))) (fun _ s => s) ?_
            refine TL.nil ?_
            refine TE.next hK35 ?_
            clear hK35
            refine TC.no rfl ?_
            refine TC.skip ?_
            refine TE.next hK34 ?_
            clear hK34
            refine TC.seq (fun K39 hK39 => ?_)
            refine TC.seq (fun K40 hK40 => ?_)
            refine TC.region ?_
            refine TL.v (Want.plain rfl) rfl rfl (PV.move rfl rfl) ?_
            refine TL.callR (A := [dk d (D)]) (B := [blkA b9 [(.int .i64 (c.kind)), (.int .i64 (c.at')), (.int .i64 (c.n)), (.int .i64 (c.mask)), u] 36, mapP m26 (kvS D.s), own wv (D.ws.length) (wflat D.ws) 39 65]) (Want.plain rfl) rfl rfl rfl nm17 rfl (dk_sync d (D)  hD) (fun _ s => sep_selR [1] rfl s) (fun _ _ _ => trivial) (fun vR HR hR => ?_)
            obtain ⟨hv, rfl⟩ := hR
            subst hv
            rw [sync_up h86]
            change TL _ _ _ _ _ _ _ _ _ [dk d (D.synced), blkA b9 [(.int .i64 (c.kind)), (.int .i64 (c.at')), (.int .i64 (c.n)), (.int .i64 (c.mask)), u] 36, mapP m26 (kvS D.s), own wv (D.ws.length) (wflat D.ws) 39 65]
            refine TL.v (Want.plain rfl) rfl rfl (PV.move rfl rfl) ?_
            refine TL.v (Want.plain rfl) rfl rfl (PV.neq rfl rfl rfl) ?_
            refine TL.nil ?_
            refine TE.next hK40 ?_
            clear hK40
            refine TC.no rfl ?_
            refine TC.skip ?_
            refine TE.next hK39 ?_
            clear hK39
            refine TC.seq (fun K41 hK41 => ?_)
            refine TC.region ?_
            refine TL.v (Want.plain rfl) rfl rfl (PV.move rfl rfl) ?_
            refine TL.v (Want.plain rfl) rfl rfl (PV.not (r := true) rfl rfl rfl) ?_
            refine TL.nil ?_
            refine TE.next hK41 ?_
            clear hK41
            refine TC.yes rfl ?_
            refine TC.seq (fun K42 hK42 => ?_)
            refine TC.seq (fun K43 hK43 => ?_)
            refine TC.region ?_
            refine TL.v (Want.plain rfl) rfl rfl (PV.move rfl rfl) ?_
            refine TL.v (Want.plain rfl) rfl rfl (PV.lenV rfl Try.underlying34 rfl hwv) ?_
            refine TL.v (Want.plain rfl) rfl rfl (PV.move rfl rfl) ?_
            refine TL.nil ?_
            refine TE.next hK43 ?_
            clear hK43
            refine TC.block ?_
            refine TC.loop (α := (Nat) × (Secs)) (fun ⟨j, s'⟩ => j ≤ D.ws.length ∧ s' = layN D.s D.ws j) (fun ⟨j, s'⟩ => [(3, (.pointer (some ⟨d, 0, none⟩))), (4, (.map (some m26))), (5, wv), (6, (.int .i64 (leftD D))), (7, (.bool false)), (9, (.pointer (some ⟨b9, 0, none⟩))), (27, x), (28, (.int .i64 (((l.length : Nat) : Int)))), (29, (.int .i64 (((k : Nat) : Int)))), (93, wv), (94, (.int .i64 (((D.ws.length : Nat) : Int)))), (95, (.int .i64 (((j : Nat) : Int))))]) (fun ⟨j, s'⟩ => [dk d (D.synced), blkA b9 [(.int .i64 (c.kind)), (.int .i64 (c.at')), (.int .i64 (c.n)), (.int .i64 (c.mask)), u] 36, mapP m26 (kvS s'), own wv (D.ws.length) (wflat D.ws) 39 65]) (fun ⟨j, s'⟩ => D.ws.length - j) (0, D.s)
                ⟨Nat.zero_le _, rfl⟩ (Sub.r (Sub.r (Sub.r (Sub.r (Sub.r (Sub.r (Sub.r (Sub.r (Sub.r (Sub.r (Sub.r (Sub.cons rfl (by congr 1) (Sub.nil _)))))))))))))
                (fun _ s => s) (fun ⟨j, s'⟩ hinv => ?_)
            obtain ⟨hj, hs'⟩ := hinv
            refine TC.seq (fun K44 hK44 => ?_)
            refine TC.region ?_
            refine TL.v (Want.plain rfl) rfl rfl (PV.lss rfl rfl rfl) ?_
            refine TL.dec (fun h96 => ?_) (fun h96 => ?_)
            · skip
              refine TL.ownAt 3 rfl rfl (by omega) (fun g cap hv hcap => ?_)
              refine TL.nil ?_
              refine TE.next hK44 ?_
              clear hK44
              refine TC.seq (fun K45 hK45 => ?_)
              refine TC.yes rfl ?_
              refine TC.skip ?_
              refine TE.next hK45 ?_
              clear hK45
              refine TC.seq (fun K46 hK46 => ?_)
              refine TC.block ?_
              refine TC.seq (fun K47 hK47 => ?_)
              refine TC.region ?_
              refine TL.v (Want.plain rfl) rfl rfl (PV.indexSlV (r := j * 65) hv rfl Try.underlying34 sz39 rfl rfl (by omega) (by omega) (by omega)) ?_
              refine TL.v (Want.plain rfl) rfl rfl (PV.loadNX (vs := wcell (wat D.ws j)) rfl Try.underlying39 rfl sz39 rfl (RdX.own 3 rfl hv rfl) (wcell_len (wat_len hw (by omega))) (wflat_atN hw (by omega))) ?_
              refine TL.alloc (Want.plain rfl) rfl rfl rfl z39 (fun b12 => ?_)
              change TL _ _ _ _ _ _ _ _ _ [blkA b12 (wcell (0, zs)) 39, dk d (D.synced), blkA b9 [(.int .i64 (c.kind)), (.int .i64 (c.at')), (.int .i64 (c.n)), (.int .i64 (c.mask)), u] 36, mapP m26 (kvS s'), own wv (D.ws.length) (wflat D.ws) 39 65]
              refine TL.store (vs := wcell (wat D.ws j)) (i := 0) (H' := [blkA b12 (wcell (wat D.ws j)) 39, dk d (D.synced), blkA b9 [(.int .i64 (c.kind)), (.int .i64 (c.at')), (.int .i64 (c.n)), (.int .i64 (c.mask)), u] 36, mapP m26 (kvS s'), own wv (D.ws.length) (wflat D.ws) 39 65]) (Want.plain rfl) rfl rfl rfl rfl rfl (by rw [wcell_len (wat_len hw (by omega))]; exact sz39) (wcell_one _) rfl rfl (by rw [wcell_len (wat_len hw (by omega))]; rw [wcell_len zs_len]; exact Nat.le_refl _) (wr_whole (Eq.trans (by rw [wcell_len zs_len] : (wcell (0, zs)).length = 65) (by rw [wcell_len (wat_len hw (by omega))] : (wcell (wat D.ws j)).length = 65).symm)) rfl ?_
              refine TL.nil ?_
              refine TE.next hK47 ?_
              clear hK47
              refine TC.region ?_
              refine TL.v (Want.plain rfl) rfl rfl (PV.move rfl rfl) ?_
              refine TL.v (Want.plain rfl) rfl rfl (PV.fieldAddr (r := 0) rfl Try.underlying39 rfl sz3 rfl rfl) ?_
              refine TL.v (Want.plain rfl) rfl rfl (PV.load1 (v := (.int .i64 ((wat D.ws j).1))) rfl Try.underlying3 rfl rfl (Rd.own 0 rfl rfl) rfl) ?_
              refine TL.v (Want.plain rfl) rfl rfl (PV.fieldAddr (r := 1) rfl Try.underlying39 rfl sz37 rfl rfl) ?_
              refine TL.v (Want.plain rfl) rfl rfl (PV.loadN (vs := u8s (wat D.ws j).2) rfl Try.underlying37 rfl sz37 rfl (Rd.own 0 rfl rfl) (by rw [u8s_length]; exact wat_len hw (by omega)) (wcell_tail (wat_len hw (by omega)))) ?_
              refine TL.mapUpdate (i := 3) (H' := [blkA b12 (wcell (wat D.ws j)) 39, dk d (D.synced), blkA b9 [(.int .i64 (c.kind)), (.int .i64 (c.at')), (.int .i64 (c.n)), (.int .i64 (c.mask)), u] 36, mapP m26 (kvS (sput s' ((wat D.ws j).1) ((wat D.ws j).2))), own wv (D.ws.length) (wflat D.ws) 39 65]) (Want.plain rfl) rfl rfl Try.underlying33 Try.underlying3 rfl rfl rfl rfl rfl (congrArg (fun q => List.set _ 3 (mapP m26 q)) (kput_kvS _ _ _)) ?_
              refine TL.nil ?_
              refine TE.blockEnd ?_
              refine TE.next hK46 ?_
              clear hK46
              refine TC.region ?_
              refine TL.v (Want.plain rfl) rfl rfl (PV.add rfl rfl rfl (wrap_i64 (by omega) (by omega))) ?_
              refine TL.v (Want.plain rfl) rfl rfl (PV.move rfl rfl) ?_
              refine TL.nil ?_
              exact TE.round ((j + 1, sput s' (wat D.ws j).1 (wat D.ws j).2) : (Nat) × (Secs)) ⟨by omega, by rw [hs']; rfl⟩ (by show D.ws.length - (j + 1) < D.ws.length - j; omega)
                (Sub.r (Sub.r (Sub.r (Sub.r (Sub.r (Sub.r (Sub.r (Sub.r (Sub.r (Sub.r (Sub.r (Sub.cons rfl (by simp) (Sub.nil _)))))))))))))
                (fun _ s => sep_keep [1, 1, 1, 1] rfl s)
            · skip
              refine TL.nil ?_
              refine TE.next hK44 ?_
              clear hK44
              refine TC.seq (fun K48 hK48 => ?_)
              refine TC.no rfl ?_
              refine TC.exit ?_
              refine TE.pass ?_
              clear hK48
              refine TE.pass ?_
              refine TE.hit ?_
              refine TE.next hK42 ?_
              clear hK42
              refine TC.region ?_
              refine TL.v (Want.plain rfl) rfl rfl (PV.assign rfl rfl) ?_
              refine TL.nil ?_
              refine TE.blockEnd ?_
              have hje : j = D.ws.length := by omega
              obtain rfl : s' = D.synced.s := by rw [hs', hje]; rfl
              have h6 : leftD D = leftD D.synced := rfl
              have h7 : false = D.synced.dn := h86.symm
              exact TE.weak
                (Sub.r (Sub.r (Sub.r (Sub.cons rfl (congrArg (Value.int .i64) h6) (Sub.cons rfl (congrArg Value.bool h7) (Sub.r (Sub.r (Sub.r (Sub.r (Sub.nil _))))))))))
                (fun _ s => sep_ownNil 39 65 (sep_keep [0, 1, 0] rfl s))
                (tl20 ((D.synced, (.slice none 0 0)) : (DS) × (Value)) ⟨(synced_ok hD), (Nat.zero_le _)⟩)
        · skip
          refine TL.v (Want.plain rfl) rfl rfl (PV.assign rfl rfl) ?_
          refine TL.nil ?_
          refine TE.next hK32 ?_
          clear hK32
          refine TC.no rfl ?_
          refine TC.seq (fun K49 hK49 => ?_)
          refine TC.region ?_
          refine TL.v (Want.plain rfl) rfl rfl (PV.eql rfl rfl rfl) ?_
          refine TL.dec (fun h106 => ?_) (fun h106 => ?_)
          · skip
            refine TL.v (Want.plain rfl) rfl rfl (PV.assign rfl rfl) ?_
            refine TL.nil ?_
            refine TE.next hK49 ?_
            clear hK49
            refine TC.yes rfl ?_
            refine TC.seq (fun K50 hK50 => ?_)
            refine TC.region ?_
            refine TL.v (Want.plain rfl) rfl rfl (PV.move rfl rfl) ?_
            refine TL.v (Want.plain rfl) rfl rfl (PV.fieldAddr (r := 2) rfl Try.underlying36 rfl sz3 rfl rfl) ?_
            refine TL.v (Want.plain rfl) rfl rfl (PV.load1 (v := (.int .i64 (c.n))) rfl Try.underlying3 rfl rfl (Rd.own 0 rfl rfl) rfl) ?_
            refine TL.callR (A := [dk d (D)]) (B := [blkA b9 [(.int .i64 (c.kind)), (.int .i64 (c.at')), (.int .i64 (c.n)), (.int .i64 (c.mask)), u] 36, mapP m26 (kvS D.s), own wv (D.ws.length) (wflat D.ws) 39 65]) (Want.plain rfl) rfl rfl rfl nm14 rfl (dk_arm d (D) c.n) (fun _ s => sep_selR [1] rfl s) (fun _ _ _ => trivial) (fun vR HR hR => ?_)
            obtain ⟨_, rfl⟩ := hR
            change TL _ _ _ _ _ _ _ _ _ [dk d ((D).arm c.n), blkA b9 [(.int .i64 (c.kind)), (.int .i64 (c.at')), (.int .i64 (c.n)), (.int .i64 (c.mask)), u] 36, mapP m26 (kvS D.s), own wv (D.ws.length) (wflat D.ws) 39 65]
            refine TL.nil ?_
            refine TE.next hK50 ?_
            clear hK50
            refine TC.region ?_
            refine TL.v (Want.plain rfl) rfl rfl (PV.fieldAddr (r := 2) rfl Try.underlying36 rfl sz3 rfl rfl) ?_
            refine TL.v (Want.plain rfl) rfl rfl (PV.load1 (v := (.int .i64 (c.n))) rfl Try.underlying3 rfl rfl (Rd.own 1 rfl rfl) rfl) ?_
            refine TL.v (Want.plain rfl) rfl rfl (PV.maxI rfl rfl rfl) ?_
            refine TL.v (Want.plain rfl) rfl rfl (PV.assign rfl rfl) ?_
            refine TL.nil ?_
            refine TE.blockEnd ?_
            have h6 : (max c.n 0) = leftD (D.arm c.n) := by simp [leftD, DS.arm]
            have h7 : (D.dn) = (D.arm c.n).dn := rfl
            exact TE.weak
              (Sub.r (Sub.r (Sub.r (Sub.cons rfl (congrArg (Value.int .i64) h6) (Sub.cons rfl (congrArg Value.bool h7) (Sub.r (Sub.r (Sub.r (Sub.r (Sub.nil _))))))))))
              (fun _ s => sep_keep [3, 0, 1, 0] rfl s)
              (tl20 ((D.arm c.n, wv) : (DS) × (Value)) ⟨(DS.arm_ok hD hcn), (by show D.ws.length ≤ k + 1; omega)⟩)
          · skip
            refine TL.v (Want.plain rfl) rfl rfl (PV.assign rfl rfl) ?_
            refine TL.nil ?_
            refine TE.next hK49 ?_
            clear hK49
            refine TC.no rfl ?_
            refine TC.seq (fun K51 hK51 => ?_)
            refine TC.region ?_
            refine TL.v (Want.plain rfl) rfl rfl (PV.eql rfl rfl rfl) ?_
            refine TL.dec (fun h115 => ?_) (fun h115 => ?_)
            · skip
              refine TL.v (Want.plain rfl) rfl rfl (PV.assign rfl rfl) ?_
              refine TL.nil ?_
              refine TE.next hK51 ?_
              clear hK51
              refine TC.yes rfl ?_
              refine TC.seq (fun K52 hK52 => ?_)
              refine TC.seq (fun K53 hK53 => ?_)
              refine TC.region ?_
              refine TL.v (Want.plain rfl) rfl rfl (PV.move rfl rfl) ?_
              refine TL.v (Want.plain rfl) rfl rfl (PV.lenV rfl Try.underlying34 rfl hwv) ?_
              refine TL.v (Want.plain rfl) rfl rfl (PV.move rfl rfl) ?_
              refine TL.nil ?_
              refine TE.next hK53 ?_
              clear hK53
              refine TC.block ?_
              refine TC.loop (α := (Nat) × (Secs)) (fun ⟨j, s'⟩ => j ≤ D.ws.length ∧ s' = crashN c.mask c.at' (cutN c.n) D.s D.ws j) (fun ⟨j, s'⟩ => [(3, (.pointer (some ⟨d, 0, none⟩))), (4, (.map (some m26))), (5, wv), (6, (.int .i64 (leftD D))), (7, (.bool (D.dn))), (9, (.pointer (some ⟨b9, 0, none⟩))), (27, x), (28, (.int .i64 (((l.length : Nat) : Int)))), (29, (.int .i64 (((k : Nat) : Int)))), (116, wv), (117, (.int .i64 (((D.ws.length : Nat) : Int)))), (118, (.int .i64 (((j : Nat) : Int))))]) (fun ⟨j, s'⟩ => [blkA b9 [(.int .i64 (c.kind)), (.int .i64 (c.at')), (.int .i64 (c.n)), (.int .i64 (c.mask)), u] 36, dk d (D), mapP m26 (kvS s'), own wv (D.ws.length) (wflat D.ws) 39 65]) (fun ⟨j, s'⟩ => D.ws.length - j) (0, D.s)
                  ⟨Nat.zero_le _, rfl⟩ (Sub.r (Sub.r (Sub.r (Sub.r (Sub.r (Sub.r (Sub.r (Sub.r (Sub.r (Sub.r (Sub.r (Sub.cons rfl (by congr 1) (Sub.nil _)))))))))))))
                  (fun _ s => s) (fun ⟨j, s'⟩ hinv => ?_)
              obtain ⟨hj, hs'⟩ := hinv
              have hs2 : Whole s' := by rw [hs']; exact hD.s.crash hw j hj
              have hcc := cutN_le c.n
              refine TC.seq (fun K54 hK54 => ?_)
              refine TC.region ?_
              refine TL.v (Want.plain rfl) rfl rfl (PV.lss rfl rfl rfl) ?_
              refine TL.dec (fun h119 => ?_) (fun h119 => ?_)
              · skip
                refine TL.ownAt 3 rfl rfl (by omega) (fun g cap hv hcap => ?_)
                refine TL.nil ?_
                refine TE.next hK54 ?_
                clear hK54
                refine TC.seq (fun K55 hK55 => ?_)
                refine TC.yes rfl ?_
                refine TC.skip ?_
                refine TE.next hK55 ?_
                clear hK55
                refine TC.seq (fun K56 hK56 => ?_)
                refine TC.block ?_
                refine TC.seq (fun K57 hK57 => ?_)
                refine TC.region ?_
                refine TL.v (Want.plain rfl) rfl rfl (PV.move rfl rfl) ?_
                refine TL.v (Want.plain rfl) rfl rfl (PV.indexSlV (r := j * 65) hv rfl Try.underlying34 sz39 rfl rfl (by omega) (by omega) (by omega)) ?_
                refine TL.v (Want.plain rfl) rfl rfl (PV.loadNX (vs := wcell (wat D.ws j)) rfl Try.underlying39 rfl sz39 rfl (RdX.own 3 rfl hv rfl) (wcell_len (wat_len hw (by omega))) (wflat_atN hw (by omega))) ?_
                refine TL.alloc (Want.plain rfl) rfl rfl rfl z39 (fun b14 => ?_)
                change TL _ _ _ _ _ _ _ _ _ [blkA b14 (wcell (0, zs)) 39, blkA b9 [(.int .i64 (c.kind)), (.int .i64 (c.at')), (.int .i64 (c.n)), (.int .i64 (c.mask)), u] 36, dk d (D), mapP m26 (kvS s'), own wv (D.ws.length) (wflat D.ws) 39 65]
                refine TL.v (Want.plain rfl) rfl rfl (PV.assign rfl rfl) ?_
                refine TL.store (vs := wcell (wat D.ws j)) (i := 0) (H' := [blkA b14 (wcell (wat D.ws j)) 39, blkA b9 [(.int .i64 (c.kind)), (.int .i64 (c.at')), (.int .i64 (c.n)), (.int .i64 (c.mask)), u] 36, dk d (D), mapP m26 (kvS s'), own wv (D.ws.length) (wflat D.ws) 39 65]) (Want.plain rfl) rfl rfl rfl rfl rfl (by rw [wcell_len (wat_len hw (by omega))]; exact sz39) (wcell_one _) rfl rfl (by rw [wcell_len (wat_len hw (by omega))]; rw [wcell_len zs_len]; exact Nat.le_refl _) (wr_whole (Eq.trans (by rw [wcell_len zs_len] : (wcell (0, zs)).length = 65) (by rw [wcell_len (wat_len hw (by omega))] : (wcell (wat D.ws j)).length = 65).symm)) rfl ?_
                refine TL.nil ?_
                refine TE.next hK57 ?_
                clear hK57
                refine TC.seq (fun K58 hK58 => ?_)
                refine TC.region ?_
                refine TL.v (Want.plain rfl) rfl rfl (PV.move rfl rfl) ?_
                refine TL.v (Want.plain rfl) rfl rfl (PV.fieldAddr (r := 1) rfl Try.underlying36 rfl sz3 rfl rfl) ?_
                refine TL.v (Want.plain rfl) rfl rfl (PV.load1 (v := (.int .i64 (c.at'))) rfl Try.underlying3 rfl rfl (Rd.own 1 rfl rfl) rfl) ?_
                refine TL.v (Want.plain rfl) rfl rfl (PV.eql rfl rfl rfl) ?_
                refine TL.dec (fun h126 => ?_) (fun h126 => ?_)
                · skip
                  refine TL.nil ?_
                  refine TE.next hK58 ?_
                  clear hK58
                  refine TC.yes rfl ?_
                  refine TC.seq (fun K59 hK59 => ?_)
                  refine TC.region ?_
                  refine TL.v (Want.plain rfl) rfl rfl (PV.move rfl rfl) ?_
                  refine TL.v (Want.plain rfl) rfl rfl (PV.fieldAddr (r := 0) rfl Try.underlying39 rfl sz3 rfl rfl) ?_
                  refine TL.v (Want.plain rfl) rfl rfl (PV.load1 (v := (.int .i64 ((wat D.ws j).1))) rfl Try.underlying3 rfl rfl (Rd.own 0 rfl rfl) rfl) ?_
                  refine TL.v (Want.plain rfl) rfl rfl (PV.lookup rfl Try.underlying33 Try.underlying3 z37 rfl rfl (RdM.own 3 rfl rfl) (kget_kvS _ _)) ?_
                  refine TL.alloc (Want.plain rfl) rfl rfl rfl z37 (fun b15 => ?_)
                  change TL _ _ _ _ _ _ _ _ _ [blkA b15 (u8s zs) 37, blkA b14 (wcell (wat D.ws j)) 39, blkA b9 [(.int .i64 (c.kind)), (.int .i64 (c.at')), (.int .i64 (c.n)), (.int .i64 (c.mask)), u] 36, dk d (D), mapP m26 (kvS s'), own wv (D.ws.length) (wflat D.ws) 39 65]
                  refine TL.store (vs := u8s (sget s' ((wat D.ws j).1))) (i := 0) (H' := [blkA b15 (u8s (sget s' ((wat D.ws j).1))) 37, blkA b14 (wcell (wat D.ws j)) 39, blkA b9 [(.int .i64 (c.kind)), (.int .i64 (c.at')), (.int .i64 (c.n)), (.int .i64 (c.mask)), u] 36, dk d (D), mapP m26 (kvS s'), own wv (D.ws.length) (wflat D.ws) 39 65]) (Want.plain rfl) rfl rfl rfl rfl rfl (by rw [u8s_length, sget_whole hs2]; exact sz37) (u8s_one _) rfl rfl (by rw [u8s_length, sget_whole hs2]; rw [u8s_length, zs_len]; exact Nat.le_refl _) (wr_whole (Eq.trans (by rw [u8s_length, zs_len] : (u8s zs).length = 64) (by rw [u8s_length, sget_whole hs2] : (u8s (sget s' ((wat D.ws j).1))).length = 64).symm)) rfl ?_
                  refine TL.nil ?_
                  refine TE.next hK59 ?_
                  clear hK59
                  refine TC.seq (fun K60 hK60 => ?_)
                  refine TC.draw (fun w => Frm F w ∧ w.heap[b9]? = some (.cells ([(.int .i64 (c.kind)), (.int .i64 (c.at')), (.int .i64 (c.n)), (.int .i64 (c.mask)), u]).toArray 36 (0, 0)) ∧ True) mixed rfl (fun _ s => ⟨Frm.of s, s.block 2 (lb rfl) rfl, trivial⟩) ?_
                  refine TD.take (i := 0) rfl (by kernel_rfl) (by kernel_rfl) (by kernel_rfl) (fun _ _ _ _ h => h) (Want.plain rfl) rfl rfl (PV.fieldAddr (r := 2) rfl Try.underlying36 rfl sz3 rfl rfl) ?_
                  refine TD.take (i := 1) rfl (by kernel_rfl) (by kernel_rfl) (by kernel_rfl) (fun _ _ _ _ h => h) (Want.plain rfl) rfl rfl (PV.load1 (v := (.int .i64 (c.n))) rfl Try.underlying3 rfl rfl (fun _ h => h.2.1) rfl) ?_
                  refine TD.take (i := 2) rfl (by kernel_rfl) (by kernel_rfl) (by kernel_rfl) (fun _ _ _ _ h => h) (Want.plain rfl) rfl rfl (PV.maxI rfl rfl rfl) ?_
                  refine TD.take (i := 3) rfl (by kernel_rfl) (by kernel_rfl) (by kernel_rfl) (fun _ _ _ _ h => h) (Want.plain rfl) rfl rfl (PV.to (PV.minI rfl rfl rfl) (congrArg (Value.int .i64) (cutN_eq c.n))) ?_
                  refine TD.take (i := 4) rfl (by kernel_rfl) (by kernel_rfl) (by kernel_rfl) (fun _ _ _ _ h => h) (Want.plain rfl) rfl rfl (PV.sliceArrHi (k := cutN c.n) rfl Try.underlying37 sz5 rfl rfl (by omega) (by omega) rfl) ?_
                  refine TD.take (i := 5) rfl (by kernel_rfl) (by kernel_rfl) (by kernel_rfl) (fun _ _ _ _ h => h) (Want.plain rfl) rfl rfl (PV.fieldAddr (r := 1) rfl Try.underlying39 rfl sz37 rfl rfl) ?_
                  refine TD.take (i := 6) rfl (by kernel_rfl) (by kernel_rfl) (by kernel_rfl) (fun _ _ _ _ h => h) (Want.plain rfl) rfl rfl (PV.sliceArr rfl Try.underlying37 sz5 rfl) ?_
                  refine TD.all [7] (by kernel_rfl) rfl ?_
                  refine AllT.cons rfl ?_ ?_
                  · skip
                    refine TL.copy (i := 0) (m := 64) (news := (u8s (wat D.ws j).2)) (H' := [blkA b15 (u8s (tornS (sget s' ((wat D.ws j).1)) (wat D.ws j).2 (cutN c.n))) 37, blkA b14 (wcell (wat D.ws j)) 39, blkA b9 [(.int .i64 (c.kind)), (.int .i64 (c.at')), (.int .i64 (c.n)), (.int .i64 (c.mask)), u] 36, dk d (D), mapP m26 (kvS s'), own wv (D.ws.length) (wflat D.ws) 39 65]) (Want.plain rfl) rfl rfl rfl Try.underlying28 sz5 rfl rfl rfl rfl (fun _ _ => Src.rd (by rw [u8s_length, wat_len hw (by omega)]) (Rd.own 1 rfl rfl) (by rw [u8s_length, wat_len hw (by omega)]; exact wcell_tail (wat_len hw (by omega)))) (u8s_one _) (by rw [u8s_length, sget_whole hs2]; omega) (torn_copy2 hcc (sget_whole hs2 _) (wat_len hw (by omega))) rfl ?_
                    refine TL.nil ?_
                    refine TE.draw (fun _ s => ⟨Frm.of s, s.block 2 (lb rfl) rfl, trivial⟩) ?_
                    refine TD.done (by kernel_rfl) ?_
                    refine TE.next hK60 ?_
                    clear hK60
                    refine TC.region ?_
                    refine TL.v (Want.plain rfl) rfl rfl (PV.move rfl rfl) ?_
                    refine TL.v (Want.plain rfl) rfl rfl (PV.fieldAddr (r := 0) rfl Try.underlying39 rfl sz3 rfl rfl) ?_
                    refine TL.v (Want.plain rfl) rfl rfl (PV.load1 (v := (.int .i64 ((wat D.ws j).1))) rfl Try.underlying3 rfl rfl (Rd.own 1 rfl rfl) rfl) ?_
                    refine TL.v (Want.plain rfl) rfl rfl (PV.loadN (vs := u8s (tornS (sget s' ((wat D.ws j).1)) (wat D.ws j).2 (cutN c.n))) rfl Try.underlying37 rfl sz37 rfl (Rd.own 0 rfl rfl) (by rw [u8s_length, tornS_len (sget_whole hs2 _) (wat_len hw (by omega))]) (take_all (by rw [u8s_length, tornS_len (sget_whole hs2 _) (wat_len hw (by omega))]))) ?_
                    refine TL.mapUpdate (i := 4) (H' := [blkA b15 (u8s (tornS (sget s' ((wat D.ws j).1)) (wat D.ws j).2 (cutN c.n))) 37, blkA b14 (wcell (wat D.ws j)) 39, blkA b9 [(.int .i64 (c.kind)), (.int .i64 (c.at')), (.int .i64 (c.n)), (.int .i64 (c.mask)), u] 36, dk d (D), mapP m26 (kvS (sput s' ((wat D.ws j).1) (tornS (sget s' ((wat D.ws j).1)) (wat D.ws j).2 (cutN c.n)))), own wv (D.ws.length) (wflat D.ws) 39 65]) (Want.plain rfl) rfl rfl Try.underlying33 Try.underlying3 rfl rfl rfl rfl rfl (congrArg (fun q => List.set _ 4 (mapP m26 q)) (kput_kvS _ _ _)) ?_
                    refine TL.nil ?_
                    refine TE.blockEnd ?_
                    refine TE.next hK56 ?_
                    clear hK56
                    refine TC.region ?_
                    refine TL.v (Want.plain rfl) rfl rfl (PV.add rfl rfl rfl (wrap_i64 (by omega) (by omega))) ?_
                    refine TL.v (Want.plain rfl) rfl rfl (PV.move rfl rfl) ?_
                    refine TL.nil ?_
                    exact TE.round ((j + 1, sput s' (wat D.ws j).1 (tornS (sget s' (wat D.ws j).1) (wat D.ws j).2 (cutN c.n))) : (Nat) × (Secs)) ⟨by omega, by rw [hs', crashN, crashStep, if_pos h126]⟩ (by show D.ws.length - (j + 1) < D.ws.length - j; omega)
                      (Sub.r (Sub.r (Sub.r (Sub.r (Sub.r (Sub.r (Sub.r (Sub.r (Sub.r (Sub.r (Sub.r (Sub.cons rfl (by simp) (Sub.nil _)))))))))))))
                      (fun _ s => sep_keep [2, 2, 2, 2] rfl s)
                  exact AllT.nil
                · skip
                  refine TL.nil ?_
                  refine TE.next hK58 ?_
                  clear hK58
                  refine TC.no rfl ?_
                  refine TC.seq (fun K61 hK61 => ?_)
                  refine TC.region ?_
                  refine TL.v (Want.plain rfl) rfl rfl (PV.fieldAddr (r := 3) rfl Try.underlying36 rfl sz3 rfl rfl) ?_
                  refine TL.v (Want.plain rfl) rfl rfl (PV.load1 (v := (.int .i64 (c.mask))) rfl Try.underlying3 rfl rfl (Rd.own 1 rfl rfl) rfl) ?_
                  refine TL.v (Want.plain rfl) rfl rfl (PV.move rfl rfl) ?_
                  refine TL.v (Want.plain rfl) rfl rfl (PV.rem (r := ((j % 32 : Nat) : Int)) rfl rfl rfl (by omega) (by rw [show (32 : Int) = ((32 : Nat) : Int) from rfl, ← Int.ofNat_tmod])) ?_
                  refine TL.v (Want.plain rfl) rfl rfl (PV.shr (r := c.mask.fdiv (2 ^ (j % 32))) rfl rfl rfl (by omega) (by congr 2; show min ((j % 32 : Nat) : Int).toNat 64 = j % 32; omega)) ?_
                  refine TL.v (Want.plain rfl) rfl rfl (PV.and (r := c.mask.fdiv (2 ^ (j % 32)) % 2) rfl rfl rfl (and1 _)) ?_
                  refine TL.v (Want.plain rfl) rfl rfl (PV.eql rfl rfl rfl) ?_
                  refine TL.dec (fun h149 => ?_) (fun h149 => ?_)
                  · skip
                    refine TL.nil ?_
                    refine TE.next hK61 ?_
                    clear hK61
                    refine TC.yes rfl ?_
                    refine TC.region ?_
                    refine TL.v (Want.plain rfl) rfl rfl (PV.move rfl rfl) ?_
                    refine TL.v (Want.plain rfl) rfl rfl (PV.fieldAddr (r := 0) rfl Try.underlying39 rfl sz3 rfl rfl) ?_
                    refine TL.v (Want.plain rfl) rfl rfl (PV.load1 (v := (.int .i64 ((wat D.ws j).1))) rfl Try.underlying3 rfl rfl (Rd.own 0 rfl rfl) rfl) ?_
                    refine TL.v (Want.plain rfl) rfl rfl (PV.fieldAddr (r := 1) rfl Try.underlying39 rfl sz37 rfl rfl) ?_
                    refine TL.v (Want.plain rfl) rfl rfl (PV.loadN (vs := u8s (wat D.ws j).2) rfl Try.underlying37 rfl sz37 rfl (Rd.own 0 rfl rfl) (by rw [u8s_length]; exact wat_len hw (by omega)) (wcell_tail (wat_len hw (by omega)))) ?_
                    refine TL.mapUpdate (i := 3) (H' := [blkA b14 (wcell (wat D.ws j)) 39, blkA b9 [(.int .i64 (c.kind)), (.int .i64 (c.at')), (.int .i64 (c.n)), (.int .i64 (c.mask)), u] 36, dk d (D), mapP m26 (kvS (sput s' ((wat D.ws j).1) ((wat D.ws j).2))), own wv (D.ws.length) (wflat D.ws) 39 65]) (Want.plain rfl) rfl rfl Try.underlying33 Try.underlying3 rfl rfl rfl rfl rfl (congrArg (fun q => List.set _ 3 (mapP m26 q)) (kput_kvS _ _ _)) ?_
                    refine TL.nil ?_
                    refine TE.blockEnd ?_
                    refine TE.next hK56 ?_
                    clear hK56
                    refine TC.region ?_
                    refine TL.v (Want.plain rfl) rfl rfl (PV.add rfl rfl rfl (wrap_i64 (by omega) (by omega))) ?_
                    refine TL.v (Want.plain rfl) rfl rfl (PV.move rfl rfl) ?_
                    refine TL.nil ?_
                    exact TE.round ((j + 1, sput s' (wat D.ws j).1 (wat D.ws j).2) : (Nat) × (Secs)) ⟨by omega, by rw [hs', crashN, crashStep, if_neg h126, if_pos h149]⟩ (by show D.ws.length - (j + 1) < D.ws.length - j; omega)
                      (Sub.r (Sub.r (Sub.r (Sub.r (Sub.r (Sub.r (Sub.r (Sub.r (Sub.r (Sub.r (Sub.r (Sub.cons rfl (by simp) (Sub.nil _)))))))))))))
                      (fun _ s => sep_keep [1, 1, 1, 1] rfl s)
                  · skip
                    refine TL.nil ?_
                    refine TE.next hK61 ?_
                    clear hK61
                    refine TC.no rfl ?_
                    refine TC.skip ?_
                    refine TE.blockEnd ?_
                    refine TE.next hK56 ?_
                    clear hK56
                    refine TC.region ?_
                    refine TL.v (Want.plain rfl) rfl rfl (PV.add rfl rfl rfl (wrap_i64 (by omega) (by omega))) ?_
                    refine TL.v (Want.plain rfl) rfl rfl (PV.move rfl rfl) ?_
                    refine TL.nil ?_
                    exact TE.round ((j + 1, s') : (Nat) × (Secs)) ⟨by omega, by rw [crashN, crashStep, if_neg h126, if_neg h149]; exact hs'⟩ (by show D.ws.length - (j + 1) < D.ws.length - j; omega)
                      (Sub.r (Sub.r (Sub.r (Sub.r (Sub.r (Sub.r (Sub.r (Sub.r (Sub.r (Sub.r (Sub.r (Sub.cons rfl (by simp) (Sub.nil _)))))))))))))
                      (fun _ s => sep_keep [1, 1, 1, 1] rfl s)
              · skip
                refine TL.nil ?_
                refine TE.next hK54 ?_
                clear hK54
                refine TC.seq (fun K62 hK62 => ?_)
                refine TC.no rfl ?_
                refine TC.exit ?_
                refine TE.pass ?_
                clear hK62
                refine TE.pass ?_
                refine TE.hit ?_
                refine TE.next hK52 ?_
                clear hK52
                refine TC.seq (fun K63 hK63 => ?_)
                refine TC.region ?_
                refine TL.v (Want.plain rfl) rfl rfl (PV.assign rfl rfl) ?_
                refine TL.v (Want.plain rfl) rfl rfl (PV.assign rfl rfl) ?_
                refine TL.v (Want.plain rfl) rfl rfl (PV.assign rfl rfl) ?_
                refine TL.nil ?_
                refine TE.next hK63 ?_
                clear hK63
                refine TC.region ?_
                refine TL.v (Want.plain rfl) rfl rfl (PV.move rfl rfl) ?_
                refine TL.v (Want.plain rfl) rfl rfl (PV.fieldAddr (r := 3) rfl Try.underlying36 rfl sz3 rfl rfl) ?_
                refine TL.v (Want.plain rfl) rfl rfl (PV.load1 (v := (.int .i64 (c.mask))) rfl Try.underlying3 rfl rfl (Rd.own 0 rfl rfl) rfl) ?_
                refine TL.v (Want.plain rfl) rfl rfl (PV.fieldAddr (r := 1) rfl Try.underlying36 rfl sz3 rfl rfl) ?_
                refine TL.v (Want.plain rfl) rfl rfl (PV.load1 (v := (.int .i64 (c.at'))) rfl Try.underlying3 rfl rfl (Rd.own 0 rfl rfl) rfl) ?_
                refine TL.v (Want.plain rfl) rfl rfl (PV.fieldAddr (r := 2) rfl Try.underlying36 rfl sz3 rfl rfl) ?_
                refine TL.v (Want.plain rfl) rfl rfl (PV.load1 (v := (.int .i64 (c.n))) rfl Try.underlying3 rfl rfl (Rd.own 0 rfl rfl) rfl) ?_
                refine TL.callR (A := [dk d (D)]) (B := [blkA b9 [(.int .i64 (c.kind)), (.int .i64 (c.at')), (.int .i64 (c.n)), (.int .i64 (c.mask)), u] 36, mapP m26 (kvS s'), own wv (D.ws.length) (wflat D.ws) 39 65]) (Want.plain rfl) rfl rfl rfl nm19 rfl (dk_crash d (D) c.mask c.at' c.n hD) (fun _ s => sep_selR [1] rfl s) (fun _ _ _ => trivial) (fun vR HR hR => ?_)
                obtain ⟨_, rfl⟩ := hR
                change TL _ _ _ _ _ _ _ _ _ [dk d ((D).crash c.mask c.at' c.n), blkA b9 [(.int .i64 (c.kind)), (.int .i64 (c.at')), (.int .i64 (c.n)), (.int .i64 (c.mask)), u] 36, mapP m26 (kvS s'), own wv (D.ws.length) (wflat D.ws) 39 65]
                refine TL.nil ?_
                refine TE.blockEnd ?_
                have hje : j = D.ws.length := by omega
                obtain rfl : s' = (D.crash c.mask c.at' c.n).s := by rw [hs', hje]; rfl
                have h6 : -1 = leftD (D.crash c.mask c.at' c.n) := by simp [leftD, DS.crash]
                have h7 : false = (D.crash c.mask c.at' c.n).dn := rfl
                exact TE.weak
                  (Sub.r (Sub.r (Sub.r (Sub.cons rfl (congrArg (Value.int .i64) h6) (Sub.cons rfl (congrArg Value.bool h7) (Sub.r (Sub.r (Sub.r (Sub.r (Sub.nil _))))))))))
                  (fun _ s => sep_ownNil 39 65 (sep_keep [0, 1, 0] rfl s))
                  (tl20 ((D.crash c.mask c.at' c.n, (.slice none 0 0)) : (DS) × (Value)) ⟨(DS.crash_ok hD _ _ _), (Nat.zero_le _)⟩)
            · skip
              refine TL.v (Want.plain rfl) rfl rfl (PV.assign rfl rfl) ?_
              refine TL.nil ?_
              refine TE.next hK51 ?_
              clear hK51
              refine TC.no rfl ?_
              refine TC.seq (fun K64 hK64 => ?_)
              refine TC.region ?_
              refine TL.v (Want.plain rfl) rfl rfl (PV.assign rfl rfl) ?_
              refine TL.nil ?_
              refine TE.next hK64 ?_
              clear hK64
              refine TC.seq (fun K65 hK65 => ?_)
              refine TC.block ?_
              refine TC.seq (fun K66 hK66 => ?_)
              refine TC.region ?_
              refine TL.v (Want.plain rfl) rfl rfl (PV.fieldAddr (r := 1) rfl Try.underlying36 rfl sz3 rfl rfl) ?_
              refine TL.v (Want.plain rfl) rfl rfl (PV.load1 (v := (.int .i64 (c.at'))) rfl Try.underlying3 rfl rfl (Rd.own 0 rfl rfl) rfl) ?_
              refine TL.v (Want.plain rfl) rfl rfl (PV.lss rfl rfl rfl) ?_
              refine TL.dec (fun h58 => ?_) (fun h58 => ?_)
              · skip
                refine TL.v (Want.plain rfl) rfl rfl (PV.move rfl rfl) ?_
                refine TL.unmet (b := true) rfl rfl rfl rfl (lb rfl) ?_
                refine TL.unmet (b := true) rfl rfl rfl rfl (lb rfl) ?_
                refine TL.unmet (b := true) rfl rfl rfl rfl (lb rfl) ?_
                refine TL.v (Want.plain rfl) rfl rfl (PV.pick rfl rfl rfl) ?_
                refine TL.v (Want.plain rfl) rfl rfl (PV.move rfl rfl) ?_
                refine TL.unmet (b := true) rfl rfl rfl rfl (lb rfl) ?_
                refine TL.unmet (b := true) rfl rfl rfl rfl (lb rfl) ?_
                refine TL.unmet (b := true) rfl rfl rfl rfl (lb rfl) ?_
                refine TL.unmet (b := true) rfl rfl rfl rfl (lb rfl) ?_
                refine TL.v (Want.plain rfl) rfl rfl (PV.pick rfl rfl rfl) ?_
                refine TL.v (Want.plain rfl) rfl rfl (PV.assign rfl rfl) ?_
                refine TL.nil ?_
                refine TE.next hK66 ?_
                clear hK66
                refine TC.yes rfl ?_
                refine TC.region ?_
                refine TL.v (Want.plain rfl) rfl rfl (PV.assign rfl rfl) ?_
                refine TL.nil ?_
                refine TE.blockEnd ?_
                refine TE.next hK65 ?_
                clear hK65
                refine TC.seq (fun K67 hK67 => ?_)
                refine TC.region ?_
                refine TL.v (Want.plain rfl) rfl rfl (PV.move rfl rfl) ?_
                refine TL.v (Want.plain rfl) rfl rfl (PV.fieldAddr (r := 1) rfl Try.underlying36 rfl sz3 rfl rfl) ?_
                refine TL.v (Want.plain rfl) rfl rfl (PV.load1 (v := (.int .i64 (c.at'))) rfl Try.underlying3 rfl rfl (Rd.own 0 rfl rfl) rfl) ?_
                refine TL.v (Want.plain rfl) rfl rfl (PV.fieldAddr (r := 4) rfl Try.underlying36 rfl sz28 rfl rfl) ?_
                refine TL.v (Want.plain rfl) rfl rfl (PV.load1 (v := u) rfl Try.underlying28 rfl rfl (Rd.own 0 rfl rfl) rfl) ?_
                refine TL.callR (A := [dk d (D)]) (B := [blkA b9 [(.int .i64 (c.kind)), (.int .i64 (c.at')), (.int .i64 (c.n)), (.int .i64 (c.mask)), u] 36, mapP m26 (kvS D.s), own wv (D.ws.length) (wflat D.ws) 39 65]) (Want.plain rfl) rfl rfl rfl nm15 rfl (dk_write d (D) c.at' u (c.data) hD (by omega)) (fun _ s => sep_selR [1] rfl s) (fun g d _ => IsW.more hu d) (fun vR HR hR => ?_)
                obtain ⟨hv, rfl⟩ := hR
                subst hv
                rw [write_arg (by omega)]
                change TL _ _ _ _ _ _ _ _ _ [dk d (D), blkA b9 [(.int .i64 (c.kind)), (.int .i64 (c.at')), (.int .i64 (c.n)), (.int .i64 (c.mask)), u] 36, mapP m26 (kvS D.s), own wv (D.ws.length) (wflat D.ws) 39 65]
                refine TL.v (Want.plain rfl) rfl rfl (PV.move rfl rfl) ?_
                refine TL.v (Want.plain rfl) rfl rfl (PV.neq rfl rfl rfl) ?_
                refine TL.nil ?_
                refine TE.next hK67 ?_
                clear hK67
                refine TC.no rfl ?_
                refine TC.skip ?_
                refine TE.blockEnd ?_
                have h6 : leftD D = leftD D := rfl
                have h7 : (D.dn) = D.dn := rfl
                exact TE.weak
                  (Sub.r (Sub.r (Sub.r (Sub.cons rfl (congrArg (Value.int .i64) h6) (Sub.cons rfl (congrArg Value.bool h7) (Sub.r (Sub.r (Sub.r (Sub.r (Sub.nil _))))))))))
                  (fun _ s => sep_keep [3, 0, 1, 0] rfl s)
                  (tl20 ((D, wv) : (DS) × (Value)) ⟨hD, (by omega)⟩)
              · skip
                refine TL.v (Want.plain rfl) rfl rfl (PV.move rfl rfl) ?_
                refine TL.v (Want.met rfl rfl rfl) rfl rfl (PV.fieldAddr (r := 1) rfl Try.underlying36 rfl sz3 rfl rfl) ?_
                refine TL.v (Want.met rfl rfl rfl) rfl rfl (PV.load1 (v := (.int .i64 (c.at'))) rfl Try.underlying3 rfl rfl (Rd.own 0 rfl rfl) rfl) ?_
                refine TL.v (Want.met rfl rfl rfl) rfl rfl (PV.geq rfl rfl rfl) ?_
                refine TL.dec (fun h62 => ?_) (fun h62 => ?_)
                · skip
                  refine TL.v (Want.plain rfl) rfl rfl (PV.pick rfl rfl rfl) ?_
                  refine TL.v (Want.plain rfl) rfl rfl (PV.move rfl rfl) ?_
                  refine TL.unmet (b := true) rfl rfl rfl rfl (lb rfl) ?_
                  refine TL.unmet (b := true) rfl rfl rfl rfl (lb rfl) ?_
                  refine TL.unmet (b := true) rfl rfl rfl rfl (lb rfl) ?_
                  refine TL.unmet (b := true) rfl rfl rfl rfl (lb rfl) ?_
                  refine TL.v (Want.plain rfl) rfl rfl (PV.pick rfl rfl rfl) ?_
                  refine TL.v (Want.plain rfl) rfl rfl (PV.assign rfl rfl) ?_
                  refine TL.nil ?_
                  refine TE.next hK66 ?_
                  clear hK66
                  refine TC.yes rfl ?_
                  refine TC.region ?_
                  refine TL.v (Want.plain rfl) rfl rfl (PV.assign rfl rfl) ?_
                  refine TL.nil ?_
                  refine TE.blockEnd ?_
                  refine TE.next hK65 ?_
                  clear hK65
                  refine TC.seq (fun K68 hK68 => ?_)
                  refine TC.region ?_
                  refine TL.v (Want.plain rfl) rfl rfl (PV.move rfl rfl) ?_
                  refine TL.v (Want.plain rfl) rfl rfl (PV.fieldAddr (r := 1) rfl Try.underlying36 rfl sz3 rfl rfl) ?_
                  refine TL.v (Want.plain rfl) rfl rfl (PV.load1 (v := (.int .i64 (c.at'))) rfl Try.underlying3 rfl rfl (Rd.own 0 rfl rfl) rfl) ?_
                  refine TL.v (Want.plain rfl) rfl rfl (PV.fieldAddr (r := 4) rfl Try.underlying36 rfl sz28 rfl rfl) ?_
                  refine TL.v (Want.plain rfl) rfl rfl (PV.load1 (v := u) rfl Try.underlying28 rfl rfl (Rd.own 0 rfl rfl) rfl) ?_
                  refine TL.callR (A := [dk d (D)]) (B := [blkA b9 [(.int .i64 (c.kind)), (.int .i64 (c.at')), (.int .i64 (c.n)), (.int .i64 (c.mask)), u] 36, mapP m26 (kvS D.s), own wv (D.ws.length) (wflat D.ws) 39 65]) (Want.plain rfl) rfl rfl rfl nm15 rfl (dk_write d (D) c.at' u (c.data) hD (by omega)) (fun _ s => sep_selR [1] rfl s) (fun g d _ => IsW.more hu d) (fun vR HR hR => ?_)
                  obtain ⟨hv, rfl⟩ := hR
                  subst hv
                  rw [write_arg (by omega)]
                  change TL _ _ _ _ _ _ _ _ _ [dk d (D), blkA b9 [(.int .i64 (c.kind)), (.int .i64 (c.at')), (.int .i64 (c.n)), (.int .i64 (c.mask)), u] 36, mapP m26 (kvS D.s), own wv (D.ws.length) (wflat D.ws) 39 65]
                  refine TL.v (Want.plain rfl) rfl rfl (PV.move rfl rfl) ?_
                  refine TL.v (Want.plain rfl) rfl rfl (PV.neq rfl rfl rfl) ?_
                  refine TL.nil ?_
                  refine TE.next hK68 ?_
                  clear hK68
                  refine TC.no rfl ?_
                  refine TC.skip ?_
                  refine TE.blockEnd ?_
                  have h6 : leftD D = leftD D := rfl
                  have h7 : (D.dn) = D.dn := rfl
                  exact TE.weak
                    (Sub.r (Sub.r (Sub.r (Sub.cons rfl (congrArg (Value.int .i64) h6) (Sub.cons rfl (congrArg Value.bool h7) (Sub.r (Sub.r (Sub.r (Sub.r (Sub.nil _))))))))))
                    (fun _ s => sep_keep [3, 0, 1, 0] rfl s)
                    (tl20 ((D, wv) : (DS) × (Value)) ⟨hD, (by omega)⟩)
                · skip
                  refine TL.v (Want.plain rfl) rfl rfl (PV.pick rfl rfl rfl) ?_
                  refine TL.v (Want.plain rfl) rfl rfl (PV.move rfl rfl) ?_
                  refine TL.v (Want.met rfl rfl rfl) rfl rfl (PV.fieldAddr (r := 4) rfl Try.underlying36 rfl sz28 rfl rfl) ?_
                  refine TL.v (Want.met rfl rfl rfl) rfl rfl (PV.load1 (v := u) rfl Try.underlying28 rfl rfl (Rd.own 0 rfl rfl) rfl) ?_
                  refine TL.v (Want.met rfl rfl rfl) rfl rfl (PV.lenV rfl Try.underlying28 rfl hu.len) ?_
                  refine TL.v (Want.met rfl rfl rfl) rfl rfl (PV.gtr rfl rfl rfl) ?_
                  refine TL.dec (fun h68 => ?_) (fun h68 => ?_)
                  · skip
                    refine TL.v (Want.plain rfl) rfl rfl (PV.pick rfl rfl rfl) ?_
                    refine TL.v (Want.plain rfl) rfl rfl (PV.assign rfl rfl) ?_
                    refine TL.nil ?_
                    refine TE.next hK66 ?_
                    clear hK66
                    refine TC.yes rfl ?_
                    refine TC.region ?_
                    refine TL.v (Want.plain rfl) rfl rfl (PV.assign rfl rfl) ?_
                    refine TL.nil ?_
                    refine TE.blockEnd ?_
                    refine TE.next hK65 ?_
                    clear hK65
                    refine TC.seq (fun K69 hK69 => ?_)
                    refine TC.region ?_
                    refine TL.v (Want.plain rfl) rfl rfl (PV.move rfl rfl) ?_
                    refine TL.v (Want.plain rfl) rfl rfl (PV.fieldAddr (r := 1) rfl Try.underlying36 rfl sz3 rfl rfl) ?_
                    refine TL.v (Want.plain rfl) rfl rfl (PV.load1 (v := (.int .i64 (c.at'))) rfl Try.underlying3 rfl rfl (Rd.own 0 rfl rfl) rfl) ?_
                    refine TL.v (Want.plain rfl) rfl rfl (PV.fieldAddr (r := 4) rfl Try.underlying36 rfl sz28 rfl rfl) ?_
                    refine TL.v (Want.plain rfl) rfl rfl (PV.load1 (v := u) rfl Try.underlying28 rfl rfl (Rd.own 0 rfl rfl) rfl) ?_
                    refine TL.callR (A := [dk d (D)]) (B := [blkA b9 [(.int .i64 (c.kind)), (.int .i64 (c.at')), (.int .i64 (c.n)), (.int .i64 (c.mask)), u] 36, mapP m26 (kvS D.s), own wv (D.ws.length) (wflat D.ws) 39 65]) (Want.plain rfl) rfl rfl rfl nm15 rfl (dk_write d (D) c.at' u (c.data) hD (by omega)) (fun _ s => sep_selR [1] rfl s) (fun g d _ => IsW.more hu d) (fun vR HR hR => ?_)
                    obtain ⟨hv, rfl⟩ := hR
                    subst hv
                    rw [write_arg (by omega)]
                    change TL _ _ _ _ _ _ _ _ _ [dk d (D), blkA b9 [(.int .i64 (c.kind)), (.int .i64 (c.at')), (.int .i64 (c.n)), (.int .i64 (c.mask)), u] 36, mapP m26 (kvS D.s), own wv (D.ws.length) (wflat D.ws) 39 65]
                    refine TL.v (Want.plain rfl) rfl rfl (PV.move rfl rfl) ?_
                    refine TL.v (Want.plain rfl) rfl rfl (PV.neq rfl rfl rfl) ?_
                    refine TL.nil ?_
                    refine TE.next hK69 ?_
                    clear hK69
                    refine TC.no rfl ?_
                    refine TC.skip ?_
                    refine TE.blockEnd ?_
                    have h6 : leftD D = leftD D := rfl
                    have h7 : (D.dn) = D.dn := rfl
                    exact TE.weak
                      (Sub.r (Sub.r (Sub.r (Sub.cons rfl (congrArg (Value.int .i64) h6) (Sub.cons rfl (congrArg Value.bool h7) (Sub.r (Sub.r (Sub.r (Sub.r (Sub.nil _))))))))))
                      (fun _ s => sep_keep [3, 0, 1, 0] rfl s)
                      (tl20 ((D, wv) : (DS) × (Value)) ⟨hD, (by omega)⟩)
                  · skip
                    refine TL.v (Want.plain rfl) rfl rfl (PV.pick rfl rfl rfl) ?_
                    refine TL.v (Want.plain rfl) rfl rfl (PV.assign rfl rfl) ?_
                    refine TL.nil ?_
                    refine TE.next hK66 ?_
                    clear hK66
                    refine TC.no rfl ?_
                    refine TC.seq (fun K70 hK70 => ?_)
                    refine TC.region ?_
                    refine TL.v (Want.plain rfl) rfl rfl (PV.move rfl rfl) ?_
                    refine TL.decB (fun h71 => ?_) (fun h71 => ?_)
                    · skip
                      refine TL.v (Want.plain rfl) rfl rfl (PV.move rfl rfl) ?_
                      refine TL.unmet (b := true) rfl rfl rfl rfl (lb rfl) ?_
                      refine TL.unmet (b := true) rfl rfl rfl rfl (lb rfl) ?_
                      refine TL.v (Want.plain rfl) rfl rfl (PV.pick rfl rfl rfl) ?_
                      refine TL.v (Want.plain rfl) rfl rfl (PV.assign rfl rfl) ?_
                      refine TL.nil ?_
                      refine TE.next hK70 ?_
                      clear hK70
                      refine TC.yes rfl ?_
                      refine TC.region ?_
                      refine TL.v (Want.plain rfl) rfl rfl (PV.assign rfl rfl) ?_
                      refine TL.v (Want.plain rfl) rfl rfl (PV.assign rfl rfl) ?_
                      refine TL.nil ?_
                      refine TE.blockEnd ?_
                      refine TE.next hK65 ?_
                      clear hK65
                      refine TC.seq (fun K71 hK71 => ?_)
                      refine TC.region ?_
                      refine TL.v (Want.plain rfl) rfl rfl (PV.move rfl rfl) ?_
                      refine TL.v (Want.plain rfl) rfl rfl (PV.fieldAddr (r := 1) rfl Try.underlying36 rfl sz3 rfl rfl) ?_
                      refine TL.v (Want.plain rfl) rfl rfl (PV.load1 (v := (.int .i64 (c.at'))) rfl Try.underlying3 rfl rfl (Rd.own 0 rfl rfl) rfl) ?_
                      refine TL.v (Want.plain rfl) rfl rfl (PV.fieldAddr (r := 4) rfl Try.underlying36 rfl sz28 rfl rfl) ?_
                      refine TL.v (Want.plain rfl) rfl rfl (PV.load1 (v := u) rfl Try.underlying28 rfl rfl (Rd.own 0 rfl rfl) rfl) ?_
                      refine TL.callR (A := [dk d (D)]) (B := [blkA b9 [(.int .i64 (c.kind)), (.int .i64 (c.at')), (.int .i64 (c.n)), (.int .i64 (c.mask)), u] 36, mapP m26 (kvS D.s), own wv (D.ws.length) (wflat D.ws) 39 65]) (Want.plain rfl) rfl rfl rfl nm15 rfl (dk_write d (D) c.at' u (c.data) hD (by omega)) (fun _ s => sep_selR [1] rfl s) (fun g d _ => IsW.more hu d) (fun vR HR hR => ?_)
                      obtain ⟨hv, rfl⟩ := hR
                      subst hv
                      rw [write_down (by omega) (by first | exact .inl h71 | exact .inr h74)]
                      change TL _ _ _ _ _ _ _ _ _ [dk d (D.downed), blkA b9 [(.int .i64 (c.kind)), (.int .i64 (c.at')), (.int .i64 (c.n)), (.int .i64 (c.mask)), u] 36, mapP m26 (kvS D.s), own wv (D.ws.length) (wflat D.ws) 39 65]
                      refine TL.v (Want.plain rfl) rfl rfl (PV.move rfl rfl) ?_
                      refine TL.v (Want.plain rfl) rfl rfl (PV.neq rfl rfl rfl) ?_
                      refine TL.nil ?_
                      refine TE.next hK71 ?_
                      clear hK71
                      refine TC.no rfl ?_
                      refine TC.skip ?_
                      refine TE.blockEnd ?_
                      have h6 : leftD D = leftD D.downed := rfl
                      have h7 : true = D.downed.dn := rfl
                      exact TE.weak
                        (Sub.r (Sub.r (Sub.r (Sub.cons rfl (congrArg (Value.int .i64) h6) (Sub.cons rfl (congrArg Value.bool h7) (Sub.r (Sub.r (Sub.r (Sub.r (Sub.nil _))))))))))
                        (fun _ s => sep_keep [3, 0, 1, 0] rfl s)
                        (tl20 ((D.downed, wv) : (DS) × (Value)) ⟨(downed_ok hD), (by show D.ws.length ≤ k + 1; omega)⟩)
                    · skip
                      refine TL.v (Want.plain rfl) rfl rfl (PV.move rfl rfl) ?_
                      refine TL.v (Want.met rfl rfl rfl) rfl rfl (PV.move rfl rfl) ?_
                      refine TL.v (Want.met rfl rfl rfl) rfl rfl (PV.eql rfl rfl rfl) ?_
                      refine TL.dec (fun h74 => ?_) (fun h74 => ?_)
                      · skip
                        refine TL.v (Want.plain rfl) rfl rfl (PV.pick rfl rfl rfl) ?_
                        refine TL.v (Want.plain rfl) rfl rfl (PV.assign rfl rfl) ?_
                        refine TL.nil ?_
                        refine TE.next hK70 ?_
                        clear hK70
                        refine TC.yes rfl ?_
                        refine TC.region ?_
                        refine TL.v (Want.plain rfl) rfl rfl (PV.assign rfl rfl) ?_
                        refine TL.v (Want.plain rfl) rfl rfl (PV.assign rfl rfl) ?_
                        refine TL.nil ?_
                        refine TE.blockEnd ?_
                        refine TE.next hK65 ?_
                        clear hK65
                        refine TC.seq (fun K72 hK72 => ?_)
                        refine TC.region ?_
                        refine TL.v (Want.plain rfl) rfl rfl (PV.move rfl rfl) ?_
                        refine TL.v (Want.plain rfl) rfl rfl (PV.fieldAddr (r := 1) rfl Try.underlying36 rfl sz3 rfl rfl) ?_
                        refine TL.v (Want.plain rfl) rfl rfl (PV.load1 (v := (.int .i64 (c.at'))) rfl Try.underlying3 rfl rfl (Rd.own 0 rfl rfl) rfl) ?_
                        refine TL.v (Want.plain rfl) rfl rfl (PV.fieldAddr (r := 4) rfl Try.underlying36 rfl sz28 rfl rfl) ?_
                        refine TL.v (Want.plain rfl) rfl rfl (PV.load1 (v := u) rfl Try.underlying28 rfl rfl (Rd.own 0 rfl rfl) rfl) ?_
                        refine TL.callR (A := [dk d (D)]) (B := [blkA b9 [(.int .i64 (c.kind)), (.int .i64 (c.at')), (.int .i64 (c.n)), (.int .i64 (c.mask)), u] 36, mapP m26 (kvS D.s), own wv (D.ws.length) (wflat D.ws) 39 65]) (Want.plain rfl) rfl rfl rfl nm15 rfl (dk_write d (D) c.at' u (c.data) hD (by omega)) (fun _ s => sep_selR [1] rfl s) (fun g d _ => IsW.more hu d) (fun vR HR hR => ?_)
                        obtain ⟨hv, rfl⟩ := hR
                        subst hv
                        rw [write_down (by omega) (by first | exact .inl h71 | exact .inr h74)]
                        change TL _ _ _ _ _ _ _ _ _ [dk d (D.downed), blkA b9 [(.int .i64 (c.kind)), (.int .i64 (c.at')), (.int .i64 (c.n)), (.int .i64 (c.mask)), u] 36, mapP m26 (kvS D.s), own wv (D.ws.length) (wflat D.ws) 39 65]
                        refine TL.v (Want.plain rfl) rfl rfl (PV.move rfl rfl) ?_
                        refine TL.v (Want.plain rfl) rfl rfl (PV.neq rfl rfl rfl) ?_
                        refine TL.nil ?_
                        refine TE.next hK72 ?_
                        clear hK72
                        refine TC.no rfl ?_
                        refine TC.skip ?_
                        refine TE.blockEnd ?_
                        have h6 : leftD D = leftD D.downed := rfl
                        have h7 : true = D.downed.dn := rfl
                        exact TE.weak
                          (Sub.r (Sub.r (Sub.r (Sub.cons rfl (congrArg (Value.int .i64) h6) (Sub.cons rfl (congrArg Value.bool h7) (Sub.r (Sub.r (Sub.r (Sub.r (Sub.nil _))))))))))
                          (fun _ s => sep_keep [3, 0, 1, 0] rfl s)
                          (tl20 ((D.downed, wv) : (DS) × (Value)) ⟨(downed_ok hD), (by show D.ws.length ≤ k + 1; omega)⟩)
                      · skip
                        refine TL.v (Want.plain rfl) rfl rfl (PV.pick rfl rfl rfl) ?_
                        refine TL.v (Want.plain rfl) rfl rfl (PV.assign rfl rfl) ?_
                        refine TL.nil ?_
                        refine TE.next hK70 ?_
                        clear hK70
                        refine TC.no rfl ?_
                        refine TC.seq (fun K73 hK73 => ?_)
                        refine TC.seq (fun K74 hK74 => ?_)
                        refine TC.region ?_
                        refine TL.v (Want.plain rfl) rfl rfl (PV.move rfl rfl) ?_
                        refine TL.v (Want.plain rfl) rfl rfl (PV.gtr rfl rfl rfl) ?_
                        refine TL.dec (fun h43 => ?_) (fun h43 => ?_)
                        · skip
                          refine TL.nil ?_
                          refine TE.next hK74 ?_
                          clear hK74
                          refine TC.yes rfl ?_
                          refine TC.region ?_
                          refine TL.v (Want.plain rfl) rfl rfl (PV.move rfl rfl) ?_
                          refine TL.v (Want.plain rfl) rfl rfl (PV.sub rfl rfl rfl (wrap_i64 (by omega) (by omega))) ?_
                          refine TL.v (Want.plain rfl) rfl rfl (PV.assign rfl rfl) ?_
                          refine TL.nil ?_
                          refine TE.next hK73 ?_
                          clear hK73
                          refine TC.draw (fun w => Frm F w ∧ w.heap[b9]? = some (.cells ([(.int .i64 (c.kind)), (.int .i64 (c.at')), (.int .i64 (c.n)), (.int .i64 (c.mask)), u]).toArray 36 (0, 0)) ∧ True) mixed rfl (fun _ s => ⟨Frm.of s, s.block 0 (lb rfl) rfl, trivial⟩) ?_
                          refine TD.take (i := 0) rfl (by kernel_rfl) (by kernel_rfl) (by kernel_rfl) (fun _ _ _ _ h => h) (Want.plain rfl) rfl rfl (PV.move rfl rfl) ?_
                          refine TD.take (i := 1) rfl (by kernel_rfl) (by kernel_rfl) (by kernel_rfl) (fun _ _ _ _ h => h) (Want.plain rfl) rfl rfl (PV.fieldAddr (r := 1) rfl Try.underlying36 rfl sz3 rfl rfl) ?_
                          refine TD.take (i := 2) rfl (by kernel_rfl) (by kernel_rfl) (by kernel_rfl) (fun _ _ _ _ h => h) (Want.plain rfl) rfl rfl (PV.load1 (v := (.int .i64 (c.at'))) rfl Try.underlying3 rfl rfl (fun _ h => h.2.1) rfl) ?_
                          refine TD.take (i := 3) rfl (by kernel_rfl) (by kernel_rfl) (by kernel_rfl) (fun _ _ _ _ h => h) (Want.plain rfl) rfl rfl (PV.fieldAddr (r := 4) rfl Try.underlying36 rfl sz28 rfl rfl) ?_
                          refine TD.take (i := 4) rfl (by kernel_rfl) (by kernel_rfl) (by kernel_rfl) (fun _ _ _ _ h => h) (Want.plain rfl) rfl rfl (PV.load1 (v := u) rfl Try.underlying28 rfl rfl (fun _ h => h.2.1) rfl) ?_
                          refine TD.all [5] (by kernel_rfl) rfl ?_
                          refine AllT.cons rfl ?_ ?_
                          · skip
                            refine TL.callR (A := []) (B := [blkA b9 [(.int .i64 (c.kind)), (.int .i64 (c.at')), (.int .i64 (c.n)), (.int .i64 (c.mask)), u] 36, dk d (D), mapP m26 (kvS D.s), own wv (D.ws.length) (wflat D.ws) 39 65]) (Want.plain rfl) rfl rfl rfl nm20 rfl (pad_does u (c.data) (by omega)) (fun _ s => s) (fun g d _ => IsW.more hu d) (fun vR HR hR => ?_)
                            obtain ⟨rfl, rfl⟩ := hR
                            change TL _ _ _ _ _ _ _ _ _ [blkA b9 [(.int .i64 (c.kind)), (.int .i64 (c.at')), (.int .i64 (c.n)), (.int .i64 (c.mask)), u] 36, dk d (D), mapP m26 (kvS D.s), own wv (D.ws.length) (wflat D.ws) 39 65]
                            refine TL.nil ?_
                            refine TE.draw (fun _ s => ⟨Frm.of s, s.block 0 (lb rfl) rfl, trivial⟩) ?_
                            refine TD.take (i := 6) rfl (by kernel_rfl) (by kernel_rfl) (by kernel_rfl) (fun _ _ _ _ h => h) (Want.plain rfl) rfl rfl (PV.buildSegs (cs := wcell (c.at', padS c.data)) (segs := [[.int .i64 0], u8s zs]) (res := [[.int .i64 c.at'], u8s (padS c.data)]) (parts := [(0, [.int .i64 c.at']), (1, u8s (padS c.data))]) rfl rfl Try.underlying39 (by kernel_rfl) (by kernel_rfl) rfl (put_wcell (padS_len (by omega))) (by simp [wcell])) ?_
                            refine TD.all [7] (by kernel_rfl) rfl ?_
                            refine AllT.cons rfl ?_ ?_
                            · skip
                              refine TL.buildSlice (cells := (wcell (c.at', padS c.data)).toArray) (Want.plain rfl) rfl rfl rfl Try.underlying34 in39 rfl rfl rfl (fill_at (wcell_len (padS_len (by omega))) (by simp)) (fun b53 => ?_)
                              change TL _ _ _ _ _ _ _ _ _ [blkA b53 (wcell (c.at', padS c.data)) 39, blkA b9 [(.int .i64 (c.kind)), (.int .i64 (c.at')), (.int .i64 (c.n)), (.int .i64 (c.mask)), u] 36, dk d (D), mapP m26 (kvS D.s), own wv (D.ws.length) (wflat D.ws) 39 65]
                              refine TL.nil ?_
                              refine TE.draw (fun _ s => ⟨Frm.of s, s.block 1 (lb rfl) rfl, trivial⟩) ?_
                              refine TD.all [8] (by kernel_rfl) rfl ?_
                              refine AllT.cons rfl ?_ ?_
                              · skip
                                refine TL.append (k := 4) (news := wcell (c.at', padS c.data)) (nn' := (D.ws ++ [(c.at', padS c.data)]).length) (xs' := wflat (D.ws ++ [(c.at', padS c.data)])) (Want.plain rfl) rfl rfl rfl Try.underlying34 in39 rfl rfl rfl rfl rfl rfl (fun _ _ => Src.rd (wcell_len (padS_len (by omega))) (Rd.own 0 rfl rfl) (by rw [List.drop_zero, List.take_of_length_le (Nat.le_refl _)])) (wcell_one _) (by simp only [maxLen]; omega) (by omega) (by simp) (by simp [wflat]) (fun v54 ov54 => ?_)
                                change TL _ _ _ _ _ _ _ _ _ [blkA b53 (wcell (c.at', padS c.data)) 39, blkA b9 [(.int .i64 (c.kind)), (.int .i64 (c.at')), (.int .i64 (c.n)), (.int .i64 (c.mask)), u] 36, dk d (D), mapP m26 (kvS D.s), own v54 ((D.ws ++ [(c.at', padS c.data)]).length) (wflat (D.ws ++ [(c.at', padS c.data)])) 39 65]
                                refine TL.nil ?_
                                refine TE.draw (fun _ s => ⟨Frm.of s, s.block 1 (lb rfl) rfl, trivial⟩) ?_
                                refine TD.take (i := 9) rfl (by kernel_rfl) (by kernel_rfl) (by kernel_rfl) (fun _ _ _ _ h => h) (Want.plain rfl) rfl rfl (PV.assign rfl rfl) ?_
                                refine TD.done (by kernel_rfl) ?_
                                refine TE.blockEnd ?_
                                refine TE.next hK65 ?_
                                clear hK65
                                refine TC.seq (fun K75 hK75 => ?_)
                                refine TC.region ?_
                                refine TL.v (Want.plain rfl) rfl rfl (PV.move rfl rfl) ?_
                                refine TL.v (Want.plain rfl) rfl rfl (PV.fieldAddr (r := 1) rfl Try.underlying36 rfl sz3 rfl rfl) ?_
                                refine TL.v (Want.plain rfl) rfl rfl (PV.load1 (v := (.int .i64 (c.at'))) rfl Try.underlying3 rfl rfl (Rd.own 1 rfl rfl) rfl) ?_
                                refine TL.v (Want.plain rfl) rfl rfl (PV.fieldAddr (r := 4) rfl Try.underlying36 rfl sz28 rfl rfl) ?_
                                refine TL.v (Want.plain rfl) rfl rfl (PV.load1 (v := u) rfl Try.underlying28 rfl rfl (Rd.own 1 rfl rfl) rfl) ?_
                                refine TL.callR (A := [dk d (D)]) (B := [blkA b53 (wcell (c.at', padS c.data)) 39, blkA b9 [(.int .i64 (c.kind)), (.int .i64 (c.at')), (.int .i64 (c.n)), (.int .i64 (c.mask)), u] 36, mapP m26 (kvS D.s), own v54 ((D.ws ++ [(c.at', padS c.data)]).length) (wflat (D.ws ++ [(c.at', padS c.data)])) 39 65]) (Want.plain rfl) rfl rfl rfl nm15 rfl (dk_write d (D) c.at' u (c.data) hD (by omega)) (fun _ s => sep_selR [2] rfl s) (fun g d _ => IsW.more hu d) (fun vR HR hR => ?_)
                                obtain ⟨hv, rfl⟩ := hR
                                subst hv
                                rw [write_put (by omega) h71 h74]
                                change TL _ _ _ _ _ _ _ _ _ [dk d (D.put c.at' c.data), blkA b53 (wcell (c.at', padS c.data)) 39, blkA b9 [(.int .i64 (c.kind)), (.int .i64 (c.at')), (.int .i64 (c.n)), (.int .i64 (c.mask)), u] 36, mapP m26 (kvS D.s), own v54 ((D.ws ++ [(c.at', padS c.data)]).length) (wflat (D.ws ++ [(c.at', padS c.data)])) 39 65]
                                refine TL.v (Want.plain rfl) rfl rfl (PV.move rfl rfl) ?_
                                refine TL.v (Want.plain rfl) rfl rfl (PV.neq rfl rfl rfl) ?_
                                refine TL.nil ?_
                                refine TE.next hK75 ?_
                                clear hK75
                                refine TC.no rfl ?_
                                refine TC.skip ?_
                                refine TE.blockEnd ?_
                                have h6 : (leftD D) - 1 = leftD (D.put c.at' c.data) := left_pos h43
                                have h7 : (D.dn) = (D.put c.at' c.data).dn := h71
                                exact TE.weak
                                  (Sub.r (Sub.r (Sub.r (Sub.cons rfl (congrArg (Value.int .i64) h6) (Sub.cons rfl (congrArg Value.bool h7) (Sub.r (Sub.r (Sub.r (Sub.r (Sub.nil _))))))))))
                                  (fun _ s => sep_keep [4, 0, 2, 1] rfl s)
                                  (tl20 ((D.put c.at' c.data, v54) : (DS) × (Value)) ⟨(put_ok hD (by omega) h71 h74), (by show (D.ws ++ [(c.at', padS c.data)]).length ≤ k + 1; rw [List.length_append]; show D.ws.length + 1 ≤ k + 1; omega)⟩)
                              exact AllT.nil
                            exact AllT.nil
                          exact AllT.nil
                        · skip
                          refine TL.nil ?_
                          refine TE.next hK74 ?_
                          clear hK74
                          refine TC.no rfl ?_
                          refine TC.skip ?_
                          refine TE.next hK73 ?_
                          clear hK73
                          refine TC.draw (fun w => Frm F w ∧ w.heap[b9]? = some (.cells ([(.int .i64 (c.kind)), (.int .i64 (c.at')), (.int .i64 (c.n)), (.int .i64 (c.mask)), u]).toArray 36 (0, 0)) ∧ True) mixed rfl (fun _ s => ⟨Frm.of s, s.block 0 (lb rfl) rfl, trivial⟩) ?_
                          refine TD.take (i := 0) rfl (by kernel_rfl) (by kernel_rfl) (by kernel_rfl) (fun _ _ _ _ h => h) (Want.plain rfl) rfl rfl (PV.move rfl rfl) ?_
                          refine TD.take (i := 1) rfl (by kernel_rfl) (by kernel_rfl) (by kernel_rfl) (fun _ _ _ _ h => h) (Want.plain rfl) rfl rfl (PV.fieldAddr (r := 1) rfl Try.underlying36 rfl sz3 rfl rfl) ?_
                          refine TD.take (i := 2) rfl (by kernel_rfl) (by kernel_rfl) (by kernel_rfl) (fun _ _ _ _ h => h) (Want.plain rfl) rfl rfl (PV.load1 (v := (.int .i64 (c.at'))) rfl Try.underlying3 rfl rfl (fun _ h => h.2.1) rfl) ?_
                          refine TD.take (i := 3) rfl (by kernel_rfl) (by kernel_rfl) (by kernel_rfl) (fun _ _ _ _ h => h) (Want.plain rfl) rfl rfl (PV.fieldAddr (r := 4) rfl Try.underlying36 rfl sz28 rfl rfl) ?_
                          refine TD.take (i := 4) rfl (by kernel_rfl) (by kernel_rfl) (by kernel_rfl) (fun _ _ _ _ h => h) (Want.plain rfl) rfl rfl (PV.load1 (v := u) rfl Try.underlying28 rfl rfl (fun _ h => h.2.1) rfl) ?_
                          refine TD.all [5] (by kernel_rfl) rfl ?_
                          refine AllT.cons rfl ?_ ?_
                          · skip
                            refine TL.callR (A := []) (B := [blkA b9 [(.int .i64 (c.kind)), (.int .i64 (c.at')), (.int .i64 (c.n)), (.int .i64 (c.mask)), u] 36, dk d (D), mapP m26 (kvS D.s), own wv (D.ws.length) (wflat D.ws) 39 65]) (Want.plain rfl) rfl rfl rfl nm20 rfl (pad_does u (c.data) (by omega)) (fun _ s => s) (fun g d _ => IsW.more hu d) (fun vR HR hR => ?_)
                            obtain ⟨rfl, rfl⟩ := hR
                            change TL _ _ _ _ _ _ _ _ _ [blkA b9 [(.int .i64 (c.kind)), (.int .i64 (c.at')), (.int .i64 (c.n)), (.int .i64 (c.mask)), u] 36, dk d (D), mapP m26 (kvS D.s), own wv (D.ws.length) (wflat D.ws) 39 65]
                            refine TL.nil ?_
                            refine TE.draw (fun _ s => ⟨Frm.of s, s.block 0 (lb rfl) rfl, trivial⟩) ?_
                            refine TD.take (i := 6) rfl (by kernel_rfl) (by kernel_rfl) (by kernel_rfl) (fun _ _ _ _ h => h) (Want.plain rfl) rfl rfl (PV.buildSegs (cs := wcell (c.at', padS c.data)) (segs := [[.int .i64 0], u8s zs]) (res := [[.int .i64 c.at'], u8s (padS c.data)]) (parts := [(0, [.int .i64 c.at']), (1, u8s (padS c.data))]) rfl rfl Try.underlying39 (by kernel_rfl) (by kernel_rfl) rfl (put_wcell (padS_len (by omega))) (by simp [wcell])) ?_
                            refine TD.all [7] (by kernel_rfl) rfl ?_
                            refine AllT.cons rfl ?_ ?_
                            · skip
                              refine TL.buildSlice (cells := (wcell (c.at', padS c.data)).toArray) (Want.plain rfl) rfl rfl rfl Try.underlying34 in39 rfl rfl rfl (fill_at (wcell_len (padS_len (by omega))) (by simp)) (fun b53 => ?_)
                              change TL _ _ _ _ _ _ _ _ _ [blkA b53 (wcell (c.at', padS c.data)) 39, blkA b9 [(.int .i64 (c.kind)), (.int .i64 (c.at')), (.int .i64 (c.n)), (.int .i64 (c.mask)), u] 36, dk d (D), mapP m26 (kvS D.s), own wv (D.ws.length) (wflat D.ws) 39 65]
                              refine TL.nil ?_
                              refine TE.draw (fun _ s => ⟨Frm.of s, s.block 1 (lb rfl) rfl, trivial⟩) ?_
                              refine TD.all [8] (by kernel_rfl) rfl ?_
                              refine AllT.cons rfl ?_ ?_
                              · skip
                                refine TL.append (k := 4) (news := wcell (c.at', padS c.data)) (nn' := (D.ws ++ [(c.at', padS c.data)]).length) (xs' := wflat (D.ws ++ [(c.at', padS c.data)])) (Want.plain rfl) rfl rfl rfl Try.underlying34 in39 rfl rfl rfl rfl rfl rfl (fun _ _ => Src.rd (wcell_len (padS_len (by omega))) (Rd.own 0 rfl rfl) (by rw [List.drop_zero, List.take_of_length_le (Nat.le_refl _)])) (wcell_one _) (by simp only [maxLen]; omega) (by omega) (by simp) (by simp [wflat]) (fun v54 ov54 => ?_)
                                change TL _ _ _ _ _ _ _ _ _ [blkA b53 (wcell (c.at', padS c.data)) 39, blkA b9 [(.int .i64 (c.kind)), (.int .i64 (c.at')), (.int .i64 (c.n)), (.int .i64 (c.mask)), u] 36, dk d (D), mapP m26 (kvS D.s), own v54 ((D.ws ++ [(c.at', padS c.data)]).length) (wflat (D.ws ++ [(c.at', padS c.data)])) 39 65]
                                refine TL.nil ?_
                                refine TE.draw (fun _ s => ⟨Frm.of s, s.block 1 (lb rfl) rfl, trivial⟩) ?_
                                refine TD.take (i := 9) rfl (by kernel_rfl) (by kernel_rfl) (by kernel_rfl) (fun _ _ _ _ h => h) (Want.plain rfl) rfl rfl (PV.assign rfl rfl) ?_
                                refine TD.done (by kernel_rfl) ?_
                                refine TE.blockEnd ?_
                                refine TE.next hK65 ?_
                                clear hK65
                                refine TC.seq (fun K76 hK76 => ?_)
                                refine TC.region ?_
                                refine TL.v (Want.plain rfl) rfl rfl (PV.move rfl rfl) ?_
                                refine TL.v (Want.plain rfl) rfl rfl (PV.fieldAddr (r := 1) rfl Try.underlying36 rfl sz3 rfl rfl) ?_
                                refine TL.v (Want.plain rfl) rfl rfl (PV.load1 (v := (.int .i64 (c.at'))) rfl Try.underlying3 rfl rfl (Rd.own 1 rfl rfl) rfl) ?_
                                refine TL.v (Want.plain rfl) rfl rfl (PV.fieldAddr (r := 4) rfl Try.underlying36 rfl sz28 rfl rfl) ?_
                                refine TL.v (Want.plain rfl) rfl rfl (PV.load1 (v := u) rfl Try.underlying28 rfl rfl (Rd.own 1 rfl rfl) rfl) ?_
                                refine TL.callR (A := [dk d (D)]) (B := [blkA b53 (wcell (c.at', padS c.data)) 39, blkA b9 [(.int .i64 (c.kind)), (.int .i64 (c.at')), (.int .i64 (c.n)), (.int .i64 (c.mask)), u] 36, mapP m26 (kvS D.s), own v54 ((D.ws ++ [(c.at', padS c.data)]).length) (wflat (D.ws ++ [(c.at', padS c.data)])) 39 65]) (Want.plain rfl) rfl rfl rfl nm15 rfl (dk_write d (D) c.at' u (c.data) hD (by omega)) (fun _ s => sep_selR [2] rfl s) (fun g d _ => IsW.more hu d) (fun vR HR hR => ?_)
                                obtain ⟨hv, rfl⟩ := hR
                                subst hv
                                rw [write_put (by omega) h71 h74]
                                change TL _ _ _ _ _ _ _ _ _ [dk d (D.put c.at' c.data), blkA b53 (wcell (c.at', padS c.data)) 39, blkA b9 [(.int .i64 (c.kind)), (.int .i64 (c.at')), (.int .i64 (c.n)), (.int .i64 (c.mask)), u] 36, mapP m26 (kvS D.s), own v54 ((D.ws ++ [(c.at', padS c.data)]).length) (wflat (D.ws ++ [(c.at', padS c.data)])) 39 65]
                                refine TL.v (Want.plain rfl) rfl rfl (PV.move rfl rfl) ?_
                                refine TL.v (Want.plain rfl) rfl rfl (PV.neq rfl rfl rfl) ?_
                                refine TL.nil ?_
                                refine TE.next hK76 ?_
                                clear hK76
                                refine TC.no rfl ?_
                                refine TC.skip ?_
                                refine TE.blockEnd ?_
                                have h6 : leftD D = leftD (D.put c.at' c.data) := left_neg' hD h43 h74
                                have h7 : (D.dn) = (D.put c.at' c.data).dn := h71
                                exact TE.weak
                                  (Sub.r (Sub.r (Sub.r (Sub.cons rfl (congrArg (Value.int .i64) h6) (Sub.cons rfl (congrArg Value.bool h7) (Sub.r (Sub.r (Sub.r (Sub.r (Sub.nil _))))))))))
                                  (fun _ s => sep_keep [4, 0, 2, 1] rfl s)
                                  (tl20 ((D.put c.at' c.data, v54) : (DS) × (Value)) ⟨(put_ok hD (by omega) h71 h74), (by show (D.ws ++ [(c.at', padS c.data)]).length ≤ k + 1; rw [List.length_append]; show D.ws.length + 1 ≤ k + 1; omega)⟩)
                              exact AllT.nil
                            exact AllT.nil
                          exact AllT.nil
    · skip
      refine TL.nil ?_
      refine TE.next hK13 ?_
      clear hK13
      refine TC.seq (fun K77 hK77 => ?_)
      refine TC.no rfl ?_
      refine TC.exit ?_
      refine TE.pass ?_
      clear hK77
      refine TE.pass ?_
      refine TE.hit ?_
      refine TE.next hK11 ?_
      clear hK11
      refine TC.seq (fun K78 hK78 => ?_)
      refine TC.region ?_
      refine TL.v (Want.plain rfl) rfl rfl (PV.assign rfl rfl) ?_
      refine TL.nil ?_
      refine TE.next hK78 ?_
      clear hK78
      refine TC.ret ?_
      refine TE.weak (Sub.refl _) (fun _ s => sep_keep [] rfl s) ?_
      refine TE.ret1 rfl rfl ?_
      exact ⟨rfl, rfl⟩


end Go.Proofs.Ytocdameafihnaaa
