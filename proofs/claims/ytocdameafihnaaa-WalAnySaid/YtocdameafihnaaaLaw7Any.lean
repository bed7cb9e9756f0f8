/-
  Of any disk the log has records, and they stay when it is opened again: walked.
-/

import Derived.Test.YtocdameafihnaaaLaw7A

namespace Go.Proofs.Ytocdameafihnaaa

open Go Leg Codec Api Dsk Wal

set_option maxRecDepth 100000

theorem walAny_does (x y : Value) (la : List Int) (l : List (List UInt8)) :
    Does Try.prog 6 #[x, y] (fun F => IsI .i64 x la F ∧ IsBB y l F) [] (Ret (fun v H => v = .bool true ∧ H = [])) := by
  refine Does.body (vs := [x, y]) (n := 79) Try.func6 rfl rfl rfl (fun w0 F hF => ?_)
  refine TC.seq (fun K1 hK1 => ?_)
  refine TC.region ?_
  refine TL.v (Want.plain rfl) rfl rfl (PV.assign rfl rfl) ?_
  refine TL.nil ?_
  refine TE.next hK1 ?_
  clear hK1
  refine TC.seq (fun K2 hK2 => ?_)
  refine TC.seq (fun K3 hK3 => ?_)
  refine TC.region ?_
  refine TL.callR (A := []) (B := []) (Want.plain rfl) rfl rfl rfl nm23 rfl (fit7_does ) (fun _ s => s) (fun _ _ _ => trivial) (fun vR HR hR => ?_)
  obtain ⟨rfl, rfl⟩ := hR
  change TL _ _ _ _ _ _ _ _ _ []
  refine TL.v (Want.plain rfl) rfl rfl (PV.not (r := false) rfl rfl rfl) ?_
  refine TL.nil ?_
  refine TE.next hK3 ?_
  clear hK3
  refine TC.no rfl ?_
  refine TC.skip ?_
  refine TE.next hK2 ?_
  clear hK2
  refine TC.seq (fun K4 hK4 => ?_)
  refine TC.seq (fun K5 hK5 => ?_)
  refine TC.region ?_
  refine TL.v (Want.plain rfl) rfl rfl (PV.move rfl rfl) ?_
  refine TL.v (Want.plain rfl) rfl rfl (PV.lenV rfl Try.underlying47 rfl hF.1.len) ?_
  refine TL.v (Want.plain rfl) rfl rfl (PV.gtr rfl rfl rfl) ?_
  refine TL.dec (fun h19 => ?_) (fun h19 => ?_)
  · skip
    refine TL.v (Want.plain rfl) rfl rfl (PV.move rfl rfl) ?_
    refine TL.unmet (b := true) rfl rfl rfl rfl (lb rfl) ?_
    refine TL.unmet (b := true) rfl rfl rfl rfl (lb rfl) ?_
    refine TL.unmet (b := true) rfl rfl rfl rfl (lb rfl) ?_
    refine TL.unmet (b := true) rfl rfl rfl rfl (lb rfl) ?_
    refine TL.unmet (b := true) rfl rfl rfl rfl (lb rfl) ?_
    refine TL.v (Want.plain rfl) rfl rfl (PV.pick rfl rfl rfl) ?_
    refine TL.v (Want.plain rfl) rfl rfl (PV.move rfl rfl) ?_
    refine TL.unmet (b := true) rfl rfl rfl rfl (lb rfl) ?_
    refine TL.unmet (b := true) rfl rfl rfl rfl (lb rfl) ?_
    refine TL.unmet (b := true) rfl rfl rfl rfl (lb rfl) ?_
    refine TL.v (Want.plain rfl) rfl rfl (PV.pick rfl rfl rfl) ?_
    refine TL.nil ?_
    refine TE.next hK5 ?_
    clear hK5
    refine TC.yes rfl ?_
    refine TC.seq (fun K6 hK6 => ?_)
    refine TC.region ?_
    refine TL.v (Want.plain rfl) rfl rfl (PV.assign rfl rfl) ?_
    refine TL.nil ?_
    refine TE.next hK6 ?_
    clear hK6
    refine TC.ret ?_
    refine TE.passRet ?_
    clear hK4
    refine TE.weak (Sub.refl _) (fun _ s => sep_keep [] rfl s) ?_
    refine TE.ret1 rfl rfl ?_
    first | exact ⟨rfl, rfl⟩ | exact ⟨congrArg Value.bool (decide_eq_true rfl), rfl⟩
  · skip
    refine TL.v (Want.plain rfl) rfl rfl (PV.move rfl rfl) ?_
    refine TL.v (Want.met rfl rfl rfl) rfl rfl (PV.move rfl rfl) ?_
    refine TL.v (Want.met rfl rfl rfl) rfl rfl (PV.lenV rfl Try.underlying44 rfl hF.2.len) ?_
    refine TL.v (Want.met rfl rfl rfl) rfl rfl (PV.move rfl rfl) ?_
    refine TL.v (Want.met rfl rfl rfl) rfl rfl (PV.lenV rfl Try.underlying47 rfl hF.1.len) ?_
    refine TL.v (Want.met rfl rfl rfl) rfl rfl (PV.lss rfl rfl rfl) ?_
    refine TL.dec (fun h25 => ?_) (fun h25 => ?_)
    · skip
      refine TL.v (Want.plain rfl) rfl rfl (PV.pick rfl rfl rfl) ?_
      refine TL.v (Want.plain rfl) rfl rfl (PV.move rfl rfl) ?_
      refine TL.unmet (b := true) rfl rfl rfl rfl (lb rfl) ?_
      refine TL.unmet (b := true) rfl rfl rfl rfl (lb rfl) ?_
      refine TL.unmet (b := true) rfl rfl rfl rfl (lb rfl) ?_
      refine TL.v (Want.plain rfl) rfl rfl (PV.pick rfl rfl rfl) ?_
      refine TL.nil ?_
      refine TE.next hK5 ?_
      clear hK5
      refine TC.yes rfl ?_
      refine TC.seq (fun K7 hK7 => ?_)
      refine TC.region ?_
      refine TL.v (Want.plain rfl) rfl rfl (PV.assign rfl rfl) ?_
      refine TL.nil ?_
      refine TE.next hK7 ?_
      clear hK7
      refine TC.ret ?_
      refine TE.passRet ?_
      clear hK4
      refine TE.weak (Sub.refl _) (fun _ s => sep_keep [] rfl s) ?_
      refine TE.ret1 rfl rfl ?_
      first | exact ⟨rfl, rfl⟩ | exact ⟨congrArg Value.bool (decide_eq_true rfl), rfl⟩
    · skip
      refine TL.v (Want.plain rfl) rfl rfl (PV.pick rfl rfl rfl) ?_
      refine TL.v (Want.plain rfl) rfl rfl (PV.move rfl rfl) ?_
      refine TL.v (Want.met rfl rfl rfl) rfl rfl (PV.move rfl rfl) ?_
      refine TL.callR (A := []) (B := []) (Want.met rfl rfl rfl) rfl rfl rfl nm24 rfl (few_does y l) (fun _ s => s) (fun g d _ => IsL.more EB.more hF.2 d) (fun vR HR hR => ?_)
      obtain ⟨bf, rfl, hbf, rfl⟩ := hR
      change TL _ _ _ _ _ _ _ _ _ []
      refine TL.decB (fun h29 => ?_) (fun h29 => ?_)
      · skip
        refine TL.v (Want.met rfl rfl rfl) rfl rfl (PV.not (r := false) rfl rfl rfl) ?_
        refine TL.v (Want.plain rfl) rfl rfl (PV.pick rfl rfl rfl) ?_
        refine TL.nil ?_
        refine TE.next hK5 ?_
        clear hK5
        refine TC.no rfl ?_
        refine TC.skip ?_
        refine TE.next hK4 ?_
        clear hK4
        refine TC.seq (fun K8 hK8 => ?_)
        refine TC.region ?_
        refine TL.callR (A := []) (B := []) (Want.plain rfl) rfl rfl rfl nm13 rfl (dk_new) (fun _ s => s) (fun _ _ _ => trivial) (fun vR HR hR => ?_)
        obtain ⟨d, rfl, rfl⟩ := hR
        change TL _ _ _ _ _ _ _ _ _ [dk d (DS.new)]
        refine TL.v (Want.plain rfl) rfl rfl (PV.assign rfl rfl) ?_
        refine TL.nil ?_
        refine TE.next hK8 ?_
        clear hK8
        refine TC.seq (fun K9 hK9 => ?_)
        refine TC.seq (fun K10 hK10 => ?_)
        refine TC.region ?_
        refine TL.v (Want.plain rfl) rfl rfl (PV.move rfl rfl) ?_
        refine TL.v (Want.plain rfl) rfl rfl (PV.lenV rfl Try.underlying47 rfl hF.1.len) ?_
        refine TL.v (Want.plain rfl) rfl rfl (PV.move rfl rfl) ?_
        refine TL.nil ?_
        refine TE.next hK10 ?_
        clear hK10
        refine TC.block ?_
        refine TC.loop (α := (Nat) × (DS)) (fun ⟨k, D⟩ => k ≤ la.length ∧ Wal.Calm D ∧ D.ws.length ≤ k) (fun ⟨k, D⟩ => [(1, y), (4, (.bool false)), (5, (.pointer (some ⟨d, 0, none⟩))), (33, x), (34, (.int .i64 (((la.length : Nat) : Int)))), (35, (.int .i64 (((k : Nat) : Int))))]) (fun ⟨k, D⟩ => [dk d (D)]) (fun ⟨k, D⟩ => la.length - k) (0, DS.new)
            ⟨Nat.zero_le _, Wal.Calm.new, Nat.le_refl _⟩ (Sub.r (Sub.r (Sub.r (Sub.r (Sub.r (Sub.cons rfl (by congr 1) (Sub.nil _)))))))
            (fun _ s => s) (fun ⟨k, D⟩ hinv => ?_)
        obtain ⟨hk, hcal, hws⟩ := hinv
        refine TC.seq (fun K11 hK11 => ?_)
        refine TC.region ?_
        refine TL.v (Want.plain rfl) rfl rfl (PV.lss rfl rfl rfl) ?_
        refine TL.dec (fun h36 => ?_) (fun h36 => ?_)
        · skip
          obtain ⟨b_a, off_a, cap_a, cs_a, T_a, z_a, hv_a, hb_a, hcs_a, hcp_a⟩ := IsI.at hF.1 (j := k) (by omega)
          obtain ⟨b_b, off_b, cap_b, cs_b, T_b, z_b, us_b, hv_b, hc_b, hb_b, hl_b, hs_b, hE_b⟩ := IsL.at hF.2 (j := k) (by omega)
          obtain ⟨u_b, rfl, hu_b⟩ := hE_b
          obtain ⟨q, hq, hq2⟩ : ∃ q : Nat, andI .i64 (la.getD k 0) 15 = ((q : Nat) : Int) ∧ q < 16 := ⟨((la.getD k 0) % 16).toNat, by rw [show andI .i64 (la.getD k 0) 15 = (la.getD k 0) % 16 from mask (k := 4) (by decide) _]; omega, by omega⟩
          have hcu := hu_b.cut0 (hi := min l[k].length 64) (by omega)
          refine TL.nil ?_
          refine TE.next hK11 ?_
          clear hK11
          refine TC.seq (fun K12 hK12 => ?_)
          refine TC.yes rfl ?_
          refine TC.skip ?_
          refine TE.next hK12 ?_
          clear hK12
          refine TC.seq (fun K13 hK13 => ?_)
          refine TC.block ?_
          refine TC.seq (fun K14 hK14 => ?_)
          refine TC.region ?_
          refine TL.v (Want.plain rfl) rfl rfl (PV.move rfl rfl) ?_
          refine TL.v (Want.plain rfl) rfl rfl (PV.indexSlV (r := off_a + k) hv_a rfl Try.underlying47 sz3 rfl rfl (by omega) (by omega) (by omega)) ?_
          refine TL.v (Want.plain rfl) rfl rfl (PV.load1X (v := (.int .i64 ((la.getD k 0)))) rfl Try.underlying3 rfl rfl (RdX.frm hb_a (fun _ h => Frm.of h)) hcs_a) ?_
          refine TL.v (Want.plain rfl) rfl rfl (PV.assign rfl rfl) ?_
          refine TL.v (Want.plain rfl) rfl rfl (PV.assign rfl rfl) ?_
          refine TL.nil ?_
          refine TE.next hK14 ?_
          clear hK14
          refine TC.seq (fun K15 hK15 => ?_)
          refine TC.region ?_
          refine TL.v (Want.plain rfl) rfl rfl (PV.move rfl rfl) ?_
          refine TL.v (Want.plain rfl) rfl rfl (PV.move rfl rfl) ?_
          refine TL.v (Want.plain rfl) rfl rfl (PV.indexSlV (r := off_b + k) hv_b rfl Try.underlying44 sz28 rfl rfl (by omega) (by omega) (by omega)) ?_
          refine TL.v (Want.plain rfl) rfl rfl (PV.load1X (v := u_b) rfl Try.underlying28 rfl rfl (RdX.frm hb_b (fun _ h => Frm.of h)) (by have := stretch_get (j := 0) hs_b rfl; simpa using this)) ?_
          refine TL.v (Want.plain rfl) rfl rfl (PV.assign rfl rfl) ?_
          refine TL.nil ?_
          refine TE.next hK15 ?_
          clear hK15
          refine TC.region ?_
          refine TL.v (Want.plain rfl) rfl rfl (PV.move rfl rfl) ?_
          refine TL.v (Want.plain rfl) rfl rfl (PV.move rfl rfl) ?_
          refine TL.v (Want.plain rfl) rfl rfl (PV.and (r := ((q : Nat) : Int)) rfl rfl rfl hq) ?_
          refine TL.v (Want.plain rfl) rfl rfl (PV.move rfl rfl) ?_
          refine TL.v (Want.plain rfl) rfl rfl (PV.move rfl rfl) ?_
          refine TL.v (Want.plain rfl) rfl rfl (PV.lenV rfl Try.underlying28 rfl hu_b.len) ?_
          refine TL.v (Want.plain rfl) rfl rfl (PV.minI rfl rfl rfl) ?_
          refine TL.v (Want.plain rfl) rfl rfl (PV.sliceHW (hi := min l[k].length 64) hu_b rfl Try.underlying28 sz5 rfl rfl (by omega) (by omega)) ?_
          refine TL.callR (A := [dk d (D)]) (B := []) (Want.plain rfl) rfl rfl rfl nm15 rfl (dk_write d (D) ((q : Nat) : Int) (cutLH u_b 0 (min l[k].length 64)) ((l[k].take (min l[k].length 64))) hcal.ok (by omega)) (fun _ s => s) (fun g d _ => IsW.more hcu d) (fun vR HR hR => ?_)
          obtain ⟨hv, rfl⟩ := hR
          subst hv
          rw [write_putD (D := D) (at' := ((q : Nat) : Int)) (bs := (l[k].take (min l[k].length 64))) (by omega) (by rw [List.length_take]; omega) hcal.dn (.inl hcal.ar)]
          change TL _ _ _ _ _ _ _ _ _ [dk d (putD D ((q : Nat) : Int) (l[k].take (min l[k].length 64)))]
          refine TL.nil ?_
          refine TE.blockEnd ?_
          refine TE.next hK13 ?_
          clear hK13
          refine TC.region ?_
          refine TL.v (Want.plain rfl) rfl rfl (PV.add rfl rfl rfl (wrap_i64 (by omega) (by omega))) ?_
          refine TL.v (Want.plain rfl) rfl rfl (PV.move rfl rfl) ?_
          refine TL.nil ?_
          exact TE.round ((k + 1, putD D ((q : Nat) : Int) (l[k].take (min l[k].length 64))) : (Nat) × (DS)) ⟨by omega, hcal.put (by omega) (by rw [List.length_take]; omega), by show (D.ws ++ [_]).length ≤ k + 1; rw [List.length_append]; show D.ws.length + 1 ≤ k + 1; omega⟩ (by show la.length - (k + 1) < la.length - k; omega)
            (Sub.r (Sub.r (Sub.r (Sub.r (Sub.r (Sub.cons rfl (by simp) (Sub.nil _)))))))
            (fun _ s => s)
        · skip
          refine TL.nil ?_
          refine TE.next hK11 ?_
          clear hK11
          refine TC.seq (fun K16 hK16 => ?_)
          refine TC.no rfl ?_
          refine TC.exit ?_
          refine TE.pass ?_
          clear hK16
          refine TE.pass ?_
          refine TE.hit ?_
          refine TE.next hK9 ?_
          clear hK9
          refine TC.seq (fun K17 hK17 => ?_)
          refine TC.region ?_
          refine TL.v (Want.plain rfl) rfl rfl (PV.move rfl rfl) ?_
          refine TL.callR (A := [dk d (D)]) (B := []) (Want.plain rfl) rfl rfl rfl nm17 rfl (dk_sync d (D)  hcal.ok) (fun _ s => s) (fun _ _ _ => trivial) (fun vR HR hR => ?_)
          obtain ⟨hv, rfl⟩ := hR
          subst hv
          rw [show (D).sync = (0, (D).sync.2) from Prod.ext (sync_zero hcal.dn).1 rfl]
          change TL _ _ _ _ _ _ _ _ _ [dk d ((D).sync.2)]
          refine TL.nil ?_
          refine TE.next hK17 ?_
          clear hK17
          refine TC.seq (fun K18 hK18 => ?_)
          refine TC.region ?_
          refine TL.v (Want.plain rfl) rfl rfl (PV.move rfl rfl) ?_
          obtain ⟨D1, he1, hc1, hw1, hs1⟩ := open_twice hcal.sync
          obtain ⟨rs, used, hrs⟩ : ∃ rs used, scanP D.sync.2.read fuel0 0 0 = (rs, used) := ⟨_, _, rfl⟩
          rw [hrs] at he1 hs1
          refine TL.callR (A := [dk d ((D).sync.2)]) (B := []) (Want.plain rfl) rfl rfl rfl nm25 rfl (openEq_does d ((D).sync.2) D1 (rs) used hcal.sync.ok hcal.sync.inn (by rw [(sync_zero hcal.dn).2.1]; simp) he1) (fun _ s => s) (fun _ _ _ => trivial) (fun vR HR hR => ?_)
          obtain ⟨lg1, vr1, rfl, rfl⟩ := hR
          change TL _ _ _ _ _ _ _ _ _ [blkA lg1 [(.pointer (some ⟨d, 0, none⟩)), (.int .i64 ((((rs).length : Nat) : Int))), (.int .i64 (used))] 71, recsP 28 5 vr1 (rs), dk d (D1)]
          refine TL.recsLen 1 rfl rfl (fun hvl1 hvo1 => ?_)
          refine TL.v (Want.plain rfl) rfl rfl (PV.move rfl rfl) ?_
          refine TL.v (Want.plain rfl) rfl rfl (PV.extract (vs := [(.pointer (some ⟨lg1, 0, none⟩)), vr1, (.int .i64 0)]) rfl rfl rfl) ?_
          refine TL.v (Want.plain rfl) rfl rfl (PV.extract (vs := [(.pointer (some ⟨lg1, 0, none⟩)), vr1, (.int .i64 0)]) rfl rfl rfl) ?_
          refine TL.v (Want.plain rfl) rfl rfl (PV.extract (vs := [(.pointer (some ⟨lg1, 0, none⟩)), vr1, (.int .i64 0)]) rfl rfl rfl) ?_
          refine TL.v (Want.plain rfl) rfl rfl (PV.assign rfl rfl) ?_
          refine TL.v (Want.plain rfl) rfl rfl (PV.assign rfl rfl) ?_
          refine TL.v (Want.plain rfl) rfl rfl (PV.assign rfl rfl) ?_
          refine TL.nil ?_
          refine TE.next hK18 ?_
          clear hK18
          refine TC.seq (fun K19 hK19 => ?_)
          refine TC.region ?_
          refine TL.v (Want.plain rfl) rfl rfl (PV.move rfl rfl) ?_
          obtain ⟨D2, he2, hc2, hw2, hs2⟩ := open_twice hc1
          rw [hs1] at he2
          refine TL.callR (A := [dk d (D1)]) (B := [blkA lg1 [(.pointer (some ⟨d, 0, none⟩)), (.int .i64 ((((rs).length : Nat) : Int))), (.int .i64 (used))] 71, recsP 28 5 vr1 (rs)]) (Want.plain rfl) rfl rfl rfl nm25 rfl (openEq_does d (D1) D2 (rs) used hc1.ok hc1.inn (by rw [hw1]; simp) he2) (fun _ s => sep_selR [2] rfl s) (fun _ _ _ => trivial) (fun vR HR hR => ?_)
          obtain ⟨lg2, vr2, rfl, rfl⟩ := hR
          change TL _ _ _ _ _ _ _ _ _ [blkA lg2 [(.pointer (some ⟨d, 0, none⟩)), (.int .i64 ((((rs).length : Nat) : Int))), (.int .i64 (used))] 71, recsP 28 5 vr2 (rs), dk d (D2), blkA lg1 [(.pointer (some ⟨d, 0, none⟩)), (.int .i64 ((((rs).length : Nat) : Int))), (.int .i64 (used))] 71, recsP 28 5 vr1 (rs)]
          refine TL.recsLen 1 rfl rfl (fun hvl2 hvo2 => ?_)
          refine TL.v (Want.plain rfl) rfl rfl (PV.move rfl rfl) ?_
          refine TL.v (Want.plain rfl) rfl rfl (PV.extract (vs := [(.pointer (some ⟨lg2, 0, none⟩)), vr2, (.int .i64 0)]) rfl rfl rfl) ?_
          refine TL.v (Want.plain rfl) rfl rfl (PV.extract (vs := [(.pointer (some ⟨lg2, 0, none⟩)), vr2, (.int .i64 0)]) rfl rfl rfl) ?_
          refine TL.v (Want.plain rfl) rfl rfl (PV.extract (vs := [(.pointer (some ⟨lg2, 0, none⟩)), vr2, (.int .i64 0)]) rfl rfl rfl) ?_
          refine TL.v (Want.plain rfl) rfl rfl (PV.assign rfl rfl) ?_
          refine TL.v (Want.plain rfl) rfl rfl (PV.assign rfl rfl) ?_
          refine TL.v (Want.plain rfl) rfl rfl (PV.assign rfl rfl) ?_
          refine TL.nil ?_
          refine TE.next hK19 ?_
          clear hK19
          refine TC.seq (fun K20 hK20 => ?_)
          refine TC.region ?_
          refine TL.v (Want.plain rfl) rfl rfl (PV.move rfl rfl) ?_
          refine TL.v (Want.plain rfl) rfl rfl (PV.eql rfl rfl rfl) ?_
          refine TL.v (Want.plain rfl) rfl rfl (PV.move rfl rfl) ?_
          refine TL.v (Want.met rfl rfl rfl) rfl rfl (PV.move rfl rfl) ?_
          refine TL.v (Want.met rfl rfl rfl) rfl rfl (PV.eql rfl rfl rfl) ?_
          refine TL.v (Want.plain rfl) rfl rfl (PV.pick rfl rfl rfl) ?_
          refine TL.v (Want.plain rfl) rfl rfl (PV.move rfl rfl) ?_
          refine TL.v (Want.met rfl rfl rfl) rfl rfl (PV.move rfl rfl) ?_
          refine TL.v (Want.met rfl rfl rfl) rfl rfl (PV.move rfl rfl) ?_
          refine TL.callR (A := []) (B := [blkA lg2 [(.pointer (some ⟨d, 0, none⟩)), (.int .i64 ((((rs).length : Nat) : Int))), (.int .i64 (used))] 71, recsP 28 5 vr2 (rs), dk d (D2), blkA lg1 [(.pointer (some ⟨d, 0, none⟩)), (.int .i64 ((((rs).length : Nat) : Int))), (.int .i64 (used))] 71, recsP 28 5 vr1 (rs)]) (Want.met rfl rfl rfl) rfl rfl rfl nm26 rfl (same_does vr1 vr2 (rs) (rs)) (fun _ s => s) (fun g d s => ⟨isBB_recs 4 rfl rfl g d s, isBB_recs 1 rfl rfl g d s⟩) (fun vR HR hR => ?_)
          obtain ⟨rfl, rfl⟩ := hR
          change TL _ _ _ _ _ _ _ _ _ [blkA lg2 [(.pointer (some ⟨d, 0, none⟩)), (.int .i64 ((((rs).length : Nat) : Int))), (.int .i64 (used))] 71, recsP 28 5 vr2 (rs), dk d (D2), blkA lg1 [(.pointer (some ⟨d, 0, none⟩)), (.int .i64 ((((rs).length : Nat) : Int))), (.int .i64 (used))] 71, recsP 28 5 vr1 (rs)]
          refine TL.v (Want.plain rfl) rfl rfl (PV.pick rfl rfl rfl) ?_
          refine TL.v (Want.plain rfl) rfl rfl (PV.assign rfl rfl) ?_
          refine TL.nil ?_
          refine TE.next hK20 ?_
          clear hK20
          refine TC.ret ?_
          refine TE.weak (Sub.refl _) (fun _ s => sep_keep [] rfl s) ?_
          refine TE.ret1 rfl rfl ?_
          first | exact ⟨rfl, rfl⟩ | exact ⟨congrArg Value.bool (decide_eq_true rfl), rfl⟩
      · skip
        refine TL.v (Want.met rfl rfl rfl) rfl rfl (PV.not (r := true) rfl rfl rfl) ?_
        refine TL.v (Want.plain rfl) rfl rfl (PV.pick rfl rfl rfl) ?_
        refine TL.nil ?_
        refine TE.next hK5 ?_
        clear hK5
        refine TC.yes rfl ?_
        refine TC.seq (fun K21 hK21 => ?_)
        refine TC.region ?_
        refine TL.v (Want.plain rfl) rfl rfl (PV.assign rfl rfl) ?_
        refine TL.nil ?_
        refine TE.next hK21 ?_
        clear hK21
        refine TC.ret ?_
        refine TE.passRet ?_
        clear hK4
        refine TE.weak (Sub.refl _) (fun _ s => sep_keep [] rfl s) ?_
        refine TE.ret1 rfl rfl ?_
        first | exact ⟨rfl, rfl⟩ | exact ⟨congrArg Value.bool (decide_eq_true rfl), rfl⟩


end Go.Proofs.Ytocdameafihnaaa
