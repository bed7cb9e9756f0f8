/-
  Layer 15's statements: contracts for them.
-/

import Derived.Test.YtdekgkmbcdlekaaMsgA
import Derived.Test.YtdekgkmbcdlekaaMsgB
import Derived.Test.YtdekgkmbcdlekaaLaw15P

namespace Go.Proofs.Ytdekgkmbcdlekaa

open Go Leg Codec Api

set_option linter.unusedSimpArgs false
set_option linter.unusedVariables false

set_option maxRecDepth 100000

set_option maxHeartbeats 8000000

theorem behind_does (x : Value) (l : List ChangeT) :
    Does Try.prog 23 #[x] (IsL 3 EC x l) [] (Ret (fun r' H => ∃ n, r' = .tuple #[.agg (ints (behindV l).flat).toArray, .int .i64 n] ∧ H = [])) := by
  refine Does.body (vs := [x]) (n := 31) Try.func23 rfl rfl rfl (fun w0 F hF => ?_)
  refine TC.seq (fun K1 hK1 => ?_)
  refine TC.region ?_
  refine TL.alloc (Want.plain rfl) rfl rfl rfl z25 (fun b2 => ?_)
  change TL _ _ _ _ _ _ _ _ _ [blkA b2 (ints ViewT.zero.flat) 25]
  refine TL.v (Want.plain rfl) rfl rfl (PV.assign rfl rfl) ?_
  refine TL.nil ?_
  refine TE.next hK1 ?_
  clear hK1
  refine TC.seq (fun K2 hK2 => ?_)
  refine TC.region ?_
  refine TL.callR (A := []) (B := [blkA b2 (ints ViewT.zero.flat) 25]) (Want.plain rfl) rfl rfl rfl nm28 rfl (first_does ) (fun _ s => s) (fun _ _ _ => trivial) (fun vR HR hR => ?_)
  obtain ⟨rfl, rfl⟩ := hR
  change TL _ _ _ _ _ _ _ _ _ [blkA b2 (ints ViewT.zero.flat) 25]
  refine TL.alloc (Want.plain rfl) rfl rfl rfl z25 (fun b4 => ?_)
  change TL _ _ _ _ _ _ _ _ _ [blkA b4 (ints ViewT.zero.flat) 25, blkA b2 (ints ViewT.zero.flat) 25]
  refine TL.store (vs := ints firstV.flat) (i := 0) (H' := [blkA b4 (ints firstV.flat) 25, blkA b2 (ints ViewT.zero.flat) 25]) (Want.plain rfl) rfl rfl rfl rfl rfl (by rw [(ViewT.len firstV)]; exact sz25) (ints_one _) rfl rfl (by have h0 := (ViewT.len ViewT.zero); have h1 := (ViewT.len firstV); omega) (wwhole ((ViewT.len ViewT.zero).trans (ViewT.len firstV).symm)) rfl ?_
  refine TL.v (Want.plain rfl) rfl rfl (PV.assign rfl rfl) ?_
  refine TL.nil ?_
  refine TE.next hK2 ?_
  clear hK2
  refine TC.seq (fun K3 hK3 => ?_)
  refine TC.seq (fun K4 hK4 => ?_)
  refine TC.region ?_
  refine TL.v (Want.plain rfl) rfl rfl (PV.move rfl rfl) ?_
  refine TL.v (Want.plain rfl) rfl rfl (PV.lenV rfl Try.underlying52 rfl hF.len) ?_
  refine TL.v (Want.plain rfl) rfl rfl (PV.move rfl rfl) ?_
  refine TL.nil ?_
  refine TE.next hK4 ?_
  clear hK4
  refine TC.block ?_
  refine TC.loop (α := (Nat) × (ViewT) × (Int)) (fun ⟨k, v, n⟩ => k ≤ l.length ∧ v = (l.take k).foldl stepV firstV) (fun ⟨k, v, n⟩ => [(2, (.pointer (some ⟨b2, 0, none⟩))), (3, (.int .i64 0)), (4, (.pointer (some ⟨b4, 0, none⟩))), (5, (.int .i64 (n))), (11, x), (12, (.int .i64 (((l.length : Nat) : Int)))), (13, (.int .i64 (((k : Nat) : Int))))]) (fun ⟨k, v, n⟩ => [blkA b4 (ints v.flat) 25, blkA b2 (ints ViewT.zero.flat) 25]) (fun ⟨k, v, n⟩ => l.length - k) (0, firstV, 0)
      ⟨Nat.zero_le _, rfl⟩ (Sub.r (Sub.r (Sub.r (Sub.cons rfl (by congr 1) (Sub.r (Sub.r (Sub.cons rfl (by congr 1) (Sub.nil _))))))))
      (fun _ s => s) (fun ⟨k, v, n⟩ hinv => ?_)
  obtain ⟨hk, hv⟩ := hinv
  have hr : Rng v := by rw [hv]; exact rng_fold _ _ Rng.first
  refine TC.seq (fun K5 hK5 => ?_)
  refine TC.region ?_
  refine TL.v (Want.plain rfl) rfl rfl (PV.lss rfl rfl rfl) ?_
  refine TL.dec (fun h14 => ?_) (fun h14 => ?_)
  · skip
    obtain ⟨b_a, off_a, cap_a, cs_a, T_a, z_a, us_a, hv_a, hc_a, hb_a, hl_a, hs_a, hE_a⟩ := IsL.at hF (j := k) (by omega)
    replace hE_a : us_a = ints l[k].flat := hE_a
    refine TL.nil ?_
    refine TE.next hK5 ?_
    clear hK5
    refine TC.seq (fun K6 hK6 => ?_)
    refine TC.yes rfl ?_
    refine TC.skip ?_
    refine TE.next hK6 ?_
    clear hK6
    refine TC.seq (fun K7 hK7 => ?_)
    refine TC.block ?_
    refine TC.seq (fun K8 hK8 => ?_)
    refine TC.region ?_
    refine TL.v (Want.plain rfl) rfl rfl (PV.indexSlV (r := off_a + k * 3) hv_a rfl Try.underlying52 sz42 rfl rfl (by omega) (by omega) (by omega)) ?_
    refine TL.v (Want.plain rfl) rfl rfl (PV.loadNX (vs := ints (l[k]).flat) rfl Try.underlying42 rfl sz42 rfl (RdX.frm hb_a (fun _ h => Frm.of h)) (ChangeT.len _) (hs_a.trans hE_a)) ?_
    refine TL.alloc (Want.plain rfl) rfl rfl rfl z42 (fun b7 => ?_)
    change TL _ _ _ _ _ _ _ _ _ [blkA b7 (ints ChangeT.zero.flat) 42, blkA b4 (ints v.flat) 25, blkA b2 (ints ViewT.zero.flat) 25]
    refine TL.store (vs := ints (l[k]).flat) (i := 0) (H' := [blkA b7 (ints (l[k]).flat) 42, blkA b4 (ints v.flat) 25, blkA b2 (ints ViewT.zero.flat) 25]) (Want.plain rfl) rfl rfl rfl rfl rfl (by rw [(ChangeT.len (l[k]))]; exact sz42) (ints_one _) rfl rfl (by have h0 := (ChangeT.len ChangeT.zero); have h1 := (ChangeT.len (l[k])); omega) (wwhole ((ChangeT.len ChangeT.zero).trans (ChangeT.len (l[k])).symm)) rfl ?_
    refine TL.nil ?_
    refine TE.next hK8 ?_
    clear hK8
    refine TC.seq (fun K9 hK9 => ?_)
    refine TC.region ?_
    refine TL.v (Want.plain rfl) rfl rfl (PV.loadN (vs := ints v.flat) rfl Try.underlying25 rfl sz25 rfl (Rd.own 1 rfl rfl) (ViewT.len v) (whole (ViewT.len v))) ?_
    refine TL.v (Want.plain rfl) rfl rfl (PV.loadN (vs := ints (l[k]).flat) rfl Try.underlying42 rfl sz42 rfl (Rd.own 0 rfl rfl) (ChangeT.len (l[k])) (whole (ChangeT.len (l[k])))) ?_
    refine TL.callR (A := []) (B := [blkA b7 (ints (l[k]).flat) 42, blkA b4 (ints v.flat) 25, blkA b2 (ints ViewT.zero.flat) 25]) (Want.plain rfl) rfl rfl rfl nm42 rfl (next_does v (l[k]) hr) (fun _ s => s) (fun _ _ _ => trivial) (fun vR HR hR => ?_)
    obtain ⟨rfl, rfl⟩ := hR
    change TL _ _ _ _ _ _ _ _ _ [blkA b7 (ints (l[k]).flat) 42, blkA b4 (ints v.flat) 25, blkA b2 (ints ViewT.zero.flat) 25]
    refine TL.v (Want.plain rfl) rfl rfl (PV.move rfl rfl) ?_
    refine TL.v (Want.plain rfl) rfl rfl (PV.extract (vs := [(.agg (ints ((nextV v (l[k])).1).flat).toArray), (.int .i64 ((nextV v (l[k])).2))]) rfl rfl rfl) ?_
    refine TL.v (Want.plain rfl) rfl rfl (PV.extract (vs := [(.agg (ints ((nextV v (l[k])).1).flat).toArray), (.int .i64 ((nextV v (l[k])).2))]) rfl rfl rfl) ?_
    refine TL.alloc (Want.plain rfl) rfl rfl rfl z25 (fun b8 => ?_)
    change TL _ _ _ _ _ _ _ _ _ [blkA b8 (ints ViewT.zero.flat) 25, blkA b7 (ints (l[k]).flat) 42, blkA b4 (ints v.flat) 25, blkA b2 (ints ViewT.zero.flat) 25]
    refine TL.store (vs := ints ((nextV v (l[k])).1).flat) (i := 0) (H' := [blkA b8 (ints ((nextV v (l[k])).1).flat) 25, blkA b7 (ints (l[k]).flat) 42, blkA b4 (ints v.flat) 25, blkA b2 (ints ViewT.zero.flat) 25]) (Want.plain rfl) rfl rfl rfl rfl rfl (by rw [(ViewT.len ((nextV v (l[k])).1))]; exact sz25) (ints_one _) rfl rfl (by have h0 := (ViewT.len ViewT.zero); have h1 := (ViewT.len ((nextV v (l[k])).1)); omega) (wwhole ((ViewT.len ViewT.zero).trans (ViewT.len ((nextV v (l[k])).1)).symm)) rfl ?_
    refine TL.v (Want.plain rfl) rfl rfl (PV.assign rfl rfl) ?_
    refine TL.nil ?_
    refine TE.next hK9 ?_
    clear hK9
    refine TC.seq (fun K10 hK10 => ?_)
    refine TC.region ?_
    refine TL.v (Want.plain rfl) rfl rfl (PV.move rfl rfl) ?_
    refine TL.v (Want.plain rfl) rfl rfl (PV.eql rfl rfl rfl) ?_
    refine TL.dec (fun h24 => ?_) (fun h24 => ?_)
    · skip
      refine TL.nil ?_
      refine TE.next hK10 ?_
      clear hK10
      refine TC.yes rfl ?_
      refine TC.seq (fun K11 hK11 => ?_)
      refine TC.region ?_
      refine TL.v (Want.plain rfl) rfl rfl (PV.loadN (vs := ints ((nextV v (l[k])).1).flat) rfl Try.underlying25 rfl sz25 rfl (Rd.own 0 rfl rfl) (ViewT.len ((nextV v (l[k])).1)) (whole (ViewT.len ((nextV v (l[k])).1)))) ?_
      refine TL.store (vs := ints ((nextV v (l[k])).1).flat) (i := 2) (H' := [blkA b8 (ints ((nextV v (l[k])).1).flat) 25, blkA b7 (ints (l[k]).flat) 42, blkA b4 (ints ((nextV v (l[k])).1).flat) 25, blkA b2 (ints ViewT.zero.flat) 25]) (Want.plain rfl) rfl rfl rfl rfl rfl (by rw [(ViewT.len ((nextV v (l[k])).1))]; exact sz25) (ints_one _) rfl rfl (by have h0 := (ViewT.len v); have h1 := (ViewT.len ((nextV v (l[k])).1)); omega) (wwhole ((ViewT.len v).trans (ViewT.len ((nextV v (l[k])).1)).symm)) rfl ?_
      refine TL.nil ?_
      refine TE.next hK11 ?_
      clear hK11
      refine TC.region ?_
      refine TL.v (Want.plain rfl) rfl rfl (PV.move rfl rfl) ?_
      refine TL.v (Want.plain rfl) rfl rfl (PV.add (r := (IntKind.i64.wrap (n + 1))) rfl rfl rfl rfl) ?_
      refine TL.v (Want.plain rfl) rfl rfl (PV.assign rfl rfl) ?_
      refine TL.nil ?_
      refine TE.blockEnd ?_
      refine TE.next hK7 ?_
      clear hK7
      refine TC.region ?_
      refine TL.v (Want.plain rfl) rfl rfl (PV.add rfl rfl rfl (wrap_i64 (by omega) (by omega))) ?_
      refine TL.v (Want.plain rfl) rfl rfl (PV.move rfl rfl) ?_
      refine TL.nil ?_
      exact TE.round ((k + 1, (nextV v l[k]).1, (IntKind.i64.wrap (n + 1))) : (Nat) × (ViewT) × (Int)) ⟨by omega, by rw [fold_take (show k < l.length by omega), ← hv, stepV, if_pos h24]⟩ (by show l.length - (k + 1) < l.length - k; omega)
        (Sub.r (Sub.r (Sub.r (Sub.r (Sub.r (Sub.r (Sub.cons rfl (by simp) (Sub.nil _))))))))
        (fun _ s => sep_keep [2, 2] rfl s)
    · skip
      refine TL.nil ?_
      refine TE.next hK10 ?_
      clear hK10
      refine TC.no rfl ?_
      refine TC.skip ?_
      refine TE.blockEnd ?_
      refine TE.next hK7 ?_
      clear hK7
      refine TC.region ?_
      refine TL.v (Want.plain rfl) rfl rfl (PV.add rfl rfl rfl (wrap_i64 (by omega) (by omega))) ?_
      refine TL.v (Want.plain rfl) rfl rfl (PV.move rfl rfl) ?_
      refine TL.nil ?_
      exact TE.round ((k + 1, v, n) : (Nat) × (ViewT) × (Int)) ⟨by omega, by rw [fold_take (show k < l.length by omega), ← hv, stepV, if_neg h24]⟩ (by show l.length - (k + 1) < l.length - k; omega)
        (Sub.r (Sub.r (Sub.r (Sub.r (Sub.r (Sub.r (Sub.cons rfl (by simp) (Sub.nil _))))))))
        (fun _ s => sep_keep [2, 2] rfl s)
  · skip
    refine TL.nil ?_
    refine TE.next hK5 ?_
    clear hK5
    refine TC.seq (fun K12 hK12 => ?_)
    refine TC.no rfl ?_
    refine TC.exit ?_
    refine TE.pass ?_
    clear hK12
    refine TE.pass ?_
    refine TE.hit ?_
    refine TE.next hK3 ?_
    clear hK3
    refine TC.seq (fun K13 hK13 => ?_)
    refine TC.region ?_
    refine TL.v (Want.plain rfl) rfl rfl (PV.loadN (vs := ints v.flat) rfl Try.underlying25 rfl sz25 rfl (Rd.own 0 rfl rfl) (ViewT.len v) (whole (ViewT.len v))) ?_
    refine TL.v (Want.plain rfl) rfl rfl (PV.move rfl rfl) ?_
    refine TL.store (vs := ints v.flat) (i := 1) (H' := [blkA b4 (ints v.flat) 25, blkA b2 (ints v.flat) 25]) (Want.plain rfl) rfl rfl rfl rfl rfl (by rw [(ViewT.len v)]; exact sz25) (ints_one _) rfl rfl (by have h0 := (ViewT.len ViewT.zero); have h1 := (ViewT.len v); omega) (wwhole ((ViewT.len ViewT.zero).trans (ViewT.len v).symm)) rfl ?_
    refine TL.v (Want.plain rfl) rfl rfl (PV.assign rfl rfl) ?_
    refine TL.nil ?_
    refine TE.next hK13 ?_
    clear hK13
    refine TC.ret ?_
    refine TE.retCT (H' := []) rfl rfl rfl Try.underlying25 rfl sz25 (Rd.own 1 rfl rfl) (ViewT.len v) (fun _ s => sep_keep [] rfl s) ?_
    exact ⟨_, by rw [behind_eq, hv, List.take_of_length_le (by omega)], rfl⟩


theorem right1_does (ob : Nat) (c : CellT) (ok : Bool) :
    Does Try.prog 35 #[(.agg (ints c.flat).toArray), (.pointer (some ⟨ob, 0, none⟩))] (fun _ => True) [blkA ob [(.bool (ok))] 4] (Ret (fun r' H => ∃ ok', r' = .tuple #[] ∧ H = [blkA ob [.bool ok'] 4] ∧ (ok' = true → ok = true ∧ okC c = true))) := by
  refine Does.body (vs := [(.agg (ints c.flat).toArray), (.pointer (some ⟨ob, 0, none⟩))]) (n := 51) Try.func35 rfl rfl rfl (fun w0 F hF => ?_)
  refine TC.seq (fun K1 hK1 => ?_)
  refine TC.region ?_
  refine TL.box (Want.plain rfl) rfl rfl rfl rfl (fun b2 => ?_)
  change TL _ _ _ _ _ _ _ _ _ [blkA b2 (ints c.flat) 34, blkA ob [(.bool (ok))] 4]
  refine TL.nil ?_
  refine TE.next hK1 ?_
  clear hK1
  refine TC.seq (fun K2 hK2 => ?_)
  refine TC.region ?_
  refine TL.v (Want.plain rfl) rfl rfl (PV.assign rfl rfl) ?_
  refine TL.nil ?_
  refine TE.next hK2 ?_
  clear hK2
  refine TC.seq (fun K3 hK3 => ?_)
  refine TC.cut (α := (Bool)) (fun ok0 => ok0 = true → ok = true ∧ CellSo c 0 0) (fun ok0 => [(1, (.pointer (some ⟨ob, 0, none⟩))), (2, (.pointer (some ⟨b2, 0, none⟩))), (3, (.int .i64 0))]) (fun ok0 => [blkA b2 (ints c.flat) 34, blkA ob [(.bool (ok0))] 4]) (fun ok0 hinv => ?_) (fun tl3 => ?_)
  · skip
    have ho0 := hinv
    refine TE.next hK3 ?_
    clear hK3
    refine TC.seq (fun K4 hK4 => ?_)
    refine TC.seq (fun K5 hK5 => ?_)
    refine TC.region ?_
    refine TL.v (Want.plain rfl) rfl rfl (PV.fieldAddr (r := 2) rfl Try.underlying34 rfl sz23 rfl rfl) ?_
    refine TL.v (Want.plain rfl) rfl rfl (PV.loadN (vs := ints c.given.toList) rfl Try.underlying23 rfl sz23 rfl (Rd.own 0 rfl rfl) (vi5_len c.given) (CellT.sub_given c 0 rfl (by decide) (whole (vi5_len c.given)))) ?_
    refine TL.v (Want.plain rfl) rfl rfl (PV.move rfl rfl) ?_
    refine TL.nil ?_
    refine TE.next hK5 ?_
    clear hK5
    refine TC.block ?_
    refine TC.loop (α := (Nat) × (Int) × (Bool)) (fun ⟨j, sum, ok1⟩ => j ≤ 5 ∧ 0 ≤ sum ∧ sum ≤ j * 1099511627776 ∧ (ok1 = true → ok = true ∧ CellSo c j sum)) (fun ⟨j, sum, ok1⟩ => [(1, (.pointer (some ⟨ob, 0, none⟩))), (3, (.int .i64 (sum))), (28, (.agg (ints c.given.toList).toArray)), (29, (.int .i64 (((j : Nat) : Int))))]) (fun ⟨j, sum, ok1⟩ => [blkA b2 (ints c.flat) 34, blkA ob [(.bool (ok1))] 4]) (fun ⟨j, sum, ok1⟩ => 5 - j) (0, 0, ok0)
        ⟨by omega, by omega, by omega, ho0⟩ (Sub.r (Sub.cons rfl (by congr 1) (Sub.r (Sub.cons rfl (by congr 1) (Sub.nil _)))))
        (fun _ s => s) (fun ⟨j, sum, ok1⟩ hinv => ?_)
    obtain ⟨hj, hs0, hs1, ho⟩ := hinv
    refine TC.seq (fun K6 hK6 => ?_)
    refine TC.region ?_
    refine TL.v (Want.plain rfl) rfl rfl (PV.lss rfl rfl rfl) ?_
    refine TL.dec (fun h30 => ?_) (fun h30 => ?_)
    · skip
      refine TL.nil ?_
      refine TE.next hK6 ?_
      clear hK6
      refine TC.seq (fun K7 hK7 => ?_)
      refine TC.yes rfl ?_
      refine TC.skip ?_
      refine TE.next hK7 ?_
      clear hK7
      refine TC.seq (fun K8 hK8 => ?_)
      refine TC.block ?_
      refine TC.seq (fun K9 hK9 => ?_)
      refine TC.region ?_
      refine TL.v (Want.plain rfl) rfl rfl (PV.index1 (cs := ints c.given.toList) (v := .int .i64 (c.given[j]'(by omega))) (r := j) rfl Try.underlying23 Try.underlying3 rfl sz3 rfl rfl (by omega) (by omega) (by omega) (vi_at c.given (by omega))) ?_
      refine TL.v (Want.plain rfl) rfl rfl (PV.assign rfl rfl) ?_
      refine TL.nil ?_
      refine TE.next hK9 ?_
      clear hK9
      refine TC.seq (fun K10 hK10 => ?_)
      refine TC.region ?_
      refine TL.v (Want.plain rfl) rfl rfl (PV.load1 (v := (.bool (ok1))) rfl Try.underlying4 rfl rfl (Rd.own 1 rfl rfl) rfl) ?_
      refine TL.decB (fun h32 => ?_) (fun h32 => ?_)
      · skip
        refine TL.v (Want.plain rfl) rfl rfl (PV.move rfl rfl) ?_
        refine TL.v (Want.met rfl rfl rfl) rfl rfl (PV.move rfl rfl) ?_
        refine TL.v (Want.met rfl rfl rfl) rfl rfl (PV.geq rfl rfl rfl) ?_
        refine TL.dec (fun h35 => ?_) (fun h35 => ?_)
        · skip
          refine TL.v (Want.plain rfl) rfl rfl (PV.pick rfl rfl rfl) ?_
          refine TL.v (Want.plain rfl) rfl rfl (PV.move rfl rfl) ?_
          refine TL.v (Want.met rfl rfl rfl) rfl rfl (PV.move rfl rfl) ?_
          refine TL.v (Want.met rfl rfl rfl) rfl rfl (PV.leq rfl rfl rfl) ?_
          refine TL.v (Want.plain rfl) rfl rfl (PV.pick rfl rfl rfl) ?_
          refine TL.store1 (i := 1) (H' := [blkA b2 (ints c.flat) 34, blkA ob [(.bool (decide ((c.given[j]'(by omega)) ≤ 1099511627776)))] 4]) (Want.plain rfl) rfl rfl rfl rfl rfl sz4 rfl rfl (lb rfl) rfl rfl ?_
          refine TL.nil ?_
          refine TE.next hK10 ?_
          clear hK10
          refine TC.seq (fun K11 hK11 => ?_)
          refine TC.region ?_
          refine TL.v (Want.plain rfl) rfl rfl (PV.load1 (v := (.bool (decide ((c.given[j]'(by omega)) ≤ 1099511627776)))) rfl Try.underlying4 rfl rfl (Rd.own 1 rfl rfl) rfl) ?_
          refine TL.dec (fun h41 => ?_) (fun h41 => ?_)
          · skip
            refine TL.nil ?_
            refine TE.next hK11 ?_
            clear hK11
            refine TC.yes rfl ?_
            refine TC.region ?_
            refine TL.v (Want.plain rfl) rfl rfl (PV.move rfl rfl) ?_
            refine TL.v (Want.plain rfl) rfl rfl (PV.move rfl rfl) ?_
            refine TL.v (Want.plain rfl) rfl rfl (PV.add rfl rfl rfl (wrap_i64 (by omega) (by omega))) ?_
            refine TL.v (Want.plain rfl) rfl rfl (PV.assign rfl rfl) ?_
            refine TL.nil ?_
            refine TE.blockEnd ?_
            refine TE.next hK8 ?_
            clear hK8
            refine TC.region ?_
            refine TL.v (Want.plain rfl) rfl rfl (PV.add rfl rfl rfl (wrap_i64 (by omega) (by omega))) ?_
            refine TL.v (Want.plain rfl) rfl rfl (PV.move rfl rfl) ?_
            refine TL.nil ?_
            exact TE.round ((j + 1, sum + (c.given[j]'(by omega)), decide ((c.given[j]'(by omega)) ≤ 1099511627776)) : (Nat) × (Int) × (Bool)) ⟨by omega, by omega, by omega, fun h => let ⟨h1, h2⟩ := ho h32; ⟨h1, h2.step (by omega) ⟨by omega, h41⟩⟩⟩ (by show 5 - (j + 1) < 5 - j; omega)
              (Sub.r (Sub.r (Sub.r (Sub.cons rfl (by simp) (Sub.nil _)))))
              (fun _ s => sep_keep [0, 0] rfl s)
          · skip
            refine TL.nil ?_
            refine TE.next hK11 ?_
            clear hK11
            refine TC.no rfl ?_
            refine TC.skip ?_
            refine TE.blockEnd ?_
            refine TE.next hK8 ?_
            clear hK8
            refine TC.region ?_
            refine TL.v (Want.plain rfl) rfl rfl (PV.add rfl rfl rfl (wrap_i64 (by omega) (by omega))) ?_
            refine TL.v (Want.plain rfl) rfl rfl (PV.move rfl rfl) ?_
            refine TL.nil ?_
            exact TE.round ((j + 1, sum, decide ((c.given[j]'(by omega)) ≤ 1099511627776)) : (Nat) × (Int) × (Bool)) ⟨by omega, by omega, by omega, fun h => by first | cases h | exact absurd (of_decide_eq_true h) h41⟩ (by show 5 - (j + 1) < 5 - j; omega)
              (Sub.r (Sub.r (Sub.r (Sub.cons rfl (by simp) (Sub.nil _)))))
              (fun _ s => sep_keep [0, 0] rfl s)
        · skip
          refine TL.v (Want.plain rfl) rfl rfl (PV.pick rfl rfl rfl) ?_
          refine TL.v (Want.plain rfl) rfl rfl (PV.move rfl rfl) ?_
          refine TL.unmet (b := false) rfl rfl rfl rfl (lb rfl) ?_
          refine TL.unmet (b := false) rfl rfl rfl rfl (lb rfl) ?_
          refine TL.v (Want.plain rfl) rfl rfl (PV.pick rfl rfl rfl) ?_
          refine TL.store1 (i := 1) (H' := [blkA b2 (ints c.flat) 34, blkA ob [(.bool false)] 4]) (Want.plain rfl) rfl rfl rfl rfl rfl sz4 rfl rfl (lb rfl) rfl rfl ?_
          refine TL.nil ?_
          refine TE.next hK10 ?_
          clear hK10
          refine TC.seq (fun K12 hK12 => ?_)
          refine TC.region ?_
          refine TL.v (Want.plain rfl) rfl rfl (PV.load1 (v := (.bool false)) rfl Try.underlying4 rfl rfl (Rd.own 1 rfl rfl) rfl) ?_
          refine TL.nil ?_
          refine TE.next hK12 ?_
          clear hK12
          refine TC.no rfl ?_
          refine TC.skip ?_
          refine TE.blockEnd ?_
          refine TE.next hK8 ?_
          clear hK8
          refine TC.region ?_
          refine TL.v (Want.plain rfl) rfl rfl (PV.add rfl rfl rfl (wrap_i64 (by omega) (by omega))) ?_
          refine TL.v (Want.plain rfl) rfl rfl (PV.move rfl rfl) ?_
          refine TL.nil ?_
          exact TE.round ((j + 1, sum, false) : (Nat) × (Int) × (Bool)) ⟨by omega, by omega, by omega, fun h => by first | cases h | exact absurd (of_decide_eq_true h) h41⟩ (by show 5 - (j + 1) < 5 - j; omega)
            (Sub.r (Sub.r (Sub.r (Sub.cons rfl (by simp) (Sub.nil _)))))
            (fun _ s => sep_keep [0, 0] rfl s)
      · skip
        refine TL.v (Want.plain rfl) rfl rfl (PV.move rfl rfl) ?_
        refine TL.unmet (b := false) rfl rfl rfl rfl (lb rfl) ?_
        refine TL.unmet (b := false) rfl rfl rfl rfl (lb rfl) ?_
        refine TL.v (Want.plain rfl) rfl rfl (PV.pick rfl rfl rfl) ?_
        refine TL.v (Want.plain rfl) rfl rfl (PV.move rfl rfl) ?_
        refine TL.unmet (b := false) rfl rfl rfl rfl (lb rfl) ?_
        refine TL.unmet (b := false) rfl rfl rfl rfl (lb rfl) ?_
        refine TL.v (Want.plain rfl) rfl rfl (PV.pick rfl rfl rfl) ?_
        refine TL.store1 (i := 1) (H' := [blkA b2 (ints c.flat) 34, blkA ob [(.bool false)] 4]) (Want.plain rfl) rfl rfl rfl rfl rfl sz4 rfl rfl (lb rfl) rfl rfl ?_
        refine TL.nil ?_
        refine TE.next hK10 ?_
        clear hK10
        refine TC.seq (fun K13 hK13 => ?_)
        refine TC.region ?_
        refine TL.v (Want.plain rfl) rfl rfl (PV.load1 (v := (.bool false)) rfl Try.underlying4 rfl rfl (Rd.own 1 rfl rfl) rfl) ?_
        refine TL.nil ?_
        refine TE.next hK13 ?_
        clear hK13
        refine TC.no rfl ?_
        refine TC.skip ?_
        refine TE.blockEnd ?_
        refine TE.next hK8 ?_
        clear hK8
        refine TC.region ?_
        refine TL.v (Want.plain rfl) rfl rfl (PV.add rfl rfl rfl (wrap_i64 (by omega) (by omega))) ?_
        refine TL.v (Want.plain rfl) rfl rfl (PV.move rfl rfl) ?_
        refine TL.nil ?_
        exact TE.round ((j + 1, sum, false) : (Nat) × (Int) × (Bool)) ⟨by omega, by omega, by omega, fun h => by first | cases h | exact absurd (of_decide_eq_true h) h41⟩ (by show 5 - (j + 1) < 5 - j; omega)
          (Sub.r (Sub.r (Sub.r (Sub.cons rfl (by simp) (Sub.nil _)))))
          (fun _ s => sep_keep [0, 0] rfl s)
    · skip
      refine TL.nil ?_
      refine TE.next hK6 ?_
      clear hK6
      refine TC.seq (fun K14 hK14 => ?_)
      refine TC.no rfl ?_
      refine TC.exit ?_
      refine TE.pass ?_
      clear hK14
      refine TE.pass ?_
      refine TE.hit ?_
      refine TE.next hK4 ?_
      clear hK4
      refine TC.region ?_
      refine TL.v (Want.plain rfl) rfl rfl (PV.load1 (v := (.bool (ok1))) rfl Try.underlying4 rfl rfl (Rd.own 1 rfl rfl) rfl) ?_
      refine TL.decB (fun h46 => ?_) (fun h46 => ?_)
      · skip
        refine TL.v (Want.plain rfl) rfl rfl (PV.move rfl rfl) ?_
        refine TL.v (Want.met rfl rfl rfl) rfl rfl (PV.move rfl rfl) ?_
        refine TL.v (Want.met rfl rfl rfl) rfl rfl (PV.leq rfl rfl rfl) ?_
        refine TL.v (Want.plain rfl) rfl rfl (PV.pick rfl rfl rfl) ?_
        refine TL.store1 (i := 1) (H' := [blkA b2 (ints c.flat) 34, blkA ob [(.bool (decide (sum ≤ 1099511627776)))] 4]) (Want.plain rfl) rfl rfl rfl rfl rfl sz4 rfl rfl (lb rfl) rfl rfl ?_
        refine TL.nil ?_
        refine TE.weak (Sub.refl _) (fun _ s => sep_keep [1] rfl s) ?_
        refine TE.end0 rfl ?_
        exact ⟨decide (sum ≤ 1099511627776), rfl, rfl, fun h => by first | cases h | exact ⟨(ho h46).1, (show CellSo c 5 sum by have := (ho h46).2; rwa [show j = 5 by omega] at this).okC (of_decide_eq_true h)⟩⟩
      · skip
        refine TL.v (Want.plain rfl) rfl rfl (PV.move rfl rfl) ?_
        refine TL.unmet (b := false) rfl rfl rfl rfl (lb rfl) ?_
        refine TL.unmet (b := false) rfl rfl rfl rfl (lb rfl) ?_
        refine TL.v (Want.plain rfl) rfl rfl (PV.pick rfl rfl rfl) ?_
        refine TL.store1 (i := 1) (H' := [blkA b2 (ints c.flat) 34, blkA ob [(.bool false)] 4]) (Want.plain rfl) rfl rfl rfl rfl rfl sz4 rfl rfl (lb rfl) rfl rfl ?_
        refine TL.nil ?_
        refine TE.weak (Sub.refl _) (fun _ s => sep_keep [1] rfl s) ?_
        refine TE.end0 rfl ?_
        exact ⟨false, rfl, rfl, fun h => by first | cases h | exact ⟨(ho h46).1, (show CellSo c 5 sum by have := (ho h46).2; rwa [show j = 5 by omega] at this).okC (of_decide_eq_true h)⟩⟩
  clear hK3
  refine TC.region ?_
  refine TL.v (Want.plain rfl) rfl rfl (PV.load1 (v := (.bool (ok))) rfl Try.underlying4 rfl rfl (Rd.own 1 rfl rfl) rfl) ?_
  refine TL.decB (fun h6 => ?_) (fun h6 => ?_)
  · skip
    refine TL.v (Want.plain rfl) rfl rfl (PV.move rfl rfl) ?_
    refine TL.v (Want.met rfl rfl rfl) rfl rfl (PV.fieldAddr (r := 0) rfl Try.underlying34 rfl sz3 rfl rfl) ?_
    refine TL.v (Want.met rfl rfl rfl) rfl rfl (PV.load1 (v := (.int .i64 (c.inn))) rfl Try.underlying3 rfl rfl (Rd.own 0 rfl rfl) (CellT.at_inn c rfl)) ?_
    refine TL.v (Want.met rfl rfl rfl) rfl rfl (PV.geq rfl rfl rfl) ?_
    refine TL.dec (fun h10 => ?_) (fun h10 => ?_)
    · skip
      refine TL.v (Want.plain rfl) rfl rfl (PV.pick rfl rfl rfl) ?_
      refine TL.v (Want.plain rfl) rfl rfl (PV.move rfl rfl) ?_
      refine TL.v (Want.met rfl rfl rfl) rfl rfl (PV.fieldAddr (r := 0) rfl Try.underlying34 rfl sz3 rfl rfl) ?_
      refine TL.v (Want.met rfl rfl rfl) rfl rfl (PV.load1 (v := (.int .i64 (c.inn))) rfl Try.underlying3 rfl rfl (Rd.own 0 rfl rfl) (CellT.at_inn c rfl)) ?_
      refine TL.v (Want.met rfl rfl rfl) rfl rfl (PV.leq rfl rfl rfl) ?_
      refine TL.dec (fun h15 => ?_) (fun h15 => ?_)
      · skip
        refine TL.v (Want.plain rfl) rfl rfl (PV.pick rfl rfl rfl) ?_
        refine TL.v (Want.plain rfl) rfl rfl (PV.move rfl rfl) ?_
        refine TL.v (Want.met rfl rfl rfl) rfl rfl (PV.fieldAddr (r := 1) rfl Try.underlying34 rfl sz3 rfl rfl) ?_
        refine TL.v (Want.met rfl rfl rfl) rfl rfl (PV.load1 (v := (.int .i64 (c.out))) rfl Try.underlying3 rfl rfl (Rd.own 0 rfl rfl) (CellT.at_out c rfl)) ?_
        refine TL.v (Want.met rfl rfl rfl) rfl rfl (PV.geq rfl rfl rfl) ?_
        refine TL.dec (fun h20 => ?_) (fun h20 => ?_)
        · skip
          refine TL.v (Want.plain rfl) rfl rfl (PV.pick rfl rfl rfl) ?_
          refine TL.v (Want.plain rfl) rfl rfl (PV.move rfl rfl) ?_
          refine TL.v (Want.met rfl rfl rfl) rfl rfl (PV.fieldAddr (r := 1) rfl Try.underlying34 rfl sz3 rfl rfl) ?_
          refine TL.v (Want.met rfl rfl rfl) rfl rfl (PV.load1 (v := (.int .i64 (c.out))) rfl Try.underlying3 rfl rfl (Rd.own 0 rfl rfl) (CellT.at_out c rfl)) ?_
          refine TL.v (Want.met rfl rfl rfl) rfl rfl (PV.leq rfl rfl rfl) ?_
          refine TL.v (Want.plain rfl) rfl rfl (PV.pick rfl rfl rfl) ?_
          refine TL.store1 (i := 1) (H' := [blkA b2 (ints c.flat) 34, blkA ob [(.bool (decide (c.out ≤ 1099511627776)))] 4]) (Want.plain rfl) rfl rfl rfl rfl rfl sz4 rfl rfl (lb rfl) rfl rfl ?_
          refine TL.nil ?_
          exact TE.weak
            (Sub.r (Sub.r (Sub.r (Sub.nil _))))
            (fun _ s => sep_keep [0, 0] rfl s)
            (tl3 ((decide (c.out ≤ 1099511627776)) : (Bool)) (fun h => by simp_all [CellSo, okN]))
        · skip
          refine TL.v (Want.plain rfl) rfl rfl (PV.pick rfl rfl rfl) ?_
          refine TL.v (Want.plain rfl) rfl rfl (PV.move rfl rfl) ?_
          refine TL.unmet (b := false) rfl rfl rfl rfl (lb rfl) ?_
          refine TL.unmet (b := false) rfl rfl rfl rfl (lb rfl) ?_
          refine TL.unmet (b := false) rfl rfl rfl rfl (lb rfl) ?_
          refine TL.v (Want.plain rfl) rfl rfl (PV.pick rfl rfl rfl) ?_
          refine TL.store1 (i := 1) (H' := [blkA b2 (ints c.flat) 34, blkA ob [(.bool false)] 4]) (Want.plain rfl) rfl rfl rfl rfl rfl sz4 rfl rfl (lb rfl) rfl rfl ?_
          refine TL.nil ?_
          exact TE.weak
            (Sub.r (Sub.r (Sub.r (Sub.nil _))))
            (fun _ s => sep_keep [0, 0] rfl s)
            (tl3 ((false) : (Bool)) (fun h => by simp_all [CellSo, okN]))
      · skip
        refine TL.v (Want.plain rfl) rfl rfl (PV.pick rfl rfl rfl) ?_
        refine TL.v (Want.plain rfl) rfl rfl (PV.move rfl rfl) ?_
        refine TL.unmet (b := false) rfl rfl rfl rfl (lb rfl) ?_
        refine TL.unmet (b := false) rfl rfl rfl rfl (lb rfl) ?_
        refine TL.unmet (b := false) rfl rfl rfl rfl (lb rfl) ?_
        refine TL.v (Want.plain rfl) rfl rfl (PV.pick rfl rfl rfl) ?_
        refine TL.v (Want.plain rfl) rfl rfl (PV.move rfl rfl) ?_
        refine TL.unmet (b := false) rfl rfl rfl rfl (lb rfl) ?_
        refine TL.unmet (b := false) rfl rfl rfl rfl (lb rfl) ?_
        refine TL.unmet (b := false) rfl rfl rfl rfl (lb rfl) ?_
        refine TL.v (Want.plain rfl) rfl rfl (PV.pick rfl rfl rfl) ?_
        refine TL.store1 (i := 1) (H' := [blkA b2 (ints c.flat) 34, blkA ob [(.bool false)] 4]) (Want.plain rfl) rfl rfl rfl rfl rfl sz4 rfl rfl (lb rfl) rfl rfl ?_
        refine TL.nil ?_
        exact TE.weak
          (Sub.r (Sub.r (Sub.r (Sub.nil _))))
          (fun _ s => sep_keep [0, 0] rfl s)
          (tl3 ((false) : (Bool)) (fun h => by simp_all [CellSo, okN]))
    · skip
      refine TL.v (Want.plain rfl) rfl rfl (PV.pick rfl rfl rfl) ?_
      refine TL.v (Want.plain rfl) rfl rfl (PV.move rfl rfl) ?_
      refine TL.unmet (b := false) rfl rfl rfl rfl (lb rfl) ?_
      refine TL.unmet (b := false) rfl rfl rfl rfl (lb rfl) ?_
      refine TL.unmet (b := false) rfl rfl rfl rfl (lb rfl) ?_
      refine TL.v (Want.plain rfl) rfl rfl (PV.pick rfl rfl rfl) ?_
      refine TL.v (Want.plain rfl) rfl rfl (PV.move rfl rfl) ?_
      refine TL.unmet (b := false) rfl rfl rfl rfl (lb rfl) ?_
      refine TL.unmet (b := false) rfl rfl rfl rfl (lb rfl) ?_
      refine TL.unmet (b := false) rfl rfl rfl rfl (lb rfl) ?_
      refine TL.v (Want.plain rfl) rfl rfl (PV.pick rfl rfl rfl) ?_
      refine TL.v (Want.plain rfl) rfl rfl (PV.move rfl rfl) ?_
      refine TL.unmet (b := false) rfl rfl rfl rfl (lb rfl) ?_
      refine TL.unmet (b := false) rfl rfl rfl rfl (lb rfl) ?_
      refine TL.unmet (b := false) rfl rfl rfl rfl (lb rfl) ?_
      refine TL.v (Want.plain rfl) rfl rfl (PV.pick rfl rfl rfl) ?_
      refine TL.store1 (i := 1) (H' := [blkA b2 (ints c.flat) 34, blkA ob [(.bool false)] 4]) (Want.plain rfl) rfl rfl rfl rfl rfl sz4 rfl rfl (lb rfl) rfl rfl ?_
      refine TL.nil ?_
      exact TE.weak
        (Sub.r (Sub.r (Sub.r (Sub.nil _))))
        (fun _ s => sep_keep [0, 0] rfl s)
        (tl3 ((false) : (Bool)) (fun h => by simp_all [CellSo, okN]))
  · skip
    refine TL.v (Want.plain rfl) rfl rfl (PV.move rfl rfl) ?_
    refine TL.unmet (b := false) rfl rfl rfl rfl (lb rfl) ?_
    refine TL.unmet (b := false) rfl rfl rfl rfl (lb rfl) ?_
    refine TL.unmet (b := false) rfl rfl rfl rfl (lb rfl) ?_
    refine TL.v (Want.plain rfl) rfl rfl (PV.pick rfl rfl rfl) ?_
    refine TL.v (Want.plain rfl) rfl rfl (PV.move rfl rfl) ?_
    refine TL.unmet (b := false) rfl rfl rfl rfl (lb rfl) ?_
    refine TL.unmet (b := false) rfl rfl rfl rfl (lb rfl) ?_
    refine TL.unmet (b := false) rfl rfl rfl rfl (lb rfl) ?_
    refine TL.v (Want.plain rfl) rfl rfl (PV.pick rfl rfl rfl) ?_
    refine TL.v (Want.plain rfl) rfl rfl (PV.move rfl rfl) ?_
    refine TL.unmet (b := false) rfl rfl rfl rfl (lb rfl) ?_
    refine TL.unmet (b := false) rfl rfl rfl rfl (lb rfl) ?_
    refine TL.unmet (b := false) rfl rfl rfl rfl (lb rfl) ?_
    refine TL.v (Want.plain rfl) rfl rfl (PV.pick rfl rfl rfl) ?_
    refine TL.v (Want.plain rfl) rfl rfl (PV.move rfl rfl) ?_
    refine TL.unmet (b := false) rfl rfl rfl rfl (lb rfl) ?_
    refine TL.unmet (b := false) rfl rfl rfl rfl (lb rfl) ?_
    refine TL.unmet (b := false) rfl rfl rfl rfl (lb rfl) ?_
    refine TL.v (Want.plain rfl) rfl rfl (PV.pick rfl rfl rfl) ?_
    refine TL.store1 (i := 1) (H' := [blkA b2 (ints c.flat) 34, blkA ob [(.bool false)] 4]) (Want.plain rfl) rfl rfl rfl rfl rfl sz4 rfl rfl (lb rfl) rfl rfl ?_
    refine TL.nil ?_
    exact TE.weak
      (Sub.r (Sub.r (Sub.r (Sub.nil _))))
      (fun _ s => sep_keep [0, 0] rfl s)
      (tl3 ((false) : (Bool)) (fun h => by simp_all [CellSo, okN]))


theorem right04_does (x : RowT) (hw : WF x.flat) :
    Does Try.prog 17 #[(.agg (ints x.flat).toArray)] (fun _ => True) [] (Ret (fun r' H => ∃ b, r' = .bool b ∧ (b = true → rightR x = true) ∧ H = [])) := by
  refine Does.body (vs := [(.agg (ints x.flat).toArray)]) (n := 60) Try.func17 rfl rfl rfl (fun w0 F hF => ?_)
  refine TC.seq (fun K1 hK1 => ?_)
  refine TC.region ?_
  refine TL.box (Want.plain rfl) rfl rfl rfl rfl (fun b1 => ?_)
  change TL _ _ _ _ _ _ _ _ _ [blkA b1 (ints x.flat) 38]
  refine TL.v (Want.plain rfl) rfl rfl (PV.assign rfl rfl) ?_
  refine TL.nil ?_
  refine TE.next hK1 ?_
  clear hK1
  refine TC.seq (fun K2 hK2 => ?_)
  refine TC.region ?_
  refine TL.v (Want.plain rfl) rfl rfl (PV.fieldAddr (r := 0) rfl Try.underlying38 rfl sz3 rfl rfl) ?_
  refine TL.v (Want.plain rfl) rfl rfl (PV.load1 (v := (.int .i64 (x.version))) rfl Try.underlying3 rfl rfl (Rd.own 0 rfl rfl) (RowT.at_version x rfl)) ?_
  refine TL.v (Want.plain rfl) rfl rfl (PV.geq rfl rfl rfl) ?_
  refine TL.alloc (Want.plain rfl) rfl rfl rfl z4 (fun b3 => ?_)
  change TL _ _ _ _ _ _ _ _ _ [blkA b3 [(.bool false)] 4, blkA b1 (ints x.flat) 38]
  refine TL.store1 (i := 0) (H' := [blkA b3 [(.bool (decide (x.version ≥ 0)))] 4, blkA b1 (ints x.flat) 38]) (Want.plain rfl) rfl rfl rfl rfl rfl sz4 rfl rfl (lb rfl) rfl rfl ?_
  refine TL.nil ?_
  refine TE.next hK2 ?_
  clear hK2
  refine TC.seq (fun K3 hK3 => ?_)
  refine TC.region ?_
  refine TL.v (Want.plain rfl) rfl rfl (PV.mkFunc rfl rfl) ?_
  refine TL.v (Want.plain rfl) rfl rfl (PV.assign rfl rfl) ?_
  refine TL.nil ?_
  refine TE.next hK3 ?_
  clear hK3
  refine TC.seq (fun K4 hK4 => ?_)
  refine TC.seq (fun K5 hK5 => ?_)
  refine TC.region ?_
  refine TL.v (Want.plain rfl) rfl rfl (PV.fieldAddr (r := 1) rfl Try.underlying38 rfl sz35 rfl rfl) ?_
  refine TL.v (Want.plain rfl) rfl rfl (PV.loadN (vs := ints (flats x.cells.toList)) rfl Try.underlying35 rfl sz35 rfl (Rd.own 1 rfl rfl) (vs4_len x.cells) (RowT.sub_cells x 0 rfl (by decide) (whole (vs4_len x.cells)))) ?_
  refine TL.v (Want.plain rfl) rfl rfl (PV.move rfl rfl) ?_
  refine TL.nil ?_
  refine TE.next hK5 ?_
  clear hK5
  refine TC.block ?_
  refine TC.loop (α := (Nat) × (Bool)) (fun ⟨k, ok1⟩ => k ≤ 4 ∧ (ok1 = true → 0 ≤ x.version ∧ ∀ (j : Nat) (h : j < 4), j < k → okC x.cells[j] = true)) (fun ⟨k, ok1⟩ => [(1, (.pointer (some ⟨b1, 0, none⟩))), (2, (.bool false)), (3, (.pointer (some ⟨b3, 0, none⟩))), (4, (.func (.func 35) #[] #[(.pointer (some ⟨b3, 0, none⟩))])), (16, (.agg (ints (flats x.cells.toList)).toArray)), (17, (.int .i64 (((k : Nat) : Int))))]) (fun ⟨k, ok1⟩ => [blkA b1 (ints x.flat) 38, blkA b3 [(.bool (ok1))] 4]) (fun ⟨k, ok1⟩ => 4 - k) (0, decide (x.version ≥ 0))
      ⟨by omega, fun h => ⟨by simpa using h, fun j _ hj => absurd hj (by omega)⟩⟩ (Sub.r (Sub.r (Sub.r (Sub.r (Sub.r (Sub.cons rfl (by congr 1) (Sub.nil _)))))))
      (fun _ s => sep_keep [1, 0] rfl s) (fun ⟨k, ok1⟩ hinv => ?_)
  obtain ⟨hk, ho⟩ := hinv
  refine TC.seq (fun K6 hK6 => ?_)
  refine TC.region ?_
  refine TL.v (Want.plain rfl) rfl rfl (PV.lss rfl rfl rfl) ?_
  refine TL.dec (fun h18 => ?_) (fun h18 => ?_)
  · skip
    refine TL.nil ?_
    refine TE.next hK6 ?_
    clear hK6
    refine TC.seq (fun K7 hK7 => ?_)
    refine TC.yes rfl ?_
    refine TC.skip ?_
    refine TE.next hK7 ?_
    clear hK7
    refine TC.seq (fun K8 hK8 => ?_)
    refine TC.block ?_
    refine TC.seq (fun K9 hK9 => ?_)
    refine TC.region ?_
    refine TL.v (Want.plain rfl) rfl rfl (PV.indexN (cs := ints (flats x.cells.toList)) (vs := ints (x.cells[k]'(by omega)).flat) (r := k * 7) rfl Try.underlying35 Try.underlying34 rfl sz34 rfl rfl (by omega) (by omega) (by omega) (vs_sub CellT.flat_length x.cells (i := k) 0 (by omega) (by omega) (by decide) (whole (CellT.len (x.cells[k]'(by omega)))))) ?_
    refine TL.alloc (Want.plain rfl) rfl rfl rfl z34 (fun b6 => ?_)
    change TL _ _ _ _ _ _ _ _ _ [blkA b6 (ints CellT.zero.flat) 34, blkA b1 (ints x.flat) 38, blkA b3 [(.bool (ok1))] 4]
    refine TL.store (vs := ints (x.cells[k]'(by omega)).flat) (i := 0) (H' := [blkA b6 (ints (x.cells[k]'(by omega)).flat) 34, blkA b1 (ints x.flat) 38, blkA b3 [(.bool (ok1))] 4]) (Want.plain rfl) rfl rfl rfl rfl rfl (by rw [(CellT.len (x.cells[k]'(by omega)))]; exact sz34) (ints_one _) rfl rfl (by have h0 := (CellT.len CellT.zero); have h1 := (CellT.len (x.cells[k]'(by omega))); omega) (wwhole ((CellT.len CellT.zero).trans (CellT.len (x.cells[k]'(by omega))).symm)) rfl ?_
    refine TL.nil ?_
    refine TE.next hK9 ?_
    clear hK9
    refine TC.region ?_
    refine TL.v (Want.plain rfl) rfl rfl (PV.move rfl rfl) ?_
    refine TL.v (Want.plain rfl) rfl rfl (PV.loadN (vs := ints (x.cells[k]'(by omega)).flat) rfl Try.underlying34 rfl sz34 rfl (Rd.own 0 rfl rfl) (CellT.len (x.cells[k]'(by omega))) (whole (CellT.len (x.cells[k]'(by omega))))) ?_
    refine TL.callRv (A := [blkA b3 [(.bool (ok1))] 4]) (B := [blkA b6 (ints (x.cells[k]'(by omega)).flat) 34, blkA b1 (ints x.flat) 38]) (Want.plain rfl) rfl rfl rfl rfl nm35 rfl (right1_does b3 (x.cells[k]'(by omega)) ok1) (fun _ s => sep_selR [2] rfl s) (fun _ _ _ => trivial) (fun vR HR hR => ?_)
    obtain ⟨okn1, rfl, rfl, hok1⟩ := hR
    change TL _ _ _ _ _ _ _ _ _ [blkA b3 [(.bool (okn1))] 4, blkA b6 (ints (x.cells[k]'(by omega)).flat) 34, blkA b1 (ints x.flat) 38]
    refine TL.nil ?_
    refine TE.blockEnd ?_
    refine TE.next hK8 ?_
    clear hK8
    refine TC.region ?_
    refine TL.v (Want.plain rfl) rfl rfl (PV.add rfl rfl rfl (wrap_i64 (by omega) (by omega))) ?_
    refine TL.v (Want.plain rfl) rfl rfl (PV.move rfl rfl) ?_
    refine TL.nil ?_
    exact TE.round ((k + 1, okn1) : (Nat) × (Bool)) ⟨by omega, fun h => let ⟨h1, h2⟩ := hok1 h; let ⟨h3, h4⟩ := ho h1; ⟨h3, fun j hj hjk => by
      by_cases q : j = k
      · subst q; exact h2
      · exact h4 j hj (by omega)⟩⟩ (by show 4 - (k + 1) < 4 - k; omega)
      (Sub.r (Sub.r (Sub.r (Sub.r (Sub.r (Sub.cons rfl (by simp) (Sub.nil _)))))))
      (fun _ s => sep_keep [2, 0] rfl s)
  · skip
    refine TL.nil ?_
    refine TE.next hK6 ?_
    clear hK6
    refine TC.seq (fun K10 hK10 => ?_)
    refine TC.no rfl ?_
    refine TC.exit ?_
    refine TE.pass ?_
    clear hK10
    refine TE.pass ?_
    refine TE.hit ?_
    refine TE.next hK4 ?_
    clear hK4
    refine TC.seq (fun K11 hK11 => ?_)
    refine TC.seq (fun K12 hK12 => ?_)
    refine TC.region ?_
    refine TL.v (Want.plain rfl) rfl rfl (PV.fieldAddr (r := 34) rfl Try.underlying38 rfl sz36 rfl rfl) ?_
    refine TL.v (Want.plain rfl) rfl rfl (PV.loadN (vs := ints (x.left.toList.flatMap fun v => flats v.toList)) rfl Try.underlying36 rfl sz36 rfl (Rd.own 0 rfl rfl) (vs5_len x.left) (RowT.sub_left x 0 rfl (by decide) (whole (vs5_len x.left)))) ?_
    refine TL.v (Want.plain rfl) rfl rfl (PV.move rfl rfl) ?_
    refine TL.nil ?_
    refine TE.next hK12 ?_
    clear hK12
    refine TC.block ?_
    refine TC.loop (α := (Nat) × (Bool)) (fun ⟨i, ok2⟩ => i ≤ 5 ∧ (ok2 = true → 0 ≤ x.version ∧ okCs x.cells = true ∧ ∀ (j : Nat) (h : j < 5), j < i → hokR x.heir[j] x.left[j] = true)) (fun ⟨i, ok2⟩ => [(1, (.pointer (some ⟨b1, 0, none⟩))), (2, (.bool false)), (3, (.pointer (some ⟨b3, 0, none⟩))), (4, (.func (.func 35) #[] #[(.pointer (some ⟨b3, 0, none⟩))])), (25, (.agg (ints (x.left.toList.flatMap fun v => flats v.toList)).toArray)), (26, (.int .i64 (((i : Nat) : Int))))]) (fun ⟨i, ok2⟩ => [blkA b1 (ints x.flat) 38, blkA b3 [(.bool (ok2))] 4]) (fun ⟨i, ok2⟩ => 5 - i) (0, ok1)
        ⟨by omega, fun h => let ⟨h1, h2⟩ := ho h; ⟨h1, decide_eq_true fun j hj => h2 j hj (by omega), fun j _ hj => absurd hj (by omega)⟩⟩ (Sub.r (Sub.r (Sub.r (Sub.r (Sub.r (Sub.cons rfl (by congr 1) (Sub.nil _)))))))
        (fun _ s => sep_keep [0, 0] rfl s) (fun ⟨i, ok2⟩ hinv => ?_)
    obtain ⟨hi, hp⟩ := hinv
    refine TC.seq (fun K13 hK13 => ?_)
    refine TC.region ?_
    refine TL.v (Want.plain rfl) rfl rfl (PV.lss rfl rfl rfl) ?_
    refine TL.dec (fun h27 => ?_) (fun h27 => ?_)
    · skip
      refine TL.nil ?_
      refine TE.next hK13 ?_
      clear hK13
      refine TC.seq (fun K14 hK14 => ?_)
      refine TC.yes rfl ?_
      refine TC.skip ?_
      refine TE.next hK14 ?_
      clear hK14
      refine TC.seq (fun K15 hK15 => ?_)
      refine TC.block ?_
      refine TC.seq (fun K16 hK16 => ?_)
      refine TC.region ?_
      refine TL.v (Want.plain rfl) rfl rfl (PV.move rfl rfl) ?_
      refine TL.v (Want.plain rfl) rfl rfl (PV.indexN (cs := ints (x.left.toList.flatMap fun v => flats v.toList)) (vs := ints (flats (x.left[i]'(by omega)).toList)) (r := i * 28) rfl Try.underlying36 Try.underlying35 rfl sz35 rfl rfl (by omega) (by omega) (by omega) (vs_sub vl_len x.left (i := i) 0 (by omega) (by omega) (by decide) (whole (vs4_len (x.left[i]'(by omega)))))) ?_
      refine TL.alloc (Want.plain rfl) rfl rfl rfl z35 (fun b8 => ?_)
      change TL _ _ _ _ _ _ _ _ _ [blkA b8 (ints (flats RowT.zero.cells.toList)) 35, blkA b1 (ints x.flat) 38, blkA b3 [(.bool (ok2))] 4]
      refine TL.v (Want.plain rfl) rfl rfl (PV.assign rfl rfl) ?_
      refine TL.store (vs := ints (flats (x.left[i]'(by omega)).toList)) (i := 0) (H' := [blkA b8 (ints (flats (x.left[i]'(by omega)).toList)) 35, blkA b1 (ints x.flat) 38, blkA b3 [(.bool (ok2))] 4]) (Want.plain rfl) rfl rfl rfl rfl rfl (by rw [(vs4_len (x.left[i]'(by omega)))]; exact sz35) (ints_one _) rfl rfl (by have h0 := (vs4_len RowT.zero.cells); have h1 := (vs4_len (x.left[i]'(by omega))); omega) (wwhole ((vs4_len RowT.zero.cells).trans (vs4_len (x.left[i]'(by omega))).symm)) rfl ?_
      refine TL.nil ?_
      refine TE.next hK16 ?_
      clear hK16
      refine TC.seq (fun K17 hK17 => ?_)
      refine TC.cut (α := (Bool)) (fun ok3 => ok3 = true → (0 ≤ x.version ∧ okCs x.cells = true ∧ ∀ (j : Nat) (h : j < 5), j < i → hokR x.heir[j] x.left[j] = true) ∧ 0 ≤ x.heir[i]'(by omega) ∧ (x.heir[i]'(by omega) = 0 → flats (x.left[i]'(by omega)).toList = flats RowT.zero.left[0].toList)) (fun ok3 => [(1, (.pointer (some ⟨b1, 0, none⟩))), (2, (.bool false)), (3, (.pointer (some ⟨b3, 0, none⟩))), (4, (.func (.func 35) #[] #[(.pointer (some ⟨b3, 0, none⟩))])), (8, (.pointer (some ⟨b8, 0, none⟩))), (25, (.agg (ints (x.left.toList.flatMap fun v => flats v.toList)).toArray)), (26, (.int .i64 (((i : Nat) : Int))))]) (fun ok3 => [blkA b1 (ints x.flat) 38, blkA b3 [(.bool (ok3))] 4, blkA b8 (ints (flats (x.left[i]'(by omega)).toList)) 35]) (fun ok3 hinv => ?_) (fun tl17 => ?_)
      · skip
        have hq := hinv
        refine TE.next hK17 ?_
        clear hK17
        refine TC.seq (fun K18 hK18 => ?_)
        refine TC.region ?_
        refine TL.v (Want.plain rfl) rfl rfl (PV.loadN (vs := ints (flats (x.left[i]'(by omega)).toList)) rfl Try.underlying35 rfl sz35 rfl (Rd.own 2 rfl rfl) (vs4_len (x.left[i]'(by omega))) (whole (vs4_len (x.left[i]'(by omega))))) ?_
        refine TL.v (Want.plain rfl) rfl rfl (PV.move rfl rfl) ?_
        refine TL.nil ?_
        refine TE.next hK18 ?_
        clear hK18
        refine TC.block ?_
        refine TC.loop (α := (Nat) × (Bool)) (fun ⟨k, ok4⟩ => k ≤ 4 ∧ (ok4 = true → ((0 ≤ x.version ∧ okCs x.cells = true ∧ ∀ (j : Nat) (h : j < 5), j < i → hokR x.heir[j] x.left[j] = true) ∧ 0 ≤ x.heir[i]'(by omega) ∧ (x.heir[i]'(by omega) = 0 → flats (x.left[i]'(by omega)).toList = flats RowT.zero.left[0].toList)) ∧ ∀ (j : Nat) (h : j < 4), j < k → okC (x.left[i]'(by omega))[j] = true)) (fun ⟨k, ok4⟩ => [(1, (.pointer (some ⟨b1, 0, none⟩))), (2, (.bool false)), (3, (.pointer (some ⟨b3, 0, none⟩))), (4, (.func (.func 35) #[] #[(.pointer (some ⟨b3, 0, none⟩))])), (25, (.agg (ints (x.left.toList.flatMap fun v => flats v.toList)).toArray)), (26, (.int .i64 (((i : Nat) : Int)))), (50, (.agg (ints (flats (x.left[i]'(by omega)).toList)).toArray)), (51, (.int .i64 (((k : Nat) : Int))))]) (fun ⟨k, ok4⟩ => [blkA b1 (ints x.flat) 38, blkA b3 [(.bool (ok4))] 4]) (fun ⟨k, ok4⟩ => 4 - k) (0, ok3)
            ⟨by omega, fun h => ⟨hq h, fun j _ hj => absurd hj (by omega)⟩⟩ (Sub.r (Sub.r (Sub.r (Sub.r (Sub.r (Sub.r (Sub.r (Sub.cons rfl (by congr 1) (Sub.nil _)))))))))
            (fun _ s => sep_keep [0, 0] rfl s) (fun ⟨k, ok4⟩ hinv => ?_)
        obtain ⟨hk, hs⟩ := hinv
        refine TC.seq (fun K19 hK19 => ?_)
        refine TC.region ?_
        refine TL.v (Want.plain rfl) rfl rfl (PV.lss rfl rfl rfl) ?_
        refine TL.dec (fun h52 => ?_) (fun h52 => ?_)
        · skip
          refine TL.nil ?_
          refine TE.next hK19 ?_
          clear hK19
          refine TC.seq (fun K20 hK20 => ?_)
          refine TC.yes rfl ?_
          refine TC.skip ?_
          refine TE.next hK20 ?_
          clear hK20
          refine TC.seq (fun K21 hK21 => ?_)
          refine TC.block ?_
          refine TC.seq (fun K22 hK22 => ?_)
          refine TC.region ?_
          refine TL.v (Want.plain rfl) rfl rfl (PV.indexN (cs := ints (flats (x.left[i]'(by omega)).toList)) (vs := ints ((x.left[i]'(by omega))[k]'(by omega)).flat) (r := k * 7) rfl Try.underlying35 Try.underlying34 rfl sz34 rfl rfl (by omega) (by omega) (by omega) (vs_sub CellT.flat_length (x.left[i]'(by omega)) (i := k) 0 (by omega) (by omega) (by decide) (whole (CellT.len ((x.left[i]'(by omega))[k]'(by omega)))))) ?_
          refine TL.alloc (Want.plain rfl) rfl rfl rfl z34 (fun b10 => ?_)
          change TL _ _ _ _ _ _ _ _ _ [blkA b10 (ints CellT.zero.flat) 34, blkA b1 (ints x.flat) 38, blkA b3 [(.bool (ok4))] 4]
          refine TL.store (vs := ints ((x.left[i]'(by omega))[k]'(by omega)).flat) (i := 0) (H' := [blkA b10 (ints ((x.left[i]'(by omega))[k]'(by omega)).flat) 34, blkA b1 (ints x.flat) 38, blkA b3 [(.bool (ok4))] 4]) (Want.plain rfl) rfl rfl rfl rfl rfl (by rw [(CellT.len ((x.left[i]'(by omega))[k]'(by omega)))]; exact sz34) (ints_one _) rfl rfl (by have h0 := (CellT.len CellT.zero); have h1 := (CellT.len ((x.left[i]'(by omega))[k]'(by omega))); omega) (wwhole ((CellT.len CellT.zero).trans (CellT.len ((x.left[i]'(by omega))[k]'(by omega))).symm)) rfl ?_
          refine TL.nil ?_
          refine TE.next hK22 ?_
          clear hK22
          refine TC.region ?_
          refine TL.v (Want.plain rfl) rfl rfl (PV.move rfl rfl) ?_
          refine TL.v (Want.plain rfl) rfl rfl (PV.loadN (vs := ints ((x.left[i]'(by omega))[k]'(by omega)).flat) rfl Try.underlying34 rfl sz34 rfl (Rd.own 0 rfl rfl) (CellT.len ((x.left[i]'(by omega))[k]'(by omega))) (whole (CellT.len ((x.left[i]'(by omega))[k]'(by omega))))) ?_
          refine TL.callRv (A := [blkA b3 [(.bool (ok4))] 4]) (B := [blkA b10 (ints ((x.left[i]'(by omega))[k]'(by omega)).flat) 34, blkA b1 (ints x.flat) 38]) (Want.plain rfl) rfl rfl rfl rfl nm35 rfl (right1_does b3 ((x.left[i]'(by omega))[k]'(by omega)) ok4) (fun _ s => sep_selR [2] rfl s) (fun _ _ _ => trivial) (fun vR HR hR => ?_)
          obtain ⟨okn1, rfl, rfl, hok1⟩ := hR
          change TL _ _ _ _ _ _ _ _ _ [blkA b3 [(.bool (okn1))] 4, blkA b10 (ints ((x.left[i]'(by omega))[k]'(by omega)).flat) 34, blkA b1 (ints x.flat) 38]
          refine TL.nil ?_
          refine TE.blockEnd ?_
          refine TE.next hK21 ?_
          clear hK21
          refine TC.region ?_
          refine TL.v (Want.plain rfl) rfl rfl (PV.add rfl rfl rfl (wrap_i64 (by omega) (by omega))) ?_
          refine TL.v (Want.plain rfl) rfl rfl (PV.move rfl rfl) ?_
          refine TL.nil ?_
          exact TE.round ((k + 1, okn1) : (Nat) × (Bool)) ⟨by omega, fun h => let ⟨h1, h2⟩ := hok1 h; let ⟨h3, h4⟩ := hs h1; ⟨h3, fun j hj hjk => by
          by_cases q : j = k
          · subst q; exact h2
          · exact h4 j hj (by omega)⟩⟩ (by show 4 - (k + 1) < 4 - k; omega)
            (Sub.r (Sub.r (Sub.r (Sub.r (Sub.r (Sub.r (Sub.r (Sub.cons rfl (by simp) (Sub.nil _)))))))))
            (fun _ s => sep_keep [2, 0] rfl s)
        · skip
          refine TL.nil ?_
          refine TE.next hK19 ?_
          clear hK19
          refine TC.seq (fun K23 hK23 => ?_)
          refine TC.no rfl ?_
          refine TC.exit ?_
          refine TE.pass ?_
          clear hK23
          refine TE.pass ?_
          refine TE.hit ?_
          refine TE.blockEnd ?_
          refine TE.next hK15 ?_
          clear hK15
          refine TC.region ?_
          refine TL.v (Want.plain rfl) rfl rfl (PV.add rfl rfl rfl (wrap_i64 (by omega) (by omega))) ?_
          refine TL.v (Want.plain rfl) rfl rfl (PV.move rfl rfl) ?_
          refine TL.nil ?_
          exact TE.round ((i + 1, ok4) : (Nat) × (Bool)) ⟨by omega, fun h => let ⟨⟨⟨h1, h2, h3⟩, h4, h5⟩, h6⟩ := hs h; ⟨h1, h2, fun j hj hji => by
        by_cases q : j = i
        · subst q; unfold hokR; rw [Bool.and_eq_true, Bool.and_eq_true, decide_eq_true_iff, decide_eq_true_iff]; exact ⟨⟨h4, decide_eq_true fun m hm => h6 m hm (by omega)⟩, h5⟩
        · exact h3 j hj (by omega)⟩⟩ (by show 5 - (i + 1) < 5 - i; omega)
            (Sub.r (Sub.r (Sub.r (Sub.r (Sub.r (Sub.cons rfl (by simp) (Sub.nil _)))))))
            (fun _ s => sep_keep [0, 0] rfl s)
      clear hK17
      refine TC.region ?_
      refine TL.v (Want.plain rfl) rfl rfl (PV.load1 (v := (.bool (ok2))) rfl Try.underlying4 rfl rfl (Rd.own 2 rfl rfl) rfl) ?_
      refine TL.decB (fun h30 => ?_) (fun h30 => ?_)
      · skip
        refine TL.v (Want.plain rfl) rfl rfl (PV.move rfl rfl) ?_
        refine TL.v (Want.met rfl rfl rfl) rfl rfl (PV.move rfl rfl) ?_
        refine TL.v (Want.met rfl rfl rfl) rfl rfl (PV.fieldAddr (r := 29) rfl Try.underlying38 rfl sz23 rfl rfl) ?_
        refine TL.v (Want.met rfl rfl rfl) rfl rfl (PV.indexArr (r := 29 + i) rfl Try.underlying23 sz3 rfl rfl (by omega) (by omega) (by omega)) ?_
        refine TL.v (Want.met rfl rfl rfl) rfl rfl (PV.load1 (v := (.int .i64 ((x.heir[i]'(by omega))))) rfl Try.underlying3 rfl rfl (Rd.own 1 rfl rfl) (RowT.pt_heir x i (by omega) (by omega) (vi_at x.heir (by omega)))) ?_
        refine TL.v (Want.met rfl rfl rfl) rfl rfl (PV.geq rfl rfl rfl) ?_
        refine TL.dec (fun h36 => ?_) (fun h36 => ?_)
        · skip
          refine TL.v (Want.plain rfl) rfl rfl (PV.pick rfl rfl rfl) ?_
          refine TL.v (Want.plain rfl) rfl rfl (PV.move rfl rfl) ?_
          refine TL.v (Want.met rfl rfl rfl) rfl rfl (PV.move rfl rfl) ?_
          refine TL.v (Want.met rfl rfl rfl) rfl rfl (PV.fieldAddr (r := 29) rfl Try.underlying38 rfl sz23 rfl rfl) ?_
          refine TL.v (Want.met rfl rfl rfl) rfl rfl (PV.indexArr (r := 29 + i) rfl Try.underlying23 sz3 rfl rfl (by omega) (by omega) (by omega)) ?_
          refine TL.v (Want.met rfl rfl rfl) rfl rfl (PV.load1 (v := (.int .i64 ((x.heir[i]'(by omega))))) rfl Try.underlying3 rfl rfl (Rd.own 1 rfl rfl) (RowT.pt_heir x i (by omega) (by omega) (vi_at x.heir (by omega)))) ?_
          refine TL.v (Want.met rfl rfl rfl) rfl rfl (PV.gtr rfl rfl rfl) ?_
          refine TL.dec (fun h43 => ?_) (fun h43 => ?_)
          · skip
            refine TL.v (Want.met rfl rfl rfl) rfl rfl (PV.move rfl rfl) ?_
            refine TL.unmet (b := true) rfl rfl rfl rfl (lb rfl) ?_
            refine TL.unmet (b := true) rfl rfl rfl rfl (lb rfl) ?_
            refine TL.unmet (b := true) rfl rfl rfl rfl (lb rfl) ?_
            refine TL.v (Want.met rfl rfl rfl) rfl rfl (PV.pick rfl rfl rfl) ?_
            refine TL.v (Want.plain rfl) rfl rfl (PV.pick rfl rfl rfl) ?_
            refine TL.store1 (i := 2) (H' := [blkA b8 (ints (flats (x.left[i]'(by omega)).toList)) 35, blkA b1 (ints x.flat) 38, blkA b3 [(.bool true)] 4]) (Want.plain rfl) rfl rfl rfl rfl rfl sz4 rfl rfl (lb rfl) rfl rfl ?_
            refine TL.nil ?_
            exact TE.weak
              (Sub.r (Sub.r (Sub.r (Sub.r (Sub.r (Sub.r (Sub.r (Sub.nil _))))))))
              (fun _ s => sep_keep [1, 1, 0] rfl s)
              (tl17 ((true) : (Bool)) (fun h => by first | exact ⟨hp h30, by omega, fun e => by first | omega | exact of_decide_eq_true h⟩ | cases h))
          · skip
            refine TL.v (Want.met rfl rfl rfl) rfl rfl (PV.move rfl rfl) ?_
            refine TL.v (Want.met rfl rfl rfl) rfl rfl (PV.loadN (vs := ints (flats (x.left[i]'(by omega)).toList)) rfl Try.underlying35 rfl sz35 rfl (Rd.own 0 rfl rfl) (vs4_len (x.left[i]'(by omega))) (whole (vs4_len (x.left[i]'(by omega))))) ?_
            refine TL.v (Want.met rfl rfl rfl) rfl rfl (PV.build (cells := (ints (flats RowT.zero.cells.toList)).toArray) rfl rfl (by as_aux_lemma => kernel_rfl)) ?_
            refine TL.v (Want.met rfl rfl rfl) rfl rfl (PV.eqlAgg (a := flats (x.left[i]'(by omega)).toList) (b := flats RowT.zero.cells.toList) (m := 6) (c := 28) sg35 sk35 rfl fI35 (ints_len (vs4_len (x.left[i]'(by omega)))) (ints_len (vs4_len RowT.zero.cells)) ⟨formed_ag fC35 cC35 (ints_len (vs4_len (x.left[i]'(by omega)))), formed_ag fC35 cC35 (ints_len (vs4_len RowT.zero.cells))⟩ (wf_left hw i (by omega)) wf_zl rfl rfl rfl) ?_
            refine TL.v (Want.met rfl rfl rfl) rfl rfl (PV.pick rfl rfl rfl) ?_
            refine TL.v (Want.plain rfl) rfl rfl (PV.pick rfl rfl rfl) ?_
            refine TL.store1 (i := 2) (H' := [blkA b8 (ints (flats (x.left[i]'(by omega)).toList)) 35, blkA b1 (ints x.flat) 38, blkA b3 [(.bool (decide ((flats (x.left[i]'(by omega)).toList) = (flats RowT.zero.cells.toList))))] 4]) (Want.plain rfl) rfl rfl rfl rfl rfl sz4 rfl rfl (lb rfl) rfl rfl ?_
            refine TL.nil ?_
            exact TE.weak
              (Sub.r (Sub.r (Sub.r (Sub.r (Sub.r (Sub.r (Sub.r (Sub.nil _))))))))
              (fun _ s => sep_keep [1, 1, 0] rfl s)
              (tl17 ((decide ((flats (x.left[i]'(by omega)).toList) = (flats RowT.zero.cells.toList))) : (Bool)) (fun h => by first | exact ⟨hp h30, by omega, fun e => by first | omega | exact of_decide_eq_true h⟩ | cases h))
        · skip
          refine TL.v (Want.plain rfl) rfl rfl (PV.pick rfl rfl rfl) ?_
          refine TL.v (Want.plain rfl) rfl rfl (PV.move rfl rfl) ?_
          refine TL.unmet (b := false) rfl rfl rfl rfl (lb rfl) ?_
          refine TL.unmet (b := false) rfl rfl rfl rfl (lb rfl) ?_
          refine TL.unmet (b := false) rfl rfl rfl rfl (lb rfl) ?_
          refine TL.unmet (b := false) rfl rfl rfl rfl (lb rfl) ?_
          refine TL.unmet (b := false) rfl rfl rfl rfl (lb rfl) ?_
          refine TL.unmet (b := false) rfl rfl rfl rfl (lb rfl) ?_
          refine TL.unmetU rfl rfl rfl rfl (lb rfl) ?_
          refine TL.unmetU rfl rfl rfl rfl (lb rfl) ?_
          refine TL.unmetU rfl rfl rfl rfl (lb rfl) ?_
          refine TL.unmet (b := false) rfl rfl rfl rfl (lb rfl) ?_
          refine TL.v (Want.plain rfl) rfl rfl (PV.pick rfl rfl rfl) ?_
          refine TL.store1 (i := 2) (H' := [blkA b8 (ints (flats (x.left[i]'(by omega)).toList)) 35, blkA b1 (ints x.flat) 38, blkA b3 [(.bool false)] 4]) (Want.plain rfl) rfl rfl rfl rfl rfl sz4 rfl rfl (lb rfl) rfl rfl ?_
          refine TL.nil ?_
          exact TE.weak
            (Sub.r (Sub.r (Sub.r (Sub.r (Sub.r (Sub.r (Sub.r (Sub.nil _))))))))
            (fun _ s => sep_keep [1, 1, 0] rfl s)
            (tl17 ((false) : (Bool)) (fun h => by first | exact ⟨hp h30, by omega, fun e => by first | omega | exact of_decide_eq_true h⟩ | cases h))
      · skip
        refine TL.v (Want.plain rfl) rfl rfl (PV.move rfl rfl) ?_
        refine TL.unmet (b := false) rfl rfl rfl rfl (lb rfl) ?_
        refine TL.unmet (b := false) rfl rfl rfl rfl (lb rfl) ?_
        refine TL.unmet (b := false) rfl rfl rfl rfl (lb rfl) ?_
        refine TL.unmet (b := false) rfl rfl rfl rfl (lb rfl) ?_
        refine TL.unmet (b := false) rfl rfl rfl rfl (lb rfl) ?_
        refine TL.v (Want.plain rfl) rfl rfl (PV.pick rfl rfl rfl) ?_
        refine TL.v (Want.plain rfl) rfl rfl (PV.move rfl rfl) ?_
        refine TL.unmet (b := false) rfl rfl rfl rfl (lb rfl) ?_
        refine TL.unmet (b := false) rfl rfl rfl rfl (lb rfl) ?_
        refine TL.unmet (b := false) rfl rfl rfl rfl (lb rfl) ?_
        refine TL.unmet (b := false) rfl rfl rfl rfl (lb rfl) ?_
        refine TL.unmet (b := false) rfl rfl rfl rfl (lb rfl) ?_
        refine TL.unmet (b := false) rfl rfl rfl rfl (lb rfl) ?_
        refine TL.unmetU rfl rfl rfl rfl (lb rfl) ?_
        refine TL.unmetU rfl rfl rfl rfl (lb rfl) ?_
        refine TL.unmetU rfl rfl rfl rfl (lb rfl) ?_
        refine TL.unmet (b := false) rfl rfl rfl rfl (lb rfl) ?_
        refine TL.v (Want.plain rfl) rfl rfl (PV.pick rfl rfl rfl) ?_
        refine TL.store1 (i := 2) (H' := [blkA b8 (ints (flats (x.left[i]'(by omega)).toList)) 35, blkA b1 (ints x.flat) 38, blkA b3 [(.bool false)] 4]) (Want.plain rfl) rfl rfl rfl rfl rfl sz4 rfl rfl (lb rfl) rfl rfl ?_
        refine TL.nil ?_
        exact TE.weak
          (Sub.r (Sub.r (Sub.r (Sub.r (Sub.r (Sub.r (Sub.r (Sub.nil _))))))))
          (fun _ s => sep_keep [1, 1, 0] rfl s)
          (tl17 ((false) : (Bool)) (fun h => by first | exact ⟨hp h30, by omega, fun e => by first | omega | exact of_decide_eq_true h⟩ | cases h))
    · skip
      refine TL.nil ?_
      refine TE.next hK13 ?_
      clear hK13
      refine TC.seq (fun K24 hK24 => ?_)
      refine TC.no rfl ?_
      refine TC.exit ?_
      refine TE.pass ?_
      clear hK24
      refine TE.pass ?_
      refine TE.hit ?_
      refine TE.next hK11 ?_
      clear hK11
      refine TC.seq (fun K25 hK25 => ?_)
      refine TC.region ?_
      refine TL.v (Want.plain rfl) rfl rfl (PV.load1 (v := (.bool (ok2))) rfl Try.underlying4 rfl rfl (Rd.own 1 rfl rfl) rfl) ?_
      refine TL.v (Want.plain rfl) rfl rfl (PV.assign rfl rfl) ?_
      refine TL.nil ?_
      refine TE.next hK25 ?_
      clear hK25
      refine TC.ret ?_
      refine TE.weak (Sub.refl _) (fun _ s => sep_keep [] rfl s) ?_
      refine TE.ret1 rfl rfl ?_
      exact ⟨ok2, rfl, fun h => by
        obtain ⟨h1, h2, h3⟩ := hp h
        unfold rightR
        rw [Bool.and_eq_true, Bool.and_eq_true, decide_eq_true_iff, decide_eq_true_iff]
        exact ⟨⟨h1, h2⟩, fun j hj => h3 j hj (by omega)⟩, rfl⟩


theorem tame1_does (b : BallotT) :
    Does Try.prog 36 #[(.agg (ints b.flat).toArray)] (fun _ => True) [] (Ret (fun r' H => r' = .agg (ints (tameB b).flat).toArray ∧ H = [])) := by
  refine Does.body (vs := [(.agg (ints b.flat).toArray)]) (n := 11) Try.func36 rfl rfl rfl (fun w0 F hF => ?_)
  refine TC.seq (fun K1 hK1 => ?_)
  refine TC.region ?_
  refine TL.box (Want.plain rfl) rfl rfl rfl rfl (fun b1 => ?_)
  change TL _ _ _ _ _ _ _ _ _ [blkA b1 (ints b.flat) 40]
  refine TL.alloc (Want.plain rfl) rfl rfl rfl z40 (fun b2 => ?_)
  change TL _ _ _ _ _ _ _ _ _ [blkA b2 (ints BallotT.zero.flat) 40, blkA b1 (ints b.flat) 40]
  refine TL.nil ?_
  refine TE.next hK1 ?_
  clear hK1
  refine TC.seq (fun K2 hK2 => ?_)
  refine TC.region ?_
  refine TL.v (Want.plain rfl) rfl rfl (PV.fieldAddr (r := 0) rfl Try.underlying40 rfl sz3 rfl rfl) ?_
  refine TL.v (Want.plain rfl) rfl rfl (PV.load1 (v := (.int .i64 (b.round))) rfl Try.underlying3 rfl rfl (Rd.own 1 rfl rfl) (BallotT.at_round b rfl)) ?_
  refine TL.v (Want.plain rfl) rfl rfl (PV.and (r := (b.round % 1024)) rfl rfl rfl (mask (k := 10) (by decide) _)) ?_
  refine TL.v (Want.plain rfl) rfl rfl (PV.fieldAddr (r := 1) rfl Try.underlying40 rfl sz3 rfl rfl) ?_
  refine TL.v (Want.plain rfl) rfl rfl (PV.load1 (v := (.int .i64 (b.who))) rfl Try.underlying3 rfl rfl (Rd.own 1 rfl rfl) (BallotT.at_who b rfl)) ?_
  refine TL.v (Want.plain rfl) rfl rfl (PV.and (r := (b.who % 256)) rfl rfl rfl (mask (k := 8) (by decide) _)) ?_
  refine TL.v (Want.plain rfl) rfl rfl (PV.rem (r := ((b.who % 256) % 5)) rfl rfl rfl (by omega) (rem_pos (by omega))) ?_
  refine TL.v (Want.plain rfl) rfl rfl (PV.buildSegs (cs := ints (BallotT.mk (b.round % 1024) ((b.who % 256) % 5)).flat) (segs := [[Value.int .i64 0], [Value.int .i64 0]]) (res := [[Value.int .i64 (b.round % 1024)], [Value.int .i64 ((b.who % 256) % 5)]]) (parts := [(0, [Value.int .i64 (b.round % 1024)]), (1, [Value.int .i64 ((b.who % 256) % 5)])]) rfl rfl Try.underlying40 (by kernel_rfl) (by kernel_rfl) rfl (putSegs_step rfl ((rfl : [Value.int .i64 (b.round % 1024)].length = 1).trans (rfl : [Value.int .i64 0].length = 1).symm) (putSegs_step rfl ((rfl : [Value.int .i64 ((b.who % 256) % 5)].length = 1).trans (rfl : [Value.int .i64 0].length = 1).symm) putSegs_nil)) (BallotT.eq (BallotT.mk (b.round % 1024) ((b.who % 256) % 5))).symm) ?_
  refine TL.store (vs := ints (BallotT.mk (b.round % 1024) ((b.who % 256) % 5)).flat) (i := 0) (H' := [blkA b2 (ints (BallotT.mk (b.round % 1024) ((b.who % 256) % 5)).flat) 40, blkA b1 (ints b.flat) 40]) (Want.plain rfl) rfl rfl rfl rfl rfl (by rw [(BallotT.len (BallotT.mk (b.round % 1024) ((b.who % 256) % 5)))]; exact sz40) (ints_one _) rfl rfl (by have h0 := (BallotT.len BallotT.zero); have h1 := (BallotT.len (BallotT.mk (b.round % 1024) ((b.who % 256) % 5))); omega) (wwhole ((BallotT.len BallotT.zero).trans (BallotT.len (BallotT.mk (b.round % 1024) ((b.who % 256) % 5))).symm)) rfl ?_
  refine TL.nil ?_
  refine TE.next hK2 ?_
  clear hK2
  refine TC.ret ?_
  refine TE.retC (H' := []) rfl rfl Try.underlying40 rfl sz40 (Rd.own 0 rfl rfl) (BallotT.len (BallotT.mk (b.round % 1024) ((b.who % 256) % 5))) (fun _ s => sep_keep [] rfl s) ?_
  exact ⟨rfl, rfl⟩


theorem tame_does (m : MsgT) (x : Value) (l : List ChangeT) :
    Does Try.prog 18 #[(.agg (ints m.flat).toArray), x] (IsL 3 EC x l) [] (Ret (fun r' H => r' = .agg (ints (tameM m (behindV l)).flat).toArray ∧ H = [])) := by
  refine Does.body (vs := [(.agg (ints m.flat).toArray), x]) (n := 110) Try.func18 rfl rfl rfl (fun w0 F hF => ?_)
  refine TC.seq (fun K1 hK1 => ?_)
  refine TC.region ?_
  refine TL.box (Want.plain rfl) rfl rfl rfl rfl (fun b2 => ?_)
  change TL _ _ _ _ _ _ _ _ _ [blkA b2 (ints m.flat) 44]
  refine TL.alloc (Want.plain rfl) rfl rfl rfl z44 (fun b4 => ?_)
  change TL _ _ _ _ _ _ _ _ _ [blkA b4 (ints MsgT.zero.flat) 44, blkA b2 (ints m.flat) 44]
  refine TL.nil ?_
  refine TE.next hK1 ?_
  clear hK1
  refine TC.seq (fun K2 hK2 => ?_)
  refine TC.region ?_
  refine TL.v (Want.plain rfl) rfl rfl (PV.fieldAddr (r := 0) rfl Try.underlying44 rfl sz3 rfl rfl) ?_
  refine TL.v (Want.plain rfl) rfl rfl (PV.load1 (v := (.int .i64 (m.kind))) rfl Try.underlying3 rfl rfl (Rd.own 1 rfl rfl) (MsgT.at_kind m rfl)) ?_
  refine TL.v (Want.plain rfl) rfl rfl (PV.and (r := (m.kind % 256)) rfl rfl rfl (mask (k := 8) (by decide) _)) ?_
  refine TL.v (Want.plain rfl) rfl rfl (PV.rem (r := ((m.kind % 256) % 10)) rfl rfl rfl (by omega) (rem_pos (by omega))) ?_
  refine TL.v (Want.plain rfl) rfl rfl (PV.buildSegs (cs := ints (MsgT.mk ((m.kind % 256) % 10) 0 RowT.zero 0 0 BallotT.zero BallotT.zero ChangeT.zero ViewT.zero).flat) (segs := [[Value.int .i64 0], [Value.int .i64 0], ints RowT.zero.flat, [Value.int .i64 0], [Value.int .i64 0], ints BallotT.zero.flat, ints BallotT.zero.flat, ints ChangeT.zero.flat, ints ViewT.zero.flat]) (res := [[Value.int .i64 ((m.kind % 256) % 10)], [Value.int .i64 0], ints RowT.zero.flat, [Value.int .i64 0], [Value.int .i64 0], ints BallotT.zero.flat, ints BallotT.zero.flat, ints ChangeT.zero.flat, ints ViewT.zero.flat]) (parts := [(0, [Value.int .i64 ((m.kind % 256) % 10)])]) rfl rfl Try.underlying44 (by kernel_rfl) (by kernel_rfl) rfl (putSegs_step rfl ((rfl : [Value.int .i64 ((m.kind % 256) % 10)].length = 1).trans (rfl : [Value.int .i64 0].length = 1).symm) putSegs_nil) (MsgT.eq (MsgT.mk ((m.kind % 256) % 10) 0 RowT.zero 0 0 BallotT.zero BallotT.zero ChangeT.zero ViewT.zero)).symm) ?_
  refine TL.alloc (Want.plain rfl) rfl rfl rfl z44 (fun b5 => ?_)
  change TL _ _ _ _ _ _ _ _ _ [blkA b5 (ints MsgT.zero.flat) 44, blkA b4 (ints MsgT.zero.flat) 44, blkA b2 (ints m.flat) 44]
  refine TL.store (vs := ints (MsgT.mk ((m.kind % 256) % 10) 0 RowT.zero 0 0 BallotT.zero BallotT.zero ChangeT.zero ViewT.zero).flat) (i := 0) (H' := [blkA b5 (ints (MsgT.mk ((m.kind % 256) % 10) 0 RowT.zero 0 0 BallotT.zero BallotT.zero ChangeT.zero ViewT.zero).flat) 44, blkA b4 (ints MsgT.zero.flat) 44, blkA b2 (ints m.flat) 44]) (Want.plain rfl) rfl rfl rfl rfl rfl (by rw [(MsgT.len (MsgT.mk ((m.kind % 256) % 10) 0 RowT.zero 0 0 BallotT.zero BallotT.zero ChangeT.zero ViewT.zero))]; exact sz44) (ints_one _) rfl rfl (by have h0 := (MsgT.len MsgT.zero); have h1 := (MsgT.len (MsgT.mk ((m.kind % 256) % 10) 0 RowT.zero 0 0 BallotT.zero BallotT.zero ChangeT.zero ViewT.zero)); omega) (wwhole ((MsgT.len MsgT.zero).trans (MsgT.len (MsgT.mk ((m.kind % 256) % 10) 0 RowT.zero 0 0 BallotT.zero BallotT.zero ChangeT.zero ViewT.zero)).symm)) rfl ?_
  refine TL.nil ?_
  refine TE.next hK2 ?_
  clear hK2
  refine TC.seq (fun K3 hK3 => ?_)
  refine TC.region ?_
  refine TL.v (Want.plain rfl) rfl rfl (PV.move rfl rfl) ?_
  refine TL.callR (A := []) (B := [blkA b5 (ints (MsgT.mk ((m.kind % 256) % 10) 0 RowT.zero 0 0 BallotT.zero BallotT.zero ChangeT.zero ViewT.zero).flat) 44, blkA b4 (ints MsgT.zero.flat) 44, blkA b2 (ints m.flat) 44]) (Want.plain rfl) rfl rfl rfl nm23 rfl (behind_does x l) (fun _ s => s) (fun _ d _ => IsL.more EC.more (hF) d) (fun vR HR hR => ?_)
  obtain ⟨nb, rfl, rfl⟩ := hR
  change TL _ _ _ _ _ _ _ _ _ [blkA b5 (ints (MsgT.mk ((m.kind % 256) % 10) 0 RowT.zero 0 0 BallotT.zero BallotT.zero ChangeT.zero ViewT.zero).flat) 44, blkA b4 (ints MsgT.zero.flat) 44, blkA b2 (ints m.flat) 44]
  refine TL.v (Want.plain rfl) rfl rfl (PV.move rfl rfl) ?_
  refine TL.v (Want.plain rfl) rfl rfl (PV.extract (vs := [(.agg (ints (behindV l).flat).toArray), (.int .i64 (nb))]) rfl rfl rfl) ?_
  refine TL.v (Want.plain rfl) rfl rfl (PV.extract (vs := [(.agg (ints (behindV l).flat).toArray), (.int .i64 (nb))]) rfl rfl rfl) ?_
  refine TL.alloc (Want.plain rfl) rfl rfl rfl z25 (fun b6 => ?_)
  change TL _ _ _ _ _ _ _ _ _ [blkA b6 (ints ViewT.zero.flat) 25, blkA b5 (ints (MsgT.mk ((m.kind % 256) % 10) 0 RowT.zero 0 0 BallotT.zero BallotT.zero ChangeT.zero ViewT.zero).flat) 44, blkA b4 (ints MsgT.zero.flat) 44, blkA b2 (ints m.flat) 44]
  refine TL.store (vs := ints (behindV l).flat) (i := 0) (H' := [blkA b6 (ints (behindV l).flat) 25, blkA b5 (ints (MsgT.mk ((m.kind % 256) % 10) 0 RowT.zero 0 0 BallotT.zero BallotT.zero ChangeT.zero ViewT.zero).flat) 44, blkA b4 (ints MsgT.zero.flat) 44, blkA b2 (ints m.flat) 44]) (Want.plain rfl) rfl rfl rfl rfl rfl (by rw [(ViewT.len (behindV l))]; exact sz25) (ints_one _) rfl rfl (by have h0 := (ViewT.len ViewT.zero); have h1 := (ViewT.len (behindV l)); omega) (wwhole ((ViewT.len ViewT.zero).trans (ViewT.len (behindV l)).symm)) rfl ?_
  refine TL.v (Want.plain rfl) rfl rfl (PV.assign rfl rfl) ?_
  refine TL.nil ?_
  refine TE.next hK3 ?_
  clear hK3
  refine TC.seq (fun K4 hK4 => ?_)
  refine TC.region ?_
  refine TL.v (Want.plain rfl) rfl rfl (PV.assign rfl rfl) ?_
  refine TL.nil ?_
  refine TE.next hK4 ?_
  clear hK4
  refine TC.seq (fun K5 hK5 => ?_)
  refine TC.region ?_
  refine TL.v (Want.plain rfl) rfl rfl (PV.fieldAddr (r := 182) rfl Try.underlying44 rfl sz42 rfl rfl) ?_
  refine TL.v (Want.plain rfl) rfl rfl (PV.fieldAddr (r := 182) rfl Try.underlying42 rfl sz3 rfl rfl) ?_
  refine TL.v (Want.plain rfl) rfl rfl (PV.load1 (v := (.int .i64 (m.change.kind))) rfl Try.underlying3 rfl rfl (Rd.own 3 rfl rfl) (MsgT.pt_change m 0 rfl (by decide) (ChangeT.at_kind m.change rfl))) ?_
  refine TL.v (Want.plain rfl) rfl rfl (PV.and (r := (m.change.kind % 2)) rfl rfl rfl (mask (k := 1) (by decide) _)) ?_
  refine TL.v (Want.plain rfl) rfl rfl (PV.fieldAddr (r := 182) rfl Try.underlying44 rfl sz42 rfl rfl) ?_
  refine TL.v (Want.plain rfl) rfl rfl (PV.fieldAddr (r := 183) rfl Try.underlying42 rfl sz3 rfl rfl) ?_
  refine TL.v (Want.plain rfl) rfl rfl (PV.load1 (v := (.int .i64 (m.change.who))) rfl Try.underlying3 rfl rfl (Rd.own 3 rfl rfl) (MsgT.pt_change m 1 rfl (by decide) (ChangeT.at_who m.change rfl))) ?_
  refine TL.v (Want.plain rfl) rfl rfl (PV.and (r := (m.change.who % 256)) rfl rfl rfl (mask (k := 8) (by decide) _)) ?_
  refine TL.v (Want.plain rfl) rfl rfl (PV.rem (r := ((m.change.who % 256) % 5)) rfl rfl rfl (by omega) (rem_pos (by omega))) ?_
  refine TL.v (Want.plain rfl) rfl rfl (PV.fieldAddr (r := 182) rfl Try.underlying44 rfl sz42 rfl rfl) ?_
  refine TL.v (Want.plain rfl) rfl rfl (PV.fieldAddr (r := 184) rfl Try.underlying42 rfl sz3 rfl rfl) ?_
  refine TL.v (Want.plain rfl) rfl rfl (PV.load1 (v := (.int .i64 (m.change.heir))) rfl Try.underlying3 rfl rfl (Rd.own 3 rfl rfl) (MsgT.pt_change m 2 rfl (by decide) (ChangeT.at_heir m.change rfl))) ?_
  refine TL.v (Want.plain rfl) rfl rfl (PV.and (r := (m.change.heir % 256)) rfl rfl rfl (mask (k := 8) (by decide) _)) ?_
  refine TL.v (Want.plain rfl) rfl rfl (PV.rem (r := ((m.change.heir % 256) % 5)) rfl rfl rfl (by omega) (rem_pos (by omega))) ?_
  refine TL.v (Want.plain rfl) rfl rfl (PV.buildSegs (cs := ints (ChangeT.mk (m.change.kind % 2) ((m.change.who % 256) % 5) ((m.change.heir % 256) % 5)).flat) (segs := [[Value.int .i64 0], [Value.int .i64 0], [Value.int .i64 0]]) (res := [[Value.int .i64 (m.change.kind % 2)], [Value.int .i64 ((m.change.who % 256) % 5)], [Value.int .i64 ((m.change.heir % 256) % 5)]]) (parts := [(0, [Value.int .i64 (m.change.kind % 2)]), (1, [Value.int .i64 ((m.change.who % 256) % 5)]), (2, [Value.int .i64 ((m.change.heir % 256) % 5)])]) rfl rfl Try.underlying42 (by kernel_rfl) (by kernel_rfl) rfl (putSegs_step rfl ((rfl : [Value.int .i64 (m.change.kind % 2)].length = 1).trans (rfl : [Value.int .i64 0].length = 1).symm) (putSegs_step rfl ((rfl : [Value.int .i64 ((m.change.who % 256) % 5)].length = 1).trans (rfl : [Value.int .i64 0].length = 1).symm) (putSegs_step rfl ((rfl : [Value.int .i64 ((m.change.heir % 256) % 5)].length = 1).trans (rfl : [Value.int .i64 0].length = 1).symm) putSegs_nil))) (ChangeT.eq (ChangeT.mk (m.change.kind % 2) ((m.change.who % 256) % 5) ((m.change.heir % 256) % 5))).symm) ?_
  refine TL.alloc (Want.plain rfl) rfl rfl rfl z42 (fun b9 => ?_)
  change TL _ _ _ _ _ _ _ _ _ [blkA b9 (ints ChangeT.zero.flat) 42, blkA b6 (ints (behindV l).flat) 25, blkA b5 (ints (MsgT.mk ((m.kind % 256) % 10) 0 RowT.zero 0 0 BallotT.zero BallotT.zero ChangeT.zero ViewT.zero).flat) 44, blkA b4 (ints MsgT.zero.flat) 44, blkA b2 (ints m.flat) 44]
  refine TL.store (vs := ints (ChangeT.mk (m.change.kind % 2) ((m.change.who % 256) % 5) ((m.change.heir % 256) % 5)).flat) (i := 0) (H' := [blkA b9 (ints (ChangeT.mk (m.change.kind % 2) ((m.change.who % 256) % 5) ((m.change.heir % 256) % 5)).flat) 42, blkA b6 (ints (behindV l).flat) 25, blkA b5 (ints (MsgT.mk ((m.kind % 256) % 10) 0 RowT.zero 0 0 BallotT.zero BallotT.zero ChangeT.zero ViewT.zero).flat) 44, blkA b4 (ints MsgT.zero.flat) 44, blkA b2 (ints m.flat) 44]) (Want.plain rfl) rfl rfl rfl rfl rfl (by rw [(ChangeT.len (ChangeT.mk (m.change.kind % 2) ((m.change.who % 256) % 5) ((m.change.heir % 256) % 5)))]; exact sz42) (ints_one _) rfl rfl (by have h0 := (ChangeT.len ChangeT.zero); have h1 := (ChangeT.len (ChangeT.mk (m.change.kind % 2) ((m.change.who % 256) % 5) ((m.change.heir % 256) % 5))); omega) (wwhole ((ChangeT.len ChangeT.zero).trans (ChangeT.len (ChangeT.mk (m.change.kind % 2) ((m.change.who % 256) % 5) ((m.change.heir % 256) % 5))).symm)) rfl ?_
  refine TL.nil ?_
  refine TE.next hK5 ?_
  clear hK5
  refine TC.seq (fun K6 hK6 => ?_)
  refine TC.seq (fun K7 hK7 => ?_)
  refine TC.region ?_
  refine TL.v (Want.plain rfl) rfl rfl (PV.fieldAddr (r := 0) rfl Try.underlying44 rfl sz3 rfl rfl) ?_
  refine TL.v (Want.plain rfl) rfl rfl (PV.load1 (v := (.int .i64 (((m.kind % 256) % 10)))) rfl Try.underlying3 rfl rfl (Rd.own 2 rfl rfl) (MsgT.at_kind (MsgT.mk ((m.kind % 256) % 10) 0 RowT.zero 0 0 BallotT.zero BallotT.zero ChangeT.zero ViewT.zero) rfl)) ?_
  refine TL.nil ?_
  refine TE.next hK7 ?_
  clear hK7
  refine TC.block ?_
  refine TC.seq (fun K8 hK8 => ?_)
  refine TC.seq (fun K9 hK9 => ?_)
  refine TC.region ?_
  refine TL.v (Want.plain rfl) rfl rfl (PV.eql rfl rfl rfl) ?_
  refine TL.v (Want.plain rfl) rfl rfl (PV.assign rfl rfl) ?_
  refine TL.dec (fun h44 => ?_) (fun h44 => ?_)
  · skip
    refine TL.nil ?_
    refine TE.next hK9 ?_
    clear hK9
    refine TC.yes rfl ?_
    refine TC.skip ?_
    refine TE.next hK8 ?_
    clear hK8
    refine TC.yes rfl ?_
    refine TC.draw (fun w => Frm F w ∧ w.heap[b2]? = some (.cells (ints m.flat).toArray 44 (0, 0)) ∧ True) mixed rfl (fun _ s => ⟨Frm.of s, s.block 4 (lb rfl) rfl, trivial⟩) ?_
    refine TD.take (i := 0) rfl (by kernel_rfl) (by kernel_rfl) (by kernel_rfl) (fun _ _ _ _ h => h) (Want.plain rfl) rfl rfl (PV.fieldAddr (r := 1) rfl Try.underlying44 rfl sz3 rfl rfl) ?_
    refine TD.take (i := 1) rfl (by kernel_rfl) (by kernel_rfl) (by kernel_rfl) (fun _ _ _ _ h => h) (Want.plain rfl) rfl rfl (PV.load1 (v := (.int .i64 (m.whose))) rfl Try.underlying3 rfl rfl (fun _ h => h.2.1) (MsgT.at_whose m rfl)) ?_
    refine TD.take (i := 2) rfl (by kernel_rfl) (by kernel_rfl) (by kernel_rfl) (fun _ _ _ _ h => h) (Want.plain rfl) rfl rfl (PV.and (r := (m.whose % 256)) rfl rfl rfl (mask (k := 8) (by decide) _)) ?_
    refine TD.take (i := 3) rfl (by kernel_rfl) (by kernel_rfl) (by kernel_rfl) (fun _ _ _ _ h => h) (Want.plain rfl) rfl rfl (PV.rem (r := ((m.whose % 256) % 5)) rfl rfl rfl (by omega) (rem_pos (by omega))) ?_
    refine TD.take (i := 4) rfl (by kernel_rfl) (by kernel_rfl) (by kernel_rfl) (fun _ _ _ _ h => h) (Want.plain rfl) rfl rfl (PV.fieldAddr (r := 2) rfl Try.underlying44 rfl sz38 rfl rfl) ?_
    refine TD.take (i := 5) rfl (by kernel_rfl) (by kernel_rfl) (by kernel_rfl) (fun _ _ _ _ h => h) (Want.plain rfl) rfl rfl (PV.loadN (vs := ints m.row.flat) rfl Try.underlying38 rfl sz38 rfl (fun _ h => h.2.1) (RowT.len m.row) (MsgT.sub_row m 0 rfl (by decide) (whole (RowT.len m.row)))) ?_
    refine TD.take (i := 6) rfl (by kernel_rfl) (by kernel_rfl) (by kernel_rfl) (fun _ _ _ _ h => h) (Want.plain rfl) rfl rfl (PV.fieldAddr (r := 1) rfl Try.underlying44 rfl sz3 rfl rfl) ?_
    refine TD.all [7] (by kernel_rfl) rfl ?_
    refine AllT.cons rfl ?_ ?_
    · skip
      refine TL.store1 (i := 2) (H' := [blkA b9 (ints (ChangeT.mk (m.change.kind % 2) ((m.change.who % 256) % 5) ((m.change.heir % 256) % 5)).flat) 42, blkA b6 (ints (behindV l).flat) 25, blkA b5 (ints (MsgT.mk ((m.kind % 256) % 10) ((m.whose % 256) % 5) RowT.zero 0 0 BallotT.zero BallotT.zero ChangeT.zero ViewT.zero).flat) 44, blkA b4 (ints MsgT.zero.flat) 44, blkA b2 (ints m.flat) 44]) (Want.plain rfl) rfl rfl rfl rfl rfl sz3 rfl rfl (by have h0 := (MsgT.len (MsgT.mk ((m.kind % 256) % 10) 0 RowT.zero 0 0 BallotT.zero BallotT.zero ChangeT.zero ViewT.zero)); omega) (MsgT.set_whose (MsgT.mk ((m.kind % 256) % 10) 0 RowT.zero 0 0 BallotT.zero BallotT.zero ChangeT.zero ViewT.zero) rfl _) rfl ?_
      refine TL.nil ?_
      refine TE.draw (fun _ s => ⟨Frm.of s, s.block 4 (lb rfl) rfl, trivial⟩) ?_
      refine TD.take (i := 8) rfl (by kernel_rfl) (by kernel_rfl) (by kernel_rfl) (fun _ _ _ _ h => h) (Want.plain rfl) rfl rfl (PV.fieldAddr (r := 2) rfl Try.underlying44 rfl sz38 rfl rfl) ?_
      refine TD.all [9] (by kernel_rfl) rfl ?_
      refine AllT.cons rfl ?_ ?_
      · skip
        refine TL.store (vs := ints m.row.flat) (i := 2) (H' := [blkA b9 (ints (ChangeT.mk (m.change.kind % 2) ((m.change.who % 256) % 5) ((m.change.heir % 256) % 5)).flat) 42, blkA b6 (ints (behindV l).flat) 25, blkA b5 (ints (MsgT.mk ((m.kind % 256) % 10) ((m.whose % 256) % 5) m.row 0 0 BallotT.zero BallotT.zero ChangeT.zero ViewT.zero).flat) 44, blkA b4 (ints MsgT.zero.flat) 44, blkA b2 (ints m.flat) 44]) (Want.plain rfl) rfl rfl rfl rfl rfl (by rw [(RowT.len m.row)]; exact sz38) (ints_one _) rfl rfl (by have h0 := (MsgT.len (MsgT.mk ((m.kind % 256) % 10) ((m.whose % 256) % 5) RowT.zero 0 0 BallotT.zero BallotT.zero ChangeT.zero ViewT.zero)); have h1 := (RowT.len m.row); omega) (MsgT.wr_row_ (MsgT.mk ((m.kind % 256) % 10) ((m.whose % 256) % 5) RowT.zero 0 0 BallotT.zero BallotT.zero ChangeT.zero ViewT.zero) 0 rfl (by have h1 := (RowT.len m.row); omega) (wwhole ((RowT.len RowT.zero).trans (RowT.len m.row).symm))) rfl ?_
        refine TL.nil ?_
        refine TE.draw (fun _ s => ⟨Frm.of s, s.block 4 (lb rfl) rfl, trivial⟩) ?_
        refine TD.done (by kernel_rfl) ?_
        refine TE.blockEnd ?_
        refine TE.next hK6 ?_
        clear hK6
        refine TC.seq (fun K10 hK10 => ?_)
        refine TC.region ?_
        refine TL.v (Want.plain rfl) rfl rfl (PV.loadN (vs := ints (MsgT.mk ((m.kind % 256) % 10) ((m.whose % 256) % 5) m.row 0 0 BallotT.zero BallotT.zero ChangeT.zero ViewT.zero).flat) rfl Try.underlying44 rfl sz44 rfl (Rd.own 2 rfl rfl) (MsgT.len (MsgT.mk ((m.kind % 256) % 10) ((m.whose % 256) % 5) m.row 0 0 BallotT.zero BallotT.zero ChangeT.zero ViewT.zero)) (whole (MsgT.len (MsgT.mk ((m.kind % 256) % 10) ((m.whose % 256) % 5) m.row 0 0 BallotT.zero BallotT.zero ChangeT.zero ViewT.zero)))) ?_
        refine TL.store (vs := ints (MsgT.mk ((m.kind % 256) % 10) ((m.whose % 256) % 5) m.row 0 0 BallotT.zero BallotT.zero ChangeT.zero ViewT.zero).flat) (i := 3) (H' := [blkA b9 (ints (ChangeT.mk (m.change.kind % 2) ((m.change.who % 256) % 5) ((m.change.heir % 256) % 5)).flat) 42, blkA b6 (ints (behindV l).flat) 25, blkA b5 (ints (MsgT.mk ((m.kind % 256) % 10) ((m.whose % 256) % 5) m.row 0 0 BallotT.zero BallotT.zero ChangeT.zero ViewT.zero).flat) 44, blkA b4 (ints (MsgT.mk ((m.kind % 256) % 10) ((m.whose % 256) % 5) m.row 0 0 BallotT.zero BallotT.zero ChangeT.zero ViewT.zero).flat) 44, blkA b2 (ints m.flat) 44]) (Want.plain rfl) rfl rfl rfl rfl rfl (by rw [(MsgT.len (MsgT.mk ((m.kind % 256) % 10) ((m.whose % 256) % 5) m.row 0 0 BallotT.zero BallotT.zero ChangeT.zero ViewT.zero))]; exact sz44) (ints_one _) rfl rfl (by have h0 := (MsgT.len MsgT.zero); have h1 := (MsgT.len (MsgT.mk ((m.kind % 256) % 10) ((m.whose % 256) % 5) m.row 0 0 BallotT.zero BallotT.zero ChangeT.zero ViewT.zero)); omega) (wwhole ((MsgT.len MsgT.zero).trans (MsgT.len (MsgT.mk ((m.kind % 256) % 10) ((m.whose % 256) % 5) m.row 0 0 BallotT.zero BallotT.zero ChangeT.zero ViewT.zero)).symm)) rfl ?_
        refine TL.nil ?_
        refine TE.next hK10 ?_
        clear hK10
        refine TC.ret ?_
        refine TE.retC (H' := []) rfl rfl Try.underlying44 rfl sz44 (Rd.own 3 rfl rfl) (MsgT.len (MsgT.mk ((m.kind % 256) % 10) ((m.whose % 256) % 5) m.row 0 0 BallotT.zero BallotT.zero ChangeT.zero ViewT.zero)) (fun _ s => sep_keep [] rfl s) ?_
        refine ⟨?_, rfl⟩
        simp [tameM, normM, fullM, kRow, kAsk, tameB, tameG, MsgT.zero, h44, *]
      exact AllT.nil
    exact AllT.nil
  · skip
    refine TL.nil ?_
    refine TE.next hK9 ?_
    clear hK9
    refine TC.no rfl ?_
    refine TC.seq (fun K11 hK11 => ?_)
    refine TC.region ?_
    refine TL.v (Want.plain rfl) rfl rfl (PV.eql rfl rfl rfl) ?_
    refine TL.v (Want.plain rfl) rfl rfl (PV.assign rfl rfl) ?_
    refine TL.dec (fun h44 => ?_) (fun h44 => ?_)
    · skip
      refine TL.nil ?_
      refine TE.next hK11 ?_
      clear hK11
      refine TC.yes rfl ?_
      refine TC.skip ?_
      refine TE.next hK8 ?_
      clear hK8
      refine TC.yes rfl ?_
      refine TC.draw (fun w => Frm F w ∧ w.heap[b2]? = some (.cells (ints m.flat).toArray 44 (0, 0)) ∧ True) mixed rfl (fun _ s => ⟨Frm.of s, s.block 4 (lb rfl) rfl, trivial⟩) ?_
      refine TD.take (i := 0) rfl (by kernel_rfl) (by kernel_rfl) (by kernel_rfl) (fun _ _ _ _ h => h) (Want.plain rfl) rfl rfl (PV.fieldAddr (r := 1) rfl Try.underlying44 rfl sz3 rfl rfl) ?_
      refine TD.take (i := 1) rfl (by kernel_rfl) (by kernel_rfl) (by kernel_rfl) (fun _ _ _ _ h => h) (Want.plain rfl) rfl rfl (PV.load1 (v := (.int .i64 (m.whose))) rfl Try.underlying3 rfl rfl (fun _ h => h.2.1) (MsgT.at_whose m rfl)) ?_
      refine TD.take (i := 2) rfl (by kernel_rfl) (by kernel_rfl) (by kernel_rfl) (fun _ _ _ _ h => h) (Want.plain rfl) rfl rfl (PV.and (r := (m.whose % 256)) rfl rfl rfl (mask (k := 8) (by decide) _)) ?_
      refine TD.take (i := 3) rfl (by kernel_rfl) (by kernel_rfl) (by kernel_rfl) (fun _ _ _ _ h => h) (Want.plain rfl) rfl rfl (PV.rem (r := ((m.whose % 256) % 5)) rfl rfl rfl (by omega) (rem_pos (by omega))) ?_
      refine TD.take (i := 4) rfl (by kernel_rfl) (by kernel_rfl) (by kernel_rfl) (fun _ _ _ _ h => h) (Want.plain rfl) rfl rfl (PV.fieldAddr (r := 2) rfl Try.underlying44 rfl sz38 rfl rfl) ?_
      refine TD.take (i := 5) rfl (by kernel_rfl) (by kernel_rfl) (by kernel_rfl) (fun _ _ _ _ h => h) (Want.plain rfl) rfl rfl (PV.loadN (vs := ints m.row.flat) rfl Try.underlying38 rfl sz38 rfl (fun _ h => h.2.1) (RowT.len m.row) (MsgT.sub_row m 0 rfl (by decide) (whole (RowT.len m.row)))) ?_
      refine TD.take (i := 6) rfl (by kernel_rfl) (by kernel_rfl) (by kernel_rfl) (fun _ _ _ _ h => h) (Want.plain rfl) rfl rfl (PV.fieldAddr (r := 1) rfl Try.underlying44 rfl sz3 rfl rfl) ?_
      refine TD.all [7] (by kernel_rfl) rfl ?_
      refine AllT.cons rfl ?_ ?_
      · skip
        refine TL.store1 (i := 2) (H' := [blkA b9 (ints (ChangeT.mk (m.change.kind % 2) ((m.change.who % 256) % 5) ((m.change.heir % 256) % 5)).flat) 42, blkA b6 (ints (behindV l).flat) 25, blkA b5 (ints (MsgT.mk ((m.kind % 256) % 10) ((m.whose % 256) % 5) RowT.zero 0 0 BallotT.zero BallotT.zero ChangeT.zero ViewT.zero).flat) 44, blkA b4 (ints MsgT.zero.flat) 44, blkA b2 (ints m.flat) 44]) (Want.plain rfl) rfl rfl rfl rfl rfl sz3 rfl rfl (by have h0 := (MsgT.len (MsgT.mk ((m.kind % 256) % 10) 0 RowT.zero 0 0 BallotT.zero BallotT.zero ChangeT.zero ViewT.zero)); omega) (MsgT.set_whose (MsgT.mk ((m.kind % 256) % 10) 0 RowT.zero 0 0 BallotT.zero BallotT.zero ChangeT.zero ViewT.zero) rfl _) rfl ?_
        refine TL.nil ?_
        refine TE.draw (fun _ s => ⟨Frm.of s, s.block 4 (lb rfl) rfl, trivial⟩) ?_
        refine TD.take (i := 8) rfl (by kernel_rfl) (by kernel_rfl) (by kernel_rfl) (fun _ _ _ _ h => h) (Want.plain rfl) rfl rfl (PV.fieldAddr (r := 2) rfl Try.underlying44 rfl sz38 rfl rfl) ?_
        refine TD.all [9] (by kernel_rfl) rfl ?_
        refine AllT.cons rfl ?_ ?_
        · skip
          refine TL.store (vs := ints m.row.flat) (i := 2) (H' := [blkA b9 (ints (ChangeT.mk (m.change.kind % 2) ((m.change.who % 256) % 5) ((m.change.heir % 256) % 5)).flat) 42, blkA b6 (ints (behindV l).flat) 25, blkA b5 (ints (MsgT.mk ((m.kind % 256) % 10) ((m.whose % 256) % 5) m.row 0 0 BallotT.zero BallotT.zero ChangeT.zero ViewT.zero).flat) 44, blkA b4 (ints MsgT.zero.flat) 44, blkA b2 (ints m.flat) 44]) (Want.plain rfl) rfl rfl rfl rfl rfl (by rw [(RowT.len m.row)]; exact sz38) (ints_one _) rfl rfl (by have h0 := (MsgT.len (MsgT.mk ((m.kind % 256) % 10) ((m.whose % 256) % 5) RowT.zero 0 0 BallotT.zero BallotT.zero ChangeT.zero ViewT.zero)); have h1 := (RowT.len m.row); omega) (MsgT.wr_row_ (MsgT.mk ((m.kind % 256) % 10) ((m.whose % 256) % 5) RowT.zero 0 0 BallotT.zero BallotT.zero ChangeT.zero ViewT.zero) 0 rfl (by have h1 := (RowT.len m.row); omega) (wwhole ((RowT.len RowT.zero).trans (RowT.len m.row).symm))) rfl ?_
          refine TL.nil ?_
          refine TE.draw (fun _ s => ⟨Frm.of s, s.block 4 (lb rfl) rfl, trivial⟩) ?_
          refine TD.done (by kernel_rfl) ?_
          refine TE.blockEnd ?_
          refine TE.next hK6 ?_
          clear hK6
          refine TC.seq (fun K12 hK12 => ?_)
          refine TC.region ?_
          refine TL.v (Want.plain rfl) rfl rfl (PV.loadN (vs := ints (MsgT.mk ((m.kind % 256) % 10) ((m.whose % 256) % 5) m.row 0 0 BallotT.zero BallotT.zero ChangeT.zero ViewT.zero).flat) rfl Try.underlying44 rfl sz44 rfl (Rd.own 2 rfl rfl) (MsgT.len (MsgT.mk ((m.kind % 256) % 10) ((m.whose % 256) % 5) m.row 0 0 BallotT.zero BallotT.zero ChangeT.zero ViewT.zero)) (whole (MsgT.len (MsgT.mk ((m.kind % 256) % 10) ((m.whose % 256) % 5) m.row 0 0 BallotT.zero BallotT.zero ChangeT.zero ViewT.zero)))) ?_
          refine TL.store (vs := ints (MsgT.mk ((m.kind % 256) % 10) ((m.whose % 256) % 5) m.row 0 0 BallotT.zero BallotT.zero ChangeT.zero ViewT.zero).flat) (i := 3) (H' := [blkA b9 (ints (ChangeT.mk (m.change.kind % 2) ((m.change.who % 256) % 5) ((m.change.heir % 256) % 5)).flat) 42, blkA b6 (ints (behindV l).flat) 25, blkA b5 (ints (MsgT.mk ((m.kind % 256) % 10) ((m.whose % 256) % 5) m.row 0 0 BallotT.zero BallotT.zero ChangeT.zero ViewT.zero).flat) 44, blkA b4 (ints (MsgT.mk ((m.kind % 256) % 10) ((m.whose % 256) % 5) m.row 0 0 BallotT.zero BallotT.zero ChangeT.zero ViewT.zero).flat) 44, blkA b2 (ints m.flat) 44]) (Want.plain rfl) rfl rfl rfl rfl rfl (by rw [(MsgT.len (MsgT.mk ((m.kind % 256) % 10) ((m.whose % 256) % 5) m.row 0 0 BallotT.zero BallotT.zero ChangeT.zero ViewT.zero))]; exact sz44) (ints_one _) rfl rfl (by have h0 := (MsgT.len MsgT.zero); have h1 := (MsgT.len (MsgT.mk ((m.kind % 256) % 10) ((m.whose % 256) % 5) m.row 0 0 BallotT.zero BallotT.zero ChangeT.zero ViewT.zero)); omega) (wwhole ((MsgT.len MsgT.zero).trans (MsgT.len (MsgT.mk ((m.kind % 256) % 10) ((m.whose % 256) % 5) m.row 0 0 BallotT.zero BallotT.zero ChangeT.zero ViewT.zero)).symm)) rfl ?_
          refine TL.nil ?_
          refine TE.next hK12 ?_
          clear hK12
          refine TC.ret ?_
          refine TE.retC (H' := []) rfl rfl Try.underlying44 rfl sz44 (Rd.own 3 rfl rfl) (MsgT.len (MsgT.mk ((m.kind % 256) % 10) ((m.whose % 256) % 5) m.row 0 0 BallotT.zero BallotT.zero ChangeT.zero ViewT.zero)) (fun _ s => sep_keep [] rfl s) ?_
          refine ⟨?_, rfl⟩
          simp [tameM, normM, fullM, kRow, kAsk, tameB, tameG, MsgT.zero, h44, h44, *]
        exact AllT.nil
      exact AllT.nil
    · skip
      refine TL.nil ?_
      refine TE.next hK11 ?_
      clear hK11
      refine TC.no rfl ?_
      refine TC.region ?_
      refine TL.v (Want.plain rfl) rfl rfl (PV.eql rfl rfl rfl) ?_
      refine TL.dec (fun h47 => ?_) (fun h47 => ?_)
      · skip
        refine TL.v (Want.plain rfl) rfl rfl (PV.assign rfl rfl) ?_
        refine TL.nil ?_
        refine TE.next hK8 ?_
        clear hK8
        refine TC.yes rfl ?_
        refine TC.draw (fun w => Frm F w ∧ w.heap[b2]? = some (.cells (ints m.flat).toArray 44 (0, 0)) ∧ True) mixed rfl (fun _ s => ⟨Frm.of s, s.block 4 (lb rfl) rfl, trivial⟩) ?_
        refine TD.take (i := 0) rfl (by kernel_rfl) (by kernel_rfl) (by kernel_rfl) (fun _ _ _ _ h => h) (Want.plain rfl) rfl rfl (PV.fieldAddr (r := 1) rfl Try.underlying44 rfl sz3 rfl rfl) ?_
        refine TD.take (i := 1) rfl (by kernel_rfl) (by kernel_rfl) (by kernel_rfl) (fun _ _ _ _ h => h) (Want.plain rfl) rfl rfl (PV.load1 (v := (.int .i64 (m.whose))) rfl Try.underlying3 rfl rfl (fun _ h => h.2.1) (MsgT.at_whose m rfl)) ?_
        refine TD.take (i := 2) rfl (by kernel_rfl) (by kernel_rfl) (by kernel_rfl) (fun _ _ _ _ h => h) (Want.plain rfl) rfl rfl (PV.and (r := (m.whose % 256)) rfl rfl rfl (mask (k := 8) (by decide) _)) ?_
        refine TD.take (i := 3) rfl (by kernel_rfl) (by kernel_rfl) (by kernel_rfl) (fun _ _ _ _ h => h) (Want.plain rfl) rfl rfl (PV.rem (r := ((m.whose % 256) % 5)) rfl rfl rfl (by omega) (rem_pos (by omega))) ?_
        refine TD.take (i := 4) rfl (by kernel_rfl) (by kernel_rfl) (by kernel_rfl) (fun _ _ _ _ h => h) (Want.plain rfl) rfl rfl (PV.fieldAddr (r := 2) rfl Try.underlying44 rfl sz38 rfl rfl) ?_
        refine TD.take (i := 5) rfl (by kernel_rfl) (by kernel_rfl) (by kernel_rfl) (fun _ _ _ _ h => h) (Want.plain rfl) rfl rfl (PV.loadN (vs := ints m.row.flat) rfl Try.underlying38 rfl sz38 rfl (fun _ h => h.2.1) (RowT.len m.row) (MsgT.sub_row m 0 rfl (by decide) (whole (RowT.len m.row)))) ?_
        refine TD.take (i := 6) rfl (by kernel_rfl) (by kernel_rfl) (by kernel_rfl) (fun _ _ _ _ h => h) (Want.plain rfl) rfl rfl (PV.fieldAddr (r := 1) rfl Try.underlying44 rfl sz3 rfl rfl) ?_
        refine TD.all [7] (by kernel_rfl) rfl ?_
        refine AllT.cons rfl ?_ ?_
        · skip
          refine TL.store1 (i := 2) (H' := [blkA b9 (ints (ChangeT.mk (m.change.kind % 2) ((m.change.who % 256) % 5) ((m.change.heir % 256) % 5)).flat) 42, blkA b6 (ints (behindV l).flat) 25, blkA b5 (ints (MsgT.mk ((m.kind % 256) % 10) ((m.whose % 256) % 5) RowT.zero 0 0 BallotT.zero BallotT.zero ChangeT.zero ViewT.zero).flat) 44, blkA b4 (ints MsgT.zero.flat) 44, blkA b2 (ints m.flat) 44]) (Want.plain rfl) rfl rfl rfl rfl rfl sz3 rfl rfl (by have h0 := (MsgT.len (MsgT.mk ((m.kind % 256) % 10) 0 RowT.zero 0 0 BallotT.zero BallotT.zero ChangeT.zero ViewT.zero)); omega) (MsgT.set_whose (MsgT.mk ((m.kind % 256) % 10) 0 RowT.zero 0 0 BallotT.zero BallotT.zero ChangeT.zero ViewT.zero) rfl _) rfl ?_
          refine TL.nil ?_
          refine TE.draw (fun _ s => ⟨Frm.of s, s.block 4 (lb rfl) rfl, trivial⟩) ?_
          refine TD.take (i := 8) rfl (by kernel_rfl) (by kernel_rfl) (by kernel_rfl) (fun _ _ _ _ h => h) (Want.plain rfl) rfl rfl (PV.fieldAddr (r := 2) rfl Try.underlying44 rfl sz38 rfl rfl) ?_
          refine TD.all [9] (by kernel_rfl) rfl ?_
          refine AllT.cons rfl ?_ ?_
          · skip
            refine TL.store (vs := ints m.row.flat) (i := 2) (H' := [blkA b9 (ints (ChangeT.mk (m.change.kind % 2) ((m.change.who % 256) % 5) ((m.change.heir % 256) % 5)).flat) 42, blkA b6 (ints (behindV l).flat) 25, blkA b5 (ints (MsgT.mk ((m.kind % 256) % 10) ((m.whose % 256) % 5) m.row 0 0 BallotT.zero BallotT.zero ChangeT.zero ViewT.zero).flat) 44, blkA b4 (ints MsgT.zero.flat) 44, blkA b2 (ints m.flat) 44]) (Want.plain rfl) rfl rfl rfl rfl rfl (by rw [(RowT.len m.row)]; exact sz38) (ints_one _) rfl rfl (by have h0 := (MsgT.len (MsgT.mk ((m.kind % 256) % 10) ((m.whose % 256) % 5) RowT.zero 0 0 BallotT.zero BallotT.zero ChangeT.zero ViewT.zero)); have h1 := (RowT.len m.row); omega) (MsgT.wr_row_ (MsgT.mk ((m.kind % 256) % 10) ((m.whose % 256) % 5) RowT.zero 0 0 BallotT.zero BallotT.zero ChangeT.zero ViewT.zero) 0 rfl (by have h1 := (RowT.len m.row); omega) (wwhole ((RowT.len RowT.zero).trans (RowT.len m.row).symm))) rfl ?_
            refine TL.nil ?_
            refine TE.draw (fun _ s => ⟨Frm.of s, s.block 4 (lb rfl) rfl, trivial⟩) ?_
            refine TD.done (by kernel_rfl) ?_
            refine TE.blockEnd ?_
            refine TE.next hK6 ?_
            clear hK6
            refine TC.seq (fun K13 hK13 => ?_)
            refine TC.region ?_
            refine TL.v (Want.plain rfl) rfl rfl (PV.loadN (vs := ints (MsgT.mk ((m.kind % 256) % 10) ((m.whose % 256) % 5) m.row 0 0 BallotT.zero BallotT.zero ChangeT.zero ViewT.zero).flat) rfl Try.underlying44 rfl sz44 rfl (Rd.own 2 rfl rfl) (MsgT.len (MsgT.mk ((m.kind % 256) % 10) ((m.whose % 256) % 5) m.row 0 0 BallotT.zero BallotT.zero ChangeT.zero ViewT.zero)) (whole (MsgT.len (MsgT.mk ((m.kind % 256) % 10) ((m.whose % 256) % 5) m.row 0 0 BallotT.zero BallotT.zero ChangeT.zero ViewT.zero)))) ?_
            refine TL.store (vs := ints (MsgT.mk ((m.kind % 256) % 10) ((m.whose % 256) % 5) m.row 0 0 BallotT.zero BallotT.zero ChangeT.zero ViewT.zero).flat) (i := 3) (H' := [blkA b9 (ints (ChangeT.mk (m.change.kind % 2) ((m.change.who % 256) % 5) ((m.change.heir % 256) % 5)).flat) 42, blkA b6 (ints (behindV l).flat) 25, blkA b5 (ints (MsgT.mk ((m.kind % 256) % 10) ((m.whose % 256) % 5) m.row 0 0 BallotT.zero BallotT.zero ChangeT.zero ViewT.zero).flat) 44, blkA b4 (ints (MsgT.mk ((m.kind % 256) % 10) ((m.whose % 256) % 5) m.row 0 0 BallotT.zero BallotT.zero ChangeT.zero ViewT.zero).flat) 44, blkA b2 (ints m.flat) 44]) (Want.plain rfl) rfl rfl rfl rfl rfl (by rw [(MsgT.len (MsgT.mk ((m.kind % 256) % 10) ((m.whose % 256) % 5) m.row 0 0 BallotT.zero BallotT.zero ChangeT.zero ViewT.zero))]; exact sz44) (ints_one _) rfl rfl (by have h0 := (MsgT.len MsgT.zero); have h1 := (MsgT.len (MsgT.mk ((m.kind % 256) % 10) ((m.whose % 256) % 5) m.row 0 0 BallotT.zero BallotT.zero ChangeT.zero ViewT.zero)); omega) (wwhole ((MsgT.len MsgT.zero).trans (MsgT.len (MsgT.mk ((m.kind % 256) % 10) ((m.whose % 256) % 5) m.row 0 0 BallotT.zero BallotT.zero ChangeT.zero ViewT.zero)).symm)) rfl ?_
            refine TL.nil ?_
            refine TE.next hK13 ?_
            clear hK13
            refine TC.ret ?_
            refine TE.retC (H' := []) rfl rfl Try.underlying44 rfl sz44 (Rd.own 3 rfl rfl) (MsgT.len (MsgT.mk ((m.kind % 256) % 10) ((m.whose % 256) % 5) m.row 0 0 BallotT.zero BallotT.zero ChangeT.zero ViewT.zero)) (fun _ s => sep_keep [] rfl s) ?_
            refine ⟨?_, rfl⟩
            simp [tameM, normM, fullM, kRow, kAsk, tameB, tameG, MsgT.zero, h44, h44, h47, *]
          exact AllT.nil
        exact AllT.nil
      · skip
        refine TL.v (Want.plain rfl) rfl rfl (PV.assign rfl rfl) ?_
        refine TL.nil ?_
        refine TE.next hK8 ?_
        clear hK8
        refine TC.no rfl ?_
        refine TC.seq (fun K14 hK14 => ?_)
        refine TC.region ?_
        refine TL.v (Want.plain rfl) rfl rfl (PV.eql rfl rfl rfl) ?_
        refine TL.dec (fun h57 => ?_) (fun h57 => ?_)
        · skip
          refine TL.v (Want.plain rfl) rfl rfl (PV.assign rfl rfl) ?_
          refine TL.nil ?_
          refine TE.next hK14 ?_
          clear hK14
          refine TC.yes rfl ?_
          refine TC.region ?_
          refine TL.v (Want.plain rfl) rfl rfl (PV.fieldAddr (r := 176) rfl Try.underlying44 rfl sz3 rfl rfl) ?_
          refine TL.v (Want.plain rfl) rfl rfl (PV.load1 (v := (.int .i64 (m.version))) rfl Try.underlying3 rfl rfl (Rd.own 4 rfl rfl) (MsgT.at_version m rfl)) ?_
          refine TL.v (Want.plain rfl) rfl rfl (PV.and (r := (m.version % 1024)) rfl rfl rfl (mask (k := 10) (by decide) _)) ?_
          refine TL.v (Want.plain rfl) rfl rfl (PV.fieldAddr (r := 176) rfl Try.underlying44 rfl sz3 rfl rfl) ?_
          refine TL.store1 (i := 2) (H' := [blkA b9 (ints (ChangeT.mk (m.change.kind % 2) ((m.change.who % 256) % 5) ((m.change.heir % 256) % 5)).flat) 42, blkA b6 (ints (behindV l).flat) 25, blkA b5 (ints (MsgT.mk ((m.kind % 256) % 10) 0 RowT.zero (m.version % 1024) 0 BallotT.zero BallotT.zero ChangeT.zero ViewT.zero).flat) 44, blkA b4 (ints MsgT.zero.flat) 44, blkA b2 (ints m.flat) 44]) (Want.plain rfl) rfl rfl rfl rfl rfl sz3 rfl rfl (by have h0 := (MsgT.len (MsgT.mk ((m.kind % 256) % 10) 0 RowT.zero 0 0 BallotT.zero BallotT.zero ChangeT.zero ViewT.zero)); omega) (MsgT.set_version (MsgT.mk ((m.kind % 256) % 10) 0 RowT.zero 0 0 BallotT.zero BallotT.zero ChangeT.zero ViewT.zero) rfl _) rfl ?_
          refine TL.nil ?_
          refine TE.blockEnd ?_
          refine TE.next hK6 ?_
          clear hK6
          refine TC.seq (fun K15 hK15 => ?_)
          refine TC.region ?_
          refine TL.v (Want.plain rfl) rfl rfl (PV.loadN (vs := ints (MsgT.mk ((m.kind % 256) % 10) 0 RowT.zero (m.version % 1024) 0 BallotT.zero BallotT.zero ChangeT.zero ViewT.zero).flat) rfl Try.underlying44 rfl sz44 rfl (Rd.own 2 rfl rfl) (MsgT.len (MsgT.mk ((m.kind % 256) % 10) 0 RowT.zero (m.version % 1024) 0 BallotT.zero BallotT.zero ChangeT.zero ViewT.zero)) (whole (MsgT.len (MsgT.mk ((m.kind % 256) % 10) 0 RowT.zero (m.version % 1024) 0 BallotT.zero BallotT.zero ChangeT.zero ViewT.zero)))) ?_
          refine TL.store (vs := ints (MsgT.mk ((m.kind % 256) % 10) 0 RowT.zero (m.version % 1024) 0 BallotT.zero BallotT.zero ChangeT.zero ViewT.zero).flat) (i := 3) (H' := [blkA b9 (ints (ChangeT.mk (m.change.kind % 2) ((m.change.who % 256) % 5) ((m.change.heir % 256) % 5)).flat) 42, blkA b6 (ints (behindV l).flat) 25, blkA b5 (ints (MsgT.mk ((m.kind % 256) % 10) 0 RowT.zero (m.version % 1024) 0 BallotT.zero BallotT.zero ChangeT.zero ViewT.zero).flat) 44, blkA b4 (ints (MsgT.mk ((m.kind % 256) % 10) 0 RowT.zero (m.version % 1024) 0 BallotT.zero BallotT.zero ChangeT.zero ViewT.zero).flat) 44, blkA b2 (ints m.flat) 44]) (Want.plain rfl) rfl rfl rfl rfl rfl (by rw [(MsgT.len (MsgT.mk ((m.kind % 256) % 10) 0 RowT.zero (m.version % 1024) 0 BallotT.zero BallotT.zero ChangeT.zero ViewT.zero))]; exact sz44) (ints_one _) rfl rfl (by have h0 := (MsgT.len MsgT.zero); have h1 := (MsgT.len (MsgT.mk ((m.kind % 256) % 10) 0 RowT.zero (m.version % 1024) 0 BallotT.zero BallotT.zero ChangeT.zero ViewT.zero)); omega) (wwhole ((MsgT.len MsgT.zero).trans (MsgT.len (MsgT.mk ((m.kind % 256) % 10) 0 RowT.zero (m.version % 1024) 0 BallotT.zero BallotT.zero ChangeT.zero ViewT.zero)).symm)) rfl ?_
          refine TL.nil ?_
          refine TE.next hK15 ?_
          clear hK15
          refine TC.ret ?_
          refine TE.retC (H' := []) rfl rfl Try.underlying44 rfl sz44 (Rd.own 3 rfl rfl) (MsgT.len (MsgT.mk ((m.kind % 256) % 10) 0 RowT.zero (m.version % 1024) 0 BallotT.zero BallotT.zero ChangeT.zero ViewT.zero)) (fun _ s => sep_keep [] rfl s) ?_
          refine ⟨?_, rfl⟩
          simp [tameM, normM, fullM, kRow, kAsk, tameB, tameG, MsgT.zero, h44, h44, h47, h57, *]
        · skip
          refine TL.v (Want.plain rfl) rfl rfl (PV.assign rfl rfl) ?_
          refine TL.nil ?_
          refine TE.next hK14 ?_
          clear hK14
          refine TC.no rfl ?_
          refine TC.seq (fun K16 hK16 => ?_)
          refine TC.seq (fun K17 hK17 => ?_)
          refine TC.region ?_
          refine TL.v (Want.plain rfl) rfl rfl (PV.eql rfl rfl rfl) ?_
          refine TL.v (Want.plain rfl) rfl rfl (PV.assign rfl rfl) ?_
          refine TL.dec (fun h62 => ?_) (fun h62 => ?_)
          · skip
            refine TL.nil ?_
            refine TE.next hK17 ?_
            clear hK17
            refine TC.yes rfl ?_
            refine TC.skip ?_
            refine TE.next hK16 ?_
            clear hK16
            refine TC.yes rfl ?_
            refine TC.draw (fun w => Frm F w ∧ w.heap[b2]? = some (.cells (ints m.flat).toArray 44 (0, 0)) ∧ True) mixed rfl (fun _ s => ⟨Frm.of s, s.block 4 (lb rfl) rfl, trivial⟩) ?_
            refine TD.take (i := 0) rfl (by kernel_rfl) (by kernel_rfl) (by kernel_rfl) (fun _ _ _ _ h => h) (Want.plain rfl) rfl rfl (PV.fieldAddr (r := 177) rfl Try.underlying44 rfl sz3 rfl rfl) ?_
            refine TD.take (i := 1) rfl (by kernel_rfl) (by kernel_rfl) (by kernel_rfl) (fun _ _ _ _ h => h) (Want.plain rfl) rfl rfl (PV.load1 (v := (.int .i64 (m.epoch))) rfl Try.underlying3 rfl rfl (fun _ h => h.2.1) (MsgT.at_epoch m rfl)) ?_
            refine TD.take (i := 2) rfl (by kernel_rfl) (by kernel_rfl) (by kernel_rfl) (fun _ _ _ _ h => h) (Want.plain rfl) rfl rfl (PV.and (r := (m.epoch % 1024)) rfl rfl rfl (mask (k := 10) (by decide) _)) ?_
            refine TD.take (i := 3) rfl (by kernel_rfl) (by kernel_rfl) (by kernel_rfl) (fun _ _ _ _ h => h) (Want.plain rfl) rfl rfl (PV.move rfl rfl) ?_
            refine TD.take (i := 4) rfl (by kernel_rfl) (by kernel_rfl) (by kernel_rfl) (fun _ _ _ _ h => h) (Want.plain rfl) rfl rfl (PV.fieldAddr (r := 178) rfl Try.underlying44 rfl sz40 rfl rfl) ?_
            refine TD.take (i := 5) rfl (by kernel_rfl) (by kernel_rfl) (by kernel_rfl) (fun _ _ _ _ h => h) (Want.plain rfl) rfl rfl (PV.loadN (vs := ints m.ballot.flat) rfl Try.underlying40 rfl sz40 rfl (fun _ h => h.2.1) (BallotT.len m.ballot) (MsgT.sub_ballot m 0 rfl (by decide) (whole (BallotT.len m.ballot)))) ?_
            refine TD.take (i := 7) rfl (by kernel_rfl) (by kernel_rfl) (by kernel_rfl) (fun _ _ _ _ h => h) (Want.plain rfl) rfl rfl (PV.fieldAddr (r := 177) rfl Try.underlying44 rfl sz3 rfl rfl) ?_
            refine TD.all [6] (by kernel_rfl) rfl ?_
            refine AllT.cons rfl ?_ ?_
            · skip
              refine TL.callRv (A := []) (B := [blkA b9 (ints (ChangeT.mk (m.change.kind % 2) ((m.change.who % 256) % 5) ((m.change.heir % 256) % 5)).flat) 42, blkA b6 (ints (behindV l).flat) 25, blkA b5 (ints (MsgT.mk ((m.kind % 256) % 10) 0 RowT.zero 0 0 BallotT.zero BallotT.zero ChangeT.zero ViewT.zero).flat) 44, blkA b4 (ints MsgT.zero.flat) 44, blkA b2 (ints m.flat) 44]) (Want.plain rfl) rfl rfl rfl rfl nm36 rfl (tame1_does m.ballot) (fun _ s => s) (fun _ _ _ => trivial) (fun vR HR hR => ?_)
              obtain ⟨rfl, rfl⟩ := hR
              change TL _ _ _ _ _ _ _ _ _ [blkA b9 (ints (ChangeT.mk (m.change.kind % 2) ((m.change.who % 256) % 5) ((m.change.heir % 256) % 5)).flat) 42, blkA b6 (ints (behindV l).flat) 25, blkA b5 (ints (MsgT.mk ((m.kind % 256) % 10) 0 RowT.zero 0 0 BallotT.zero BallotT.zero ChangeT.zero ViewT.zero).flat) 44, blkA b4 (ints MsgT.zero.flat) 44, blkA b2 (ints m.flat) 44]
              refine TL.nil ?_
              refine TE.draw (fun _ s => ⟨Frm.of s, s.block 4 (lb rfl) rfl, trivial⟩) ?_
              refine TD.all [8] (by kernel_rfl) rfl ?_
              refine AllT.cons rfl ?_ ?_
              · skip
                refine TL.store1 (i := 2) (H' := [blkA b9 (ints (ChangeT.mk (m.change.kind % 2) ((m.change.who % 256) % 5) ((m.change.heir % 256) % 5)).flat) 42, blkA b6 (ints (behindV l).flat) 25, blkA b5 (ints (MsgT.mk ((m.kind % 256) % 10) 0 RowT.zero 0 (m.epoch % 1024) BallotT.zero BallotT.zero ChangeT.zero ViewT.zero).flat) 44, blkA b4 (ints MsgT.zero.flat) 44, blkA b2 (ints m.flat) 44]) (Want.plain rfl) rfl rfl rfl rfl rfl sz3 rfl rfl (by have h0 := (MsgT.len (MsgT.mk ((m.kind % 256) % 10) 0 RowT.zero 0 0 BallotT.zero BallotT.zero ChangeT.zero ViewT.zero)); omega) (MsgT.set_epoch (MsgT.mk ((m.kind % 256) % 10) 0 RowT.zero 0 0 BallotT.zero BallotT.zero ChangeT.zero ViewT.zero) rfl _) rfl ?_
                refine TL.nil ?_
                refine TE.draw (fun _ s => ⟨Frm.of s, s.block 4 (lb rfl) rfl, trivial⟩) ?_
                refine TD.take (i := 9) rfl (by kernel_rfl) (by kernel_rfl) (by kernel_rfl) (fun _ _ _ _ h => h) (Want.plain rfl) rfl rfl (PV.fieldAddr (r := 178) rfl Try.underlying44 rfl sz40 rfl rfl) ?_
                refine TD.all [10] (by kernel_rfl) rfl ?_
                refine AllT.cons rfl ?_ ?_
                · skip
                  refine TL.store (vs := ints (tameB m.ballot).flat) (i := 2) (H' := [blkA b9 (ints (ChangeT.mk (m.change.kind % 2) ((m.change.who % 256) % 5) ((m.change.heir % 256) % 5)).flat) 42, blkA b6 (ints (behindV l).flat) 25, blkA b5 (ints (MsgT.mk ((m.kind % 256) % 10) 0 RowT.zero 0 (m.epoch % 1024) (tameB m.ballot) BallotT.zero ChangeT.zero ViewT.zero).flat) 44, blkA b4 (ints MsgT.zero.flat) 44, blkA b2 (ints m.flat) 44]) (Want.plain rfl) rfl rfl rfl rfl rfl (by rw [(BallotT.len (tameB m.ballot))]; exact sz40) (ints_one _) rfl rfl (by have h0 := (MsgT.len (MsgT.mk ((m.kind % 256) % 10) 0 RowT.zero 0 (m.epoch % 1024) BallotT.zero BallotT.zero ChangeT.zero ViewT.zero)); have h1 := (BallotT.len (tameB m.ballot)); omega) (MsgT.wr_ballot_ (MsgT.mk ((m.kind % 256) % 10) 0 RowT.zero 0 (m.epoch % 1024) BallotT.zero BallotT.zero ChangeT.zero ViewT.zero) 0 rfl (by have h1 := (BallotT.len (tameB m.ballot)); omega) (wwhole ((BallotT.len BallotT.zero).trans (BallotT.len (tameB m.ballot)).symm))) rfl ?_
                  refine TL.nil ?_
                  refine TE.draw (fun _ s => ⟨Frm.of s, s.block 4 (lb rfl) rfl, trivial⟩) ?_
                  refine TD.done (by kernel_rfl) ?_
                  refine TE.blockEnd ?_
                  refine TE.next hK6 ?_
                  clear hK6
                  refine TC.seq (fun K18 hK18 => ?_)
                  refine TC.region ?_
                  refine TL.v (Want.plain rfl) rfl rfl (PV.loadN (vs := ints (MsgT.mk ((m.kind % 256) % 10) 0 RowT.zero 0 (m.epoch % 1024) (tameB m.ballot) BallotT.zero ChangeT.zero ViewT.zero).flat) rfl Try.underlying44 rfl sz44 rfl (Rd.own 2 rfl rfl) (MsgT.len (MsgT.mk ((m.kind % 256) % 10) 0 RowT.zero 0 (m.epoch % 1024) (tameB m.ballot) BallotT.zero ChangeT.zero ViewT.zero)) (whole (MsgT.len (MsgT.mk ((m.kind % 256) % 10) 0 RowT.zero 0 (m.epoch % 1024) (tameB m.ballot) BallotT.zero ChangeT.zero ViewT.zero)))) ?_
                  refine TL.store (vs := ints (MsgT.mk ((m.kind % 256) % 10) 0 RowT.zero 0 (m.epoch % 1024) (tameB m.ballot) BallotT.zero ChangeT.zero ViewT.zero).flat) (i := 3) (H' := [blkA b9 (ints (ChangeT.mk (m.change.kind % 2) ((m.change.who % 256) % 5) ((m.change.heir % 256) % 5)).flat) 42, blkA b6 (ints (behindV l).flat) 25, blkA b5 (ints (MsgT.mk ((m.kind % 256) % 10) 0 RowT.zero 0 (m.epoch % 1024) (tameB m.ballot) BallotT.zero ChangeT.zero ViewT.zero).flat) 44, blkA b4 (ints (MsgT.mk ((m.kind % 256) % 10) 0 RowT.zero 0 (m.epoch % 1024) (tameB m.ballot) BallotT.zero ChangeT.zero ViewT.zero).flat) 44, blkA b2 (ints m.flat) 44]) (Want.plain rfl) rfl rfl rfl rfl rfl (by rw [(MsgT.len (MsgT.mk ((m.kind % 256) % 10) 0 RowT.zero 0 (m.epoch % 1024) (tameB m.ballot) BallotT.zero ChangeT.zero ViewT.zero))]; exact sz44) (ints_one _) rfl rfl (by have h0 := (MsgT.len MsgT.zero); have h1 := (MsgT.len (MsgT.mk ((m.kind % 256) % 10) 0 RowT.zero 0 (m.epoch % 1024) (tameB m.ballot) BallotT.zero ChangeT.zero ViewT.zero)); omega) (wwhole ((MsgT.len MsgT.zero).trans (MsgT.len (MsgT.mk ((m.kind % 256) % 10) 0 RowT.zero 0 (m.epoch % 1024) (tameB m.ballot) BallotT.zero ChangeT.zero ViewT.zero)).symm)) rfl ?_
                  refine TL.nil ?_
                  refine TE.next hK18 ?_
                  clear hK18
                  refine TC.ret ?_
                  refine TE.retC (H' := []) rfl rfl Try.underlying44 rfl sz44 (Rd.own 3 rfl rfl) (MsgT.len (MsgT.mk ((m.kind % 256) % 10) 0 RowT.zero 0 (m.epoch % 1024) (tameB m.ballot) BallotT.zero ChangeT.zero ViewT.zero)) (fun _ s => sep_keep [] rfl s) ?_
                  refine ⟨?_, rfl⟩
                  simp [tameM, normM, fullM, kRow, kAsk, tameB, tameG, MsgT.zero, h44, h44, h47, h57, h62, *]
                exact AllT.nil
              exact AllT.nil
            exact AllT.nil
          · skip
            refine TL.nil ?_
            refine TE.next hK17 ?_
            clear hK17
            refine TC.no rfl ?_
            refine TC.region ?_
            refine TL.v (Want.plain rfl) rfl rfl (PV.eql rfl rfl rfl) ?_
            refine TL.dec (fun h64 => ?_) (fun h64 => ?_)
            · skip
              refine TL.v (Want.plain rfl) rfl rfl (PV.assign rfl rfl) ?_
              refine TL.nil ?_
              refine TE.next hK16 ?_
              clear hK16
              refine TC.yes rfl ?_
              refine TC.draw (fun w => Frm F w ∧ w.heap[b2]? = some (.cells (ints m.flat).toArray 44 (0, 0)) ∧ True) mixed rfl (fun _ s => ⟨Frm.of s, s.block 4 (lb rfl) rfl, trivial⟩) ?_
              refine TD.take (i := 0) rfl (by kernel_rfl) (by kernel_rfl) (by kernel_rfl) (fun _ _ _ _ h => h) (Want.plain rfl) rfl rfl (PV.fieldAddr (r := 177) rfl Try.underlying44 rfl sz3 rfl rfl) ?_
              refine TD.take (i := 1) rfl (by kernel_rfl) (by kernel_rfl) (by kernel_rfl) (fun _ _ _ _ h => h) (Want.plain rfl) rfl rfl (PV.load1 (v := (.int .i64 (m.epoch))) rfl Try.underlying3 rfl rfl (fun _ h => h.2.1) (MsgT.at_epoch m rfl)) ?_
              refine TD.take (i := 2) rfl (by kernel_rfl) (by kernel_rfl) (by kernel_rfl) (fun _ _ _ _ h => h) (Want.plain rfl) rfl rfl (PV.and (r := (m.epoch % 1024)) rfl rfl rfl (mask (k := 10) (by decide) _)) ?_
              refine TD.take (i := 3) rfl (by kernel_rfl) (by kernel_rfl) (by kernel_rfl) (fun _ _ _ _ h => h) (Want.plain rfl) rfl rfl (PV.move rfl rfl) ?_
              refine TD.take (i := 4) rfl (by kernel_rfl) (by kernel_rfl) (by kernel_rfl) (fun _ _ _ _ h => h) (Want.plain rfl) rfl rfl (PV.fieldAddr (r := 178) rfl Try.underlying44 rfl sz40 rfl rfl) ?_
              refine TD.take (i := 5) rfl (by kernel_rfl) (by kernel_rfl) (by kernel_rfl) (fun _ _ _ _ h => h) (Want.plain rfl) rfl rfl (PV.loadN (vs := ints m.ballot.flat) rfl Try.underlying40 rfl sz40 rfl (fun _ h => h.2.1) (BallotT.len m.ballot) (MsgT.sub_ballot m 0 rfl (by decide) (whole (BallotT.len m.ballot)))) ?_
              refine TD.take (i := 7) rfl (by kernel_rfl) (by kernel_rfl) (by kernel_rfl) (fun _ _ _ _ h => h) (Want.plain rfl) rfl rfl (PV.fieldAddr (r := 177) rfl Try.underlying44 rfl sz3 rfl rfl) ?_
              refine TD.all [6] (by kernel_rfl) rfl ?_
              refine AllT.cons rfl ?_ ?_
              · skip
                refine TL.callRv (A := []) (B := [blkA b9 (ints (ChangeT.mk (m.change.kind % 2) ((m.change.who % 256) % 5) ((m.change.heir % 256) % 5)).flat) 42, blkA b6 (ints (behindV l).flat) 25, blkA b5 (ints (MsgT.mk ((m.kind % 256) % 10) 0 RowT.zero 0 0 BallotT.zero BallotT.zero ChangeT.zero ViewT.zero).flat) 44, blkA b4 (ints MsgT.zero.flat) 44, blkA b2 (ints m.flat) 44]) (Want.plain rfl) rfl rfl rfl rfl nm36 rfl (tame1_does m.ballot) (fun _ s => s) (fun _ _ _ => trivial) (fun vR HR hR => ?_)
                obtain ⟨rfl, rfl⟩ := hR
                change TL _ _ _ _ _ _ _ _ _ [blkA b9 (ints (ChangeT.mk (m.change.kind % 2) ((m.change.who % 256) % 5) ((m.change.heir % 256) % 5)).flat) 42, blkA b6 (ints (behindV l).flat) 25, blkA b5 (ints (MsgT.mk ((m.kind % 256) % 10) 0 RowT.zero 0 0 BallotT.zero BallotT.zero ChangeT.zero ViewT.zero).flat) 44, blkA b4 (ints MsgT.zero.flat) 44, blkA b2 (ints m.flat) 44]
                refine TL.nil ?_
                refine TE.draw (fun _ s => ⟨Frm.of s, s.block 4 (lb rfl) rfl, trivial⟩) ?_
                refine TD.all [8] (by kernel_rfl) rfl ?_
                refine AllT.cons rfl ?_ ?_
                · skip
                  refine TL.store1 (i := 2) (H' := [blkA b9 (ints (ChangeT.mk (m.change.kind % 2) ((m.change.who % 256) % 5) ((m.change.heir % 256) % 5)).flat) 42, blkA b6 (ints (behindV l).flat) 25, blkA b5 (ints (MsgT.mk ((m.kind % 256) % 10) 0 RowT.zero 0 (m.epoch % 1024) BallotT.zero BallotT.zero ChangeT.zero ViewT.zero).flat) 44, blkA b4 (ints MsgT.zero.flat) 44, blkA b2 (ints m.flat) 44]) (Want.plain rfl) rfl rfl rfl rfl rfl sz3 rfl rfl (by have h0 := (MsgT.len (MsgT.mk ((m.kind % 256) % 10) 0 RowT.zero 0 0 BallotT.zero BallotT.zero ChangeT.zero ViewT.zero)); omega) (MsgT.set_epoch (MsgT.mk ((m.kind % 256) % 10) 0 RowT.zero 0 0 BallotT.zero BallotT.zero ChangeT.zero ViewT.zero) rfl _) rfl ?_
                  refine TL.nil ?_
                  refine TE.draw (fun _ s => ⟨Frm.of s, s.block 4 (lb rfl) rfl, trivial⟩) ?_
                  refine TD.take (i := 9) rfl (by kernel_rfl) (by kernel_rfl) (by kernel_rfl) (fun _ _ _ _ h => h) (Want.plain rfl) rfl rfl (PV.fieldAddr (r := 178) rfl Try.underlying44 rfl sz40 rfl rfl) ?_
                  refine TD.all [10] (by kernel_rfl) rfl ?_
                  refine AllT.cons rfl ?_ ?_
                  · skip
                    refine TL.store (vs := ints (tameB m.ballot).flat) (i := 2) (H' := [blkA b9 (ints (ChangeT.mk (m.change.kind % 2) ((m.change.who % 256) % 5) ((m.change.heir % 256) % 5)).flat) 42, blkA b6 (ints (behindV l).flat) 25, blkA b5 (ints (MsgT.mk ((m.kind % 256) % 10) 0 RowT.zero 0 (m.epoch % 1024) (tameB m.ballot) BallotT.zero ChangeT.zero ViewT.zero).flat) 44, blkA b4 (ints MsgT.zero.flat) 44, blkA b2 (ints m.flat) 44]) (Want.plain rfl) rfl rfl rfl rfl rfl (by rw [(BallotT.len (tameB m.ballot))]; exact sz40) (ints_one _) rfl rfl (by have h0 := (MsgT.len (MsgT.mk ((m.kind % 256) % 10) 0 RowT.zero 0 (m.epoch % 1024) BallotT.zero BallotT.zero ChangeT.zero ViewT.zero)); have h1 := (BallotT.len (tameB m.ballot)); omega) (MsgT.wr_ballot_ (MsgT.mk ((m.kind % 256) % 10) 0 RowT.zero 0 (m.epoch % 1024) BallotT.zero BallotT.zero ChangeT.zero ViewT.zero) 0 rfl (by have h1 := (BallotT.len (tameB m.ballot)); omega) (wwhole ((BallotT.len BallotT.zero).trans (BallotT.len (tameB m.ballot)).symm))) rfl ?_
                    refine TL.nil ?_
                    refine TE.draw (fun _ s => ⟨Frm.of s, s.block 4 (lb rfl) rfl, trivial⟩) ?_
                    refine TD.done (by kernel_rfl) ?_
                    refine TE.blockEnd ?_
                    refine TE.next hK6 ?_
                    clear hK6
                    refine TC.seq (fun K19 hK19 => ?_)
                    refine TC.region ?_
                    refine TL.v (Want.plain rfl) rfl rfl (PV.loadN (vs := ints (MsgT.mk ((m.kind % 256) % 10) 0 RowT.zero 0 (m.epoch % 1024) (tameB m.ballot) BallotT.zero ChangeT.zero ViewT.zero).flat) rfl Try.underlying44 rfl sz44 rfl (Rd.own 2 rfl rfl) (MsgT.len (MsgT.mk ((m.kind % 256) % 10) 0 RowT.zero 0 (m.epoch % 1024) (tameB m.ballot) BallotT.zero ChangeT.zero ViewT.zero)) (whole (MsgT.len (MsgT.mk ((m.kind % 256) % 10) 0 RowT.zero 0 (m.epoch % 1024) (tameB m.ballot) BallotT.zero ChangeT.zero ViewT.zero)))) ?_
                    refine TL.store (vs := ints (MsgT.mk ((m.kind % 256) % 10) 0 RowT.zero 0 (m.epoch % 1024) (tameB m.ballot) BallotT.zero ChangeT.zero ViewT.zero).flat) (i := 3) (H' := [blkA b9 (ints (ChangeT.mk (m.change.kind % 2) ((m.change.who % 256) % 5) ((m.change.heir % 256) % 5)).flat) 42, blkA b6 (ints (behindV l).flat) 25, blkA b5 (ints (MsgT.mk ((m.kind % 256) % 10) 0 RowT.zero 0 (m.epoch % 1024) (tameB m.ballot) BallotT.zero ChangeT.zero ViewT.zero).flat) 44, blkA b4 (ints (MsgT.mk ((m.kind % 256) % 10) 0 RowT.zero 0 (m.epoch % 1024) (tameB m.ballot) BallotT.zero ChangeT.zero ViewT.zero).flat) 44, blkA b2 (ints m.flat) 44]) (Want.plain rfl) rfl rfl rfl rfl rfl (by rw [(MsgT.len (MsgT.mk ((m.kind % 256) % 10) 0 RowT.zero 0 (m.epoch % 1024) (tameB m.ballot) BallotT.zero ChangeT.zero ViewT.zero))]; exact sz44) (ints_one _) rfl rfl (by have h0 := (MsgT.len MsgT.zero); have h1 := (MsgT.len (MsgT.mk ((m.kind % 256) % 10) 0 RowT.zero 0 (m.epoch % 1024) (tameB m.ballot) BallotT.zero ChangeT.zero ViewT.zero)); omega) (wwhole ((MsgT.len MsgT.zero).trans (MsgT.len (MsgT.mk ((m.kind % 256) % 10) 0 RowT.zero 0 (m.epoch % 1024) (tameB m.ballot) BallotT.zero ChangeT.zero ViewT.zero)).symm)) rfl ?_
                    refine TL.nil ?_
                    refine TE.next hK19 ?_
                    clear hK19
                    refine TC.ret ?_
                    refine TE.retC (H' := []) rfl rfl Try.underlying44 rfl sz44 (Rd.own 3 rfl rfl) (MsgT.len (MsgT.mk ((m.kind % 256) % 10) 0 RowT.zero 0 (m.epoch % 1024) (tameB m.ballot) BallotT.zero ChangeT.zero ViewT.zero)) (fun _ s => sep_keep [] rfl s) ?_
                    refine ⟨?_, rfl⟩
                    simp [tameM, normM, fullM, kRow, kAsk, tameB, tameG, MsgT.zero, h44, h44, h47, h57, h62, h64, *]
                  exact AllT.nil
                exact AllT.nil
              exact AllT.nil
            · skip
              refine TL.v (Want.plain rfl) rfl rfl (PV.assign rfl rfl) ?_
              refine TL.nil ?_
              refine TE.next hK16 ?_
              clear hK16
              refine TC.no rfl ?_
              refine TC.seq (fun K20 hK20 => ?_)
              refine TC.region ?_
              refine TL.v (Want.plain rfl) rfl rfl (PV.eql rfl rfl rfl) ?_
              refine TL.dec (fun h75 => ?_) (fun h75 => ?_)
              · skip
                refine TL.v (Want.plain rfl) rfl rfl (PV.assign rfl rfl) ?_
                refine TL.nil ?_
                refine TE.next hK20 ?_
                clear hK20
                refine TC.yes rfl ?_
                refine TC.draw (fun w => Frm F w ∧ w.heap[b2]? = some (.cells (ints m.flat).toArray 44 (0, 0)) ∧ w.heap[b9]? = some (.cells (ints (ChangeT.mk (m.change.kind % 2) ((m.change.who % 256) % 5) ((m.change.heir % 256) % 5)).flat).toArray 42 (0, 0)) ∧ True) mixed rfl (fun _ s => ⟨Frm.of s, s.block 4 (lb rfl) rfl, s.block 0 (lb rfl) rfl, trivial⟩) ?_
                refine TD.take (i := 0) rfl (by kernel_rfl) (by kernel_rfl) (by kernel_rfl) (fun _ _ _ _ h => h) (Want.plain rfl) rfl rfl (PV.fieldAddr (r := 177) rfl Try.underlying44 rfl sz3 rfl rfl) ?_
                refine TD.take (i := 1) rfl (by kernel_rfl) (by kernel_rfl) (by kernel_rfl) (fun _ _ _ _ h => h) (Want.plain rfl) rfl rfl (PV.load1 (v := (.int .i64 (m.epoch))) rfl Try.underlying3 rfl rfl (fun _ h => h.2.1) (MsgT.at_epoch m rfl)) ?_
                refine TD.take (i := 2) rfl (by kernel_rfl) (by kernel_rfl) (by kernel_rfl) (fun _ _ _ _ h => h) (Want.plain rfl) rfl rfl (PV.and (r := (m.epoch % 1024)) rfl rfl rfl (mask (k := 10) (by decide) _)) ?_
                refine TD.take (i := 3) rfl (by kernel_rfl) (by kernel_rfl) (by kernel_rfl) (fun _ _ _ _ h => h) (Want.plain rfl) rfl rfl (PV.move rfl rfl) ?_
                refine TD.take (i := 4) rfl (by kernel_rfl) (by kernel_rfl) (by kernel_rfl) (fun _ _ _ _ h => h) (Want.plain rfl) rfl rfl (PV.fieldAddr (r := 178) rfl Try.underlying44 rfl sz40 rfl rfl) ?_
                refine TD.take (i := 5) rfl (by kernel_rfl) (by kernel_rfl) (by kernel_rfl) (fun _ _ _ _ h => h) (Want.plain rfl) rfl rfl (PV.loadN (vs := ints m.ballot.flat) rfl Try.underlying40 rfl sz40 rfl (fun _ h => h.2.1) (BallotT.len m.ballot) (MsgT.sub_ballot m 0 rfl (by decide) (whole (BallotT.len m.ballot)))) ?_
                refine TD.take (i := 7) rfl (by kernel_rfl) (by kernel_rfl) (by kernel_rfl) (fun _ _ _ _ h => h) (Want.plain rfl) rfl rfl (PV.move rfl rfl) ?_
                refine TD.take (i := 8) rfl (by kernel_rfl) (by kernel_rfl) (by kernel_rfl) (fun _ _ _ _ h => h) (Want.plain rfl) rfl rfl (PV.fieldAddr (r := 180) rfl Try.underlying44 rfl sz40 rfl rfl) ?_
                refine TD.take (i := 9) rfl (by kernel_rfl) (by kernel_rfl) (by kernel_rfl) (fun _ _ _ _ h => h) (Want.plain rfl) rfl rfl (PV.loadN (vs := ints m.had.flat) rfl Try.underlying40 rfl sz40 rfl (fun _ h => h.2.1) (BallotT.len m.had) (MsgT.sub_had m 0 rfl (by decide) (whole (BallotT.len m.had)))) ?_
                refine TD.take (i := 11) rfl (by kernel_rfl) (by kernel_rfl) (by kernel_rfl) (fun _ _ _ _ h => h) (Want.plain rfl) rfl rfl (PV.loadN (vs := ints (ChangeT.mk (m.change.kind % 2) ((m.change.who % 256) % 5) ((m.change.heir % 256) % 5)).flat) rfl Try.underlying42 rfl sz42 rfl (fun _ h => h.2.2.1) (ChangeT.len (ChangeT.mk (m.change.kind % 2) ((m.change.who % 256) % 5) ((m.change.heir % 256) % 5))) (whole (ChangeT.len (ChangeT.mk (m.change.kind % 2) ((m.change.who % 256) % 5) ((m.change.heir % 256) % 5))))) ?_
                refine TD.take (i := 12) rfl (by kernel_rfl) (by kernel_rfl) (by kernel_rfl) (fun _ _ _ _ h => h) (Want.plain rfl) rfl rfl (PV.fieldAddr (r := 177) rfl Try.underlying44 rfl sz3 rfl rfl) ?_
                refine TD.all [6] (by kernel_rfl) rfl ?_
                refine AllT.cons rfl ?_ ?_
                · skip
                  refine TL.callRv (A := []) (B := [blkA b9 (ints (ChangeT.mk (m.change.kind % 2) ((m.change.who % 256) % 5) ((m.change.heir % 256) % 5)).flat) 42, blkA b6 (ints (behindV l).flat) 25, blkA b5 (ints (MsgT.mk ((m.kind % 256) % 10) 0 RowT.zero 0 0 BallotT.zero BallotT.zero ChangeT.zero ViewT.zero).flat) 44, blkA b4 (ints MsgT.zero.flat) 44, blkA b2 (ints m.flat) 44]) (Want.plain rfl) rfl rfl rfl rfl nm36 rfl (tame1_does m.ballot) (fun _ s => s) (fun _ _ _ => trivial) (fun vR HR hR => ?_)
                  obtain ⟨rfl, rfl⟩ := hR
                  change TL _ _ _ _ _ _ _ _ _ [blkA b9 (ints (ChangeT.mk (m.change.kind % 2) ((m.change.who % 256) % 5) ((m.change.heir % 256) % 5)).flat) 42, blkA b6 (ints (behindV l).flat) 25, blkA b5 (ints (MsgT.mk ((m.kind % 256) % 10) 0 RowT.zero 0 0 BallotT.zero BallotT.zero ChangeT.zero ViewT.zero).flat) 44, blkA b4 (ints MsgT.zero.flat) 44, blkA b2 (ints m.flat) 44]
                  refine TL.nil ?_
                  refine TE.draw (fun _ s => ⟨Frm.of s, s.block 4 (lb rfl) rfl, s.block 0 (lb rfl) rfl, trivial⟩) ?_
                  refine TD.all [10] (by kernel_rfl) rfl ?_
                  refine AllT.cons rfl ?_ ?_
                  · skip
                    refine TL.callRv (A := []) (B := [blkA b9 (ints (ChangeT.mk (m.change.kind % 2) ((m.change.who % 256) % 5) ((m.change.heir % 256) % 5)).flat) 42, blkA b6 (ints (behindV l).flat) 25, blkA b5 (ints (MsgT.mk ((m.kind % 256) % 10) 0 RowT.zero 0 0 BallotT.zero BallotT.zero ChangeT.zero ViewT.zero).flat) 44, blkA b4 (ints MsgT.zero.flat) 44, blkA b2 (ints m.flat) 44]) (Want.plain rfl) rfl rfl rfl rfl nm36 rfl (tame1_does m.had) (fun _ s => s) (fun _ _ _ => trivial) (fun vR HR hR => ?_)
                    obtain ⟨rfl, rfl⟩ := hR
                    change TL _ _ _ _ _ _ _ _ _ [blkA b9 (ints (ChangeT.mk (m.change.kind % 2) ((m.change.who % 256) % 5) ((m.change.heir % 256) % 5)).flat) 42, blkA b6 (ints (behindV l).flat) 25, blkA b5 (ints (MsgT.mk ((m.kind % 256) % 10) 0 RowT.zero 0 0 BallotT.zero BallotT.zero ChangeT.zero ViewT.zero).flat) 44, blkA b4 (ints MsgT.zero.flat) 44, blkA b2 (ints m.flat) 44]
                    refine TL.nil ?_
                    refine TE.draw (fun _ s => ⟨Frm.of s, s.block 4 (lb rfl) rfl, s.block 0 (lb rfl) rfl, trivial⟩) ?_
                    refine TD.all [13] (by kernel_rfl) rfl ?_
                    refine AllT.cons rfl ?_ ?_
                    · skip
                      refine TL.store1 (i := 2) (H' := [blkA b9 (ints (ChangeT.mk (m.change.kind % 2) ((m.change.who % 256) % 5) ((m.change.heir % 256) % 5)).flat) 42, blkA b6 (ints (behindV l).flat) 25, blkA b5 (ints (MsgT.mk ((m.kind % 256) % 10) 0 RowT.zero 0 (m.epoch % 1024) BallotT.zero BallotT.zero ChangeT.zero ViewT.zero).flat) 44, blkA b4 (ints MsgT.zero.flat) 44, blkA b2 (ints m.flat) 44]) (Want.plain rfl) rfl rfl rfl rfl rfl sz3 rfl rfl (by have h0 := (MsgT.len (MsgT.mk ((m.kind % 256) % 10) 0 RowT.zero 0 0 BallotT.zero BallotT.zero ChangeT.zero ViewT.zero)); omega) (MsgT.set_epoch (MsgT.mk ((m.kind % 256) % 10) 0 RowT.zero 0 0 BallotT.zero BallotT.zero ChangeT.zero ViewT.zero) rfl _) rfl ?_
                      refine TL.nil ?_
                      refine TE.draw (fun _ s => ⟨Frm.of s, s.block 4 (lb rfl) rfl, s.block 0 (lb rfl) rfl, trivial⟩) ?_
                      refine TD.take (i := 14) rfl (by kernel_rfl) (by kernel_rfl) (by kernel_rfl) (fun _ _ _ _ h => h) (Want.plain rfl) rfl rfl (PV.fieldAddr (r := 178) rfl Try.underlying44 rfl sz40 rfl rfl) ?_
                      refine TD.all [15] (by kernel_rfl) rfl ?_
                      refine AllT.cons rfl ?_ ?_
                      · skip
                        refine TL.store (vs := ints (tameB m.ballot).flat) (i := 2) (H' := [blkA b9 (ints (ChangeT.mk (m.change.kind % 2) ((m.change.who % 256) % 5) ((m.change.heir % 256) % 5)).flat) 42, blkA b6 (ints (behindV l).flat) 25, blkA b5 (ints (MsgT.mk ((m.kind % 256) % 10) 0 RowT.zero 0 (m.epoch % 1024) (tameB m.ballot) BallotT.zero ChangeT.zero ViewT.zero).flat) 44, blkA b4 (ints MsgT.zero.flat) 44, blkA b2 (ints m.flat) 44]) (Want.plain rfl) rfl rfl rfl rfl rfl (by rw [(BallotT.len (tameB m.ballot))]; exact sz40) (ints_one _) rfl rfl (by have h0 := (MsgT.len (MsgT.mk ((m.kind % 256) % 10) 0 RowT.zero 0 (m.epoch % 1024) BallotT.zero BallotT.zero ChangeT.zero ViewT.zero)); have h1 := (BallotT.len (tameB m.ballot)); omega) (MsgT.wr_ballot_ (MsgT.mk ((m.kind % 256) % 10) 0 RowT.zero 0 (m.epoch % 1024) BallotT.zero BallotT.zero ChangeT.zero ViewT.zero) 0 rfl (by have h1 := (BallotT.len (tameB m.ballot)); omega) (wwhole ((BallotT.len BallotT.zero).trans (BallotT.len (tameB m.ballot)).symm))) rfl ?_
                        refine TL.nil ?_
                        refine TE.draw (fun _ s => ⟨Frm.of s, s.block 4 (lb rfl) rfl, s.block 0 (lb rfl) rfl, trivial⟩) ?_
                        refine TD.take (i := 16) rfl (by kernel_rfl) (by kernel_rfl) (by kernel_rfl) (fun _ _ _ _ h => h) (Want.plain rfl) rfl rfl (PV.fieldAddr (r := 180) rfl Try.underlying44 rfl sz40 rfl rfl) ?_
                        refine TD.all [17] (by kernel_rfl) rfl ?_
                        refine AllT.cons rfl ?_ ?_
                        · skip
                          refine TL.store (vs := ints (tameB m.had).flat) (i := 2) (H' := [blkA b9 (ints (ChangeT.mk (m.change.kind % 2) ((m.change.who % 256) % 5) ((m.change.heir % 256) % 5)).flat) 42, blkA b6 (ints (behindV l).flat) 25, blkA b5 (ints (MsgT.mk ((m.kind % 256) % 10) 0 RowT.zero 0 (m.epoch % 1024) (tameB m.ballot) (tameB m.had) ChangeT.zero ViewT.zero).flat) 44, blkA b4 (ints MsgT.zero.flat) 44, blkA b2 (ints m.flat) 44]) (Want.plain rfl) rfl rfl rfl rfl rfl (by rw [(BallotT.len (tameB m.had))]; exact sz40) (ints_one _) rfl rfl (by have h0 := (MsgT.len (MsgT.mk ((m.kind % 256) % 10) 0 RowT.zero 0 (m.epoch % 1024) (tameB m.ballot) BallotT.zero ChangeT.zero ViewT.zero)); have h1 := (BallotT.len (tameB m.had)); omega) (MsgT.wr_had_ (MsgT.mk ((m.kind % 256) % 10) 0 RowT.zero 0 (m.epoch % 1024) (tameB m.ballot) BallotT.zero ChangeT.zero ViewT.zero) 0 rfl (by have h1 := (BallotT.len (tameB m.had)); omega) (wwhole ((BallotT.len BallotT.zero).trans (BallotT.len (tameB m.had)).symm))) rfl ?_
                          refine TL.nil ?_
                          refine TE.draw (fun _ s => ⟨Frm.of s, s.block 4 (lb rfl) rfl, s.block 0 (lb rfl) rfl, trivial⟩) ?_
                          refine TD.take (i := 18) rfl (by kernel_rfl) (by kernel_rfl) (by kernel_rfl) (fun _ _ _ _ h => h) (Want.plain rfl) rfl rfl (PV.fieldAddr (r := 182) rfl Try.underlying44 rfl sz42 rfl rfl) ?_
                          refine TD.all [19] (by kernel_rfl) rfl ?_
                          refine AllT.cons rfl ?_ ?_
                          · skip
                            refine TL.store (vs := ints (ChangeT.mk (m.change.kind % 2) ((m.change.who % 256) % 5) ((m.change.heir % 256) % 5)).flat) (i := 2) (H' := [blkA b9 (ints (ChangeT.mk (m.change.kind % 2) ((m.change.who % 256) % 5) ((m.change.heir % 256) % 5)).flat) 42, blkA b6 (ints (behindV l).flat) 25, blkA b5 (ints (MsgT.mk ((m.kind % 256) % 10) 0 RowT.zero 0 (m.epoch % 1024) (tameB m.ballot) (tameB m.had) (ChangeT.mk (m.change.kind % 2) ((m.change.who % 256) % 5) ((m.change.heir % 256) % 5)) ViewT.zero).flat) 44, blkA b4 (ints MsgT.zero.flat) 44, blkA b2 (ints m.flat) 44]) (Want.plain rfl) rfl rfl rfl rfl rfl (by rw [(ChangeT.len (ChangeT.mk (m.change.kind % 2) ((m.change.who % 256) % 5) ((m.change.heir % 256) % 5)))]; exact sz42) (ints_one _) rfl rfl (by have h0 := (MsgT.len (MsgT.mk ((m.kind % 256) % 10) 0 RowT.zero 0 (m.epoch % 1024) (tameB m.ballot) (tameB m.had) ChangeT.zero ViewT.zero)); have h1 := (ChangeT.len (ChangeT.mk (m.change.kind % 2) ((m.change.who % 256) % 5) ((m.change.heir % 256) % 5))); omega) (MsgT.wr_change_ (MsgT.mk ((m.kind % 256) % 10) 0 RowT.zero 0 (m.epoch % 1024) (tameB m.ballot) (tameB m.had) ChangeT.zero ViewT.zero) 0 rfl (by have h1 := (ChangeT.len (ChangeT.mk (m.change.kind % 2) ((m.change.who % 256) % 5) ((m.change.heir % 256) % 5))); omega) (wwhole ((ChangeT.len ChangeT.zero).trans (ChangeT.len (ChangeT.mk (m.change.kind % 2) ((m.change.who % 256) % 5) ((m.change.heir % 256) % 5))).symm))) rfl ?_
                            refine TL.nil ?_
                            refine TE.draw (fun _ s => ⟨Frm.of s, s.block 4 (lb rfl) rfl, s.block 0 (lb rfl) rfl, trivial⟩) ?_
                            refine TD.done (by kernel_rfl) ?_
                            refine TE.blockEnd ?_
                            refine TE.next hK6 ?_
                            clear hK6
                            refine TC.seq (fun K21 hK21 => ?_)
                            refine TC.region ?_
                            refine TL.v (Want.plain rfl) rfl rfl (PV.loadN (vs := ints (MsgT.mk ((m.kind % 256) % 10) 0 RowT.zero 0 (m.epoch % 1024) (tameB m.ballot) (tameB m.had) (ChangeT.mk (m.change.kind % 2) ((m.change.who % 256) % 5) ((m.change.heir % 256) % 5)) ViewT.zero).flat) rfl Try.underlying44 rfl sz44 rfl (Rd.own 2 rfl rfl) (MsgT.len (MsgT.mk ((m.kind % 256) % 10) 0 RowT.zero 0 (m.epoch % 1024) (tameB m.ballot) (tameB m.had) (ChangeT.mk (m.change.kind % 2) ((m.change.who % 256) % 5) ((m.change.heir % 256) % 5)) ViewT.zero)) (whole (MsgT.len (MsgT.mk ((m.kind % 256) % 10) 0 RowT.zero 0 (m.epoch % 1024) (tameB m.ballot) (tameB m.had) (ChangeT.mk (m.change.kind % 2) ((m.change.who % 256) % 5) ((m.change.heir % 256) % 5)) ViewT.zero)))) ?_
                            refine TL.store (vs := ints (MsgT.mk ((m.kind % 256) % 10) 0 RowT.zero 0 (m.epoch % 1024) (tameB m.ballot) (tameB m.had) (ChangeT.mk (m.change.kind % 2) ((m.change.who % 256) % 5) ((m.change.heir % 256) % 5)) ViewT.zero).flat) (i := 3) (H' := [blkA b9 (ints (ChangeT.mk (m.change.kind % 2) ((m.change.who % 256) % 5) ((m.change.heir % 256) % 5)).flat) 42, blkA b6 (ints (behindV l).flat) 25, blkA b5 (ints (MsgT.mk ((m.kind % 256) % 10) 0 RowT.zero 0 (m.epoch % 1024) (tameB m.ballot) (tameB m.had) (ChangeT.mk (m.change.kind % 2) ((m.change.who % 256) % 5) ((m.change.heir % 256) % 5)) ViewT.zero).flat) 44, blkA b4 (ints (MsgT.mk ((m.kind % 256) % 10) 0 RowT.zero 0 (m.epoch % 1024) (tameB m.ballot) (tameB m.had) (ChangeT.mk (m.change.kind % 2) ((m.change.who % 256) % 5) ((m.change.heir % 256) % 5)) ViewT.zero).flat) 44, blkA b2 (ints m.flat) 44]) (Want.plain rfl) rfl rfl rfl rfl rfl (by rw [(MsgT.len (MsgT.mk ((m.kind % 256) % 10) 0 RowT.zero 0 (m.epoch % 1024) (tameB m.ballot) (tameB m.had) (ChangeT.mk (m.change.kind % 2) ((m.change.who % 256) % 5) ((m.change.heir % 256) % 5)) ViewT.zero))]; exact sz44) (ints_one _) rfl rfl (by have h0 := (MsgT.len MsgT.zero); have h1 := (MsgT.len (MsgT.mk ((m.kind % 256) % 10) 0 RowT.zero 0 (m.epoch % 1024) (tameB m.ballot) (tameB m.had) (ChangeT.mk (m.change.kind % 2) ((m.change.who % 256) % 5) ((m.change.heir % 256) % 5)) ViewT.zero)); omega) (wwhole ((MsgT.len MsgT.zero).trans (MsgT.len (MsgT.mk ((m.kind % 256) % 10) 0 RowT.zero 0 (m.epoch % 1024) (tameB m.ballot) (tameB m.had) (ChangeT.mk (m.change.kind % 2) ((m.change.who % 256) % 5) ((m.change.heir % 256) % 5)) ViewT.zero)).symm)) rfl ?_
                            refine TL.nil ?_
                            refine TE.next hK21 ?_
                            clear hK21
                            refine TC.ret ?_
                            refine TE.retC (H' := []) rfl rfl Try.underlying44 rfl sz44 (Rd.own 3 rfl rfl) (MsgT.len (MsgT.mk ((m.kind % 256) % 10) 0 RowT.zero 0 (m.epoch % 1024) (tameB m.ballot) (tameB m.had) (ChangeT.mk (m.change.kind % 2) ((m.change.who % 256) % 5) ((m.change.heir % 256) % 5)) ViewT.zero)) (fun _ s => sep_keep [] rfl s) ?_
                            refine ⟨?_, rfl⟩
                            simp [tameM, normM, fullM, kRow, kAsk, tameB, tameG, MsgT.zero, h44, h44, h47, h57, h62, h64, h75, *]
                          exact AllT.nil
                        exact AllT.nil
                      exact AllT.nil
                    exact AllT.nil
                  exact AllT.nil
                exact AllT.nil
              · skip
                refine TL.v (Want.plain rfl) rfl rfl (PV.assign rfl rfl) ?_
                refine TL.nil ?_
                refine TE.next hK20 ?_
                clear hK20
                refine TC.no rfl ?_
                refine TC.seq (fun K22 hK22 => ?_)
                refine TC.region ?_
                refine TL.v (Want.plain rfl) rfl rfl (PV.eql rfl rfl rfl) ?_
                refine TL.dec (fun h93 => ?_) (fun h93 => ?_)
                · skip
                  refine TL.v (Want.plain rfl) rfl rfl (PV.assign rfl rfl) ?_
                  refine TL.nil ?_
                  refine TE.next hK22 ?_
                  clear hK22
                  refine TC.yes rfl ?_
                  refine TC.draw (fun w => Frm F w ∧ w.heap[b2]? = some (.cells (ints m.flat).toArray 44 (0, 0)) ∧ w.heap[b9]? = some (.cells (ints (ChangeT.mk (m.change.kind % 2) ((m.change.who % 256) % 5) ((m.change.heir % 256) % 5)).flat).toArray 42 (0, 0)) ∧ True) mixed rfl (fun _ s => ⟨Frm.of s, s.block 4 (lb rfl) rfl, s.block 0 (lb rfl) rfl, trivial⟩) ?_
                  refine TD.take (i := 0) rfl (by kernel_rfl) (by kernel_rfl) (by kernel_rfl) (fun _ _ _ _ h => h) (Want.plain rfl) rfl rfl (PV.fieldAddr (r := 177) rfl Try.underlying44 rfl sz3 rfl rfl) ?_
                  refine TD.take (i := 1) rfl (by kernel_rfl) (by kernel_rfl) (by kernel_rfl) (fun _ _ _ _ h => h) (Want.plain rfl) rfl rfl (PV.load1 (v := (.int .i64 (m.epoch))) rfl Try.underlying3 rfl rfl (fun _ h => h.2.1) (MsgT.at_epoch m rfl)) ?_
                  refine TD.take (i := 2) rfl (by kernel_rfl) (by kernel_rfl) (by kernel_rfl) (fun _ _ _ _ h => h) (Want.plain rfl) rfl rfl (PV.and (r := (m.epoch % 1024)) rfl rfl rfl (mask (k := 10) (by decide) _)) ?_
                  refine TD.take (i := 3) rfl (by kernel_rfl) (by kernel_rfl) (by kernel_rfl) (fun _ _ _ _ h => h) (Want.plain rfl) rfl rfl (PV.move rfl rfl) ?_
                  refine TD.take (i := 4) rfl (by kernel_rfl) (by kernel_rfl) (by kernel_rfl) (fun _ _ _ _ h => h) (Want.plain rfl) rfl rfl (PV.fieldAddr (r := 178) rfl Try.underlying44 rfl sz40 rfl rfl) ?_
                  refine TD.take (i := 5) rfl (by kernel_rfl) (by kernel_rfl) (by kernel_rfl) (fun _ _ _ _ h => h) (Want.plain rfl) rfl rfl (PV.loadN (vs := ints m.ballot.flat) rfl Try.underlying40 rfl sz40 rfl (fun _ h => h.2.1) (BallotT.len m.ballot) (MsgT.sub_ballot m 0 rfl (by decide) (whole (BallotT.len m.ballot)))) ?_
                  refine TD.take (i := 7) rfl (by kernel_rfl) (by kernel_rfl) (by kernel_rfl) (fun _ _ _ _ h => h) (Want.plain rfl) rfl rfl (PV.loadN (vs := ints (ChangeT.mk (m.change.kind % 2) ((m.change.who % 256) % 5) ((m.change.heir % 256) % 5)).flat) rfl Try.underlying42 rfl sz42 rfl (fun _ h => h.2.2.1) (ChangeT.len (ChangeT.mk (m.change.kind % 2) ((m.change.who % 256) % 5) ((m.change.heir % 256) % 5))) (whole (ChangeT.len (ChangeT.mk (m.change.kind % 2) ((m.change.who % 256) % 5) ((m.change.heir % 256) % 5))))) ?_
                  refine TD.take (i := 8) rfl (by kernel_rfl) (by kernel_rfl) (by kernel_rfl) (fun _ _ _ _ h => h) (Want.plain rfl) rfl rfl (PV.fieldAddr (r := 177) rfl Try.underlying44 rfl sz3 rfl rfl) ?_
                  refine TD.all [6] (by kernel_rfl) rfl ?_
                  refine AllT.cons rfl ?_ ?_
                  · skip
                    refine TL.callRv (A := []) (B := [blkA b9 (ints (ChangeT.mk (m.change.kind % 2) ((m.change.who % 256) % 5) ((m.change.heir % 256) % 5)).flat) 42, blkA b6 (ints (behindV l).flat) 25, blkA b5 (ints (MsgT.mk ((m.kind % 256) % 10) 0 RowT.zero 0 0 BallotT.zero BallotT.zero ChangeT.zero ViewT.zero).flat) 44, blkA b4 (ints MsgT.zero.flat) 44, blkA b2 (ints m.flat) 44]) (Want.plain rfl) rfl rfl rfl rfl nm36 rfl (tame1_does m.ballot) (fun _ s => s) (fun _ _ _ => trivial) (fun vR HR hR => ?_)
                    obtain ⟨rfl, rfl⟩ := hR
                    change TL _ _ _ _ _ _ _ _ _ [blkA b9 (ints (ChangeT.mk (m.change.kind % 2) ((m.change.who % 256) % 5) ((m.change.heir % 256) % 5)).flat) 42, blkA b6 (ints (behindV l).flat) 25, blkA b5 (ints (MsgT.mk ((m.kind % 256) % 10) 0 RowT.zero 0 0 BallotT.zero BallotT.zero ChangeT.zero ViewT.zero).flat) 44, blkA b4 (ints MsgT.zero.flat) 44, blkA b2 (ints m.flat) 44]
                    refine TL.nil ?_
                    refine TE.draw (fun _ s => ⟨Frm.of s, s.block 4 (lb rfl) rfl, s.block 0 (lb rfl) rfl, trivial⟩) ?_
                    refine TD.all [9] (by kernel_rfl) rfl ?_
                    refine AllT.cons rfl ?_ ?_
                    · skip
                      refine TL.store1 (i := 2) (H' := [blkA b9 (ints (ChangeT.mk (m.change.kind % 2) ((m.change.who % 256) % 5) ((m.change.heir % 256) % 5)).flat) 42, blkA b6 (ints (behindV l).flat) 25, blkA b5 (ints (MsgT.mk ((m.kind % 256) % 10) 0 RowT.zero 0 (m.epoch % 1024) BallotT.zero BallotT.zero ChangeT.zero ViewT.zero).flat) 44, blkA b4 (ints MsgT.zero.flat) 44, blkA b2 (ints m.flat) 44]) (Want.plain rfl) rfl rfl rfl rfl rfl sz3 rfl rfl (by have h0 := (MsgT.len (MsgT.mk ((m.kind % 256) % 10) 0 RowT.zero 0 0 BallotT.zero BallotT.zero ChangeT.zero ViewT.zero)); omega) (MsgT.set_epoch (MsgT.mk ((m.kind % 256) % 10) 0 RowT.zero 0 0 BallotT.zero BallotT.zero ChangeT.zero ViewT.zero) rfl _) rfl ?_
                      refine TL.nil ?_
                      refine TE.draw (fun _ s => ⟨Frm.of s, s.block 4 (lb rfl) rfl, s.block 0 (lb rfl) rfl, trivial⟩) ?_
                      refine TD.take (i := 10) rfl (by kernel_rfl) (by kernel_rfl) (by kernel_rfl) (fun _ _ _ _ h => h) (Want.plain rfl) rfl rfl (PV.fieldAddr (r := 178) rfl Try.underlying44 rfl sz40 rfl rfl) ?_
                      refine TD.all [11] (by kernel_rfl) rfl ?_
                      refine AllT.cons rfl ?_ ?_
                      · skip
                        refine TL.store (vs := ints (tameB m.ballot).flat) (i := 2) (H' := [blkA b9 (ints (ChangeT.mk (m.change.kind % 2) ((m.change.who % 256) % 5) ((m.change.heir % 256) % 5)).flat) 42, blkA b6 (ints (behindV l).flat) 25, blkA b5 (ints (MsgT.mk ((m.kind % 256) % 10) 0 RowT.zero 0 (m.epoch % 1024) (tameB m.ballot) BallotT.zero ChangeT.zero ViewT.zero).flat) 44, blkA b4 (ints MsgT.zero.flat) 44, blkA b2 (ints m.flat) 44]) (Want.plain rfl) rfl rfl rfl rfl rfl (by rw [(BallotT.len (tameB m.ballot))]; exact sz40) (ints_one _) rfl rfl (by have h0 := (MsgT.len (MsgT.mk ((m.kind % 256) % 10) 0 RowT.zero 0 (m.epoch % 1024) BallotT.zero BallotT.zero ChangeT.zero ViewT.zero)); have h1 := (BallotT.len (tameB m.ballot)); omega) (MsgT.wr_ballot_ (MsgT.mk ((m.kind % 256) % 10) 0 RowT.zero 0 (m.epoch % 1024) BallotT.zero BallotT.zero ChangeT.zero ViewT.zero) 0 rfl (by have h1 := (BallotT.len (tameB m.ballot)); omega) (wwhole ((BallotT.len BallotT.zero).trans (BallotT.len (tameB m.ballot)).symm))) rfl ?_
                        refine TL.nil ?_
                        refine TE.draw (fun _ s => ⟨Frm.of s, s.block 4 (lb rfl) rfl, s.block 0 (lb rfl) rfl, trivial⟩) ?_
                        refine TD.take (i := 12) rfl (by kernel_rfl) (by kernel_rfl) (by kernel_rfl) (fun _ _ _ _ h => h) (Want.plain rfl) rfl rfl (PV.fieldAddr (r := 182) rfl Try.underlying44 rfl sz42 rfl rfl) ?_
                        refine TD.all [13] (by kernel_rfl) rfl ?_
                        refine AllT.cons rfl ?_ ?_
                        · skip
                          refine TL.store (vs := ints (ChangeT.mk (m.change.kind % 2) ((m.change.who % 256) % 5) ((m.change.heir % 256) % 5)).flat) (i := 2) (H' := [blkA b9 (ints (ChangeT.mk (m.change.kind % 2) ((m.change.who % 256) % 5) ((m.change.heir % 256) % 5)).flat) 42, blkA b6 (ints (behindV l).flat) 25, blkA b5 (ints (MsgT.mk ((m.kind % 256) % 10) 0 RowT.zero 0 (m.epoch % 1024) (tameB m.ballot) BallotT.zero (ChangeT.mk (m.change.kind % 2) ((m.change.who % 256) % 5) ((m.change.heir % 256) % 5)) ViewT.zero).flat) 44, blkA b4 (ints MsgT.zero.flat) 44, blkA b2 (ints m.flat) 44]) (Want.plain rfl) rfl rfl rfl rfl rfl (by rw [(ChangeT.len (ChangeT.mk (m.change.kind % 2) ((m.change.who % 256) % 5) ((m.change.heir % 256) % 5)))]; exact sz42) (ints_one _) rfl rfl (by have h0 := (MsgT.len (MsgT.mk ((m.kind % 256) % 10) 0 RowT.zero 0 (m.epoch % 1024) (tameB m.ballot) BallotT.zero ChangeT.zero ViewT.zero)); have h1 := (ChangeT.len (ChangeT.mk (m.change.kind % 2) ((m.change.who % 256) % 5) ((m.change.heir % 256) % 5))); omega) (MsgT.wr_change_ (MsgT.mk ((m.kind % 256) % 10) 0 RowT.zero 0 (m.epoch % 1024) (tameB m.ballot) BallotT.zero ChangeT.zero ViewT.zero) 0 rfl (by have h1 := (ChangeT.len (ChangeT.mk (m.change.kind % 2) ((m.change.who % 256) % 5) ((m.change.heir % 256) % 5))); omega) (wwhole ((ChangeT.len ChangeT.zero).trans (ChangeT.len (ChangeT.mk (m.change.kind % 2) ((m.change.who % 256) % 5) ((m.change.heir % 256) % 5))).symm))) rfl ?_
                          refine TL.nil ?_
                          refine TE.draw (fun _ s => ⟨Frm.of s, s.block 4 (lb rfl) rfl, s.block 0 (lb rfl) rfl, trivial⟩) ?_
                          refine TD.done (by kernel_rfl) ?_
                          refine TE.blockEnd ?_
                          refine TE.next hK6 ?_
                          clear hK6
                          refine TC.seq (fun K23 hK23 => ?_)
                          refine TC.region ?_
                          refine TL.v (Want.plain rfl) rfl rfl (PV.loadN (vs := ints (MsgT.mk ((m.kind % 256) % 10) 0 RowT.zero 0 (m.epoch % 1024) (tameB m.ballot) BallotT.zero (ChangeT.mk (m.change.kind % 2) ((m.change.who % 256) % 5) ((m.change.heir % 256) % 5)) ViewT.zero).flat) rfl Try.underlying44 rfl sz44 rfl (Rd.own 2 rfl rfl) (MsgT.len (MsgT.mk ((m.kind % 256) % 10) 0 RowT.zero 0 (m.epoch % 1024) (tameB m.ballot) BallotT.zero (ChangeT.mk (m.change.kind % 2) ((m.change.who % 256) % 5) ((m.change.heir % 256) % 5)) ViewT.zero)) (whole (MsgT.len (MsgT.mk ((m.kind % 256) % 10) 0 RowT.zero 0 (m.epoch % 1024) (tameB m.ballot) BallotT.zero (ChangeT.mk (m.change.kind % 2) ((m.change.who % 256) % 5) ((m.change.heir % 256) % 5)) ViewT.zero)))) ?_
                          refine TL.store (vs := ints (MsgT.mk ((m.kind % 256) % 10) 0 RowT.zero 0 (m.epoch % 1024) (tameB m.ballot) BallotT.zero (ChangeT.mk (m.change.kind % 2) ((m.change.who % 256) % 5) ((m.change.heir % 256) % 5)) ViewT.zero).flat) (i := 3) (H' := [blkA b9 (ints (ChangeT.mk (m.change.kind % 2) ((m.change.who % 256) % 5) ((m.change.heir % 256) % 5)).flat) 42, blkA b6 (ints (behindV l).flat) 25, blkA b5 (ints (MsgT.mk ((m.kind % 256) % 10) 0 RowT.zero 0 (m.epoch % 1024) (tameB m.ballot) BallotT.zero (ChangeT.mk (m.change.kind % 2) ((m.change.who % 256) % 5) ((m.change.heir % 256) % 5)) ViewT.zero).flat) 44, blkA b4 (ints (MsgT.mk ((m.kind % 256) % 10) 0 RowT.zero 0 (m.epoch % 1024) (tameB m.ballot) BallotT.zero (ChangeT.mk (m.change.kind % 2) ((m.change.who % 256) % 5) ((m.change.heir % 256) % 5)) ViewT.zero).flat) 44, blkA b2 (ints m.flat) 44]) (Want.plain rfl) rfl rfl rfl rfl rfl (by rw [(MsgT.len (MsgT.mk ((m.kind % 256) % 10) 0 RowT.zero 0 (m.epoch % 1024) (tameB m.ballot) BallotT.zero (ChangeT.mk (m.change.kind % 2) ((m.change.who % 256) % 5) ((m.change.heir % 256) % 5)) ViewT.zero))]; exact sz44) (ints_one _) rfl rfl (by have h0 := (MsgT.len MsgT.zero); have h1 := (MsgT.len (MsgT.mk ((m.kind % 256) % 10) 0 RowT.zero 0 (m.epoch % 1024) (tameB m.ballot) BallotT.zero (ChangeT.mk (m.change.kind % 2) ((m.change.who % 256) % 5) ((m.change.heir % 256) % 5)) ViewT.zero)); omega) (wwhole ((MsgT.len MsgT.zero).trans (MsgT.len (MsgT.mk ((m.kind % 256) % 10) 0 RowT.zero 0 (m.epoch % 1024) (tameB m.ballot) BallotT.zero (ChangeT.mk (m.change.kind % 2) ((m.change.who % 256) % 5) ((m.change.heir % 256) % 5)) ViewT.zero)).symm)) rfl ?_
                          refine TL.nil ?_
                          refine TE.next hK23 ?_
                          clear hK23
                          refine TC.ret ?_
                          refine TE.retC (H' := []) rfl rfl Try.underlying44 rfl sz44 (Rd.own 3 rfl rfl) (MsgT.len (MsgT.mk ((m.kind % 256) % 10) 0 RowT.zero 0 (m.epoch % 1024) (tameB m.ballot) BallotT.zero (ChangeT.mk (m.change.kind % 2) ((m.change.who % 256) % 5) ((m.change.heir % 256) % 5)) ViewT.zero)) (fun _ s => sep_keep [] rfl s) ?_
                          refine ⟨?_, rfl⟩
                          simp [tameM, normM, fullM, kRow, kAsk, tameB, tameG, MsgT.zero, h44, h44, h47, h57, h62, h64, h75, h93, *]
                        exact AllT.nil
                      exact AllT.nil
                    exact AllT.nil
                  exact AllT.nil
                · skip
                  refine TL.v (Want.plain rfl) rfl rfl (PV.assign rfl rfl) ?_
                  refine TL.nil ?_
                  refine TE.next hK22 ?_
                  clear hK22
                  refine TC.no rfl ?_
                  refine TC.seq (fun K24 hK24 => ?_)
                  refine TC.region ?_
                  refine TL.v (Want.plain rfl) rfl rfl (PV.eql rfl rfl rfl) ?_
                  refine TL.dec (fun h106 => ?_) (fun h106 => ?_)
                  · skip
                    refine TL.v (Want.plain rfl) rfl rfl (PV.assign rfl rfl) ?_
                    refine TL.nil ?_
                    refine TE.next hK24 ?_
                    clear hK24
                    refine TC.yes rfl ?_
                    refine TC.region ?_
                    refine TL.v (Want.plain rfl) rfl rfl (PV.loadN (vs := ints (behindV l).flat) rfl Try.underlying25 rfl sz25 rfl (Rd.own 1 rfl rfl) (ViewT.len (behindV l)) (whole (ViewT.len (behindV l)))) ?_
                    refine TL.v (Want.plain rfl) rfl rfl (PV.fieldAddr (r := 185) rfl Try.underlying44 rfl sz25 rfl rfl) ?_
                    refine TL.store (vs := ints (behindV l).flat) (i := 2) (H' := [blkA b9 (ints (ChangeT.mk (m.change.kind % 2) ((m.change.who % 256) % 5) ((m.change.heir % 256) % 5)).flat) 42, blkA b6 (ints (behindV l).flat) 25, blkA b5 (ints (MsgT.mk ((m.kind % 256) % 10) 0 RowT.zero 0 0 BallotT.zero BallotT.zero ChangeT.zero (behindV l)).flat) 44, blkA b4 (ints MsgT.zero.flat) 44, blkA b2 (ints m.flat) 44]) (Want.plain rfl) rfl rfl rfl rfl rfl (by rw [(ViewT.len (behindV l))]; exact sz25) (ints_one _) rfl rfl (by have h0 := (MsgT.len (MsgT.mk ((m.kind % 256) % 10) 0 RowT.zero 0 0 BallotT.zero BallotT.zero ChangeT.zero ViewT.zero)); have h1 := (ViewT.len (behindV l)); omega) (MsgT.wr_view_ (MsgT.mk ((m.kind % 256) % 10) 0 RowT.zero 0 0 BallotT.zero BallotT.zero ChangeT.zero ViewT.zero) 0 rfl (by have h1 := (ViewT.len (behindV l)); omega) (wwhole ((ViewT.len ViewT.zero).trans (ViewT.len (behindV l)).symm))) rfl ?_
                    refine TL.nil ?_
                    refine TE.blockEnd ?_
                    refine TE.next hK6 ?_
                    clear hK6
                    refine TC.seq (fun K25 hK25 => ?_)
                    refine TC.region ?_
                    refine TL.v (Want.plain rfl) rfl rfl (PV.loadN (vs := ints (MsgT.mk ((m.kind % 256) % 10) 0 RowT.zero 0 0 BallotT.zero BallotT.zero ChangeT.zero (behindV l)).flat) rfl Try.underlying44 rfl sz44 rfl (Rd.own 2 rfl rfl) (MsgT.len (MsgT.mk ((m.kind % 256) % 10) 0 RowT.zero 0 0 BallotT.zero BallotT.zero ChangeT.zero (behindV l))) (whole (MsgT.len (MsgT.mk ((m.kind % 256) % 10) 0 RowT.zero 0 0 BallotT.zero BallotT.zero ChangeT.zero (behindV l))))) ?_
                    refine TL.store (vs := ints (MsgT.mk ((m.kind % 256) % 10) 0 RowT.zero 0 0 BallotT.zero BallotT.zero ChangeT.zero (behindV l)).flat) (i := 3) (H' := [blkA b9 (ints (ChangeT.mk (m.change.kind % 2) ((m.change.who % 256) % 5) ((m.change.heir % 256) % 5)).flat) 42, blkA b6 (ints (behindV l).flat) 25, blkA b5 (ints (MsgT.mk ((m.kind % 256) % 10) 0 RowT.zero 0 0 BallotT.zero BallotT.zero ChangeT.zero (behindV l)).flat) 44, blkA b4 (ints (MsgT.mk ((m.kind % 256) % 10) 0 RowT.zero 0 0 BallotT.zero BallotT.zero ChangeT.zero (behindV l)).flat) 44, blkA b2 (ints m.flat) 44]) (Want.plain rfl) rfl rfl rfl rfl rfl (by rw [(MsgT.len (MsgT.mk ((m.kind % 256) % 10) 0 RowT.zero 0 0 BallotT.zero BallotT.zero ChangeT.zero (behindV l)))]; exact sz44) (ints_one _) rfl rfl (by have h0 := (MsgT.len MsgT.zero); have h1 := (MsgT.len (MsgT.mk ((m.kind % 256) % 10) 0 RowT.zero 0 0 BallotT.zero BallotT.zero ChangeT.zero (behindV l))); omega) (wwhole ((MsgT.len MsgT.zero).trans (MsgT.len (MsgT.mk ((m.kind % 256) % 10) 0 RowT.zero 0 0 BallotT.zero BallotT.zero ChangeT.zero (behindV l))).symm)) rfl ?_
                    refine TL.nil ?_
                    refine TE.next hK25 ?_
                    clear hK25
                    refine TC.ret ?_
                    refine TE.retC (H' := []) rfl rfl Try.underlying44 rfl sz44 (Rd.own 3 rfl rfl) (MsgT.len (MsgT.mk ((m.kind % 256) % 10) 0 RowT.zero 0 0 BallotT.zero BallotT.zero ChangeT.zero (behindV l))) (fun _ s => sep_keep [] rfl s) ?_
                    refine ⟨?_, rfl⟩
                    simp [tameM, normM, fullM, kRow, kAsk, tameB, tameG, MsgT.zero, h44, h44, h47, h57, h62, h64, h75, h93, h106, *]
                  · skip
                    refine TL.v (Want.plain rfl) rfl rfl (PV.assign rfl rfl) ?_
                    refine TL.nil ?_
                    refine TE.next hK24 ?_
                    clear hK24
                    refine TC.no rfl ?_
                    refine TC.draw (fun w => Frm F w ∧ w.heap[b2]? = some (.cells (ints m.flat).toArray 44 (0, 0)) ∧ w.heap[b6]? = some (.cells (ints (behindV l).flat).toArray 25 (0, 0)) ∧ True) mixed rfl (fun _ s => ⟨Frm.of s, s.block 4 (lb rfl) rfl, s.block 1 (lb rfl) rfl, trivial⟩) ?_
                    refine TD.take (i := 0) rfl (by kernel_rfl) (by kernel_rfl) (by kernel_rfl) (fun _ _ _ _ h => h) (Want.plain rfl) rfl rfl (PV.fieldAddr (r := 1) rfl Try.underlying44 rfl sz3 rfl rfl) ?_
                    refine TD.take (i := 1) rfl (by kernel_rfl) (by kernel_rfl) (by kernel_rfl) (fun _ _ _ _ h => h) (Want.plain rfl) rfl rfl (PV.load1 (v := (.int .i64 (m.whose))) rfl Try.underlying3 rfl rfl (fun _ h => h.2.1) (MsgT.at_whose m rfl)) ?_
                    refine TD.take (i := 2) rfl (by kernel_rfl) (by kernel_rfl) (by kernel_rfl) (fun _ _ _ _ h => h) (Want.plain rfl) rfl rfl (PV.and (r := (m.whose % 256)) rfl rfl rfl (mask (k := 8) (by decide) _)) ?_
                    refine TD.take (i := 3) rfl (by kernel_rfl) (by kernel_rfl) (by kernel_rfl) (fun _ _ _ _ h => h) (Want.plain rfl) rfl rfl (PV.rem (r := ((m.whose % 256) % 5)) rfl rfl rfl (by omega) (rem_pos (by omega))) ?_
                    refine TD.take (i := 4) rfl (by kernel_rfl) (by kernel_rfl) (by kernel_rfl) (fun _ _ _ _ h => h) (Want.plain rfl) rfl rfl (PV.loadN (vs := ints (behindV l).flat) rfl Try.underlying25 rfl sz25 rfl (fun _ h => h.2.2.1) (ViewT.len (behindV l)) (whole (ViewT.len (behindV l)))) ?_
                    refine TD.take (i := 5) rfl (by kernel_rfl) (by kernel_rfl) (by kernel_rfl) (fun _ _ _ _ h => h) (Want.plain rfl) rfl rfl (PV.fieldAddr (r := 1) rfl Try.underlying44 rfl sz3 rfl rfl) ?_
                    refine TD.all [6] (by kernel_rfl) rfl ?_
                    refine AllT.cons rfl ?_ ?_
                    · skip
                      refine TL.store1 (i := 2) (H' := [blkA b9 (ints (ChangeT.mk (m.change.kind % 2) ((m.change.who % 256) % 5) ((m.change.heir % 256) % 5)).flat) 42, blkA b6 (ints (behindV l).flat) 25, blkA b5 (ints (MsgT.mk ((m.kind % 256) % 10) ((m.whose % 256) % 5) RowT.zero 0 0 BallotT.zero BallotT.zero ChangeT.zero ViewT.zero).flat) 44, blkA b4 (ints MsgT.zero.flat) 44, blkA b2 (ints m.flat) 44]) (Want.plain rfl) rfl rfl rfl rfl rfl sz3 rfl rfl (by have h0 := (MsgT.len (MsgT.mk ((m.kind % 256) % 10) 0 RowT.zero 0 0 BallotT.zero BallotT.zero ChangeT.zero ViewT.zero)); omega) (MsgT.set_whose (MsgT.mk ((m.kind % 256) % 10) 0 RowT.zero 0 0 BallotT.zero BallotT.zero ChangeT.zero ViewT.zero) rfl _) rfl ?_
                      refine TL.nil ?_
                      refine TE.draw (fun _ s => ⟨Frm.of s, s.block 4 (lb rfl) rfl, s.block 1 (lb rfl) rfl, trivial⟩) ?_
                      refine TD.take (i := 7) rfl (by kernel_rfl) (by kernel_rfl) (by kernel_rfl) (fun _ _ _ _ h => h) (Want.plain rfl) rfl rfl (PV.fieldAddr (r := 185) rfl Try.underlying44 rfl sz25 rfl rfl) ?_
                      refine TD.all [8] (by kernel_rfl) rfl ?_
                      refine AllT.cons rfl ?_ ?_
                      · skip
                        refine TL.store (vs := ints (behindV l).flat) (i := 2) (H' := [blkA b9 (ints (ChangeT.mk (m.change.kind % 2) ((m.change.who % 256) % 5) ((m.change.heir % 256) % 5)).flat) 42, blkA b6 (ints (behindV l).flat) 25, blkA b5 (ints (MsgT.mk ((m.kind % 256) % 10) ((m.whose % 256) % 5) RowT.zero 0 0 BallotT.zero BallotT.zero ChangeT.zero (behindV l)).flat) 44, blkA b4 (ints MsgT.zero.flat) 44, blkA b2 (ints m.flat) 44]) (Want.plain rfl) rfl rfl rfl rfl rfl (by rw [(ViewT.len (behindV l))]; exact sz25) (ints_one _) rfl rfl (by have h0 := (MsgT.len (MsgT.mk ((m.kind % 256) % 10) ((m.whose % 256) % 5) RowT.zero 0 0 BallotT.zero BallotT.zero ChangeT.zero ViewT.zero)); have h1 := (ViewT.len (behindV l)); omega) (MsgT.wr_view_ (MsgT.mk ((m.kind % 256) % 10) ((m.whose % 256) % 5) RowT.zero 0 0 BallotT.zero BallotT.zero ChangeT.zero ViewT.zero) 0 rfl (by have h1 := (ViewT.len (behindV l)); omega) (wwhole ((ViewT.len ViewT.zero).trans (ViewT.len (behindV l)).symm))) rfl ?_
                        refine TL.nil ?_
                        refine TE.draw (fun _ s => ⟨Frm.of s, s.block 4 (lb rfl) rfl, s.block 1 (lb rfl) rfl, trivial⟩) ?_
                        refine TD.done (by kernel_rfl) ?_
                        refine TE.blockEnd ?_
                        refine TE.next hK6 ?_
                        clear hK6
                        refine TC.seq (fun K26 hK26 => ?_)
                        refine TC.region ?_
                        refine TL.v (Want.plain rfl) rfl rfl (PV.loadN (vs := ints (MsgT.mk ((m.kind % 256) % 10) ((m.whose % 256) % 5) RowT.zero 0 0 BallotT.zero BallotT.zero ChangeT.zero (behindV l)).flat) rfl Try.underlying44 rfl sz44 rfl (Rd.own 2 rfl rfl) (MsgT.len (MsgT.mk ((m.kind % 256) % 10) ((m.whose % 256) % 5) RowT.zero 0 0 BallotT.zero BallotT.zero ChangeT.zero (behindV l))) (whole (MsgT.len (MsgT.mk ((m.kind % 256) % 10) ((m.whose % 256) % 5) RowT.zero 0 0 BallotT.zero BallotT.zero ChangeT.zero (behindV l))))) ?_
                        refine TL.store (vs := ints (MsgT.mk ((m.kind % 256) % 10) ((m.whose % 256) % 5) RowT.zero 0 0 BallotT.zero BallotT.zero ChangeT.zero (behindV l)).flat) (i := 3) (H' := [blkA b9 (ints (ChangeT.mk (m.change.kind % 2) ((m.change.who % 256) % 5) ((m.change.heir % 256) % 5)).flat) 42, blkA b6 (ints (behindV l).flat) 25, blkA b5 (ints (MsgT.mk ((m.kind % 256) % 10) ((m.whose % 256) % 5) RowT.zero 0 0 BallotT.zero BallotT.zero ChangeT.zero (behindV l)).flat) 44, blkA b4 (ints (MsgT.mk ((m.kind % 256) % 10) ((m.whose % 256) % 5) RowT.zero 0 0 BallotT.zero BallotT.zero ChangeT.zero (behindV l)).flat) 44, blkA b2 (ints m.flat) 44]) (Want.plain rfl) rfl rfl rfl rfl rfl (by rw [(MsgT.len (MsgT.mk ((m.kind % 256) % 10) ((m.whose % 256) % 5) RowT.zero 0 0 BallotT.zero BallotT.zero ChangeT.zero (behindV l)))]; exact sz44) (ints_one _) rfl rfl (by have h0 := (MsgT.len MsgT.zero); have h1 := (MsgT.len (MsgT.mk ((m.kind % 256) % 10) ((m.whose % 256) % 5) RowT.zero 0 0 BallotT.zero BallotT.zero ChangeT.zero (behindV l))); omega) (wwhole ((MsgT.len MsgT.zero).trans (MsgT.len (MsgT.mk ((m.kind % 256) % 10) ((m.whose % 256) % 5) RowT.zero 0 0 BallotT.zero BallotT.zero ChangeT.zero (behindV l))).symm)) rfl ?_
                        refine TL.nil ?_
                        refine TE.next hK26 ?_
                        clear hK26
                        refine TC.ret ?_
                        refine TE.retC (H' := []) rfl rfl Try.underlying44 rfl sz44 (Rd.own 3 rfl rfl) (MsgT.len (MsgT.mk ((m.kind % 256) % 10) ((m.whose % 256) % 5) RowT.zero 0 0 BallotT.zero BallotT.zero ChangeT.zero (behindV l))) (fun _ s => sep_keep [] rfl s) ?_
                        refine ⟨?_, rfl⟩
                        simp [tameM, normM, fullM, kRow, kAsk, tameB, tameG, MsgT.zero, h44, h44, h47, h57, h62, h64, h75, h93, h106, *]
                      exact AllT.nil
                    exact AllT.nil


end Go.Proofs.Ytdekgkmbcdlekaa
