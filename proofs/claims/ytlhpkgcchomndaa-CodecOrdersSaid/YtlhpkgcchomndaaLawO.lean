/-
  CodecOrders: what it reckons.
-/

import Derived.Test.YtlhpkgcchomndaaLawA
import Derived.Test.YtlhpkgcchomndaaLawT

namespace Go.Proofs.Ytlhpkgcchomndaa

open Go Leg Codec Api

set_option maxRecDepth 100000

theorem orders {x y : RowT} (hx : TameR x) (hy : TameR y) : (decide (encRow x = encRow y) == decide (x.flat = y.flat)) = true := by
  by_cases h : x = y
  · subst h; simp
  · have h1 : ¬ encRow x = encRow y := fun e => h (encRow_inj hx hy e)
    have h2 : ¬ x.flat = y.flat := fun e => h (flat_inj e)
    simp [h1, h2]

theorem orders_does (x y : RowT) :
    Does Try.prog 3 #[(.agg (ints x.flat).toArray), (.agg (ints y.flat).toArray)] (fun _ => True) [] (Ret (fun v H => v = .bool true ∧ H = [])) := by
  refine Does.body (vs := [(.agg (ints x.flat).toArray), (.agg (ints y.flat).toArray)]) (n := 26) Try.func3 rfl rfl rfl (fun w0 F hF => ?_)
  refine TC.seq (fun K1 hK1 => ?_)
  refine TC.region ?_
  refine TL.box (Want.plain rfl) rfl rfl rfl rfl (fun b2 => ?_)
  change TL _ _ _ _ _ _ _ _ _ [blkA b2 (ints x.flat) 28]
  refine TL.box (Want.plain rfl) rfl rfl rfl rfl (fun b3 => ?_)
  change TL _ _ _ _ _ _ _ _ _ [blkA b3 (ints y.flat) 28, blkA b2 (ints x.flat) 28]
  refine TL.v (Want.plain rfl) rfl rfl (PV.assign rfl rfl) ?_
  refine TL.nil ?_
  refine TE.next hK1 ?_
  clear hK1
  refine TC.seq (fun K2 hK2 => ?_)
  refine TC.seq (fun K3 hK3 => ?_)
  refine TC.region ?_
  refine TL.callR (A := []) (B := [blkA b3 (ints y.flat) 28, blkA b2 (ints x.flat) 28]) (Want.plain rfl) rfl rfl rfl nm9 rfl (fit_does) (fun _ s => s) (fun _ _ _ => trivial) (fun vR HR hR => ?_)
  obtain ⟨rfl, rfl⟩ := hR
  change TL _ _ _ _ _ _ _ _ _ [blkA b3 (ints y.flat) 28, blkA b2 (ints x.flat) 28]
  refine TL.v (Want.plain rfl) rfl rfl (PV.not (r := false) rfl rfl rfl) ?_
  refine TL.nil ?_
  refine TE.next hK3 ?_
  clear hK3
  refine TC.no rfl ?_
  refine TC.skip ?_
  refine TE.next hK2 ?_
  clear hK2
  refine TC.seq (fun K4 hK4 => ?_)
  refine TC.draw (fun w => Frm F w ∧ True) mixed rfl (fun _ s => ⟨Frm.of s, trivial⟩) ?_
  refine TD.all [0, 2] (by kernel_rfl) rfl ?_
  refine AllT.cons rfl ?_ ?_
  · skip
    refine TL.v (Want.plain rfl) rfl rfl (PV.loadN (vs := ints x.flat) rfl Try.underlying28 rfl sz28 rfl (Rd.own 1 rfl rfl) (RowT.len _) (by rw [List.drop_zero, List.take_of_length_le (by rw [RowT.len]; decide)])) ?_
    refine TL.nil ?_
    refine TE.draw (fun _ s => ⟨Frm.of s, trivial⟩) ?_
    refine TD.all [1, 2] (by kernel_rfl) rfl ?_
    refine AllT.cons rfl ?_ ?_
    · skip
      refine TL.callR (A := []) (B := [blkA b3 (ints y.flat) 28, blkA b2 (ints x.flat) 28]) (Want.plain rfl) rfl rfl rfl nm10 rfl (tame_does x) (fun _ s => s) (fun _ _ _ => trivial) (fun vR HR hR => ?_)
      obtain ⟨xa, rfl, rfl, htxa⟩ := hR
      change TL _ _ _ _ _ _ _ _ _ [blkA b3 (ints y.flat) 28, blkA b2 (ints x.flat) 28]
      refine TL.nil ?_
      refine TE.draw (fun _ s => ⟨Frm.of s, trivial⟩) ?_
      refine TD.all [2] (by kernel_rfl) rfl ?_
      refine AllT.cons rfl ?_ ?_
      · skip
        refine TL.v (Want.plain rfl) rfl rfl (PV.loadN (vs := ints y.flat) rfl Try.underlying28 rfl sz28 rfl (Rd.own 0 rfl rfl) (RowT.len _) (by rw [List.drop_zero, List.take_of_length_le (by rw [RowT.len]; decide)])) ?_
        refine TL.nil ?_
        refine TE.draw (fun _ s => ⟨Frm.of s, trivial⟩) ?_
        refine TD.all [3] (by kernel_rfl) rfl ?_
        refine AllT.cons rfl ?_ ?_
        · skip
          refine TL.callR (A := []) (B := [blkA b3 (ints y.flat) 28, blkA b2 (ints x.flat) 28]) (Want.plain rfl) rfl rfl rfl nm10 rfl (tame_does y) (fun _ s => s) (fun _ _ _ => trivial) (fun vR HR hR => ?_)
          obtain ⟨ya, rfl, rfl, htya⟩ := hR
          change TL _ _ _ _ _ _ _ _ _ [blkA b3 (ints y.flat) 28, blkA b2 (ints x.flat) 28]
          refine TL.nil ?_
          refine TE.draw (fun _ s => ⟨Frm.of s, trivial⟩) ?_
          refine TD.all [4] (by kernel_rfl) rfl ?_
          refine AllT.cons rfl ?_ ?_
          · skip
            refine TL.store (vs := ints xa.flat) (i := 1) (H' := [blkA b3 (ints y.flat) 28, blkA b2 (ints xa.flat) 28]) (Want.plain rfl) rfl rfl rfl rfl rfl (by rw [RowT.len]; exact sz28) (ints_one _) rfl rfl (by rw [RowT.len, Nat.zero_add, RowT.len]; decide) (wr_whole (by rw [RowT.len, RowT.len])) rfl ?_
            refine TL.nil ?_
            refine TE.draw (fun _ s => ⟨Frm.of s, trivial⟩) ?_
            refine TD.all [5] (by kernel_rfl) rfl ?_
            refine AllT.cons rfl ?_ ?_
            · skip
              refine TL.store (vs := ints ya.flat) (i := 0) (H' := [blkA b3 (ints ya.flat) 28, blkA b2 (ints xa.flat) 28]) (Want.plain rfl) rfl rfl rfl rfl rfl (by rw [RowT.len]; exact sz28) (ints_one _) rfl rfl (by rw [RowT.len, Nat.zero_add, RowT.len]; decide) (wr_whole (by rw [RowT.len, RowT.len])) rfl ?_
              refine TL.nil ?_
              refine TE.draw (fun _ s => ⟨Frm.of s, trivial⟩) ?_
              refine TD.done (by kernel_rfl) ?_
              refine TE.next hK4 ?_
              clear hK4
              refine TC.seq (fun K5 hK5 => ?_)
              refine TC.region ?_
              refine TL.alloc (Want.plain rfl) rfl rfl rfl z33 (fun b5 => ?_)
              change TL _ _ _ _ _ _ _ _ _ [blkA b5 [(.slice none 0 0)] 33, blkA b3 (ints ya.flat) 28, blkA b2 (ints xa.flat) 28]
              refine TL.ownNil 5 (fun on => ?_)
              clear on
              refine TL.alloc (Want.plain rfl) rfl rfl rfl z33 (fun b6 => ?_)
              change TL _ _ _ _ _ _ _ _ _ [blkA b6 [(.slice none 0 0)] 33, ownB (.slice none 0 0) ([]) 5, blkA b5 [(.slice none 0 0)] 33, blkA b3 (ints ya.flat) 28, blkA b2 (ints xa.flat) 28]
              refine TL.ownNil 5 (fun on => ?_)
              clear on
              refine TL.nil ?_
              refine TE.next hK5 ?_
              clear hK5
              refine TC.seq (fun K6 hK6 => ?_)
              refine TC.draw (fun w => Frm F w ∧ w.heap[b2]? = some (.cells (ints xa.flat).toArray 28 (0, 0)) ∧ w.heap[b3]? = some (.cells (ints ya.flat).toArray 28 (0, 0)) ∧ True) mixed rfl (fun _ s => ⟨Frm.of s, s.block 5 (lb rfl) rfl, s.block 4 (lb rfl) rfl, trivial⟩) ?_
              refine TD.take (i := 0) rfl (by kernel_rfl) (by kernel_rfl) (by kernel_rfl) (fun _ _ _ _ h => h) (Want.plain rfl) rfl rfl (PV.loadN (vs := ints xa.flat) rfl Try.underlying28 rfl sz28 rfl (Rd.right (Rd.left)) (RowT.len _) (by rw [List.drop_zero, List.take_of_length_le (by rw [RowT.len]; decide)])) ?_
              refine TD.take (i := 4) rfl (by kernel_rfl) (by kernel_rfl) (by kernel_rfl) (fun _ _ _ _ h => h) (Want.plain rfl) rfl rfl (PV.loadN (vs := ints ya.flat) rfl Try.underlying28 rfl sz28 rfl (Rd.right (Rd.right (Rd.left))) (RowT.len _) (by rw [List.drop_zero, List.take_of_length_le (by rw [RowT.len]; decide)])) ?_
              refine TD.take (i := 9) rfl (by kernel_rfl) (by kernel_rfl) (by kernel_rfl) (fun _ _ _ _ h => h) (Want.plain rfl) rfl rfl (PV.loadN (vs := ints xa.flat) rfl Try.underlying28 rfl sz28 rfl (Rd.right (Rd.left)) (RowT.len _) (by rw [List.drop_zero, List.take_of_length_le (by rw [RowT.len]; decide)])) ?_
              refine TD.take (i := 10) rfl (by kernel_rfl) (by kernel_rfl) (by kernel_rfl) (fun _ _ _ _ h => h) (Want.plain rfl) rfl rfl (PV.loadN (vs := ints ya.flat) rfl Try.underlying28 rfl sz28 rfl (Rd.right (Rd.right (Rd.left))) (RowT.len _) (by rw [List.drop_zero, List.take_of_length_le (by rw [RowT.len]; decide)])) ?_
              refine TD.take (i := 11) rfl (by kernel_rfl) (by kernel_rfl) (by kernel_rfl) (fun _ _ _ _ h => h) (Want.plain rfl) rfl rfl (PV.eqlAgg (a := xa.flat) (b := ya.flat) (m := 6) (c := 174) Try.eqGuardType28 (by kernel_rfl) rfl (by kernel_rfl) (RowT.flat_length _) (RowT.flat_length _) ⟨formed_ag (by kernel_rfl) (by kernel_rfl) (RowT.flat_length _), formed_ag (by kernel_rfl) (by kernel_rfl) (RowT.flat_length _)⟩ htxa.wf htya.wf rfl rfl rfl) ?_
              refine TD.all [1] (by kernel_rfl) rfl ?_
              refine AllT.cons rfl ?_ ?_
              · skip
                refine TL.callR (A := [blkA b5 [(.slice none 0 0)] 33, ownB (.slice none 0 0) ([]) 5]) (B := [ownB (.slice none 0 0) ([]) 5, blkA b6 [(.slice none 0 0)] 33, blkA b3 (ints ya.flat) 28, blkA b2 (ints xa.flat) 28]) (Want.plain rfl) rfl rfl rfl nm11 rfl (wrow_does b5 (.slice none 0 0) [] xa (by simp)) (fun _ s => sep_selR [3, 2] rfl s) (fun _ _ _ => trivial) (fun vR HR hR => ?_)
                obtain ⟨ub5, rfl, rfl⟩ := hR
                change TL _ _ _ _ _ _ _ _ _ [blkA b5 [ub5] 33, ownB ub5 (encRow xa) 5, ownB (.slice none 0 0) ([]) 5, blkA b6 [(.slice none 0 0)] 33, blkA b3 (ints ya.flat) 28, blkA b2 (ints xa.flat) 28]
                refine TL.nil ?_
                refine TE.draw (fun _ s => ⟨Frm.of s, s.block 5 (lb rfl) rfl, s.block 4 (lb rfl) rfl, trivial⟩) ?_
                refine TD.all [2] (by kernel_rfl) rfl ?_
                refine AllT.cons rfl ?_ ?_
                · skip
                  refine TL.callR (A := [blkA b5 [ub5] 33, ownB ub5 (encRow xa) 5]) (B := [ownB (.slice none 0 0) ([]) 5, blkA b6 [(.slice none 0 0)] 33, blkA b3 (ints ya.flat) 28, blkA b2 (ints xa.flat) 28]) (Want.plain rfl) rfl rfl rfl nm12 rfl (wbytes_does b5 ub5 (encRow xa) (by have := encRow_len xa; have := encRow_len ya; omega)) (fun _ s => s) (fun _ _ _ => trivial) (fun vR HR hR => ?_)
                  obtain ⟨y1, hy1, rfl⟩ := hR
                  subst vR
                  change TL _ _ _ _ _ _ _ _ _ [blkA b5 [ub5] 33, ownB ub5 (encRow xa) 5, ownB y1 (encRow xa) 5, ownB (.slice none 0 0) ([]) 5, blkA b6 [(.slice none 0 0)] 33, blkA b3 (ints ya.flat) 28, blkA b2 (ints xa.flat) 28]
                  refine TL.nil ?_
                  refine TE.draw (fun _ s => ⟨Frm.of s, s.block 6 (lb rfl) rfl, s.block 5 (lb rfl) rfl, trivial⟩) ?_
                  refine TD.more (Hb y1 (encRow xa)) (fun _ s => s.hb 2 rfl rfl) ?_
                  refine TD.take (i := 3) rfl (by kernel_rfl) (by kernel_rfl) (by kernel_rfl) (fun _ _ _ _ h => h) (Want.plain rfl) rfl rfl (PV.bytesStr (l := encRow xa) rfl Try.underlying31 Try.underlying5 Try.underlying9 rfl (Hb.src (fun _ h => h.1))) ?_
                  refine TD.all [5] (by kernel_rfl) rfl ?_
                  refine AllT.cons rfl ?_ ?_
                  · skip
                    refine TL.callR (A := [blkA b6 [(.slice none 0 0)] 33, ownB (.slice none 0 0) ([]) 5]) (B := [blkA b5 [ub5] 33, ownB ub5 (encRow xa) 5, ownB y1 (encRow xa) 5, blkA b3 (ints ya.flat) 28, blkA b2 (ints xa.flat) 28]) (Want.plain rfl) rfl rfl rfl nm11 rfl (wrow_does b6 (.slice none 0 0) [] ya (by simp)) (fun _ s => sep_selR [4, 3] rfl s) (fun _ _ _ => trivial) (fun vR HR hR => ?_)
                    obtain ⟨ub6, rfl, rfl⟩ := hR
                    change TL _ _ _ _ _ _ _ _ _ [blkA b6 [ub6] 33, ownB ub6 (encRow ya) 5, blkA b5 [ub5] 33, ownB ub5 (encRow xa) 5, ownB y1 (encRow xa) 5, blkA b3 (ints ya.flat) 28, blkA b2 (ints xa.flat) 28]
                    refine TL.nil ?_
                    refine TE.draw (fun _ s => ⟨s.hb 4 rfl rfl, ⟨Frm.of s, s.block 6 (lb rfl) rfl, s.block 5 (lb rfl) rfl, trivial⟩⟩) ?_
                    refine TD.all [6] (by kernel_rfl) rfl ?_
                    refine AllT.cons rfl ?_ ?_
                    · skip
                      refine TL.callR (A := [blkA b6 [ub6] 33, ownB ub6 (encRow ya) 5]) (B := [blkA b5 [ub5] 33, ownB ub5 (encRow xa) 5, ownB y1 (encRow xa) 5, blkA b3 (ints ya.flat) 28, blkA b2 (ints xa.flat) 28]) (Want.plain rfl) rfl rfl rfl nm12 rfl (wbytes_does b6 ub6 (encRow ya) (by have := encRow_len xa; have := encRow_len ya; omega)) (fun _ s => s) (fun _ _ _ => trivial) (fun vR HR hR => ?_)
                      obtain ⟨y2, hy2, rfl⟩ := hR
                      subst vR
                      change TL _ _ _ _ _ _ _ _ _ [blkA b6 [ub6] 33, ownB ub6 (encRow ya) 5, ownB y2 (encRow ya) 5, blkA b5 [ub5] 33, ownB ub5 (encRow xa) 5, ownB y1 (encRow xa) 5, blkA b3 (ints ya.flat) 28, blkA b2 (ints xa.flat) 28]
                      refine TL.nil ?_
                      refine TE.draw (fun _ s => ⟨s.hb 5 rfl rfl, ⟨Frm.of s, s.block 7 (lb rfl) rfl, s.block 6 (lb rfl) rfl, trivial⟩⟩) ?_
                      refine TD.more (Hb y2 (encRow ya)) (fun _ s => s.hb 2 rfl rfl) ?_
                      refine TD.take (i := 7) rfl (by kernel_rfl) (by kernel_rfl) (by kernel_rfl) (fun _ _ _ _ h => h) (Want.plain rfl) rfl rfl (PV.bytesStr (l := encRow ya) rfl Try.underlying31 Try.underlying5 Try.underlying9 rfl (Hb.src (fun _ h => h.1))) ?_
                      refine TD.take (i := 8) rfl (by kernel_rfl) (by kernel_rfl) (by kernel_rfl) (fun _ _ _ _ h => h) (Want.plain rfl) rfl rfl (PV.strEql (a := encRow xa) (b := encRow ya) rfl rfl rfl) ?_
                      refine TD.take (i := 12) rfl (by kernel_rfl) (by kernel_rfl) (by kernel_rfl) (fun _ _ _ _ h => h) (Want.plain rfl) rfl rfl (PV.eqlB rfl Try.underlying4 rfl rfl) ?_
                      refine TD.take (i := 13) rfl (by kernel_rfl) (by kernel_rfl) (by kernel_rfl) (fun _ _ _ _ h => h) (Want.plain rfl) rfl rfl (PV.assign rfl rfl) ?_
                      refine TD.done (by kernel_rfl) ?_
                      refine TE.next hK6 ?_
                      clear hK6
                      refine TC.ret ?_
                      refine TE.weak (Sub.refl _) (fun _ s => sep_keep [] rfl s) ?_
                      refine TE.ret1 rfl rfl ?_
                      exact ⟨by rw [orders htxa htya], rfl⟩
                    exact AllT.nil
                  exact AllT.nil
                exact AllT.nil
              exact AllT.nil
            exact AllT.nil
          exact AllT.nil
        exact AllT.nil
      exact AllT.nil
    refine AllT.cons rfl ?_ ?_
    · skip
      refine TL.v (Want.plain rfl) rfl rfl (PV.loadN (vs := ints y.flat) rfl Try.underlying28 rfl sz28 rfl (Rd.own 0 rfl rfl) (RowT.len _) (by rw [List.drop_zero, List.take_of_length_le (by rw [RowT.len]; decide)])) ?_
      refine TL.nil ?_
      refine TE.draw (fun _ s => ⟨Frm.of s, trivial⟩) ?_
      refine TD.all [1] (by kernel_rfl) rfl ?_
      refine AllT.cons rfl ?_ ?_
      · skip
        refine TL.callR (A := []) (B := [blkA b3 (ints y.flat) 28, blkA b2 (ints x.flat) 28]) (Want.plain rfl) rfl rfl rfl nm10 rfl (tame_does x) (fun _ s => s) (fun _ _ _ => trivial) (fun vR HR hR => ?_)
        obtain ⟨xa, rfl, rfl, htxa⟩ := hR
        change TL _ _ _ _ _ _ _ _ _ [blkA b3 (ints y.flat) 28, blkA b2 (ints x.flat) 28]
        refine TL.nil ?_
        refine TE.draw (fun _ s => ⟨Frm.of s, trivial⟩) ?_
        refine TD.all [3] (by kernel_rfl) rfl ?_
        refine AllT.cons rfl ?_ ?_
        · skip
          refine TL.callR (A := []) (B := [blkA b3 (ints y.flat) 28, blkA b2 (ints x.flat) 28]) (Want.plain rfl) rfl rfl rfl nm10 rfl (tame_does y) (fun _ s => s) (fun _ _ _ => trivial) (fun vR HR hR => ?_)
          obtain ⟨ya, rfl, rfl, htya⟩ := hR
          change TL _ _ _ _ _ _ _ _ _ [blkA b3 (ints y.flat) 28, blkA b2 (ints x.flat) 28]
          refine TL.nil ?_
          refine TE.draw (fun _ s => ⟨Frm.of s, trivial⟩) ?_
          refine TD.all [4] (by kernel_rfl) rfl ?_
          refine AllT.cons rfl ?_ ?_
          · skip
            refine TL.store (vs := ints xa.flat) (i := 1) (H' := [blkA b3 (ints y.flat) 28, blkA b2 (ints xa.flat) 28]) (Want.plain rfl) rfl rfl rfl rfl rfl (by rw [RowT.len]; exact sz28) (ints_one _) rfl rfl (by rw [RowT.len, Nat.zero_add, RowT.len]; decide) (wr_whole (by rw [RowT.len, RowT.len])) rfl ?_
            refine TL.nil ?_
            refine TE.draw (fun _ s => ⟨Frm.of s, trivial⟩) ?_
            refine TD.all [5] (by kernel_rfl) rfl ?_
            refine AllT.cons rfl ?_ ?_
            · skip
              refine TL.store (vs := ints ya.flat) (i := 0) (H' := [blkA b3 (ints ya.flat) 28, blkA b2 (ints xa.flat) 28]) (Want.plain rfl) rfl rfl rfl rfl rfl (by rw [RowT.len]; exact sz28) (ints_one _) rfl rfl (by rw [RowT.len, Nat.zero_add, RowT.len]; decide) (wr_whole (by rw [RowT.len, RowT.len])) rfl ?_
              refine TL.nil ?_
              refine TE.draw (fun _ s => ⟨Frm.of s, trivial⟩) ?_
              refine TD.done (by kernel_rfl) ?_
              refine TE.next hK4 ?_
              clear hK4
              refine TC.seq (fun K7 hK7 => ?_)
              refine TC.region ?_
              refine TL.alloc (Want.plain rfl) rfl rfl rfl z33 (fun b5 => ?_)
              change TL _ _ _ _ _ _ _ _ _ [blkA b5 [(.slice none 0 0)] 33, blkA b3 (ints ya.flat) 28, blkA b2 (ints xa.flat) 28]
              refine TL.ownNil 5 (fun on => ?_)
              clear on
              refine TL.alloc (Want.plain rfl) rfl rfl rfl z33 (fun b6 => ?_)
              change TL _ _ _ _ _ _ _ _ _ [blkA b6 [(.slice none 0 0)] 33, ownB (.slice none 0 0) ([]) 5, blkA b5 [(.slice none 0 0)] 33, blkA b3 (ints ya.flat) 28, blkA b2 (ints xa.flat) 28]
              refine TL.ownNil 5 (fun on => ?_)
              clear on
              refine TL.nil ?_
              refine TE.next hK7 ?_
              clear hK7
              refine TC.seq (fun K8 hK8 => ?_)
              refine TC.draw (fun w => Frm F w ∧ w.heap[b2]? = some (.cells (ints xa.flat).toArray 28 (0, 0)) ∧ w.heap[b3]? = some (.cells (ints ya.flat).toArray 28 (0, 0)) ∧ True) mixed rfl (fun _ s => ⟨Frm.of s, s.block 5 (lb rfl) rfl, s.block 4 (lb rfl) rfl, trivial⟩) ?_
              refine TD.take (i := 0) rfl (by kernel_rfl) (by kernel_rfl) (by kernel_rfl) (fun _ _ _ _ h => h) (Want.plain rfl) rfl rfl (PV.loadN (vs := ints xa.flat) rfl Try.underlying28 rfl sz28 rfl (Rd.right (Rd.left)) (RowT.len _) (by rw [List.drop_zero, List.take_of_length_le (by rw [RowT.len]; decide)])) ?_
              refine TD.take (i := 4) rfl (by kernel_rfl) (by kernel_rfl) (by kernel_rfl) (fun _ _ _ _ h => h) (Want.plain rfl) rfl rfl (PV.loadN (vs := ints ya.flat) rfl Try.underlying28 rfl sz28 rfl (Rd.right (Rd.right (Rd.left))) (RowT.len _) (by rw [List.drop_zero, List.take_of_length_le (by rw [RowT.len]; decide)])) ?_
              refine TD.take (i := 9) rfl (by kernel_rfl) (by kernel_rfl) (by kernel_rfl) (fun _ _ _ _ h => h) (Want.plain rfl) rfl rfl (PV.loadN (vs := ints xa.flat) rfl Try.underlying28 rfl sz28 rfl (Rd.right (Rd.left)) (RowT.len _) (by rw [List.drop_zero, List.take_of_length_le (by rw [RowT.len]; decide)])) ?_
              refine TD.take (i := 10) rfl (by kernel_rfl) (by kernel_rfl) (by kernel_rfl) (fun _ _ _ _ h => h) (Want.plain rfl) rfl rfl (PV.loadN (vs := ints ya.flat) rfl Try.underlying28 rfl sz28 rfl (Rd.right (Rd.right (Rd.left))) (RowT.len _) (by rw [List.drop_zero, List.take_of_length_le (by rw [RowT.len]; decide)])) ?_
              refine TD.take (i := 11) rfl (by kernel_rfl) (by kernel_rfl) (by kernel_rfl) (fun _ _ _ _ h => h) (Want.plain rfl) rfl rfl (PV.eqlAgg (a := xa.flat) (b := ya.flat) (m := 6) (c := 174) Try.eqGuardType28 (by kernel_rfl) rfl (by kernel_rfl) (RowT.flat_length _) (RowT.flat_length _) ⟨formed_ag (by kernel_rfl) (by kernel_rfl) (RowT.flat_length _), formed_ag (by kernel_rfl) (by kernel_rfl) (RowT.flat_length _)⟩ htxa.wf htya.wf rfl rfl rfl) ?_
              refine TD.all [1] (by kernel_rfl) rfl ?_
              refine AllT.cons rfl ?_ ?_
              · skip
                refine TL.callR (A := [blkA b5 [(.slice none 0 0)] 33, ownB (.slice none 0 0) ([]) 5]) (B := [ownB (.slice none 0 0) ([]) 5, blkA b6 [(.slice none 0 0)] 33, blkA b3 (ints ya.flat) 28, blkA b2 (ints xa.flat) 28]) (Want.plain rfl) rfl rfl rfl nm11 rfl (wrow_does b5 (.slice none 0 0) [] xa (by simp)) (fun _ s => sep_selR [3, 2] rfl s) (fun _ _ _ => trivial) (fun vR HR hR => ?_)
                obtain ⟨ub5, rfl, rfl⟩ := hR
                change TL _ _ _ _ _ _ _ _ _ [blkA b5 [ub5] 33, ownB ub5 (encRow xa) 5, ownB (.slice none 0 0) ([]) 5, blkA b6 [(.slice none 0 0)] 33, blkA b3 (ints ya.flat) 28, blkA b2 (ints xa.flat) 28]
                refine TL.nil ?_
                refine TE.draw (fun _ s => ⟨Frm.of s, s.block 5 (lb rfl) rfl, s.block 4 (lb rfl) rfl, trivial⟩) ?_
                refine TD.all [2] (by kernel_rfl) rfl ?_
                refine AllT.cons rfl ?_ ?_
                · skip
                  refine TL.callR (A := [blkA b5 [ub5] 33, ownB ub5 (encRow xa) 5]) (B := [ownB (.slice none 0 0) ([]) 5, blkA b6 [(.slice none 0 0)] 33, blkA b3 (ints ya.flat) 28, blkA b2 (ints xa.flat) 28]) (Want.plain rfl) rfl rfl rfl nm12 rfl (wbytes_does b5 ub5 (encRow xa) (by have := encRow_len xa; have := encRow_len ya; omega)) (fun _ s => s) (fun _ _ _ => trivial) (fun vR HR hR => ?_)
                  obtain ⟨y1, hy1, rfl⟩ := hR
                  subst vR
                  change TL _ _ _ _ _ _ _ _ _ [blkA b5 [ub5] 33, ownB ub5 (encRow xa) 5, ownB y1 (encRow xa) 5, ownB (.slice none 0 0) ([]) 5, blkA b6 [(.slice none 0 0)] 33, blkA b3 (ints ya.flat) 28, blkA b2 (ints xa.flat) 28]
                  refine TL.nil ?_
                  refine TE.draw (fun _ s => ⟨Frm.of s, s.block 6 (lb rfl) rfl, s.block 5 (lb rfl) rfl, trivial⟩) ?_
                  refine TD.more (Hb y1 (encRow xa)) (fun _ s => s.hb 2 rfl rfl) ?_
                  refine TD.take (i := 3) rfl (by kernel_rfl) (by kernel_rfl) (by kernel_rfl) (fun _ _ _ _ h => h) (Want.plain rfl) rfl rfl (PV.bytesStr (l := encRow xa) rfl Try.underlying31 Try.underlying5 Try.underlying9 rfl (Hb.src (fun _ h => h.1))) ?_
                  refine TD.all [5] (by kernel_rfl) rfl ?_
                  refine AllT.cons rfl ?_ ?_
                  · skip
                    refine TL.callR (A := [blkA b6 [(.slice none 0 0)] 33, ownB (.slice none 0 0) ([]) 5]) (B := [blkA b5 [ub5] 33, ownB ub5 (encRow xa) 5, ownB y1 (encRow xa) 5, blkA b3 (ints ya.flat) 28, blkA b2 (ints xa.flat) 28]) (Want.plain rfl) rfl rfl rfl nm11 rfl (wrow_does b6 (.slice none 0 0) [] ya (by simp)) (fun _ s => sep_selR [4, 3] rfl s) (fun _ _ _ => trivial) (fun vR HR hR => ?_)
                    obtain ⟨ub6, rfl, rfl⟩ := hR
                    change TL _ _ _ _ _ _ _ _ _ [blkA b6 [ub6] 33, ownB ub6 (encRow ya) 5, blkA b5 [ub5] 33, ownB ub5 (encRow xa) 5, ownB y1 (encRow xa) 5, blkA b3 (ints ya.flat) 28, blkA b2 (ints xa.flat) 28]
                    refine TL.nil ?_
                    refine TE.draw (fun _ s => ⟨s.hb 4 rfl rfl, ⟨Frm.of s, s.block 6 (lb rfl) rfl, s.block 5 (lb rfl) rfl, trivial⟩⟩) ?_
                    refine TD.all [6] (by kernel_rfl) rfl ?_
                    refine AllT.cons rfl ?_ ?_
                    · skip
                      refine TL.callR (A := [blkA b6 [ub6] 33, ownB ub6 (encRow ya) 5]) (B := [blkA b5 [ub5] 33, ownB ub5 (encRow xa) 5, ownB y1 (encRow xa) 5, blkA b3 (ints ya.flat) 28, blkA b2 (ints xa.flat) 28]) (Want.plain rfl) rfl rfl rfl nm12 rfl (wbytes_does b6 ub6 (encRow ya) (by have := encRow_len xa; have := encRow_len ya; omega)) (fun _ s => s) (fun _ _ _ => trivial) (fun vR HR hR => ?_)
                      obtain ⟨y2, hy2, rfl⟩ := hR
                      subst vR
                      change TL _ _ _ _ _ _ _ _ _ [blkA b6 [ub6] 33, ownB ub6 (encRow ya) 5, ownB y2 (encRow ya) 5, blkA b5 [ub5] 33, ownB ub5 (encRow xa) 5, ownB y1 (encRow xa) 5, blkA b3 (ints ya.flat) 28, blkA b2 (ints xa.flat) 28]
                      refine TL.nil ?_
                      refine TE.draw (fun _ s => ⟨s.hb 5 rfl rfl, ⟨Frm.of s, s.block 7 (lb rfl) rfl, s.block 6 (lb rfl) rfl, trivial⟩⟩) ?_
                      refine TD.more (Hb y2 (encRow ya)) (fun _ s => s.hb 2 rfl rfl) ?_
                      refine TD.take (i := 7) rfl (by kernel_rfl) (by kernel_rfl) (by kernel_rfl) (fun _ _ _ _ h => h) (Want.plain rfl) rfl rfl (PV.bytesStr (l := encRow ya) rfl Try.underlying31 Try.underlying5 Try.underlying9 rfl (Hb.src (fun _ h => h.1))) ?_
                      refine TD.take (i := 8) rfl (by kernel_rfl) (by kernel_rfl) (by kernel_rfl) (fun _ _ _ _ h => h) (Want.plain rfl) rfl rfl (PV.strEql (a := encRow xa) (b := encRow ya) rfl rfl rfl) ?_
                      refine TD.take (i := 12) rfl (by kernel_rfl) (by kernel_rfl) (by kernel_rfl) (fun _ _ _ _ h => h) (Want.plain rfl) rfl rfl (PV.eqlB rfl Try.underlying4 rfl rfl) ?_
                      refine TD.take (i := 13) rfl (by kernel_rfl) (by kernel_rfl) (by kernel_rfl) (fun _ _ _ _ h => h) (Want.plain rfl) rfl rfl (PV.assign rfl rfl) ?_
                      refine TD.done (by kernel_rfl) ?_
                      refine TE.next hK8 ?_
                      clear hK8
                      refine TC.ret ?_
                      refine TE.weak (Sub.refl _) (fun _ s => sep_keep [] rfl s) ?_
                      refine TE.ret1 rfl rfl ?_
                      exact ⟨by rw [orders htxa htya], rfl⟩
                    exact AllT.nil
                  exact AllT.nil
                exact AllT.nil
              exact AllT.nil
            exact AllT.nil
          exact AllT.nil
        exact AllT.nil
      exact AllT.nil
    exact AllT.nil
  refine AllT.cons rfl ?_ ?_
  · skip
    refine TL.v (Want.plain rfl) rfl rfl (PV.loadN (vs := ints y.flat) rfl Try.underlying28 rfl sz28 rfl (Rd.own 0 rfl rfl) (RowT.len _) (by rw [List.drop_zero, List.take_of_length_le (by rw [RowT.len]; decide)])) ?_
    refine TL.nil ?_
    refine TE.draw (fun _ s => ⟨Frm.of s, trivial⟩) ?_
    refine TD.all [0] (by kernel_rfl) rfl ?_
    refine AllT.cons rfl ?_ ?_
    · skip
      refine TL.v (Want.plain rfl) rfl rfl (PV.loadN (vs := ints x.flat) rfl Try.underlying28 rfl sz28 rfl (Rd.own 1 rfl rfl) (RowT.len _) (by rw [List.drop_zero, List.take_of_length_le (by rw [RowT.len]; decide)])) ?_
      refine TL.nil ?_
      refine TE.draw (fun _ s => ⟨Frm.of s, trivial⟩) ?_
      refine TD.all [1] (by kernel_rfl) rfl ?_
      refine AllT.cons rfl ?_ ?_
      · skip
        refine TL.callR (A := []) (B := [blkA b3 (ints y.flat) 28, blkA b2 (ints x.flat) 28]) (Want.plain rfl) rfl rfl rfl nm10 rfl (tame_does x) (fun _ s => s) (fun _ _ _ => trivial) (fun vR HR hR => ?_)
        obtain ⟨xa, rfl, rfl, htxa⟩ := hR
        change TL _ _ _ _ _ _ _ _ _ [blkA b3 (ints y.flat) 28, blkA b2 (ints x.flat) 28]
        refine TL.nil ?_
        refine TE.draw (fun _ s => ⟨Frm.of s, trivial⟩) ?_
        refine TD.all [3] (by kernel_rfl) rfl ?_
        refine AllT.cons rfl ?_ ?_
        · skip
          refine TL.callR (A := []) (B := [blkA b3 (ints y.flat) 28, blkA b2 (ints x.flat) 28]) (Want.plain rfl) rfl rfl rfl nm10 rfl (tame_does y) (fun _ s => s) (fun _ _ _ => trivial) (fun vR HR hR => ?_)
          obtain ⟨ya, rfl, rfl, htya⟩ := hR
          change TL _ _ _ _ _ _ _ _ _ [blkA b3 (ints y.flat) 28, blkA b2 (ints x.flat) 28]
          refine TL.nil ?_
          refine TE.draw (fun _ s => ⟨Frm.of s, trivial⟩) ?_
          refine TD.all [4] (by kernel_rfl) rfl ?_
          refine AllT.cons rfl ?_ ?_
          · skip
            refine TL.store (vs := ints xa.flat) (i := 1) (H' := [blkA b3 (ints y.flat) 28, blkA b2 (ints xa.flat) 28]) (Want.plain rfl) rfl rfl rfl rfl rfl (by rw [RowT.len]; exact sz28) (ints_one _) rfl rfl (by rw [RowT.len, Nat.zero_add, RowT.len]; decide) (wr_whole (by rw [RowT.len, RowT.len])) rfl ?_
            refine TL.nil ?_
            refine TE.draw (fun _ s => ⟨Frm.of s, trivial⟩) ?_
            refine TD.all [5] (by kernel_rfl) rfl ?_
            refine AllT.cons rfl ?_ ?_
            · skip
              refine TL.store (vs := ints ya.flat) (i := 0) (H' := [blkA b3 (ints ya.flat) 28, blkA b2 (ints xa.flat) 28]) (Want.plain rfl) rfl rfl rfl rfl rfl (by rw [RowT.len]; exact sz28) (ints_one _) rfl rfl (by rw [RowT.len, Nat.zero_add, RowT.len]; decide) (wr_whole (by rw [RowT.len, RowT.len])) rfl ?_
              refine TL.nil ?_
              refine TE.draw (fun _ s => ⟨Frm.of s, trivial⟩) ?_
              refine TD.done (by kernel_rfl) ?_
              refine TE.next hK4 ?_
              clear hK4
              refine TC.seq (fun K9 hK9 => ?_)
              refine TC.region ?_
              refine TL.alloc (Want.plain rfl) rfl rfl rfl z33 (fun b5 => ?_)
              change TL _ _ _ _ _ _ _ _ _ [blkA b5 [(.slice none 0 0)] 33, blkA b3 (ints ya.flat) 28, blkA b2 (ints xa.flat) 28]
              refine TL.ownNil 5 (fun on => ?_)
              clear on
              refine TL.alloc (Want.plain rfl) rfl rfl rfl z33 (fun b6 => ?_)
              change TL _ _ _ _ _ _ _ _ _ [blkA b6 [(.slice none 0 0)] 33, ownB (.slice none 0 0) ([]) 5, blkA b5 [(.slice none 0 0)] 33, blkA b3 (ints ya.flat) 28, blkA b2 (ints xa.flat) 28]
              refine TL.ownNil 5 (fun on => ?_)
              clear on
              refine TL.nil ?_
              refine TE.next hK9 ?_
              clear hK9
              refine TC.seq (fun K10 hK10 => ?_)
              refine TC.draw (fun w => Frm F w ∧ w.heap[b2]? = some (.cells (ints xa.flat).toArray 28 (0, 0)) ∧ w.heap[b3]? = some (.cells (ints ya.flat).toArray 28 (0, 0)) ∧ True) mixed rfl (fun _ s => ⟨Frm.of s, s.block 5 (lb rfl) rfl, s.block 4 (lb rfl) rfl, trivial⟩) ?_
              refine TD.take (i := 0) rfl (by kernel_rfl) (by kernel_rfl) (by kernel_rfl) (fun _ _ _ _ h => h) (Want.plain rfl) rfl rfl (PV.loadN (vs := ints xa.flat) rfl Try.underlying28 rfl sz28 rfl (Rd.right (Rd.left)) (RowT.len _) (by rw [List.drop_zero, List.take_of_length_le (by rw [RowT.len]; decide)])) ?_
              refine TD.take (i := 4) rfl (by kernel_rfl) (by kernel_rfl) (by kernel_rfl) (fun _ _ _ _ h => h) (Want.plain rfl) rfl rfl (PV.loadN (vs := ints ya.flat) rfl Try.underlying28 rfl sz28 rfl (Rd.right (Rd.right (Rd.left))) (RowT.len _) (by rw [List.drop_zero, List.take_of_length_le (by rw [RowT.len]; decide)])) ?_
              refine TD.take (i := 9) rfl (by kernel_rfl) (by kernel_rfl) (by kernel_rfl) (fun _ _ _ _ h => h) (Want.plain rfl) rfl rfl (PV.loadN (vs := ints xa.flat) rfl Try.underlying28 rfl sz28 rfl (Rd.right (Rd.left)) (RowT.len _) (by rw [List.drop_zero, List.take_of_length_le (by rw [RowT.len]; decide)])) ?_
              refine TD.take (i := 10) rfl (by kernel_rfl) (by kernel_rfl) (by kernel_rfl) (fun _ _ _ _ h => h) (Want.plain rfl) rfl rfl (PV.loadN (vs := ints ya.flat) rfl Try.underlying28 rfl sz28 rfl (Rd.right (Rd.right (Rd.left))) (RowT.len _) (by rw [List.drop_zero, List.take_of_length_le (by rw [RowT.len]; decide)])) ?_
              refine TD.take (i := 11) rfl (by kernel_rfl) (by kernel_rfl) (by kernel_rfl) (fun _ _ _ _ h => h) (Want.plain rfl) rfl rfl (PV.eqlAgg (a := xa.flat) (b := ya.flat) (m := 6) (c := 174) Try.eqGuardType28 (by kernel_rfl) rfl (by kernel_rfl) (RowT.flat_length _) (RowT.flat_length _) ⟨formed_ag (by kernel_rfl) (by kernel_rfl) (RowT.flat_length _), formed_ag (by kernel_rfl) (by kernel_rfl) (RowT.flat_length _)⟩ htxa.wf htya.wf rfl rfl rfl) ?_
              refine TD.all [1] (by kernel_rfl) rfl ?_
              refine AllT.cons rfl ?_ ?_
              · skip
                refine TL.callR (A := [blkA b5 [(.slice none 0 0)] 33, ownB (.slice none 0 0) ([]) 5]) (B := [ownB (.slice none 0 0) ([]) 5, blkA b6 [(.slice none 0 0)] 33, blkA b3 (ints ya.flat) 28, blkA b2 (ints xa.flat) 28]) (Want.plain rfl) rfl rfl rfl nm11 rfl (wrow_does b5 (.slice none 0 0) [] xa (by simp)) (fun _ s => sep_selR [3, 2] rfl s) (fun _ _ _ => trivial) (fun vR HR hR => ?_)
                obtain ⟨ub5, rfl, rfl⟩ := hR
                change TL _ _ _ _ _ _ _ _ _ [blkA b5 [ub5] 33, ownB ub5 (encRow xa) 5, ownB (.slice none 0 0) ([]) 5, blkA b6 [(.slice none 0 0)] 33, blkA b3 (ints ya.flat) 28, blkA b2 (ints xa.flat) 28]
                refine TL.nil ?_
                refine TE.draw (fun _ s => ⟨Frm.of s, s.block 5 (lb rfl) rfl, s.block 4 (lb rfl) rfl, trivial⟩) ?_
                refine TD.all [2] (by kernel_rfl) rfl ?_
                refine AllT.cons rfl ?_ ?_
                · skip
                  refine TL.callR (A := [blkA b5 [ub5] 33, ownB ub5 (encRow xa) 5]) (B := [ownB (.slice none 0 0) ([]) 5, blkA b6 [(.slice none 0 0)] 33, blkA b3 (ints ya.flat) 28, blkA b2 (ints xa.flat) 28]) (Want.plain rfl) rfl rfl rfl nm12 rfl (wbytes_does b5 ub5 (encRow xa) (by have := encRow_len xa; have := encRow_len ya; omega)) (fun _ s => s) (fun _ _ _ => trivial) (fun vR HR hR => ?_)
                  obtain ⟨y1, hy1, rfl⟩ := hR
                  subst vR
                  change TL _ _ _ _ _ _ _ _ _ [blkA b5 [ub5] 33, ownB ub5 (encRow xa) 5, ownB y1 (encRow xa) 5, ownB (.slice none 0 0) ([]) 5, blkA b6 [(.slice none 0 0)] 33, blkA b3 (ints ya.flat) 28, blkA b2 (ints xa.flat) 28]
                  refine TL.nil ?_
                  refine TE.draw (fun _ s => ⟨Frm.of s, s.block 6 (lb rfl) rfl, s.block 5 (lb rfl) rfl, trivial⟩) ?_
                  refine TD.more (Hb y1 (encRow xa)) (fun _ s => s.hb 2 rfl rfl) ?_
                  refine TD.take (i := 3) rfl (by kernel_rfl) (by kernel_rfl) (by kernel_rfl) (fun _ _ _ _ h => h) (Want.plain rfl) rfl rfl (PV.bytesStr (l := encRow xa) rfl Try.underlying31 Try.underlying5 Try.underlying9 rfl (Hb.src (fun _ h => h.1))) ?_
                  refine TD.all [5] (by kernel_rfl) rfl ?_
                  refine AllT.cons rfl ?_ ?_
                  · skip
                    refine TL.callR (A := [blkA b6 [(.slice none 0 0)] 33, ownB (.slice none 0 0) ([]) 5]) (B := [blkA b5 [ub5] 33, ownB ub5 (encRow xa) 5, ownB y1 (encRow xa) 5, blkA b3 (ints ya.flat) 28, blkA b2 (ints xa.flat) 28]) (Want.plain rfl) rfl rfl rfl nm11 rfl (wrow_does b6 (.slice none 0 0) [] ya (by simp)) (fun _ s => sep_selR [4, 3] rfl s) (fun _ _ _ => trivial) (fun vR HR hR => ?_)
                    obtain ⟨ub6, rfl, rfl⟩ := hR
                    change TL _ _ _ _ _ _ _ _ _ [blkA b6 [ub6] 33, ownB ub6 (encRow ya) 5, blkA b5 [ub5] 33, ownB ub5 (encRow xa) 5, ownB y1 (encRow xa) 5, blkA b3 (ints ya.flat) 28, blkA b2 (ints xa.flat) 28]
                    refine TL.nil ?_
                    refine TE.draw (fun _ s => ⟨s.hb 4 rfl rfl, ⟨Frm.of s, s.block 6 (lb rfl) rfl, s.block 5 (lb rfl) rfl, trivial⟩⟩) ?_
                    refine TD.all [6] (by kernel_rfl) rfl ?_
                    refine AllT.cons rfl ?_ ?_
                    · skip
                      refine TL.callR (A := [blkA b6 [ub6] 33, ownB ub6 (encRow ya) 5]) (B := [blkA b5 [ub5] 33, ownB ub5 (encRow xa) 5, ownB y1 (encRow xa) 5, blkA b3 (ints ya.flat) 28, blkA b2 (ints xa.flat) 28]) (Want.plain rfl) rfl rfl rfl nm12 rfl (wbytes_does b6 ub6 (encRow ya) (by have := encRow_len xa; have := encRow_len ya; omega)) (fun _ s => s) (fun _ _ _ => trivial) (fun vR HR hR => ?_)
                      obtain ⟨y2, hy2, rfl⟩ := hR
                      subst vR
                      change TL _ _ _ _ _ _ _ _ _ [blkA b6 [ub6] 33, ownB ub6 (encRow ya) 5, ownB y2 (encRow ya) 5, blkA b5 [ub5] 33, ownB ub5 (encRow xa) 5, ownB y1 (encRow xa) 5, blkA b3 (ints ya.flat) 28, blkA b2 (ints xa.flat) 28]
                      refine TL.nil ?_
                      refine TE.draw (fun _ s => ⟨s.hb 5 rfl rfl, ⟨Frm.of s, s.block 7 (lb rfl) rfl, s.block 6 (lb rfl) rfl, trivial⟩⟩) ?_
                      refine TD.more (Hb y2 (encRow ya)) (fun _ s => s.hb 2 rfl rfl) ?_
                      refine TD.take (i := 7) rfl (by kernel_rfl) (by kernel_rfl) (by kernel_rfl) (fun _ _ _ _ h => h) (Want.plain rfl) rfl rfl (PV.bytesStr (l := encRow ya) rfl Try.underlying31 Try.underlying5 Try.underlying9 rfl (Hb.src (fun _ h => h.1))) ?_
                      refine TD.take (i := 8) rfl (by kernel_rfl) (by kernel_rfl) (by kernel_rfl) (fun _ _ _ _ h => h) (Want.plain rfl) rfl rfl (PV.strEql (a := encRow xa) (b := encRow ya) rfl rfl rfl) ?_
                      refine TD.take (i := 12) rfl (by kernel_rfl) (by kernel_rfl) (by kernel_rfl) (fun _ _ _ _ h => h) (Want.plain rfl) rfl rfl (PV.eqlB rfl Try.underlying4 rfl rfl) ?_
                      refine TD.take (i := 13) rfl (by kernel_rfl) (by kernel_rfl) (by kernel_rfl) (fun _ _ _ _ h => h) (Want.plain rfl) rfl rfl (PV.assign rfl rfl) ?_
                      refine TD.done (by kernel_rfl) ?_
                      refine TE.next hK10 ?_
                      clear hK10
                      refine TC.ret ?_
                      refine TE.weak (Sub.refl _) (fun _ s => sep_keep [] rfl s) ?_
                      refine TE.ret1 rfl rfl ?_
                      exact ⟨by rw [orders htxa htya], rfl⟩
                    exact AllT.nil
                  exact AllT.nil
                exact AllT.nil
              exact AllT.nil
            exact AllT.nil
          exact AllT.nil
        exact AllT.nil
      exact AllT.nil
    exact AllT.nil
  exact AllT.nil


end Go.Proofs.Ytlhpkgcchomndaa
