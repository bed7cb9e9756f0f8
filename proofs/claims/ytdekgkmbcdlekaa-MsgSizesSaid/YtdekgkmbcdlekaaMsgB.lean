/-
  Package msg: what is laid, walked.
-/

import Derived.Test.YtdekgkmbcdlekaaRowA
import Derived.Test.YtdekgkmbcdlekaaMsgQ
import Derived.Test.YtdekgkmbcdlekaaCodecC
import Derived.Test.YtdekgkmbcdlekaaLegQ

namespace Go.Proofs.Ytdekgkmbcdlekaa

open Go Leg Codec Api

set_option linter.unusedSimpArgs false
set_option linter.unusedVariables false

set_option maxRecDepth 100000

set_option maxHeartbeats 8000000

theorem encode_does (m : MsgT) :
    Does Try.prog 19 #[(.agg (ints m.flat).toArray)] (fun _ => True) [] (Ret (fun r' H => ∃ u, r' = u ∧ H = [ownB u (encM m) 5])) := by
  refine Does.body (vs := [(.agg (ints m.flat).toArray)]) (n := 100) Try.func19 rfl rfl rfl (fun w0 F hF => ?_)
  refine TC.seq (fun K1 hK1 => ?_)
  refine TC.region ?_
  refine TL.box (Want.plain rfl) rfl rfl rfl rfl (fun b1 => ?_)
  change TL _ _ _ _ _ _ _ _ _ [blkA b1 (ints m.flat) 44]
  refine TL.v (Want.plain rfl) rfl rfl (PV.assign rfl rfl) ?_
  refine TL.nil ?_
  refine TE.next hK1 ?_
  clear hK1
  refine TC.seq (fun K2 hK2 => ?_)
  refine TC.region ?_
  refine TL.alloc (Want.plain rfl) rfl rfl rfl z29 (fun b4 => ?_)
  change TL _ _ _ _ _ _ _ _ _ [blkA b4 [(.slice none 0 0)] 29, blkA b1 (ints m.flat) 44]
  refine TL.ownNil 5 (fun on => ?_)
  clear on
  refine TL.v (Want.plain rfl) rfl rfl (PV.assign rfl rfl) ?_
  refine TL.nil ?_
  refine TE.next hK2 ?_
  clear hK2
  refine TC.seq (fun K3 hK3 => ?_)
  refine TC.seq (fun K4 hK4 => ?_)
  refine TC.region ?_
  refine TL.v (Want.plain rfl) rfl rfl (PV.fieldAddr (r := 0) rfl Try.underlying44 rfl sz3 rfl rfl) ?_
  refine TL.v (Want.plain rfl) rfl rfl (PV.load1 (v := (.int .i64 (m.kind))) rfl Try.underlying3 rfl rfl (Rd.own 2 rfl rfl) (MsgT.at_kind m rfl)) ?_
  refine TL.nil ?_
  refine TE.next hK4 ?_
  clear hK4
  refine TC.block ?_
  refine TC.seq (fun K5 hK5 => ?_)
  refine TC.seq (fun K6 hK6 => ?_)
  refine TC.region ?_
  refine TL.v (Want.plain rfl) rfl rfl (PV.eql rfl rfl rfl) ?_
  refine TL.v (Want.plain rfl) rfl rfl (PV.assign rfl rfl) ?_
  refine TL.dec (fun h7 => ?_) (fun h7 => ?_)
  · skip
    refine TL.nil ?_
    refine TE.next hK6 ?_
    clear hK6
    refine TC.yes rfl ?_
    refine TC.skip ?_
    refine TE.next hK5 ?_
    clear hK5
    refine TC.yes rfl ?_
    refine TC.draw (fun w => Frm F w ∧ w.heap[b1]? = some (.cells (ints m.flat).toArray 44 (0, 0)) ∧ True) mixed rfl (fun _ s => ⟨Frm.of s, s.block 2 (lb rfl) rfl, trivial⟩) ?_
    refine TD.take (i := 0) rfl (by kernel_rfl) (by kernel_rfl) (by kernel_rfl) (fun _ _ _ _ h => h) (Want.plain rfl) rfl rfl (PV.move rfl rfl) ?_
    refine TD.take (i := 1) rfl (by kernel_rfl) (by kernel_rfl) (by kernel_rfl) (fun _ _ _ _ h => h) (Want.plain rfl) rfl rfl (PV.fieldAddr (r := 0) rfl Try.underlying44 rfl sz3 rfl rfl) ?_
    refine TD.take (i := 2) rfl (by kernel_rfl) (by kernel_rfl) (by kernel_rfl) (fun _ _ _ _ h => h) (Want.plain rfl) rfl rfl (PV.load1 (v := (.int .i64 (m.kind))) rfl Try.underlying3 rfl rfl (fun _ h => h.2.1) (MsgT.at_kind m rfl)) ?_
    refine TD.take (i := 3) rfl (by kernel_rfl) (by kernel_rfl) (by kernel_rfl) (fun _ _ _ _ h => h) (Want.plain rfl) rfl rfl (PV.fieldAddr (r := 1) rfl Try.underlying44 rfl sz3 rfl rfl) ?_
    refine TD.take (i := 4) rfl (by kernel_rfl) (by kernel_rfl) (by kernel_rfl) (fun _ _ _ _ h => h) (Want.plain rfl) rfl rfl (PV.load1 (v := (.int .i64 (m.whose))) rfl Try.underlying3 rfl rfl (fun _ h => h.2.1) (MsgT.at_whose m rfl)) ?_
    refine TD.take (i := 7) rfl (by kernel_rfl) (by kernel_rfl) (by kernel_rfl) (fun _ _ _ _ h => h) (Want.plain rfl) rfl rfl (PV.fieldAddr (r := 2) rfl Try.underlying44 rfl sz38 rfl rfl) ?_
    refine TD.take (i := 8) rfl (by kernel_rfl) (by kernel_rfl) (by kernel_rfl) (fun _ _ _ _ h => h) (Want.plain rfl) rfl rfl (PV.loadN (vs := ints m.row.flat) rfl Try.underlying38 rfl sz38 rfl (fun _ h => h.2.1) (RowT.len m.row) (MsgT.sub_row m 0 rfl (by decide) (whole (RowT.len m.row)))) ?_
    refine TD.all [5] (by kernel_rfl) rfl ?_
    refine AllT.cons rfl ?_ ?_
    · skip
      refine TL.buildSlice (cells := #[(.int .i64 (m.kind)), (.int .i64 (m.whose))]) (Want.plain rfl) rfl rfl rfl Try.underlying79 in3 rfl rfl rfl (by as_aux_lemma => kernel_rfl) (fun b16 => ?_)
      change TL _ _ _ _ _ _ _ _ _ [blkA b16 [(.int .i64 (m.kind)), (.int .i64 (m.whose))] 3, ownB (.slice none 0 0) ([]) 5, blkA b4 [(.slice none 0 0)] 29, blkA b1 (ints m.flat) 44]
      refine TL.nil ?_
      refine TE.draw (fun _ s => ⟨Frm.of s, s.block 3 (lb rfl) rfl, trivial⟩) ?_
      refine TD.all [6] (by kernel_rfl) rfl ?_
      refine AllT.cons rfl ?_ ?_
      · skip
        refine TL.callR (A := [blkA b4 [(.slice none 0 0)] 29, ownB (.slice none 0 0) ([]) 5]) (B := [blkA b16 [(.int .i64 (m.kind)), (.int .i64 (m.whose))] 3, blkA b1 (ints m.flat) 44]) (Want.plain rfl) rfl rfl rfl nm11 rfl (wnum_does b4 (.slice none 0 0) ([]) (.slice (some ⟨b16, 0, none⟩) (2) (2)) [m.kind, m.whose] (by simp)) (fun _ s => sep_selR [2, 1] rfl s) (isN_piece 0 rfl rfl rfl rfl) (fun vR HR hR => ?_)
        obtain ⟨u1, rfl, rfl⟩ := hR
        change TL _ _ _ _ _ _ _ _ _ [blkA b4 [u1] 29, ownB u1 (encs [m.kind, m.whose]) 5, blkA b16 [(.int .i64 (m.kind)), (.int .i64 (m.whose))] 3, blkA b1 (ints m.flat) 44]
        refine TL.nil ?_
        refine TE.draw (fun _ s => ⟨Frm.of s, s.block 3 (lb rfl) rfl, trivial⟩) ?_
        refine TD.all [9] (by kernel_rfl) rfl ?_
        refine AllT.cons rfl ?_ ?_
        · skip
          refine TL.callR (A := [blkA b4 [u1] 29, ownB u1 (encs [m.kind, m.whose]) 5]) (B := [blkA b16 [(.int .i64 (m.kind)), (.int .i64 (m.whose))] 3, blkA b1 (ints m.flat) 44]) (Want.plain rfl) rfl rfl rfl nm15 rfl (wrow_does b4 u1 (encs [m.kind, m.whose]) m.row (by (have := encs_len [m.kind, m.whose]); simp only [BallotT.flat, ViewT.flat, ChangeT.flat, List.length_cons, List.length_nil, Vector.length_toList, List.length_append] at *; omega)) (fun _ s => s) (fun _ _ _ => trivial) (fun vR HR hR => ?_)
          obtain ⟨u2, rfl, rfl⟩ := hR
          change TL _ _ _ _ _ _ _ _ _ [blkA b4 [u2] 29, ownB u2 (encs [m.kind, m.whose] ++ encRow m.row) 5, blkA b16 [(.int .i64 (m.kind)), (.int .i64 (m.whose))] 3, blkA b1 (ints m.flat) 44]
          refine TL.nil ?_
          refine TE.draw (fun _ s => ⟨Frm.of s, s.block 3 (lb rfl) rfl, trivial⟩) ?_
          refine TD.done (by kernel_rfl) ?_
          refine TE.blockEnd ?_
          refine TE.next hK3 ?_
          clear hK3
          refine TC.seq (fun K7 hK7 => ?_)
          refine TC.region ?_
          refine TL.v (Want.plain rfl) rfl rfl (PV.move rfl rfl) ?_
          refine TL.callR (A := [blkA b4 [u2] 29, ownB u2 (encs [m.kind, m.whose] ++ encRow m.row) 5]) (B := [blkA b16 [(.int .i64 (m.kind)), (.int .i64 (m.whose))] 3, blkA b1 (ints m.flat) 44]) (Want.plain rfl) rfl rfl rfl nm14 rfl (wbytes_does b4 u2 (encs [m.kind, m.whose] ++ encRow m.row) (by (have := encs_len [m.kind, m.whose]); (have := encRow_len m.row); simp only [BallotT.flat, ViewT.flat, ChangeT.flat, List.length_cons, List.length_nil, Vector.length_toList, List.length_append] at *; omega)) (fun _ s => s) (fun _ _ _ => trivial) (fun vR HR hR => ?_)
          obtain ⟨_, rfl, rfl⟩ := hR
          revert vR
          intro u3
          change TL _ _ _ _ _ _ _ _ _ [blkA b4 [u2] 29, ownB u2 (encs [m.kind, m.whose] ++ encRow m.row) 5, ownB u3 (encs [m.kind, m.whose] ++ encRow m.row) 5, blkA b16 [(.int .i64 (m.kind)), (.int .i64 (m.whose))] 3, blkA b1 (ints m.flat) 44]
          refine TL.v (Want.plain rfl) rfl rfl (PV.assign rfl rfl) ?_
          refine TL.nil ?_
          refine TE.next hK7 ?_
          clear hK7
          refine TC.ret ?_
          refine TE.weak (Sub.refl _) (fun _ s => sep_keep [2] rfl s) ?_
          refine TE.ret1 rfl rfl ?_
          exact ⟨_, rfl, congrArg (fun b => [ownB u3 b 5]) (show (encs [m.kind, m.whose] ++ encRow m.row) = encM m by simp [encM, kRow, kAsk, encs, *])⟩
        exact AllT.nil
      exact AllT.nil
    exact AllT.nil
  · skip
    refine TL.nil ?_
    refine TE.next hK6 ?_
    clear hK6
    refine TC.no rfl ?_
    refine TC.seq (fun K8 hK8 => ?_)
    refine TC.region ?_
    refine TL.v (Want.plain rfl) rfl rfl (PV.eql rfl rfl rfl) ?_
    refine TL.v (Want.plain rfl) rfl rfl (PV.assign rfl rfl) ?_
    refine TL.dec (fun h7 => ?_) (fun h7 => ?_)
    · skip
      refine TL.nil ?_
      refine TE.next hK8 ?_
      clear hK8
      refine TC.yes rfl ?_
      refine TC.skip ?_
      refine TE.next hK5 ?_
      clear hK5
      refine TC.yes rfl ?_
      refine TC.draw (fun w => Frm F w ∧ w.heap[b1]? = some (.cells (ints m.flat).toArray 44 (0, 0)) ∧ True) mixed rfl (fun _ s => ⟨Frm.of s, s.block 2 (lb rfl) rfl, trivial⟩) ?_
      refine TD.take (i := 0) rfl (by kernel_rfl) (by kernel_rfl) (by kernel_rfl) (fun _ _ _ _ h => h) (Want.plain rfl) rfl rfl (PV.move rfl rfl) ?_
      refine TD.take (i := 1) rfl (by kernel_rfl) (by kernel_rfl) (by kernel_rfl) (fun _ _ _ _ h => h) (Want.plain rfl) rfl rfl (PV.fieldAddr (r := 0) rfl Try.underlying44 rfl sz3 rfl rfl) ?_
      refine TD.take (i := 2) rfl (by kernel_rfl) (by kernel_rfl) (by kernel_rfl) (fun _ _ _ _ h => h) (Want.plain rfl) rfl rfl (PV.load1 (v := (.int .i64 (m.kind))) rfl Try.underlying3 rfl rfl (fun _ h => h.2.1) (MsgT.at_kind m rfl)) ?_
      refine TD.take (i := 3) rfl (by kernel_rfl) (by kernel_rfl) (by kernel_rfl) (fun _ _ _ _ h => h) (Want.plain rfl) rfl rfl (PV.fieldAddr (r := 1) rfl Try.underlying44 rfl sz3 rfl rfl) ?_
      refine TD.take (i := 4) rfl (by kernel_rfl) (by kernel_rfl) (by kernel_rfl) (fun _ _ _ _ h => h) (Want.plain rfl) rfl rfl (PV.load1 (v := (.int .i64 (m.whose))) rfl Try.underlying3 rfl rfl (fun _ h => h.2.1) (MsgT.at_whose m rfl)) ?_
      refine TD.take (i := 7) rfl (by kernel_rfl) (by kernel_rfl) (by kernel_rfl) (fun _ _ _ _ h => h) (Want.plain rfl) rfl rfl (PV.fieldAddr (r := 2) rfl Try.underlying44 rfl sz38 rfl rfl) ?_
      refine TD.take (i := 8) rfl (by kernel_rfl) (by kernel_rfl) (by kernel_rfl) (fun _ _ _ _ h => h) (Want.plain rfl) rfl rfl (PV.loadN (vs := ints m.row.flat) rfl Try.underlying38 rfl sz38 rfl (fun _ h => h.2.1) (RowT.len m.row) (MsgT.sub_row m 0 rfl (by decide) (whole (RowT.len m.row)))) ?_
      refine TD.all [5] (by kernel_rfl) rfl ?_
      refine AllT.cons rfl ?_ ?_
      · skip
        refine TL.buildSlice (cells := #[(.int .i64 (m.kind)), (.int .i64 (m.whose))]) (Want.plain rfl) rfl rfl rfl Try.underlying79 in3 rfl rfl rfl (by as_aux_lemma => kernel_rfl) (fun b16 => ?_)
        change TL _ _ _ _ _ _ _ _ _ [blkA b16 [(.int .i64 (m.kind)), (.int .i64 (m.whose))] 3, ownB (.slice none 0 0) ([]) 5, blkA b4 [(.slice none 0 0)] 29, blkA b1 (ints m.flat) 44]
        refine TL.nil ?_
        refine TE.draw (fun _ s => ⟨Frm.of s, s.block 3 (lb rfl) rfl, trivial⟩) ?_
        refine TD.all [6] (by kernel_rfl) rfl ?_
        refine AllT.cons rfl ?_ ?_
        · skip
          refine TL.callR (A := [blkA b4 [(.slice none 0 0)] 29, ownB (.slice none 0 0) ([]) 5]) (B := [blkA b16 [(.int .i64 (m.kind)), (.int .i64 (m.whose))] 3, blkA b1 (ints m.flat) 44]) (Want.plain rfl) rfl rfl rfl nm11 rfl (wnum_does b4 (.slice none 0 0) ([]) (.slice (some ⟨b16, 0, none⟩) (2) (2)) [m.kind, m.whose] (by simp)) (fun _ s => sep_selR [2, 1] rfl s) (isN_piece 0 rfl rfl rfl rfl) (fun vR HR hR => ?_)
          obtain ⟨u1, rfl, rfl⟩ := hR
          change TL _ _ _ _ _ _ _ _ _ [blkA b4 [u1] 29, ownB u1 (encs [m.kind, m.whose]) 5, blkA b16 [(.int .i64 (m.kind)), (.int .i64 (m.whose))] 3, blkA b1 (ints m.flat) 44]
          refine TL.nil ?_
          refine TE.draw (fun _ s => ⟨Frm.of s, s.block 3 (lb rfl) rfl, trivial⟩) ?_
          refine TD.all [9] (by kernel_rfl) rfl ?_
          refine AllT.cons rfl ?_ ?_
          · skip
            refine TL.callR (A := [blkA b4 [u1] 29, ownB u1 (encs [m.kind, m.whose]) 5]) (B := [blkA b16 [(.int .i64 (m.kind)), (.int .i64 (m.whose))] 3, blkA b1 (ints m.flat) 44]) (Want.plain rfl) rfl rfl rfl nm15 rfl (wrow_does b4 u1 (encs [m.kind, m.whose]) m.row (by (have := encs_len [m.kind, m.whose]); simp only [BallotT.flat, ViewT.flat, ChangeT.flat, List.length_cons, List.length_nil, Vector.length_toList, List.length_append] at *; omega)) (fun _ s => s) (fun _ _ _ => trivial) (fun vR HR hR => ?_)
            obtain ⟨u2, rfl, rfl⟩ := hR
            change TL _ _ _ _ _ _ _ _ _ [blkA b4 [u2] 29, ownB u2 (encs [m.kind, m.whose] ++ encRow m.row) 5, blkA b16 [(.int .i64 (m.kind)), (.int .i64 (m.whose))] 3, blkA b1 (ints m.flat) 44]
            refine TL.nil ?_
            refine TE.draw (fun _ s => ⟨Frm.of s, s.block 3 (lb rfl) rfl, trivial⟩) ?_
            refine TD.done (by kernel_rfl) ?_
            refine TE.blockEnd ?_
            refine TE.next hK3 ?_
            clear hK3
            refine TC.seq (fun K9 hK9 => ?_)
            refine TC.region ?_
            refine TL.v (Want.plain rfl) rfl rfl (PV.move rfl rfl) ?_
            refine TL.callR (A := [blkA b4 [u2] 29, ownB u2 (encs [m.kind, m.whose] ++ encRow m.row) 5]) (B := [blkA b16 [(.int .i64 (m.kind)), (.int .i64 (m.whose))] 3, blkA b1 (ints m.flat) 44]) (Want.plain rfl) rfl rfl rfl nm14 rfl (wbytes_does b4 u2 (encs [m.kind, m.whose] ++ encRow m.row) (by (have := encs_len [m.kind, m.whose]); (have := encRow_len m.row); simp only [BallotT.flat, ViewT.flat, ChangeT.flat, List.length_cons, List.length_nil, Vector.length_toList, List.length_append] at *; omega)) (fun _ s => s) (fun _ _ _ => trivial) (fun vR HR hR => ?_)
            obtain ⟨_, rfl, rfl⟩ := hR
            revert vR
            intro u3
            change TL _ _ _ _ _ _ _ _ _ [blkA b4 [u2] 29, ownB u2 (encs [m.kind, m.whose] ++ encRow m.row) 5, ownB u3 (encs [m.kind, m.whose] ++ encRow m.row) 5, blkA b16 [(.int .i64 (m.kind)), (.int .i64 (m.whose))] 3, blkA b1 (ints m.flat) 44]
            refine TL.v (Want.plain rfl) rfl rfl (PV.assign rfl rfl) ?_
            refine TL.nil ?_
            refine TE.next hK9 ?_
            clear hK9
            refine TC.ret ?_
            refine TE.weak (Sub.refl _) (fun _ s => sep_keep [2] rfl s) ?_
            refine TE.ret1 rfl rfl ?_
            exact ⟨_, rfl, congrArg (fun b => [ownB u3 b 5]) (show (encs [m.kind, m.whose] ++ encRow m.row) = encM m by simp [encM, kRow, kAsk, encs, *])⟩
          exact AllT.nil
        exact AllT.nil
      exact AllT.nil
    · skip
      refine TL.nil ?_
      refine TE.next hK8 ?_
      clear hK8
      refine TC.no rfl ?_
      refine TC.region ?_
      refine TL.v (Want.plain rfl) rfl rfl (PV.eql rfl rfl rfl) ?_
      refine TL.dec (fun h10 => ?_) (fun h10 => ?_)
      · skip
        refine TL.v (Want.plain rfl) rfl rfl (PV.assign rfl rfl) ?_
        refine TL.nil ?_
        refine TE.next hK5 ?_
        clear hK5
        refine TC.yes rfl ?_
        refine TC.draw (fun w => Frm F w ∧ w.heap[b1]? = some (.cells (ints m.flat).toArray 44 (0, 0)) ∧ True) mixed rfl (fun _ s => ⟨Frm.of s, s.block 2 (lb rfl) rfl, trivial⟩) ?_
        refine TD.take (i := 0) rfl (by kernel_rfl) (by kernel_rfl) (by kernel_rfl) (fun _ _ _ _ h => h) (Want.plain rfl) rfl rfl (PV.move rfl rfl) ?_
        refine TD.take (i := 1) rfl (by kernel_rfl) (by kernel_rfl) (by kernel_rfl) (fun _ _ _ _ h => h) (Want.plain rfl) rfl rfl (PV.fieldAddr (r := 0) rfl Try.underlying44 rfl sz3 rfl rfl) ?_
        refine TD.take (i := 2) rfl (by kernel_rfl) (by kernel_rfl) (by kernel_rfl) (fun _ _ _ _ h => h) (Want.plain rfl) rfl rfl (PV.load1 (v := (.int .i64 (m.kind))) rfl Try.underlying3 rfl rfl (fun _ h => h.2.1) (MsgT.at_kind m rfl)) ?_
        refine TD.take (i := 3) rfl (by kernel_rfl) (by kernel_rfl) (by kernel_rfl) (fun _ _ _ _ h => h) (Want.plain rfl) rfl rfl (PV.fieldAddr (r := 1) rfl Try.underlying44 rfl sz3 rfl rfl) ?_
        refine TD.take (i := 4) rfl (by kernel_rfl) (by kernel_rfl) (by kernel_rfl) (fun _ _ _ _ h => h) (Want.plain rfl) rfl rfl (PV.load1 (v := (.int .i64 (m.whose))) rfl Try.underlying3 rfl rfl (fun _ h => h.2.1) (MsgT.at_whose m rfl)) ?_
        refine TD.take (i := 7) rfl (by kernel_rfl) (by kernel_rfl) (by kernel_rfl) (fun _ _ _ _ h => h) (Want.plain rfl) rfl rfl (PV.fieldAddr (r := 2) rfl Try.underlying44 rfl sz38 rfl rfl) ?_
        refine TD.take (i := 8) rfl (by kernel_rfl) (by kernel_rfl) (by kernel_rfl) (fun _ _ _ _ h => h) (Want.plain rfl) rfl rfl (PV.loadN (vs := ints m.row.flat) rfl Try.underlying38 rfl sz38 rfl (fun _ h => h.2.1) (RowT.len m.row) (MsgT.sub_row m 0 rfl (by decide) (whole (RowT.len m.row)))) ?_
        refine TD.all [5] (by kernel_rfl) rfl ?_
        refine AllT.cons rfl ?_ ?_
        · skip
          refine TL.buildSlice (cells := #[(.int .i64 (m.kind)), (.int .i64 (m.whose))]) (Want.plain rfl) rfl rfl rfl Try.underlying79 in3 rfl rfl rfl (by as_aux_lemma => kernel_rfl) (fun b16 => ?_)
          change TL _ _ _ _ _ _ _ _ _ [blkA b16 [(.int .i64 (m.kind)), (.int .i64 (m.whose))] 3, ownB (.slice none 0 0) ([]) 5, blkA b4 [(.slice none 0 0)] 29, blkA b1 (ints m.flat) 44]
          refine TL.nil ?_
          refine TE.draw (fun _ s => ⟨Frm.of s, s.block 3 (lb rfl) rfl, trivial⟩) ?_
          refine TD.all [6] (by kernel_rfl) rfl ?_
          refine AllT.cons rfl ?_ ?_
          · skip
            refine TL.callR (A := [blkA b4 [(.slice none 0 0)] 29, ownB (.slice none 0 0) ([]) 5]) (B := [blkA b16 [(.int .i64 (m.kind)), (.int .i64 (m.whose))] 3, blkA b1 (ints m.flat) 44]) (Want.plain rfl) rfl rfl rfl nm11 rfl (wnum_does b4 (.slice none 0 0) ([]) (.slice (some ⟨b16, 0, none⟩) (2) (2)) [m.kind, m.whose] (by simp)) (fun _ s => sep_selR [2, 1] rfl s) (isN_piece 0 rfl rfl rfl rfl) (fun vR HR hR => ?_)
            obtain ⟨u1, rfl, rfl⟩ := hR
            change TL _ _ _ _ _ _ _ _ _ [blkA b4 [u1] 29, ownB u1 (encs [m.kind, m.whose]) 5, blkA b16 [(.int .i64 (m.kind)), (.int .i64 (m.whose))] 3, blkA b1 (ints m.flat) 44]
            refine TL.nil ?_
            refine TE.draw (fun _ s => ⟨Frm.of s, s.block 3 (lb rfl) rfl, trivial⟩) ?_
            refine TD.all [9] (by kernel_rfl) rfl ?_
            refine AllT.cons rfl ?_ ?_
            · skip
              refine TL.callR (A := [blkA b4 [u1] 29, ownB u1 (encs [m.kind, m.whose]) 5]) (B := [blkA b16 [(.int .i64 (m.kind)), (.int .i64 (m.whose))] 3, blkA b1 (ints m.flat) 44]) (Want.plain rfl) rfl rfl rfl nm15 rfl (wrow_does b4 u1 (encs [m.kind, m.whose]) m.row (by (have := encs_len [m.kind, m.whose]); simp only [BallotT.flat, ViewT.flat, ChangeT.flat, List.length_cons, List.length_nil, Vector.length_toList, List.length_append] at *; omega)) (fun _ s => s) (fun _ _ _ => trivial) (fun vR HR hR => ?_)
              obtain ⟨u2, rfl, rfl⟩ := hR
              change TL _ _ _ _ _ _ _ _ _ [blkA b4 [u2] 29, ownB u2 (encs [m.kind, m.whose] ++ encRow m.row) 5, blkA b16 [(.int .i64 (m.kind)), (.int .i64 (m.whose))] 3, blkA b1 (ints m.flat) 44]
              refine TL.nil ?_
              refine TE.draw (fun _ s => ⟨Frm.of s, s.block 3 (lb rfl) rfl, trivial⟩) ?_
              refine TD.done (by kernel_rfl) ?_
              refine TE.blockEnd ?_
              refine TE.next hK3 ?_
              clear hK3
              refine TC.seq (fun K10 hK10 => ?_)
              refine TC.region ?_
              refine TL.v (Want.plain rfl) rfl rfl (PV.move rfl rfl) ?_
              refine TL.callR (A := [blkA b4 [u2] 29, ownB u2 (encs [m.kind, m.whose] ++ encRow m.row) 5]) (B := [blkA b16 [(.int .i64 (m.kind)), (.int .i64 (m.whose))] 3, blkA b1 (ints m.flat) 44]) (Want.plain rfl) rfl rfl rfl nm14 rfl (wbytes_does b4 u2 (encs [m.kind, m.whose] ++ encRow m.row) (by (have := encs_len [m.kind, m.whose]); (have := encRow_len m.row); simp only [BallotT.flat, ViewT.flat, ChangeT.flat, List.length_cons, List.length_nil, Vector.length_toList, List.length_append] at *; omega)) (fun _ s => s) (fun _ _ _ => trivial) (fun vR HR hR => ?_)
              obtain ⟨_, rfl, rfl⟩ := hR
              revert vR
              intro u3
              change TL _ _ _ _ _ _ _ _ _ [blkA b4 [u2] 29, ownB u2 (encs [m.kind, m.whose] ++ encRow m.row) 5, ownB u3 (encs [m.kind, m.whose] ++ encRow m.row) 5, blkA b16 [(.int .i64 (m.kind)), (.int .i64 (m.whose))] 3, blkA b1 (ints m.flat) 44]
              refine TL.v (Want.plain rfl) rfl rfl (PV.assign rfl rfl) ?_
              refine TL.nil ?_
              refine TE.next hK10 ?_
              clear hK10
              refine TC.ret ?_
              refine TE.weak (Sub.refl _) (fun _ s => sep_keep [2] rfl s) ?_
              refine TE.ret1 rfl rfl ?_
              exact ⟨_, rfl, congrArg (fun b => [ownB u3 b 5]) (show (encs [m.kind, m.whose] ++ encRow m.row) = encM m by simp [encM, kRow, kAsk, encs, *])⟩
            exact AllT.nil
          exact AllT.nil
        exact AllT.nil
      · skip
        refine TL.v (Want.plain rfl) rfl rfl (PV.assign rfl rfl) ?_
        refine TL.nil ?_
        refine TE.next hK5 ?_
        clear hK5
        refine TC.no rfl ?_
        refine TC.seq (fun K11 hK11 => ?_)
        refine TC.region ?_
        refine TL.v (Want.plain rfl) rfl rfl (PV.eql rfl rfl rfl) ?_
        refine TL.dec (fun h22 => ?_) (fun h22 => ?_)
        · skip
          refine TL.v (Want.plain rfl) rfl rfl (PV.assign rfl rfl) ?_
          refine TL.nil ?_
          refine TE.next hK11 ?_
          clear hK11
          refine TC.yes rfl ?_
          refine TC.region ?_
          refine TL.v (Want.plain rfl) rfl rfl (PV.move rfl rfl) ?_
          refine TL.v (Want.plain rfl) rfl rfl (PV.fieldAddr (r := 0) rfl Try.underlying44 rfl sz3 rfl rfl) ?_
          refine TL.v (Want.plain rfl) rfl rfl (PV.load1 (v := (.int .i64 (m.kind))) rfl Try.underlying3 rfl rfl (Rd.own 2 rfl rfl) (MsgT.at_kind m rfl)) ?_
          refine TL.v (Want.plain rfl) rfl rfl (PV.fieldAddr (r := 176) rfl Try.underlying44 rfl sz3 rfl rfl) ?_
          refine TL.v (Want.plain rfl) rfl rfl (PV.load1 (v := (.int .i64 (m.version))) rfl Try.underlying3 rfl rfl (Rd.own 2 rfl rfl) (MsgT.at_version m rfl)) ?_
          refine TL.buildSlice (cells := #[(.int .i64 (m.kind)), (.int .i64 (m.version))]) (Want.plain rfl) rfl rfl rfl Try.underlying79 in3 rfl rfl rfl (by as_aux_lemma => kernel_rfl) (fun b28 => ?_)
          change TL _ _ _ _ _ _ _ _ _ [blkA b28 [(.int .i64 (m.kind)), (.int .i64 (m.version))] 3, ownB (.slice none 0 0) ([]) 5, blkA b4 [(.slice none 0 0)] 29, blkA b1 (ints m.flat) 44]
          refine TL.callR (A := [blkA b4 [(.slice none 0 0)] 29, ownB (.slice none 0 0) ([]) 5]) (B := [blkA b28 [(.int .i64 (m.kind)), (.int .i64 (m.version))] 3, blkA b1 (ints m.flat) 44]) (Want.plain rfl) rfl rfl rfl nm11 rfl (wnum_does b4 (.slice none 0 0) ([]) (.slice (some ⟨b28, 0, none⟩) (2) (2)) [m.kind, m.version] (by simp)) (fun _ s => sep_selR [2, 1] rfl s) (isN_piece 0 rfl rfl rfl rfl) (fun vR HR hR => ?_)
          obtain ⟨u1, rfl, rfl⟩ := hR
          change TL _ _ _ _ _ _ _ _ _ [blkA b4 [u1] 29, ownB u1 (encs [m.kind, m.version]) 5, blkA b28 [(.int .i64 (m.kind)), (.int .i64 (m.version))] 3, blkA b1 (ints m.flat) 44]
          refine TL.nil ?_
          refine TE.blockEnd ?_
          refine TE.next hK3 ?_
          clear hK3
          refine TC.seq (fun K12 hK12 => ?_)
          refine TC.region ?_
          refine TL.v (Want.plain rfl) rfl rfl (PV.move rfl rfl) ?_
          refine TL.callR (A := [blkA b4 [u1] 29, ownB u1 (encs [m.kind, m.version]) 5]) (B := [blkA b28 [(.int .i64 (m.kind)), (.int .i64 (m.version))] 3, blkA b1 (ints m.flat) 44]) (Want.plain rfl) rfl rfl rfl nm14 rfl (wbytes_does b4 u1 (encs [m.kind, m.version]) (by (have := encs_len [m.kind, m.version]); simp only [BallotT.flat, ViewT.flat, ChangeT.flat, List.length_cons, List.length_nil, Vector.length_toList, List.length_append] at *; omega)) (fun _ s => s) (fun _ _ _ => trivial) (fun vR HR hR => ?_)
          obtain ⟨_, rfl, rfl⟩ := hR
          revert vR
          intro u2
          change TL _ _ _ _ _ _ _ _ _ [blkA b4 [u1] 29, ownB u1 (encs [m.kind, m.version]) 5, ownB u2 (encs [m.kind, m.version]) 5, blkA b28 [(.int .i64 (m.kind)), (.int .i64 (m.version))] 3, blkA b1 (ints m.flat) 44]
          refine TL.v (Want.plain rfl) rfl rfl (PV.assign rfl rfl) ?_
          refine TL.nil ?_
          refine TE.next hK12 ?_
          clear hK12
          refine TC.ret ?_
          refine TE.weak (Sub.refl _) (fun _ s => sep_keep [2] rfl s) ?_
          refine TE.ret1 rfl rfl ?_
          exact ⟨_, rfl, congrArg (fun b => [ownB u2 b 5]) (show (encs [m.kind, m.version]) = encM m by simp [encM, kRow, kAsk, encs, *])⟩
        · skip
          refine TL.v (Want.plain rfl) rfl rfl (PV.assign rfl rfl) ?_
          refine TL.nil ?_
          refine TE.next hK11 ?_
          clear hK11
          refine TC.no rfl ?_
          refine TC.seq (fun K13 hK13 => ?_)
          refine TC.seq (fun K14 hK14 => ?_)
          refine TC.region ?_
          refine TL.v (Want.plain rfl) rfl rfl (PV.eql rfl rfl rfl) ?_
          refine TL.v (Want.plain rfl) rfl rfl (PV.assign rfl rfl) ?_
          refine TL.dec (fun h30 => ?_) (fun h30 => ?_)
          · skip
            refine TL.nil ?_
            refine TE.next hK14 ?_
            clear hK14
            refine TC.yes rfl ?_
            refine TC.skip ?_
            refine TE.next hK13 ?_
            clear hK13
            refine TC.yes rfl ?_
            refine TC.draw (fun w => Frm F w ∧ w.heap[b1]? = some (.cells (ints m.flat).toArray 44 (0, 0)) ∧ True) mixed rfl (fun _ s => ⟨Frm.of s, s.block 2 (lb rfl) rfl, trivial⟩) ?_
            refine TD.take (i := 0) rfl (by kernel_rfl) (by kernel_rfl) (by kernel_rfl) (fun _ _ _ _ h => h) (Want.plain rfl) rfl rfl (PV.move rfl rfl) ?_
            refine TD.take (i := 1) rfl (by kernel_rfl) (by kernel_rfl) (by kernel_rfl) (fun _ _ _ _ h => h) (Want.plain rfl) rfl rfl (PV.fieldAddr (r := 0) rfl Try.underlying44 rfl sz3 rfl rfl) ?_
            refine TD.take (i := 2) rfl (by kernel_rfl) (by kernel_rfl) (by kernel_rfl) (fun _ _ _ _ h => h) (Want.plain rfl) rfl rfl (PV.load1 (v := (.int .i64 (m.kind))) rfl Try.underlying3 rfl rfl (fun _ h => h.2.1) (MsgT.at_kind m rfl)) ?_
            refine TD.take (i := 3) rfl (by kernel_rfl) (by kernel_rfl) (by kernel_rfl) (fun _ _ _ _ h => h) (Want.plain rfl) rfl rfl (PV.fieldAddr (r := 177) rfl Try.underlying44 rfl sz3 rfl rfl) ?_
            refine TD.take (i := 4) rfl (by kernel_rfl) (by kernel_rfl) (by kernel_rfl) (fun _ _ _ _ h => h) (Want.plain rfl) rfl rfl (PV.load1 (v := (.int .i64 (m.epoch))) rfl Try.underlying3 rfl rfl (fun _ h => h.2.1) (MsgT.at_epoch m rfl)) ?_
            refine TD.take (i := 7) rfl (by kernel_rfl) (by kernel_rfl) (by kernel_rfl) (fun _ _ _ _ h => h) (Want.plain rfl) rfl rfl (PV.fieldAddr (r := 178) rfl Try.underlying44 rfl sz40 rfl rfl) ?_
            refine TD.take (i := 8) rfl (by kernel_rfl) (by kernel_rfl) (by kernel_rfl) (fun _ _ _ _ h => h) (Want.plain rfl) rfl rfl (PV.loadN (vs := ints m.ballot.flat) rfl Try.underlying40 rfl sz40 rfl (fun _ h => h.2.1) (BallotT.len m.ballot) (MsgT.sub_ballot m 0 rfl (by decide) (whole (BallotT.len m.ballot)))) ?_
            refine TD.all [5] (by kernel_rfl) rfl ?_
            refine AllT.cons rfl ?_ ?_
            · skip
              refine TL.buildSlice (cells := #[(.int .i64 (m.kind)), (.int .i64 (m.epoch))]) (Want.plain rfl) rfl rfl rfl Try.underlying79 in3 rfl rfl rfl (by as_aux_lemma => kernel_rfl) (fun b38 => ?_)
              change TL _ _ _ _ _ _ _ _ _ [blkA b38 [(.int .i64 (m.kind)), (.int .i64 (m.epoch))] 3, ownB (.slice none 0 0) ([]) 5, blkA b4 [(.slice none 0 0)] 29, blkA b1 (ints m.flat) 44]
              refine TL.nil ?_
              refine TE.draw (fun _ s => ⟨Frm.of s, s.block 3 (lb rfl) rfl, trivial⟩) ?_
              refine TD.all [6] (by kernel_rfl) rfl ?_
              refine AllT.cons rfl ?_ ?_
              · skip
                refine TL.callR (A := [blkA b4 [(.slice none 0 0)] 29, ownB (.slice none 0 0) ([]) 5]) (B := [blkA b38 [(.int .i64 (m.kind)), (.int .i64 (m.epoch))] 3, blkA b1 (ints m.flat) 44]) (Want.plain rfl) rfl rfl rfl nm11 rfl (wnum_does b4 (.slice none 0 0) ([]) (.slice (some ⟨b38, 0, none⟩) (2) (2)) [m.kind, m.epoch] (by simp)) (fun _ s => sep_selR [2, 1] rfl s) (isN_piece 0 rfl rfl rfl rfl) (fun vR HR hR => ?_)
                obtain ⟨u1, rfl, rfl⟩ := hR
                change TL _ _ _ _ _ _ _ _ _ [blkA b4 [u1] 29, ownB u1 (encs [m.kind, m.epoch]) 5, blkA b38 [(.int .i64 (m.kind)), (.int .i64 (m.epoch))] 3, blkA b1 (ints m.flat) 44]
                refine TL.nil ?_
                refine TE.draw (fun _ s => ⟨Frm.of s, s.block 3 (lb rfl) rfl, trivial⟩) ?_
                refine TD.all [9] (by kernel_rfl) rfl ?_
                refine AllT.cons rfl ?_ ?_
                · skip
                  refine TL.callR (A := [blkA b4 [u1] 29, ownB u1 (encs [m.kind, m.epoch]) 5]) (B := [blkA b38 [(.int .i64 (m.kind)), (.int .i64 (m.epoch))] 3, blkA b1 (ints m.flat) 44]) (Want.plain rfl) rfl rfl rfl nm37 rfl (wballot_does b4 u1 (encs [m.kind, m.epoch]) m.ballot (by (have := encs_len [m.kind, m.epoch]); simp only [BallotT.flat, ViewT.flat, ChangeT.flat, List.length_cons, List.length_nil, Vector.length_toList, List.length_append] at *; omega)) (fun _ s => s) (fun _ _ _ => trivial) (fun vR HR hR => ?_)
                  obtain ⟨u2, rfl, rfl⟩ := hR
                  change TL _ _ _ _ _ _ _ _ _ [blkA b4 [u2] 29, ownB u2 (encs [m.kind, m.epoch] ++ encs m.ballot.flat) 5, blkA b38 [(.int .i64 (m.kind)), (.int .i64 (m.epoch))] 3, blkA b1 (ints m.flat) 44]
                  refine TL.nil ?_
                  refine TE.draw (fun _ s => ⟨Frm.of s, s.block 3 (lb rfl) rfl, trivial⟩) ?_
                  refine TD.done (by kernel_rfl) ?_
                  refine TE.blockEnd ?_
                  refine TE.next hK3 ?_
                  clear hK3
                  refine TC.seq (fun K15 hK15 => ?_)
                  refine TC.region ?_
                  refine TL.v (Want.plain rfl) rfl rfl (PV.move rfl rfl) ?_
                  refine TL.callR (A := [blkA b4 [u2] 29, ownB u2 (encs [m.kind, m.epoch] ++ encs m.ballot.flat) 5]) (B := [blkA b38 [(.int .i64 (m.kind)), (.int .i64 (m.epoch))] 3, blkA b1 (ints m.flat) 44]) (Want.plain rfl) rfl rfl rfl nm14 rfl (wbytes_does b4 u2 (encs [m.kind, m.epoch] ++ encs m.ballot.flat) (by (have := encs_len [m.kind, m.epoch]); (have := encs_len (m.ballot.flat)); simp only [BallotT.flat, ViewT.flat, ChangeT.flat, List.length_cons, List.length_nil, Vector.length_toList, List.length_append] at *; omega)) (fun _ s => s) (fun _ _ _ => trivial) (fun vR HR hR => ?_)
                  obtain ⟨_, rfl, rfl⟩ := hR
                  revert vR
                  intro u3
                  change TL _ _ _ _ _ _ _ _ _ [blkA b4 [u2] 29, ownB u2 (encs [m.kind, m.epoch] ++ encs m.ballot.flat) 5, ownB u3 (encs [m.kind, m.epoch] ++ encs m.ballot.flat) 5, blkA b38 [(.int .i64 (m.kind)), (.int .i64 (m.epoch))] 3, blkA b1 (ints m.flat) 44]
                  refine TL.v (Want.plain rfl) rfl rfl (PV.assign rfl rfl) ?_
                  refine TL.nil ?_
                  refine TE.next hK15 ?_
                  clear hK15
                  refine TC.ret ?_
                  refine TE.weak (Sub.refl _) (fun _ s => sep_keep [2] rfl s) ?_
                  refine TE.ret1 rfl rfl ?_
                  exact ⟨_, rfl, congrArg (fun b => [ownB u3 b 5]) (show (encs [m.kind, m.epoch] ++ encs m.ballot.flat) = encM m by simp [encM, kRow, kAsk, encs, *])⟩
                exact AllT.nil
              exact AllT.nil
            exact AllT.nil
          · skip
            refine TL.nil ?_
            refine TE.next hK14 ?_
            clear hK14
            refine TC.no rfl ?_
            refine TC.region ?_
            refine TL.v (Want.plain rfl) rfl rfl (PV.eql rfl rfl rfl) ?_
            refine TL.dec (fun h32 => ?_) (fun h32 => ?_)
            · skip
              refine TL.v (Want.plain rfl) rfl rfl (PV.assign rfl rfl) ?_
              refine TL.nil ?_
              refine TE.next hK13 ?_
              clear hK13
              refine TC.yes rfl ?_
              refine TC.draw (fun w => Frm F w ∧ w.heap[b1]? = some (.cells (ints m.flat).toArray 44 (0, 0)) ∧ True) mixed rfl (fun _ s => ⟨Frm.of s, s.block 2 (lb rfl) rfl, trivial⟩) ?_
              refine TD.take (i := 0) rfl (by kernel_rfl) (by kernel_rfl) (by kernel_rfl) (fun _ _ _ _ h => h) (Want.plain rfl) rfl rfl (PV.move rfl rfl) ?_
              refine TD.take (i := 1) rfl (by kernel_rfl) (by kernel_rfl) (by kernel_rfl) (fun _ _ _ _ h => h) (Want.plain rfl) rfl rfl (PV.fieldAddr (r := 0) rfl Try.underlying44 rfl sz3 rfl rfl) ?_
              refine TD.take (i := 2) rfl (by kernel_rfl) (by kernel_rfl) (by kernel_rfl) (fun _ _ _ _ h => h) (Want.plain rfl) rfl rfl (PV.load1 (v := (.int .i64 (m.kind))) rfl Try.underlying3 rfl rfl (fun _ h => h.2.1) (MsgT.at_kind m rfl)) ?_
              refine TD.take (i := 3) rfl (by kernel_rfl) (by kernel_rfl) (by kernel_rfl) (fun _ _ _ _ h => h) (Want.plain rfl) rfl rfl (PV.fieldAddr (r := 177) rfl Try.underlying44 rfl sz3 rfl rfl) ?_
              refine TD.take (i := 4) rfl (by kernel_rfl) (by kernel_rfl) (by kernel_rfl) (fun _ _ _ _ h => h) (Want.plain rfl) rfl rfl (PV.load1 (v := (.int .i64 (m.epoch))) rfl Try.underlying3 rfl rfl (fun _ h => h.2.1) (MsgT.at_epoch m rfl)) ?_
              refine TD.take (i := 7) rfl (by kernel_rfl) (by kernel_rfl) (by kernel_rfl) (fun _ _ _ _ h => h) (Want.plain rfl) rfl rfl (PV.fieldAddr (r := 178) rfl Try.underlying44 rfl sz40 rfl rfl) ?_
              refine TD.take (i := 8) rfl (by kernel_rfl) (by kernel_rfl) (by kernel_rfl) (fun _ _ _ _ h => h) (Want.plain rfl) rfl rfl (PV.loadN (vs := ints m.ballot.flat) rfl Try.underlying40 rfl sz40 rfl (fun _ h => h.2.1) (BallotT.len m.ballot) (MsgT.sub_ballot m 0 rfl (by decide) (whole (BallotT.len m.ballot)))) ?_
              refine TD.all [5] (by kernel_rfl) rfl ?_
              refine AllT.cons rfl ?_ ?_
              · skip
                refine TL.buildSlice (cells := #[(.int .i64 (m.kind)), (.int .i64 (m.epoch))]) (Want.plain rfl) rfl rfl rfl Try.underlying79 in3 rfl rfl rfl (by as_aux_lemma => kernel_rfl) (fun b38 => ?_)
                change TL _ _ _ _ _ _ _ _ _ [blkA b38 [(.int .i64 (m.kind)), (.int .i64 (m.epoch))] 3, ownB (.slice none 0 0) ([]) 5, blkA b4 [(.slice none 0 0)] 29, blkA b1 (ints m.flat) 44]
                refine TL.nil ?_
                refine TE.draw (fun _ s => ⟨Frm.of s, s.block 3 (lb rfl) rfl, trivial⟩) ?_
                refine TD.all [6] (by kernel_rfl) rfl ?_
                refine AllT.cons rfl ?_ ?_
                · skip
                  refine TL.callR (A := [blkA b4 [(.slice none 0 0)] 29, ownB (.slice none 0 0) ([]) 5]) (B := [blkA b38 [(.int .i64 (m.kind)), (.int .i64 (m.epoch))] 3, blkA b1 (ints m.flat) 44]) (Want.plain rfl) rfl rfl rfl nm11 rfl (wnum_does b4 (.slice none 0 0) ([]) (.slice (some ⟨b38, 0, none⟩) (2) (2)) [m.kind, m.epoch] (by simp)) (fun _ s => sep_selR [2, 1] rfl s) (isN_piece 0 rfl rfl rfl rfl) (fun vR HR hR => ?_)
                  obtain ⟨u1, rfl, rfl⟩ := hR
                  change TL _ _ _ _ _ _ _ _ _ [blkA b4 [u1] 29, ownB u1 (encs [m.kind, m.epoch]) 5, blkA b38 [(.int .i64 (m.kind)), (.int .i64 (m.epoch))] 3, blkA b1 (ints m.flat) 44]
                  refine TL.nil ?_
                  refine TE.draw (fun _ s => ⟨Frm.of s, s.block 3 (lb rfl) rfl, trivial⟩) ?_
                  refine TD.all [9] (by kernel_rfl) rfl ?_
                  refine AllT.cons rfl ?_ ?_
                  · skip
                    refine TL.callR (A := [blkA b4 [u1] 29, ownB u1 (encs [m.kind, m.epoch]) 5]) (B := [blkA b38 [(.int .i64 (m.kind)), (.int .i64 (m.epoch))] 3, blkA b1 (ints m.flat) 44]) (Want.plain rfl) rfl rfl rfl nm37 rfl (wballot_does b4 u1 (encs [m.kind, m.epoch]) m.ballot (by (have := encs_len [m.kind, m.epoch]); simp only [BallotT.flat, ViewT.flat, ChangeT.flat, List.length_cons, List.length_nil, Vector.length_toList, List.length_append] at *; omega)) (fun _ s => s) (fun _ _ _ => trivial) (fun vR HR hR => ?_)
                    obtain ⟨u2, rfl, rfl⟩ := hR
                    change TL _ _ _ _ _ _ _ _ _ [blkA b4 [u2] 29, ownB u2 (encs [m.kind, m.epoch] ++ encs m.ballot.flat) 5, blkA b38 [(.int .i64 (m.kind)), (.int .i64 (m.epoch))] 3, blkA b1 (ints m.flat) 44]
                    refine TL.nil ?_
                    refine TE.draw (fun _ s => ⟨Frm.of s, s.block 3 (lb rfl) rfl, trivial⟩) ?_
                    refine TD.done (by kernel_rfl) ?_
                    refine TE.blockEnd ?_
                    refine TE.next hK3 ?_
                    clear hK3
                    refine TC.seq (fun K16 hK16 => ?_)
                    refine TC.region ?_
                    refine TL.v (Want.plain rfl) rfl rfl (PV.move rfl rfl) ?_
                    refine TL.callR (A := [blkA b4 [u2] 29, ownB u2 (encs [m.kind, m.epoch] ++ encs m.ballot.flat) 5]) (B := [blkA b38 [(.int .i64 (m.kind)), (.int .i64 (m.epoch))] 3, blkA b1 (ints m.flat) 44]) (Want.plain rfl) rfl rfl rfl nm14 rfl (wbytes_does b4 u2 (encs [m.kind, m.epoch] ++ encs m.ballot.flat) (by (have := encs_len [m.kind, m.epoch]); (have := encs_len (m.ballot.flat)); simp only [BallotT.flat, ViewT.flat, ChangeT.flat, List.length_cons, List.length_nil, Vector.length_toList, List.length_append] at *; omega)) (fun _ s => s) (fun _ _ _ => trivial) (fun vR HR hR => ?_)
                    obtain ⟨_, rfl, rfl⟩ := hR
                    revert vR
                    intro u3
                    change TL _ _ _ _ _ _ _ _ _ [blkA b4 [u2] 29, ownB u2 (encs [m.kind, m.epoch] ++ encs m.ballot.flat) 5, ownB u3 (encs [m.kind, m.epoch] ++ encs m.ballot.flat) 5, blkA b38 [(.int .i64 (m.kind)), (.int .i64 (m.epoch))] 3, blkA b1 (ints m.flat) 44]
                    refine TL.v (Want.plain rfl) rfl rfl (PV.assign rfl rfl) ?_
                    refine TL.nil ?_
                    refine TE.next hK16 ?_
                    clear hK16
                    refine TC.ret ?_
                    refine TE.weak (Sub.refl _) (fun _ s => sep_keep [2] rfl s) ?_
                    refine TE.ret1 rfl rfl ?_
                    exact ⟨_, rfl, congrArg (fun b => [ownB u3 b 5]) (show (encs [m.kind, m.epoch] ++ encs m.ballot.flat) = encM m by simp [encM, kRow, kAsk, encs, *])⟩
                  exact AllT.nil
                exact AllT.nil
              exact AllT.nil
            · skip
              refine TL.v (Want.plain rfl) rfl rfl (PV.assign rfl rfl) ?_
              refine TL.nil ?_
              refine TE.next hK13 ?_
              clear hK13
              refine TC.no rfl ?_
              refine TC.seq (fun K17 hK17 => ?_)
              refine TC.region ?_
              refine TL.v (Want.plain rfl) rfl rfl (PV.eql rfl rfl rfl) ?_
              refine TL.dec (fun h44 => ?_) (fun h44 => ?_)
              · skip
                refine TL.v (Want.plain rfl) rfl rfl (PV.assign rfl rfl) ?_
                refine TL.nil ?_
                refine TE.next hK17 ?_
                clear hK17
                refine TC.yes rfl ?_
                refine TC.draw (fun w => Frm F w ∧ w.heap[b1]? = some (.cells (ints m.flat).toArray 44 (0, 0)) ∧ True) mixed rfl (fun _ s => ⟨Frm.of s, s.block 2 (lb rfl) rfl, trivial⟩) ?_
                refine TD.take (i := 0) rfl (by kernel_rfl) (by kernel_rfl) (by kernel_rfl) (fun _ _ _ _ h => h) (Want.plain rfl) rfl rfl (PV.move rfl rfl) ?_
                refine TD.take (i := 1) rfl (by kernel_rfl) (by kernel_rfl) (by kernel_rfl) (fun _ _ _ _ h => h) (Want.plain rfl) rfl rfl (PV.fieldAddr (r := 0) rfl Try.underlying44 rfl sz3 rfl rfl) ?_
                refine TD.take (i := 2) rfl (by kernel_rfl) (by kernel_rfl) (by kernel_rfl) (fun _ _ _ _ h => h) (Want.plain rfl) rfl rfl (PV.load1 (v := (.int .i64 (m.kind))) rfl Try.underlying3 rfl rfl (fun _ h => h.2.1) (MsgT.at_kind m rfl)) ?_
                refine TD.take (i := 3) rfl (by kernel_rfl) (by kernel_rfl) (by kernel_rfl) (fun _ _ _ _ h => h) (Want.plain rfl) rfl rfl (PV.fieldAddr (r := 177) rfl Try.underlying44 rfl sz3 rfl rfl) ?_
                refine TD.take (i := 4) rfl (by kernel_rfl) (by kernel_rfl) (by kernel_rfl) (fun _ _ _ _ h => h) (Want.plain rfl) rfl rfl (PV.load1 (v := (.int .i64 (m.epoch))) rfl Try.underlying3 rfl rfl (fun _ h => h.2.1) (MsgT.at_epoch m rfl)) ?_
                refine TD.take (i := 7) rfl (by kernel_rfl) (by kernel_rfl) (by kernel_rfl) (fun _ _ _ _ h => h) (Want.plain rfl) rfl rfl (PV.fieldAddr (r := 178) rfl Try.underlying44 rfl sz40 rfl rfl) ?_
                refine TD.take (i := 8) rfl (by kernel_rfl) (by kernel_rfl) (by kernel_rfl) (fun _ _ _ _ h => h) (Want.plain rfl) rfl rfl (PV.loadN (vs := ints m.ballot.flat) rfl Try.underlying40 rfl sz40 rfl (fun _ h => h.2.1) (BallotT.len m.ballot) (MsgT.sub_ballot m 0 rfl (by decide) (whole (BallotT.len m.ballot)))) ?_
                refine TD.take (i := 10) rfl (by kernel_rfl) (by kernel_rfl) (by kernel_rfl) (fun _ _ _ _ h => h) (Want.plain rfl) rfl rfl (PV.fieldAddr (r := 180) rfl Try.underlying44 rfl sz40 rfl rfl) ?_
                refine TD.take (i := 11) rfl (by kernel_rfl) (by kernel_rfl) (by kernel_rfl) (fun _ _ _ _ h => h) (Want.plain rfl) rfl rfl (PV.loadN (vs := ints m.had.flat) rfl Try.underlying40 rfl sz40 rfl (fun _ h => h.2.1) (BallotT.len m.had) (MsgT.sub_had m 0 rfl (by decide) (whole (BallotT.len m.had)))) ?_
                refine TD.take (i := 13) rfl (by kernel_rfl) (by kernel_rfl) (by kernel_rfl) (fun _ _ _ _ h => h) (Want.plain rfl) rfl rfl (PV.fieldAddr (r := 182) rfl Try.underlying44 rfl sz42 rfl rfl) ?_
                refine TD.take (i := 14) rfl (by kernel_rfl) (by kernel_rfl) (by kernel_rfl) (fun _ _ _ _ h => h) (Want.plain rfl) rfl rfl (PV.loadN (vs := ints m.change.flat) rfl Try.underlying42 rfl sz42 rfl (fun _ h => h.2.1) (ChangeT.len m.change) (MsgT.sub_change m 0 rfl (by decide) (whole (ChangeT.len m.change)))) ?_
                refine TD.all [5] (by kernel_rfl) rfl ?_
                refine AllT.cons rfl ?_ ?_
                · skip
                  refine TL.buildSlice (cells := #[(.int .i64 (m.kind)), (.int .i64 (m.epoch))]) (Want.plain rfl) rfl rfl rfl Try.underlying79 in3 rfl rfl rfl (by as_aux_lemma => kernel_rfl) (fun b50 => ?_)
                  change TL _ _ _ _ _ _ _ _ _ [blkA b50 [(.int .i64 (m.kind)), (.int .i64 (m.epoch))] 3, ownB (.slice none 0 0) ([]) 5, blkA b4 [(.slice none 0 0)] 29, blkA b1 (ints m.flat) 44]
                  refine TL.nil ?_
                  refine TE.draw (fun _ s => ⟨Frm.of s, s.block 3 (lb rfl) rfl, trivial⟩) ?_
                  refine TD.all [6] (by kernel_rfl) rfl ?_
                  refine AllT.cons rfl ?_ ?_
                  · skip
                    refine TL.callR (A := [blkA b4 [(.slice none 0 0)] 29, ownB (.slice none 0 0) ([]) 5]) (B := [blkA b50 [(.int .i64 (m.kind)), (.int .i64 (m.epoch))] 3, blkA b1 (ints m.flat) 44]) (Want.plain rfl) rfl rfl rfl nm11 rfl (wnum_does b4 (.slice none 0 0) ([]) (.slice (some ⟨b50, 0, none⟩) (2) (2)) [m.kind, m.epoch] (by simp)) (fun _ s => sep_selR [2, 1] rfl s) (isN_piece 0 rfl rfl rfl rfl) (fun vR HR hR => ?_)
                    obtain ⟨u1, rfl, rfl⟩ := hR
                    change TL _ _ _ _ _ _ _ _ _ [blkA b4 [u1] 29, ownB u1 (encs [m.kind, m.epoch]) 5, blkA b50 [(.int .i64 (m.kind)), (.int .i64 (m.epoch))] 3, blkA b1 (ints m.flat) 44]
                    refine TL.nil ?_
                    refine TE.draw (fun _ s => ⟨Frm.of s, s.block 3 (lb rfl) rfl, trivial⟩) ?_
                    refine TD.all [9] (by kernel_rfl) rfl ?_
                    refine AllT.cons rfl ?_ ?_
                    · skip
                      refine TL.callR (A := [blkA b4 [u1] 29, ownB u1 (encs [m.kind, m.epoch]) 5]) (B := [blkA b50 [(.int .i64 (m.kind)), (.int .i64 (m.epoch))] 3, blkA b1 (ints m.flat) 44]) (Want.plain rfl) rfl rfl rfl nm37 rfl (wballot_does b4 u1 (encs [m.kind, m.epoch]) m.ballot (by (have := encs_len [m.kind, m.epoch]); simp only [BallotT.flat, ViewT.flat, ChangeT.flat, List.length_cons, List.length_nil, Vector.length_toList, List.length_append] at *; omega)) (fun _ s => s) (fun _ _ _ => trivial) (fun vR HR hR => ?_)
                      obtain ⟨u2, rfl, rfl⟩ := hR
                      change TL _ _ _ _ _ _ _ _ _ [blkA b4 [u2] 29, ownB u2 (encs [m.kind, m.epoch] ++ encs m.ballot.flat) 5, blkA b50 [(.int .i64 (m.kind)), (.int .i64 (m.epoch))] 3, blkA b1 (ints m.flat) 44]
                      refine TL.nil ?_
                      refine TE.draw (fun _ s => ⟨Frm.of s, s.block 3 (lb rfl) rfl, trivial⟩) ?_
                      refine TD.all [12] (by kernel_rfl) rfl ?_
                      refine AllT.cons rfl ?_ ?_
                      · skip
                        refine TL.callR (A := [blkA b4 [u2] 29, ownB u2 (encs [m.kind, m.epoch] ++ encs m.ballot.flat) 5]) (B := [blkA b50 [(.int .i64 (m.kind)), (.int .i64 (m.epoch))] 3, blkA b1 (ints m.flat) 44]) (Want.plain rfl) rfl rfl rfl nm37 rfl (wballot_does b4 u2 (encs [m.kind, m.epoch] ++ encs m.ballot.flat) m.had (by (have := encs_len [m.kind, m.epoch]); (have := encs_len (m.ballot.flat)); simp only [BallotT.flat, ViewT.flat, ChangeT.flat, List.length_cons, List.length_nil, Vector.length_toList, List.length_append] at *; omega)) (fun _ s => s) (fun _ _ _ => trivial) (fun vR HR hR => ?_)
                        obtain ⟨u3, rfl, rfl⟩ := hR
                        change TL _ _ _ _ _ _ _ _ _ [blkA b4 [u3] 29, ownB u3 (encs [m.kind, m.epoch] ++ encs m.ballot.flat ++ encs m.had.flat) 5, blkA b50 [(.int .i64 (m.kind)), (.int .i64 (m.epoch))] 3, blkA b1 (ints m.flat) 44]
                        refine TL.nil ?_
                        refine TE.draw (fun _ s => ⟨Frm.of s, s.block 3 (lb rfl) rfl, trivial⟩) ?_
                        refine TD.all [15] (by kernel_rfl) rfl ?_
                        refine AllT.cons rfl ?_ ?_
                        · skip
                          refine TL.callR (A := [blkA b4 [u3] 29, ownB u3 (encs [m.kind, m.epoch] ++ encs m.ballot.flat ++ encs m.had.flat) 5]) (B := [blkA b50 [(.int .i64 (m.kind)), (.int .i64 (m.epoch))] 3, blkA b1 (ints m.flat) 44]) (Want.plain rfl) rfl rfl rfl nm38 rfl (wchange_does b4 u3 (encs [m.kind, m.epoch] ++ encs m.ballot.flat ++ encs m.had.flat) m.change (by (have := encs_len [m.kind, m.epoch]); (have := encs_len (m.ballot.flat)); (have := encs_len (m.had.flat)); simp only [BallotT.flat, ViewT.flat, ChangeT.flat, List.length_cons, List.length_nil, Vector.length_toList, List.length_append] at *; omega)) (fun _ s => s) (fun _ _ _ => trivial) (fun vR HR hR => ?_)
                          obtain ⟨u4, rfl, rfl⟩ := hR
                          change TL _ _ _ _ _ _ _ _ _ [blkA b4 [u4] 29, ownB u4 (encs [m.kind, m.epoch] ++ encs m.ballot.flat ++ encs m.had.flat ++ encs m.change.flat) 5, blkA b50 [(.int .i64 (m.kind)), (.int .i64 (m.epoch))] 3, blkA b1 (ints m.flat) 44]
                          refine TL.nil ?_
                          refine TE.draw (fun _ s => ⟨Frm.of s, s.block 3 (lb rfl) rfl, trivial⟩) ?_
                          refine TD.done (by kernel_rfl) ?_
                          refine TE.blockEnd ?_
                          refine TE.next hK3 ?_
                          clear hK3
                          refine TC.seq (fun K18 hK18 => ?_)
                          refine TC.region ?_
                          refine TL.v (Want.plain rfl) rfl rfl (PV.move rfl rfl) ?_
                          refine TL.callR (A := [blkA b4 [u4] 29, ownB u4 (encs [m.kind, m.epoch] ++ encs m.ballot.flat ++ encs m.had.flat ++ encs m.change.flat) 5]) (B := [blkA b50 [(.int .i64 (m.kind)), (.int .i64 (m.epoch))] 3, blkA b1 (ints m.flat) 44]) (Want.plain rfl) rfl rfl rfl nm14 rfl (wbytes_does b4 u4 (encs [m.kind, m.epoch] ++ encs m.ballot.flat ++ encs m.had.flat ++ encs m.change.flat) (by (have := encs_len [m.kind, m.epoch]); (have := encs_len (m.ballot.flat)); (have := encs_len (m.had.flat)); (have := encs_len (m.change.flat)); simp only [BallotT.flat, ViewT.flat, ChangeT.flat, List.length_cons, List.length_nil, Vector.length_toList, List.length_append] at *; omega)) (fun _ s => s) (fun _ _ _ => trivial) (fun vR HR hR => ?_)
                          obtain ⟨_, rfl, rfl⟩ := hR
                          revert vR
                          intro u5
                          change TL _ _ _ _ _ _ _ _ _ [blkA b4 [u4] 29, ownB u4 (encs [m.kind, m.epoch] ++ encs m.ballot.flat ++ encs m.had.flat ++ encs m.change.flat) 5, ownB u5 (encs [m.kind, m.epoch] ++ encs m.ballot.flat ++ encs m.had.flat ++ encs m.change.flat) 5, blkA b50 [(.int .i64 (m.kind)), (.int .i64 (m.epoch))] 3, blkA b1 (ints m.flat) 44]
                          refine TL.v (Want.plain rfl) rfl rfl (PV.assign rfl rfl) ?_
                          refine TL.nil ?_
                          refine TE.next hK18 ?_
                          clear hK18
                          refine TC.ret ?_
                          refine TE.weak (Sub.refl _) (fun _ s => sep_keep [2] rfl s) ?_
                          refine TE.ret1 rfl rfl ?_
                          exact ⟨_, rfl, congrArg (fun b => [ownB u5 b 5]) (show (encs [m.kind, m.epoch] ++ encs m.ballot.flat ++ encs m.had.flat ++ encs m.change.flat) = encM m by simp [encM, kRow, kAsk, encs, *])⟩
                        exact AllT.nil
                      exact AllT.nil
                    exact AllT.nil
                  exact AllT.nil
                exact AllT.nil
              · skip
                refine TL.v (Want.plain rfl) rfl rfl (PV.assign rfl rfl) ?_
                refine TL.nil ?_
                refine TE.next hK17 ?_
                clear hK17
                refine TC.no rfl ?_
                refine TC.seq (fun K19 hK19 => ?_)
                refine TC.region ?_
                refine TL.v (Want.plain rfl) rfl rfl (PV.eql rfl rfl rfl) ?_
                refine TL.dec (fun h62 => ?_) (fun h62 => ?_)
                · skip
                  refine TL.v (Want.plain rfl) rfl rfl (PV.assign rfl rfl) ?_
                  refine TL.nil ?_
                  refine TE.next hK19 ?_
                  clear hK19
                  refine TC.yes rfl ?_
                  refine TC.draw (fun w => Frm F w ∧ w.heap[b1]? = some (.cells (ints m.flat).toArray 44 (0, 0)) ∧ True) mixed rfl (fun _ s => ⟨Frm.of s, s.block 2 (lb rfl) rfl, trivial⟩) ?_
                  refine TD.take (i := 0) rfl (by kernel_rfl) (by kernel_rfl) (by kernel_rfl) (fun _ _ _ _ h => h) (Want.plain rfl) rfl rfl (PV.move rfl rfl) ?_
                  refine TD.take (i := 1) rfl (by kernel_rfl) (by kernel_rfl) (by kernel_rfl) (fun _ _ _ _ h => h) (Want.plain rfl) rfl rfl (PV.fieldAddr (r := 0) rfl Try.underlying44 rfl sz3 rfl rfl) ?_
                  refine TD.take (i := 2) rfl (by kernel_rfl) (by kernel_rfl) (by kernel_rfl) (fun _ _ _ _ h => h) (Want.plain rfl) rfl rfl (PV.load1 (v := (.int .i64 (m.kind))) rfl Try.underlying3 rfl rfl (fun _ h => h.2.1) (MsgT.at_kind m rfl)) ?_
                  refine TD.take (i := 3) rfl (by kernel_rfl) (by kernel_rfl) (by kernel_rfl) (fun _ _ _ _ h => h) (Want.plain rfl) rfl rfl (PV.fieldAddr (r := 177) rfl Try.underlying44 rfl sz3 rfl rfl) ?_
                  refine TD.take (i := 4) rfl (by kernel_rfl) (by kernel_rfl) (by kernel_rfl) (fun _ _ _ _ h => h) (Want.plain rfl) rfl rfl (PV.load1 (v := (.int .i64 (m.epoch))) rfl Try.underlying3 rfl rfl (fun _ h => h.2.1) (MsgT.at_epoch m rfl)) ?_
                  refine TD.take (i := 7) rfl (by kernel_rfl) (by kernel_rfl) (by kernel_rfl) (fun _ _ _ _ h => h) (Want.plain rfl) rfl rfl (PV.fieldAddr (r := 178) rfl Try.underlying44 rfl sz40 rfl rfl) ?_
                  refine TD.take (i := 8) rfl (by kernel_rfl) (by kernel_rfl) (by kernel_rfl) (fun _ _ _ _ h => h) (Want.plain rfl) rfl rfl (PV.loadN (vs := ints m.ballot.flat) rfl Try.underlying40 rfl sz40 rfl (fun _ h => h.2.1) (BallotT.len m.ballot) (MsgT.sub_ballot m 0 rfl (by decide) (whole (BallotT.len m.ballot)))) ?_
                  refine TD.take (i := 10) rfl (by kernel_rfl) (by kernel_rfl) (by kernel_rfl) (fun _ _ _ _ h => h) (Want.plain rfl) rfl rfl (PV.fieldAddr (r := 182) rfl Try.underlying44 rfl sz42 rfl rfl) ?_
                  refine TD.take (i := 11) rfl (by kernel_rfl) (by kernel_rfl) (by kernel_rfl) (fun _ _ _ _ h => h) (Want.plain rfl) rfl rfl (PV.loadN (vs := ints m.change.flat) rfl Try.underlying42 rfl sz42 rfl (fun _ h => h.2.1) (ChangeT.len m.change) (MsgT.sub_change m 0 rfl (by decide) (whole (ChangeT.len m.change)))) ?_
                  refine TD.all [5] (by kernel_rfl) rfl ?_
                  refine AllT.cons rfl ?_ ?_
                  · skip
                    refine TL.buildSlice (cells := #[(.int .i64 (m.kind)), (.int .i64 (m.epoch))]) (Want.plain rfl) rfl rfl rfl Try.underlying79 in3 rfl rfl rfl (by as_aux_lemma => kernel_rfl) (fun b68 => ?_)
                    change TL _ _ _ _ _ _ _ _ _ [blkA b68 [(.int .i64 (m.kind)), (.int .i64 (m.epoch))] 3, ownB (.slice none 0 0) ([]) 5, blkA b4 [(.slice none 0 0)] 29, blkA b1 (ints m.flat) 44]
                    refine TL.nil ?_
                    refine TE.draw (fun _ s => ⟨Frm.of s, s.block 3 (lb rfl) rfl, trivial⟩) ?_
                    refine TD.all [6] (by kernel_rfl) rfl ?_
                    refine AllT.cons rfl ?_ ?_
                    · skip
                      refine TL.callR (A := [blkA b4 [(.slice none 0 0)] 29, ownB (.slice none 0 0) ([]) 5]) (B := [blkA b68 [(.int .i64 (m.kind)), (.int .i64 (m.epoch))] 3, blkA b1 (ints m.flat) 44]) (Want.plain rfl) rfl rfl rfl nm11 rfl (wnum_does b4 (.slice none 0 0) ([]) (.slice (some ⟨b68, 0, none⟩) (2) (2)) [m.kind, m.epoch] (by simp)) (fun _ s => sep_selR [2, 1] rfl s) (isN_piece 0 rfl rfl rfl rfl) (fun vR HR hR => ?_)
                      obtain ⟨u1, rfl, rfl⟩ := hR
                      change TL _ _ _ _ _ _ _ _ _ [blkA b4 [u1] 29, ownB u1 (encs [m.kind, m.epoch]) 5, blkA b68 [(.int .i64 (m.kind)), (.int .i64 (m.epoch))] 3, blkA b1 (ints m.flat) 44]
                      refine TL.nil ?_
                      refine TE.draw (fun _ s => ⟨Frm.of s, s.block 3 (lb rfl) rfl, trivial⟩) ?_
                      refine TD.all [9] (by kernel_rfl) rfl ?_
                      refine AllT.cons rfl ?_ ?_
                      · skip
                        refine TL.callR (A := [blkA b4 [u1] 29, ownB u1 (encs [m.kind, m.epoch]) 5]) (B := [blkA b68 [(.int .i64 (m.kind)), (.int .i64 (m.epoch))] 3, blkA b1 (ints m.flat) 44]) (Want.plain rfl) rfl rfl rfl nm37 rfl (wballot_does b4 u1 (encs [m.kind, m.epoch]) m.ballot (by (have := encs_len [m.kind, m.epoch]); simp only [BallotT.flat, ViewT.flat, ChangeT.flat, List.length_cons, List.length_nil, Vector.length_toList, List.length_append] at *; omega)) (fun _ s => s) (fun _ _ _ => trivial) (fun vR HR hR => ?_)
                        obtain ⟨u2, rfl, rfl⟩ := hR
                        change TL _ _ _ _ _ _ _ _ _ [blkA b4 [u2] 29, ownB u2 (encs [m.kind, m.epoch] ++ encs m.ballot.flat) 5, blkA b68 [(.int .i64 (m.kind)), (.int .i64 (m.epoch))] 3, blkA b1 (ints m.flat) 44]
                        refine TL.nil ?_
                        refine TE.draw (fun _ s => ⟨Frm.of s, s.block 3 (lb rfl) rfl, trivial⟩) ?_
                        refine TD.all [12] (by kernel_rfl) rfl ?_
                        refine AllT.cons rfl ?_ ?_
                        · skip
                          refine TL.callR (A := [blkA b4 [u2] 29, ownB u2 (encs [m.kind, m.epoch] ++ encs m.ballot.flat) 5]) (B := [blkA b68 [(.int .i64 (m.kind)), (.int .i64 (m.epoch))] 3, blkA b1 (ints m.flat) 44]) (Want.plain rfl) rfl rfl rfl nm38 rfl (wchange_does b4 u2 (encs [m.kind, m.epoch] ++ encs m.ballot.flat) m.change (by (have := encs_len [m.kind, m.epoch]); (have := encs_len (m.ballot.flat)); simp only [BallotT.flat, ViewT.flat, ChangeT.flat, List.length_cons, List.length_nil, Vector.length_toList, List.length_append] at *; omega)) (fun _ s => s) (fun _ _ _ => trivial) (fun vR HR hR => ?_)
                          obtain ⟨u3, rfl, rfl⟩ := hR
                          change TL _ _ _ _ _ _ _ _ _ [blkA b4 [u3] 29, ownB u3 (encs [m.kind, m.epoch] ++ encs m.ballot.flat ++ encs m.change.flat) 5, blkA b68 [(.int .i64 (m.kind)), (.int .i64 (m.epoch))] 3, blkA b1 (ints m.flat) 44]
                          refine TL.nil ?_
                          refine TE.draw (fun _ s => ⟨Frm.of s, s.block 3 (lb rfl) rfl, trivial⟩) ?_
                          refine TD.done (by kernel_rfl) ?_
                          refine TE.blockEnd ?_
                          refine TE.next hK3 ?_
                          clear hK3
                          refine TC.seq (fun K20 hK20 => ?_)
                          refine TC.region ?_
                          refine TL.v (Want.plain rfl) rfl rfl (PV.move rfl rfl) ?_
                          refine TL.callR (A := [blkA b4 [u3] 29, ownB u3 (encs [m.kind, m.epoch] ++ encs m.ballot.flat ++ encs m.change.flat) 5]) (B := [blkA b68 [(.int .i64 (m.kind)), (.int .i64 (m.epoch))] 3, blkA b1 (ints m.flat) 44]) (Want.plain rfl) rfl rfl rfl nm14 rfl (wbytes_does b4 u3 (encs [m.kind, m.epoch] ++ encs m.ballot.flat ++ encs m.change.flat) (by (have := encs_len [m.kind, m.epoch]); (have := encs_len (m.ballot.flat)); (have := encs_len (m.change.flat)); simp only [BallotT.flat, ViewT.flat, ChangeT.flat, List.length_cons, List.length_nil, Vector.length_toList, List.length_append] at *; omega)) (fun _ s => s) (fun _ _ _ => trivial) (fun vR HR hR => ?_)
                          obtain ⟨_, rfl, rfl⟩ := hR
                          revert vR
                          intro u4
                          change TL _ _ _ _ _ _ _ _ _ [blkA b4 [u3] 29, ownB u3 (encs [m.kind, m.epoch] ++ encs m.ballot.flat ++ encs m.change.flat) 5, ownB u4 (encs [m.kind, m.epoch] ++ encs m.ballot.flat ++ encs m.change.flat) 5, blkA b68 [(.int .i64 (m.kind)), (.int .i64 (m.epoch))] 3, blkA b1 (ints m.flat) 44]
                          refine TL.v (Want.plain rfl) rfl rfl (PV.assign rfl rfl) ?_
                          refine TL.nil ?_
                          refine TE.next hK20 ?_
                          clear hK20
                          refine TC.ret ?_
                          refine TE.weak (Sub.refl _) (fun _ s => sep_keep [2] rfl s) ?_
                          refine TE.ret1 rfl rfl ?_
                          exact ⟨_, rfl, congrArg (fun b => [ownB u4 b 5]) (show (encs [m.kind, m.epoch] ++ encs m.ballot.flat ++ encs m.change.flat) = encM m by simp [encM, kRow, kAsk, encs, *])⟩
                        exact AllT.nil
                      exact AllT.nil
                    exact AllT.nil
                  exact AllT.nil
                · skip
                  refine TL.v (Want.plain rfl) rfl rfl (PV.assign rfl rfl) ?_
                  refine TL.nil ?_
                  refine TE.next hK19 ?_
                  clear hK19
                  refine TC.no rfl ?_
                  refine TC.seq (fun K21 hK21 => ?_)
                  refine TC.region ?_
                  refine TL.v (Want.plain rfl) rfl rfl (PV.eql rfl rfl rfl) ?_
                  refine TL.dec (fun h77 => ?_) (fun h77 => ?_)
                  · skip
                    refine TL.v (Want.plain rfl) rfl rfl (PV.assign rfl rfl) ?_
                    refine TL.nil ?_
                    refine TE.next hK21 ?_
                    clear hK21
                    refine TC.yes rfl ?_
                    refine TC.draw (fun w => Frm F w ∧ w.heap[b1]? = some (.cells (ints m.flat).toArray 44 (0, 0)) ∧ True) mixed rfl (fun _ s => ⟨Frm.of s, s.block 2 (lb rfl) rfl, trivial⟩) ?_
                    refine TD.take (i := 0) rfl (by kernel_rfl) (by kernel_rfl) (by kernel_rfl) (fun _ _ _ _ h => h) (Want.plain rfl) rfl rfl (PV.move rfl rfl) ?_
                    refine TD.take (i := 1) rfl (by kernel_rfl) (by kernel_rfl) (by kernel_rfl) (fun _ _ _ _ h => h) (Want.plain rfl) rfl rfl (PV.fieldAddr (r := 0) rfl Try.underlying44 rfl sz3 rfl rfl) ?_
                    refine TD.take (i := 2) rfl (by kernel_rfl) (by kernel_rfl) (by kernel_rfl) (fun _ _ _ _ h => h) (Want.plain rfl) rfl rfl (PV.load1 (v := (.int .i64 (m.kind))) rfl Try.underlying3 rfl rfl (fun _ h => h.2.1) (MsgT.at_kind m rfl)) ?_
                    refine TD.take (i := 5) rfl (by kernel_rfl) (by kernel_rfl) (by kernel_rfl) (fun _ _ _ _ h => h) (Want.plain rfl) rfl rfl (PV.fieldAddr (r := 185) rfl Try.underlying44 rfl sz25 rfl rfl) ?_
                    refine TD.take (i := 6) rfl (by kernel_rfl) (by kernel_rfl) (by kernel_rfl) (fun _ _ _ _ h => h) (Want.plain rfl) rfl rfl (PV.loadN (vs := ints m.view.flat) rfl Try.underlying25 rfl sz25 rfl (fun _ h => h.2.1) (ViewT.len m.view) (MsgT.sub_view m 0 rfl (by decide) (whole (ViewT.len m.view)))) ?_
                    refine TD.all [3] (by kernel_rfl) rfl ?_
                    refine AllT.cons rfl ?_ ?_
                    · skip
                      refine TL.buildSlice (cells := #[(.int .i64 (m.kind))]) (Want.plain rfl) rfl rfl rfl Try.underlying79 in3 rfl rfl rfl (by as_aux_lemma => kernel_rfl) (fun b81 => ?_)
                      change TL _ _ _ _ _ _ _ _ _ [blkA b81 [(.int .i64 (m.kind))] 3, ownB (.slice none 0 0) ([]) 5, blkA b4 [(.slice none 0 0)] 29, blkA b1 (ints m.flat) 44]
                      refine TL.nil ?_
                      refine TE.draw (fun _ s => ⟨Frm.of s, s.block 3 (lb rfl) rfl, trivial⟩) ?_
                      refine TD.all [4] (by kernel_rfl) rfl ?_
                      refine AllT.cons rfl ?_ ?_
                      · skip
                        refine TL.callR (A := [blkA b4 [(.slice none 0 0)] 29, ownB (.slice none 0 0) ([]) 5]) (B := [blkA b81 [(.int .i64 (m.kind))] 3, blkA b1 (ints m.flat) 44]) (Want.plain rfl) rfl rfl rfl nm11 rfl (wnum_does b4 (.slice none 0 0) ([]) (.slice (some ⟨b81, 0, none⟩) (1) (1)) [m.kind] (by simp)) (fun _ s => sep_selR [2, 1] rfl s) (isN_piece 0 rfl rfl rfl rfl) (fun vR HR hR => ?_)
                        obtain ⟨u1, rfl, rfl⟩ := hR
                        change TL _ _ _ _ _ _ _ _ _ [blkA b4 [u1] 29, ownB u1 (encs [m.kind]) 5, blkA b81 [(.int .i64 (m.kind))] 3, blkA b1 (ints m.flat) 44]
                        refine TL.nil ?_
                        refine TE.draw (fun _ s => ⟨Frm.of s, s.block 3 (lb rfl) rfl, trivial⟩) ?_
                        refine TD.all [7] (by kernel_rfl) rfl ?_
                        refine AllT.cons rfl ?_ ?_
                        · skip
                          refine TL.callR (A := [blkA b4 [u1] 29, ownB u1 (encs [m.kind]) 5]) (B := [blkA b81 [(.int .i64 (m.kind))] 3, blkA b1 (ints m.flat) 44]) (Want.plain rfl) rfl rfl rfl nm12 rfl (wview_does b4 u1 (encs [m.kind]) m.view (by (have := encs_len [m.kind]); simp only [BallotT.flat, ViewT.flat, ChangeT.flat, List.length_cons, List.length_nil, Vector.length_toList, List.length_append] at *; omega)) (fun _ s => s) (fun _ _ _ => trivial) (fun vR HR hR => ?_)
                          obtain ⟨u2, rfl, rfl⟩ := hR
                          change TL _ _ _ _ _ _ _ _ _ [blkA b4 [u2] 29, ownB u2 (encs [m.kind] ++ encs m.view.flat) 5, blkA b81 [(.int .i64 (m.kind))] 3, blkA b1 (ints m.flat) 44]
                          refine TL.nil ?_
                          refine TE.draw (fun _ s => ⟨Frm.of s, s.block 3 (lb rfl) rfl, trivial⟩) ?_
                          refine TD.done (by kernel_rfl) ?_
                          refine TE.blockEnd ?_
                          refine TE.next hK3 ?_
                          clear hK3
                          refine TC.seq (fun K22 hK22 => ?_)
                          refine TC.region ?_
                          refine TL.v (Want.plain rfl) rfl rfl (PV.move rfl rfl) ?_
                          refine TL.callR (A := [blkA b4 [u2] 29, ownB u2 (encs [m.kind] ++ encs m.view.flat) 5]) (B := [blkA b81 [(.int .i64 (m.kind))] 3, blkA b1 (ints m.flat) 44]) (Want.plain rfl) rfl rfl rfl nm14 rfl (wbytes_does b4 u2 (encs [m.kind] ++ encs m.view.flat) (by (have := encs_len [m.kind]); (have := encs_len (m.view.flat)); simp only [BallotT.flat, ViewT.flat, ChangeT.flat, List.length_cons, List.length_nil, Vector.length_toList, List.length_append] at *; omega)) (fun _ s => s) (fun _ _ _ => trivial) (fun vR HR hR => ?_)
                          obtain ⟨_, rfl, rfl⟩ := hR
                          revert vR
                          intro u3
                          change TL _ _ _ _ _ _ _ _ _ [blkA b4 [u2] 29, ownB u2 (encs [m.kind] ++ encs m.view.flat) 5, ownB u3 (encs [m.kind] ++ encs m.view.flat) 5, blkA b81 [(.int .i64 (m.kind))] 3, blkA b1 (ints m.flat) 44]
                          refine TL.v (Want.plain rfl) rfl rfl (PV.assign rfl rfl) ?_
                          refine TL.nil ?_
                          refine TE.next hK22 ?_
                          clear hK22
                          refine TC.ret ?_
                          refine TE.weak (Sub.refl _) (fun _ s => sep_keep [2] rfl s) ?_
                          refine TE.ret1 rfl rfl ?_
                          exact ⟨_, rfl, congrArg (fun b => [ownB u3 b 5]) (show (encs [m.kind] ++ encs m.view.flat) = encM m by simp [encM, kRow, kAsk, encs, *])⟩
                        exact AllT.nil
                      exact AllT.nil
                    exact AllT.nil
                  · skip
                    refine TL.v (Want.plain rfl) rfl rfl (PV.assign rfl rfl) ?_
                    refine TL.nil ?_
                    refine TE.next hK21 ?_
                    clear hK21
                    refine TC.no rfl ?_
                    refine TC.seq (fun K23 hK23 => ?_)
                    refine TC.region ?_
                    refine TL.v (Want.plain rfl) rfl rfl (PV.eql rfl rfl rfl) ?_
                    refine TL.dec (fun h87 => ?_) (fun h87 => ?_)
                    · skip
                      refine TL.v (Want.plain rfl) rfl rfl (PV.assign rfl rfl) ?_
                      refine TL.nil ?_
                      refine TE.next hK23 ?_
                      clear hK23
                      refine TC.yes rfl ?_
                      refine TC.draw (fun w => Frm F w ∧ w.heap[b1]? = some (.cells (ints m.flat).toArray 44 (0, 0)) ∧ True) mixed rfl (fun _ s => ⟨Frm.of s, s.block 2 (lb rfl) rfl, trivial⟩) ?_
                      refine TD.take (i := 0) rfl (by kernel_rfl) (by kernel_rfl) (by kernel_rfl) (fun _ _ _ _ h => h) (Want.plain rfl) rfl rfl (PV.move rfl rfl) ?_
                      refine TD.take (i := 1) rfl (by kernel_rfl) (by kernel_rfl) (by kernel_rfl) (fun _ _ _ _ h => h) (Want.plain rfl) rfl rfl (PV.fieldAddr (r := 0) rfl Try.underlying44 rfl sz3 rfl rfl) ?_
                      refine TD.take (i := 2) rfl (by kernel_rfl) (by kernel_rfl) (by kernel_rfl) (fun _ _ _ _ h => h) (Want.plain rfl) rfl rfl (PV.load1 (v := (.int .i64 (m.kind))) rfl Try.underlying3 rfl rfl (fun _ h => h.2.1) (MsgT.at_kind m rfl)) ?_
                      refine TD.take (i := 3) rfl (by kernel_rfl) (by kernel_rfl) (by kernel_rfl) (fun _ _ _ _ h => h) (Want.plain rfl) rfl rfl (PV.fieldAddr (r := 1) rfl Try.underlying44 rfl sz3 rfl rfl) ?_
                      refine TD.take (i := 4) rfl (by kernel_rfl) (by kernel_rfl) (by kernel_rfl) (fun _ _ _ _ h => h) (Want.plain rfl) rfl rfl (PV.load1 (v := (.int .i64 (m.whose))) rfl Try.underlying3 rfl rfl (fun _ h => h.2.1) (MsgT.at_whose m rfl)) ?_
                      refine TD.take (i := 7) rfl (by kernel_rfl) (by kernel_rfl) (by kernel_rfl) (fun _ _ _ _ h => h) (Want.plain rfl) rfl rfl (PV.fieldAddr (r := 185) rfl Try.underlying44 rfl sz25 rfl rfl) ?_
                      refine TD.take (i := 8) rfl (by kernel_rfl) (by kernel_rfl) (by kernel_rfl) (fun _ _ _ _ h => h) (Want.plain rfl) rfl rfl (PV.loadN (vs := ints m.view.flat) rfl Try.underlying25 rfl sz25 rfl (fun _ h => h.2.1) (ViewT.len m.view) (MsgT.sub_view m 0 rfl (by decide) (whole (ViewT.len m.view)))) ?_
                      refine TD.all [5] (by kernel_rfl) rfl ?_
                      refine AllT.cons rfl ?_ ?_
                      · skip
                        refine TL.buildSlice (cells := #[(.int .i64 (m.kind)), (.int .i64 (m.whose))]) (Want.plain rfl) rfl rfl rfl Try.underlying79 in3 rfl rfl rfl (by as_aux_lemma => kernel_rfl) (fun b93 => ?_)
                        change TL _ _ _ _ _ _ _ _ _ [blkA b93 [(.int .i64 (m.kind)), (.int .i64 (m.whose))] 3, ownB (.slice none 0 0) ([]) 5, blkA b4 [(.slice none 0 0)] 29, blkA b1 (ints m.flat) 44]
                        refine TL.nil ?_
                        refine TE.draw (fun _ s => ⟨Frm.of s, s.block 3 (lb rfl) rfl, trivial⟩) ?_
                        refine TD.all [6] (by kernel_rfl) rfl ?_
                        refine AllT.cons rfl ?_ ?_
                        · skip
                          refine TL.callR (A := [blkA b4 [(.slice none 0 0)] 29, ownB (.slice none 0 0) ([]) 5]) (B := [blkA b93 [(.int .i64 (m.kind)), (.int .i64 (m.whose))] 3, blkA b1 (ints m.flat) 44]) (Want.plain rfl) rfl rfl rfl nm11 rfl (wnum_does b4 (.slice none 0 0) ([]) (.slice (some ⟨b93, 0, none⟩) (2) (2)) [m.kind, m.whose] (by simp)) (fun _ s => sep_selR [2, 1] rfl s) (isN_piece 0 rfl rfl rfl rfl) (fun vR HR hR => ?_)
                          obtain ⟨u1, rfl, rfl⟩ := hR
                          change TL _ _ _ _ _ _ _ _ _ [blkA b4 [u1] 29, ownB u1 (encs [m.kind, m.whose]) 5, blkA b93 [(.int .i64 (m.kind)), (.int .i64 (m.whose))] 3, blkA b1 (ints m.flat) 44]
                          refine TL.nil ?_
                          refine TE.draw (fun _ s => ⟨Frm.of s, s.block 3 (lb rfl) rfl, trivial⟩) ?_
                          refine TD.all [9] (by kernel_rfl) rfl ?_
                          refine AllT.cons rfl ?_ ?_
                          · skip
                            refine TL.callR (A := [blkA b4 [u1] 29, ownB u1 (encs [m.kind, m.whose]) 5]) (B := [blkA b93 [(.int .i64 (m.kind)), (.int .i64 (m.whose))] 3, blkA b1 (ints m.flat) 44]) (Want.plain rfl) rfl rfl rfl nm12 rfl (wview_does b4 u1 (encs [m.kind, m.whose]) m.view (by (have := encs_len [m.kind, m.whose]); simp only [BallotT.flat, ViewT.flat, ChangeT.flat, List.length_cons, List.length_nil, Vector.length_toList, List.length_append] at *; omega)) (fun _ s => s) (fun _ _ _ => trivial) (fun vR HR hR => ?_)
                            obtain ⟨u2, rfl, rfl⟩ := hR
                            change TL _ _ _ _ _ _ _ _ _ [blkA b4 [u2] 29, ownB u2 (encs [m.kind, m.whose] ++ encs m.view.flat) 5, blkA b93 [(.int .i64 (m.kind)), (.int .i64 (m.whose))] 3, blkA b1 (ints m.flat) 44]
                            refine TL.nil ?_
                            refine TE.draw (fun _ s => ⟨Frm.of s, s.block 3 (lb rfl) rfl, trivial⟩) ?_
                            refine TD.done (by kernel_rfl) ?_
                            refine TE.blockEnd ?_
                            refine TE.next hK3 ?_
                            clear hK3
                            refine TC.seq (fun K24 hK24 => ?_)
                            refine TC.region ?_
                            refine TL.v (Want.plain rfl) rfl rfl (PV.move rfl rfl) ?_
                            refine TL.callR (A := [blkA b4 [u2] 29, ownB u2 (encs [m.kind, m.whose] ++ encs m.view.flat) 5]) (B := [blkA b93 [(.int .i64 (m.kind)), (.int .i64 (m.whose))] 3, blkA b1 (ints m.flat) 44]) (Want.plain rfl) rfl rfl rfl nm14 rfl (wbytes_does b4 u2 (encs [m.kind, m.whose] ++ encs m.view.flat) (by (have := encs_len [m.kind, m.whose]); (have := encs_len (m.view.flat)); simp only [BallotT.flat, ViewT.flat, ChangeT.flat, List.length_cons, List.length_nil, Vector.length_toList, List.length_append] at *; omega)) (fun _ s => s) (fun _ _ _ => trivial) (fun vR HR hR => ?_)
                            obtain ⟨_, rfl, rfl⟩ := hR
                            revert vR
                            intro u3
                            change TL _ _ _ _ _ _ _ _ _ [blkA b4 [u2] 29, ownB u2 (encs [m.kind, m.whose] ++ encs m.view.flat) 5, ownB u3 (encs [m.kind, m.whose] ++ encs m.view.flat) 5, blkA b93 [(.int .i64 (m.kind)), (.int .i64 (m.whose))] 3, blkA b1 (ints m.flat) 44]
                            refine TL.v (Want.plain rfl) rfl rfl (PV.assign rfl rfl) ?_
                            refine TL.nil ?_
                            refine TE.next hK24 ?_
                            clear hK24
                            refine TC.ret ?_
                            refine TE.weak (Sub.refl _) (fun _ s => sep_keep [2] rfl s) ?_
                            refine TE.ret1 rfl rfl ?_
                            exact ⟨_, rfl, congrArg (fun b => [ownB u3 b 5]) (show (encs [m.kind, m.whose] ++ encs m.view.flat) = encM m by simp [encM, kRow, kAsk, encs, *])⟩
                          exact AllT.nil
                        exact AllT.nil
                      exact AllT.nil
                    · skip
                      refine TL.v (Want.plain rfl) rfl rfl (PV.assign rfl rfl) ?_
                      refine TL.nil ?_
                      refine TE.next hK23 ?_
                      clear hK23
                      refine TC.no rfl ?_
                      refine TC.skip ?_
                      refine TE.blockEnd ?_
                      refine TE.next hK3 ?_
                      clear hK3
                      refine TC.seq (fun K25 hK25 => ?_)
                      refine TC.region ?_
                      refine TL.v (Want.plain rfl) rfl rfl (PV.move rfl rfl) ?_
                      refine TL.callR (A := [blkA b4 [(.slice none 0 0)] 29, ownB (.slice none 0 0) ([]) 5]) (B := [blkA b1 (ints m.flat) 44]) (Want.plain rfl) rfl rfl rfl nm14 rfl (wbytes_does b4 (.slice none 0 0) ([]) (by simp)) (fun _ s => sep_selR [1, 0] rfl s) (fun _ _ _ => trivial) (fun vR HR hR => ?_)
                      obtain ⟨_, rfl, rfl⟩ := hR
                      revert vR
                      intro u1
                      change TL _ _ _ _ _ _ _ _ _ [blkA b4 [(.slice none 0 0)] 29, ownB (.slice none 0 0) ([]) 5, ownB u1 ([]) 5, blkA b1 (ints m.flat) 44]
                      refine TL.v (Want.plain rfl) rfl rfl (PV.assign rfl rfl) ?_
                      refine TL.nil ?_
                      refine TE.next hK25 ?_
                      clear hK25
                      refine TC.ret ?_
                      refine TE.weak (Sub.refl _) (fun _ s => sep_keep [2] rfl s) ?_
                      refine TE.ret1 rfl rfl ?_
                      exact ⟨_, rfl, congrArg (fun b => [ownB u1 b 5]) (show ([] : List UInt8) = encM m by simp [encM, kRow, kAsk, encs, *])⟩


theorem record_does (m : RecT) :
    Does Try.prog 22 #[(.agg (ints m.flat).toArray)] (fun _ => True) [] (Ret (fun r' H => ∃ u, r' = u ∧ H = [ownB u (encR m) 5])) := by
  refine Does.body (vs := [(.agg (ints m.flat).toArray)]) (n := 77) Try.func22 rfl rfl rfl (fun w0 F hF => ?_)
  refine TC.seq (fun K1 hK1 => ?_)
  refine TC.region ?_
  refine TL.box (Want.plain rfl) rfl rfl rfl rfl (fun b1 => ?_)
  change TL _ _ _ _ _ _ _ _ _ [blkA b1 (ints m.flat) 58]
  refine TL.v (Want.plain rfl) rfl rfl (PV.assign rfl rfl) ?_
  refine TL.nil ?_
  refine TE.next hK1 ?_
  clear hK1
  refine TC.seq (fun K2 hK2 => ?_)
  refine TC.region ?_
  refine TL.alloc (Want.plain rfl) rfl rfl rfl z29 (fun b4 => ?_)
  change TL _ _ _ _ _ _ _ _ _ [blkA b4 [(.slice none 0 0)] 29, blkA b1 (ints m.flat) 58]
  refine TL.ownNil 5 (fun on => ?_)
  clear on
  refine TL.v (Want.plain rfl) rfl rfl (PV.assign rfl rfl) ?_
  refine TL.nil ?_
  refine TE.next hK2 ?_
  clear hK2
  refine TC.seq (fun K3 hK3 => ?_)
  refine TC.seq (fun K4 hK4 => ?_)
  refine TC.region ?_
  refine TL.v (Want.plain rfl) rfl rfl (PV.fieldAddr (r := 0) rfl Try.underlying58 rfl sz3 rfl rfl) ?_
  refine TL.v (Want.plain rfl) rfl rfl (PV.load1 (v := (.int .i64 (m.kind))) rfl Try.underlying3 rfl rfl (Rd.own 2 rfl rfl) (RecT.at_kind m rfl)) ?_
  refine TL.nil ?_
  refine TE.next hK4 ?_
  clear hK4
  refine TC.block ?_
  refine TC.seq (fun K5 hK5 => ?_)
  refine TC.region ?_
  refine TL.v (Want.plain rfl) rfl rfl (PV.eql rfl rfl rfl) ?_
  refine TL.dec (fun h8 => ?_) (fun h8 => ?_)
  · skip
    refine TL.v (Want.plain rfl) rfl rfl (PV.assign rfl rfl) ?_
    refine TL.nil ?_
    refine TE.next hK5 ?_
    clear hK5
    refine TC.yes rfl ?_
    refine TC.draw (fun w => Frm F w ∧ w.heap[b1]? = some (.cells (ints m.flat).toArray 58 (0, 0)) ∧ True) mixed rfl (fun _ s => ⟨Frm.of s, s.block 2 (lb rfl) rfl, trivial⟩) ?_
    refine TD.take (i := 0) rfl (by kernel_rfl) (by kernel_rfl) (by kernel_rfl) (fun _ _ _ _ h => h) (Want.plain rfl) rfl rfl (PV.move rfl rfl) ?_
    refine TD.take (i := 1) rfl (by kernel_rfl) (by kernel_rfl) (by kernel_rfl) (fun _ _ _ _ h => h) (Want.plain rfl) rfl rfl (PV.fieldAddr (r := 0) rfl Try.underlying58 rfl sz3 rfl rfl) ?_
    refine TD.take (i := 2) rfl (by kernel_rfl) (by kernel_rfl) (by kernel_rfl) (fun _ _ _ _ h => h) (Want.plain rfl) rfl rfl (PV.load1 (v := (.int .i64 (m.kind))) rfl Try.underlying3 rfl rfl (fun _ h => h.2.1) (RecT.at_kind m rfl)) ?_
    refine TD.take (i := 5) rfl (by kernel_rfl) (by kernel_rfl) (by kernel_rfl) (fun _ _ _ _ h => h) (Want.plain rfl) rfl rfl (PV.fieldAddr (r := 2) rfl Try.underlying58 rfl sz38 rfl rfl) ?_
    refine TD.take (i := 6) rfl (by kernel_rfl) (by kernel_rfl) (by kernel_rfl) (fun _ _ _ _ h => h) (Want.plain rfl) rfl rfl (PV.loadN (vs := ints m.row.flat) rfl Try.underlying38 rfl sz38 rfl (fun _ h => h.2.1) (RowT.len m.row) (RecT.sub_row m 0 rfl (by decide) (whole (RowT.len m.row)))) ?_
    refine TD.all [3] (by kernel_rfl) rfl ?_
    refine AllT.cons rfl ?_ ?_
    · skip
      refine TL.buildSlice (cells := #[(.int .i64 (m.kind))]) (Want.plain rfl) rfl rfl rfl Try.underlying79 in3 rfl rfl rfl (by as_aux_lemma => kernel_rfl) (fun b12 => ?_)
      change TL _ _ _ _ _ _ _ _ _ [blkA b12 [(.int .i64 (m.kind))] 3, ownB (.slice none 0 0) ([]) 5, blkA b4 [(.slice none 0 0)] 29, blkA b1 (ints m.flat) 58]
      refine TL.nil ?_
      refine TE.draw (fun _ s => ⟨Frm.of s, s.block 3 (lb rfl) rfl, trivial⟩) ?_
      refine TD.all [4] (by kernel_rfl) rfl ?_
      refine AllT.cons rfl ?_ ?_
      · skip
        refine TL.callR (A := [blkA b4 [(.slice none 0 0)] 29, ownB (.slice none 0 0) ([]) 5]) (B := [blkA b12 [(.int .i64 (m.kind))] 3, blkA b1 (ints m.flat) 58]) (Want.plain rfl) rfl rfl rfl nm11 rfl (wnum_does b4 (.slice none 0 0) ([]) (.slice (some ⟨b12, 0, none⟩) (1) (1)) [m.kind] (by simp)) (fun _ s => sep_selR [2, 1] rfl s) (isN_piece 0 rfl rfl rfl rfl) (fun vR HR hR => ?_)
        obtain ⟨u1, rfl, rfl⟩ := hR
        change TL _ _ _ _ _ _ _ _ _ [blkA b4 [u1] 29, ownB u1 (encs [m.kind]) 5, blkA b12 [(.int .i64 (m.kind))] 3, blkA b1 (ints m.flat) 58]
        refine TL.nil ?_
        refine TE.draw (fun _ s => ⟨Frm.of s, s.block 3 (lb rfl) rfl, trivial⟩) ?_
        refine TD.all [7] (by kernel_rfl) rfl ?_
        refine AllT.cons rfl ?_ ?_
        · skip
          refine TL.callR (A := [blkA b4 [u1] 29, ownB u1 (encs [m.kind]) 5]) (B := [blkA b12 [(.int .i64 (m.kind))] 3, blkA b1 (ints m.flat) 58]) (Want.plain rfl) rfl rfl rfl nm15 rfl (wrow_does b4 u1 (encs [m.kind]) m.row (by (have := encs_len [m.kind]); simp only [BallotT.flat, ViewT.flat, ChangeT.flat, List.length_cons, List.length_nil, Vector.length_toList, List.length_append] at *; omega)) (fun _ s => s) (fun _ _ _ => trivial) (fun vR HR hR => ?_)
          obtain ⟨u2, rfl, rfl⟩ := hR
          change TL _ _ _ _ _ _ _ _ _ [blkA b4 [u2] 29, ownB u2 (encs [m.kind] ++ encRow m.row) 5, blkA b12 [(.int .i64 (m.kind))] 3, blkA b1 (ints m.flat) 58]
          refine TL.nil ?_
          refine TE.draw (fun _ s => ⟨Frm.of s, s.block 3 (lb rfl) rfl, trivial⟩) ?_
          refine TD.done (by kernel_rfl) ?_
          refine TE.blockEnd ?_
          refine TE.next hK3 ?_
          clear hK3
          refine TC.seq (fun K6 hK6 => ?_)
          refine TC.region ?_
          refine TL.v (Want.plain rfl) rfl rfl (PV.move rfl rfl) ?_
          refine TL.callR (A := [blkA b4 [u2] 29, ownB u2 (encs [m.kind] ++ encRow m.row) 5]) (B := [blkA b12 [(.int .i64 (m.kind))] 3, blkA b1 (ints m.flat) 58]) (Want.plain rfl) rfl rfl rfl nm14 rfl (wbytes_does b4 u2 (encs [m.kind] ++ encRow m.row) (by (have := encs_len [m.kind]); (have := encRow_len m.row); simp only [BallotT.flat, ViewT.flat, ChangeT.flat, List.length_cons, List.length_nil, Vector.length_toList, List.length_append] at *; omega)) (fun _ s => s) (fun _ _ _ => trivial) (fun vR HR hR => ?_)
          obtain ⟨_, rfl, rfl⟩ := hR
          revert vR
          intro u3
          change TL _ _ _ _ _ _ _ _ _ [blkA b4 [u2] 29, ownB u2 (encs [m.kind] ++ encRow m.row) 5, ownB u3 (encs [m.kind] ++ encRow m.row) 5, blkA b12 [(.int .i64 (m.kind))] 3, blkA b1 (ints m.flat) 58]
          refine TL.v (Want.plain rfl) rfl rfl (PV.assign rfl rfl) ?_
          refine TL.nil ?_
          refine TE.next hK6 ?_
          clear hK6
          refine TC.ret ?_
          refine TE.weak (Sub.refl _) (fun _ s => sep_keep [2] rfl s) ?_
          refine TE.ret1 rfl rfl ?_
          exact ⟨_, rfl, congrArg (fun b => [ownB u3 b 5]) (show (encs [m.kind] ++ encRow m.row) = encR m by simp [encR, kRow, kAsk, encs, *])⟩
        exact AllT.nil
      exact AllT.nil
    exact AllT.nil
  · skip
    refine TL.v (Want.plain rfl) rfl rfl (PV.assign rfl rfl) ?_
    refine TL.nil ?_
    refine TE.next hK5 ?_
    clear hK5
    refine TC.no rfl ?_
    refine TC.seq (fun K7 hK7 => ?_)
    refine TC.region ?_
    refine TL.v (Want.plain rfl) rfl rfl (PV.eql rfl rfl rfl) ?_
    refine TL.dec (fun h18 => ?_) (fun h18 => ?_)
    · skip
      refine TL.v (Want.plain rfl) rfl rfl (PV.assign rfl rfl) ?_
      refine TL.nil ?_
      refine TE.next hK7 ?_
      clear hK7
      refine TC.yes rfl ?_
      refine TC.draw (fun w => Frm F w ∧ w.heap[b1]? = some (.cells (ints m.flat).toArray 58 (0, 0)) ∧ True) mixed rfl (fun _ s => ⟨Frm.of s, s.block 2 (lb rfl) rfl, trivial⟩) ?_
      refine TD.take (i := 0) rfl (by kernel_rfl) (by kernel_rfl) (by kernel_rfl) (fun _ _ _ _ h => h) (Want.plain rfl) rfl rfl (PV.move rfl rfl) ?_
      refine TD.take (i := 1) rfl (by kernel_rfl) (by kernel_rfl) (by kernel_rfl) (fun _ _ _ _ h => h) (Want.plain rfl) rfl rfl (PV.fieldAddr (r := 0) rfl Try.underlying58 rfl sz3 rfl rfl) ?_
      refine TD.take (i := 2) rfl (by kernel_rfl) (by kernel_rfl) (by kernel_rfl) (fun _ _ _ _ h => h) (Want.plain rfl) rfl rfl (PV.load1 (v := (.int .i64 (m.kind))) rfl Try.underlying3 rfl rfl (fun _ h => h.2.1) (RecT.at_kind m rfl)) ?_
      refine TD.take (i := 3) rfl (by kernel_rfl) (by kernel_rfl) (by kernel_rfl) (fun _ _ _ _ h => h) (Want.plain rfl) rfl rfl (PV.fieldAddr (r := 1) rfl Try.underlying58 rfl sz3 rfl rfl) ?_
      refine TD.take (i := 4) rfl (by kernel_rfl) (by kernel_rfl) (by kernel_rfl) (fun _ _ _ _ h => h) (Want.plain rfl) rfl rfl (PV.load1 (v := (.int .i64 (m.whose))) rfl Try.underlying3 rfl rfl (fun _ h => h.2.1) (RecT.at_whose m rfl)) ?_
      refine TD.take (i := 7) rfl (by kernel_rfl) (by kernel_rfl) (by kernel_rfl) (fun _ _ _ _ h => h) (Want.plain rfl) rfl rfl (PV.fieldAddr (r := 2) rfl Try.underlying58 rfl sz38 rfl rfl) ?_
      refine TD.take (i := 8) rfl (by kernel_rfl) (by kernel_rfl) (by kernel_rfl) (fun _ _ _ _ h => h) (Want.plain rfl) rfl rfl (PV.loadN (vs := ints m.row.flat) rfl Try.underlying38 rfl sz38 rfl (fun _ h => h.2.1) (RowT.len m.row) (RecT.sub_row m 0 rfl (by decide) (whole (RowT.len m.row)))) ?_
      refine TD.all [5] (by kernel_rfl) rfl ?_
      refine AllT.cons rfl ?_ ?_
      · skip
        refine TL.buildSlice (cells := #[(.int .i64 (m.kind)), (.int .i64 (m.whose))]) (Want.plain rfl) rfl rfl rfl Try.underlying79 in3 rfl rfl rfl (by as_aux_lemma => kernel_rfl) (fun b24 => ?_)
        change TL _ _ _ _ _ _ _ _ _ [blkA b24 [(.int .i64 (m.kind)), (.int .i64 (m.whose))] 3, ownB (.slice none 0 0) ([]) 5, blkA b4 [(.slice none 0 0)] 29, blkA b1 (ints m.flat) 58]
        refine TL.nil ?_
        refine TE.draw (fun _ s => ⟨Frm.of s, s.block 3 (lb rfl) rfl, trivial⟩) ?_
        refine TD.all [6] (by kernel_rfl) rfl ?_
        refine AllT.cons rfl ?_ ?_
        · skip
          refine TL.callR (A := [blkA b4 [(.slice none 0 0)] 29, ownB (.slice none 0 0) ([]) 5]) (B := [blkA b24 [(.int .i64 (m.kind)), (.int .i64 (m.whose))] 3, blkA b1 (ints m.flat) 58]) (Want.plain rfl) rfl rfl rfl nm11 rfl (wnum_does b4 (.slice none 0 0) ([]) (.slice (some ⟨b24, 0, none⟩) (2) (2)) [m.kind, m.whose] (by simp)) (fun _ s => sep_selR [2, 1] rfl s) (isN_piece 0 rfl rfl rfl rfl) (fun vR HR hR => ?_)
          obtain ⟨u1, rfl, rfl⟩ := hR
          change TL _ _ _ _ _ _ _ _ _ [blkA b4 [u1] 29, ownB u1 (encs [m.kind, m.whose]) 5, blkA b24 [(.int .i64 (m.kind)), (.int .i64 (m.whose))] 3, blkA b1 (ints m.flat) 58]
          refine TL.nil ?_
          refine TE.draw (fun _ s => ⟨Frm.of s, s.block 3 (lb rfl) rfl, trivial⟩) ?_
          refine TD.all [9] (by kernel_rfl) rfl ?_
          refine AllT.cons rfl ?_ ?_
          · skip
            refine TL.callR (A := [blkA b4 [u1] 29, ownB u1 (encs [m.kind, m.whose]) 5]) (B := [blkA b24 [(.int .i64 (m.kind)), (.int .i64 (m.whose))] 3, blkA b1 (ints m.flat) 58]) (Want.plain rfl) rfl rfl rfl nm15 rfl (wrow_does b4 u1 (encs [m.kind, m.whose]) m.row (by (have := encs_len [m.kind, m.whose]); simp only [BallotT.flat, ViewT.flat, ChangeT.flat, List.length_cons, List.length_nil, Vector.length_toList, List.length_append] at *; omega)) (fun _ s => s) (fun _ _ _ => trivial) (fun vR HR hR => ?_)
            obtain ⟨u2, rfl, rfl⟩ := hR
            change TL _ _ _ _ _ _ _ _ _ [blkA b4 [u2] 29, ownB u2 (encs [m.kind, m.whose] ++ encRow m.row) 5, blkA b24 [(.int .i64 (m.kind)), (.int .i64 (m.whose))] 3, blkA b1 (ints m.flat) 58]
            refine TL.nil ?_
            refine TE.draw (fun _ s => ⟨Frm.of s, s.block 3 (lb rfl) rfl, trivial⟩) ?_
            refine TD.done (by kernel_rfl) ?_
            refine TE.blockEnd ?_
            refine TE.next hK3 ?_
            clear hK3
            refine TC.seq (fun K8 hK8 => ?_)
            refine TC.region ?_
            refine TL.v (Want.plain rfl) rfl rfl (PV.move rfl rfl) ?_
            refine TL.callR (A := [blkA b4 [u2] 29, ownB u2 (encs [m.kind, m.whose] ++ encRow m.row) 5]) (B := [blkA b24 [(.int .i64 (m.kind)), (.int .i64 (m.whose))] 3, blkA b1 (ints m.flat) 58]) (Want.plain rfl) rfl rfl rfl nm14 rfl (wbytes_does b4 u2 (encs [m.kind, m.whose] ++ encRow m.row) (by (have := encs_len [m.kind, m.whose]); (have := encRow_len m.row); simp only [BallotT.flat, ViewT.flat, ChangeT.flat, List.length_cons, List.length_nil, Vector.length_toList, List.length_append] at *; omega)) (fun _ s => s) (fun _ _ _ => trivial) (fun vR HR hR => ?_)
            obtain ⟨_, rfl, rfl⟩ := hR
            revert vR
            intro u3
            change TL _ _ _ _ _ _ _ _ _ [blkA b4 [u2] 29, ownB u2 (encs [m.kind, m.whose] ++ encRow m.row) 5, ownB u3 (encs [m.kind, m.whose] ++ encRow m.row) 5, blkA b24 [(.int .i64 (m.kind)), (.int .i64 (m.whose))] 3, blkA b1 (ints m.flat) 58]
            refine TL.v (Want.plain rfl) rfl rfl (PV.assign rfl rfl) ?_
            refine TL.nil ?_
            refine TE.next hK8 ?_
            clear hK8
            refine TC.ret ?_
            refine TE.weak (Sub.refl _) (fun _ s => sep_keep [2] rfl s) ?_
            refine TE.ret1 rfl rfl ?_
            exact ⟨_, rfl, congrArg (fun b => [ownB u3 b 5]) (show (encs [m.kind, m.whose] ++ encRow m.row) = encR m by simp [encR, kRow, kAsk, encs, *])⟩
          exact AllT.nil
        exact AllT.nil
      exact AllT.nil
    · skip
      refine TL.v (Want.plain rfl) rfl rfl (PV.assign rfl rfl) ?_
      refine TL.nil ?_
      refine TE.next hK7 ?_
      clear hK7
      refine TC.no rfl ?_
      refine TC.seq (fun K9 hK9 => ?_)
      refine TC.region ?_
      refine TL.v (Want.plain rfl) rfl rfl (PV.eql rfl rfl rfl) ?_
      refine TL.dec (fun h30 => ?_) (fun h30 => ?_)
      · skip
        refine TL.v (Want.plain rfl) rfl rfl (PV.assign rfl rfl) ?_
        refine TL.nil ?_
        refine TE.next hK9 ?_
        clear hK9
        refine TC.yes rfl ?_
        refine TC.region ?_
        refine TL.v (Want.plain rfl) rfl rfl (PV.move rfl rfl) ?_
        refine TL.v (Want.plain rfl) rfl rfl (PV.fieldAddr (r := 0) rfl Try.underlying58 rfl sz3 rfl rfl) ?_
        refine TL.v (Want.plain rfl) rfl rfl (PV.load1 (v := (.int .i64 (m.kind))) rfl Try.underlying3 rfl rfl (Rd.own 2 rfl rfl) (RecT.at_kind m rfl)) ?_
        refine TL.v (Want.plain rfl) rfl rfl (PV.fieldAddr (r := 1) rfl Try.underlying58 rfl sz3 rfl rfl) ?_
        refine TL.v (Want.plain rfl) rfl rfl (PV.load1 (v := (.int .i64 (m.whose))) rfl Try.underlying3 rfl rfl (Rd.own 2 rfl rfl) (RecT.at_whose m rfl)) ?_
        refine TL.buildSlice (cells := #[(.int .i64 (m.kind)), (.int .i64 (m.whose))]) (Want.plain rfl) rfl rfl rfl Try.underlying79 in3 rfl rfl rfl (by as_aux_lemma => kernel_rfl) (fun b36 => ?_)
        change TL _ _ _ _ _ _ _ _ _ [blkA b36 [(.int .i64 (m.kind)), (.int .i64 (m.whose))] 3, ownB (.slice none 0 0) ([]) 5, blkA b4 [(.slice none 0 0)] 29, blkA b1 (ints m.flat) 58]
        refine TL.callR (A := [blkA b4 [(.slice none 0 0)] 29, ownB (.slice none 0 0) ([]) 5]) (B := [blkA b36 [(.int .i64 (m.kind)), (.int .i64 (m.whose))] 3, blkA b1 (ints m.flat) 58]) (Want.plain rfl) rfl rfl rfl nm11 rfl (wnum_does b4 (.slice none 0 0) ([]) (.slice (some ⟨b36, 0, none⟩) (2) (2)) [m.kind, m.whose] (by simp)) (fun _ s => sep_selR [2, 1] rfl s) (isN_piece 0 rfl rfl rfl rfl) (fun vR HR hR => ?_)
        obtain ⟨u1, rfl, rfl⟩ := hR
        change TL _ _ _ _ _ _ _ _ _ [blkA b4 [u1] 29, ownB u1 (encs [m.kind, m.whose]) 5, blkA b36 [(.int .i64 (m.kind)), (.int .i64 (m.whose))] 3, blkA b1 (ints m.flat) 58]
        refine TL.nil ?_
        refine TE.blockEnd ?_
        refine TE.next hK3 ?_
        clear hK3
        refine TC.seq (fun K10 hK10 => ?_)
        refine TC.region ?_
        refine TL.v (Want.plain rfl) rfl rfl (PV.move rfl rfl) ?_
        refine TL.callR (A := [blkA b4 [u1] 29, ownB u1 (encs [m.kind, m.whose]) 5]) (B := [blkA b36 [(.int .i64 (m.kind)), (.int .i64 (m.whose))] 3, blkA b1 (ints m.flat) 58]) (Want.plain rfl) rfl rfl rfl nm14 rfl (wbytes_does b4 u1 (encs [m.kind, m.whose]) (by (have := encs_len [m.kind, m.whose]); simp only [BallotT.flat, ViewT.flat, ChangeT.flat, List.length_cons, List.length_nil, Vector.length_toList, List.length_append] at *; omega)) (fun _ s => s) (fun _ _ _ => trivial) (fun vR HR hR => ?_)
        obtain ⟨_, rfl, rfl⟩ := hR
        revert vR
        intro u2
        change TL _ _ _ _ _ _ _ _ _ [blkA b4 [u1] 29, ownB u1 (encs [m.kind, m.whose]) 5, ownB u2 (encs [m.kind, m.whose]) 5, blkA b36 [(.int .i64 (m.kind)), (.int .i64 (m.whose))] 3, blkA b1 (ints m.flat) 58]
        refine TL.v (Want.plain rfl) rfl rfl (PV.assign rfl rfl) ?_
        refine TL.nil ?_
        refine TE.next hK10 ?_
        clear hK10
        refine TC.ret ?_
        refine TE.weak (Sub.refl _) (fun _ s => sep_keep [2] rfl s) ?_
        refine TE.ret1 rfl rfl ?_
        exact ⟨_, rfl, congrArg (fun b => [ownB u2 b 5]) (show (encs [m.kind, m.whose]) = encR m by simp [encR, kRow, kAsk, encs, *])⟩
      · skip
        refine TL.v (Want.plain rfl) rfl rfl (PV.assign rfl rfl) ?_
        refine TL.nil ?_
        refine TE.next hK9 ?_
        clear hK9
        refine TC.no rfl ?_
        refine TC.seq (fun K11 hK11 => ?_)
        refine TC.region ?_
        refine TL.v (Want.plain rfl) rfl rfl (PV.eql rfl rfl rfl) ?_
        refine TL.dec (fun h39 => ?_) (fun h39 => ?_)
        · skip
          refine TL.v (Want.plain rfl) rfl rfl (PV.assign rfl rfl) ?_
          refine TL.nil ?_
          refine TE.next hK11 ?_
          clear hK11
          refine TC.yes rfl ?_
          refine TC.draw (fun w => Frm F w ∧ w.heap[b1]? = some (.cells (ints m.flat).toArray 58 (0, 0)) ∧ True) mixed rfl (fun _ s => ⟨Frm.of s, s.block 2 (lb rfl) rfl, trivial⟩) ?_
          refine TD.take (i := 0) rfl (by kernel_rfl) (by kernel_rfl) (by kernel_rfl) (fun _ _ _ _ h => h) (Want.plain rfl) rfl rfl (PV.move rfl rfl) ?_
          refine TD.take (i := 1) rfl (by kernel_rfl) (by kernel_rfl) (by kernel_rfl) (fun _ _ _ _ h => h) (Want.plain rfl) rfl rfl (PV.fieldAddr (r := 0) rfl Try.underlying58 rfl sz3 rfl rfl) ?_
          refine TD.take (i := 2) rfl (by kernel_rfl) (by kernel_rfl) (by kernel_rfl) (fun _ _ _ _ h => h) (Want.plain rfl) rfl rfl (PV.load1 (v := (.int .i64 (m.kind))) rfl Try.underlying3 rfl rfl (fun _ h => h.2.1) (RecT.at_kind m rfl)) ?_
          refine TD.take (i := 3) rfl (by kernel_rfl) (by kernel_rfl) (by kernel_rfl) (fun _ _ _ _ h => h) (Want.plain rfl) rfl rfl (PV.fieldAddr (r := 176) rfl Try.underlying58 rfl sz3 rfl rfl) ?_
          refine TD.take (i := 4) rfl (by kernel_rfl) (by kernel_rfl) (by kernel_rfl) (fun _ _ _ _ h => h) (Want.plain rfl) rfl rfl (PV.load1 (v := (.int .i64 (m.epoch))) rfl Try.underlying3 rfl rfl (fun _ h => h.2.1) (RecT.at_epoch m rfl)) ?_
          refine TD.take (i := 7) rfl (by kernel_rfl) (by kernel_rfl) (by kernel_rfl) (fun _ _ _ _ h => h) (Want.plain rfl) rfl rfl (PV.fieldAddr (r := 177) rfl Try.underlying58 rfl sz40 rfl rfl) ?_
          refine TD.take (i := 8) rfl (by kernel_rfl) (by kernel_rfl) (by kernel_rfl) (fun _ _ _ _ h => h) (Want.plain rfl) rfl rfl (PV.loadN (vs := ints m.ballot.flat) rfl Try.underlying40 rfl sz40 rfl (fun _ h => h.2.1) (BallotT.len m.ballot) (RecT.sub_ballot m 0 rfl (by decide) (whole (BallotT.len m.ballot)))) ?_
          refine TD.all [5] (by kernel_rfl) rfl ?_
          refine AllT.cons rfl ?_ ?_
          · skip
            refine TL.buildSlice (cells := #[(.int .i64 (m.kind)), (.int .i64 (m.epoch))]) (Want.plain rfl) rfl rfl rfl Try.underlying79 in3 rfl rfl rfl (by as_aux_lemma => kernel_rfl) (fun b45 => ?_)
            change TL _ _ _ _ _ _ _ _ _ [blkA b45 [(.int .i64 (m.kind)), (.int .i64 (m.epoch))] 3, ownB (.slice none 0 0) ([]) 5, blkA b4 [(.slice none 0 0)] 29, blkA b1 (ints m.flat) 58]
            refine TL.nil ?_
            refine TE.draw (fun _ s => ⟨Frm.of s, s.block 3 (lb rfl) rfl, trivial⟩) ?_
            refine TD.all [6] (by kernel_rfl) rfl ?_
            refine AllT.cons rfl ?_ ?_
            · skip
              refine TL.callR (A := [blkA b4 [(.slice none 0 0)] 29, ownB (.slice none 0 0) ([]) 5]) (B := [blkA b45 [(.int .i64 (m.kind)), (.int .i64 (m.epoch))] 3, blkA b1 (ints m.flat) 58]) (Want.plain rfl) rfl rfl rfl nm11 rfl (wnum_does b4 (.slice none 0 0) ([]) (.slice (some ⟨b45, 0, none⟩) (2) (2)) [m.kind, m.epoch] (by simp)) (fun _ s => sep_selR [2, 1] rfl s) (isN_piece 0 rfl rfl rfl rfl) (fun vR HR hR => ?_)
              obtain ⟨u1, rfl, rfl⟩ := hR
              change TL _ _ _ _ _ _ _ _ _ [blkA b4 [u1] 29, ownB u1 (encs [m.kind, m.epoch]) 5, blkA b45 [(.int .i64 (m.kind)), (.int .i64 (m.epoch))] 3, blkA b1 (ints m.flat) 58]
              refine TL.nil ?_
              refine TE.draw (fun _ s => ⟨Frm.of s, s.block 3 (lb rfl) rfl, trivial⟩) ?_
              refine TD.all [9] (by kernel_rfl) rfl ?_
              refine AllT.cons rfl ?_ ?_
              · skip
                refine TL.callR (A := [blkA b4 [u1] 29, ownB u1 (encs [m.kind, m.epoch]) 5]) (B := [blkA b45 [(.int .i64 (m.kind)), (.int .i64 (m.epoch))] 3, blkA b1 (ints m.flat) 58]) (Want.plain rfl) rfl rfl rfl nm37 rfl (wballot_does b4 u1 (encs [m.kind, m.epoch]) m.ballot (by (have := encs_len [m.kind, m.epoch]); simp only [BallotT.flat, ViewT.flat, ChangeT.flat, List.length_cons, List.length_nil, Vector.length_toList, List.length_append] at *; omega)) (fun _ s => s) (fun _ _ _ => trivial) (fun vR HR hR => ?_)
                obtain ⟨u2, rfl, rfl⟩ := hR
                change TL _ _ _ _ _ _ _ _ _ [blkA b4 [u2] 29, ownB u2 (encs [m.kind, m.epoch] ++ encs m.ballot.flat) 5, blkA b45 [(.int .i64 (m.kind)), (.int .i64 (m.epoch))] 3, blkA b1 (ints m.flat) 58]
                refine TL.nil ?_
                refine TE.draw (fun _ s => ⟨Frm.of s, s.block 3 (lb rfl) rfl, trivial⟩) ?_
                refine TD.done (by kernel_rfl) ?_
                refine TE.blockEnd ?_
                refine TE.next hK3 ?_
                clear hK3
                refine TC.seq (fun K12 hK12 => ?_)
                refine TC.region ?_
                refine TL.v (Want.plain rfl) rfl rfl (PV.move rfl rfl) ?_
                refine TL.callR (A := [blkA b4 [u2] 29, ownB u2 (encs [m.kind, m.epoch] ++ encs m.ballot.flat) 5]) (B := [blkA b45 [(.int .i64 (m.kind)), (.int .i64 (m.epoch))] 3, blkA b1 (ints m.flat) 58]) (Want.plain rfl) rfl rfl rfl nm14 rfl (wbytes_does b4 u2 (encs [m.kind, m.epoch] ++ encs m.ballot.flat) (by (have := encs_len [m.kind, m.epoch]); (have := encs_len (m.ballot.flat)); simp only [BallotT.flat, ViewT.flat, ChangeT.flat, List.length_cons, List.length_nil, Vector.length_toList, List.length_append] at *; omega)) (fun _ s => s) (fun _ _ _ => trivial) (fun vR HR hR => ?_)
                obtain ⟨_, rfl, rfl⟩ := hR
                revert vR
                intro u3
                change TL _ _ _ _ _ _ _ _ _ [blkA b4 [u2] 29, ownB u2 (encs [m.kind, m.epoch] ++ encs m.ballot.flat) 5, ownB u3 (encs [m.kind, m.epoch] ++ encs m.ballot.flat) 5, blkA b45 [(.int .i64 (m.kind)), (.int .i64 (m.epoch))] 3, blkA b1 (ints m.flat) 58]
                refine TL.v (Want.plain rfl) rfl rfl (PV.assign rfl rfl) ?_
                refine TL.nil ?_
                refine TE.next hK12 ?_
                clear hK12
                refine TC.ret ?_
                refine TE.weak (Sub.refl _) (fun _ s => sep_keep [2] rfl s) ?_
                refine TE.ret1 rfl rfl ?_
                exact ⟨_, rfl, congrArg (fun b => [ownB u3 b 5]) (show (encs [m.kind, m.epoch] ++ encs m.ballot.flat) = encR m by simp [encR, kRow, kAsk, encs, *])⟩
              exact AllT.nil
            exact AllT.nil
          exact AllT.nil
        · skip
          refine TL.v (Want.plain rfl) rfl rfl (PV.assign rfl rfl) ?_
          refine TL.nil ?_
          refine TE.next hK11 ?_
          clear hK11
          refine TC.no rfl ?_
          refine TC.seq (fun K13 hK13 => ?_)
          refine TC.region ?_
          refine TL.v (Want.plain rfl) rfl rfl (PV.eql rfl rfl rfl) ?_
          refine TL.dec (fun h51 => ?_) (fun h51 => ?_)
          · skip
            refine TL.v (Want.plain rfl) rfl rfl (PV.assign rfl rfl) ?_
            refine TL.nil ?_
            refine TE.next hK13 ?_
            clear hK13
            refine TC.yes rfl ?_
            refine TC.draw (fun w => Frm F w ∧ w.heap[b1]? = some (.cells (ints m.flat).toArray 58 (0, 0)) ∧ True) mixed rfl (fun _ s => ⟨Frm.of s, s.block 2 (lb rfl) rfl, trivial⟩) ?_
            refine TD.take (i := 0) rfl (by kernel_rfl) (by kernel_rfl) (by kernel_rfl) (fun _ _ _ _ h => h) (Want.plain rfl) rfl rfl (PV.move rfl rfl) ?_
            refine TD.take (i := 1) rfl (by kernel_rfl) (by kernel_rfl) (by kernel_rfl) (fun _ _ _ _ h => h) (Want.plain rfl) rfl rfl (PV.fieldAddr (r := 0) rfl Try.underlying58 rfl sz3 rfl rfl) ?_
            refine TD.take (i := 2) rfl (by kernel_rfl) (by kernel_rfl) (by kernel_rfl) (fun _ _ _ _ h => h) (Want.plain rfl) rfl rfl (PV.load1 (v := (.int .i64 (m.kind))) rfl Try.underlying3 rfl rfl (fun _ h => h.2.1) (RecT.at_kind m rfl)) ?_
            refine TD.take (i := 3) rfl (by kernel_rfl) (by kernel_rfl) (by kernel_rfl) (fun _ _ _ _ h => h) (Want.plain rfl) rfl rfl (PV.fieldAddr (r := 176) rfl Try.underlying58 rfl sz3 rfl rfl) ?_
            refine TD.take (i := 4) rfl (by kernel_rfl) (by kernel_rfl) (by kernel_rfl) (fun _ _ _ _ h => h) (Want.plain rfl) rfl rfl (PV.load1 (v := (.int .i64 (m.epoch))) rfl Try.underlying3 rfl rfl (fun _ h => h.2.1) (RecT.at_epoch m rfl)) ?_
            refine TD.take (i := 7) rfl (by kernel_rfl) (by kernel_rfl) (by kernel_rfl) (fun _ _ _ _ h => h) (Want.plain rfl) rfl rfl (PV.fieldAddr (r := 177) rfl Try.underlying58 rfl sz40 rfl rfl) ?_
            refine TD.take (i := 8) rfl (by kernel_rfl) (by kernel_rfl) (by kernel_rfl) (fun _ _ _ _ h => h) (Want.plain rfl) rfl rfl (PV.loadN (vs := ints m.ballot.flat) rfl Try.underlying40 rfl sz40 rfl (fun _ h => h.2.1) (BallotT.len m.ballot) (RecT.sub_ballot m 0 rfl (by decide) (whole (BallotT.len m.ballot)))) ?_
            refine TD.take (i := 10) rfl (by kernel_rfl) (by kernel_rfl) (by kernel_rfl) (fun _ _ _ _ h => h) (Want.plain rfl) rfl rfl (PV.fieldAddr (r := 179) rfl Try.underlying58 rfl sz42 rfl rfl) ?_
            refine TD.take (i := 11) rfl (by kernel_rfl) (by kernel_rfl) (by kernel_rfl) (fun _ _ _ _ h => h) (Want.plain rfl) rfl rfl (PV.loadN (vs := ints m.change.flat) rfl Try.underlying42 rfl sz42 rfl (fun _ h => h.2.1) (ChangeT.len m.change) (RecT.sub_change m 0 rfl (by decide) (whole (ChangeT.len m.change)))) ?_
            refine TD.all [5] (by kernel_rfl) rfl ?_
            refine AllT.cons rfl ?_ ?_
            · skip
              refine TL.buildSlice (cells := #[(.int .i64 (m.kind)), (.int .i64 (m.epoch))]) (Want.plain rfl) rfl rfl rfl Try.underlying79 in3 rfl rfl rfl (by as_aux_lemma => kernel_rfl) (fun b57 => ?_)
              change TL _ _ _ _ _ _ _ _ _ [blkA b57 [(.int .i64 (m.kind)), (.int .i64 (m.epoch))] 3, ownB (.slice none 0 0) ([]) 5, blkA b4 [(.slice none 0 0)] 29, blkA b1 (ints m.flat) 58]
              refine TL.nil ?_
              refine TE.draw (fun _ s => ⟨Frm.of s, s.block 3 (lb rfl) rfl, trivial⟩) ?_
              refine TD.all [6] (by kernel_rfl) rfl ?_
              refine AllT.cons rfl ?_ ?_
              · skip
                refine TL.callR (A := [blkA b4 [(.slice none 0 0)] 29, ownB (.slice none 0 0) ([]) 5]) (B := [blkA b57 [(.int .i64 (m.kind)), (.int .i64 (m.epoch))] 3, blkA b1 (ints m.flat) 58]) (Want.plain rfl) rfl rfl rfl nm11 rfl (wnum_does b4 (.slice none 0 0) ([]) (.slice (some ⟨b57, 0, none⟩) (2) (2)) [m.kind, m.epoch] (by simp)) (fun _ s => sep_selR [2, 1] rfl s) (isN_piece 0 rfl rfl rfl rfl) (fun vR HR hR => ?_)
                obtain ⟨u1, rfl, rfl⟩ := hR
                change TL _ _ _ _ _ _ _ _ _ [blkA b4 [u1] 29, ownB u1 (encs [m.kind, m.epoch]) 5, blkA b57 [(.int .i64 (m.kind)), (.int .i64 (m.epoch))] 3, blkA b1 (ints m.flat) 58]
                refine TL.nil ?_
                refine TE.draw (fun _ s => ⟨Frm.of s, s.block 3 (lb rfl) rfl, trivial⟩) ?_
                refine TD.all [9] (by kernel_rfl) rfl ?_
                refine AllT.cons rfl ?_ ?_
                · skip
                  refine TL.callR (A := [blkA b4 [u1] 29, ownB u1 (encs [m.kind, m.epoch]) 5]) (B := [blkA b57 [(.int .i64 (m.kind)), (.int .i64 (m.epoch))] 3, blkA b1 (ints m.flat) 58]) (Want.plain rfl) rfl rfl rfl nm37 rfl (wballot_does b4 u1 (encs [m.kind, m.epoch]) m.ballot (by (have := encs_len [m.kind, m.epoch]); simp only [BallotT.flat, ViewT.flat, ChangeT.flat, List.length_cons, List.length_nil, Vector.length_toList, List.length_append] at *; omega)) (fun _ s => s) (fun _ _ _ => trivial) (fun vR HR hR => ?_)
                  obtain ⟨u2, rfl, rfl⟩ := hR
                  change TL _ _ _ _ _ _ _ _ _ [blkA b4 [u2] 29, ownB u2 (encs [m.kind, m.epoch] ++ encs m.ballot.flat) 5, blkA b57 [(.int .i64 (m.kind)), (.int .i64 (m.epoch))] 3, blkA b1 (ints m.flat) 58]
                  refine TL.nil ?_
                  refine TE.draw (fun _ s => ⟨Frm.of s, s.block 3 (lb rfl) rfl, trivial⟩) ?_
                  refine TD.all [12] (by kernel_rfl) rfl ?_
                  refine AllT.cons rfl ?_ ?_
                  · skip
                    refine TL.callR (A := [blkA b4 [u2] 29, ownB u2 (encs [m.kind, m.epoch] ++ encs m.ballot.flat) 5]) (B := [blkA b57 [(.int .i64 (m.kind)), (.int .i64 (m.epoch))] 3, blkA b1 (ints m.flat) 58]) (Want.plain rfl) rfl rfl rfl nm38 rfl (wchange_does b4 u2 (encs [m.kind, m.epoch] ++ encs m.ballot.flat) m.change (by (have := encs_len [m.kind, m.epoch]); (have := encs_len (m.ballot.flat)); simp only [BallotT.flat, ViewT.flat, ChangeT.flat, List.length_cons, List.length_nil, Vector.length_toList, List.length_append] at *; omega)) (fun _ s => s) (fun _ _ _ => trivial) (fun vR HR hR => ?_)
                    obtain ⟨u3, rfl, rfl⟩ := hR
                    change TL _ _ _ _ _ _ _ _ _ [blkA b4 [u3] 29, ownB u3 (encs [m.kind, m.epoch] ++ encs m.ballot.flat ++ encs m.change.flat) 5, blkA b57 [(.int .i64 (m.kind)), (.int .i64 (m.epoch))] 3, blkA b1 (ints m.flat) 58]
                    refine TL.nil ?_
                    refine TE.draw (fun _ s => ⟨Frm.of s, s.block 3 (lb rfl) rfl, trivial⟩) ?_
                    refine TD.done (by kernel_rfl) ?_
                    refine TE.blockEnd ?_
                    refine TE.next hK3 ?_
                    clear hK3
                    refine TC.seq (fun K14 hK14 => ?_)
                    refine TC.region ?_
                    refine TL.v (Want.plain rfl) rfl rfl (PV.move rfl rfl) ?_
                    refine TL.callR (A := [blkA b4 [u3] 29, ownB u3 (encs [m.kind, m.epoch] ++ encs m.ballot.flat ++ encs m.change.flat) 5]) (B := [blkA b57 [(.int .i64 (m.kind)), (.int .i64 (m.epoch))] 3, blkA b1 (ints m.flat) 58]) (Want.plain rfl) rfl rfl rfl nm14 rfl (wbytes_does b4 u3 (encs [m.kind, m.epoch] ++ encs m.ballot.flat ++ encs m.change.flat) (by (have := encs_len [m.kind, m.epoch]); (have := encs_len (m.ballot.flat)); (have := encs_len (m.change.flat)); simp only [BallotT.flat, ViewT.flat, ChangeT.flat, List.length_cons, List.length_nil, Vector.length_toList, List.length_append] at *; omega)) (fun _ s => s) (fun _ _ _ => trivial) (fun vR HR hR => ?_)
                    obtain ⟨_, rfl, rfl⟩ := hR
                    revert vR
                    intro u4
                    change TL _ _ _ _ _ _ _ _ _ [blkA b4 [u3] 29, ownB u3 (encs [m.kind, m.epoch] ++ encs m.ballot.flat ++ encs m.change.flat) 5, ownB u4 (encs [m.kind, m.epoch] ++ encs m.ballot.flat ++ encs m.change.flat) 5, blkA b57 [(.int .i64 (m.kind)), (.int .i64 (m.epoch))] 3, blkA b1 (ints m.flat) 58]
                    refine TL.v (Want.plain rfl) rfl rfl (PV.assign rfl rfl) ?_
                    refine TL.nil ?_
                    refine TE.next hK14 ?_
                    clear hK14
                    refine TC.ret ?_
                    refine TE.weak (Sub.refl _) (fun _ s => sep_keep [2] rfl s) ?_
                    refine TE.ret1 rfl rfl ?_
                    exact ⟨_, rfl, congrArg (fun b => [ownB u4 b 5]) (show (encs [m.kind, m.epoch] ++ encs m.ballot.flat ++ encs m.change.flat) = encR m by simp [encR, kRow, kAsk, encs, *])⟩
                  exact AllT.nil
                exact AllT.nil
              exact AllT.nil
            exact AllT.nil
          · skip
            refine TL.v (Want.plain rfl) rfl rfl (PV.assign rfl rfl) ?_
            refine TL.nil ?_
            refine TE.next hK13 ?_
            clear hK13
            refine TC.no rfl ?_
            refine TC.seq (fun K15 hK15 => ?_)
            refine TC.region ?_
            refine TL.v (Want.plain rfl) rfl rfl (PV.eql rfl rfl rfl) ?_
            refine TL.dec (fun h66 => ?_) (fun h66 => ?_)
            · skip
              refine TL.v (Want.plain rfl) rfl rfl (PV.assign rfl rfl) ?_
              refine TL.nil ?_
              refine TE.next hK15 ?_
              clear hK15
              refine TC.yes rfl ?_
              refine TC.draw (fun w => Frm F w ∧ w.heap[b1]? = some (.cells (ints m.flat).toArray 58 (0, 0)) ∧ True) mixed rfl (fun _ s => ⟨Frm.of s, s.block 2 (lb rfl) rfl, trivial⟩) ?_
              refine TD.take (i := 0) rfl (by kernel_rfl) (by kernel_rfl) (by kernel_rfl) (fun _ _ _ _ h => h) (Want.plain rfl) rfl rfl (PV.move rfl rfl) ?_
              refine TD.take (i := 1) rfl (by kernel_rfl) (by kernel_rfl) (by kernel_rfl) (fun _ _ _ _ h => h) (Want.plain rfl) rfl rfl (PV.fieldAddr (r := 0) rfl Try.underlying58 rfl sz3 rfl rfl) ?_
              refine TD.take (i := 2) rfl (by kernel_rfl) (by kernel_rfl) (by kernel_rfl) (fun _ _ _ _ h => h) (Want.plain rfl) rfl rfl (PV.load1 (v := (.int .i64 (m.kind))) rfl Try.underlying3 rfl rfl (fun _ h => h.2.1) (RecT.at_kind m rfl)) ?_
              refine TD.take (i := 5) rfl (by kernel_rfl) (by kernel_rfl) (by kernel_rfl) (fun _ _ _ _ h => h) (Want.plain rfl) rfl rfl (PV.fieldAddr (r := 182) rfl Try.underlying58 rfl sz25 rfl rfl) ?_
              refine TD.take (i := 6) rfl (by kernel_rfl) (by kernel_rfl) (by kernel_rfl) (fun _ _ _ _ h => h) (Want.plain rfl) rfl rfl (PV.loadN (vs := ints m.view.flat) rfl Try.underlying25 rfl sz25 rfl (fun _ h => h.2.1) (ViewT.len m.view) (RecT.sub_view m 0 rfl (by decide) (whole (ViewT.len m.view)))) ?_
              refine TD.all [3] (by kernel_rfl) rfl ?_
              refine AllT.cons rfl ?_ ?_
              · skip
                refine TL.buildSlice (cells := #[(.int .i64 (m.kind))]) (Want.plain rfl) rfl rfl rfl Try.underlying79 in3 rfl rfl rfl (by as_aux_lemma => kernel_rfl) (fun b70 => ?_)
                change TL _ _ _ _ _ _ _ _ _ [blkA b70 [(.int .i64 (m.kind))] 3, ownB (.slice none 0 0) ([]) 5, blkA b4 [(.slice none 0 0)] 29, blkA b1 (ints m.flat) 58]
                refine TL.nil ?_
                refine TE.draw (fun _ s => ⟨Frm.of s, s.block 3 (lb rfl) rfl, trivial⟩) ?_
                refine TD.all [4] (by kernel_rfl) rfl ?_
                refine AllT.cons rfl ?_ ?_
                · skip
                  refine TL.callR (A := [blkA b4 [(.slice none 0 0)] 29, ownB (.slice none 0 0) ([]) 5]) (B := [blkA b70 [(.int .i64 (m.kind))] 3, blkA b1 (ints m.flat) 58]) (Want.plain rfl) rfl rfl rfl nm11 rfl (wnum_does b4 (.slice none 0 0) ([]) (.slice (some ⟨b70, 0, none⟩) (1) (1)) [m.kind] (by simp)) (fun _ s => sep_selR [2, 1] rfl s) (isN_piece 0 rfl rfl rfl rfl) (fun vR HR hR => ?_)
                  obtain ⟨u1, rfl, rfl⟩ := hR
                  change TL _ _ _ _ _ _ _ _ _ [blkA b4 [u1] 29, ownB u1 (encs [m.kind]) 5, blkA b70 [(.int .i64 (m.kind))] 3, blkA b1 (ints m.flat) 58]
                  refine TL.nil ?_
                  refine TE.draw (fun _ s => ⟨Frm.of s, s.block 3 (lb rfl) rfl, trivial⟩) ?_
                  refine TD.all [7] (by kernel_rfl) rfl ?_
                  refine AllT.cons rfl ?_ ?_
                  · skip
                    refine TL.callR (A := [blkA b4 [u1] 29, ownB u1 (encs [m.kind]) 5]) (B := [blkA b70 [(.int .i64 (m.kind))] 3, blkA b1 (ints m.flat) 58]) (Want.plain rfl) rfl rfl rfl nm12 rfl (wview_does b4 u1 (encs [m.kind]) m.view (by (have := encs_len [m.kind]); simp only [BallotT.flat, ViewT.flat, ChangeT.flat, List.length_cons, List.length_nil, Vector.length_toList, List.length_append] at *; omega)) (fun _ s => s) (fun _ _ _ => trivial) (fun vR HR hR => ?_)
                    obtain ⟨u2, rfl, rfl⟩ := hR
                    change TL _ _ _ _ _ _ _ _ _ [blkA b4 [u2] 29, ownB u2 (encs [m.kind] ++ encs m.view.flat) 5, blkA b70 [(.int .i64 (m.kind))] 3, blkA b1 (ints m.flat) 58]
                    refine TL.nil ?_
                    refine TE.draw (fun _ s => ⟨Frm.of s, s.block 3 (lb rfl) rfl, trivial⟩) ?_
                    refine TD.done (by kernel_rfl) ?_
                    refine TE.blockEnd ?_
                    refine TE.next hK3 ?_
                    clear hK3
                    refine TC.seq (fun K16 hK16 => ?_)
                    refine TC.region ?_
                    refine TL.v (Want.plain rfl) rfl rfl (PV.move rfl rfl) ?_
                    refine TL.callR (A := [blkA b4 [u2] 29, ownB u2 (encs [m.kind] ++ encs m.view.flat) 5]) (B := [blkA b70 [(.int .i64 (m.kind))] 3, blkA b1 (ints m.flat) 58]) (Want.plain rfl) rfl rfl rfl nm14 rfl (wbytes_does b4 u2 (encs [m.kind] ++ encs m.view.flat) (by (have := encs_len [m.kind]); (have := encs_len (m.view.flat)); simp only [BallotT.flat, ViewT.flat, ChangeT.flat, List.length_cons, List.length_nil, Vector.length_toList, List.length_append] at *; omega)) (fun _ s => s) (fun _ _ _ => trivial) (fun vR HR hR => ?_)
                    obtain ⟨_, rfl, rfl⟩ := hR
                    revert vR
                    intro u3
                    change TL _ _ _ _ _ _ _ _ _ [blkA b4 [u2] 29, ownB u2 (encs [m.kind] ++ encs m.view.flat) 5, ownB u3 (encs [m.kind] ++ encs m.view.flat) 5, blkA b70 [(.int .i64 (m.kind))] 3, blkA b1 (ints m.flat) 58]
                    refine TL.v (Want.plain rfl) rfl rfl (PV.assign rfl rfl) ?_
                    refine TL.nil ?_
                    refine TE.next hK16 ?_
                    clear hK16
                    refine TC.ret ?_
                    refine TE.weak (Sub.refl _) (fun _ s => sep_keep [2] rfl s) ?_
                    refine TE.ret1 rfl rfl ?_
                    exact ⟨_, rfl, congrArg (fun b => [ownB u3 b 5]) (show (encs [m.kind] ++ encs m.view.flat) = encR m by simp [encR, kRow, kAsk, encs, *])⟩
                  exact AllT.nil
                exact AllT.nil
              exact AllT.nil
            · skip
              refine TL.v (Want.plain rfl) rfl rfl (PV.assign rfl rfl) ?_
              refine TL.nil ?_
              refine TE.next hK15 ?_
              clear hK15
              refine TC.no rfl ?_
              refine TC.skip ?_
              refine TE.blockEnd ?_
              refine TE.next hK3 ?_
              clear hK3
              refine TC.seq (fun K17 hK17 => ?_)
              refine TC.region ?_
              refine TL.v (Want.plain rfl) rfl rfl (PV.move rfl rfl) ?_
              refine TL.callR (A := [blkA b4 [(.slice none 0 0)] 29, ownB (.slice none 0 0) ([]) 5]) (B := [blkA b1 (ints m.flat) 58]) (Want.plain rfl) rfl rfl rfl nm14 rfl (wbytes_does b4 (.slice none 0 0) ([]) (by simp)) (fun _ s => sep_selR [1, 0] rfl s) (fun _ _ _ => trivial) (fun vR HR hR => ?_)
              obtain ⟨_, rfl, rfl⟩ := hR
              revert vR
              intro u1
              change TL _ _ _ _ _ _ _ _ _ [blkA b4 [(.slice none 0 0)] 29, ownB (.slice none 0 0) ([]) 5, ownB u1 ([]) 5, blkA b1 (ints m.flat) 58]
              refine TL.v (Want.plain rfl) rfl rfl (PV.assign rfl rfl) ?_
              refine TL.nil ?_
              refine TE.next hK17 ?_
              clear hK17
              refine TC.ret ?_
              refine TE.weak (Sub.refl _) (fun _ s => sep_keep [2] rfl s) ?_
              refine TE.ret1 rfl rfl ?_
              exact ⟨_, rfl, congrArg (fun b => [ownB u1 b 5]) (show ([] : List UInt8) = encR m by simp [encR, kRow, kAsk, encs, *])⟩


end Go.Proofs.Ytdekgkmbcdlekaa
