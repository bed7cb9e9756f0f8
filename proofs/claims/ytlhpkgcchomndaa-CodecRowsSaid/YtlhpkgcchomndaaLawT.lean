/-
  The rows that bytes tell: what 'tame' reckons.
-/

import Derived.Test.YtlhpkgcchomndaaCodecU
import Derived.Test.YtlhpkgcchomndaaCodecC

namespace Go.Proofs.Ytlhpkgcchomndaa

open Go Leg Codec Api

set_option maxRecDepth 100000

theorem tame1_cells (cb off T : Nat) (a b g0 g1 g2 g3 g4 : Int) (P R : List Value) (hP : P.length = off) :
    Does Try.prog 31 #[(.pointer (some ⟨cb, off, none⟩))] (fun _ => True) [blkA cb (P ++ (Value.int .i64 a :: Value.int .i64 b :: Value.int .i64 g0 :: Value.int .i64 g1 :: Value.int .i64 g2 :: Value.int .i64 g3 :: Value.int .i64 g4 :: R)) T] (Ret (fun _ H => H = [blkA cb (P ++ (Value.int .i64 (m40 a) :: Value.int .i64 (m40 b) :: Value.int .i64 (m40 g0) :: Value.int .i64 (m40 g1) :: Value.int .i64 (m40 g2) :: Value.int .i64 (m40 g3) :: Value.int .i64 (m40 g4) :: R)) T])) := by
  refine Does.body (vs := [(.pointer (some ⟨cb, off, none⟩))]) (n := 33) Try.func31 rfl rfl rfl (fun w0 F hF => ?_)
  refine TC.seq (fun K1 hK1 => ?_)
  refine TC.draw (fun w => Frm F w ∧ True) mixed rfl (fun _ s => ⟨Frm.of s, trivial⟩) ?_
  refine TD.take (i := 0) rfl (by kernel_rfl) (by kernel_rfl) (by kernel_rfl) (fun _ _ _ _ h => h) (Want.plain rfl) rfl rfl (PV.move rfl rfl) ?_
  refine TD.take (i := 1) rfl (by kernel_rfl) (by kernel_rfl) (by kernel_rfl) (fun _ _ _ _ h => h) (Want.plain rfl) rfl rfl (PV.move rfl rfl) ?_
  refine TD.take (i := 2) rfl (by kernel_rfl) (by kernel_rfl) (by kernel_rfl) (fun _ _ _ _ h => h) (Want.plain rfl) rfl rfl (PV.move rfl rfl) ?_
  refine TD.take (i := 3) rfl (by kernel_rfl) (by kernel_rfl) (by kernel_rfl) (fun _ _ _ _ h => h) (Want.plain rfl) rfl rfl (PV.nilCheck rfl rfl) ?_
  refine TD.take (i := 4) rfl (by kernel_rfl) (by kernel_rfl) (by kernel_rfl) (fun _ _ _ _ h => h) (Want.plain rfl) rfl rfl (PV.fieldAddr (r := off) rfl Try.underlying24 rfl sz3 rfl rfl) ?_
  refine TD.take (i := 7) rfl (by kernel_rfl) (by kernel_rfl) (by kernel_rfl) (fun _ _ _ _ h => h) (Want.plain rfl) rfl rfl (PV.move rfl rfl) ?_
  refine TD.take (i := 8) rfl (by kernel_rfl) (by kernel_rfl) (by kernel_rfl) (fun _ _ _ _ h => h) (Want.plain rfl) rfl rfl (PV.nilCheck rfl rfl) ?_
  refine TD.take (i := 9) rfl (by kernel_rfl) (by kernel_rfl) (by kernel_rfl) (fun _ _ _ _ h => h) (Want.plain rfl) rfl rfl (PV.fieldAddr (r := off + 1) rfl Try.underlying24 rfl sz3 rfl rfl) ?_
  refine TD.all [5, 10] (by kernel_rfl) rfl ?_
  refine AllT.cons rfl ?_ ?_
  · skip
    refine TL.v (Want.plain rfl) rfl rfl (PV.load1 (v := (.int .i64 (a))) rfl Try.underlying3 rfl rfl (Rd.own 0 rfl rfl) (app_get (j := 0) hP rfl)) ?_
    refine TL.nil ?_
    refine TE.draw (fun _ s => ⟨Frm.of s, trivial⟩) ?_
    refine TD.take (i := 6) rfl (by kernel_rfl) (by kernel_rfl) (by kernel_rfl) (fun _ _ _ _ h => h) (Want.plain rfl) rfl rfl (PV.and (r := m40 a) rfl rfl rfl (and40 _)) ?_
    refine TD.all [10] (by kernel_rfl) rfl ?_
    refine AllT.cons rfl ?_ ?_
    · skip
      refine TL.v (Want.plain rfl) rfl rfl (PV.load1 (v := (.int .i64 (b))) rfl Try.underlying3 rfl rfl (Rd.own 0 rfl rfl) (app_get (j := 1) hP rfl)) ?_
      refine TL.nil ?_
      refine TE.draw (fun _ s => ⟨Frm.of s, trivial⟩) ?_
      refine TD.take (i := 11) rfl (by kernel_rfl) (by kernel_rfl) (by kernel_rfl) (fun _ _ _ _ h => h) (Want.plain rfl) rfl rfl (PV.and (r := m40 b) rfl rfl rfl (and40 _)) ?_
      refine TD.take (i := 12) rfl (by kernel_rfl) (by kernel_rfl) (by kernel_rfl) (fun _ _ _ _ h => h) (Want.plain rfl) rfl rfl (PV.nilCheck rfl rfl) ?_
      refine TD.take (i := 13) rfl (by kernel_rfl) (by kernel_rfl) (by kernel_rfl) (fun _ _ _ _ h => h) (Want.plain rfl) rfl rfl (PV.fieldAddr (r := off) rfl Try.underlying24 rfl sz3 rfl rfl) ?_
      refine TD.all [14] (by kernel_rfl) rfl ?_
      refine AllT.cons rfl ?_ ?_
      · skip
        refine TL.store1 (i := 0) (j := off + 0) (H' := [blkA cb (P ++ (Value.int .i64 (m40 a) :: Value.int .i64 b :: Value.int .i64 g0 :: Value.int .i64 g1 :: Value.int .i64 g2 :: Value.int .i64 g3 :: Value.int .i64 g4 :: R)) T]) (Want.plain rfl) rfl rfl rfl rfl rfl sz3 rfl rfl (app_lt hP rfl) (app_set (j := 0) hP rfl) rfl ?_
        refine TL.nil ?_
        refine TE.draw (fun _ s => ⟨Frm.of s, trivial⟩) ?_
        refine TD.take (i := 15) rfl (by kernel_rfl) (by kernel_rfl) (by kernel_rfl) (fun _ _ _ _ h => h) (Want.plain rfl) rfl rfl (PV.nilCheck rfl rfl) ?_
        refine TD.take (i := 16) rfl (by kernel_rfl) (by kernel_rfl) (by kernel_rfl) (fun _ _ _ _ h => h) (Want.plain rfl) rfl rfl (PV.fieldAddr (r := off + 1) rfl Try.underlying24 rfl sz3 rfl rfl) ?_
        refine TD.all [17] (by kernel_rfl) rfl ?_
        refine AllT.cons rfl ?_ ?_
        · skip
          refine TL.store1 (i := 0) (j := off + 1) (H' := [blkA cb (P ++ (Value.int .i64 (m40 a) :: Value.int .i64 (m40 b) :: Value.int .i64 g0 :: Value.int .i64 g1 :: Value.int .i64 g2 :: Value.int .i64 g3 :: Value.int .i64 g4 :: R)) T]) (Want.plain rfl) rfl rfl rfl rfl rfl sz3 rfl rfl (app_lt hP rfl) (app_set (j := 1) hP rfl) rfl ?_
          refine TL.nil ?_
          refine TE.draw (fun _ s => ⟨Frm.of s, trivial⟩) ?_
          refine TD.done (by kernel_rfl) ?_
          refine TE.next hK1 ?_
          clear hK1
          refine TC.seq (fun K2 hK2 => ?_)
          refine TC.region ?_
          refine TL.v (Want.plain rfl) rfl rfl (PV.move rfl rfl) ?_
          refine TL.nil ?_
          refine TE.next hK2 ?_
          clear hK2
          refine TC.block ?_
          refine TC.unroll 5 ?_
          refine TC.seq (fun K3 hK3 => ?_)
          refine TC.region ?_
          refine TL.v (Want.plain rfl) rfl rfl (PV.lss rfl rfl rfl) ?_
          refine TL.nil ?_
          refine TE.next hK3 ?_
          clear hK3
          refine TC.seq (fun K4 hK4 => ?_)
          refine TC.yes rfl ?_
          refine TC.skip ?_
          refine TE.next hK4 ?_
          clear hK4
          refine TC.seq (fun K5 hK5 => ?_)
          refine TC.block ?_
          refine TC.seq (fun K6 hK6 => ?_)
          refine TC.region ?_
          refine TL.v (Want.plain rfl) rfl rfl (PV.move rfl rfl) ?_
          refine TL.v (Want.plain rfl) rfl rfl (PV.assign rfl rfl) ?_
          refine TL.nil ?_
          refine TE.next hK6 ?_
          clear hK6
          refine TC.draw (fun w => Frm F w ∧ True) mixed rfl (fun _ s => ⟨Frm.of s, trivial⟩) ?_
          refine TD.take (i := 0) rfl (by kernel_rfl) (by kernel_rfl) (by kernel_rfl) (fun _ _ _ _ h => h) (Want.plain rfl) rfl rfl (PV.move rfl rfl) ?_
          refine TD.take (i := 1) rfl (by kernel_rfl) (by kernel_rfl) (by kernel_rfl) (fun _ _ _ _ h => h) (Want.plain rfl) rfl rfl (PV.move rfl rfl) ?_
          refine TD.take (i := 2) rfl (by kernel_rfl) (by kernel_rfl) (by kernel_rfl) (fun _ _ _ _ h => h) (Want.plain rfl) rfl rfl (PV.nilCheck rfl rfl) ?_
          refine TD.take (i := 3) rfl (by kernel_rfl) (by kernel_rfl) (by kernel_rfl) (fun _ _ _ _ h => h) (Want.plain rfl) rfl rfl (PV.fieldAddr (r := off + 2) rfl Try.underlying24 rfl sz22 rfl rfl) ?_
          refine TD.take (i := 4) rfl (by kernel_rfl) (by kernel_rfl) (by kernel_rfl) (fun _ _ _ _ h => h) (Want.plain rfl) rfl rfl (PV.indexArr (r := off + 2) rfl Try.underlying22 sz3 rfl rfl (lz rfl) (lz rfl) rfl) ?_
          refine TD.take (i := 7) rfl (by kernel_rfl) (by kernel_rfl) (by kernel_rfl) (fun _ _ _ _ h => h) (Want.plain rfl) rfl rfl (PV.nilCheck rfl rfl) ?_
          refine TD.take (i := 8) rfl (by kernel_rfl) (by kernel_rfl) (by kernel_rfl) (fun _ _ _ _ h => h) (Want.plain rfl) rfl rfl (PV.fieldAddr (r := off + 2) rfl Try.underlying24 rfl sz22 rfl rfl) ?_
          refine TD.all [5] (by kernel_rfl) rfl ?_
          refine AllT.cons rfl ?_ ?_
          · skip
            refine TL.v (Want.plain rfl) rfl rfl (PV.load1 (v := (.int .i64 (g0))) rfl Try.underlying3 rfl rfl (Rd.own 0 rfl rfl) (app_get (j := 2) hP rfl)) ?_
            refine TL.nil ?_
            refine TE.draw (fun _ s => ⟨Frm.of s, trivial⟩) ?_
            refine TD.take (i := 6) rfl (by kernel_rfl) (by kernel_rfl) (by kernel_rfl) (fun _ _ _ _ h => h) (Want.plain rfl) rfl rfl (PV.and (r := m40 g0) rfl rfl rfl (and40 _)) ?_
            refine TD.take (i := 9) rfl (by kernel_rfl) (by kernel_rfl) (by kernel_rfl) (fun _ _ _ _ h => h) (Want.plain rfl) rfl rfl (PV.indexArr (r := off + 2) rfl Try.underlying22 sz3 rfl rfl (lz rfl) (lz rfl) rfl) ?_
            refine TD.all [10] (by kernel_rfl) rfl ?_
            refine AllT.cons rfl ?_ ?_
            · skip
              refine TL.store1 (i := 0) (j := off + 2) (H' := [blkA cb (P ++ (Value.int .i64 (m40 a) :: Value.int .i64 (m40 b) :: Value.int .i64 (m40 g0) :: Value.int .i64 g1 :: Value.int .i64 g2 :: Value.int .i64 g3 :: Value.int .i64 g4 :: R)) T]) (Want.plain rfl) rfl rfl rfl rfl rfl sz3 rfl rfl (app_lt hP rfl) (app_set (j := 2) hP rfl) rfl ?_
              refine TL.nil ?_
              refine TE.draw (fun _ s => ⟨Frm.of s, trivial⟩) ?_
              refine TD.done (by kernel_rfl) ?_
              refine TE.blockEnd ?_
              refine TE.next hK5 ?_
              clear hK5
              refine TC.region ?_
              refine TL.v (Want.plain rfl) rfl rfl (PV.add (r := 1) rfl rfl rfl (by decide)) ?_
              refine TL.v (Want.plain rfl) rfl rfl (PV.move rfl rfl) ?_
              refine TL.nil ?_
              refine TE.again ?_
              refine TC.seq (fun K7 hK7 => ?_)
              refine TC.region ?_
              refine TL.v (Want.plain rfl) rfl rfl (PV.lss rfl rfl rfl) ?_
              refine TL.nil ?_
              refine TE.next hK7 ?_
              clear hK7
              refine TC.seq (fun K8 hK8 => ?_)
              refine TC.yes rfl ?_
              refine TC.skip ?_
              refine TE.next hK8 ?_
              clear hK8
              refine TC.seq (fun K9 hK9 => ?_)
              refine TC.block ?_
              refine TC.seq (fun K10 hK10 => ?_)
              refine TC.region ?_
              refine TL.v (Want.plain rfl) rfl rfl (PV.move rfl rfl) ?_
              refine TL.v (Want.plain rfl) rfl rfl (PV.assign rfl rfl) ?_
              refine TL.nil ?_
              refine TE.next hK10 ?_
              clear hK10
              refine TC.draw (fun w => Frm F w ∧ True) mixed rfl (fun _ s => ⟨Frm.of s, trivial⟩) ?_
              refine TD.take (i := 0) rfl (by kernel_rfl) (by kernel_rfl) (by kernel_rfl) (fun _ _ _ _ h => h) (Want.plain rfl) rfl rfl (PV.move rfl rfl) ?_
              refine TD.take (i := 1) rfl (by kernel_rfl) (by kernel_rfl) (by kernel_rfl) (fun _ _ _ _ h => h) (Want.plain rfl) rfl rfl (PV.move rfl rfl) ?_
              refine TD.take (i := 2) rfl (by kernel_rfl) (by kernel_rfl) (by kernel_rfl) (fun _ _ _ _ h => h) (Want.plain rfl) rfl rfl (PV.nilCheck rfl rfl) ?_
              refine TD.take (i := 3) rfl (by kernel_rfl) (by kernel_rfl) (by kernel_rfl) (fun _ _ _ _ h => h) (Want.plain rfl) rfl rfl (PV.fieldAddr (r := off + 2) rfl Try.underlying24 rfl sz22 rfl rfl) ?_
              refine TD.take (i := 4) rfl (by kernel_rfl) (by kernel_rfl) (by kernel_rfl) (fun _ _ _ _ h => h) (Want.plain rfl) rfl rfl (PV.indexArr (r := off + 3) rfl Try.underlying22 sz3 rfl rfl (lz rfl) (lz rfl) rfl) ?_
              refine TD.take (i := 7) rfl (by kernel_rfl) (by kernel_rfl) (by kernel_rfl) (fun _ _ _ _ h => h) (Want.plain rfl) rfl rfl (PV.nilCheck rfl rfl) ?_
              refine TD.take (i := 8) rfl (by kernel_rfl) (by kernel_rfl) (by kernel_rfl) (fun _ _ _ _ h => h) (Want.plain rfl) rfl rfl (PV.fieldAddr (r := off + 2) rfl Try.underlying24 rfl sz22 rfl rfl) ?_
              refine TD.all [5] (by kernel_rfl) rfl ?_
              refine AllT.cons rfl ?_ ?_
              · skip
                refine TL.v (Want.plain rfl) rfl rfl (PV.load1 (v := (.int .i64 (g1))) rfl Try.underlying3 rfl rfl (Rd.own 0 rfl rfl) (app_get (j := 3) hP rfl)) ?_
                refine TL.nil ?_
                refine TE.draw (fun _ s => ⟨Frm.of s, trivial⟩) ?_
                refine TD.take (i := 6) rfl (by kernel_rfl) (by kernel_rfl) (by kernel_rfl) (fun _ _ _ _ h => h) (Want.plain rfl) rfl rfl (PV.and (r := m40 g1) rfl rfl rfl (and40 _)) ?_
                refine TD.take (i := 9) rfl (by kernel_rfl) (by kernel_rfl) (by kernel_rfl) (fun _ _ _ _ h => h) (Want.plain rfl) rfl rfl (PV.indexArr (r := off + 3) rfl Try.underlying22 sz3 rfl rfl (lz rfl) (lz rfl) rfl) ?_
                refine TD.all [10] (by kernel_rfl) rfl ?_
                refine AllT.cons rfl ?_ ?_
                · skip
                  refine TL.store1 (i := 0) (j := off + 3) (H' := [blkA cb (P ++ (Value.int .i64 (m40 a) :: Value.int .i64 (m40 b) :: Value.int .i64 (m40 g0) :: Value.int .i64 (m40 g1) :: Value.int .i64 g2 :: Value.int .i64 g3 :: Value.int .i64 g4 :: R)) T]) (Want.plain rfl) rfl rfl rfl rfl rfl sz3 rfl rfl (app_lt hP rfl) (app_set (j := 3) hP rfl) rfl ?_
                  refine TL.nil ?_
                  refine TE.draw (fun _ s => ⟨Frm.of s, trivial⟩) ?_
                  refine TD.done (by kernel_rfl) ?_
                  refine TE.blockEnd ?_
                  refine TE.next hK9 ?_
                  clear hK9
                  refine TC.region ?_
                  refine TL.v (Want.plain rfl) rfl rfl (PV.add (r := 2) rfl rfl rfl (by decide)) ?_
                  refine TL.v (Want.plain rfl) rfl rfl (PV.move rfl rfl) ?_
                  refine TL.nil ?_
                  refine TE.again ?_
                  refine TC.seq (fun K11 hK11 => ?_)
                  refine TC.region ?_
                  refine TL.v (Want.plain rfl) rfl rfl (PV.lss rfl rfl rfl) ?_
                  refine TL.nil ?_
                  refine TE.next hK11 ?_
                  clear hK11
                  refine TC.seq (fun K12 hK12 => ?_)
                  refine TC.yes rfl ?_
                  refine TC.skip ?_
                  refine TE.next hK12 ?_
                  clear hK12
                  refine TC.seq (fun K13 hK13 => ?_)
                  refine TC.block ?_
                  refine TC.seq (fun K14 hK14 => ?_)
                  refine TC.region ?_
                  refine TL.v (Want.plain rfl) rfl rfl (PV.move rfl rfl) ?_
                  refine TL.v (Want.plain rfl) rfl rfl (PV.assign rfl rfl) ?_
                  refine TL.nil ?_
                  refine TE.next hK14 ?_
                  clear hK14
                  refine TC.draw (fun w => Frm F w ∧ True) mixed rfl (fun _ s => ⟨Frm.of s, trivial⟩) ?_
                  refine TD.take (i := 0) rfl (by kernel_rfl) (by kernel_rfl) (by kernel_rfl) (fun _ _ _ _ h => h) (Want.plain rfl) rfl rfl (PV.move rfl rfl) ?_
                  refine TD.take (i := 1) rfl (by kernel_rfl) (by kernel_rfl) (by kernel_rfl) (fun _ _ _ _ h => h) (Want.plain rfl) rfl rfl (PV.move rfl rfl) ?_
                  refine TD.take (i := 2) rfl (by kernel_rfl) (by kernel_rfl) (by kernel_rfl) (fun _ _ _ _ h => h) (Want.plain rfl) rfl rfl (PV.nilCheck rfl rfl) ?_
                  refine TD.take (i := 3) rfl (by kernel_rfl) (by kernel_rfl) (by kernel_rfl) (fun _ _ _ _ h => h) (Want.plain rfl) rfl rfl (PV.fieldAddr (r := off + 2) rfl Try.underlying24 rfl sz22 rfl rfl) ?_
                  refine TD.take (i := 4) rfl (by kernel_rfl) (by kernel_rfl) (by kernel_rfl) (fun _ _ _ _ h => h) (Want.plain rfl) rfl rfl (PV.indexArr (r := off + 4) rfl Try.underlying22 sz3 rfl rfl (lz rfl) (lz rfl) rfl) ?_
                  refine TD.take (i := 7) rfl (by kernel_rfl) (by kernel_rfl) (by kernel_rfl) (fun _ _ _ _ h => h) (Want.plain rfl) rfl rfl (PV.nilCheck rfl rfl) ?_
                  refine TD.take (i := 8) rfl (by kernel_rfl) (by kernel_rfl) (by kernel_rfl) (fun _ _ _ _ h => h) (Want.plain rfl) rfl rfl (PV.fieldAddr (r := off + 2) rfl Try.underlying24 rfl sz22 rfl rfl) ?_
                  refine TD.all [5] (by kernel_rfl) rfl ?_
                  refine AllT.cons rfl ?_ ?_
                  · skip
                    refine TL.v (Want.plain rfl) rfl rfl (PV.load1 (v := (.int .i64 (g2))) rfl Try.underlying3 rfl rfl (Rd.own 0 rfl rfl) (app_get (j := 4) hP rfl)) ?_
                    refine TL.nil ?_
                    refine TE.draw (fun _ s => ⟨Frm.of s, trivial⟩) ?_
                    refine TD.take (i := 6) rfl (by kernel_rfl) (by kernel_rfl) (by kernel_rfl) (fun _ _ _ _ h => h) (Want.plain rfl) rfl rfl (PV.and (r := m40 g2) rfl rfl rfl (and40 _)) ?_
                    refine TD.take (i := 9) rfl (by kernel_rfl) (by kernel_rfl) (by kernel_rfl) (fun _ _ _ _ h => h) (Want.plain rfl) rfl rfl (PV.indexArr (r := off + 4) rfl Try.underlying22 sz3 rfl rfl (lz rfl) (lz rfl) rfl) ?_
                    refine TD.all [10] (by kernel_rfl) rfl ?_
                    refine AllT.cons rfl ?_ ?_
                    · skip
                      refine TL.store1 (i := 0) (j := off + 4) (H' := [blkA cb (P ++ (Value.int .i64 (m40 a) :: Value.int .i64 (m40 b) :: Value.int .i64 (m40 g0) :: Value.int .i64 (m40 g1) :: Value.int .i64 (m40 g2) :: Value.int .i64 g3 :: Value.int .i64 g4 :: R)) T]) (Want.plain rfl) rfl rfl rfl rfl rfl sz3 rfl rfl (app_lt hP rfl) (app_set (j := 4) hP rfl) rfl ?_
                      refine TL.nil ?_
                      refine TE.draw (fun _ s => ⟨Frm.of s, trivial⟩) ?_
                      refine TD.done (by kernel_rfl) ?_
                      refine TE.blockEnd ?_
                      refine TE.next hK13 ?_
                      clear hK13
                      refine TC.region ?_
                      refine TL.v (Want.plain rfl) rfl rfl (PV.add (r := 3) rfl rfl rfl (by decide)) ?_
                      refine TL.v (Want.plain rfl) rfl rfl (PV.move rfl rfl) ?_
                      refine TL.nil ?_
                      refine TE.again ?_
                      refine TC.seq (fun K15 hK15 => ?_)
                      refine TC.region ?_
                      refine TL.v (Want.plain rfl) rfl rfl (PV.lss rfl rfl rfl) ?_
                      refine TL.nil ?_
                      refine TE.next hK15 ?_
                      clear hK15
                      refine TC.seq (fun K16 hK16 => ?_)
                      refine TC.yes rfl ?_
                      refine TC.skip ?_
                      refine TE.next hK16 ?_
                      clear hK16
                      refine TC.seq (fun K17 hK17 => ?_)
                      refine TC.block ?_
                      refine TC.seq (fun K18 hK18 => ?_)
                      refine TC.region ?_
                      refine TL.v (Want.plain rfl) rfl rfl (PV.move rfl rfl) ?_
                      refine TL.v (Want.plain rfl) rfl rfl (PV.assign rfl rfl) ?_
                      refine TL.nil ?_
                      refine TE.next hK18 ?_
                      clear hK18
                      refine TC.draw (fun w => Frm F w ∧ True) mixed rfl (fun _ s => ⟨Frm.of s, trivial⟩) ?_
                      refine TD.take (i := 0) rfl (by kernel_rfl) (by kernel_rfl) (by kernel_rfl) (fun _ _ _ _ h => h) (Want.plain rfl) rfl rfl (PV.move rfl rfl) ?_
                      refine TD.take (i := 1) rfl (by kernel_rfl) (by kernel_rfl) (by kernel_rfl) (fun _ _ _ _ h => h) (Want.plain rfl) rfl rfl (PV.move rfl rfl) ?_
                      refine TD.take (i := 2) rfl (by kernel_rfl) (by kernel_rfl) (by kernel_rfl) (fun _ _ _ _ h => h) (Want.plain rfl) rfl rfl (PV.nilCheck rfl rfl) ?_
                      refine TD.take (i := 3) rfl (by kernel_rfl) (by kernel_rfl) (by kernel_rfl) (fun _ _ _ _ h => h) (Want.plain rfl) rfl rfl (PV.fieldAddr (r := off + 2) rfl Try.underlying24 rfl sz22 rfl rfl) ?_
                      refine TD.take (i := 4) rfl (by kernel_rfl) (by kernel_rfl) (by kernel_rfl) (fun _ _ _ _ h => h) (Want.plain rfl) rfl rfl (PV.indexArr (r := off + 5) rfl Try.underlying22 sz3 rfl rfl (lz rfl) (lz rfl) rfl) ?_
                      refine TD.take (i := 7) rfl (by kernel_rfl) (by kernel_rfl) (by kernel_rfl) (fun _ _ _ _ h => h) (Want.plain rfl) rfl rfl (PV.nilCheck rfl rfl) ?_
                      refine TD.take (i := 8) rfl (by kernel_rfl) (by kernel_rfl) (by kernel_rfl) (fun _ _ _ _ h => h) (Want.plain rfl) rfl rfl (PV.fieldAddr (r := off + 2) rfl Try.underlying24 rfl sz22 rfl rfl) ?_
                      refine TD.all [5] (by kernel_rfl) rfl ?_
                      refine AllT.cons rfl ?_ ?_
                      · skip
                        refine TL.v (Want.plain rfl) rfl rfl (PV.load1 (v := (.int .i64 (g3))) rfl Try.underlying3 rfl rfl (Rd.own 0 rfl rfl) (app_get (j := 5) hP rfl)) ?_
                        refine TL.nil ?_
                        refine TE.draw (fun _ s => ⟨Frm.of s, trivial⟩) ?_
                        refine TD.take (i := 6) rfl (by kernel_rfl) (by kernel_rfl) (by kernel_rfl) (fun _ _ _ _ h => h) (Want.plain rfl) rfl rfl (PV.and (r := m40 g3) rfl rfl rfl (and40 _)) ?_
                        refine TD.take (i := 9) rfl (by kernel_rfl) (by kernel_rfl) (by kernel_rfl) (fun _ _ _ _ h => h) (Want.plain rfl) rfl rfl (PV.indexArr (r := off + 5) rfl Try.underlying22 sz3 rfl rfl (lz rfl) (lz rfl) rfl) ?_
                        refine TD.all [10] (by kernel_rfl) rfl ?_
                        refine AllT.cons rfl ?_ ?_
                        · skip
                          refine TL.store1 (i := 0) (j := off + 5) (H' := [blkA cb (P ++ (Value.int .i64 (m40 a) :: Value.int .i64 (m40 b) :: Value.int .i64 (m40 g0) :: Value.int .i64 (m40 g1) :: Value.int .i64 (m40 g2) :: Value.int .i64 (m40 g3) :: Value.int .i64 g4 :: R)) T]) (Want.plain rfl) rfl rfl rfl rfl rfl sz3 rfl rfl (app_lt hP rfl) (app_set (j := 5) hP rfl) rfl ?_
                          refine TL.nil ?_
                          refine TE.draw (fun _ s => ⟨Frm.of s, trivial⟩) ?_
                          refine TD.done (by kernel_rfl) ?_
                          refine TE.blockEnd ?_
                          refine TE.next hK17 ?_
                          clear hK17
                          refine TC.region ?_
                          refine TL.v (Want.plain rfl) rfl rfl (PV.add (r := 4) rfl rfl rfl (by decide)) ?_
                          refine TL.v (Want.plain rfl) rfl rfl (PV.move rfl rfl) ?_
                          refine TL.nil ?_
                          refine TE.again ?_
                          refine TC.seq (fun K19 hK19 => ?_)
                          refine TC.region ?_
                          refine TL.v (Want.plain rfl) rfl rfl (PV.lss rfl rfl rfl) ?_
                          refine TL.nil ?_
                          refine TE.next hK19 ?_
                          clear hK19
                          refine TC.seq (fun K20 hK20 => ?_)
                          refine TC.yes rfl ?_
                          refine TC.skip ?_
                          refine TE.next hK20 ?_
                          clear hK20
                          refine TC.seq (fun K21 hK21 => ?_)
                          refine TC.block ?_
                          refine TC.seq (fun K22 hK22 => ?_)
                          refine TC.region ?_
                          refine TL.v (Want.plain rfl) rfl rfl (PV.move rfl rfl) ?_
                          refine TL.v (Want.plain rfl) rfl rfl (PV.assign rfl rfl) ?_
                          refine TL.nil ?_
                          refine TE.next hK22 ?_
                          clear hK22
                          refine TC.draw (fun w => Frm F w ∧ True) mixed rfl (fun _ s => ⟨Frm.of s, trivial⟩) ?_
                          refine TD.take (i := 0) rfl (by kernel_rfl) (by kernel_rfl) (by kernel_rfl) (fun _ _ _ _ h => h) (Want.plain rfl) rfl rfl (PV.move rfl rfl) ?_
                          refine TD.take (i := 1) rfl (by kernel_rfl) (by kernel_rfl) (by kernel_rfl) (fun _ _ _ _ h => h) (Want.plain rfl) rfl rfl (PV.move rfl rfl) ?_
                          refine TD.take (i := 2) rfl (by kernel_rfl) (by kernel_rfl) (by kernel_rfl) (fun _ _ _ _ h => h) (Want.plain rfl) rfl rfl (PV.nilCheck rfl rfl) ?_
                          refine TD.take (i := 3) rfl (by kernel_rfl) (by kernel_rfl) (by kernel_rfl) (fun _ _ _ _ h => h) (Want.plain rfl) rfl rfl (PV.fieldAddr (r := off + 2) rfl Try.underlying24 rfl sz22 rfl rfl) ?_
                          refine TD.take (i := 4) rfl (by kernel_rfl) (by kernel_rfl) (by kernel_rfl) (fun _ _ _ _ h => h) (Want.plain rfl) rfl rfl (PV.indexArr (r := off + 6) rfl Try.underlying22 sz3 rfl rfl (lz rfl) (lz rfl) rfl) ?_
                          refine TD.take (i := 7) rfl (by kernel_rfl) (by kernel_rfl) (by kernel_rfl) (fun _ _ _ _ h => h) (Want.plain rfl) rfl rfl (PV.nilCheck rfl rfl) ?_
                          refine TD.take (i := 8) rfl (by kernel_rfl) (by kernel_rfl) (by kernel_rfl) (fun _ _ _ _ h => h) (Want.plain rfl) rfl rfl (PV.fieldAddr (r := off + 2) rfl Try.underlying24 rfl sz22 rfl rfl) ?_
                          refine TD.all [5] (by kernel_rfl) rfl ?_
                          refine AllT.cons rfl ?_ ?_
                          · skip
                            refine TL.v (Want.plain rfl) rfl rfl (PV.load1 (v := (.int .i64 (g4))) rfl Try.underlying3 rfl rfl (Rd.own 0 rfl rfl) (app_get (j := 6) hP rfl)) ?_
                            refine TL.nil ?_
                            refine TE.draw (fun _ s => ⟨Frm.of s, trivial⟩) ?_
                            refine TD.take (i := 6) rfl (by kernel_rfl) (by kernel_rfl) (by kernel_rfl) (fun _ _ _ _ h => h) (Want.plain rfl) rfl rfl (PV.and (r := m40 g4) rfl rfl rfl (and40 _)) ?_
                            refine TD.take (i := 9) rfl (by kernel_rfl) (by kernel_rfl) (by kernel_rfl) (fun _ _ _ _ h => h) (Want.plain rfl) rfl rfl (PV.indexArr (r := off + 6) rfl Try.underlying22 sz3 rfl rfl (lz rfl) (lz rfl) rfl) ?_
                            refine TD.all [10] (by kernel_rfl) rfl ?_
                            refine AllT.cons rfl ?_ ?_
                            · skip
                              refine TL.store1 (i := 0) (j := off + 6) (H' := [blkA cb (P ++ (Value.int .i64 (m40 a) :: Value.int .i64 (m40 b) :: Value.int .i64 (m40 g0) :: Value.int .i64 (m40 g1) :: Value.int .i64 (m40 g2) :: Value.int .i64 (m40 g3) :: Value.int .i64 (m40 g4) :: R)) T]) (Want.plain rfl) rfl rfl rfl rfl rfl sz3 rfl rfl (app_lt hP rfl) (app_set (j := 6) hP rfl) rfl ?_
                              refine TL.nil ?_
                              refine TE.draw (fun _ s => ⟨Frm.of s, trivial⟩) ?_
                              refine TD.done (by kernel_rfl) ?_
                              refine TE.blockEnd ?_
                              refine TE.next hK21 ?_
                              clear hK21
                              refine TC.region ?_
                              refine TL.v (Want.plain rfl) rfl rfl (PV.add (r := 5) rfl rfl rfl (by decide)) ?_
                              refine TL.v (Want.plain rfl) rfl rfl (PV.move rfl rfl) ?_
                              refine TL.nil ?_
                              refine TE.again ?_
                              refine TC.seq (fun K23 hK23 => ?_)
                              refine TC.region ?_
                              refine TL.v (Want.plain rfl) rfl rfl (PV.lss rfl rfl rfl) ?_
                              refine TL.nil ?_
                              refine TE.next hK23 ?_
                              clear hK23
                              refine TC.seq (fun K24 hK24 => ?_)
                              refine TC.no rfl ?_
                              refine TC.exit ?_
                              refine TE.pass ?_
                              clear hK24
                              refine TE.pass ?_
                              refine TE.hit ?_
                              refine TE.weak (Sub.refl _) (fun _ s => sep_keep [0] rfl s) ?_
                              refine TE.end0 rfl ?_
                              exact rfl
                            exact AllT.nil
                          exact AllT.nil
                        exact AllT.nil
                      exact AllT.nil
                    exact AllT.nil
                  exact AllT.nil
                exact AllT.nil
              exact AllT.nil
            exact AllT.nil
          exact AllT.nil
        exact AllT.nil
      exact AllT.nil
    exact AllT.nil
  refine AllT.cons rfl ?_ ?_
  · skip
    refine TL.v (Want.plain rfl) rfl rfl (PV.load1 (v := (.int .i64 (b))) rfl Try.underlying3 rfl rfl (Rd.own 0 rfl rfl) (app_get (j := 1) hP rfl)) ?_
    refine TL.nil ?_
    refine TE.draw (fun _ s => ⟨Frm.of s, trivial⟩) ?_
    refine TD.take (i := 11) rfl (by kernel_rfl) (by kernel_rfl) (by kernel_rfl) (fun _ _ _ _ h => h) (Want.plain rfl) rfl rfl (PV.and (r := m40 b) rfl rfl rfl (and40 _)) ?_
    refine TD.all [5] (by kernel_rfl) rfl ?_
    refine AllT.cons rfl ?_ ?_
    · skip
      refine TL.v (Want.plain rfl) rfl rfl (PV.load1 (v := (.int .i64 (a))) rfl Try.underlying3 rfl rfl (Rd.own 0 rfl rfl) (app_get (j := 0) hP rfl)) ?_
      refine TL.nil ?_
      refine TE.draw (fun _ s => ⟨Frm.of s, trivial⟩) ?_
      refine TD.take (i := 6) rfl (by kernel_rfl) (by kernel_rfl) (by kernel_rfl) (fun _ _ _ _ h => h) (Want.plain rfl) rfl rfl (PV.and (r := m40 a) rfl rfl rfl (and40 _)) ?_
      refine TD.take (i := 12) rfl (by kernel_rfl) (by kernel_rfl) (by kernel_rfl) (fun _ _ _ _ h => h) (Want.plain rfl) rfl rfl (PV.nilCheck rfl rfl) ?_
      refine TD.take (i := 13) rfl (by kernel_rfl) (by kernel_rfl) (by kernel_rfl) (fun _ _ _ _ h => h) (Want.plain rfl) rfl rfl (PV.fieldAddr (r := off) rfl Try.underlying24 rfl sz3 rfl rfl) ?_
      refine TD.all [14] (by kernel_rfl) rfl ?_
      refine AllT.cons rfl ?_ ?_
      · skip
        refine TL.store1 (i := 0) (j := off + 0) (H' := [blkA cb (P ++ (Value.int .i64 (m40 a) :: Value.int .i64 b :: Value.int .i64 g0 :: Value.int .i64 g1 :: Value.int .i64 g2 :: Value.int .i64 g3 :: Value.int .i64 g4 :: R)) T]) (Want.plain rfl) rfl rfl rfl rfl rfl sz3 rfl rfl (app_lt hP rfl) (app_set (j := 0) hP rfl) rfl ?_
        refine TL.nil ?_
        refine TE.draw (fun _ s => ⟨Frm.of s, trivial⟩) ?_
        refine TD.take (i := 15) rfl (by kernel_rfl) (by kernel_rfl) (by kernel_rfl) (fun _ _ _ _ h => h) (Want.plain rfl) rfl rfl (PV.nilCheck rfl rfl) ?_
        refine TD.take (i := 16) rfl (by kernel_rfl) (by kernel_rfl) (by kernel_rfl) (fun _ _ _ _ h => h) (Want.plain rfl) rfl rfl (PV.fieldAddr (r := off + 1) rfl Try.underlying24 rfl sz3 rfl rfl) ?_
        refine TD.all [17] (by kernel_rfl) rfl ?_
        refine AllT.cons rfl ?_ ?_
        · skip
          refine TL.store1 (i := 0) (j := off + 1) (H' := [blkA cb (P ++ (Value.int .i64 (m40 a) :: Value.int .i64 (m40 b) :: Value.int .i64 g0 :: Value.int .i64 g1 :: Value.int .i64 g2 :: Value.int .i64 g3 :: Value.int .i64 g4 :: R)) T]) (Want.plain rfl) rfl rfl rfl rfl rfl sz3 rfl rfl (app_lt hP rfl) (app_set (j := 1) hP rfl) rfl ?_
          refine TL.nil ?_
          refine TE.draw (fun _ s => ⟨Frm.of s, trivial⟩) ?_
          refine TD.done (by kernel_rfl) ?_
          refine TE.next hK1 ?_
          clear hK1
          refine TC.seq (fun K25 hK25 => ?_)
          refine TC.region ?_
          refine TL.v (Want.plain rfl) rfl rfl (PV.move rfl rfl) ?_
          refine TL.nil ?_
          refine TE.next hK25 ?_
          clear hK25
          refine TC.block ?_
          refine TC.unroll 5 ?_
          refine TC.seq (fun K26 hK26 => ?_)
          refine TC.region ?_
          refine TL.v (Want.plain rfl) rfl rfl (PV.lss rfl rfl rfl) ?_
          refine TL.nil ?_
          refine TE.next hK26 ?_
          clear hK26
          refine TC.seq (fun K27 hK27 => ?_)
          refine TC.yes rfl ?_
          refine TC.skip ?_
          refine TE.next hK27 ?_
          clear hK27
          refine TC.seq (fun K28 hK28 => ?_)
          refine TC.block ?_
          refine TC.seq (fun K29 hK29 => ?_)
          refine TC.region ?_
          refine TL.v (Want.plain rfl) rfl rfl (PV.move rfl rfl) ?_
          refine TL.v (Want.plain rfl) rfl rfl (PV.assign rfl rfl) ?_
          refine TL.nil ?_
          refine TE.next hK29 ?_
          clear hK29
          refine TC.draw (fun w => Frm F w ∧ True) mixed rfl (fun _ s => ⟨Frm.of s, trivial⟩) ?_
          refine TD.take (i := 0) rfl (by kernel_rfl) (by kernel_rfl) (by kernel_rfl) (fun _ _ _ _ h => h) (Want.plain rfl) rfl rfl (PV.move rfl rfl) ?_
          refine TD.take (i := 1) rfl (by kernel_rfl) (by kernel_rfl) (by kernel_rfl) (fun _ _ _ _ h => h) (Want.plain rfl) rfl rfl (PV.move rfl rfl) ?_
          refine TD.take (i := 2) rfl (by kernel_rfl) (by kernel_rfl) (by kernel_rfl) (fun _ _ _ _ h => h) (Want.plain rfl) rfl rfl (PV.nilCheck rfl rfl) ?_
          refine TD.take (i := 3) rfl (by kernel_rfl) (by kernel_rfl) (by kernel_rfl) (fun _ _ _ _ h => h) (Want.plain rfl) rfl rfl (PV.fieldAddr (r := off + 2) rfl Try.underlying24 rfl sz22 rfl rfl) ?_
          refine TD.take (i := 4) rfl (by kernel_rfl) (by kernel_rfl) (by kernel_rfl) (fun _ _ _ _ h => h) (Want.plain rfl) rfl rfl (PV.indexArr (r := off + 2) rfl Try.underlying22 sz3 rfl rfl (lz rfl) (lz rfl) rfl) ?_
          refine TD.take (i := 7) rfl (by kernel_rfl) (by kernel_rfl) (by kernel_rfl) (fun _ _ _ _ h => h) (Want.plain rfl) rfl rfl (PV.nilCheck rfl rfl) ?_
          refine TD.take (i := 8) rfl (by kernel_rfl) (by kernel_rfl) (by kernel_rfl) (fun _ _ _ _ h => h) (Want.plain rfl) rfl rfl (PV.fieldAddr (r := off + 2) rfl Try.underlying24 rfl sz22 rfl rfl) ?_
          refine TD.all [5] (by kernel_rfl) rfl ?_
          refine AllT.cons rfl ?_ ?_
          · skip
            refine TL.v (Want.plain rfl) rfl rfl (PV.load1 (v := (.int .i64 (g0))) rfl Try.underlying3 rfl rfl (Rd.own 0 rfl rfl) (app_get (j := 2) hP rfl)) ?_
            refine TL.nil ?_
            refine TE.draw (fun _ s => ⟨Frm.of s, trivial⟩) ?_
            refine TD.take (i := 6) rfl (by kernel_rfl) (by kernel_rfl) (by kernel_rfl) (fun _ _ _ _ h => h) (Want.plain rfl) rfl rfl (PV.and (r := m40 g0) rfl rfl rfl (and40 _)) ?_
            refine TD.take (i := 9) rfl (by kernel_rfl) (by kernel_rfl) (by kernel_rfl) (fun _ _ _ _ h => h) (Want.plain rfl) rfl rfl (PV.indexArr (r := off + 2) rfl Try.underlying22 sz3 rfl rfl (lz rfl) (lz rfl) rfl) ?_
            refine TD.all [10] (by kernel_rfl) rfl ?_
            refine AllT.cons rfl ?_ ?_
            · skip
              refine TL.store1 (i := 0) (j := off + 2) (H' := [blkA cb (P ++ (Value.int .i64 (m40 a) :: Value.int .i64 (m40 b) :: Value.int .i64 (m40 g0) :: Value.int .i64 g1 :: Value.int .i64 g2 :: Value.int .i64 g3 :: Value.int .i64 g4 :: R)) T]) (Want.plain rfl) rfl rfl rfl rfl rfl sz3 rfl rfl (app_lt hP rfl) (app_set (j := 2) hP rfl) rfl ?_
              refine TL.nil ?_
              refine TE.draw (fun _ s => ⟨Frm.of s, trivial⟩) ?_
              refine TD.done (by kernel_rfl) ?_
              refine TE.blockEnd ?_
              refine TE.next hK28 ?_
              clear hK28
              refine TC.region ?_
              refine TL.v (Want.plain rfl) rfl rfl (PV.add (r := 1) rfl rfl rfl (by decide)) ?_
              refine TL.v (Want.plain rfl) rfl rfl (PV.move rfl rfl) ?_
              refine TL.nil ?_
              refine TE.again ?_
              refine TC.seq (fun K30 hK30 => ?_)
              refine TC.region ?_
              refine TL.v (Want.plain rfl) rfl rfl (PV.lss rfl rfl rfl) ?_
              refine TL.nil ?_
              refine TE.next hK30 ?_
              clear hK30
              refine TC.seq (fun K31 hK31 => ?_)
              refine TC.yes rfl ?_
              refine TC.skip ?_
              refine TE.next hK31 ?_
              clear hK31
              refine TC.seq (fun K32 hK32 => ?_)
              refine TC.block ?_
              refine TC.seq (fun K33 hK33 => ?_)
              refine TC.region ?_
              refine TL.v (Want.plain rfl) rfl rfl (PV.move rfl rfl) ?_
              refine TL.v (Want.plain rfl) rfl rfl (PV.assign rfl rfl) ?_
              refine TL.nil ?_
              refine TE.next hK33 ?_
              clear hK33
              refine TC.draw (fun w => Frm F w ∧ True) mixed rfl (fun _ s => ⟨Frm.of s, trivial⟩) ?_
              refine TD.take (i := 0) rfl (by kernel_rfl) (by kernel_rfl) (by kernel_rfl) (fun _ _ _ _ h => h) (Want.plain rfl) rfl rfl (PV.move rfl rfl) ?_
              refine TD.take (i := 1) rfl (by kernel_rfl) (by kernel_rfl) (by kernel_rfl) (fun _ _ _ _ h => h) (Want.plain rfl) rfl rfl (PV.move rfl rfl) ?_
              refine TD.take (i := 2) rfl (by kernel_rfl) (by kernel_rfl) (by kernel_rfl) (fun _ _ _ _ h => h) (Want.plain rfl) rfl rfl (PV.nilCheck rfl rfl) ?_
              refine TD.take (i := 3) rfl (by kernel_rfl) (by kernel_rfl) (by kernel_rfl) (fun _ _ _ _ h => h) (Want.plain rfl) rfl rfl (PV.fieldAddr (r := off + 2) rfl Try.underlying24 rfl sz22 rfl rfl) ?_
              refine TD.take (i := 4) rfl (by kernel_rfl) (by kernel_rfl) (by kernel_rfl) (fun _ _ _ _ h => h) (Want.plain rfl) rfl rfl (PV.indexArr (r := off + 3) rfl Try.underlying22 sz3 rfl rfl (lz rfl) (lz rfl) rfl) ?_
              refine TD.take (i := 7) rfl (by kernel_rfl) (by kernel_rfl) (by kernel_rfl) (fun _ _ _ _ h => h) (Want.plain rfl) rfl rfl (PV.nilCheck rfl rfl) ?_
              refine TD.take (i := 8) rfl (by kernel_rfl) (by kernel_rfl) (by kernel_rfl) (fun _ _ _ _ h => h) (Want.plain rfl) rfl rfl (PV.fieldAddr (r := off + 2) rfl Try.underlying24 rfl sz22 rfl rfl) ?_
              refine TD.all [5] (by kernel_rfl) rfl ?_
              refine AllT.cons rfl ?_ ?_
              · skip
                refine TL.v (Want.plain rfl) rfl rfl (PV.load1 (v := (.int .i64 (g1))) rfl Try.underlying3 rfl rfl (Rd.own 0 rfl rfl) (app_get (j := 3) hP rfl)) ?_
                refine TL.nil ?_
                refine TE.draw (fun _ s => ⟨Frm.of s, trivial⟩) ?_
                refine TD.take (i := 6) rfl (by kernel_rfl) (by kernel_rfl) (by kernel_rfl) (fun _ _ _ _ h => h) (Want.plain rfl) rfl rfl (PV.and (r := m40 g1) rfl rfl rfl (and40 _)) ?_
                refine TD.take (i := 9) rfl (by kernel_rfl) (by kernel_rfl) (by kernel_rfl) (fun _ _ _ _ h => h) (Want.plain rfl) rfl rfl (PV.indexArr (r := off + 3) rfl Try.underlying22 sz3 rfl rfl (lz rfl) (lz rfl) rfl) ?_
                refine TD.all [10] (by kernel_rfl) rfl ?_
                refine AllT.cons rfl ?_ ?_
                · skip
                  refine TL.store1 (i := 0) (j := off + 3) (H' := [blkA cb (P ++ (Value.int .i64 (m40 a) :: Value.int .i64 (m40 b) :: Value.int .i64 (m40 g0) :: Value.int .i64 (m40 g1) :: Value.int .i64 g2 :: Value.int .i64 g3 :: Value.int .i64 g4 :: R)) T]) (Want.plain rfl) rfl rfl rfl rfl rfl sz3 rfl rfl (app_lt hP rfl) (app_set (j := 3) hP rfl) rfl ?_
                  refine TL.nil ?_
                  refine TE.draw (fun _ s => ⟨Frm.of s, trivial⟩) ?_
                  refine TD.done (by kernel_rfl) ?_
                  refine TE.blockEnd ?_
                  refine TE.next hK32 ?_
                  clear hK32
                  refine TC.region ?_
                  refine TL.v (Want.plain rfl) rfl rfl (PV.add (r := 2) rfl rfl rfl (by decide)) ?_
                  refine TL.v (Want.plain rfl) rfl rfl (PV.move rfl rfl) ?_
                  refine TL.nil ?_
                  refine TE.again ?_
                  refine TC.seq (fun K34 hK34 => ?_)
                  refine TC.region ?_
                  refine TL.v (Want.plain rfl) rfl rfl (PV.lss rfl rfl rfl) ?_
                  refine TL.nil ?_
                  refine TE.next hK34 ?_
                  clear hK34
                  refine TC.seq (fun K35 hK35 => ?_)
                  refine TC.yes rfl ?_
                  refine TC.skip ?_
                  refine TE.next hK35 ?_
                  clear hK35
                  refine TC.seq (fun K36 hK36 => ?_)
                  refine TC.block ?_
                  refine TC.seq (fun K37 hK37 => ?_)
                  refine TC.region ?_
                  refine TL.v (Want.plain rfl) rfl rfl (PV.move rfl rfl) ?_
                  refine TL.v (Want.plain rfl) rfl rfl (PV.assign rfl rfl) ?_
                  refine TL.nil ?_
                  refine TE.next hK37 ?_
                  clear hK37
                  refine TC.draw (fun w => Frm F w ∧ True) mixed rfl (fun _ s => ⟨Frm.of s, trivial⟩) ?_
                  refine TD.take (i := 0) rfl (by kernel_rfl) (by kernel_rfl) (by kernel_rfl) (fun _ _ _ _ h => h) (Want.plain rfl) rfl rfl (PV.move rfl rfl) ?_
                  refine TD.take (i := 1) rfl (by kernel_rfl) (by kernel_rfl) (by kernel_rfl) (fun _ _ _ _ h => h) (Want.plain rfl) rfl rfl (PV.move rfl rfl) ?_
                  refine TD.take (i := 2) rfl (by kernel_rfl) (by kernel_rfl) (by kernel_rfl) (fun _ _ _ _ h => h) (Want.plain rfl) rfl rfl (PV.nilCheck rfl rfl) ?_
                  refine TD.take (i := 3) rfl (by kernel_rfl) (by kernel_rfl) (by kernel_rfl) (fun _ _ _ _ h => h) (Want.plain rfl) rfl rfl (PV.fieldAddr (r := off + 2) rfl Try.underlying24 rfl sz22 rfl rfl) ?_
                  refine TD.take (i := 4) rfl (by kernel_rfl) (by kernel_rfl) (by kernel_rfl) (fun _ _ _ _ h => h) (Want.plain rfl) rfl rfl (PV.indexArr (r := off + 4) rfl Try.underlying22 sz3 rfl rfl (lz rfl) (lz rfl) rfl) ?_
                  refine TD.take (i := 7) rfl (by kernel_rfl) (by kernel_rfl) (by kernel_rfl) (fun _ _ _ _ h => h) (Want.plain rfl) rfl rfl (PV.nilCheck rfl rfl) ?_
                  refine TD.take (i := 8) rfl (by kernel_rfl) (by kernel_rfl) (by kernel_rfl) (fun _ _ _ _ h => h) (Want.plain rfl) rfl rfl (PV.fieldAddr (r := off + 2) rfl Try.underlying24 rfl sz22 rfl rfl) ?_
                  refine TD.all [5] (by kernel_rfl) rfl ?_
                  refine AllT.cons rfl ?_ ?_
                  · skip
                    refine TL.v (Want.plain rfl) rfl rfl (PV.load1 (v := (.int .i64 (g2))) rfl Try.underlying3 rfl rfl (Rd.own 0 rfl rfl) (app_get (j := 4) hP rfl)) ?_
                    refine TL.nil ?_
                    refine TE.draw (fun _ s => ⟨Frm.of s, trivial⟩) ?_
                    refine TD.take (i := 6) rfl (by kernel_rfl) (by kernel_rfl) (by kernel_rfl) (fun _ _ _ _ h => h) (Want.plain rfl) rfl rfl (PV.and (r := m40 g2) rfl rfl rfl (and40 _)) ?_
                    refine TD.take (i := 9) rfl (by kernel_rfl) (by kernel_rfl) (by kernel_rfl) (fun _ _ _ _ h => h) (Want.plain rfl) rfl rfl (PV.indexArr (r := off + 4) rfl Try.underlying22 sz3 rfl rfl (lz rfl) (lz rfl) rfl) ?_
                    refine TD.all [10] (by kernel_rfl) rfl ?_
                    refine AllT.cons rfl ?_ ?_
                    · skip
                      refine TL.store1 (i := 0) (j := off + 4) (H' := [blkA cb (P ++ (Value.int .i64 (m40 a) :: Value.int .i64 (m40 b) :: Value.int .i64 (m40 g0) :: Value.int .i64 (m40 g1) :: Value.int .i64 (m40 g2) :: Value.int .i64 g3 :: Value.int .i64 g4 :: R)) T]) (Want.plain rfl) rfl rfl rfl rfl rfl sz3 rfl rfl (app_lt hP rfl) (app_set (j := 4) hP rfl) rfl ?_
                      refine TL.nil ?_
                      refine TE.draw (fun _ s => ⟨Frm.of s, trivial⟩) ?_
                      refine TD.done (by kernel_rfl) ?_
                      refine TE.blockEnd ?_
                      refine TE.next hK36 ?_
                      clear hK36
                      refine TC.region ?_
                      refine TL.v (Want.plain rfl) rfl rfl (PV.add (r := 3) rfl rfl rfl (by decide)) ?_
                      refine TL.v (Want.plain rfl) rfl rfl (PV.move rfl rfl) ?_
                      refine TL.nil ?_
                      refine TE.again ?_
                      refine TC.seq (fun K38 hK38 => ?_)
                      refine TC.region ?_
                      refine TL.v (Want.plain rfl) rfl rfl (PV.lss rfl rfl rfl) ?_
                      refine TL.nil ?_
                      refine TE.next hK38 ?_
                      clear hK38
                      refine TC.seq (fun K39 hK39 => ?_)
                      refine TC.yes rfl ?_
                      refine TC.skip ?_
                      refine TE.next hK39 ?_
                      clear hK39
                      refine TC.seq (fun K40 hK40 => ?_)
                      refine TC.block ?_
                      refine TC.seq (fun K41 hK41 => ?_)
                      refine TC.region ?_
                      refine TL.v (Want.plain rfl) rfl rfl (PV.move rfl rfl) ?_
                      refine TL.v (Want.plain rfl) rfl rfl (PV.assign rfl rfl) ?_
                      refine TL.nil ?_
                      refine TE.next hK41 ?_
                      clear hK41
                      refine TC.draw (fun w => Frm F w ∧ True) mixed rfl (fun _ s => ⟨Frm.of s, trivial⟩) ?_
                      refine TD.take (i := 0) rfl (by kernel_rfl) (by kernel_rfl) (by kernel_rfl) (fun _ _ _ _ h => h) (Want.plain rfl) rfl rfl (PV.move rfl rfl) ?_
                      refine TD.take (i := 1) rfl (by kernel_rfl) (by kernel_rfl) (by kernel_rfl) (fun _ _ _ _ h => h) (Want.plain rfl) rfl rfl (PV.move rfl rfl) ?_
                      refine TD.take (i := 2) rfl (by kernel_rfl) (by kernel_rfl) (by kernel_rfl) (fun _ _ _ _ h => h) (Want.plain rfl) rfl rfl (PV.nilCheck rfl rfl) ?_
                      refine TD.take (i := 3) rfl (by kernel_rfl) (by kernel_rfl) (by kernel_rfl) (fun _ _ _ _ h => h) (Want.plain rfl) rfl rfl (PV.fieldAddr (r := off + 2) rfl Try.underlying24 rfl sz22 rfl rfl) ?_
                      refine TD.take (i := 4) rfl (by kernel_rfl) (by kernel_rfl) (by kernel_rfl) (fun _ _ _ _ h => h) (Want.plain rfl) rfl rfl (PV.indexArr (r := off + 5) rfl Try.underlying22 sz3 rfl rfl (lz rfl) (lz rfl) rfl) ?_
                      refine TD.take (i := 7) rfl (by kernel_rfl) (by kernel_rfl) (by kernel_rfl) (fun _ _ _ _ h => h) (Want.plain rfl) rfl rfl (PV.nilCheck rfl rfl) ?_
                      refine TD.take (i := 8) rfl (by kernel_rfl) (by kernel_rfl) (by kernel_rfl) (fun _ _ _ _ h => h) (Want.plain rfl) rfl rfl (PV.fieldAddr (r := off + 2) rfl Try.underlying24 rfl sz22 rfl rfl) ?_
                      refine TD.all [5] (by kernel_rfl) rfl ?_
                      refine AllT.cons rfl ?_ ?_
                      · skip
                        refine TL.v (Want.plain rfl) rfl rfl (PV.load1 (v := (.int .i64 (g3))) rfl Try.underlying3 rfl rfl (Rd.own 0 rfl rfl) (app_get (j := 5) hP rfl)) ?_
                        refine TL.nil ?_
                        refine TE.draw (fun _ s => ⟨Frm.of s, trivial⟩) ?_
                        refine TD.take (i := 6) rfl (by kernel_rfl) (by kernel_rfl) (by kernel_rfl) (fun _ _ _ _ h => h) (Want.plain rfl) rfl rfl (PV.and (r := m40 g3) rfl rfl rfl (and40 _)) ?_
                        refine TD.take (i := 9) rfl (by kernel_rfl) (by kernel_rfl) (by kernel_rfl) (fun _ _ _ _ h => h) (Want.plain rfl) rfl rfl (PV.indexArr (r := off + 5) rfl Try.underlying22 sz3 rfl rfl (lz rfl) (lz rfl) rfl) ?_
                        refine TD.all [10] (by kernel_rfl) rfl ?_
                        refine AllT.cons rfl ?_ ?_
                        · skip
                          refine TL.store1 (i := 0) (j := off + 5) (H' := [blkA cb (P ++ (Value.int .i64 (m40 a) :: Value.int .i64 (m40 b) :: Value.int .i64 (m40 g0) :: Value.int .i64 (m40 g1) :: Value.int .i64 (m40 g2) :: Value.int .i64 (m40 g3) :: Value.int .i64 g4 :: R)) T]) (Want.plain rfl) rfl rfl rfl rfl rfl sz3 rfl rfl (app_lt hP rfl) (app_set (j := 5) hP rfl) rfl ?_
                          refine TL.nil ?_
                          refine TE.draw (fun _ s => ⟨Frm.of s, trivial⟩) ?_
                          refine TD.done (by kernel_rfl) ?_
                          refine TE.blockEnd ?_
                          refine TE.next hK40 ?_
                          clear hK40
                          refine TC.region ?_
                          refine TL.v (Want.plain rfl) rfl rfl (PV.add (r := 4) rfl rfl rfl (by decide)) ?_
                          refine TL.v (Want.plain rfl) rfl rfl (PV.move rfl rfl) ?_
                          refine TL.nil ?_
                          refine TE.again ?_
                          refine TC.seq (fun K42 hK42 => ?_)
                          refine TC.region ?_
                          refine TL.v (Want.plain rfl) rfl rfl (PV.lss rfl rfl rfl) ?_
                          refine TL.nil ?_
                          refine TE.next hK42 ?_
                          clear hK42
                          refine TC.seq (fun K43 hK43 => ?_)
                          refine TC.yes rfl ?_
                          refine TC.skip ?_
                          refine TE.next hK43 ?_
                          clear hK43
                          refine TC.seq (fun K44 hK44 => ?_)
                          refine TC.block ?_
                          refine TC.seq (fun K45 hK45 => ?_)
                          refine TC.region ?_
                          refine TL.v (Want.plain rfl) rfl rfl (PV.move rfl rfl) ?_
                          refine TL.v (Want.plain rfl) rfl rfl (PV.assign rfl rfl) ?_
                          refine TL.nil ?_
                          refine TE.next hK45 ?_
                          clear hK45
                          refine TC.draw (fun w => Frm F w ∧ True) mixed rfl (fun _ s => ⟨Frm.of s, trivial⟩) ?_
                          refine TD.take (i := 0) rfl (by kernel_rfl) (by kernel_rfl) (by kernel_rfl) (fun _ _ _ _ h => h) (Want.plain rfl) rfl rfl (PV.move rfl rfl) ?_
                          refine TD.take (i := 1) rfl (by kernel_rfl) (by kernel_rfl) (by kernel_rfl) (fun _ _ _ _ h => h) (Want.plain rfl) rfl rfl (PV.move rfl rfl) ?_
                          refine TD.take (i := 2) rfl (by kernel_rfl) (by kernel_rfl) (by kernel_rfl) (fun _ _ _ _ h => h) (Want.plain rfl) rfl rfl (PV.nilCheck rfl rfl) ?_
                          refine TD.take (i := 3) rfl (by kernel_rfl) (by kernel_rfl) (by kernel_rfl) (fun _ _ _ _ h => h) (Want.plain rfl) rfl rfl (PV.fieldAddr (r := off + 2) rfl Try.underlying24 rfl sz22 rfl rfl) ?_
                          refine TD.take (i := 4) rfl (by kernel_rfl) (by kernel_rfl) (by kernel_rfl) (fun _ _ _ _ h => h) (Want.plain rfl) rfl rfl (PV.indexArr (r := off + 6) rfl Try.underlying22 sz3 rfl rfl (lz rfl) (lz rfl) rfl) ?_
                          refine TD.take (i := 7) rfl (by kernel_rfl) (by kernel_rfl) (by kernel_rfl) (fun _ _ _ _ h => h) (Want.plain rfl) rfl rfl (PV.nilCheck rfl rfl) ?_
                          refine TD.take (i := 8) rfl (by kernel_rfl) (by kernel_rfl) (by kernel_rfl) (fun _ _ _ _ h => h) (Want.plain rfl) rfl rfl (PV.fieldAddr (r := off + 2) rfl Try.underlying24 rfl sz22 rfl rfl) ?_
                          refine TD.all [5] (by kernel_rfl) rfl ?_
                          refine AllT.cons rfl ?_ ?_
                          · skip
                            refine TL.v (Want.plain rfl) rfl rfl (PV.load1 (v := (.int .i64 (g4))) rfl Try.underlying3 rfl rfl (Rd.own 0 rfl rfl) (app_get (j := 6) hP rfl)) ?_
                            refine TL.nil ?_
                            refine TE.draw (fun _ s => ⟨Frm.of s, trivial⟩) ?_
                            refine TD.take (i := 6) rfl (by kernel_rfl) (by kernel_rfl) (by kernel_rfl) (fun _ _ _ _ h => h) (Want.plain rfl) rfl rfl (PV.and (r := m40 g4) rfl rfl rfl (and40 _)) ?_
                            refine TD.take (i := 9) rfl (by kernel_rfl) (by kernel_rfl) (by kernel_rfl) (fun _ _ _ _ h => h) (Want.plain rfl) rfl rfl (PV.indexArr (r := off + 6) rfl Try.underlying22 sz3 rfl rfl (lz rfl) (lz rfl) rfl) ?_
                            refine TD.all [10] (by kernel_rfl) rfl ?_
                            refine AllT.cons rfl ?_ ?_
                            · skip
                              refine TL.store1 (i := 0) (j := off + 6) (H' := [blkA cb (P ++ (Value.int .i64 (m40 a) :: Value.int .i64 (m40 b) :: Value.int .i64 (m40 g0) :: Value.int .i64 (m40 g1) :: Value.int .i64 (m40 g2) :: Value.int .i64 (m40 g3) :: Value.int .i64 (m40 g4) :: R)) T]) (Want.plain rfl) rfl rfl rfl rfl rfl sz3 rfl rfl (app_lt hP rfl) (app_set (j := 6) hP rfl) rfl ?_
                              refine TL.nil ?_
                              refine TE.draw (fun _ s => ⟨Frm.of s, trivial⟩) ?_
                              refine TD.done (by kernel_rfl) ?_
                              refine TE.blockEnd ?_
                              refine TE.next hK44 ?_
                              clear hK44
                              refine TC.region ?_
                              refine TL.v (Want.plain rfl) rfl rfl (PV.add (r := 5) rfl rfl rfl (by decide)) ?_
                              refine TL.v (Want.plain rfl) rfl rfl (PV.move rfl rfl) ?_
                              refine TL.nil ?_
                              refine TE.again ?_
                              refine TC.seq (fun K46 hK46 => ?_)
                              refine TC.region ?_
                              refine TL.v (Want.plain rfl) rfl rfl (PV.lss rfl rfl rfl) ?_
                              refine TL.nil ?_
                              refine TE.next hK46 ?_
                              clear hK46
                              refine TC.seq (fun K47 hK47 => ?_)
                              refine TC.no rfl ?_
                              refine TC.exit ?_
                              refine TE.pass ?_
                              clear hK47
                              refine TE.pass ?_
                              refine TE.hit ?_
                              refine TE.weak (Sub.refl _) (fun _ s => sep_keep [0] rfl s) ?_
                              refine TE.end0 rfl ?_
                              exact rfl
                            exact AllT.nil
                          exact AllT.nil
                        exact AllT.nil
                      exact AllT.nil
                    exact AllT.nil
                  exact AllT.nil
                exact AllT.nil
              exact AllT.nil
            exact AllT.nil
          exact AllT.nil
        exact AllT.nil
      exact AllT.nil
    exact AllT.nil
  exact AllT.nil


theorem tame1_cell (cb off T : Nat) (c : CellT) (P R : List Value) (hP : P.length = off) : Does Try.prog 31 #[(.pointer (some ⟨cb, off, none⟩))] (fun _ => True) [blkA cb (P ++ (ints c.flat ++ R)) T] (Ret (fun _ H => H = [blkA cb (P ++ (ints (tameC c).flat ++ R)) T])) := by
  obtain ⟨i, o, g⟩ := c
  refine vec5 (p := fun g => Does Try.prog 31 #[(.pointer (some ⟨cb, off, none⟩))] (fun _ => True) [blkA cb (P ++ (ints (CellT.flat ⟨i, o, g⟩) ++ R)) T] (Ret (fun _ H => H = [blkA cb (P ++ (ints (tameC ⟨i, o, g⟩).flat ++ R)) T]))) (fun a b c d e => ?_) g
  rw [show (tameC ⟨i, o, #v[a, b, c, d, e]⟩).flat = [m40 i, m40 o, m40 a, m40 b, m40 c, m40 d, m40 e] from by simp [tameC, CellT.flat]]
  exact tame1_cells cb off T i o a b c d e P R hP
theorem tame1_row (cb off T : Nat) (x y : RowT) (c : CellT) (h : ((ints x.flat).drop off).take 7 = ints c.flat) (hy : wr (ints x.flat) off (ints (tameC c).flat) = ints y.flat) :
    Does Try.prog 31 #[(.pointer (some ⟨cb, off, none⟩))] (fun _ => True) [blkA cb (ints x.flat) T] (Ret (fun _ H => H = [blkA cb (ints y.flat) T])) := by
  obtain ⟨P, R, h1, h2, h3⟩ := split7 h c.len
  rw [h3 _ (tameC c).len] at hy
  rw [h1, ← hy]
  exact tame1_cell cb off T c P R h2

theorem tame_does (x : RowT) :
    Does Try.prog 10 #[(.agg (ints x.flat).toArray)] (fun _ => True) [] (Ret (fun v H => ∃ y : RowT, v = y.val ∧ H = [] ∧ TameR y)) := by
  refine Does.body (vs := [(.agg (ints x.flat).toArray)]) (n := 52) Try.func10 rfl rfl rfl (fun w0 F hF => ?_)
  refine TC.seq (fun K1 hK1 => ?_)
  refine TC.region ?_
  refine TL.box (Want.plain rfl) rfl rfl rfl rfl (fun b1 => ?_)
  change TL _ _ _ _ _ _ _ _ _ [blkA b1 (ints x.flat) 28]
  refine TL.alloc (Want.plain rfl) rfl rfl rfl z28 (fun b2 => ?_)
  change TL _ _ _ _ _ _ _ _ _ [blkA b2 (Api.ints Api.RowT.zero.flat) 28, blkA b1 (ints x.flat) 28]
  refine TL.nil ?_
  refine TE.next hK1 ?_
  clear hK1
  refine TC.seq (fun K2 hK2 => ?_)
  refine TC.region ?_
  refine TL.v (Want.plain rfl) rfl rfl (PV.fieldAddr (r := 0) rfl Try.underlying28 rfl sz3 rfl rfl) ?_
  refine TL.v (Want.plain rfl) rfl rfl (PV.load1 (v := (.int .i64 ((x).version))) rfl Try.underlying3 rfl rfl (Rd.own 1 rfl rfl) (RowT.get_version _)) ?_
  refine TL.v (Want.plain rfl) rfl rfl (PV.and (r := m50 ((x).version)) rfl rfl rfl (and50 _)) ?_
  refine TL.v (Want.plain rfl) rfl rfl (PV.fieldAddr (r := 0) rfl Try.underlying28 rfl sz3 rfl rfl) ?_
  refine TL.store (vs := [.int .i64 (m50 ((x).version))]) (i := 1) (H' := [blkA b2 (Api.ints Api.RowT.zero.flat) 28, blkA b1 (ints (({ x with version := (m50 ((x).version)) } : RowT)).flat) 28]) (Want.plain rfl) rfl rfl rfl rfl rfl sz3 (ints_one [(m50 ((x).version))]) rfl rfl (by rw [RowT.len]; show _ + 1 ≤ 174; omega) (RowT.wr_version _ _) rfl ?_
  refine TL.nil ?_
  refine TE.next hK2 ?_
  clear hK2
  refine TC.seq (fun K3 hK3 => ?_)
  refine TC.region ?_
  refine TL.v (Want.plain rfl) rfl rfl (PV.assign rfl rfl) ?_
  refine TL.nil ?_
  refine TE.next hK3 ?_
  clear hK3
  refine TC.seq (fun K4 hK4 => ?_)
  refine TC.seq (fun K5 hK5 => ?_)
  refine TC.region ?_
  refine TL.v (Want.plain rfl) rfl rfl (PV.move rfl rfl) ?_
  refine TL.nil ?_
  refine TE.next hK5 ?_
  clear hK5
  refine TC.block ?_
  refine TC.loop (α := (Nat) × (RowT)) (fun ⟨k, x⟩ => T1 k x) (fun ⟨k, x⟩ => [(1, (.pointer (some ⟨b1, 0, none⟩))), (2, (.pointer (some ⟨b2, 0, none⟩))), (3, (.func (.func 31) #[] #[])), (11, (.int .i64 ((k : Nat))))]) (fun ⟨k, x⟩ => [blkA b2 (Api.ints Api.RowT.zero.flat) 28, blkA b1 (ints (x).flat) 28]) (fun ⟨k, x⟩ => 4 - k) (0, ({ x with version := (m50 ((x).version)) } : RowT))
      (T1.start _) (Sub.cons rfl rfl (Sub.cons rfl rfl (Sub.cons rfl rfl (Sub.cons rfl (by congr 1) (Sub.nil _)))))
      (fun _ s => sep_keep [0, 0] rfl s) (fun ⟨k, x⟩ hinv => ?_)
  have t1 : T1 k x := hinv
  have hk := t1.1
  refine TC.seq (fun K6 hK6 => ?_)
  refine TC.region ?_
  refine TL.v (Want.plain rfl) rfl rfl (PV.lss rfl rfl rfl) ?_
  refine TL.dec (fun h12 => ?_) (fun h12 => ?_)
  · skip
    refine TL.nil ?_
    refine TE.next hK6 ?_
    clear hK6
    refine TC.seq (fun K7 hK7 => ?_)
    refine TC.yes rfl ?_
    refine TC.skip ?_
    refine TE.next hK7 ?_
    clear hK7
    refine TC.seq (fun K8 hK8 => ?_)
    refine TC.block ?_
    refine TC.seq (fun K9 hK9 => ?_)
    refine TC.region ?_
    refine TL.v (Want.plain rfl) rfl rfl (PV.move rfl rfl) ?_
    refine TL.v (Want.plain rfl) rfl rfl (PV.assign rfl rfl) ?_
    refine TL.nil ?_
    refine TE.next hK9 ?_
    clear hK9
    refine TC.region ?_
    refine TL.v (Want.plain rfl) rfl rfl (PV.move rfl rfl) ?_
    refine TL.v (Want.plain rfl) rfl rfl (PV.move rfl rfl) ?_
    refine TL.v (Want.plain rfl) rfl rfl (PV.fieldAddr (r := 1) rfl Try.underlying28 rfl sz25 rfl rfl) ?_
    refine TL.v (Want.plain rfl) rfl rfl (PV.indexArr (r := 1 + k * 7) rfl Try.underlying25 sz24 rfl rfl (by omega) (by omega) (by omega)) ?_
    refine TL.callRv (A := [blkA b1 (ints (x).flat) 28]) (B := [blkA b2 (Api.ints Api.RowT.zero.flat) 28]) (Want.plain rfl) rfl rfl rfl rfl nm31 rfl (tame1_row b1 (1 + k * 7) 28 x ({ x with cells := x.cells.set k (tameC (x.cells[k]'(by omega))) (by omega) } : RowT) (x.cells[k]'(by omega)) (get_cell _ k (by omega)) (RowT.wr_cell _ k (by omega) _)) (fun _ s => sep_selR [1] rfl s) (fun _ _ _ => trivial) (fun vR HR hR => ?_)
    subst hR
    change TL _ _ _ _ _ _ _ _ _ [blkA b1 (ints (({ x with cells := x.cells.set k (tameC (x.cells[k]'(by omega))) (by omega) } : RowT)).flat) 28, blkA b2 (Api.ints Api.RowT.zero.flat) 28]
    refine TL.nil ?_
    refine TE.blockEnd ?_
    refine TE.next hK8 ?_
    clear hK8
    refine TC.region ?_
    refine TL.v (Want.plain rfl) rfl rfl (PV.add rfl rfl rfl (wrap_i64 (by omega) (by omega))) ?_
    refine TL.v (Want.plain rfl) rfl rfl (PV.move rfl rfl) ?_
    refine TL.nil ?_
    exact TE.round ((k + 1, ({ x with cells := x.cells.set k (tameC (x.cells[k]'(by omega))) (by omega) } : RowT)) : (Nat) × (RowT)) (t1.step (by omega)) (by show _ - _ < _ - _; omega)
      (Sub.cons rfl rfl (Sub.cons rfl rfl (Sub.cons rfl rfl (Sub.cons rfl rfl (Sub.nil _)))))
      (fun _ s => sep_keep [1, 0] rfl s)
  · skip
    refine TL.nil ?_
    refine TE.next hK6 ?_
    clear hK6
    refine TC.seq (fun K10 hK10 => ?_)
    refine TC.no rfl ?_
    refine TC.exit ?_
    refine TE.pass ?_
    clear hK10
    refine TE.pass ?_
    refine TE.hit ?_
    refine TE.next hK4 ?_
    clear hK4
    refine TC.seq (fun K11 hK11 => ?_)
    refine TC.seq (fun K12 hK12 => ?_)
    refine TC.region ?_
    refine TL.v (Want.plain rfl) rfl rfl (PV.move rfl rfl) ?_
    refine TL.nil ?_
    refine TE.next hK12 ?_
    clear hK12
    refine TC.block ?_
    refine TC.loop (α := (Nat) × (RowT)) (fun ⟨i, x⟩ => T2 i x) (fun ⟨i, x⟩ => [(1, (.pointer (some ⟨b1, 0, none⟩))), (2, (.pointer (some ⟨b2, 0, none⟩))), (3, (.func (.func 31) #[] #[])), (20, (.int .i64 ((i : Nat))))]) (fun ⟨i, x⟩ => [blkA b2 (Api.ints Api.RowT.zero.flat) 28, blkA b1 (ints (x).flat) 28]) (fun ⟨i, x⟩ => 5 - i) (0, x)
        (t1.done (by omega)) (Sub.cons rfl rfl (Sub.cons rfl rfl (Sub.cons rfl rfl (Sub.cons rfl (by congr 1) (Sub.nil _)))))
        (fun _ s => sep_keep [0, 0] rfl s) (fun ⟨i, x⟩ hinv => ?_)
    have t2 : T2 i x := hinv
    have hi := t2.1
    refine TC.seq (fun K13 hK13 => ?_)
    refine TC.region ?_
    refine TL.v (Want.plain rfl) rfl rfl (PV.lss rfl rfl rfl) ?_
    refine TL.dec (fun h21 => ?_) (fun h21 => ?_)
    · skip
      refine TL.nil ?_
      refine TE.next hK13 ?_
      clear hK13
      refine TC.seq (fun K14 hK14 => ?_)
      refine TC.yes rfl ?_
      refine TC.skip ?_
      refine TE.next hK14 ?_
      clear hK14
      refine TC.seq (fun K15 hK15 => ?_)
      refine TC.block ?_
      refine TC.seq (fun K16 hK16 => ?_)
      refine TC.region ?_
      refine TL.v (Want.plain rfl) rfl rfl (PV.move rfl rfl) ?_
      refine TL.v (Want.plain rfl) rfl rfl (PV.assign rfl rfl) ?_
      refine TL.nil ?_
      refine TE.next hK16 ?_
      clear hK16
      refine TC.seq (fun K17 hK17 => ?_)
      refine TC.seq (fun K18 hK18 => ?_)
      refine TC.region ?_
      refine TL.v (Want.plain rfl) rfl rfl (PV.move rfl rfl) ?_
      refine TL.v (Want.plain rfl) rfl rfl (PV.fieldAddr (r := 29) rfl Try.underlying28 rfl sz22 rfl rfl) ?_
      refine TL.v (Want.plain rfl) rfl rfl (PV.indexArr (r := 29 + i) rfl Try.underlying22 sz3 rfl rfl (by omega) (by omega) (by omega)) ?_
      refine TL.v (Want.plain rfl) rfl rfl (PV.load1 (v := (.int .i64 ((x.heir[i]'(by omega))))) rfl Try.underlying3 rfl rfl (Rd.own 1 rfl rfl) (RowT.get_heir _ i (by omega))) ?_
      refine TL.v (Want.plain rfl) rfl rfl (PV.and (r := m30 (x.heir[i]'(by omega))) rfl rfl rfl (and30 _)) ?_
      refine TL.v (Want.plain rfl) rfl rfl (PV.fieldAddr (r := 29) rfl Try.underlying28 rfl sz22 rfl rfl) ?_
      refine TL.v (Want.plain rfl) rfl rfl (PV.indexArr (r := 29 + i) rfl Try.underlying22 sz3 rfl rfl (by omega) (by omega) (by omega)) ?_
      refine TL.store (vs := [.int .i64 (m30 (x.heir[i]'(by omega)))]) (i := 1) (H' := [blkA b2 (Api.ints Api.RowT.zero.flat) 28, blkA b1 (ints (({ x with heir := x.heir.set i (m30 (x.heir[i]'(by omega))) } : RowT)).flat) 28]) (Want.plain rfl) rfl rfl rfl rfl rfl sz3 (ints_one [(m30 (x.heir[i]'(by omega)))]) rfl rfl (by rw [RowT.len]; show _ + 1 ≤ 174; omega) (RowT.wr_heir _ i (by omega) _) rfl ?_
      refine TL.nil ?_
      refine TE.next hK18 ?_
      clear hK18
      refine TC.seq (fun K19 hK19 => ?_)
      refine TC.region ?_
      refine TL.v (Want.plain rfl) rfl rfl (PV.move rfl rfl) ?_
      refine TL.v (Want.plain rfl) rfl rfl (PV.fieldAddr (r := 29) rfl Try.underlying28 rfl sz22 rfl rfl) ?_
      refine TL.v (Want.plain rfl) rfl rfl (PV.indexArr (r := 29 + i) rfl Try.underlying22 sz3 rfl rfl (by omega) (by omega) (by omega)) ?_
      refine TL.v (Want.plain rfl) rfl rfl (PV.load1 (v := (.int .i64 ((m30 (x.heir[i]'(by omega)))))) rfl Try.underlying3 rfl rfl (Rd.own 1 rfl rfl) (by rw [RowT.get_heir _ i (by omega)]; simp)) ?_
      refine TL.v (Want.plain rfl) rfl rfl (PV.eql rfl rfl rfl) ?_
      refine TL.dec (fun h34 => ?_) (fun h34 => ?_)
      · skip
        refine TL.nil ?_
        refine TE.next hK19 ?_
        clear hK19
        refine TC.yes rfl ?_
        refine TC.region ?_
        refine TL.v (Want.plain rfl) rfl rfl (PV.move rfl rfl) ?_
        refine TL.v (Want.plain rfl) rfl rfl (PV.build (cells := #[(.int .i64 0), (.int .i64 0), (.int .i64 0), (.int .i64 0), (.int .i64 0), (.int .i64 0), (.int .i64 0), (.int .i64 0), (.int .i64 0), (.int .i64 0), (.int .i64 0), (.int .i64 0), (.int .i64 0), (.int .i64 0), (.int .i64 0), (.int .i64 0), (.int .i64 0), (.int .i64 0), (.int .i64 0), (.int .i64 0), (.int .i64 0), (.int .i64 0), (.int .i64 0), (.int .i64 0), (.int .i64 0), (.int .i64 0), (.int .i64 0), (.int .i64 0)]) rfl rfl (by as_aux_lemma => kernel_rfl)) ?_
        refine TL.v (Want.plain rfl) rfl rfl (PV.fieldAddr (r := 34) rfl Try.underlying28 rfl sz26 rfl rfl) ?_
        refine TL.v (Want.plain rfl) rfl rfl (PV.indexArr (r := 34 + i * 28) rfl Try.underlying26 sz25 rfl rfl (by omega) (by omega) (by omega)) ?_
        refine TL.store (vs := ints (flats zero4.toList)) (i := 1) (H' := [blkA b2 (Api.ints Api.RowT.zero.flat) 28, blkA b1 (ints (({ x with heir := x.heir.set i (m30 (x.heir[i]'(by omega))), left := x.left.set i zero4 } : RowT)).flat) 28]) (Want.plain rfl) rfl rfl rfl rfl rfl sz25 (ints_one _) rfl rfl (by rw [RowT.len]; show _ + 28 ≤ 174; omega) (wr_lefts _ i (by omega) zero4) rfl ?_
        refine TL.nil ?_
        refine TE.next hK17 ?_
        clear hK17
        refine TC.seq (fun K20 hK20 => ?_)
        refine TC.region ?_
        refine TL.v (Want.plain rfl) rfl rfl (PV.move rfl rfl) ?_
        refine TL.nil ?_
        refine TE.next hK20 ?_
        clear hK20
        refine TC.block ?_
        refine TC.loop (α := (Nat) × (RowT)) (fun ⟨k, y⟩ => T3 i k y) (fun ⟨k, y⟩ => [(1, (.pointer (some ⟨b1, 0, none⟩))), (2, (.pointer (some ⟨b2, 0, none⟩))), (3, (.func (.func 31) #[] #[])), (5, (.int .i64 ((i : Nat)))), (20, (.int .i64 ((i : Nat)))), (21, (.bool true)), (22, (.int .i64 ((i : Nat)))), (23, (.int .i64 ((i : Nat)))), (24, (.pointer (some ⟨b1, 29, none⟩))), (25, (.pointer (some ⟨b1, 29 + i, none⟩))), (26, (.int .i64 ((x.heir[i]'(by omega))))), (27, (.int .i64 ((m30 (x.heir[i]'(by omega)))))), (28, (.pointer (some ⟨b1, 29, none⟩))), (29, (.pointer (some ⟨b1, 29 + i, none⟩))), (30, (.int .i64 ((i : Nat)))), (31, (.pointer (some ⟨b1, 29, none⟩))), (32, (.pointer (some ⟨b1, 29 + i, none⟩))), (33, (.int .i64 ((m30 (x.heir[i]'(by omega)))))), (34, (.bool true)), (35, (.int .i64 ((i : Nat)))), (36, (.agg #[(.int .i64 0), (.int .i64 0), (.int .i64 0), (.int .i64 0), (.int .i64 0), (.int .i64 0), (.int .i64 0), (.int .i64 0), (.int .i64 0), (.int .i64 0), (.int .i64 0), (.int .i64 0), (.int .i64 0), (.int .i64 0), (.int .i64 0), (.int .i64 0), (.int .i64 0), (.int .i64 0), (.int .i64 0), (.int .i64 0), (.int .i64 0), (.int .i64 0), (.int .i64 0), (.int .i64 0), (.int .i64 0), (.int .i64 0), (.int .i64 0), (.int .i64 0)])), (37, (.pointer (some ⟨b1, 34, none⟩))), (38, (.pointer (some ⟨b1, 34 + i * 28, none⟩))), (39, (.int .i64 ((k : Nat))))]) (fun ⟨k, y⟩ => [blkA b2 (Api.ints Api.RowT.zero.flat) 28, blkA b1 (ints (y).flat) 28]) (fun ⟨k, y⟩ => 4 - k) (0, ({ x with heir := x.heir.set i (m30 (x.heir[i]'(by omega))), left := x.left.set i zero4 } : RowT))
            (t2.none (by omega) h34) (Sub.cons rfl rfl (Sub.cons rfl rfl (Sub.cons rfl rfl (Sub.cons rfl rfl (Sub.cons rfl rfl (Sub.cons rfl rfl (Sub.cons rfl rfl (Sub.cons rfl rfl (Sub.cons rfl rfl (Sub.cons rfl rfl (Sub.cons rfl rfl (Sub.cons rfl rfl (Sub.cons rfl rfl (Sub.cons rfl rfl (Sub.cons rfl rfl (Sub.cons rfl rfl (Sub.cons rfl rfl (Sub.cons rfl rfl (Sub.cons rfl rfl (Sub.cons rfl rfl (Sub.cons rfl rfl (Sub.cons rfl rfl (Sub.cons rfl rfl (Sub.cons rfl (by congr 1) (Sub.nil _)))))))))))))))))))))))))
            (fun _ s => sep_keep [0, 0] rfl s) (fun ⟨k, y⟩ hinv => ?_)
        have t3 : T3 i k y := hinv
        have hk := t3.1
        refine TC.seq (fun K21 hK21 => ?_)
        refine TC.region ?_
        refine TL.v (Want.plain rfl) rfl rfl (PV.lss rfl rfl rfl) ?_
        refine TL.dec (fun h40 => ?_) (fun h40 => ?_)
        · skip
          refine TL.nil ?_
          refine TE.next hK21 ?_
          clear hK21
          refine TC.seq (fun K22 hK22 => ?_)
          refine TC.yes rfl ?_
          refine TC.skip ?_
          refine TE.next hK22 ?_
          clear hK22
          refine TC.seq (fun K23 hK23 => ?_)
          refine TC.block ?_
          refine TC.seq (fun K24 hK24 => ?_)
          refine TC.region ?_
          refine TL.v (Want.plain rfl) rfl rfl (PV.move rfl rfl) ?_
          refine TL.v (Want.plain rfl) rfl rfl (PV.assign rfl rfl) ?_
          refine TL.nil ?_
          refine TE.next hK24 ?_
          clear hK24
          refine TC.region ?_
          refine TL.v (Want.plain rfl) rfl rfl (PV.move rfl rfl) ?_
          refine TL.v (Want.plain rfl) rfl rfl (PV.move rfl rfl) ?_
          refine TL.v (Want.plain rfl) rfl rfl (PV.move rfl rfl) ?_
          refine TL.v (Want.plain rfl) rfl rfl (PV.fieldAddr (r := 34) rfl Try.underlying28 rfl sz26 rfl rfl) ?_
          refine TL.v (Want.plain rfl) rfl rfl (PV.indexArr (r := 34 + i * 28) rfl Try.underlying26 sz25 rfl rfl (by omega) (by omega) (by omega)) ?_
          refine TL.v (Want.plain rfl) rfl rfl (PV.indexArr (r := 34 + i * 28 + k * 7) rfl Try.underlying25 sz24 rfl rfl (by omega) (by omega) (by omega)) ?_
          refine TL.callRv (A := [blkA b1 (ints (y).flat) 28]) (B := [blkA b2 (Api.ints Api.RowT.zero.flat) 28]) (Want.plain rfl) rfl rfl rfl rfl nm31 rfl (tame1_row b1 (34 + i * 28 + k * 7) 28 y ({ y with left := y.left.set i ((y.left[i]'(by omega)).set k (tameC ((y.left[i]'(by omega))[k]'(by omega))) (by omega)) (by omega) } : RowT) ((y.left[i]'(by omega))[k]'(by omega)) (get_leftcell _ i k (by omega) (by omega)) (RowT.wr_left _ i k (by omega) (by omega) _)) (fun _ s => sep_selR [1] rfl s) (fun _ _ _ => trivial) (fun vR HR hR => ?_)
          subst hR
          change TL _ _ _ _ _ _ _ _ _ [blkA b1 (ints (({ y with left := y.left.set i ((y.left[i]'(by omega)).set k (tameC ((y.left[i]'(by omega))[k]'(by omega))) (by omega)) (by omega) } : RowT)).flat) 28, blkA b2 (Api.ints Api.RowT.zero.flat) 28]
          refine TL.nil ?_
          refine TE.blockEnd ?_
          refine TE.next hK23 ?_
          clear hK23
          refine TC.region ?_
          refine TL.v (Want.plain rfl) rfl rfl (PV.add rfl rfl rfl (wrap_i64 (by omega) (by omega))) ?_
          refine TL.v (Want.plain rfl) rfl rfl (PV.move rfl rfl) ?_
          refine TL.nil ?_
          exact TE.round ((k + 1, ({ y with left := y.left.set i ((y.left[i]'(by omega)).set k (tameC ((y.left[i]'(by omega))[k]'(by omega))) (by omega)) (by omega) } : RowT)) : (Nat) × (RowT)) (t3.step (by omega) (by omega)) (by show _ - _ < _ - _; omega)
            (Sub.cons rfl rfl (Sub.cons rfl rfl (Sub.cons rfl rfl (Sub.cons rfl rfl (Sub.cons rfl rfl (Sub.cons rfl rfl (Sub.cons rfl rfl (Sub.cons rfl rfl (Sub.cons rfl rfl (Sub.cons rfl rfl (Sub.cons rfl rfl (Sub.cons rfl rfl (Sub.cons rfl rfl (Sub.cons rfl rfl (Sub.cons rfl rfl (Sub.cons rfl rfl (Sub.cons rfl rfl (Sub.cons rfl rfl (Sub.cons rfl rfl (Sub.cons rfl rfl (Sub.cons rfl rfl (Sub.cons rfl rfl (Sub.cons rfl rfl (Sub.cons rfl rfl (Sub.nil _)))))))))))))))))))))))))
            (fun _ s => sep_keep [1, 0] rfl s)
        · skip
          refine TL.nil ?_
          refine TE.next hK21 ?_
          clear hK21
          refine TC.seq (fun K25 hK25 => ?_)
          refine TC.no rfl ?_
          refine TC.exit ?_
          refine TE.pass ?_
          clear hK25
          refine TE.pass ?_
          refine TE.hit ?_
          refine TE.blockEnd ?_
          refine TE.next hK15 ?_
          clear hK15
          refine TC.region ?_
          refine TL.v (Want.plain rfl) rfl rfl (PV.add rfl rfl rfl (wrap_i64 (by omega) (by omega))) ?_
          refine TL.v (Want.plain rfl) rfl rfl (PV.move rfl rfl) ?_
          refine TL.nil ?_
          exact TE.round ((i + 1, y) : (Nat) × (RowT)) (t3.done (by omega)) (by show _ - _ < _ - _; omega)
            (Sub.cons rfl rfl (Sub.cons rfl rfl (Sub.cons rfl rfl (Sub.cons rfl rfl (Sub.nil _)))))
            (fun _ s => sep_keep [0, 0] rfl s)
      · skip
        refine TL.nil ?_
        refine TE.next hK19 ?_
        clear hK19
        refine TC.no rfl ?_
        refine TC.skip ?_
        refine TE.next hK17 ?_
        clear hK17
        refine TC.seq (fun K26 hK26 => ?_)
        refine TC.region ?_
        refine TL.v (Want.plain rfl) rfl rfl (PV.move rfl rfl) ?_
        refine TL.nil ?_
        refine TE.next hK26 ?_
        clear hK26
        refine TC.block ?_
        refine TC.loop (α := (Nat) × (RowT)) (fun ⟨k, y⟩ => T3 i k y) (fun ⟨k, y⟩ => [(1, (.pointer (some ⟨b1, 0, none⟩))), (2, (.pointer (some ⟨b2, 0, none⟩))), (3, (.func (.func 31) #[] #[])), (5, (.int .i64 ((i : Nat)))), (20, (.int .i64 ((i : Nat)))), (21, (.bool true)), (22, (.int .i64 ((i : Nat)))), (23, (.int .i64 ((i : Nat)))), (24, (.pointer (some ⟨b1, 29, none⟩))), (25, (.pointer (some ⟨b1, 29 + i, none⟩))), (26, (.int .i64 ((x.heir[i]'(by omega))))), (27, (.int .i64 ((m30 (x.heir[i]'(by omega)))))), (28, (.pointer (some ⟨b1, 29, none⟩))), (29, (.pointer (some ⟨b1, 29 + i, none⟩))), (30, (.int .i64 ((i : Nat)))), (31, (.pointer (some ⟨b1, 29, none⟩))), (32, (.pointer (some ⟨b1, 29 + i, none⟩))), (33, (.int .i64 ((m30 (x.heir[i]'(by omega)))))), (34, (.bool false)), (39, (.int .i64 ((k : Nat))))]) (fun ⟨k, y⟩ => [blkA b2 (Api.ints Api.RowT.zero.flat) 28, blkA b1 (ints (y).flat) 28]) (fun ⟨k, y⟩ => 4 - k) (0, ({ x with heir := x.heir.set i (m30 (x.heir[i]'(by omega))) } : RowT))
            (t2.some (by omega) h34) (Sub.cons rfl rfl (Sub.cons rfl rfl (Sub.cons rfl rfl (Sub.cons rfl rfl (Sub.cons rfl rfl (Sub.cons rfl rfl (Sub.cons rfl rfl (Sub.cons rfl rfl (Sub.cons rfl rfl (Sub.cons rfl rfl (Sub.cons rfl rfl (Sub.cons rfl rfl (Sub.cons rfl rfl (Sub.cons rfl rfl (Sub.cons rfl rfl (Sub.cons rfl rfl (Sub.cons rfl rfl (Sub.cons rfl rfl (Sub.cons rfl rfl (Sub.cons rfl (by congr 1) (Sub.nil _)))))))))))))))))))))
            (fun _ s => sep_keep [0, 0] rfl s) (fun ⟨k, y⟩ hinv => ?_)
        have t3 : T3 i k y := hinv
        have hk := t3.1
        refine TC.seq (fun K27 hK27 => ?_)
        refine TC.region ?_
        refine TL.v (Want.plain rfl) rfl rfl (PV.lss rfl rfl rfl) ?_
        refine TL.dec (fun h40 => ?_) (fun h40 => ?_)
        · skip
          refine TL.nil ?_
          refine TE.next hK27 ?_
          clear hK27
          refine TC.seq (fun K28 hK28 => ?_)
          refine TC.yes rfl ?_
          refine TC.skip ?_
          refine TE.next hK28 ?_
          clear hK28
          refine TC.seq (fun K29 hK29 => ?_)
          refine TC.block ?_
          refine TC.seq (fun K30 hK30 => ?_)
          refine TC.region ?_
          refine TL.v (Want.plain rfl) rfl rfl (PV.move rfl rfl) ?_
          refine TL.v (Want.plain rfl) rfl rfl (PV.assign rfl rfl) ?_
          refine TL.nil ?_
          refine TE.next hK30 ?_
          clear hK30
          refine TC.region ?_
          refine TL.v (Want.plain rfl) rfl rfl (PV.move rfl rfl) ?_
          refine TL.v (Want.plain rfl) rfl rfl (PV.move rfl rfl) ?_
          refine TL.v (Want.plain rfl) rfl rfl (PV.move rfl rfl) ?_
          refine TL.v (Want.plain rfl) rfl rfl (PV.fieldAddr (r := 34) rfl Try.underlying28 rfl sz26 rfl rfl) ?_
          refine TL.v (Want.plain rfl) rfl rfl (PV.indexArr (r := 34 + i * 28) rfl Try.underlying26 sz25 rfl rfl (by omega) (by omega) (by omega)) ?_
          refine TL.v (Want.plain rfl) rfl rfl (PV.indexArr (r := 34 + i * 28 + k * 7) rfl Try.underlying25 sz24 rfl rfl (by omega) (by omega) (by omega)) ?_
          refine TL.callRv (A := [blkA b1 (ints (y).flat) 28]) (B := [blkA b2 (Api.ints Api.RowT.zero.flat) 28]) (Want.plain rfl) rfl rfl rfl rfl nm31 rfl (tame1_row b1 (34 + i * 28 + k * 7) 28 y ({ y with left := y.left.set i ((y.left[i]'(by omega)).set k (tameC ((y.left[i]'(by omega))[k]'(by omega))) (by omega)) (by omega) } : RowT) ((y.left[i]'(by omega))[k]'(by omega)) (get_leftcell _ i k (by omega) (by omega)) (RowT.wr_left _ i k (by omega) (by omega) _)) (fun _ s => sep_selR [1] rfl s) (fun _ _ _ => trivial) (fun vR HR hR => ?_)
          subst hR
          change TL _ _ _ _ _ _ _ _ _ [blkA b1 (ints (({ y with left := y.left.set i ((y.left[i]'(by omega)).set k (tameC ((y.left[i]'(by omega))[k]'(by omega))) (by omega)) (by omega) } : RowT)).flat) 28, blkA b2 (Api.ints Api.RowT.zero.flat) 28]
          refine TL.nil ?_
          refine TE.blockEnd ?_
          refine TE.next hK29 ?_
          clear hK29
          refine TC.region ?_
          refine TL.v (Want.plain rfl) rfl rfl (PV.add rfl rfl rfl (wrap_i64 (by omega) (by omega))) ?_
          refine TL.v (Want.plain rfl) rfl rfl (PV.move rfl rfl) ?_
          refine TL.nil ?_
          exact TE.round ((k + 1, ({ y with left := y.left.set i ((y.left[i]'(by omega)).set k (tameC ((y.left[i]'(by omega))[k]'(by omega))) (by omega)) (by omega) } : RowT)) : (Nat) × (RowT)) (t3.step (by omega) (by omega)) (by show _ - _ < _ - _; omega)
            (Sub.cons rfl rfl (Sub.cons rfl rfl (Sub.cons rfl rfl (Sub.cons rfl rfl (Sub.cons rfl rfl (Sub.cons rfl rfl (Sub.cons rfl rfl (Sub.cons rfl rfl (Sub.cons rfl rfl (Sub.cons rfl rfl (Sub.cons rfl rfl (Sub.cons rfl rfl (Sub.cons rfl rfl (Sub.cons rfl rfl (Sub.cons rfl rfl (Sub.cons rfl rfl (Sub.cons rfl rfl (Sub.cons rfl rfl (Sub.cons rfl rfl (Sub.cons rfl rfl (Sub.nil _)))))))))))))))))))))
            (fun _ s => sep_keep [1, 0] rfl s)
        · skip
          refine TL.nil ?_
          refine TE.next hK27 ?_
          clear hK27
          refine TC.seq (fun K31 hK31 => ?_)
          refine TC.no rfl ?_
          refine TC.exit ?_
          refine TE.pass ?_
          clear hK31
          refine TE.pass ?_
          refine TE.hit ?_
          refine TE.blockEnd ?_
          refine TE.next hK15 ?_
          clear hK15
          refine TC.region ?_
          refine TL.v (Want.plain rfl) rfl rfl (PV.add rfl rfl rfl (wrap_i64 (by omega) (by omega))) ?_
          refine TL.v (Want.plain rfl) rfl rfl (PV.move rfl rfl) ?_
          refine TL.nil ?_
          exact TE.round ((i + 1, y) : (Nat) × (RowT)) (t3.done (by omega)) (by show _ - _ < _ - _; omega)
            (Sub.cons rfl rfl (Sub.cons rfl rfl (Sub.cons rfl rfl (Sub.cons rfl rfl (Sub.nil _)))))
            (fun _ s => sep_keep [0, 0] rfl s)
    · skip
      refine TL.nil ?_
      refine TE.next hK13 ?_
      clear hK13
      refine TC.seq (fun K32 hK32 => ?_)
      refine TC.no rfl ?_
      refine TC.exit ?_
      refine TE.pass ?_
      clear hK32
      refine TE.pass ?_
      refine TE.hit ?_
      refine TE.next hK11 ?_
      clear hK11
      refine TC.seq (fun K33 hK33 => ?_)
      refine TC.region ?_
      refine TL.v (Want.plain rfl) rfl rfl (PV.loadN (vs := ints (x).flat) rfl Try.underlying28 rfl sz28 rfl (Rd.own 1 rfl rfl) (RowT.len _) (by rw [List.drop_zero, List.take_of_length_le (by rw [RowT.len]; decide)])) ?_
      refine TL.store (vs := ints (x).flat) (i := 0) (H' := [blkA b2 (ints (x).flat) 28, blkA b1 (ints (x).flat) 28]) (Want.plain rfl) rfl rfl rfl rfl rfl (by rw [RowT.len]; exact sz28) (ints_one _) rfl rfl (by rw [RowT.len, Nat.zero_add, RowT.len]; decide) (wr_whole (by rw [RowT.len, RowT.len])) rfl ?_
      refine TL.nil ?_
      refine TE.next hK33 ?_
      clear hK33
      refine TC.ret ?_
      refine TE.retC (H' := []) rfl rfl Try.underlying28 rfl sz28 (Rd.own 0 rfl rfl) (RowT.len _) (fun _ s => sep_keep [] rfl s) ?_
      exact ⟨x, rfl, rfl, t2.tame (by omega)⟩


end Go.Proofs.Ytlhpkgcchomndaa
