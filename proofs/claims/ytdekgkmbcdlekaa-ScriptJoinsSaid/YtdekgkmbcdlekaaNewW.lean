/-
  Package cluster: a new cluster is one.
-/

import Derived.Test.YtdekgkmbcdlekaaRowA
import Derived.Test.YtdekgkmbcdlekaaWalB
import Derived.Test.YtdekgkmbcdlekaaWalR
import Derived.Test.YtdekgkmbcdlekaaLegW

namespace Go.Proofs.Ytdekgkmbcdlekaa

open Go Leg Codec Api Dsk Wal

set_option linter.unusedSimpArgs false
set_option linter.unusedVariables false

set_option maxRecDepth 100000

set_option maxHeartbeats 8000000

theorem boxNew_weak  :
    Does Try.prog 61 #[(.int .i64 8)] (fun _ => True) [] (Ret (fun r' H => ∃ b, r' = .pointer (some ⟨b, 0, none⟩) ∧ H = [])) := by
  refine Does.body (vs := [(.int .i64 8)]) (n := 9) Try.func61 rfl rfl rfl (fun w0 F hF => ?_)
  refine TC.seq (fun K1 hK1 => ?_)
  refine TC.region ?_
  refine TL.v (Want.plain rfl) rfl rfl (PV.assign rfl rfl) ?_
  refine TL.nil ?_
  refine TE.next hK1 ?_
  clear hK1
  refine TC.seq (fun K2 hK2 => ?_)
  refine TC.region ?_
  refine TL.v (Want.plain rfl) rfl rfl (PV.move rfl rfl) ?_
  refine TL.v (Want.plain rfl) rfl rfl (PV.maxI rfl rfl rfl) ?_
  refine TL.v (Want.plain rfl) rfl rfl (PV.minI rfl rfl rfl) ?_
  refine TL.makeChan (k := 8) (bytes := 24) (Want.plain rfl) rfl rfl rfl Try.underlying154 (by kernel_rfl) rfl (by omega) (by omega) (fun c6 => ?_)
  change TL _ _ _ _ _ _ _ _ _ [chanP c6 8 [] 0 0]
  refine TL.v (Want.plain rfl) rfl rfl (PV.build (cells := #[(.chan (some c6))]) rfl rfl (by as_aux_lemma => kernel_rfl)) ?_
  refine TL.box (Want.plain rfl) rfl rfl rfl rfl (fun b8 => ?_)
  change TL _ _ _ _ _ _ _ _ _ [blkA b8 [(.chan (some c6))] 156, chanP c6 8 [] 0 0]
  refine TL.v (Want.plain rfl) rfl rfl (PV.assign rfl rfl) ?_
  refine TL.nil ?_
  refine TE.next hK2 ?_
  clear hK2
  refine TC.ret ?_
  refine TE.weak (Sub.refl _) (fun _ s => sep_keep [] rfl s) ?_
  refine TE.ret1 rfl rfl ?_
  exact ⟨b8, rfl, rfl⟩


theorem netNew_weak  :
    Does Try.prog 57 #[] (fun _ => True) [] (Ret (fun r' H => ∃ b, r' = .pointer (some ⟨b, 0, none⟩) ∧ H = [])) := by
  refine Does.body (vs := []) (n := 26) Try.func57 rfl rfl rfl (fun w0 F hF => ?_)
  refine TC.seq (fun K1 hK1 => ?_)
  refine TC.region ?_
  refine TL.v (Want.plain rfl) rfl rfl (PV.assign rfl rfl) ?_
  refine TL.nil ?_
  refine TE.next hK1 ?_
  clear hK1
  refine TC.seq (fun K2 hK2 => ?_)
  refine TC.region ?_
  refine TL.v (Want.plain rfl) rfl rfl (PV.build (cells := #[(.pointer none), (.pointer none), (.pointer none), (.pointer none), (.pointer none), (.pointer none), (.pointer none), (.pointer none), (.pointer none), (.pointer none), (.pointer none), (.pointer none), (.pointer none), (.pointer none), (.pointer none), (.pointer none), (.pointer none), (.pointer none), (.pointer none), (.pointer none), (.pointer none), (.pointer none), (.pointer none), (.pointer none), (.pointer none)]) rfl rfl (by as_aux_lemma => kernel_rfl)) ?_
  refine TL.box (Want.plain rfl) rfl rfl rfl rfl (fun b5 => ?_)
  change TL _ _ _ _ _ _ _ _ _ [blkA b5 [(.pointer none), (.pointer none), (.pointer none), (.pointer none), (.pointer none), (.pointer none), (.pointer none), (.pointer none), (.pointer none), (.pointer none), (.pointer none), (.pointer none), (.pointer none), (.pointer none), (.pointer none), (.pointer none), (.pointer none), (.pointer none), (.pointer none), (.pointer none), (.pointer none), (.pointer none), (.pointer none), (.pointer none), (.pointer none)] 131]
  refine TL.v (Want.plain rfl) rfl rfl (PV.assign rfl rfl) ?_
  refine TL.nil ?_
  refine TE.next hK2 ?_
  clear hK2
  refine TC.seq (fun K3 hK3 => ?_)
  refine TC.seq (fun K4 hK4 => ?_)
  refine TC.region ?_
  refine TL.v (Want.plain rfl) rfl rfl (PV.move rfl rfl) ?_
  refine TL.nil ?_
  refine TE.next hK4 ?_
  clear hK4
  refine TC.block ?_
  refine TC.loop (α := (Nat) × (List Value)) (fun ⟨i, ws⟩ => i ≤ 5 ∧ ws.length = 25) (fun ⟨i, ws⟩ => [(0, (.pointer none)), (1, (.pointer (some ⟨b5, 0, none⟩))), (6, (.int .i64 (((i : Nat) : Int))))]) (fun ⟨i, ws⟩ => [blkA b5 (ws) 131]) (fun ⟨i, ws⟩ => 5 - i) (0, List.replicate 25 (.pointer none))
      ⟨by omega, rfl⟩ (Sub.r (Sub.r (Sub.cons rfl (by congr 1) (Sub.nil _))))
      (fun _ s => s) (fun ⟨i, ws⟩ hinv => ?_)
  obtain ⟨hi, hl⟩ := hinv
  refine TC.seq (fun K5 hK5 => ?_)
  refine TC.region ?_
  refine TL.v (Want.plain rfl) rfl rfl (PV.lss rfl rfl rfl) ?_
  refine TL.dec (fun h7 => ?_) (fun h7 => ?_)
  · skip
    refine TL.nil ?_
    refine TE.next hK5 ?_
    clear hK5
    refine TC.seq (fun K6 hK6 => ?_)
    refine TC.yes rfl ?_
    refine TC.skip ?_
    refine TE.next hK6 ?_
    clear hK6
    refine TC.seq (fun K7 hK7 => ?_)
    refine TC.block ?_
    refine TC.seq (fun K8 hK8 => ?_)
    refine TC.region ?_
    refine TL.v (Want.plain rfl) rfl rfl (PV.move rfl rfl) ?_
    refine TL.v (Want.plain rfl) rfl rfl (PV.assign rfl rfl) ?_
    refine TL.nil ?_
    refine TE.next hK8 ?_
    clear hK8
    refine TC.seq (fun K9 hK9 => ?_)
    refine TC.region ?_
    refine TL.v (Want.plain rfl) rfl rfl (PV.move rfl rfl) ?_
    refine TL.nil ?_
    refine TE.next hK9 ?_
    clear hK9
    refine TC.block ?_
    refine TC.loop (α := (Nat) × (List Value)) (fun ⟨j, ws2⟩ => j ≤ 5 ∧ ws2.length = 25) (fun ⟨j, ws2⟩ => [(0, (.pointer none)), (1, (.pointer (some ⟨b5, 0, none⟩))), (2, (.int .i64 (((i : Nat) : Int)))), (6, (.int .i64 (((i : Nat) : Int)))), (9, (.int .i64 (((j : Nat) : Int))))]) (fun ⟨j, ws2⟩ => [blkA b5 (ws2) 131]) (fun ⟨j, ws2⟩ => 5 - j) (0, ws)
        ⟨by omega, hl⟩ (Sub.r (Sub.r (Sub.r (Sub.r (Sub.cons rfl (by congr 1) (Sub.nil _))))))
        (fun _ s => s) (fun ⟨j, ws2⟩ hinv => ?_)
    obtain ⟨hj, hl2⟩ := hinv
    refine TC.seq (fun K10 hK10 => ?_)
    refine TC.region ?_
    refine TL.v (Want.plain rfl) rfl rfl (PV.lss rfl rfl rfl) ?_
    refine TL.dec (fun h10 => ?_) (fun h10 => ?_)
    · skip
      refine TL.nil ?_
      refine TE.next hK10 ?_
      clear hK10
      refine TC.seq (fun K11 hK11 => ?_)
      refine TC.yes rfl ?_
      refine TC.skip ?_
      refine TE.next hK11 ?_
      clear hK11
      refine TC.seq (fun K12 hK12 => ?_)
      refine TC.block ?_
      refine TC.seq (fun K13 hK13 => ?_)
      refine TC.region ?_
      refine TL.v (Want.plain rfl) rfl rfl (PV.move rfl rfl) ?_
      refine TL.v (Want.plain rfl) rfl rfl (PV.assign rfl rfl) ?_
      refine TL.nil ?_
      refine TE.next hK13 ?_
      clear hK13
      refine TC.seq (fun K14 hK14 => ?_)
      refine TC.region ?_
      refine TL.v (Want.plain rfl) rfl rfl (PV.move rfl rfl) ?_
      refine TL.v (Want.plain rfl) rfl rfl (PV.move rfl rfl) ?_
      refine TL.v (Want.plain rfl) rfl rfl (PV.neq rfl rfl rfl) ?_
      refine TL.dec (fun h14 => ?_) (fun h14 => ?_)
      · skip
        refine TL.nil ?_
        refine TE.next hK14 ?_
        clear hK14
        refine TC.yes rfl ?_
        refine TC.draw (fun w => Frm F w ∧ True) mixed rfl (fun _ s => ⟨Frm.of s, trivial⟩) ?_
        refine TD.take (i := 0) rfl (by kernel_rfl) (by kernel_rfl) (by kernel_rfl) (fun _ _ _ _ h => h) (Want.plain rfl) rfl rfl (PV.move rfl rfl) ?_
        refine TD.take (i := 1) rfl (by kernel_rfl) (by kernel_rfl) (by kernel_rfl) (fun _ _ _ _ h => h) (Want.plain rfl) rfl rfl (PV.move rfl rfl) ?_
        refine TD.take (i := 2) rfl (by kernel_rfl) (by kernel_rfl) (by kernel_rfl) (fun _ _ _ _ h => h) (Want.plain rfl) rfl rfl (PV.move rfl rfl) ?_
        refine TD.take (i := 4) rfl (by kernel_rfl) (by kernel_rfl) (by kernel_rfl) (fun _ _ _ _ h => h) (Want.plain rfl) rfl rfl (PV.nilCheck rfl rfl) ?_
        refine TD.take (i := 5) rfl (by kernel_rfl) (by kernel_rfl) (by kernel_rfl) (fun _ _ _ _ h => h) (Want.plain rfl) rfl rfl (PV.fieldAddr (r := 0) rfl Try.underlying131 rfl sz129 rfl rfl) ?_
        refine TD.take (i := 6) rfl (by kernel_rfl) (by kernel_rfl) (by kernel_rfl) (fun _ _ _ _ h => h) (Want.plain rfl) rfl rfl (PV.indexArr (r := i * 5) rfl Try.underlying129 sz128 rfl rfl (by omega) (by omega) (by omega)) ?_
        refine TD.all [3] (by kernel_rfl) rfl ?_
        refine AllT.cons rfl ?_ ?_
        · skip
          refine TL.callR (A := []) (B := [blkA b5 (ws2) 131]) (Want.plain rfl) rfl rfl rfl nm61 rfl (boxNew_weak) (fun _ s => s) (fun _ _ _ => trivial) (fun vR HR hR => ?_)
          obtain ⟨bx, rfl, rfl⟩ := hR
          change TL _ _ _ _ _ _ _ _ _ [blkA b5 (ws2) 131]
          refine TL.nil ?_
          refine TE.draw (fun _ s => ⟨Frm.of s, trivial⟩) ?_
          refine TD.take (i := 7) rfl (by kernel_rfl) (by kernel_rfl) (by kernel_rfl) (fun _ _ _ _ h => h) (Want.plain rfl) rfl rfl (PV.indexArr (r := i * 5 + j) rfl Try.underlying128 sz127 rfl rfl (by omega) (by omega) (by omega)) ?_
          refine TD.all [8] (by kernel_rfl) rfl ?_
          refine AllT.cons rfl ?_ ?_
          · skip
            refine TL.store1 (i := 0) (H' := [blkA b5 ((ws2.set (i * 5 + j) (.pointer (some ⟨bx, 0, none⟩)))) 131]) (Want.plain rfl) rfl rfl rfl rfl rfl sz127 rfl rfl (by first | omega | (simp only [List.length_set]; omega)) rfl rfl ?_
            refine TL.nil ?_
            refine TE.draw (fun _ s => ⟨Frm.of s, trivial⟩) ?_
            refine TD.done (by kernel_rfl) ?_
            refine TE.blockEnd ?_
            refine TE.next hK12 ?_
            clear hK12
            refine TC.region ?_
            refine TL.v (Want.plain rfl) rfl rfl (PV.add rfl rfl rfl (wrap_i64 (by omega) (by omega))) ?_
            refine TL.v (Want.plain rfl) rfl rfl (PV.move rfl rfl) ?_
            refine TL.nil ?_
            exact TE.round ((j + 1, (ws2.set (i * 5 + j) (.pointer (some ⟨bx, 0, none⟩)))) : (Nat) × (List Value)) ⟨by omega, by simpa using hl2⟩ (by show 5 - (j + 1) < 5 - j; omega)
              (Sub.r (Sub.r (Sub.r (Sub.r (Sub.cons rfl (by simp) (Sub.nil _))))))
              (fun _ s => sep_keep [0] rfl s)
          exact AllT.nil
        exact AllT.nil
      · skip
        refine TL.nil ?_
        refine TE.next hK14 ?_
        clear hK14
        refine TC.no rfl ?_
        refine TC.skip ?_
        refine TE.blockEnd ?_
        refine TE.next hK12 ?_
        clear hK12
        refine TC.region ?_
        refine TL.v (Want.plain rfl) rfl rfl (PV.add rfl rfl rfl (wrap_i64 (by omega) (by omega))) ?_
        refine TL.v (Want.plain rfl) rfl rfl (PV.move rfl rfl) ?_
        refine TL.nil ?_
        exact TE.round ((j + 1, ws2) : (Nat) × (List Value)) ⟨by omega, by simpa using hl2⟩ (by show 5 - (j + 1) < 5 - j; omega)
          (Sub.r (Sub.r (Sub.r (Sub.r (Sub.cons rfl (by simp) (Sub.nil _))))))
          (fun _ s => sep_keep [0] rfl s)
    · skip
      refine TL.nil ?_
      refine TE.next hK10 ?_
      clear hK10
      refine TC.seq (fun K15 hK15 => ?_)
      refine TC.no rfl ?_
      refine TC.exit ?_
      refine TE.pass ?_
      clear hK15
      refine TE.pass ?_
      refine TE.hit ?_
      refine TE.blockEnd ?_
      refine TE.next hK7 ?_
      clear hK7
      refine TC.region ?_
      refine TL.v (Want.plain rfl) rfl rfl (PV.add rfl rfl rfl (wrap_i64 (by omega) (by omega))) ?_
      refine TL.v (Want.plain rfl) rfl rfl (PV.move rfl rfl) ?_
      refine TL.nil ?_
      exact TE.round ((i + 1, ws2) : (Nat) × (List Value)) ⟨by omega, by simpa using hl2⟩ (by show 5 - (i + 1) < 5 - i; omega)
        (Sub.r (Sub.r (Sub.cons rfl (by simp) (Sub.nil _))))
        (fun _ s => sep_keep [0] rfl s)
  · skip
    refine TL.nil ?_
    refine TE.next hK5 ?_
    clear hK5
    refine TC.seq (fun K16 hK16 => ?_)
    refine TC.no rfl ?_
    refine TC.exit ?_
    refine TE.pass ?_
    clear hK16
    refine TE.pass ?_
    refine TE.hit ?_
    refine TE.next hK3 ?_
    clear hK3
    refine TC.seq (fun K17 hK17 => ?_)
    refine TC.region ?_
    refine TL.v (Want.plain rfl) rfl rfl (PV.move rfl rfl) ?_
    refine TL.v (Want.plain rfl) rfl rfl (PV.assign rfl rfl) ?_
    refine TL.nil ?_
    refine TE.next hK17 ?_
    clear hK17
    refine TC.ret ?_
    refine TE.weak (Sub.refl _) (fun _ s => sep_keep [] rfl s) ?_
    refine TE.ret1 rfl rfl ?_
    exact ⟨b5, rfl, rfl⟩


theorem openNew_weak (d : Nat) : Does Try.prog 62 #[.pointer (some ⟨d, 0, none⟩)] (fun _ => True) [dk d DS.new] (Ret (fun r' H => ∃ lg vr, r' = .tuple #[.pointer (some ⟨lg, 0, none⟩), vr, .int .i64 0] ∧ SlLen vr 0 ∧ vr.oneCell' = true ∧ H = [])) := by
  obtain ⟨D', ho, _⟩ := LogD.open LogD.new rfl rfl
  refine (open_does d DS.new LogD.new.ok LogD.new.inn (by decide)).conv (fun _ s => s) fun e H F w hp m => ?_
  cases e with
  | returned v =>
    rw [ho] at hp
    rcases hp with ⟨h, _⟩ | ⟨_, lg, vr, rfl, rfl⟩
    · exact absurd rfl h
    · obtain ⟨h, d1, e1, hs⟩ := m
      obtain ⟨h1, h2, d2, rfl, _, h3, h4, d3, rfl, hr, _⟩ := hs
      obtain ⟨k1, k2⟩ := sep_recsLen hr
      exact ⟨[], ⟨_, d1, e1, trivial⟩, lg, vr, rfl, k1, k2, rfl⟩
  | panicked c => exact hp.elim
  | outgrown => exact hp.elim

theorem enter_weak (r : Nat) (cs : List Value) (v : ViewT) (hw0 : cs.length = 2818) :
    Does Try.prog 63 #[(.pointer (some ⟨r, 0, none⟩)), (.agg (ints v.flat).toArray)] (fun _ => True) [blkA r (cs) 151] (Ret (fun _ H => H = [])) := by
  refine Does.body (vs := [(.pointer (some ⟨r, 0, none⟩)), (.agg (ints v.flat).toArray)]) (n := 20) Try.func63 rfl rfl rfl (fun w0 F hF => ?_)
  refine TC.seq (fun K1 hK1 => ?_)
  refine TC.region ?_
  refine TL.box (Want.plain rfl) rfl rfl rfl rfl (fun b3 => ?_)
  change TL _ _ _ _ _ _ _ _ _ [blkA b3 (ints v.flat) 25, blkA r (cs) 151]
  refine TL.nil ?_
  refine TE.next hK1 ?_
  clear hK1
  refine TC.seq (fun K2 hK2 => ?_)
  refine TC.region ?_
  refine TL.v (Want.plain rfl) rfl rfl (PV.move rfl rfl) ?_
  refine TL.v (Want.plain rfl) rfl rfl (PV.loadN (vs := ints v.flat) rfl Try.underlying25 rfl sz25 rfl (Rd.own 0 rfl rfl) (ViewT.len v) (whole (ViewT.len v))) ?_
  refine TL.v (Want.plain rfl) rfl rfl (PV.nilCheck rfl rfl) ?_
  refine TL.v (Want.plain rfl) rfl rfl (PV.fieldAddr (r := 2) rfl Try.underlying151 rfl sz25 rfl rfl) ?_
  have hw1 : ((wr cs 2 (ints v.flat))).length = 2818 := by rw [wr_length (by have h0 := (ViewT.len v); omega)]; exact hw0
  refine TL.store (vs := ints v.flat) (i := 1) (H' := [blkA b3 (ints v.flat) 25, blkA r ((wr cs 2 (ints v.flat))) 151]) (Want.plain rfl) rfl rfl rfl rfl rfl (by rw [(ViewT.len v)]; exact sz25) (ints_one _) rfl rfl (by have h0 := (ViewT.len v); omega) rfl rfl ?_
  refine TL.nil ?_
  refine TE.next hK2 ?_
  clear hK2
  refine TC.seq (fun K3 hK3 => ?_)
  refine TC.region ?_
  refine TL.v (Want.plain rfl) rfl rfl (PV.move rfl rfl) ?_
  refine TL.v (Want.plain rfl) rfl rfl (PV.fieldAddr (r := 0) rfl Try.underlying25 rfl sz3 rfl rfl) ?_
  refine TL.v (Want.plain rfl) rfl rfl (PV.load1 (v := (.int .i64 (v.epoch))) rfl Try.underlying3 rfl rfl (Rd.own 0 rfl rfl) (ViewT.at_epoch v rfl)) ?_
  refine TL.v (Want.plain rfl) rfl rfl (PV.build (cells := #[(.int .i64 (v.epoch)), (.int .i64 0), (.int .i64 0), (.int .i64 0), (.int .i64 0), (.int .i64 0), (.int .i64 0), (.int .i64 0)]) rfl rfl (by as_aux_lemma => kernel_rfl)) ?_
  refine TL.v (Want.plain rfl) rfl rfl (PV.nilCheck rfl rfl) ?_
  refine TL.v (Want.plain rfl) rfl rfl (PV.fieldAddr (r := 1058) rfl Try.underlying151 rfl sz146 rfl rfl) ?_
  have hw2 : ((wr (wr cs 2 (ints v.flat)) 1058 ([(.int .i64 (v.epoch)), (.int .i64 0), (.int .i64 0), (.int .i64 0), (.int .i64 0), (.int .i64 0), (.int .i64 0), (.int .i64 0)]))).length = 2818 := by rw [wr_length (by simp only [List.length_cons, List.length_nil]; omega)]; exact hw1
  refine TL.store (vs := [(.int .i64 (v.epoch)), (.int .i64 0), (.int .i64 0), (.int .i64 0), (.int .i64 0), (.int .i64 0), (.int .i64 0), (.int .i64 0)]) (i := 1) (H' := [blkA b3 (ints v.flat) 25, blkA r ((wr (wr cs 2 (ints v.flat)) 1058 ([(.int .i64 (v.epoch)), (.int .i64 0), (.int .i64 0), (.int .i64 0), (.int .i64 0), (.int .i64 0), (.int .i64 0), (.int .i64 0)]))) 151]) (Want.plain rfl) rfl rfl rfl rfl rfl sz146 (by simp [Value.oneCell']) rfl rfl (by simp only [List.length_cons, List.length_nil]; omega) rfl rfl ?_
  refine TL.nil ?_
  refine TE.next hK3 ?_
  clear hK3
  refine TC.seq (fun K4 hK4 => ?_)
  refine TC.region ?_
  refine TL.v (Want.plain rfl) rfl rfl (PV.move rfl rfl) ?_
  refine TL.v (Want.plain rfl) rfl rfl (PV.nilCheck rfl rfl) ?_
  refine TL.v (Want.plain rfl) rfl rfl (PV.fieldAddr (r := 1067) rfl Try.underlying151 rfl sz147 rfl rfl) ?_
  have hw3 : ((wr (wr cs 2 (ints v.flat)) 1058 ([(.int .i64 (v.epoch)), (.int .i64 0), (.int .i64 0), (.int .i64 0), (.int .i64 0), (.int .i64 0), (.int .i64 0), (.int .i64 0)])).set 1067 (.pointer none)).length = 2818 := by rw [List.length_set]; exact hw2
  refine TL.store1 (i := 1) (H' := [blkA b3 (ints v.flat) 25, blkA r (((wr (wr cs 2 (ints v.flat)) 1058 ([(.int .i64 (v.epoch)), (.int .i64 0), (.int .i64 0), (.int .i64 0), (.int .i64 0), (.int .i64 0), (.int .i64 0), (.int .i64 0)])).set 1067 (.pointer none))) 151]) (Want.plain rfl) rfl rfl rfl rfl rfl sz147 rfl rfl (by omega) rfl rfl ?_
  refine TL.nil ?_
  refine TE.next hK4 ?_
  clear hK4
  refine TC.region ?_
  refine TL.v (Want.plain rfl) rfl rfl (PV.move rfl rfl) ?_
  refine TL.v (Want.plain rfl) rfl rfl (PV.nilCheck rfl rfl) ?_
  refine TL.v (Want.plain rfl) rfl rfl (PV.fieldAddr (r := 1066) rfl Try.underlying151 rfl sz3 rfl rfl) ?_
  have hw4 : (((wr (wr cs 2 (ints v.flat)) 1058 ([(.int .i64 (v.epoch)), (.int .i64 0), (.int .i64 0), (.int .i64 0), (.int .i64 0), (.int .i64 0), (.int .i64 0), (.int .i64 0)])).set 1067 (.pointer none)).set 1066 (.int .i64 0)).length = 2818 := by rw [List.length_set]; exact hw3
  refine TL.store1 (i := 1) (H' := [blkA b3 (ints v.flat) 25, blkA r ((((wr (wr cs 2 (ints v.flat)) 1058 ([(.int .i64 (v.epoch)), (.int .i64 0), (.int .i64 0), (.int .i64 0), (.int .i64 0), (.int .i64 0), (.int .i64 0), (.int .i64 0)])).set 1067 (.pointer none)).set 1066 (.int .i64 0))) 151]) (Want.plain rfl) rfl rfl rfl rfl rfl sz3 rfl rfl (by omega) rfl rfl ?_
  refine TL.nil ?_
  refine TE.weak (Sub.refl _) (fun _ s => sep_keep [] rfl s) ?_
  refine TE.end0 rfl ?_
  exact rfl


def rep0 : List Value := [.int .i64 0, .pointer none] ++ (List.replicate 1051 (.int .i64 0) ++ (List.replicate 5 (.bool false) ++ (List.replicate 9 (.int .i64 0) ++ (.pointer none :: (List.replicate 870 (.int .i64 0) ++ ([.bool false, .int .i64 0, .int .i64 0, .int .i64 0, .slice none 0 0] ++ List.replicate 875 (.int .i64 0)))))))
theorem rep0_len : rep0.length = 2818 := by simp [rep0]

theorem startNew_weak (i : Int) (d : Nat) :
    Does Try.prog 59 #[(.int .i64 (i)), (.pointer (some ⟨d, 0, none⟩))] (fun _ => True) [dk d (DS.new)] (Ret (fun r' H => ∃ v e, r' = .tuple #[v, .int .i64 e] ∧ v.oneCell' = true ∧ H = [])) := by
  refine Does.body (vs := [(.int .i64 (i)), (.pointer (some ⟨d, 0, none⟩))]) (n := 50) Try.func59 rfl rfl rfl (fun w0 F hF => ?_)
  refine TC.seq (fun K1 hK1 => ?_)
  refine TC.region ?_
  refine TL.v (Want.plain rfl) rfl rfl (PV.assign rfl rfl) ?_
  refine TL.v (Want.plain rfl) rfl rfl (PV.assign rfl rfl) ?_
  refine TL.nil ?_
  refine TE.next hK1 ?_
  clear hK1
  refine TC.seq (fun K2 hK2 => ?_)
  refine TC.seq (fun K3 hK3 => ?_)
  refine TC.region ?_
  refine TL.v (Want.plain rfl) rfl rfl (PV.move rfl rfl) ?_
  refine TL.v (Want.plain rfl) rfl rfl (PV.ptrNil rfl Try.underlying115 rfl rfl) ?_
  refine TL.nil ?_
  refine TE.next hK3 ?_
  clear hK3
  refine TC.no rfl ?_
  refine TC.skip ?_
  refine TE.next hK2 ?_
  clear hK2
  refine TC.seq (fun K4 hK4 => ?_)
  refine TC.region ?_
  refine TL.v (Want.plain rfl) rfl rfl (PV.move rfl rfl) ?_
  refine TL.callR (A := [dk d (DS.new)]) (B := []) (Want.plain rfl) rfl rfl rfl nm62 rfl (openNew_weak d) (fun _ s => s) (fun _ _ _ => trivial) (fun vR HR hR => ?_)
  obtain ⟨lg, vr, rfl, hsl, hvr, rfl⟩ := hR
  change TL _ _ _ _ _ _ _ _ _ []
  refine TL.v (Want.plain rfl) rfl rfl (PV.move rfl rfl) ?_
  refine TL.v (Want.plain rfl) rfl rfl (PV.extract (vs := [(.pointer (some ⟨lg, 0, none⟩)), vr, (.int .i64 0)]) rfl rfl rfl) ?_
  refine TL.v (Want.plain rfl) rfl rfl (PV.extract (vs := [(.pointer (some ⟨lg, 0, none⟩)), vr, (.int .i64 0)]) rfl rfl rfl) ?_
  refine TL.v (Want.plain rfl) rfl rfl (PV.extract (vs := [(.pointer (some ⟨lg, 0, none⟩)), vr, (.int .i64 0)]) rfl rfl rfl) ?_
  refine TL.v (Want.plain rfl) rfl rfl (PV.assign rfl rfl) ?_
  refine TL.v (Want.plain rfl) rfl rfl (PV.assign rfl rfl) ?_
  refine TL.v (Want.plain rfl) rfl rfl (PV.assign rfl rfl) ?_
  refine TL.nil ?_
  refine TE.next hK4 ?_
  clear hK4
  refine TC.seq (fun K5 hK5 => ?_)
  refine TC.seq (fun K6 hK6 => ?_)
  refine TC.region ?_
  refine TL.v (Want.plain rfl) rfl rfl (PV.move rfl rfl) ?_
  refine TL.v (Want.plain rfl) rfl rfl (PV.neq rfl rfl rfl) ?_
  refine TL.nil ?_
  refine TE.next hK6 ?_
  clear hK6
  refine TC.no rfl ?_
  refine TC.skip ?_
  refine TE.next hK5 ?_
  clear hK5
  refine TC.seq (fun K7 hK7 => ?_)
  refine TC.region ?_
  refine TL.v (Want.plain rfl) rfl rfl (PV.move rfl rfl) ?_
  refine TL.v (Want.plain rfl) rfl rfl (PV.move rfl rfl) ?_
  refine TL.v (Want.plain rfl) rfl rfl (PV.build (cells := ((rep0.set 0 (.int .i64 i)).set 1 (.pointer (some ⟨lg, 0, none⟩))).toArray) rfl rfl (by as_aux_lemma => kernel_rfl)) ?_
  refine TL.box (Want.plain rfl) rfl rfl rfl rfl (fun b28 => ?_)
  change TL _ _ _ _ _ _ _ _ _ [blkA b28 (((rep0.set 0 (.int .i64 i)).set 1 (.pointer (some ⟨lg, 0, none⟩)))) 151]
  refine TL.v (Want.plain rfl) rfl rfl (PV.assign rfl rfl) ?_
  refine TL.nil ?_
  refine TE.next hK7 ?_
  clear hK7
  refine TC.seq (fun K8 hK8 => ?_)
  refine TC.region ?_
  refine TL.v (Want.plain rfl) rfl rfl (PV.move rfl rfl) ?_
  refine TL.callR (A := []) (B := [blkA b28 (((rep0.set 0 (.int .i64 i)).set 1 (.pointer (some ⟨lg, 0, none⟩)))) 151]) (Want.plain rfl) rfl rfl rfl nm28 rfl (first_does ) (fun _ s => s) (fun _ _ _ => trivial) (fun vR HR hR => ?_)
  obtain ⟨rfl, rfl⟩ := hR
  change TL _ _ _ _ _ _ _ _ _ [blkA b28 (((rep0.set 0 (.int .i64 i)).set 1 (.pointer (some ⟨lg, 0, none⟩)))) 151]
  refine TL.callR (A := [blkA b28 (((rep0.set 0 (.int .i64 i)).set 1 (.pointer (some ⟨lg, 0, none⟩)))) 151]) (B := []) (Want.plain rfl) rfl rfl rfl nm63 rfl (enter_weak b28 ((rep0.set 0 (.int .i64 i)).set 1 (.pointer (some ⟨lg, 0, none⟩))) firstV (by rw [List.length_set, List.length_set]; exact rep0_len)) (fun _ s => s) (fun _ _ _ => trivial) (fun vR HR hR => ?_)
  obtain rfl := hR
  change TL _ _ _ _ _ _ _ _ _ []
  refine TL.nil ?_
  refine TE.next hK8 ?_
  clear hK8
  refine TC.seq (fun K9 hK9 => ?_)
  refine TC.seq (fun K10 hK10 => ?_)
  refine TC.region ?_
  refine TL.v (Want.plain rfl) rfl rfl (PV.move rfl rfl) ?_
  refine TL.v (Want.plain rfl) rfl rfl (PV.lenV rfl Try.underlying138 rfl hsl) ?_
  refine TL.v (Want.plain rfl) rfl rfl (PV.move rfl rfl) ?_
  refine TL.nil ?_
  refine TE.next hK10 ?_
  clear hK10
  refine TC.block ?_
  refine TC.unroll 1 ?_
  refine TC.seq (fun K11 hK11 => ?_)
  refine TC.region ?_
  refine TL.v (Want.plain rfl) rfl rfl (PV.lss rfl rfl rfl) ?_
  refine TL.nil ?_
  refine TE.next hK11 ?_
  clear hK11
  refine TC.seq (fun K12 hK12 => ?_)
  refine TC.no rfl ?_
  refine TC.exit ?_
  refine TE.pass ?_
  clear hK12
  refine TE.pass ?_
  refine TE.hit ?_
  refine TE.next hK9 ?_
  clear hK9
  refine TC.seq (fun K13 hK13 => ?_)
  refine TC.region ?_
  refine TL.v (Want.plain rfl) rfl rfl (PV.move rfl rfl) ?_
  refine TL.v (Want.plain rfl) rfl rfl (PV.assign rfl rfl) ?_
  refine TL.v (Want.plain rfl) rfl rfl (PV.assign rfl rfl) ?_
  refine TL.nil ?_
  refine TE.next hK13 ?_
  clear hK13
  refine TC.ret ?_
  refine TE.weak (Sub.refl _) (fun _ s => sep_keep [] rfl s) ?_
  refine TE.ret2 rfl rfl rfl ?_
  exact ⟨_, _, rfl, rfl, rfl⟩


theorem clusterNew_weak  :
    Does Try.prog 44 #[] (fun _ => True) [] (Ret (fun r' H => ∃ b, r' = .pointer (some ⟨b, 0, none⟩) ∧ H = [])) := by
  refine Does.body (vs := []) (n := 33) Try.func44 rfl rfl rfl (fun w0 F hF => ?_)
  refine TC.seq (fun K1 hK1 => ?_)
  refine TC.region ?_
  refine TL.v (Want.plain rfl) rfl rfl (PV.assign rfl rfl) ?_
  refine TL.nil ?_
  refine TE.next hK1 ?_
  clear hK1
  refine TC.seq (fun K2 hK2 => ?_)
  refine TC.region ?_
  refine TL.callR (A := []) (B := []) (Want.plain rfl) rfl rfl rfl nm57 rfl (netNew_weak) (fun _ s => s) (fun _ _ _ => trivial) (fun vR HR hR => ?_)
  obtain ⟨nb, rfl, rfl⟩ := hR
  change TL _ _ _ _ _ _ _ _ _ []
  refine TL.v (Want.plain rfl) rfl rfl (PV.build (cells := #[(.pointer (some ⟨nb, 0, none⟩)), (.pointer none), (.pointer none), (.pointer none), (.pointer none), (.pointer none), (.pointer none), (.pointer none), (.pointer none), (.pointer none), (.pointer none), (.slice none 0 0), (.slice none 0 0), (.slice none 0 0), (.slice none 0 0), (.slice none 0 0)]) rfl rfl (by as_aux_lemma => kernel_rfl)) ?_
  refine TL.box (Want.plain rfl) rfl rfl rfl rfl (fun b5 => ?_)
  change TL _ _ _ _ _ _ _ _ _ [blkA b5 [(.pointer (some ⟨nb, 0, none⟩)), (.pointer none), (.pointer none), (.pointer none), (.pointer none), (.pointer none), (.pointer none), (.pointer none), (.pointer none), (.pointer none), (.pointer none), (.slice none 0 0), (.slice none 0 0), (.slice none 0 0), (.slice none 0 0), (.slice none 0 0)] 122]
  refine TL.v (Want.plain rfl) rfl rfl (PV.assign rfl rfl) ?_
  refine TL.nil ?_
  refine TE.next hK2 ?_
  clear hK2
  refine TC.seq (fun K3 hK3 => ?_)
  refine TC.seq (fun K4 hK4 => ?_)
  refine TC.region ?_
  refine TL.v (Want.plain rfl) rfl rfl (PV.move rfl rfl) ?_
  refine TL.nil ?_
  refine TE.next hK4 ?_
  clear hK4
  refine TC.block ?_
  refine TC.loop (α := (Nat) × (List Value)) (fun ⟨i, ws⟩ => i ≤ 5 ∧ ws.length = 16) (fun ⟨i, ws⟩ => [(0, (.pointer none)), (1, (.pointer (some ⟨b5, 0, none⟩))), (6, (.int .i64 (((i : Nat) : Int))))]) (fun ⟨i, ws⟩ => [blkA b5 (ws) 122]) (fun ⟨i, ws⟩ => 5 - i) (0, (.pointer (some ⟨nb, 0, none⟩) :: (List.replicate 10 (.pointer none) ++ List.replicate 5 (.slice none 0 0))))
      ⟨by omega, rfl⟩ (Sub.r (Sub.r (Sub.cons rfl (by congr 1) (Sub.nil _))))
      (fun _ s => s) (fun ⟨i, ws⟩ hinv => ?_)
  obtain ⟨hi, hl⟩ := hinv
  refine TC.seq (fun K5 hK5 => ?_)
  refine TC.region ?_
  refine TL.v (Want.plain rfl) rfl rfl (PV.lss rfl rfl rfl) ?_
  refine TL.dec (fun h7 => ?_) (fun h7 => ?_)
  · skip
    refine TL.nil ?_
    refine TE.next hK5 ?_
    clear hK5
    refine TC.seq (fun K6 hK6 => ?_)
    refine TC.yes rfl ?_
    refine TC.skip ?_
    refine TE.next hK6 ?_
    clear hK6
    refine TC.seq (fun K7 hK7 => ?_)
    refine TC.block ?_
    refine TC.seq (fun K8 hK8 => ?_)
    refine TC.region ?_
    refine TL.v (Want.plain rfl) rfl rfl (PV.move rfl rfl) ?_
    refine TL.v (Want.plain rfl) rfl rfl (PV.assign rfl rfl) ?_
    refine TL.nil ?_
    refine TE.next hK8 ?_
    clear hK8
    refine TC.seq (fun K9 hK9 => ?_)
    refine TC.draw (fun w => Frm F w ∧ True) mixed rfl (fun _ s => ⟨Frm.of s, trivial⟩) ?_
    refine TD.take (i := 0) rfl (by kernel_rfl) (by kernel_rfl) (by kernel_rfl) (fun _ _ _ _ h => h) (Want.plain rfl) rfl rfl (PV.move rfl rfl) ?_
    refine TD.take (i := 1) rfl (by kernel_rfl) (by kernel_rfl) (by kernel_rfl) (fun _ _ _ _ h => h) (Want.plain rfl) rfl rfl (PV.move rfl rfl) ?_
    refine TD.take (i := 3) rfl (by kernel_rfl) (by kernel_rfl) (by kernel_rfl) (fun _ _ _ _ h => h) (Want.plain rfl) rfl rfl (PV.nilCheck rfl rfl) ?_
    refine TD.take (i := 4) rfl (by kernel_rfl) (by kernel_rfl) (by kernel_rfl) (fun _ _ _ _ h => h) (Want.plain rfl) rfl rfl (PV.fieldAddr (r := 1) rfl Try.underlying122 rfl sz116 rfl rfl) ?_
    refine TD.all [2] (by kernel_rfl) rfl ?_
    refine AllT.cons rfl ?_ ?_
    · skip
      refine TL.callR (A := []) (B := [blkA b5 (ws) 122]) (Want.plain rfl) rfl rfl rfl nm58 rfl (dk_new) (fun _ s => s) (fun _ _ _ => trivial) (fun vR HR hR => ?_)
      obtain ⟨dp, rfl, rfl⟩ := hR
      change TL _ _ _ _ _ _ _ _ _ [dk dp (DS.new), blkA b5 (ws) 122]
      refine TL.nil ?_
      refine TE.draw (fun _ s => ⟨Frm.of s, trivial⟩) ?_
      refine TD.take (i := 5) rfl (by kernel_rfl) (by kernel_rfl) (by kernel_rfl) (fun _ _ _ _ h => h) (Want.plain rfl) rfl rfl (PV.indexArr (r := 1 + i) rfl Try.underlying116 sz115 rfl rfl (by omega) (by omega) (by omega)) ?_
      refine TD.all [6] (by kernel_rfl) rfl ?_
      refine AllT.cons rfl ?_ ?_
      · skip
        refine TL.store1 (i := 1) (H' := [dk dp (DS.new), blkA b5 ((ws.set (1 + i) (.pointer (some ⟨dp, 0, none⟩)))) 122]) (Want.plain rfl) rfl rfl rfl rfl rfl sz115 rfl rfl (by first | omega | (simp only [List.length_set]; omega)) rfl rfl ?_
        refine TL.nil ?_
        refine TE.draw (fun _ s => ⟨Frm.of s, trivial⟩) ?_
        refine TD.done (by kernel_rfl) ?_
        refine TE.next hK9 ?_
        clear hK9
        refine TC.draw (fun w => Frm F w ∧ True) mixed rfl (fun _ s => ⟨Frm.of s, trivial⟩) ?_
        refine TD.take (i := 0) rfl (by kernel_rfl) (by kernel_rfl) (by kernel_rfl) (fun _ _ _ _ h => h) (Want.plain rfl) rfl rfl (PV.move rfl rfl) ?_
        refine TD.take (i := 1) rfl (by kernel_rfl) (by kernel_rfl) (by kernel_rfl) (fun _ _ _ _ h => h) (Want.plain rfl) rfl rfl (PV.move rfl rfl) ?_
        refine TD.take (i := 2) rfl (by kernel_rfl) (by kernel_rfl) (by kernel_rfl) (fun _ _ _ _ h => h) (Want.plain rfl) rfl rfl (PV.move rfl rfl) ?_
        refine TD.take (i := 3) rfl (by kernel_rfl) (by kernel_rfl) (by kernel_rfl) (fun _ _ _ _ h => h) (Want.plain rfl) rfl rfl (PV.move rfl rfl) ?_
        refine TD.take (i := 4) rfl (by kernel_rfl) (by kernel_rfl) (by kernel_rfl) (fun _ _ _ _ h => h) (Want.plain rfl) rfl rfl (PV.move rfl rfl) ?_
        refine TD.take (i := 5) rfl (by kernel_rfl) (by kernel_rfl) (by kernel_rfl) (fun _ _ _ _ h => h) (Want.plain rfl) rfl rfl (PV.nilCheck rfl rfl) ?_
        refine TD.take (i := 6) rfl (by kernel_rfl) (by kernel_rfl) (by kernel_rfl) (fun _ _ _ _ h => h) (Want.plain rfl) rfl rfl (PV.fieldAddr (r := 1) rfl Try.underlying122 rfl sz116 rfl rfl) ?_
        refine TD.take (i := 7) rfl (by kernel_rfl) (by kernel_rfl) (by kernel_rfl) (fun _ _ _ _ h => h) (Want.plain rfl) rfl rfl (PV.indexArr (r := 1 + i) rfl Try.underlying116 sz115 rfl rfl (by omega) (by omega) (by omega)) ?_
        refine TD.take (i := 13) rfl (by kernel_rfl) (by kernel_rfl) (by kernel_rfl) (fun _ _ _ _ h => h) (Want.plain rfl) rfl rfl (PV.nilCheck rfl rfl) ?_
        refine TD.take (i := 14) rfl (by kernel_rfl) (by kernel_rfl) (by kernel_rfl) (fun _ _ _ _ h => h) (Want.plain rfl) rfl rfl (PV.fieldAddr (r := 6) rfl Try.underlying122 rfl sz118 rfl rfl) ?_
        refine TD.all [8] (by kernel_rfl) rfl ?_
        refine AllT.cons rfl ?_ ?_
        · skip
          refine TL.v (Want.plain rfl) rfl rfl (PV.load1 (v := (.pointer (some ⟨dp, 0, none⟩))) rfl Try.underlying115 rfl rfl (Rd.own 1 rfl rfl) (List.getElem?_set_self (by omega))) ?_
          refine TL.nil ?_
          refine TE.draw (fun _ s => ⟨Frm.of s, trivial⟩) ?_
          refine TD.all [9] (by kernel_rfl) rfl ?_
          refine AllT.cons rfl ?_ ?_
          · skip
            refine TL.callR (A := [dk dp (DS.new)]) (B := [blkA b5 ((ws.set (1 + i) (.pointer (some ⟨dp, 0, none⟩)))) 122]) (Want.plain rfl) rfl rfl rfl nm59 rfl (startNew_weak ((i : Nat) : Int) dp) (fun _ s => s) (fun _ _ _ => trivial) (fun vR HR hR => ?_)
            obtain ⟨vm, em, rfl, hvm, rfl⟩ := hR
            change TL _ _ _ _ _ _ _ _ _ [blkA b5 ((ws.set (1 + i) (.pointer (some ⟨dp, 0, none⟩)))) 122]
            refine TL.nil ?_
            refine TE.draw (fun _ s => ⟨Frm.of s, trivial⟩) ?_
            refine TD.take (i := 10) rfl (by kernel_rfl) (by kernel_rfl) (by kernel_rfl) (fun _ _ _ _ h => h) (Want.plain rfl) rfl rfl (PV.move rfl rfl) ?_
            refine TD.take (i := 11) rfl (by kernel_rfl) (by kernel_rfl) (by kernel_rfl) (fun _ _ _ _ h => h) (Want.plain rfl) rfl rfl (PV.extract (vs := [vm, (.int .i64 (em))]) rfl rfl rfl) ?_
            refine TD.take (i := 12) rfl (by kernel_rfl) (by kernel_rfl) (by kernel_rfl) (fun _ _ _ _ h => h) (Want.plain rfl) rfl rfl (PV.extract (vs := [vm, (.int .i64 (em))]) rfl rfl rfl) ?_
            refine TD.take (i := 15) rfl (by kernel_rfl) (by kernel_rfl) (by kernel_rfl) (fun _ _ _ _ h => h) (Want.plain rfl) rfl rfl (PV.indexArr (r := 6 + i) rfl Try.underlying118 sz117 rfl rfl (by omega) (by omega) (by omega)) ?_
            refine TD.all [16] (by kernel_rfl) rfl ?_
            refine AllT.cons rfl ?_ ?_
            · skip
              refine TL.store1 (i := 0) (H' := [blkA b5 (((ws.set (1 + i) (.pointer (some ⟨dp, 0, none⟩))).set (6 + i) vm)) 122]) (Want.plain rfl) rfl rfl rfl rfl hvm sz117 rfl rfl (by first | omega | (simp only [List.length_set]; omega)) rfl rfl ?_
              refine TL.nil ?_
              refine TE.draw (fun _ s => ⟨Frm.of s, trivial⟩) ?_
              refine TD.done (by kernel_rfl) ?_
              refine TE.blockEnd ?_
              refine TE.next hK7 ?_
              clear hK7
              refine TC.region ?_
              refine TL.v (Want.plain rfl) rfl rfl (PV.add rfl rfl rfl (wrap_i64 (by omega) (by omega))) ?_
              refine TL.v (Want.plain rfl) rfl rfl (PV.move rfl rfl) ?_
              refine TL.nil ?_
              exact TE.round ((i + 1, ((ws.set (1 + i) (.pointer (some ⟨dp, 0, none⟩))).set (6 + i) vm)) : (Nat) × (List Value)) ⟨by omega, by simpa using hl⟩ (by show 5 - (i + 1) < 5 - i; omega)
                (Sub.r (Sub.r (Sub.cons rfl (by simp) (Sub.nil _))))
                (fun _ s => sep_keep [0] rfl s)
            exact AllT.nil
          exact AllT.nil
        exact AllT.nil
      exact AllT.nil
    exact AllT.nil
  · skip
    refine TL.nil ?_
    refine TE.next hK5 ?_
    clear hK5
    refine TC.seq (fun K10 hK10 => ?_)
    refine TC.no rfl ?_
    refine TC.exit ?_
    refine TE.pass ?_
    clear hK10
    refine TE.pass ?_
    refine TE.hit ?_
    refine TE.next hK3 ?_
    clear hK3
    refine TC.seq (fun K11 hK11 => ?_)
    refine TC.region ?_
    refine TL.v (Want.plain rfl) rfl rfl (PV.move rfl rfl) ?_
    refine TL.v (Want.plain rfl) rfl rfl (PV.assign rfl rfl) ?_
    refine TL.nil ?_
    refine TE.next hK11 ?_
    clear hK11
    refine TC.ret ?_
    refine TE.weak (Sub.refl _) (fun _ s => sep_keep [] rfl s) ?_
    refine TE.ret1 rfl rfl ?_
    exact ⟨b5, rfl, rfl⟩


end Go.Proofs.Ytdekgkmbcdlekaa
