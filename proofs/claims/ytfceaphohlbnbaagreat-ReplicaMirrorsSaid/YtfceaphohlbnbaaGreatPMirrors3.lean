/-
  Joined texts: what a statement's proof reaches.
-/
import Derived.OpenShut
import Derived.Deep.Slices
import Derived.ChangeArms
import Derived.WalkSpells
import Derived.Test.YtfceaphohlbnbaaGreatPMirrors2
set_option maxHeartbeats 8000000
section
namespace Go.Proofs.YtfceaphohlbnbaaGreat

open Go Leg Codec Api

set_option linter.unusedSimpArgs false
set_option linter.unusedVariables false

set_option maxRecDepth 100000

set_option maxHeartbeats 8000000

theorem sz69 : (Tryz.prog.info? 69).map (·.size) = some 870 := by kernel_rfl

theorem sz71 : (Tryz.prog.info? 71).map (·.size) = some 870 := by kernel_rfl

theorem sz77 : (Tryz.prog.info? 77).map (·.size) = some 875 := by kernel_rfl

theorem nm80 : Named Tryz.prog 80 := ⟨Tryz.f80, Tryz.func80, by kernel_rfl, by kernel_rfl⟩

theorem nm114 : Named Tryz.prog 114 := ⟨Tryz.f114, Tryz.func114, by kernel_rfl, by kernel_rfl⟩

theorem rowMachine_does (w : Int) :
    Does Tryz.prog 110 #[(.int .i64 (w))] (fun _ => True) [] (Ret (fun r' H => r' = .bool (machB w) ∧ H = [])) := by
 refine Does.body (vs := [(.int .i64 (w))]) (n := 9) Tryz.func110 rfl rfl rfl (fun w0 F hF => ?_)
 refine sr fun _ J1 => ?_
 refine sg' ?_
 refine nx J1 ?_
 refine sr fun _ J2 => ?_
 refine mv ?_
 refine tp (PV.geq rfl rfl rfl) ?_
 refine TL.dec (fun h4 => ?_) (fun h4 => ?_)
 refine mv ?_
 refine tq (PV.move rfl rfl) ?_
 refine tq (PV.lss rfl rfl rfl) ?_
 refine tp (PV.pick rfl rfl rfl) ?_
 refine sg' ?_
 refine nx J2 ?_
 refine TC.ret ?_
 refine TE.ret1 rfl rfl ?_
 exact ⟨congrArg Value.bool (by unfold machB; first | (rw [decide_eq_decide]; omega) | (symm; rw [decide_eq_false_iff_not]; omega) | (symm; rw [decide_eq_true_iff]; omega)), rfl⟩
 refine mv ?_
 refine TL.unmet (b := false) rfl rfl rfl rfl (lb rfl) ?_
 refine TL.unmet (b := false) rfl rfl rfl rfl (lb rfl) ?_
 refine tp (PV.pick rfl rfl rfl) ?_
 refine sg' ?_
 refine nx J2 ?_
 refine TC.ret ?_
 refine TE.ret1 rfl rfl ?_
 exact ⟨congrArg Value.bool (by unfold machB; first | (rw [decide_eq_decide]; omega) | (symm; rw [decide_eq_false_iff_not]; omega) | (symm; rw [decide_eq_true_iff]; omega)), rfl⟩
theorem bookMachine_does (w : Int) :
    Does Tryz.prog 50 #[(.int .i64 (w))] (fun _ => True) [] (Ret (fun r' H => r' = .bool (machB w) ∧ H = [])) := by
 refine Does.body (vs := [(.int .i64 (w))]) (n := 9) Tryz.func50 rfl rfl rfl (fun w0 F hF => ?_)
 refine sr fun _ J1 => ?_
 refine sg' ?_
 refine nx J1 ?_
 refine sr fun _ J2 => ?_
 refine mv ?_
 refine tp (PV.geq rfl rfl rfl) ?_
 refine TL.dec (fun h4 => ?_) (fun h4 => ?_)
 refine mv ?_
 refine tq (PV.move rfl rfl) ?_
 refine tq (PV.lss rfl rfl rfl) ?_
 refine tp (PV.pick rfl rfl rfl) ?_
 refine sg' ?_
 refine nx J2 ?_
 refine TC.ret ?_
 refine TE.ret1 rfl rfl ?_
 exact ⟨congrArg Value.bool (by unfold machB; first | (rw [decide_eq_decide]; omega) | (symm; rw [decide_eq_false_iff_not]; omega) | (symm; rw [decide_eq_true_iff]; omega)), rfl⟩
 refine mv ?_
 refine TL.unmet (b := false) rfl rfl rfl rfl (lb rfl) ?_
 refine TL.unmet (b := false) rfl rfl rfl rfl (lb rfl) ?_
 refine tp (PV.pick rfl rfl rfl) ?_
 refine sg' ?_
 refine nx J2 ?_
 refine TC.ret ?_
 refine TE.ret1 rfl rfl ?_
 exact ⟨congrArg Value.bool (by unfold machB; first | (rw [decide_eq_decide]; omega) | (symm; rw [decide_eq_false_iff_not]; omega) | (symm; rw [decide_eq_true_iff]; omega)), rfl⟩
theorem mirrorMachine_does (w : Int) :
    Does Tryz.prog 55 #[(.int .i64 (w))] (fun _ => True) [] (Ret (fun r' H => r' = .bool (machB w) ∧ H = [])) := by
 refine Does.body (vs := [(.int .i64 (w))]) (n := 9) Tryz.func55 rfl rfl rfl (fun w0 F hF => ?_)
 refine sr fun _ J1 => ?_
 refine sg' ?_
 refine nx J1 ?_
 refine sr fun _ J2 => ?_
 refine mv ?_
 refine tp (PV.geq rfl rfl rfl) ?_
 refine TL.dec (fun h4 => ?_) (fun h4 => ?_)
 refine mv ?_
 refine tq (PV.move rfl rfl) ?_
 refine tq (PV.lss rfl rfl rfl) ?_
 refine tp (PV.pick rfl rfl rfl) ?_
 refine sg' ?_
 refine nx J2 ?_
 refine TC.ret ?_
 refine TE.ret1 rfl rfl ?_
 exact ⟨congrArg Value.bool (by unfold machB; first | (rw [decide_eq_decide]; omega) | (symm; rw [decide_eq_false_iff_not]; omega) | (symm; rw [decide_eq_true_iff]; omega)), rfl⟩
 refine mv ?_
 refine TL.unmet (b := false) rfl rfl rfl rfl (lb rfl) ?_
 refine TL.unmet (b := false) rfl rfl rfl rfl (lb rfl) ?_
 refine tp (PV.pick rfl rfl rfl) ?_
 refine sg' ?_
 refine nx J2 ?_
 refine TC.ret ?_
 refine TE.ret1 rfl rfl ?_
 exact ⟨congrArg Value.bool (by unfold machB; first | (rw [decide_eq_decide]; omega) | (symm; rw [decide_eq_false_iff_not]; omega) | (symm; rw [decide_eq_true_iff]; omega)), rfl⟩
theorem asked_does (key n : Int) :
    Does Tryz.prog 106 #[(.int .i64 (key)), (.int .i64 (n))] (fun _ => True) [] (Ret (fun r' H => r' = .bool (askB key n) ∧ H = [])) := by
 refine Does.body (vs := [(.int .i64 (key)), (.int .i64 (n))]) (n := 19) Tryz.func106 rfl rfl rfl (fun w0 F hF => ?_)
 refine sr fun _ J1 => ?_
 refine sg' ?_
 refine nx J1 ?_
 clear J1
 refine sr fun _ J2 => ?_
 refine mv ?_
 refine tp (PV.geq rfl rfl rfl) ?_
 refine TL.dec (fun h6 => ?_) (fun h6 => ?_)
 refine mv ?_
 refine tq (PV.move rfl rfl) ?_
 refine tq (PV.lss rfl rfl rfl) ?_
 refine TL.dec (fun h9 => ?_) (fun h9 => ?_)
 refine tp (PV.pick rfl rfl rfl) ?_
 refine mv ?_
 refine tq (PV.move rfl rfl) ?_
 refine tq (PV.geq rfl rfl rfl) ?_
 refine TL.dec (fun h13 => ?_) (fun h13 => ?_)
 refine tp (PV.pick rfl rfl rfl) ?_
 refine mv ?_
 refine tq (PV.move rfl rfl) ?_
 refine TL.callR (A := []) (Want.met rfl rfl rfl) rfl rfl rfl nm95 rfl (numRight_does n) (fun _ s => s) (fun _ _ _ => trivial) (fun vR HR hR => ?_)
 obtain ⟨rfl, rfl⟩ := hR
 change TL _ _ _ _ _ _ _ _ _ []
 refine tp (PV.pick rfl rfl rfl) ?_
 refine sg' ?_
 refine nx J2 ?_
 clear J2
 refine TC.ret ?_
 refine TE.weak (Sub.refl _) (fun _ s => sep_keep [] rfl s) ?_
 refine TE.ret1 rfl rfl ?_
 exact ⟨congrArg Value.bool (by simp [askB, keyB, *]), rfl⟩
 refine tp (PV.pick rfl rfl rfl) ?_
 refine mv ?_
 refine TL.unmet (b := false) rfl rfl rfl rfl (lb rfl) ?_
 refine TL.unmet (b := false) rfl rfl rfl rfl (lb rfl) ?_
 refine tp (PV.pick rfl rfl rfl) ?_
 refine sg' ?_
 refine nx J2 ?_
 clear J2
 refine TC.ret ?_
 refine TE.weak (Sub.refl _) (fun _ s => sep_keep [] rfl s) ?_
 refine TE.ret1 rfl rfl ?_
 exact ⟨congrArg Value.bool (by simp [askB, keyB, *]), rfl⟩
 refine tp (PV.pick rfl rfl rfl) ?_
 refine mv ?_
 refine TL.unmet (b := false) rfl rfl rfl rfl (lb rfl) ?_
 refine TL.unmet (b := false) rfl rfl rfl rfl (lb rfl) ?_
 refine tp (PV.pick rfl rfl rfl) ?_
 refine mv ?_
 refine TL.unmet (b := false) rfl rfl rfl rfl (lb rfl) ?_
 refine TL.unmet (b := false) rfl rfl rfl rfl (lb rfl) ?_
 refine tp (PV.pick rfl rfl rfl) ?_
 refine sg' ?_
 refine nx J2 ?_
 clear J2
 refine TC.ret ?_
 refine TE.weak (Sub.refl _) (fun _ s => sep_keep [] rfl s) ?_
 refine TE.ret1 rfl rfl ?_
 exact ⟨congrArg Value.bool (by simp [askB, keyB, *]), rfl⟩
 refine mv ?_
 refine TL.unmet (b := false) rfl rfl rfl rfl (lb rfl) ?_
 refine TL.unmet (b := false) rfl rfl rfl rfl (lb rfl) ?_
 refine tp (PV.pick rfl rfl rfl) ?_
 refine mv ?_
 refine TL.unmet (b := false) rfl rfl rfl rfl (lb rfl) ?_
 refine TL.unmet (b := false) rfl rfl rfl rfl (lb rfl) ?_
 refine tp (PV.pick rfl rfl rfl) ?_
 refine mv ?_
 refine TL.unmet (b := false) rfl rfl rfl rfl (lb rfl) ?_
 refine TL.unmet (b := false) rfl rfl rfl rfl (lb rfl) ?_
 refine tp (PV.pick rfl rfl rfl) ?_
 refine sg' ?_
 refine nx J2 ?_
 clear J2
 refine TC.ret ?_
 refine TE.weak (Sub.refl _) (fun _ s => sep_keep [] rfl s) ?_
 refine TE.ret1 rfl rfl ?_
 exact ⟨congrArg Value.bool (by simp [askB, keyB, *]), rfl⟩
theorem inc1_does (b off T : Nat) (cs : List Value) (n : Int) (h : cs[off]? = some (.int .i64 n)) :
    Does Tryz.prog 108 #[(.pointer (some ⟨b, off, none⟩))] (fun _ => True) [blkA b (cs) T] (Ret (fun r' H => r' = .tuple #[.int .i64 n, .pointer (some ⟨b, off, none⟩)] ∧ H = [blkA b cs T])) := by
 refine Does.body (vs := [(.pointer (some ⟨b, off, none⟩))]) (n := 11) Tryz.func108 rfl rfl rfl (fun w0 F hF => ?_)
 refine sr fun _ J1 => ?_
 refine sg' ?_
 refine sg' ?_
 refine nx J1 ?_
 refine TC.seq fun _ J2 => ?_
 refine TC.draw (fun w => Frm F w ∧ w.heap[b]? = some (.cells (cs).toArray T (0, 0)) ∧ True) mixed rfl (fun _ s => ⟨Frm.of s, s.block 0 (lb rfl) rfl, trivial⟩) ?_
 refine ta 0 rfl (PV.move rfl rfl) ?_
 refine ta 1 rfl (PV.nilCheck rfl rfl) ?_
 refine ta 2 rfl (PV.fieldAddr (r := off) rfl Tryz.underlying44 rfl sz3 rfl rfl) ?_
 refine ta 3 rfl (PV.load1 (v := (.int .i64 (n))) rfl Tryz.underlying3 rfl rfl (fun _ h => h.2.1) h) ?_
 refine ta 4 rfl (PV.move rfl rfl) ?_
 refine ta 5 rfl (PV.nilCheck rfl rfl) ?_
 refine ta 6 rfl (PV.fieldAddr (r := off) rfl Tryz.underlying44 rfl sz3 rfl rfl) ?_
 refine ta 7 rfl (PV.assign rfl rfl) ?_
 refine ta 8 rfl (PV.assign rfl rfl) ?_
 refine TD.done (by kernel_rfl) ?_
 refine TE.next J2 ?_
 refine TC.ret ?_
 refine TE.weak (Sub.refl _) (fun _ s => sep_keep [0] rfl s) ?_
 refine TE.ret2 rfl rfl rfl ?_
 exact ⟨rfl, rfl⟩
theorem dec1_does (b off T : Nat) (cs : List Value) (n : Int) (h : cs[off + 1]? = some (.int .i64 n)) :
    Does Tryz.prog 109 #[(.pointer (some ⟨b, off, none⟩))] (fun _ => True) [blkA b (cs) T] (Ret (fun r' H => r' = .tuple #[.int .i64 n, .pointer (some ⟨b, off + 1, none⟩)] ∧ H = [blkA b cs T])) := by
 refine Does.body (vs := [(.pointer (some ⟨b, off, none⟩))]) (n := 11) Tryz.func109 rfl rfl rfl (fun w0 F hF => ?_)
 refine sr fun _ J1 => ?_
 refine sg' ?_
 refine sg' ?_
 refine nx J1 ?_
 refine TC.seq fun _ J2 => ?_
 refine TC.draw (fun w => Frm F w ∧ w.heap[b]? = some (.cells (cs).toArray T (0, 0)) ∧ True) mixed rfl (fun _ s => ⟨Frm.of s, s.block 0 (lb rfl) rfl, trivial⟩) ?_
 refine ta 0 rfl (PV.move rfl rfl) ?_
 refine ta 1 rfl (PV.nilCheck rfl rfl) ?_
 refine ta 2 rfl (PV.fieldAddr (r := off + 1) rfl Tryz.underlying44 rfl sz3 rfl rfl) ?_
 refine ta 3 rfl (PV.load1 (v := (.int .i64 (n))) rfl Tryz.underlying3 rfl rfl (fun _ h => h.2.1) h) ?_
 refine ta 4 rfl (PV.move rfl rfl) ?_
 refine ta 5 rfl (PV.nilCheck rfl rfl) ?_
 refine ta 6 rfl (PV.fieldAddr (r := off + 1) rfl Tryz.underlying44 rfl sz3 rfl rfl) ?_
 refine ta 7 rfl (PV.assign rfl rfl) ?_
 refine ta 8 rfl (PV.assign rfl rfl) ?_
 refine TD.done (by kernel_rfl) ?_
 refine TE.next J2 ?_
 refine TC.ret ?_
 refine TE.weak (Sub.refl _) (fun _ s => sep_keep [0] rfl s) ?_
 refine TE.ret2 rfl rfl rfl ?_
 exact ⟨rfl, rfl⟩
theorem give1_does (b off T tb : Nat) (cs : List Value) (g : Vector Int 5) (to' : Int) (ht : 0 ≤ to' ∧ to' < 5) (h : (cs.drop (off + 2)).take 5 = ints g.toList) :
    Does Tryz.prog 111 #[(.pointer (some ⟨b, off, none⟩)), (.pointer (some ⟨tb, 0, none⟩))] (fun _ => True) [blkA b (cs) T, blkA tb [(.int .i64 (to'))] 3] (Ret (fun r' H => r' = .tuple #[.int .i64 (g.toList.foldl (fun s g => w64 (s + g)) 0), .pointer (some ⟨b, off + 2 + to'.toNat, none⟩)] ∧ H = [blkA b cs T, blkA tb [.int .i64 to'] 3])) := by
 refine Does.body (vs := [(.pointer (some ⟨b, off, none⟩)), (.pointer (some ⟨tb, 0, none⟩))]) (n := 25) Tryz.func111 rfl rfl rfl (fun w0 F hF => ?_)
 refine sr fun _ J1 => ?_
 refine sg' ?_
 refine sg' ?_
 refine nx J1 ?_
 refine sr fun _ J2 => ?_
 refine sg' ?_
 refine nx J2 ?_
 refine TC.seq fun _ J3 => ?_
 refine sr fun _ J4 => ?_
 refine mv ?_
 refine tp (PV.nilCheck rfl rfl) ?_
 refine tp (PV.fieldAddr (r := off + 2) rfl Tryz.underlying44 rfl sz42 rfl rfl) ?_
 refine tp (PV.loadN (vs := ints g.toList) rfl Tryz.underlying42 rfl sz42 rfl (Rd.own 0 rfl rfl) (vi5_len g) h) ?_
 refine mv ?_
 refine nx J4 ?_
 refine TC.block ?_
 refine TC.loop (α := (Nat) × (Int)) (fun ⟨k, s⟩ => k ≤ 5 ∧ s = (g.toList.take k).foldl (fun s g => w64 (s + g)) 0) (fun ⟨k, s⟩ => [(0, (.pointer (some ⟨b, off, none⟩))), (1, (.pointer (some ⟨tb, 0, none⟩))), (3, (.int .i64 0)), (4, (.pointer none)), (5, (.int .i64 (s))), (11, (.agg (ints g.toList).toArray)), (12, (.int .i64 (((k : Nat) : Int))))]) (fun ⟨k, s⟩ => [blkA b (cs) T, blkA tb [(.int .i64 (to'))] 3]) (fun ⟨k, s⟩ => 5 - k) (0, 0)
     ⟨Nat.zero_le _, rfl⟩ (Sub.r (Sub.r (Sub.r (Sub.r (Sub.cons rfl (by congr 1) (Sub.r (Sub.cons rfl (by congr 1) (Sub.nil _))))))))
     (fun _ s => s) (fun ⟨k, s⟩ hinv => ?_)
 obtain ⟨hk, hs⟩ := hinv
 refine sr fun _ J5 => ?_
 refine tp (PV.lss rfl rfl rfl) ?_
 refine TL.dec (fun h13 => ?_) (fun h13 => ?_)
 refine nx J5 ?_
 refine TC.seq fun _ J6 => ?_
 refine TC.yes rfl ?_
 refine TC.skip ?_
 refine TE.next J6 ?_
 refine TC.seq fun _ J7 => ?_
 refine TC.block ?_
 refine sr fun _ J8 => ?_
 refine tp (PV.index1 (cs := ints g.toList) (v := Value.int .i64 (g[k]'(by omega))) (r := k) rfl Tryz.underlying42 Tryz.underlying3 rfl sz3 rfl rfl (by omega) (by omega) (by omega) (vi_at g (by omega))) ?_
 refine sg' ?_
 refine nx J8 ?_
 refine TC.region ?_
 refine mv ?_
 refine mv ?_
 refine tp (PV.add (r := (w64 (s + (g[k]'(by omega))))) rfl rfl rfl rfl) ?_
 refine sg' ?_
 refine TL.nil ?_
 refine TE.blockEnd ?_
 refine TE.next J7 ?_
 refine TC.region ?_
 refine tp (PV.add rfl rfl rfl (wrap_i64 (by omega) (by omega))) ?_
 refine mv ?_
 refine TL.nil ?_
 exact TE.round ((k + 1, (w64 (s + (g[k]'(by omega))))) : (Nat) × (Int)) ⟨by omega, by rw [List.take_succ_eq_append_getElem (by simp; omega), List.foldl_append, ← hs]; simp⟩ (by show 5 - (k + 1) < 5 - k; omega)
   (Sub.r (Sub.r (Sub.r (Sub.r (Sub.r (Sub.r (Sub.cons rfl (by simp) (Sub.nil _))))))))
   (fun _ s => s)
 refine nx J5 ?_
 refine TC.seq fun _ J9 => ?_
 refine TC.no rfl ?_
 refine TC.exit ?_
 refine TE.pass ?_
 refine TE.pass ?_
 refine TE.hit ?_
 refine TE.next J3 ?_
 refine TC.seq fun _ J10 => ?_
 refine TC.draw (fun w => Frm F w ∧ w.heap[tb]? = some (.cells ([(.int .i64 (to'))]).toArray 3 (0, 0)) ∧ True) mixed rfl (fun _ s => ⟨Frm.of s, s.block 1 (lb rfl) rfl, trivial⟩) ?_
 refine ta 0 rfl (PV.move rfl rfl) ?_
 refine ta 1 rfl (PV.move rfl rfl) ?_
 refine ta 2 rfl (PV.load1 (v := (.int .i64 (to'))) rfl Tryz.underlying3 rfl rfl (fun _ h => h.2.1) rfl) ?_
 refine ta 3 rfl (PV.nilCheck rfl rfl) ?_
 refine ta 4 rfl (PV.fieldAddr (r := off + 2) rfl Tryz.underlying44 rfl sz42 rfl rfl) ?_
 refine ta 5 rfl (PV.indexArr (r := off + 2 + (to').toNat) rfl Tryz.underlying42 sz3 rfl rfl (by omega) (by omega) (by omega)) ?_
 refine ta 6 rfl (PV.assign rfl rfl) ?_
 refine ta 7 rfl (PV.assign rfl rfl) ?_
 refine TD.done (by kernel_rfl) ?_
 refine TE.next J10 ?_
 refine TC.ret ?_
 refine TE.weak (Sub.refl _) (fun _ s => sep_keep [0, 0] rfl s) ?_
 refine TE.ret2 rfl rfl rfl ?_
 exact ⟨by rw [hs, List.take_of_length_le (by simp; omega)], rfl⟩
theorem moreInc_does (x : RowT) (key n : Int) (hk : 0 ≤ key ∧ key < 4) (hn : 1 ≤ n ∧ n ≤ 1099511627776) :
    Does Tryz.prog 107 #[(.agg (ints x.flat).toArray), (.int .i64 (key)), (.int .i64 (n)), (.func (.func 108) #[] #[])] (fun _ => True) [] (Ret (fun r' H => r' = .tuple #[.agg (ints (moreR x key n (cellAt x key).inn { cellAt x key with inn := w64 ((cellAt x key).inn + n) }).1.flat).toArray, .int .i64 (moreR x key n (cellAt x key).inn { cellAt x key with inn := w64 ((cellAt x key).inn + n) }).2] ∧ H = [])) := by
 refine Does.body (vs := [(.agg (ints x.flat).toArray), (.int .i64 (key)), (.int .i64 (n)), (.func (.func 108) #[] #[])]) (n := 36) Tryz.func107 rfl rfl rfl (fun w0 F hF => ?_)
 have hkb : keyB key = true := decide_eq_true hk
 have hcell : cellAt x key = x.cells[key.toNat]'(by omega) := by rw [cellAt, dif_pos hkb]
 refine sr fun _ J1 => ?_
 refine TL.box (Want.plain rfl) rfl rfl rfl rfl (fun b4 => ?_)
 change TL _ _ _ _ _ _ _ _ _ [blkA b4 (ints x.flat) 48]
 refine TL.alloc (Want.plain rfl) rfl rfl rfl z48 (fun b8 => ?_)
 change TL _ _ _ _ _ _ _ _ _ [blkA b8 (ints RowT.zero.flat) 48, blkA b4 (ints x.flat) 48]
 refine sg' ?_
 refine nx J1 ?_
 refine sr fun _ J2 => ?_
 refine mv ?_
 refine mv ?_
 refine tp (PV.fieldAddr (r := 1) rfl Tryz.underlying48 rfl sz45 rfl rfl) ?_
 refine tp (PV.indexArr (r := 1 + key.toNat * 7) rfl Tryz.underlying45 sz44 rfl rfl (by omega) (by omega) (by omega)) ?_
 refine TL.callRv (A := [blkA b4 (ints x.flat) 48]) (B := [blkA b8 (ints RowT.zero.flat) 48]) (Want.plain rfl) rfl rfl rfl rfl nm108 rfl (inc1_does b4 (1 + key.toNat * 7) 48 (ints x.flat) x.cells[key.toNat].inn (RowT.pt_cells x (key.toNat * 7) (by omega) (by omega) (vs_pt CellT.flat_length x.cells (i := key.toNat) 0 (by omega) (by omega) (by decide) (CellT.at_inn (x.cells[key.toNat]'(by omega)) rfl)))) (fun _ s => sep_selR [1] rfl s) (fun _ _ _ => trivial) (fun vR HR hR => ?_)
 obtain ⟨rfl, rfl⟩ := hR
 change TL _ _ _ _ _ _ _ _ _ [blkA b4 (ints x.flat) 48, blkA b8 (ints RowT.zero.flat) 48]
 refine mv ?_
 refine tp (PV.extract (vs := [(.int .i64 ((x.cells[key.toNat]'(by omega)).inn)), (.pointer (some ⟨b4, 1 + key.toNat * 7, none⟩))]) rfl rfl rfl) ?_
 refine tp (PV.extract (vs := [(.int .i64 ((x.cells[key.toNat]'(by omega)).inn)), (.pointer (some ⟨b4, 1 + key.toNat * 7, none⟩))]) rfl rfl rfl) ?_
 refine sg' ?_
 refine sg' ?_
 refine nx J2 ?_
 refine TC.seq fun _ J3 => ?_
 refine sr fun _ J4 => ?_
 refine mv ?_
 refine mv ?_
 refine tp (PV.sub (r := (1099511627776 - n)) rfl rfl rfl (wrap_i64 (by omega) (by omega))) ?_
 refine tp (PV.gtr rfl rfl rfl) ?_
 refine TL.dec (fun h23 => ?_) (fun h23 => ?_)
 refine nx J4 ?_
 refine TC.yes rfl ?_
 refine sr fun _ J5 => ?_
 refine tp (PV.build (cells := (ints RowT.zero.flat).toArray) rfl rfl (by as_aux_lemma => kernel_rfl)) ?_
 refine TL.store (vs := ints RowT.zero.flat) (i := 1) (H' := [blkA b4 (ints x.flat) 48, blkA b8 (ints RowT.zero.flat) 48]) (Want.plain rfl) rfl rfl rfl rfl rfl (by rw [(RowT.len RowT.zero)]; exact sz48) (ints_one _) rfl rfl (by have h0 := (RowT.len RowT.zero); have h1 := (RowT.len RowT.zero); omega) (wwhole ((RowT.len RowT.zero).trans (RowT.len RowT.zero).symm)) rfl ?_
 refine sg' ?_
 refine nx J5 ?_
 refine TC.ret ?_
 refine TE.passRet ?_
 refine TE.retCT (H' := []) rfl rfl rfl Tryz.underlying48 rfl sz48 (Rd.own 1 rfl rfl) (RowT.len RowT.zero) (fun _ s => sep_keep [] rfl s) ?_
 exact ⟨by rw [moreR, hcell, if_pos h23], rfl⟩
 refine nx J4 ?_
 refine TC.no rfl ?_
 refine TC.skip ?_
 refine TE.next J3 ?_
 refine sr fun _ J6 => ?_
 refine mv ?_
 refine tp (PV.nilCheck rfl rfl) ?_
 refine tp (PV.load1 (v := (.int .i64 ((x.cells[key.toNat]'(by omega)).inn))) rfl Tryz.underlying3 rfl rfl (Rd.own 0 rfl rfl) (RowT.pt_cells x (key.toNat * 7) (by omega) (by omega) (vs_pt CellT.flat_length x.cells (i := key.toNat) 0 (by omega) (by omega) (by decide) (CellT.at_inn (x.cells[key.toNat]'(by omega)) rfl)))) ?_
 refine mv ?_
 refine tp (PV.add (r := (w64 (((x.cells[key.toNat]'(by omega)).inn) + n))) rfl rfl rfl rfl) ?_
 refine tp (PV.nilCheck rfl rfl) ?_
 refine TL.store1 (i := 0) (H' := [blkA b4 (ints (RowT.mk x.version (x.cells.set key.toNat (CellT.mk (w64 (((x.cells[key.toNat]'(by omega)).inn) + n)) ((x.cells[key.toNat]'(by omega)).out) ((x.cells[key.toNat]'(by omega)).given)) (by omega)) x.heir x.left).flat) 48, blkA b8 (ints RowT.zero.flat) 48]) (Want.plain rfl) rfl rfl rfl rfl rfl sz3 rfl rfl (by have h0 := (RowT.len x); omega) (RowT.st_cells x (key.toNat * 7) (by omega) (by omega) (vs_st CellT.flat_length x.cells (i := key.toNat) 0 (by omega) (by omega) (by decide) (CellT.set_inn (x.cells[key.toNat]'(by omega)) rfl _))) rfl ?_
 refine nx J6 ?_
 refine sr fun _ J7 => ?_
 refine tp (PV.fieldAddr (r := 0) rfl Tryz.underlying48 rfl sz3 rfl rfl) ?_
 refine tp (PV.load1 (v := (.int .i64 (x.version))) rfl Tryz.underlying3 rfl rfl (Rd.own 0 rfl rfl) (RowT.at_version (RowT.mk x.version (x.cells.set key.toNat (CellT.mk (w64 (((x.cells[key.toNat]'(by omega)).inn) + n)) ((x.cells[key.toNat]'(by omega)).out) ((x.cells[key.toNat]'(by omega)).given)) (by omega)) x.heir x.left) rfl)) ?_
 refine tp (PV.add (r := (w64 (x.version + 1))) rfl rfl rfl rfl) ?_
 refine tp (PV.fieldAddr (r := 0) rfl Tryz.underlying48 rfl sz3 rfl rfl) ?_
 refine TL.store1 (i := 0) (H' := [blkA b4 (ints (RowT.mk (w64 (x.version + 1)) (x.cells.set key.toNat (CellT.mk (w64 (((x.cells[key.toNat]'(by omega)).inn) + n)) ((x.cells[key.toNat]'(by omega)).out) ((x.cells[key.toNat]'(by omega)).given)) (by omega)) x.heir x.left).flat) 48, blkA b8 (ints RowT.zero.flat) 48]) (Want.plain rfl) rfl rfl rfl rfl rfl sz3 rfl rfl (by have h0 := (RowT.len (RowT.mk x.version (x.cells.set key.toNat (CellT.mk (w64 (((x.cells[key.toNat]'(by omega)).inn) + n)) ((x.cells[key.toNat]'(by omega)).out) ((x.cells[key.toNat]'(by omega)).given)) (by omega)) x.heir x.left)); omega) (RowT.set_version (RowT.mk x.version (x.cells.set key.toNat (CellT.mk (w64 (((x.cells[key.toNat]'(by omega)).inn) + n)) ((x.cells[key.toNat]'(by omega)).out) ((x.cells[key.toNat]'(by omega)).given)) (by omega)) x.heir x.left) rfl _) rfl ?_
 refine nx J7 ?_
 refine sr fun _ J8 => ?_
 refine tp (PV.loadN (vs := ints (RowT.mk (w64 (x.version + 1)) (x.cells.set key.toNat (CellT.mk (w64 (((x.cells[key.toNat]'(by omega)).inn) + n)) ((x.cells[key.toNat]'(by omega)).out) ((x.cells[key.toNat]'(by omega)).given)) (by omega)) x.heir x.left).flat) rfl Tryz.underlying48 rfl sz48 rfl (Rd.own 0 rfl rfl) (RowT.len (RowT.mk (w64 (x.version + 1)) (x.cells.set key.toNat (CellT.mk (w64 (((x.cells[key.toNat]'(by omega)).inn) + n)) ((x.cells[key.toNat]'(by omega)).out) ((x.cells[key.toNat]'(by omega)).given)) (by omega)) x.heir x.left)) (whole (RowT.len (RowT.mk (w64 (x.version + 1)) (x.cells.set key.toNat (CellT.mk (w64 (((x.cells[key.toNat]'(by omega)).inn) + n)) ((x.cells[key.toNat]'(by omega)).out) ((x.cells[key.toNat]'(by omega)).given)) (by omega)) x.heir x.left)))) ?_
 refine TL.store (vs := ints (RowT.mk (w64 (x.version + 1)) (x.cells.set key.toNat (CellT.mk (w64 (((x.cells[key.toNat]'(by omega)).inn) + n)) ((x.cells[key.toNat]'(by omega)).out) ((x.cells[key.toNat]'(by omega)).given)) (by omega)) x.heir x.left).flat) (i := 1) (H' := [blkA b4 (ints (RowT.mk (w64 (x.version + 1)) (x.cells.set key.toNat (CellT.mk (w64 (((x.cells[key.toNat]'(by omega)).inn) + n)) ((x.cells[key.toNat]'(by omega)).out) ((x.cells[key.toNat]'(by omega)).given)) (by omega)) x.heir x.left).flat) 48, blkA b8 (ints (RowT.mk (w64 (x.version + 1)) (x.cells.set key.toNat (CellT.mk (w64 (((x.cells[key.toNat]'(by omega)).inn) + n)) ((x.cells[key.toNat]'(by omega)).out) ((x.cells[key.toNat]'(by omega)).given)) (by omega)) x.heir x.left).flat) 48]) (Want.plain rfl) rfl rfl rfl rfl rfl (by rw [(RowT.len (RowT.mk (w64 (x.version + 1)) (x.cells.set key.toNat (CellT.mk (w64 (((x.cells[key.toNat]'(by omega)).inn) + n)) ((x.cells[key.toNat]'(by omega)).out) ((x.cells[key.toNat]'(by omega)).given)) (by omega)) x.heir x.left))]; exact sz48) (ints_one _) rfl rfl (by have h0 := (RowT.len RowT.zero); have h1 := (RowT.len (RowT.mk (w64 (x.version + 1)) (x.cells.set key.toNat (CellT.mk (w64 (((x.cells[key.toNat]'(by omega)).inn) + n)) ((x.cells[key.toNat]'(by omega)).out) ((x.cells[key.toNat]'(by omega)).given)) (by omega)) x.heir x.left)); omega) (wwhole ((RowT.len RowT.zero).trans (RowT.len (RowT.mk (w64 (x.version + 1)) (x.cells.set key.toNat (CellT.mk (w64 (((x.cells[key.toNat]'(by omega)).inn) + n)) ((x.cells[key.toNat]'(by omega)).out) ((x.cells[key.toNat]'(by omega)).given)) (by omega)) x.heir x.left)).symm)) rfl ?_
 refine sg' ?_
 refine nx J8 ?_
 refine TC.ret ?_
 refine TE.retCT (H' := []) rfl rfl rfl Tryz.underlying48 rfl sz48 (Rd.own 1 rfl rfl) (RowT.len (RowT.mk (w64 (x.version + 1)) (x.cells.set key.toNat (CellT.mk (w64 (((x.cells[key.toNat]'(by omega)).inn) + n)) ((x.cells[key.toNat]'(by omega)).out) ((x.cells[key.toNat]'(by omega)).given)) (by omega)) x.heir x.left)) (fun _ s => sep_keep [] rfl s) ?_
 refine ⟨?_, rfl⟩
 rw [moreR, hcell, if_neg h23, putCell, dif_pos hkb]
theorem moreDec_does (x : RowT) (key n : Int) (hk : 0 ≤ key ∧ key < 4) (hn : 1 ≤ n ∧ n ≤ 1099511627776) :
    Does Tryz.prog 107 #[(.agg (ints x.flat).toArray), (.int .i64 (key)), (.int .i64 (n)), (.func (.func 109) #[] #[])] (fun _ => True) [] (Ret (fun r' H => r' = .tuple #[.agg (ints (moreR x key n (cellAt x key).out { cellAt x key with out := w64 ((cellAt x key).out + n) }).1.flat).toArray, .int .i64 (moreR x key n (cellAt x key).out { cellAt x key with out := w64 ((cellAt x key).out + n) }).2] ∧ H = [])) := by
 refine Does.body (vs := [(.agg (ints x.flat).toArray), (.int .i64 (key)), (.int .i64 (n)), (.func (.func 109) #[] #[])]) (n := 36) Tryz.func107 rfl rfl rfl (fun w0 F hF => ?_)
 have hkb : keyB key = true := decide_eq_true hk
 have hcell : cellAt x key = x.cells[key.toNat]'(by omega) := by rw [cellAt, dif_pos hkb]
 refine sr fun _ J1 => ?_
 refine TL.box (Want.plain rfl) rfl rfl rfl rfl (fun b4 => ?_)
 change TL _ _ _ _ _ _ _ _ _ [blkA b4 (ints x.flat) 48]
 refine TL.alloc (Want.plain rfl) rfl rfl rfl z48 (fun b8 => ?_)
 change TL _ _ _ _ _ _ _ _ _ [blkA b8 (ints RowT.zero.flat) 48, blkA b4 (ints x.flat) 48]
 refine sg' ?_
 refine nx J1 ?_
 refine sr fun _ J2 => ?_
 refine mv ?_
 refine mv ?_
 refine tp (PV.fieldAddr (r := 1) rfl Tryz.underlying48 rfl sz45 rfl rfl) ?_
 refine tp (PV.indexArr (r := 1 + key.toNat * 7) rfl Tryz.underlying45 sz44 rfl rfl (by omega) (by omega) (by omega)) ?_
 refine TL.callRv (A := [blkA b4 (ints x.flat) 48]) (B := [blkA b8 (ints RowT.zero.flat) 48]) (Want.plain rfl) rfl rfl rfl rfl nm109 rfl (dec1_does b4 (1 + key.toNat * 7) 48 (ints x.flat) x.cells[key.toNat].out (RowT.pt_cells x (key.toNat * 7 + 1) (by omega) (by omega) (vs_pt CellT.flat_length x.cells (i := key.toNat) 1 (by omega) (by omega) (by decide) (CellT.at_out (x.cells[key.toNat]'(by omega)) rfl)))) (fun _ s => sep_selR [1] rfl s) (fun _ _ _ => trivial) (fun vR HR hR => ?_)
 obtain ⟨rfl, rfl⟩ := hR
 change TL _ _ _ _ _ _ _ _ _ [blkA b4 (ints x.flat) 48, blkA b8 (ints RowT.zero.flat) 48]
 refine mv ?_
 refine tp (PV.extract (vs := [(.int .i64 ((x.cells[key.toNat]'(by omega)).out)), (.pointer (some ⟨b4, 1 + key.toNat * 7 + 1, none⟩))]) rfl rfl rfl) ?_
 refine tp (PV.extract (vs := [(.int .i64 ((x.cells[key.toNat]'(by omega)).out)), (.pointer (some ⟨b4, 1 + key.toNat * 7 + 1, none⟩))]) rfl rfl rfl) ?_
 refine sg' ?_
 refine sg' ?_
 refine nx J2 ?_
 refine TC.seq fun _ J3 => ?_
 refine sr fun _ J4 => ?_
 refine mv ?_
 refine mv ?_
 refine tp (PV.sub (r := (1099511627776 - n)) rfl rfl rfl (wrap_i64 (by omega) (by omega))) ?_
 refine tp (PV.gtr rfl rfl rfl) ?_
 refine TL.dec (fun h23 => ?_) (fun h23 => ?_)
 refine nx J4 ?_
 refine TC.yes rfl ?_
 refine sr fun _ J5 => ?_
 refine tp (PV.build (cells := (ints RowT.zero.flat).toArray) rfl rfl (by as_aux_lemma => kernel_rfl)) ?_
 refine TL.store (vs := ints RowT.zero.flat) (i := 1) (H' := [blkA b4 (ints x.flat) 48, blkA b8 (ints RowT.zero.flat) 48]) (Want.plain rfl) rfl rfl rfl rfl rfl (by rw [(RowT.len RowT.zero)]; exact sz48) (ints_one _) rfl rfl (by have h0 := (RowT.len RowT.zero); have h1 := (RowT.len RowT.zero); omega) (wwhole ((RowT.len RowT.zero).trans (RowT.len RowT.zero).symm)) rfl ?_
 refine sg' ?_
 refine nx J5 ?_
 refine TC.ret ?_
 refine TE.passRet ?_
 refine TE.retCT (H' := []) rfl rfl rfl Tryz.underlying48 rfl sz48 (Rd.own 1 rfl rfl) (RowT.len RowT.zero) (fun _ s => sep_keep [] rfl s) ?_
 exact ⟨by rw [moreR, hcell, if_pos h23], rfl⟩
 refine nx J4 ?_
 refine TC.no rfl ?_
 refine TC.skip ?_
 refine TE.next J3 ?_
 refine sr fun _ J6 => ?_
 refine mv ?_
 refine tp (PV.nilCheck rfl rfl) ?_
 refine tp (PV.load1 (v := (.int .i64 ((x.cells[key.toNat]'(by omega)).out))) rfl Tryz.underlying3 rfl rfl (Rd.own 0 rfl rfl) (RowT.pt_cells x (key.toNat * 7 + 1) (by omega) (by omega) (vs_pt CellT.flat_length x.cells (i := key.toNat) 1 (by omega) (by omega) (by decide) (CellT.at_out (x.cells[key.toNat]'(by omega)) rfl)))) ?_
 refine mv ?_
 refine tp (PV.add (r := (w64 (((x.cells[key.toNat]'(by omega)).out) + n))) rfl rfl rfl rfl) ?_
 refine tp (PV.nilCheck rfl rfl) ?_
 refine TL.store1 (i := 0) (H' := [blkA b4 (ints (RowT.mk x.version (x.cells.set key.toNat (CellT.mk ((x.cells[key.toNat]'(by omega)).inn) (w64 (((x.cells[key.toNat]'(by omega)).out) + n)) ((x.cells[key.toNat]'(by omega)).given)) (by omega)) x.heir x.left).flat) 48, blkA b8 (ints RowT.zero.flat) 48]) (Want.plain rfl) rfl rfl rfl rfl rfl sz3 rfl rfl (by have h0 := (RowT.len x); omega) (RowT.st_cells x (key.toNat * 7 + 1) (by omega) (by omega) (vs_st CellT.flat_length x.cells (i := key.toNat) 1 (by omega) (by omega) (by decide) (CellT.set_out (x.cells[key.toNat]'(by omega)) rfl _))) rfl ?_
 refine nx J6 ?_
 refine sr fun _ J7 => ?_
 refine tp (PV.fieldAddr (r := 0) rfl Tryz.underlying48 rfl sz3 rfl rfl) ?_
 refine tp (PV.load1 (v := (.int .i64 (x.version))) rfl Tryz.underlying3 rfl rfl (Rd.own 0 rfl rfl) (RowT.at_version (RowT.mk x.version (x.cells.set key.toNat (CellT.mk ((x.cells[key.toNat]'(by omega)).inn) (w64 (((x.cells[key.toNat]'(by omega)).out) + n)) ((x.cells[key.toNat]'(by omega)).given)) (by omega)) x.heir x.left) rfl)) ?_
 refine tp (PV.add (r := (w64 (x.version + 1))) rfl rfl rfl rfl) ?_
 refine tp (PV.fieldAddr (r := 0) rfl Tryz.underlying48 rfl sz3 rfl rfl) ?_
 refine TL.store1 (i := 0) (H' := [blkA b4 (ints (RowT.mk (w64 (x.version + 1)) (x.cells.set key.toNat (CellT.mk ((x.cells[key.toNat]'(by omega)).inn) (w64 (((x.cells[key.toNat]'(by omega)).out) + n)) ((x.cells[key.toNat]'(by omega)).given)) (by omega)) x.heir x.left).flat) 48, blkA b8 (ints RowT.zero.flat) 48]) (Want.plain rfl) rfl rfl rfl rfl rfl sz3 rfl rfl (by have h0 := (RowT.len (RowT.mk x.version (x.cells.set key.toNat (CellT.mk ((x.cells[key.toNat]'(by omega)).inn) (w64 (((x.cells[key.toNat]'(by omega)).out) + n)) ((x.cells[key.toNat]'(by omega)).given)) (by omega)) x.heir x.left)); omega) (RowT.set_version (RowT.mk x.version (x.cells.set key.toNat (CellT.mk ((x.cells[key.toNat]'(by omega)).inn) (w64 (((x.cells[key.toNat]'(by omega)).out) + n)) ((x.cells[key.toNat]'(by omega)).given)) (by omega)) x.heir x.left) rfl _) rfl ?_
 refine nx J7 ?_
 refine sr fun _ J8 => ?_
 refine tp (PV.loadN (vs := ints (RowT.mk (w64 (x.version + 1)) (x.cells.set key.toNat (CellT.mk ((x.cells[key.toNat]'(by omega)).inn) (w64 (((x.cells[key.toNat]'(by omega)).out) + n)) ((x.cells[key.toNat]'(by omega)).given)) (by omega)) x.heir x.left).flat) rfl Tryz.underlying48 rfl sz48 rfl (Rd.own 0 rfl rfl) (RowT.len (RowT.mk (w64 (x.version + 1)) (x.cells.set key.toNat (CellT.mk ((x.cells[key.toNat]'(by omega)).inn) (w64 (((x.cells[key.toNat]'(by omega)).out) + n)) ((x.cells[key.toNat]'(by omega)).given)) (by omega)) x.heir x.left)) (whole (RowT.len (RowT.mk (w64 (x.version + 1)) (x.cells.set key.toNat (CellT.mk ((x.cells[key.toNat]'(by omega)).inn) (w64 (((x.cells[key.toNat]'(by omega)).out) + n)) ((x.cells[key.toNat]'(by omega)).given)) (by omega)) x.heir x.left)))) ?_
 refine TL.store (vs := ints (RowT.mk (w64 (x.version + 1)) (x.cells.set key.toNat (CellT.mk ((x.cells[key.toNat]'(by omega)).inn) (w64 (((x.cells[key.toNat]'(by omega)).out) + n)) ((x.cells[key.toNat]'(by omega)).given)) (by omega)) x.heir x.left).flat) (i := 1) (H' := [blkA b4 (ints (RowT.mk (w64 (x.version + 1)) (x.cells.set key.toNat (CellT.mk ((x.cells[key.toNat]'(by omega)).inn) (w64 (((x.cells[key.toNat]'(by omega)).out) + n)) ((x.cells[key.toNat]'(by omega)).given)) (by omega)) x.heir x.left).flat) 48, blkA b8 (ints (RowT.mk (w64 (x.version + 1)) (x.cells.set key.toNat (CellT.mk ((x.cells[key.toNat]'(by omega)).inn) (w64 (((x.cells[key.toNat]'(by omega)).out) + n)) ((x.cells[key.toNat]'(by omega)).given)) (by omega)) x.heir x.left).flat) 48]) (Want.plain rfl) rfl rfl rfl rfl rfl (by rw [(RowT.len (RowT.mk (w64 (x.version + 1)) (x.cells.set key.toNat (CellT.mk ((x.cells[key.toNat]'(by omega)).inn) (w64 (((x.cells[key.toNat]'(by omega)).out) + n)) ((x.cells[key.toNat]'(by omega)).given)) (by omega)) x.heir x.left))]; exact sz48) (ints_one _) rfl rfl (by have h0 := (RowT.len RowT.zero); have h1 := (RowT.len (RowT.mk (w64 (x.version + 1)) (x.cells.set key.toNat (CellT.mk ((x.cells[key.toNat]'(by omega)).inn) (w64 (((x.cells[key.toNat]'(by omega)).out) + n)) ((x.cells[key.toNat]'(by omega)).given)) (by omega)) x.heir x.left)); omega) (wwhole ((RowT.len RowT.zero).trans (RowT.len (RowT.mk (w64 (x.version + 1)) (x.cells.set key.toNat (CellT.mk ((x.cells[key.toNat]'(by omega)).inn) (w64 (((x.cells[key.toNat]'(by omega)).out) + n)) ((x.cells[key.toNat]'(by omega)).given)) (by omega)) x.heir x.left)).symm)) rfl ?_
 refine sg' ?_
 refine nx J8 ?_
 refine TC.ret ?_
 refine TE.retCT (H' := []) rfl rfl rfl Tryz.underlying48 rfl sz48 (Rd.own 1 rfl rfl) (RowT.len (RowT.mk (w64 (x.version + 1)) (x.cells.set key.toNat (CellT.mk ((x.cells[key.toNat]'(by omega)).inn) (w64 (((x.cells[key.toNat]'(by omega)).out) + n)) ((x.cells[key.toNat]'(by omega)).given)) (by omega)) x.heir x.left)) (fun _ s => sep_keep [] rfl s) ?_
 refine ⟨?_, rfl⟩
 rw [moreR, hcell, if_neg h23, putCell, dif_pos hkb]
theorem moreGive_does (x : RowT) (key n : Int) (hk : 0 ≤ key ∧ key < 4) (hn : 1 ≤ n ∧ n ≤ 1099511627776) (tb : Nat) (to' : Int) (ht : 0 ≤ to' ∧ to' < 5) :
    Does Tryz.prog 107 #[(.agg (ints x.flat).toArray), (.int .i64 (key)), (.int .i64 (n)), (.func (.func 111) #[] #[(.pointer (some ⟨tb, 0, none⟩))])] (fun _ => True) [blkA tb [(.int .i64 (to'))] 3] (Ret (fun r' H => r' = .tuple #[.agg (ints (moreR x key n (sumG (cellAt x key)) (giveTo (cellAt x key) to' (w64 (givenOf (cellAt x key) to' + n)))).1.flat).toArray, .int .i64 (moreR x key n (sumG (cellAt x key)) (giveTo (cellAt x key) to' (w64 (givenOf (cellAt x key) to' + n)))).2] ∧ H = [blkA tb [.int .i64 to'] 3])) := by
 refine Does.body (vs := [(.agg (ints x.flat).toArray), (.int .i64 (key)), (.int .i64 (n)), (.func (.func 111) #[] #[(.pointer (some ⟨tb, 0, none⟩))])]) (n := 36) Tryz.func107 rfl rfl rfl (fun w0 F hF => ?_)
 have hkb : keyB key = true := decide_eq_true hk
 have hcell : cellAt x key = x.cells[key.toNat]'(by omega) := by rw [cellAt, dif_pos hkb]
 have htb : machB to' = true := decide_eq_true ht
 refine sr fun _ J1 => ?_
 refine TL.box (Want.plain rfl) rfl rfl rfl rfl (fun b4 => ?_)
 change TL _ _ _ _ _ _ _ _ _ [blkA b4 (ints x.flat) 48, blkA tb [(.int .i64 (to'))] 3]
 refine TL.alloc (Want.plain rfl) rfl rfl rfl z48 (fun b8 => ?_)
 change TL _ _ _ _ _ _ _ _ _ [blkA b8 (ints RowT.zero.flat) 48, blkA b4 (ints x.flat) 48, blkA tb [(.int .i64 (to'))] 3]
 refine sg' ?_
 refine nx J1 ?_
 refine sr fun _ J2 => ?_
 refine mv ?_
 refine mv ?_
 refine tp (PV.fieldAddr (r := 1) rfl Tryz.underlying48 rfl sz45 rfl rfl) ?_
 refine tp (PV.indexArr (r := 1 + key.toNat * 7) rfl Tryz.underlying45 sz44 rfl rfl (by omega) (by omega) (by omega)) ?_
 refine TL.callRv (A := [blkA b4 (ints x.flat) 48, blkA tb [(.int .i64 (to'))] 3]) (B := [blkA b8 (ints RowT.zero.flat) 48]) (Want.plain rfl) rfl rfl rfl rfl nm111 rfl (give1_does b4 (1 + key.toNat * 7) 48 tb (ints x.flat) x.cells[key.toNat].given to' ht (RowT.sub_cells x (key.toNat * 7 + 2) (by omega) (by omega) (vs_sub CellT.flat_length x.cells (i := key.toNat) 2 (by omega) (by omega) (by decide) (CellT.sub_given (x.cells[key.toNat]'(by omega)) 0 rfl (by decide) (whole (vi5_len ((x.cells[key.toNat]'(by omega)).given))))))) (fun _ s => sep_selR [1, 1] rfl s) (fun _ _ _ => trivial) (fun vR HR hR => ?_)
 obtain ⟨rfl, rfl⟩ := hR
 change TL _ _ _ _ _ _ _ _ _ [blkA b4 (ints x.flat) 48, blkA tb [(.int .i64 (to'))] 3, blkA b8 (ints RowT.zero.flat) 48]
 refine mv ?_
 refine tp (PV.extract (vs := [(.int .i64 ((sumG (x.cells[key.toNat]'(by omega))))), (.pointer (some ⟨b4, 1 + key.toNat * 7 + 2 + to'.toNat, none⟩))]) rfl rfl rfl) ?_
 refine tp (PV.extract (vs := [(.int .i64 ((sumG (x.cells[key.toNat]'(by omega))))), (.pointer (some ⟨b4, 1 + key.toNat * 7 + 2 + to'.toNat, none⟩))]) rfl rfl rfl) ?_
 refine sg' ?_
 refine sg' ?_
 refine nx J2 ?_
 refine TC.seq fun _ J3 => ?_
 refine sr fun _ J4 => ?_
 refine mv ?_
 refine mv ?_
 refine tp (PV.sub (r := (1099511627776 - n)) rfl rfl rfl (wrap_i64 (by omega) (by omega))) ?_
 refine tp (PV.gtr rfl rfl rfl) ?_
 refine TL.dec (fun h23 => ?_) (fun h23 => ?_)
 refine nx J4 ?_
 refine TC.yes rfl ?_
 refine sr fun _ J5 => ?_
 refine tp (PV.build (cells := (ints RowT.zero.flat).toArray) rfl rfl (by as_aux_lemma => kernel_rfl)) ?_
 refine TL.store (vs := ints RowT.zero.flat) (i := 2) (H' := [blkA b4 (ints x.flat) 48, blkA tb [(.int .i64 (to'))] 3, blkA b8 (ints RowT.zero.flat) 48]) (Want.plain rfl) rfl rfl rfl rfl rfl (by rw [(RowT.len RowT.zero)]; exact sz48) (ints_one _) rfl rfl (by have h0 := (RowT.len RowT.zero); have h1 := (RowT.len RowT.zero); omega) (wwhole ((RowT.len RowT.zero).trans (RowT.len RowT.zero).symm)) rfl ?_
 refine sg' ?_
 refine nx J5 ?_
 refine TC.ret ?_
 refine TE.passRet ?_
 refine TE.retCT (H' := [blkA tb [(.int .i64 (to'))] 3]) rfl rfl rfl Tryz.underlying48 rfl sz48 (Rd.own 2 rfl rfl) (RowT.len RowT.zero) (fun _ s => sep_keep [1] rfl s) ?_
 exact ⟨by rw [moreR, hcell, if_pos h23], rfl⟩
 refine nx J4 ?_
 refine TC.no rfl ?_
 refine TC.skip ?_
 refine TE.next J3 ?_
 refine sr fun _ J6 => ?_
 refine mv ?_
 refine tp (PV.nilCheck rfl rfl) ?_
 refine tp (PV.load1 (v := (.int .i64 ((((x.cells[key.toNat]'(by omega)).given)[to'.toNat]'(by omega))))) rfl Tryz.underlying3 rfl rfl (Rd.own 0 rfl rfl) (RowT.pt_cells x (key.toNat * 7 + 2 + to'.toNat) (by omega) (by omega) (vs_pt CellT.flat_length x.cells (i := key.toNat) (2 + to'.toNat) (by omega) (by omega) (by omega) (CellT.pt_given (x.cells[key.toNat]'(by omega)) (to'.toNat) (by omega) (by omega) (vi_at ((x.cells[key.toNat]'(by omega)).given) (by omega)))))) ?_
 refine mv ?_
 refine tp (PV.add (r := (w64 ((((x.cells[key.toNat]'(by omega)).given)[to'.toNat]'(by omega)) + n))) rfl rfl rfl rfl) ?_
 refine tp (PV.nilCheck rfl rfl) ?_
 refine TL.store1 (i := 0) (H' := [blkA b4 (ints (RowT.mk x.version (x.cells.set key.toNat (CellT.mk ((x.cells[key.toNat]'(by omega)).inn) ((x.cells[key.toNat]'(by omega)).out) (((x.cells[key.toNat]'(by omega)).given).set to'.toNat (w64 ((((x.cells[key.toNat]'(by omega)).given)[to'.toNat]'(by omega)) + n)) (by omega))) (by omega)) x.heir x.left).flat) 48, blkA tb [(.int .i64 (to'))] 3, blkA b8 (ints RowT.zero.flat) 48]) (Want.plain rfl) rfl rfl rfl rfl rfl sz3 rfl rfl (by have h0 := (RowT.len x); omega) (RowT.st_cells x (key.toNat * 7 + 2 + to'.toNat) (by omega) (by omega) (vs_st CellT.flat_length x.cells (i := key.toNat) (2 + to'.toNat) (by omega) (by omega) (by omega) (CellT.st_given (x.cells[key.toNat]'(by omega)) (to'.toNat) (by omega) (by omega) (vi_st ((x.cells[key.toNat]'(by omega)).given) (by omega) _)))) rfl ?_
 refine nx J6 ?_
 refine sr fun _ J7 => ?_
 refine tp (PV.fieldAddr (r := 0) rfl Tryz.underlying48 rfl sz3 rfl rfl) ?_
 refine tp (PV.load1 (v := (.int .i64 (x.version))) rfl Tryz.underlying3 rfl rfl (Rd.own 0 rfl rfl) (RowT.at_version (RowT.mk x.version (x.cells.set key.toNat (CellT.mk ((x.cells[key.toNat]'(by omega)).inn) ((x.cells[key.toNat]'(by omega)).out) (((x.cells[key.toNat]'(by omega)).given).set to'.toNat (w64 ((((x.cells[key.toNat]'(by omega)).given)[to'.toNat]'(by omega)) + n)) (by omega))) (by omega)) x.heir x.left) rfl)) ?_
 refine tp (PV.add (r := (w64 (x.version + 1))) rfl rfl rfl rfl) ?_
 refine tp (PV.fieldAddr (r := 0) rfl Tryz.underlying48 rfl sz3 rfl rfl) ?_
 refine TL.store1 (i := 0) (H' := [blkA b4 (ints (RowT.mk (w64 (x.version + 1)) (x.cells.set key.toNat (CellT.mk ((x.cells[key.toNat]'(by omega)).inn) ((x.cells[key.toNat]'(by omega)).out) (((x.cells[key.toNat]'(by omega)).given).set to'.toNat (w64 ((((x.cells[key.toNat]'(by omega)).given)[to'.toNat]'(by omega)) + n)) (by omega))) (by omega)) x.heir x.left).flat) 48, blkA tb [(.int .i64 (to'))] 3, blkA b8 (ints RowT.zero.flat) 48]) (Want.plain rfl) rfl rfl rfl rfl rfl sz3 rfl rfl (by have h0 := (RowT.len (RowT.mk x.version (x.cells.set key.toNat (CellT.mk ((x.cells[key.toNat]'(by omega)).inn) ((x.cells[key.toNat]'(by omega)).out) (((x.cells[key.toNat]'(by omega)).given).set to'.toNat (w64 ((((x.cells[key.toNat]'(by omega)).given)[to'.toNat]'(by omega)) + n)) (by omega))) (by omega)) x.heir x.left)); omega) (RowT.set_version (RowT.mk x.version (x.cells.set key.toNat (CellT.mk ((x.cells[key.toNat]'(by omega)).inn) ((x.cells[key.toNat]'(by omega)).out) (((x.cells[key.toNat]'(by omega)).given).set to'.toNat (w64 ((((x.cells[key.toNat]'(by omega)).given)[to'.toNat]'(by omega)) + n)) (by omega))) (by omega)) x.heir x.left) rfl _) rfl ?_
 refine nx J7 ?_
 refine sr fun _ J8 => ?_
 refine tp (PV.loadN (vs := ints (RowT.mk (w64 (x.version + 1)) (x.cells.set key.toNat (CellT.mk ((x.cells[key.toNat]'(by omega)).inn) ((x.cells[key.toNat]'(by omega)).out) (((x.cells[key.toNat]'(by omega)).given).set to'.toNat (w64 ((((x.cells[key.toNat]'(by omega)).given)[to'.toNat]'(by omega)) + n)) (by omega))) (by omega)) x.heir x.left).flat) rfl Tryz.underlying48 rfl sz48 rfl (Rd.own 0 rfl rfl) (RowT.len (RowT.mk (w64 (x.version + 1)) (x.cells.set key.toNat (CellT.mk ((x.cells[key.toNat]'(by omega)).inn) ((x.cells[key.toNat]'(by omega)).out) (((x.cells[key.toNat]'(by omega)).given).set to'.toNat (w64 ((((x.cells[key.toNat]'(by omega)).given)[to'.toNat]'(by omega)) + n)) (by omega))) (by omega)) x.heir x.left)) (whole (RowT.len (RowT.mk (w64 (x.version + 1)) (x.cells.set key.toNat (CellT.mk ((x.cells[key.toNat]'(by omega)).inn) ((x.cells[key.toNat]'(by omega)).out) (((x.cells[key.toNat]'(by omega)).given).set to'.toNat (w64 ((((x.cells[key.toNat]'(by omega)).given)[to'.toNat]'(by omega)) + n)) (by omega))) (by omega)) x.heir x.left)))) ?_
 refine TL.store (vs := ints (RowT.mk (w64 (x.version + 1)) (x.cells.set key.toNat (CellT.mk ((x.cells[key.toNat]'(by omega)).inn) ((x.cells[key.toNat]'(by omega)).out) (((x.cells[key.toNat]'(by omega)).given).set to'.toNat (w64 ((((x.cells[key.toNat]'(by omega)).given)[to'.toNat]'(by omega)) + n)) (by omega))) (by omega)) x.heir x.left).flat) (i := 2) (H' := [blkA b4 (ints (RowT.mk (w64 (x.version + 1)) (x.cells.set key.toNat (CellT.mk ((x.cells[key.toNat]'(by omega)).inn) ((x.cells[key.toNat]'(by omega)).out) (((x.cells[key.toNat]'(by omega)).given).set to'.toNat (w64 ((((x.cells[key.toNat]'(by omega)).given)[to'.toNat]'(by omega)) + n)) (by omega))) (by omega)) x.heir x.left).flat) 48, blkA tb [(.int .i64 (to'))] 3, blkA b8 (ints (RowT.mk (w64 (x.version + 1)) (x.cells.set key.toNat (CellT.mk ((x.cells[key.toNat]'(by omega)).inn) ((x.cells[key.toNat]'(by omega)).out) (((x.cells[key.toNat]'(by omega)).given).set to'.toNat (w64 ((((x.cells[key.toNat]'(by omega)).given)[to'.toNat]'(by omega)) + n)) (by omega))) (by omega)) x.heir x.left).flat) 48]) (Want.plain rfl) rfl rfl rfl rfl rfl (by rw [(RowT.len (RowT.mk (w64 (x.version + 1)) (x.cells.set key.toNat (CellT.mk ((x.cells[key.toNat]'(by omega)).inn) ((x.cells[key.toNat]'(by omega)).out) (((x.cells[key.toNat]'(by omega)).given).set to'.toNat (w64 ((((x.cells[key.toNat]'(by omega)).given)[to'.toNat]'(by omega)) + n)) (by omega))) (by omega)) x.heir x.left))]; exact sz48) (ints_one _) rfl rfl (by have h0 := (RowT.len RowT.zero); have h1 := (RowT.len (RowT.mk (w64 (x.version + 1)) (x.cells.set key.toNat (CellT.mk ((x.cells[key.toNat]'(by omega)).inn) ((x.cells[key.toNat]'(by omega)).out) (((x.cells[key.toNat]'(by omega)).given).set to'.toNat (w64 ((((x.cells[key.toNat]'(by omega)).given)[to'.toNat]'(by omega)) + n)) (by omega))) (by omega)) x.heir x.left)); omega) (wwhole ((RowT.len RowT.zero).trans (RowT.len (RowT.mk (w64 (x.version + 1)) (x.cells.set key.toNat (CellT.mk ((x.cells[key.toNat]'(by omega)).inn) ((x.cells[key.toNat]'(by omega)).out) (((x.cells[key.toNat]'(by omega)).given).set to'.toNat (w64 ((((x.cells[key.toNat]'(by omega)).given)[to'.toNat]'(by omega)) + n)) (by omega))) (by omega)) x.heir x.left)).symm)) rfl ?_
 refine sg' ?_
 refine nx J8 ?_
 refine TC.ret ?_
 refine TE.retCT (H' := [blkA tb [(.int .i64 (to'))] 3]) rfl rfl rfl Tryz.underlying48 rfl sz48 (Rd.own 2 rfl rfl) (RowT.len (RowT.mk (w64 (x.version + 1)) (x.cells.set key.toNat (CellT.mk ((x.cells[key.toNat]'(by omega)).inn) ((x.cells[key.toNat]'(by omega)).out) (((x.cells[key.toNat]'(by omega)).given).set to'.toNat (w64 ((((x.cells[key.toNat]'(by omega)).given)[to'.toNat]'(by omega)) + n)) (by omega))) (by omega)) x.heir x.left)) (fun _ s => sep_keep [1] rfl s) ?_
 refine ⟨?_, rfl⟩
 rw [moreR, hcell, if_neg h23, putCell, dif_pos hkb]
 simp [giveTo, givenOf, htb]
theorem rowInc_does (x : RowT) (key n : Int) :
    Does Tryz.prog 75 #[(.agg (ints x.flat).toArray), (.int .i64 (key)), (.int .i64 (n))] (fun _ => True) [] (Ret (fun r' H => r' = .tuple #[.agg (ints (rowInc x key n).1.flat).toArray, .int .i64 (rowInc x key n).2] ∧ H = [])) := by
 refine Does.body (vs := [(.agg (ints x.flat).toArray), (.int .i64 (key)), (.int .i64 (n))]) (n := 19) Tryz.func75 rfl rfl rfl (fun w0 F hF => ?_)
 refine sr fun _ J1 => ?_
 refine TL.box (Want.plain rfl) rfl rfl rfl rfl (fun b3 => ?_)
 change TL _ _ _ _ _ _ _ _ _ [blkA b3 (ints x.flat) 48]
 refine TL.alloc (Want.plain rfl) rfl rfl rfl z48 (fun b6 => ?_)
 change TL _ _ _ _ _ _ _ _ _ [blkA b6 (ints RowT.zero.flat) 48, blkA b3 (ints x.flat) 48]
 refine sg' ?_
 refine nx J1 ?_
 clear J1
 refine TC.seq fun _ J2 => ?_
 refine sr fun _ J3 => ?_
 refine mv ?_
 refine mv ?_
 refine TL.callR (A := []) (Want.plain rfl) rfl rfl rfl nm106 rfl (asked_does key n) (fun _ s => s) (fun _ _ _ => trivial) (fun vR HR hR => ?_)
 obtain ⟨rfl, rfl⟩ := hR
 change TL _ _ _ _ _ _ _ _ _ [blkA b6 (ints RowT.zero.flat) 48, blkA b3 (ints x.flat) 48]
 refine TL.decB (fun h10 => ?_) (fun h10 => ?_)
 have hq := h10
 unfold askB keyB okN at hq
 simp only [Bool.and_eq_true, decide_eq_true_iff] at hq
 have hk : 0 ≤ key ∧ key < 4 := hq.1.1
 have hn : 1 ≤ n ∧ n ≤ 1099511627776 := ⟨hq.1.2, hq.2.2⟩
 refine tp (PV.not (r := false) rfl rfl rfl) ?_
 refine nx J3 ?_
 clear J3
 refine TC.no rfl ?_
 refine TC.skip ?_
 refine TE.next J2 ?_
 clear J2
 refine sr fun _ J4 => ?_
 refine tp (PV.loadN (vs := ints x.flat) rfl Tryz.underlying48 rfl sz48 rfl (Rd.own 1 rfl rfl) (RowT.len x) (whole (RowT.len x))) ?_
 refine mv ?_
 refine mv ?_
 refine TL.callR (A := []) (Want.plain rfl) rfl rfl rfl nm107 rfl (moreInc_does x key n hk hn) (fun _ s => s) (fun _ _ _ => trivial) (fun vR HR hR => ?_)
 obtain ⟨rfl, rfl⟩ := hR
 change TL _ _ _ _ _ _ _ _ _ [blkA b6 (ints RowT.zero.flat) 48, blkA b3 (ints x.flat) 48]
 refine tp (PV.extract (vs := [(.agg (ints ((moreR x key n (cellAt x key).inn { cellAt x key with inn := w64 ((cellAt x key).inn + n) }).1).flat).toArray), (.int .i64 ((moreR x key n (cellAt x key).inn { cellAt x key with inn := w64 ((cellAt x key).inn + n) }).2))]) rfl rfl rfl) ?_
 refine tp (PV.extract (vs := [(.agg (ints ((moreR x key n (cellAt x key).inn { cellAt x key with inn := w64 ((cellAt x key).inn + n) }).1).flat).toArray), (.int .i64 ((moreR x key n (cellAt x key).inn { cellAt x key with inn := w64 ((cellAt x key).inn + n) }).2))]) rfl rfl rfl) ?_
 refine TL.store (vs := ints ((moreR x key n (cellAt x key).inn { cellAt x key with inn := w64 ((cellAt x key).inn + n) }).1).flat) (i := 0) (H' := [blkA b6 (ints ((moreR x key n (cellAt x key).inn { cellAt x key with inn := w64 ((cellAt x key).inn + n) }).1).flat) 48, blkA b3 (ints x.flat) 48]) (Want.plain rfl) rfl rfl rfl rfl rfl (by rw [(RowT.len ((moreR x key n (cellAt x key).inn { cellAt x key with inn := w64 ((cellAt x key).inn + n) }).1))]; exact sz48) (ints_one _) rfl rfl (by have h0 := (RowT.len RowT.zero); have h1 := (RowT.len ((moreR x key n (cellAt x key).inn { cellAt x key with inn := w64 ((cellAt x key).inn + n) }).1)); omega) (wwhole ((RowT.len RowT.zero).trans (RowT.len ((moreR x key n (cellAt x key).inn { cellAt x key with inn := w64 ((cellAt x key).inn + n) }).1)).symm)) rfl ?_
 refine sg' ?_
 refine nx J4 ?_
 clear J4
 refine TC.ret ?_
 refine TE.retCT (H' := []) rfl rfl rfl Tryz.underlying48 rfl sz48 (Rd.own 0 rfl rfl) (RowT.len ((moreR x key n (cellAt x key).inn { cellAt x key with inn := w64 ((cellAt x key).inn + n) }).1)) (fun _ s => sep_keep [] rfl s) ?_
 exact ⟨by simp [rowInc, *], rfl⟩
 refine tp (PV.not (r := true) rfl rfl rfl) ?_
 refine nx J3 ?_
 clear J3
 refine TC.yes rfl ?_
 refine sr fun _ J5 => ?_
 refine tp (PV.build (cells := (ints RowT.zero.flat).toArray) rfl rfl (by as_aux_lemma => kernel_rfl)) ?_
 refine TL.store (vs := ints RowT.zero.flat) (i := 0) (H' := [blkA b6 (ints RowT.zero.flat) 48, blkA b3 (ints x.flat) 48]) (Want.plain rfl) rfl rfl rfl rfl rfl (by rw [(RowT.len RowT.zero)]; exact sz48) (ints_one _) rfl rfl (by have h0 := (RowT.len RowT.zero); have h1 := (RowT.len RowT.zero); omega) (wwhole ((RowT.len RowT.zero).trans (RowT.len RowT.zero).symm)) rfl ?_
 refine sg' ?_
 refine nx J5 ?_
 clear J5
 refine TC.ret ?_
 refine TE.passRet ?_
 clear J2
 refine TE.retCT (H' := []) rfl rfl rfl Tryz.underlying48 rfl sz48 (Rd.own 0 rfl rfl) (RowT.len RowT.zero) (fun _ s => sep_keep [] rfl s) ?_
 exact ⟨by simp [rowInc, *], rfl⟩
theorem rowDec_does (x : RowT) (key n : Int) :
    Does Tryz.prog 76 #[(.agg (ints x.flat).toArray), (.int .i64 (key)), (.int .i64 (n))] (fun _ => True) [] (Ret (fun r' H => r' = .tuple #[.agg (ints (rowDec x key n).1.flat).toArray, .int .i64 (rowDec x key n).2] ∧ H = [])) := by
 refine Does.body (vs := [(.agg (ints x.flat).toArray), (.int .i64 (key)), (.int .i64 (n))]) (n := 19) Tryz.func76 rfl rfl rfl (fun w0 F hF => ?_)
 refine sr fun _ J1 => ?_
 refine TL.box (Want.plain rfl) rfl rfl rfl rfl (fun b3 => ?_)
 change TL _ _ _ _ _ _ _ _ _ [blkA b3 (ints x.flat) 48]
 refine TL.alloc (Want.plain rfl) rfl rfl rfl z48 (fun b6 => ?_)
 change TL _ _ _ _ _ _ _ _ _ [blkA b6 (ints RowT.zero.flat) 48, blkA b3 (ints x.flat) 48]
 refine sg' ?_
 refine nx J1 ?_
 clear J1
 refine TC.seq fun _ J2 => ?_
 refine sr fun _ J3 => ?_
 refine mv ?_
 refine mv ?_
 refine TL.callR (A := []) (Want.plain rfl) rfl rfl rfl nm106 rfl (asked_does key n) (fun _ s => s) (fun _ _ _ => trivial) (fun vR HR hR => ?_)
 obtain ⟨rfl, rfl⟩ := hR
 change TL _ _ _ _ _ _ _ _ _ [blkA b6 (ints RowT.zero.flat) 48, blkA b3 (ints x.flat) 48]
 refine TL.decB (fun h10 => ?_) (fun h10 => ?_)
 have hq := h10
 unfold askB keyB okN at hq
 simp only [Bool.and_eq_true, decide_eq_true_iff] at hq
 have hk : 0 ≤ key ∧ key < 4 := hq.1.1
 have hn : 1 ≤ n ∧ n ≤ 1099511627776 := ⟨hq.1.2, hq.2.2⟩
 refine tp (PV.not (r := false) rfl rfl rfl) ?_
 refine nx J3 ?_
 clear J3
 refine TC.no rfl ?_
 refine TC.skip ?_
 refine TE.next J2 ?_
 clear J2
 refine sr fun _ J4 => ?_
 refine tp (PV.loadN (vs := ints x.flat) rfl Tryz.underlying48 rfl sz48 rfl (Rd.own 1 rfl rfl) (RowT.len x) (whole (RowT.len x))) ?_
 refine mv ?_
 refine mv ?_
 refine TL.callR (A := []) (Want.plain rfl) rfl rfl rfl nm107 rfl (moreDec_does x key n hk hn) (fun _ s => s) (fun _ _ _ => trivial) (fun vR HR hR => ?_)
 obtain ⟨rfl, rfl⟩ := hR
 change TL _ _ _ _ _ _ _ _ _ [blkA b6 (ints RowT.zero.flat) 48, blkA b3 (ints x.flat) 48]
 refine tp (PV.extract (vs := [(.agg (ints ((moreR x key n (cellAt x key).out { cellAt x key with out := w64 ((cellAt x key).out + n) }).1).flat).toArray), (.int .i64 ((moreR x key n (cellAt x key).out { cellAt x key with out := w64 ((cellAt x key).out + n) }).2))]) rfl rfl rfl) ?_
 refine tp (PV.extract (vs := [(.agg (ints ((moreR x key n (cellAt x key).out { cellAt x key with out := w64 ((cellAt x key).out + n) }).1).flat).toArray), (.int .i64 ((moreR x key n (cellAt x key).out { cellAt x key with out := w64 ((cellAt x key).out + n) }).2))]) rfl rfl rfl) ?_
 refine TL.store (vs := ints ((moreR x key n (cellAt x key).out { cellAt x key with out := w64 ((cellAt x key).out + n) }).1).flat) (i := 0) (H' := [blkA b6 (ints ((moreR x key n (cellAt x key).out { cellAt x key with out := w64 ((cellAt x key).out + n) }).1).flat) 48, blkA b3 (ints x.flat) 48]) (Want.plain rfl) rfl rfl rfl rfl rfl (by rw [(RowT.len ((moreR x key n (cellAt x key).out { cellAt x key with out := w64 ((cellAt x key).out + n) }).1))]; exact sz48) (ints_one _) rfl rfl (by have h0 := (RowT.len RowT.zero); have h1 := (RowT.len ((moreR x key n (cellAt x key).out { cellAt x key with out := w64 ((cellAt x key).out + n) }).1)); omega) (wwhole ((RowT.len RowT.zero).trans (RowT.len ((moreR x key n (cellAt x key).out { cellAt x key with out := w64 ((cellAt x key).out + n) }).1)).symm)) rfl ?_
 refine sg' ?_
 refine nx J4 ?_
 clear J4
 refine TC.ret ?_
 refine TE.retCT (H' := []) rfl rfl rfl Tryz.underlying48 rfl sz48 (Rd.own 0 rfl rfl) (RowT.len ((moreR x key n (cellAt x key).out { cellAt x key with out := w64 ((cellAt x key).out + n) }).1)) (fun _ s => sep_keep [] rfl s) ?_
 exact ⟨by simp [rowDec, *], rfl⟩
 refine tp (PV.not (r := true) rfl rfl rfl) ?_
 refine nx J3 ?_
 clear J3
 refine TC.yes rfl ?_
 refine sr fun _ J5 => ?_
 refine tp (PV.build (cells := (ints RowT.zero.flat).toArray) rfl rfl (by as_aux_lemma => kernel_rfl)) ?_
 refine TL.store (vs := ints RowT.zero.flat) (i := 0) (H' := [blkA b6 (ints RowT.zero.flat) 48, blkA b3 (ints x.flat) 48]) (Want.plain rfl) rfl rfl rfl rfl rfl (by rw [(RowT.len RowT.zero)]; exact sz48) (ints_one _) rfl rfl (by have h0 := (RowT.len RowT.zero); have h1 := (RowT.len RowT.zero); omega) (wwhole ((RowT.len RowT.zero).trans (RowT.len RowT.zero).symm)) rfl ?_
 refine sg' ?_
 refine nx J5 ?_
 clear J5
 refine TC.ret ?_
 refine TE.passRet ?_
 clear J2
 refine TE.retCT (H' := []) rfl rfl rfl Tryz.underlying48 rfl sz48 (Rd.own 0 rfl rfl) (RowT.len RowT.zero) (fun _ s => sep_keep [] rfl s) ?_
 exact ⟨by simp [rowDec, *], rfl⟩
theorem rowGive_does (x : RowT) (key n to' : Int) :
    Does Tryz.prog 77 #[(.agg (ints x.flat).toArray), (.int .i64 (key)), (.int .i64 (n)), (.int .i64 (to'))] (fun _ => True) [] (Ret (fun r' H => r' = .tuple #[.agg (ints (rowGive x key n to').1.flat).toArray, .int .i64 (rowGive x key n to').2] ∧ H = [])) := by
 refine Does.body (vs := [(.agg (ints x.flat).toArray), (.int .i64 (key)), (.int .i64 (n)), (.int .i64 (to'))]) (n := 27) Tryz.func77 rfl rfl rfl (fun w0 F hF => ?_)
 refine sr fun _ J1 => ?_
 refine TL.box (Want.plain rfl) rfl rfl rfl rfl (fun b4 => ?_)
 change TL _ _ _ _ _ _ _ _ _ [blkA b4 (ints x.flat) 48]
 refine TL.box (Want.plain rfl) rfl rfl rfl rfl (fun b7 => ?_)
 change TL _ _ _ _ _ _ _ _ _ [blkA b7 [(.int .i64 (to'))] 3, blkA b4 (ints x.flat) 48]
 refine TL.alloc (Want.plain rfl) rfl rfl rfl z48 (fun b8 => ?_)
 change TL _ _ _ _ _ _ _ _ _ [blkA b8 (ints RowT.zero.flat) 48, blkA b7 [(.int .i64 (to'))] 3, blkA b4 (ints x.flat) 48]
 refine sg' ?_
 refine nx J1 ?_
 clear J1
 refine TC.seq fun _ J2 => ?_
 refine sr fun _ J3 => ?_
 refine tp (PV.load1 (v := (.int .i64 (to'))) rfl Tryz.underlying3 rfl rfl (Rd.own 1 rfl rfl) rfl) ?_
 refine TL.callR (A := []) (Want.plain rfl) rfl rfl rfl nm110 rfl (rowMachine_does to') (fun _ s => s) (fun _ _ _ => trivial) (fun vR HR hR => ?_)
 obtain ⟨rfl, rfl⟩ := hR
 change TL _ _ _ _ _ _ _ _ _ [blkA b8 (ints RowT.zero.flat) 48, blkA b7 [(.int .i64 (to'))] 3, blkA b4 (ints x.flat) 48]
 refine TL.decB (fun h11 => ?_) (fun h11 => ?_)
 refine tp (PV.not (r := false) rfl rfl rfl) ?_
 refine mv ?_
 refine tq (PV.move rfl rfl) ?_
 refine tq (PV.move rfl rfl) ?_
 refine TL.callR (A := []) (Want.met rfl rfl rfl) rfl rfl rfl nm106 rfl (asked_does key n) (fun _ s => s) (fun _ _ _ => trivial) (fun vR HR hR => ?_)
 obtain ⟨rfl, rfl⟩ := hR
 change TL _ _ _ _ _ _ _ _ _ [blkA b8 (ints RowT.zero.flat) 48, blkA b7 [(.int .i64 (to'))] 3, blkA b4 (ints x.flat) 48]
 refine TL.decB (fun h16 => ?_) (fun h16 => ?_)
 have hq := h16
 unfold askB keyB okN at hq
 simp only [Bool.and_eq_true, decide_eq_true_iff] at hq
 have hk : 0 ≤ key ∧ key < 4 := hq.1.1
 have hn : 1 ≤ n ∧ n ≤ 1099511627776 := ⟨hq.1.2, hq.2.2⟩
 have ht : 0 ≤ to' ∧ to' < 5 := of_decide_eq_true h11
 refine tq (PV.not (r := false) rfl rfl rfl) ?_
 refine tp (PV.pick rfl rfl rfl) ?_
 refine nx J3 ?_
 clear J3
 refine TC.no rfl ?_
 refine TC.skip ?_
 refine TE.next J2 ?_
 clear J2
 refine sr fun _ J4 => ?_
 refine tp (PV.loadN (vs := ints x.flat) rfl Tryz.underlying48 rfl sz48 rfl (Rd.own 2 rfl rfl) (RowT.len x) (whole (RowT.len x))) ?_
 refine mv ?_
 refine mv ?_
 refine tp (PV.mkFunc rfl rfl) ?_
 refine TL.callR (A := [blkA b7 [(.int .i64 (to'))] 3]) (Want.plain rfl) rfl rfl rfl nm107 rfl (moreGive_does x key n hk hn b7 to' ht) (fun _ s => sep_selR [1] rfl s) (fun _ _ _ => trivial) (fun vR HR hR => ?_)
 obtain ⟨rfl, rfl⟩ := hR
 change TL _ _ _ _ _ _ _ _ _ [blkA b7 [(.int .i64 (to'))] 3, blkA b8 (ints RowT.zero.flat) 48, blkA b4 (ints x.flat) 48]
 refine tp (PV.extract (vs := [(.agg (ints ((moreR x key n (sumG (cellAt x key)) (giveTo (cellAt x key) to' (w64 (givenOf (cellAt x key) to' + n)))).1).flat).toArray), (.int .i64 ((moreR x key n (sumG (cellAt x key)) (giveTo (cellAt x key) to' (w64 (givenOf (cellAt x key) to' + n)))).2))]) rfl rfl rfl) ?_
 refine tp (PV.extract (vs := [(.agg (ints ((moreR x key n (sumG (cellAt x key)) (giveTo (cellAt x key) to' (w64 (givenOf (cellAt x key) to' + n)))).1).flat).toArray), (.int .i64 ((moreR x key n (sumG (cellAt x key)) (giveTo (cellAt x key) to' (w64 (givenOf (cellAt x key) to' + n)))).2))]) rfl rfl rfl) ?_
 refine TL.store (vs := ints ((moreR x key n (sumG (cellAt x key)) (giveTo (cellAt x key) to' (w64 (givenOf (cellAt x key) to' + n)))).1).flat) (i := 1) (H' := [blkA b7 [(.int .i64 (to'))] 3, blkA b8 (ints ((moreR x key n (sumG (cellAt x key)) (giveTo (cellAt x key) to' (w64 (givenOf (cellAt x key) to' + n)))).1).flat) 48, blkA b4 (ints x.flat) 48]) (Want.plain rfl) rfl rfl rfl rfl rfl (by rw [(RowT.len ((moreR x key n (sumG (cellAt x key)) (giveTo (cellAt x key) to' (w64 (givenOf (cellAt x key) to' + n)))).1))]; exact sz48) (ints_one _) rfl rfl (by have h0 := (RowT.len RowT.zero); have h1 := (RowT.len ((moreR x key n (sumG (cellAt x key)) (giveTo (cellAt x key) to' (w64 (givenOf (cellAt x key) to' + n)))).1)); omega) (wwhole ((RowT.len RowT.zero).trans (RowT.len ((moreR x key n (sumG (cellAt x key)) (giveTo (cellAt x key) to' (w64 (givenOf (cellAt x key) to' + n)))).1)).symm)) rfl ?_
 refine sg' ?_
 refine nx J4 ?_
 clear J4
 refine TC.ret ?_
 refine TE.retCT (H' := []) rfl rfl rfl Tryz.underlying48 rfl sz48 (Rd.own 1 rfl rfl) (RowT.len ((moreR x key n (sumG (cellAt x key)) (giveTo (cellAt x key) to' (w64 (givenOf (cellAt x key) to' + n)))).1)) (fun _ s => sep_keep [] rfl s) ?_
 exact ⟨by simp [rowGive, *], rfl⟩
 refine tq (PV.not (r := true) rfl rfl rfl) ?_
 refine tp (PV.pick rfl rfl rfl) ?_
 refine nx J3 ?_
 clear J3
 refine TC.yes rfl ?_
 refine sr fun _ J5 => ?_
 refine tp (PV.build (cells := (ints RowT.zero.flat).toArray) rfl rfl (by as_aux_lemma => kernel_rfl)) ?_
 refine TL.store (vs := ints RowT.zero.flat) (i := 0) (H' := [blkA b8 (ints RowT.zero.flat) 48, blkA b7 [(.int .i64 (to'))] 3, blkA b4 (ints x.flat) 48]) (Want.plain rfl) rfl rfl rfl rfl rfl (by rw [(RowT.len RowT.zero)]; exact sz48) (ints_one _) rfl rfl (by have h0 := (RowT.len RowT.zero); have h1 := (RowT.len RowT.zero); omega) (wwhole ((RowT.len RowT.zero).trans (RowT.len RowT.zero).symm)) rfl ?_
 refine sg' ?_
 refine nx J5 ?_
 clear J5
 refine TC.ret ?_
 refine TE.passRet ?_
 clear J2
 refine TE.retCT (H' := []) rfl rfl rfl Tryz.underlying48 rfl sz48 (Rd.own 0 rfl rfl) (RowT.len RowT.zero) (fun _ s => sep_keep [] rfl s) ?_
 exact ⟨by simp [rowGive, *], rfl⟩
 refine tp (PV.not (r := true) rfl rfl rfl) ?_
 refine mv ?_
 refine TL.unmet (b := true) rfl rfl rfl rfl (lb rfl) ?_
 refine TL.unmet (b := true) rfl rfl rfl rfl (lb rfl) ?_
 refine TL.unmet (b := true) rfl rfl rfl rfl (lb rfl) ?_
 refine TL.unmet (b := true) rfl rfl rfl rfl (lb rfl) ?_
 refine tp (PV.pick rfl rfl rfl) ?_
 refine nx J3 ?_
 clear J3
 refine TC.yes rfl ?_
 refine sr fun _ J6 => ?_
 refine tp (PV.build (cells := (ints RowT.zero.flat).toArray) rfl rfl (by as_aux_lemma => kernel_rfl)) ?_
 refine TL.store (vs := ints RowT.zero.flat) (i := 0) (H' := [blkA b8 (ints RowT.zero.flat) 48, blkA b7 [(.int .i64 (to'))] 3, blkA b4 (ints x.flat) 48]) (Want.plain rfl) rfl rfl rfl rfl rfl (by rw [(RowT.len RowT.zero)]; exact sz48) (ints_one _) rfl rfl (by have h0 := (RowT.len RowT.zero); have h1 := (RowT.len RowT.zero); omega) (wwhole ((RowT.len RowT.zero).trans (RowT.len RowT.zero).symm)) rfl ?_
 refine sg' ?_
 refine nx J6 ?_
 clear J6
 refine TC.ret ?_
 refine TE.passRet ?_
 clear J2
 refine TE.retCT (H' := []) rfl rfl rfl Tryz.underlying48 rfl sz48 (Rd.own 0 rfl rfl) (RowT.len RowT.zero) (fun _ s => sep_keep [] rfl s) ?_
 exact ⟨by simp [rowGive, *], rfl⟩
theorem rowOwn_does (x : RowT) (who : Int) :
    Does Tryz.prog 52 #[(.agg (ints x.flat).toArray), (.int .i64 (who))] (fun _ => True) [] (Ret (fun r' H => ∃ u, r' = u ∧ H = [own u (rowOwn x who).length (ints (rowOwn x who)) 3 1])) := by
 refine Does.body (vs := [(.agg (ints x.flat).toArray), (.int .i64 (who))]) (n := 27) Tryz.func52 rfl rfl rfl (fun w0 F hF => ?_)
 refine sr fun _ J1 => ?_
 refine TL.box (Want.plain rfl) rfl rfl rfl rfl (fun b2 => ?_)
 change TL _ _ _ _ _ _ _ _ _ [blkA b2 (ints x.flat) 48]
 refine sg' ?_
 refine nx J1 ?_
 refine sr fun _ J2 => ?_
 refine sg' ?_
 refine nx J2 ?_
 refine TC.seq fun _ J3 => ?_
 refine sr fun _ J4 => ?_
 refine tp (PV.fieldAddr (r := 29) rfl Tryz.underlying48 rfl sz42 rfl rfl) ?_
 refine tp (PV.loadN (vs := ints x.heir.toList) rfl Tryz.underlying42 rfl sz42 rfl (Rd.own 0 rfl rfl) (vi5_len x.heir) (RowT.sub_heir x 0 rfl (by decide) (whole (vi5_len x.heir)))) ?_
 refine mv ?_
 refine nx J4 ?_
 refine TC.block ?_
 refine TC.loop (α := (Nat) × (Value)) (fun ⟨k, u⟩ => k ≤ 5 ∧ u.oneCell' = true) (fun ⟨k, u⟩ => [(1, (.int .i64 (who))), (4, (.slice none 0 0)), (5, u), (9, (.agg (ints x.heir.toList).toArray)), (10, (.int .i64 (((k : Nat) : Int))))]) (fun ⟨k, u⟩ => [own u ((ownTo x who k).length) (ints (ownTo x who k)) 3 1]) (fun ⟨k, u⟩ => 5 - k) (0, (.slice none 0 0))
     ⟨Nat.zero_le _, rfl⟩ (Sub.r (Sub.r (Sub.r (Sub.r (Sub.cons rfl (by congr 1) (Sub.nil _))))))
     (fun _ s => sep_ownNil 3 1 (sep_keep [] rfl s)) (fun ⟨k, u⟩ hinv => ?_)
 obtain ⟨hk, hu⟩ := hinv
 have hol := ownTo_len x who k
 refine sr fun _ J5 => ?_
 refine tp (PV.lss rfl rfl rfl) ?_
 refine TL.dec (fun h11 => ?_) (fun h11 => ?_)
 refine nx J5 ?_
 refine TC.seq fun _ J6 => ?_
 refine TC.yes rfl ?_
 refine TC.skip ?_
 refine TE.next J6 ?_
 refine TC.seq fun _ J7 => ?_
 refine TC.block ?_
 refine sr fun _ J8 => ?_
 refine mv ?_
 refine tp (PV.index1 (cs := ints x.heir.toList) (v := Value.int .i64 (x.heir[k]'(by omega))) (r := k) rfl Tryz.underlying42 Tryz.underlying3 rfl sz3 rfl rfl (by omega) (by omega) (by omega) (vi_at x.heir (by omega))) ?_
 refine sg' ?_
 refine sg' ?_
 refine nx J8 ?_
 refine sr fun _ J9 => ?_
 refine mv ?_
 refine mv ?_
 refine tp (PV.eql rfl rfl rfl) ?_
 refine TL.dec (fun h16 => ?_) (fun h16 => ?_)
 refine mv ?_
 refine TL.unmet (b := true) rfl rfl rfl rfl (lb rfl) ?_
 refine TL.unmet (b := true) rfl rfl rfl rfl (lb rfl) ?_
 refine tp (PV.pick rfl rfl rfl) ?_
 refine nx J9 ?_
 refine TC.yes rfl ?_
 refine TC.region ?_
 refine mv ?_
 refine mv ?_
 refine TL.buildSlice (cells := #[(.int .i64 (((k : Nat) : Int)))]) (Want.plain rfl) rfl rfl rfl Tryz.underlying74 in3 rfl rfl rfl (by as_aux_lemma => kernel_rfl) (fun b23 => ?_)
 change TL _ _ _ _ _ _ _ _ _ [blkA b23 [(.int .i64 (((k : Nat) : Int)))] 3, own u ((ownTo x who k).length) (ints (ownTo x who k)) 3 1]
 refine TL.append (k := 1) (news := [(.int .i64 (((k : Nat) : Int)))]) (nn' := (ownTo x who k).length + 1) (xs' := ints (ownTo x who k) ++ [(.int .i64 (((k : Nat) : Int)))]) (Want.plain rfl) rfl rfl rfl Tryz.underlying74 in3 rfl rfl rfl rfl rfl rfl (fun _ _ => Src.rd rfl (Rd.own 0 rfl rfl) rfl) (by simp [Value.oneCell']) (by simp only [maxLen]; omega) (by omega) (by simp) (by simp) (fun v24 ov24 => ?_)
 change TL _ _ _ _ _ _ _ _ _ [blkA b23 [(.int .i64 (((k : Nat) : Int)))] 3, own v24 ((ownTo x who k).length + 1) (ints (ownTo x who k) ++ [(.int .i64 (((k : Nat) : Int)))]) 3 1]
 refine sg' ?_
 refine TL.nil ?_
 refine TE.blockEnd ?_
 refine TE.next J7 ?_
 refine TC.region ?_
 refine tp (PV.add rfl rfl rfl (wrap_i64 (by omega) (by omega))) ?_
 refine mv ?_
 refine TL.nil ?_
 exact TE.round ((k + 1, v24) : (Nat) × (Value)) ⟨by omega, ov24⟩ (by show 5 - (k + 1) < 5 - k; omega)
   (Sub.r (Sub.r (Sub.r (Sub.r (Sub.cons rfl (by simp) (Sub.nil _))))))
   (fun _ s => by
      show sep [own v24 (ownTo x who (k + 1)).length (ints (ownTo x who (k + 1))) 3 1] _
      rw [show ownTo x who (k + 1) = ownTo x who k ++ [((k : Nat) : Int)] by rw [ownTo_succ, if_pos (by rw [ownAt_eq x who (by omega)]; simp; omega)], List.length_append, ints_append]
      exact sep_keep [1] rfl s)
 refine mv ?_
 refine tq (PV.move rfl rfl) ?_
 refine tq (PV.gtr rfl rfl rfl) ?_
 refine TL.dec (fun h19 => ?_) (fun h19 => ?_)
 refine tp (PV.pick rfl rfl rfl) ?_
 refine nx J9 ?_
 refine TC.yes rfl ?_
 refine TC.region ?_
 refine mv ?_
 refine mv ?_
 refine TL.buildSlice (cells := #[(.int .i64 (((k : Nat) : Int)))]) (Want.plain rfl) rfl rfl rfl Tryz.underlying74 in3 rfl rfl rfl (by as_aux_lemma => kernel_rfl) (fun b23 => ?_)
 change TL _ _ _ _ _ _ _ _ _ [blkA b23 [(.int .i64 (((k : Nat) : Int)))] 3, own u ((ownTo x who k).length) (ints (ownTo x who k)) 3 1]
 refine TL.append (k := 1) (news := [(.int .i64 (((k : Nat) : Int)))]) (nn' := (ownTo x who k).length + 1) (xs' := ints (ownTo x who k) ++ [(.int .i64 (((k : Nat) : Int)))]) (Want.plain rfl) rfl rfl rfl Tryz.underlying74 in3 rfl rfl rfl rfl rfl rfl (fun _ _ => Src.rd rfl (Rd.own 0 rfl rfl) rfl) (by simp [Value.oneCell']) (by simp only [maxLen]; omega) (by omega) (by simp) (by simp) (fun v24 ov24 => ?_)
 change TL _ _ _ _ _ _ _ _ _ [blkA b23 [(.int .i64 (((k : Nat) : Int)))] 3, own v24 ((ownTo x who k).length + 1) (ints (ownTo x who k) ++ [(.int .i64 (((k : Nat) : Int)))]) 3 1]
 refine sg' ?_
 refine TL.nil ?_
 refine TE.blockEnd ?_
 refine TE.next J7 ?_
 refine TC.region ?_
 refine tp (PV.add rfl rfl rfl (wrap_i64 (by omega) (by omega))) ?_
 refine mv ?_
 refine TL.nil ?_
 exact TE.round ((k + 1, v24) : (Nat) × (Value)) ⟨by omega, ov24⟩ (by show 5 - (k + 1) < 5 - k; omega)
   (Sub.r (Sub.r (Sub.r (Sub.r (Sub.cons rfl (by simp) (Sub.nil _))))))
   (fun _ s => by
      show sep [own v24 (ownTo x who (k + 1)).length (ints (ownTo x who (k + 1))) 3 1] _
      rw [show ownTo x who (k + 1) = ownTo x who k ++ [((k : Nat) : Int)] by rw [ownTo_succ, if_pos (by rw [ownAt_eq x who (by omega)]; simp; omega)], List.length_append, ints_append]
      exact sep_keep [1] rfl s)
 refine tp (PV.pick rfl rfl rfl) ?_
 refine nx J9 ?_
 refine TC.no rfl ?_
 refine TC.skip ?_
 refine TE.blockEnd ?_
 refine TE.next J7 ?_
 refine TC.region ?_
 refine tp (PV.add rfl rfl rfl (wrap_i64 (by omega) (by omega))) ?_
 refine mv ?_
 refine TL.nil ?_
 exact TE.round ((k + 1, u) : (Nat) × (Value)) ⟨by omega, hu⟩ (by show 5 - (k + 1) < 5 - k; omega)
   (Sub.r (Sub.r (Sub.r (Sub.r (Sub.cons rfl (by simp) (Sub.nil _))))))
   (fun _ s => by
      show sep [own u (ownTo x who (k + 1)).length (ints (ownTo x who (k + 1))) 3 1] _
      rw [show ownTo x who (k + 1) = ownTo x who k by rw [ownTo_succ, if_neg (by rw [ownAt_eq x who (by omega)]; simp; omega), List.append_nil]]
      exact sep_keep [0] rfl s)
 refine nx J5 ?_
 refine TC.seq fun _ J10 => ?_
 refine TC.no rfl ?_
 refine TC.exit ?_
 refine TE.pass ?_
 refine TE.pass ?_
 refine TE.hit ?_
 refine TE.next J3 ?_
 refine sr fun _ J11 => ?_
 refine mv ?_
 refine sg' ?_
 refine nx J11 ?_
 refine TC.ret ?_
 refine TE.weak (Sub.refl _) (fun _ s => sep_keep [0] rfl s) ?_
 refine TE.ret1 rfl rfl ?_
 obtain rfl : k = 5 := by omega
 exact ⟨u, rfl, rfl⟩
theorem rowCell_does (x : RowT) (who of' key : Int) :
    Does Tryz.prog 87 #[(.agg (ints x.flat).toArray), (.int .i64 (who)), (.int .i64 (of')), (.int .i64 (key))] (fun _ => True) [] (Ret (fun r' H => r' = .tuple #[.agg (ints (rowCell x who of' key).1.flat).toArray, .int .i64 (rowCell x who of' key).2] ∧ H = [])) := by
 refine Does.body (vs := [(.agg (ints x.flat).toArray), (.int .i64 (who)), (.int .i64 (of')), (.int .i64 (key))]) (n := 53) Tryz.func87 rfl rfl rfl (fun w0 F hF => ?_)
 refine sr fun _ J1 => ?_
 refine TL.box (Want.plain rfl) rfl rfl rfl rfl (fun b4 => ?_)
 change TL _ _ _ _ _ _ _ _ _ [blkA b4 (ints x.flat) 48]
 refine TL.alloc (Want.plain rfl) rfl rfl rfl z44 (fun b8 => ?_)
 change TL _ _ _ _ _ _ _ _ _ [blkA b8 (ints CellT.zero.flat) 44, blkA b4 (ints x.flat) 48]
 refine sg' ?_
 refine nx J1 ?_
 clear J1
 refine TC.seq fun _ J2 => ?_
 refine sr fun _ J3 => ?_
 refine mv ?_
 refine TL.callR (A := []) (Want.plain rfl) rfl rfl rfl nm110 rfl (rowMachine_does who) (fun _ s => s) (fun _ _ _ => trivial) (fun vR HR hR => ?_)
 obtain ⟨rfl, rfl⟩ := hR
 change TL _ _ _ _ _ _ _ _ _ [blkA b8 (ints CellT.zero.flat) 44, blkA b4 (ints x.flat) 48]
 refine TL.decB (fun h11 => ?_) (fun h11 => ?_)
 refine tp (PV.not (r := false) rfl rfl rfl) ?_
 refine mv ?_
 refine tq (PV.move rfl rfl) ?_
 refine TL.callR (A := []) (Want.met rfl rfl rfl) rfl rfl rfl nm110 rfl (rowMachine_does of') (fun _ s => s) (fun _ _ _ => trivial) (fun vR HR hR => ?_)
 obtain ⟨rfl, rfl⟩ := hR
 change TL _ _ _ _ _ _ _ _ _ [blkA b8 (ints CellT.zero.flat) 44, blkA b4 (ints x.flat) 48]
 refine TL.decB (fun h15 => ?_) (fun h15 => ?_)
 refine tq (PV.not (r := false) rfl rfl rfl) ?_
 refine tp (PV.pick rfl rfl rfl) ?_
 refine mv ?_
 refine tq (PV.move rfl rfl) ?_
 refine tq (PV.lss rfl rfl rfl) ?_
 refine TL.dec (fun h20 => ?_) (fun h20 => ?_)
 have hkb : keyB key = false := decide_eq_false (by omega)
 refine tp (PV.pick rfl rfl rfl) ?_
 refine mv ?_
 refine TL.unmet (b := true) rfl rfl rfl rfl (lb rfl) ?_
 refine TL.unmet (b := true) rfl rfl rfl rfl (lb rfl) ?_
 refine tp (PV.pick rfl rfl rfl) ?_
 refine nx J3 ?_
 clear J3
 refine TC.yes rfl ?_
 refine sr fun _ J4 => ?_
 refine tp (PV.build (cells := (ints CellT.zero.flat).toArray) rfl rfl (by as_aux_lemma => kernel_rfl)) ?_
 refine TL.store (vs := ints CellT.zero.flat) (i := 0) (H' := [blkA b8 (ints CellT.zero.flat) 44, blkA b4 (ints x.flat) 48]) (Want.plain rfl) rfl rfl rfl rfl rfl (by rw [(CellT.len CellT.zero)]; exact sz44) (ints_one _) rfl rfl (by have h0 := (CellT.len CellT.zero); have h1 := (CellT.len CellT.zero); omega) (wwhole ((CellT.len CellT.zero).trans (CellT.len CellT.zero).symm)) rfl ?_
 refine sg' ?_
 refine nx J4 ?_
 clear J4
 refine TC.ret ?_
 refine TE.passRet ?_
 clear J2
 refine TE.retCT (H' := []) rfl rfl rfl Tryz.underlying44 rfl sz44 (Rd.own 0 rfl rfl) (CellT.len CellT.zero) (fun _ s => sep_keep [] rfl s) ?_
 exact ⟨by simp [rowCell, *], rfl⟩
 refine tp (PV.pick rfl rfl rfl) ?_
 refine mv ?_
 refine tq (PV.move rfl rfl) ?_
 refine tq (PV.geq rfl rfl rfl) ?_
 refine TL.dec (fun h24 => ?_) (fun h24 => ?_)
 have hkb : keyB key = false := decide_eq_false (by omega)
 refine tp (PV.pick rfl rfl rfl) ?_
 refine nx J3 ?_
 clear J3
 refine TC.yes rfl ?_
 refine sr fun _ J5 => ?_
 refine tp (PV.build (cells := (ints CellT.zero.flat).toArray) rfl rfl (by as_aux_lemma => kernel_rfl)) ?_
 refine TL.store (vs := ints CellT.zero.flat) (i := 0) (H' := [blkA b8 (ints CellT.zero.flat) 44, blkA b4 (ints x.flat) 48]) (Want.plain rfl) rfl rfl rfl rfl rfl (by rw [(CellT.len CellT.zero)]; exact sz44) (ints_one _) rfl rfl (by have h0 := (CellT.len CellT.zero); have h1 := (CellT.len CellT.zero); omega) (wwhole ((CellT.len CellT.zero).trans (CellT.len CellT.zero).symm)) rfl ?_
 refine sg' ?_
 refine nx J5 ?_
 clear J5
 refine TC.ret ?_
 refine TE.passRet ?_
 clear J2
 refine TE.retCT (H' := []) rfl rfl rfl Tryz.underlying44 rfl sz44 (Rd.own 0 rfl rfl) (CellT.len CellT.zero) (fun _ s => sep_keep [] rfl s) ?_
 exact ⟨by simp [rowCell, *], rfl⟩
 have hw : machB who = true := by simpa using h11
 have ho : machB of' = true := by simpa using h15
 have hw2 : 0 ≤ who ∧ who < 5 := of_decide_eq_true hw
 have ho2 : 0 ≤ of' ∧ of' < 5 := of_decide_eq_true ho
 have hkb : keyB key = true := decide_eq_true ⟨by omega, by omega⟩
 have e1 : heirAt x of' = x.heir[of'.toNat]'(by omega) := by rw [heirAt, dif_pos ho]
 have e2 : leftAt x of' key = (x.left[of'.toNat]'(by omega))[key.toNat]'(by omega) := by rw [leftAt, dif_pos ⟨ho, hkb⟩]
 have e3 : cellAt x key = x.cells[key.toNat]'(by omega) := by rw [cellAt, dif_pos hkb]
 refine tp (PV.pick rfl rfl rfl) ?_
 refine nx J3 ?_
 clear J3
 refine TC.no rfl ?_
 refine TC.skip ?_
 refine TE.next J2 ?_
 clear J2
 refine TC.seq fun _ J6 => ?_
 refine sr fun _ J7 => ?_
 refine mv ?_
 refine mv ?_
 refine tp (PV.eql rfl rfl rfl) ?_
 refine TL.dec (fun h29 => ?_) (fun h29 => ?_)
 refine nx J7 ?_
 clear J7
 refine TC.yes rfl ?_
 refine TC.seq fun _ J8 => ?_
 refine TC.draw (fun w => Frm F w ∧ w.heap[b4]? = some (.cells (ints x.flat).toArray 48 (0, 0)) ∧ True) mixed rfl (fun _ s => ⟨Frm.of s, s.block 1 (lb rfl) rfl, trivial⟩) ?_
 refine ta 0 rfl (PV.move rfl rfl) ?_
 refine ta 1 rfl (PV.fieldAddr (r := 1) rfl Tryz.underlying48 rfl sz45 rfl rfl) ?_
 refine ta 2 rfl (PV.indexArr (r := 1 + key.toNat * 7) rfl Tryz.underlying45 sz44 rfl rfl (by omega) (by omega) (by omega)) ?_
 refine ta 3 rfl (PV.loadN (vs := ints (x.cells[key.toNat]'(by omega)).flat) rfl Tryz.underlying44 rfl sz44 rfl (fun _ h => h.2.1) (CellT.len (x.cells[key.toNat]'(by omega))) (RowT.sub_cells x (key.toNat * 7) (by omega) (by omega) (vs_sub CellT.flat_length x.cells (i := key.toNat) 0 (by omega) (by omega) (by decide) (whole (CellT.len (x.cells[key.toNat]'(by omega))))))) ?_
 refine ta 4 rfl (PV.fieldAddr (r := 0) rfl Tryz.underlying48 rfl sz3 rfl rfl) ?_
 refine ta 5 rfl (PV.load1 (v := (.int .i64 (x.version))) rfl Tryz.underlying3 rfl rfl (fun _ h => h.2.1) (RowT.at_version x rfl)) ?_
 refine TD.all [6] (by kernel_rfl) rfl ?_
 refine AllT.cons rfl ?_ ?_
 refine TL.store (vs := ints (x.cells[key.toNat]'(by omega)).flat) (i := 0) (H' := [blkA b8 (ints (x.cells[key.toNat]'(by omega)).flat) 44, blkA b4 (ints x.flat) 48]) (Want.plain rfl) rfl rfl rfl rfl rfl (by rw [(CellT.len (x.cells[key.toNat]'(by omega)))]; exact sz44) (ints_one _) rfl rfl (by have h0 := (CellT.len CellT.zero); have h1 := (CellT.len (x.cells[key.toNat]'(by omega))); omega) (wwhole ((CellT.len CellT.zero).trans (CellT.len (x.cells[key.toNat]'(by omega))).symm)) rfl ?_
 refine TL.nil ?_
 refine TE.draw (fun _ s => ⟨Frm.of s, s.block 1 (lb rfl) rfl, trivial⟩) ?_
 refine ta 7 rfl (PV.assign rfl rfl) ?_
 refine TD.done (by kernel_rfl) ?_
 refine TE.next J8 ?_
 clear J8
 refine TC.ret ?_
 refine TE.passRet ?_
 clear J6
 refine TE.retCT (H' := []) rfl rfl rfl Tryz.underlying44 rfl sz44 (Rd.own 0 rfl rfl) (CellT.len (x.cells[key.toNat]'(by omega))) (fun _ s => sep_keep [] rfl s) ?_
 exact ⟨by simp [rowCell, *], rfl⟩
 exact AllT.nil
 refine nx J7 ?_
 clear J7
 refine TC.no rfl ?_
 refine TC.skip ?_
 refine TE.next J6 ?_
 clear J6
 refine TC.seq fun _ J9 => ?_
 refine sr fun _ J10 => ?_
 refine mv ?_
 refine tp (PV.fieldAddr (r := 29) rfl Tryz.underlying48 rfl sz42 rfl rfl) ?_
 refine tp (PV.indexArr (r := 29 + (of').toNat) rfl Tryz.underlying42 sz3 rfl rfl (by omega) (by omega) (by omega)) ?_
 refine tp (PV.load1 (v := (.int .i64 ((x.heir[(of').toNat]'(by omega))))) rfl Tryz.underlying3 rfl rfl (Rd.own 1 rfl rfl) (RowT.pt_heir x ((of').toNat) (by omega) (by omega) (vi_at x.heir (by omega)))) ?_
 refine tp (PV.gtr rfl rfl rfl) ?_
 refine TL.dec (fun h40 => ?_) (fun h40 => ?_)
 refine nx J10 ?_
 clear J10
 refine TC.yes rfl ?_
 refine TC.seq fun _ J11 => ?_
 refine TC.draw (fun w => Frm F w ∧ w.heap[b4]? = some (.cells (ints x.flat).toArray 48 (0, 0)) ∧ True) mixed rfl (fun _ s => ⟨Frm.of s, s.block 1 (lb rfl) rfl, trivial⟩) ?_
 refine ta 0 rfl (PV.move rfl rfl) ?_
 refine ta 1 rfl (PV.move rfl rfl) ?_
 refine ta 2 rfl (PV.fieldAddr (r := 34) rfl Tryz.underlying48 rfl sz46 rfl rfl) ?_
 refine ta 3 rfl (PV.indexArr (r := 34 + ((of').toNat) * 28) rfl Tryz.underlying46 sz45 rfl rfl (by omega) (by omega) (by omega)) ?_
 refine ta 4 rfl (PV.indexArr (r := 34 + ((of').toNat) * 28 + key.toNat * 7) rfl Tryz.underlying45 sz44 rfl rfl (by omega) (by omega) (by omega)) ?_
 refine ta 5 rfl (PV.loadN (vs := ints ((x.left[(of').toNat]'(by omega))[key.toNat]'(by omega)).flat) rfl Tryz.underlying44 rfl sz44 rfl (fun _ h => h.2.1) (CellT.len ((x.left[(of').toNat]'(by omega))[key.toNat]'(by omega))) (RowT.sub_left x (((of').toNat) * 28 + key.toNat * 7) (by omega) (by omega) (vs_sub vl_len x.left (i := (of').toNat) (key.toNat * 7) (by omega) (by omega) (by omega) (vs_sub CellT.flat_length (x.left[(of').toNat]'(by omega)) (i := key.toNat) 0 (by omega) (by omega) (by decide) (whole (CellT.len ((x.left[(of').toNat]'(by omega))[key.toNat]'(by omega)))))))) ?_
 refine ta 6 rfl (PV.move rfl rfl) ?_
 refine ta 7 rfl (PV.fieldAddr (r := 29) rfl Tryz.underlying48 rfl sz42 rfl rfl) ?_
 refine ta 8 rfl (PV.indexArr (r := 29 + (of').toNat) rfl Tryz.underlying42 sz3 rfl rfl (by omega) (by omega) (by omega)) ?_
 refine ta 9 rfl (PV.load1 (v := (.int .i64 ((x.heir[(of').toNat]'(by omega))))) rfl Tryz.underlying3 rfl rfl (fun _ h => h.2.1) (RowT.pt_heir x ((of').toNat) (by omega) (by omega) (vi_at x.heir (by omega)))) ?_
 refine ta 10 rfl (PV.sub (r := (w64 ((x.heir[(of').toNat]'(by omega)) - 1))) rfl rfl rfl rfl) ?_
 refine TD.all [11] (by kernel_rfl) rfl ?_
 refine AllT.cons rfl ?_ ?_
 refine TL.store (vs := ints ((x.left[(of').toNat]'(by omega))[key.toNat]'(by omega)).flat) (i := 0) (H' := [blkA b8 (ints ((x.left[(of').toNat]'(by omega))[key.toNat]'(by omega)).flat) 44, blkA b4 (ints x.flat) 48]) (Want.plain rfl) rfl rfl rfl rfl rfl (by rw [(CellT.len ((x.left[(of').toNat]'(by omega))[key.toNat]'(by omega)))]; exact sz44) (ints_one _) rfl rfl (by have h0 := (CellT.len CellT.zero); have h1 := (CellT.len ((x.left[(of').toNat]'(by omega))[key.toNat]'(by omega))); omega) (wwhole ((CellT.len CellT.zero).trans (CellT.len ((x.left[(of').toNat]'(by omega))[key.toNat]'(by omega))).symm)) rfl ?_
 refine TL.nil ?_
 refine TE.draw (fun _ s => ⟨Frm.of s, s.block 1 (lb rfl) rfl, trivial⟩) ?_
 refine ta 12 rfl (PV.assign rfl rfl) ?_
 refine TD.done (by kernel_rfl) ?_
 refine TE.next J11 ?_
 clear J11
 refine TC.ret ?_
 refine TE.passRet ?_
 clear J9
 refine TE.retCT (H' := []) rfl rfl rfl Tryz.underlying44 rfl sz44 (Rd.own 0 rfl rfl) (CellT.len ((x.left[(of').toNat]'(by omega))[key.toNat]'(by omega))) (fun _ s => sep_keep [] rfl s) ?_
 exact ⟨by simp [rowCell, *], rfl⟩
 exact AllT.nil
 refine nx J10 ?_
 clear J10
 refine TC.no rfl ?_
 refine TC.skip ?_
 refine TE.next J9 ?_
 clear J9
 refine sr fun _ J12 => ?_
 refine tp (PV.build (cells := (ints CellT.zero.flat).toArray) rfl rfl (by as_aux_lemma => kernel_rfl)) ?_
 refine TL.store (vs := ints CellT.zero.flat) (i := 0) (H' := [blkA b8 (ints CellT.zero.flat) 44, blkA b4 (ints x.flat) 48]) (Want.plain rfl) rfl rfl rfl rfl rfl (by rw [(CellT.len CellT.zero)]; exact sz44) (ints_one _) rfl rfl (by have h0 := (CellT.len CellT.zero); have h1 := (CellT.len CellT.zero); omega) (wwhole ((CellT.len CellT.zero).trans (CellT.len CellT.zero).symm)) rfl ?_
 refine sg' ?_
 refine nx J12 ?_
 clear J12
 refine TC.ret ?_
 refine TE.retCT (H' := []) rfl rfl rfl Tryz.underlying44 rfl sz44 (Rd.own 0 rfl rfl) (CellT.len CellT.zero) (fun _ s => sep_keep [] rfl s) ?_
 exact ⟨by simp [rowCell, *], rfl⟩
 refine tq (PV.not (r := true) rfl rfl rfl) ?_
 refine tp (PV.pick rfl rfl rfl) ?_
 refine mv ?_
 refine TL.unmet (b := true) rfl rfl rfl rfl (lb rfl) ?_
 refine TL.unmet (b := true) rfl rfl rfl rfl (lb rfl) ?_
 refine tp (PV.pick rfl rfl rfl) ?_
 refine mv ?_
 refine TL.unmet (b := true) rfl rfl rfl rfl (lb rfl) ?_
 refine TL.unmet (b := true) rfl rfl rfl rfl (lb rfl) ?_
 refine tp (PV.pick rfl rfl rfl) ?_
 refine nx J3 ?_
 clear J3
 refine TC.yes rfl ?_
 refine sr fun _ J13 => ?_
 refine tp (PV.build (cells := (ints CellT.zero.flat).toArray) rfl rfl (by as_aux_lemma => kernel_rfl)) ?_
 refine TL.store (vs := ints CellT.zero.flat) (i := 0) (H' := [blkA b8 (ints CellT.zero.flat) 44, blkA b4 (ints x.flat) 48]) (Want.plain rfl) rfl rfl rfl rfl rfl (by rw [(CellT.len CellT.zero)]; exact sz44) (ints_one _) rfl rfl (by have h0 := (CellT.len CellT.zero); have h1 := (CellT.len CellT.zero); omega) (wwhole ((CellT.len CellT.zero).trans (CellT.len CellT.zero).symm)) rfl ?_
 refine sg' ?_
 refine nx J13 ?_
 clear J13
 refine TC.ret ?_
 refine TE.passRet ?_
 clear J2
 refine TE.retCT (H' := []) rfl rfl rfl Tryz.underlying44 rfl sz44 (Rd.own 0 rfl rfl) (CellT.len CellT.zero) (fun _ s => sep_keep [] rfl s) ?_
 exact ⟨by simp [rowCell, *], rfl⟩
 refine tp (PV.not (r := true) rfl rfl rfl) ?_
 refine mv ?_
 refine TL.unmet (b := true) rfl rfl rfl rfl (lb rfl) ?_
 refine TL.unmet (b := true) rfl rfl rfl rfl (lb rfl) ?_
 refine TL.unmet (b := true) rfl rfl rfl rfl (lb rfl) ?_
 refine tp (PV.pick rfl rfl rfl) ?_
 refine mv ?_
 refine TL.unmet (b := true) rfl rfl rfl rfl (lb rfl) ?_
 refine TL.unmet (b := true) rfl rfl rfl rfl (lb rfl) ?_
 refine tp (PV.pick rfl rfl rfl) ?_
 refine mv ?_
 refine TL.unmet (b := true) rfl rfl rfl rfl (lb rfl) ?_
 refine TL.unmet (b := true) rfl rfl rfl rfl (lb rfl) ?_
 refine tp (PV.pick rfl rfl rfl) ?_
 refine nx J3 ?_
 clear J3
 refine TC.yes rfl ?_
 refine sr fun _ J14 => ?_
 refine tp (PV.build (cells := (ints CellT.zero.flat).toArray) rfl rfl (by as_aux_lemma => kernel_rfl)) ?_
 refine TL.store (vs := ints CellT.zero.flat) (i := 0) (H' := [blkA b8 (ints CellT.zero.flat) 44, blkA b4 (ints x.flat) 48]) (Want.plain rfl) rfl rfl rfl rfl rfl (by rw [(CellT.len CellT.zero)]; exact sz44) (ints_one _) rfl rfl (by have h0 := (CellT.len CellT.zero); have h1 := (CellT.len CellT.zero); omega) (wwhole ((CellT.len CellT.zero).trans (CellT.len CellT.zero).symm)) rfl ?_
 refine sg' ?_
 refine nx J14 ?_
 clear J14
 refine TC.ret ?_
 refine TE.passRet ?_
 clear J2
 refine TE.retCT (H' := []) rfl rfl rfl Tryz.underlying44 rfl sz44 (Rd.own 0 rfl rfl) (CellT.len CellT.zero) (fun _ s => sep_keep [] rfl s) ?_
 exact ⟨by simp [rowCell, *], rfl⟩
theorem witnesses_does (who : Int) :
    Does Tryz.prog 49 #[(.int .i64 (who))] (fun _ => True) [] (Ret (fun r' H => ∃ u, r' = u ∧ H = [own u (witL who).length (ints (witL who)) 3 1])) := by
 refine Does.body (vs := [(.int .i64 (who))]) (n := 20) Tryz.func49 rfl rfl rfl (fun w0 F hF => ?_)
 refine sr fun _ J1 => ?_
 refine sg' ?_
 refine nx J1 ?_
 refine TC.seq fun _ J2 => ?_
 refine sr fun _ J3 => ?_
 refine mv ?_
 refine TL.callR (A := []) (Want.plain rfl) rfl rfl rfl nm53 rfl (vmachine_does who) (fun _ s => s) (fun _ _ _ => trivial) (fun vR HR hR => ?_)
 obtain ⟨rfl, rfl⟩ := hR
 change TL _ _ _ _ _ _ _ _ _ []
 refine TL.decB (fun h6 => ?_) (fun h6 => ?_)
 have hm : 0 ≤ who ∧ who < 5 := of_decide_eq_true h6
 refine tp (PV.not (r := false) rfl rfl rfl) ?_
 refine nx J3 ?_
 refine TC.no rfl ?_
 refine TC.skip ?_
 refine TE.next J2 ?_
 refine sr fun _ J4 => ?_
 refine TL.ownNilI 3 1 (fun on => ?_)
 clear on
 change TL _ _ _ _ _ _ _ _ _ [own (.slice none 0 0) (0) ([]) 3 1]
 refine sg' ?_
 refine nx J4 ?_
 refine TC.seq fun _ J5 => ?_
 refine sr fun _ J6 => ?_
 refine sg' ?_
 refine nx J6 ?_
 refine TC.block ?_
 refine TC.unroll 3 ?_
 refine TC.seq fun _ J7 => ?_
 refine sr fun _ J8 => ?_
 refine mv ?_
 refine tp (PV.leq rfl rfl rfl) ?_
 refine nx J8 ?_
 refine TC.yes rfl ?_
 refine TC.skip ?_
 refine TE.next J7 ?_
 refine TC.seq fun _ J9 => ?_
 refine TC.block ?_
 refine TC.region ?_
 refine mv ?_
 refine mv ?_
 refine mv ?_
 refine tp (PV.add (r := (who + 1)) rfl rfl rfl (wrap_i64 (by omega) (by omega))) ?_
 refine tp (PV.rem (r := ((who + 1) % 5)) rfl rfl rfl (by omega) (rem_pos (by omega))) ?_
 refine TL.buildSlice (cells := #[(.int .i64 (((who + 1) % 5)))]) (Want.plain rfl) rfl rfl rfl Tryz.underlying74 in3 rfl rfl rfl (by as_aux_lemma => kernel_rfl) (fun b17 => ?_)
 change TL _ _ _ _ _ _ _ _ _ [blkA b17 [(.int .i64 (((who + 1) % 5)))] 3, own (.slice none 0 0) (0) ([]) 3 1]
 refine TL.append (k := 1) (news := [(.int .i64 (((who + 1) % 5)))]) (nn' := 1) (xs' := [(.int .i64 (((who + 1) % 5)))]) (Want.plain rfl) rfl rfl rfl Tryz.underlying74 in3 rfl rfl rfl rfl rfl rfl (fun _ _ => Src.rd rfl (Rd.own 0 rfl rfl) rfl) (by simp [Value.oneCell']) (by simp only [maxLen]; omega) (by omega) (by simp) (by simp) (fun v18 ov18 => ?_)
 change TL _ _ _ _ _ _ _ _ _ [blkA b17 [(.int .i64 (((who + 1) % 5)))] 3, own v18 (1) ([(.int .i64 (((who + 1) % 5)))]) 3 1]
 refine sg' ?_
 refine TL.nil ?_
 refine TE.blockEnd ?_
 refine TE.next J9 ?_
 refine TC.region ?_
 refine mv ?_
 refine tp (PV.add (r := 2) rfl rfl rfl (by decide)) ?_
 refine sg' ?_
 refine TL.nil ?_
 refine TE.again ?_
 refine TC.seq fun _ J10 => ?_
 refine sr fun _ J11 => ?_
 refine mv ?_
 refine tp (PV.leq rfl rfl rfl) ?_
 refine nx J11 ?_
 refine TC.yes rfl ?_
 refine TC.skip ?_
 refine TE.next J10 ?_
 refine TC.seq fun _ J12 => ?_
 refine TC.block ?_
 refine TC.region ?_
 refine mv ?_
 refine mv ?_
 refine mv ?_
 refine tp (PV.add (r := (who + 2)) rfl rfl rfl (wrap_i64 (by omega) (by omega))) ?_
 refine tp (PV.rem (r := ((who + 2) % 5)) rfl rfl rfl (by omega) (rem_pos (by omega))) ?_
 refine TL.mono (H' := [own v18 (1) ([(.int .i64 (((who + 1) % 5)))]) 3 1]) (fun _ s => sep_keep [1] rfl s) ?_
 refine TL.buildSlice (cells := #[(.int .i64 (((who + 2) % 5)))]) (Want.plain rfl) rfl rfl rfl Tryz.underlying74 in3 rfl rfl rfl (by as_aux_lemma => kernel_rfl) (fun b17 => ?_)
 change TL _ _ _ _ _ _ _ _ _ [blkA b17 [(.int .i64 (((who + 2) % 5)))] 3, own v18 (1) ([(.int .i64 (((who + 1) % 5)))]) 3 1]
 refine TL.append (k := 1) (news := [(.int .i64 (((who + 2) % 5)))]) (nn' := 1 + 1) (xs' := [(.int .i64 (((who + 1) % 5)))] ++ [(.int .i64 (((who + 2) % 5)))]) (Want.plain rfl) rfl rfl rfl Tryz.underlying74 in3 rfl rfl rfl rfl rfl rfl (fun _ _ => Src.rd rfl (Rd.own 0 rfl rfl) rfl) (by simp [Value.oneCell']) (by simp only [maxLen]; omega) (by omega) (by simp) (by simp) (fun v18 ov18 => ?_)
 change TL _ _ _ _ _ _ _ _ _ [blkA b17 [(.int .i64 (((who + 2) % 5)))] 3, own v18 (1 + 1) ([(.int .i64 (((who + 1) % 5)))] ++ [(.int .i64 (((who + 2) % 5)))]) 3 1]
 refine sg' ?_
 refine TL.nil ?_
 refine TE.blockEnd ?_
 refine TE.next J12 ?_
 refine TC.region ?_
 refine mv ?_
 refine tp (PV.add (r := 3) rfl rfl rfl (by decide)) ?_
 refine sg' ?_
 refine TL.nil ?_
 refine TE.again ?_
 refine TC.seq fun _ J13 => ?_
 refine sr fun _ J14 => ?_
 refine mv ?_
 refine tp (PV.leq rfl rfl rfl) ?_
 refine nx J14 ?_
 refine TC.no rfl ?_
 refine TC.exit ?_
 refine TE.pass ?_
 refine TE.pass ?_
 refine TE.hit ?_
 refine TE.next J5 ?_
 refine sr fun _ J15 => ?_
 refine mv ?_
 refine sg' ?_
 refine nx J15 ?_
 refine TC.ret ?_
 refine TE.weak (Sub.refl _) (fun _ s => sep_keep [1] rfl s) ?_
 refine TE.ret1 rfl rfl ?_
 exact ⟨_, rfl, by rw [witL, if_pos h6]; rfl⟩
 refine tp (PV.not (r := true) rfl rfl rfl) ?_
 refine nx J3 ?_
 refine TC.yes rfl ?_
 refine sr fun _ J16 => ?_
 refine sg' ?_
 refine nx J16 ?_
 refine TC.ret ?_
 refine TE.passRet ?_
 refine TE.weak (H' := [own (.slice none 0 0) 0 [] 3 1]) (Sub.refl _) (fun _ s => sep_ownNil 3 1 s) ?_
 refine TE.ret1 rfl rfl ?_
 exact ⟨_, rfl, by rw [witL, if_neg (by simp [h6])]; rfl⟩
end Go.Proofs.YtfceaphohlbnbaaGreat
end

section
namespace Go.Proofs.YtfceaphohlbnbaaGreat

open Go Leg Codec Api

set_option linter.unusedSimpArgs false
set_option linter.unusedVariables false

set_option maxRecDepth 100000

set_option maxHeartbeats 8000000

theorem bookMerge_does (b off T : Nat) (cs : BookT → List Value) (hA : Arnd cs (fun x => ints x.flat) off) (B : BookT) (who : Int) (x : RowT) (hx : WF x.flat) :
    Does Tryz.prog 20 #[(.pointer (some ⟨b, off, none⟩)), (.int .i64 (who)), (.agg (ints x.flat).toArray)] (fun _ => True) [blkA b (cs B) T] (Ret (fun r' H => r' = .bool (bookMerge B who x).2 ∧ H = [blkA b (cs (bookMerge B who x).1) T])) := by
 refine Does.body (vs := [(.pointer (some ⟨b, off, none⟩)), (.int .i64 (who)), (.agg (ints x.flat).toArray)]) (n := 33) Tryz.func20 rfl rfl rfl (fun w0 F hF => ?_)
 refine sr fun _ J1 => ?_
 refine TL.box (Want.plain rfl) rfl rfl rfl rfl (fun b5 => ?_)
 change TL _ _ _ _ _ _ _ _ _ [blkA b5 (ints x.flat) 48, blkA b (cs B) T]
 refine sg' ?_
 refine nx J1 ?_
 refine TC.seq fun _ J2 => ?_
 refine TC.seq fun _ J3 => ?_
 refine TC.draw (fun w => Frm F w ∧ w.heap[b5]? = some (.cells (ints x.flat).toArray 48 (0, 0)) ∧ w.heap[b]? = some (.cells (cs B).toArray T (0, 0)) ∧ True) mixed rfl (fun _ s => ⟨Frm.of s, s.block 0 (lb rfl) rfl, s.block 1 (lb rfl) rfl, trivial⟩) ?_
 refine ta 0 rfl (PV.move rfl rfl) ?_
 refine TD.all [1] (by kernel_rfl) rfl ?_
 refine AllT.cons rfl ?_ ?_
 refine TL.callR (A := []) (Want.plain rfl) rfl rfl rfl nm50 rfl (bookMachine_does who) (fun _ s => s) (fun _ _ _ => trivial) (fun vR HR hR => ?_)
 obtain ⟨rfl, rfl⟩ := hR
 change TL _ _ _ _ _ _ _ _ _ [blkA b5 (ints x.flat) 48, blkA b (cs B) T]
 refine TL.decB (fun h8 => ?_) (fun h8 => ?_)
 have hm : 0 ≤ who ∧ who < 5 := of_decide_eq_true h8
 have hrow : bookRow B who = B.rows[who.toNat]'(by omega) := by rw [bookRow, dif_pos h8]
 refine TL.nil ?_
 refine TE.draw (fun _ s => ⟨Frm.of s, s.block 0 (lb rfl) rfl, s.block 1 (lb rfl) rfl, trivial⟩) ?_
 refine ta 2 rfl (PV.not (r := false) rfl rfl rfl) ?_
 refine ta 3 rfl (PV.move rfl rfl) ?_
 refine tb 4 rfl (PV.loadN (vs := ints x.flat) rfl Tryz.underlying48 rfl sz48 rfl (fun _ h => h.2.1) (RowT.len x) (whole (RowT.len x))) ?_
 refine TD.all [5] (by kernel_rfl) rfl ?_
 refine AllT.cons rfl ?_ ?_
 refine TL.callR (A := []) (Want.met rfl rfl rfl) rfl rfl rfl nm33 rfl (rowRight_does x hx) (fun _ s => s) (fun _ _ _ => trivial) (fun vR HR hR => ?_)
 obtain ⟨rfl, rfl⟩ := hR
 change TL _ _ _ _ _ _ _ _ _ [blkA b5 (ints x.flat) 48, blkA b (cs B) T]
 refine TL.decB (fun h12 => ?_) (fun h12 => ?_)
 refine TL.nil ?_
 refine TE.draw (fun _ s => ⟨Frm.of s, s.block 0 (lb rfl) rfl, s.block 1 (lb rfl) rfl, trivial⟩) ?_
 refine tb 6 rfl (PV.not (r := false) rfl rfl rfl) ?_
 refine ta 7 rfl (PV.pick rfl rfl rfl) ?_
 refine ta 8 rfl (PV.move rfl rfl) ?_
 refine tb 9 rfl (PV.fieldAddr (r := 0) rfl Tryz.underlying48 rfl sz3 rfl rfl) ?_
 refine tb 10 rfl (PV.load1 (v := (.int .i64 (x.version))) rfl Tryz.underlying3 rfl rfl (fun _ h => h.2.1) (RowT.at_version x rfl)) ?_
 refine tb 11 rfl (PV.move rfl rfl) ?_
 refine tb 12 rfl (PV.move rfl rfl) ?_
 refine tb 13 rfl (PV.nilCheck rfl rfl) ?_
 refine tb 14 rfl (PV.fieldAddr (r := off) rfl Tryz.underlying71 rfl sz69 rfl rfl) ?_
 refine tb 15 rfl (PV.indexArr (r := off + who.toNat * 174) rfl Tryz.underlying69 sz48 rfl rfl (by omega) (by omega) (by omega)) ?_
 refine tb 16 rfl (PV.fieldAddr (r := off + who.toNat * 174) rfl Tryz.underlying48 rfl sz3 rfl rfl) ?_
 refine tb 17 rfl (PV.load1 (v := (.int .i64 ((B.rows[who.toNat]'(by omega)).version))) rfl Tryz.underlying3 rfl rfl (fun _ h => h.2.2.1) (Arnd.at hA (j := who.toNat * 174) (by omega) (by have h0 := (BookT.len B); omega) (BookT.pt_rows B (who.toNat * 174) (by omega) (by omega) (vs_pt RowT.flat_length B.rows (i := who.toNat) 0 (by omega) (by omega) (by decide) (RowT.at_version (B.rows[who.toNat]'(by omega)) rfl))))) ?_
 refine tb 18 rfl (PV.leq rfl rfl rfl) ?_
 refine TD.dec (fun h25 => ?_) (fun h25 => ?_)
 refine ta 19 rfl (PV.pick rfl rfl rfl) ?_
 refine TD.done (by kernel_rfl) ?_
 refine TE.next J3 ?_
 refine TC.yes rfl ?_
 refine sr fun _ J4 => ?_
 refine sg' ?_
 refine nx J4 ?_
 refine TC.ret ?_
 refine TE.passRet ?_
 refine TE.weak (Sub.refl _) (fun _ s => sep_keep [1] rfl s) ?_
 refine TE.ret1 rfl rfl ?_
 have e : bookMerge B who x = (B, false) := by rw [bookMerge, if_neg (fun h => by simp only [Bool.and_eq_true, decide_eq_true_iff] at h; rw [hrow] at h; omega)]
 exact ⟨by rw [e], by rw [e]; rfl⟩
 refine ta 19 rfl (PV.pick rfl rfl rfl) ?_
 refine TD.done (by kernel_rfl) ?_
 refine TE.next J3 ?_
 refine TC.no rfl ?_
 refine TC.skip ?_
 refine TE.next J2 ?_
 refine TC.seq fun _ J5 => ?_
 refine TC.draw (fun w => Frm F w ∧ w.heap[b5]? = some (.cells (ints x.flat).toArray 48 (0, 0)) ∧ True) mixed rfl (fun _ s => ⟨Frm.of s, s.block 0 (lb rfl) rfl, trivial⟩) ?_
 refine ta 0 rfl (PV.move rfl rfl) ?_
 refine ta 1 rfl (PV.move rfl rfl) ?_
 refine ta 2 rfl (PV.loadN (vs := ints x.flat) rfl Tryz.underlying48 rfl sz48 rfl (fun _ h => h.2.1) (RowT.len x) (whole (RowT.len x))) ?_
 refine ta 3 rfl (PV.nilCheck rfl rfl) ?_
 refine ta 4 rfl (PV.fieldAddr (r := off) rfl Tryz.underlying71 rfl sz69 rfl rfl) ?_
 refine ta 5 rfl (PV.indexArr (r := off + who.toNat * 174) rfl Tryz.underlying69 sz48 rfl rfl (by omega) (by omega) (by omega)) ?_
 refine TD.all [6] (by kernel_rfl) rfl ?_
 refine AllT.cons rfl ?_ ?_
 refine TL.store (vs := ints x.flat) (i := 1) (H' := [blkA b5 (ints x.flat) 48, blkA b (cs (BookT.mk (B.rows.set who.toNat x (by omega)))) T]) (Want.plain rfl) rfl rfl rfl rfl rfl (by rw [(RowT.len x)]; exact sz48) (ints_one _) rfl rfl (by have h0 := (BookT.len B); have h2 := Arnd.le hA B; have h1 := (RowT.len x); omega) (Arnd.wr hA (x := B) (x' := (BookT.mk (B.rows.set who.toNat x (by omega)))) (j := who.toNat * 174) (by omega) (by have h0 := (BookT.len B); have h1 := (RowT.len x); omega) (BookT.wr_rows_ B (who.toNat * 174) (by omega) (by have h1 := (RowT.len x); omega) (vs_wr RowT.flat_length B.rows (i := who.toNat) 0 (by omega) (by omega) (by have h1 := (RowT.len x); omega) (wwhole ((RowT.len (B.rows[who.toNat]'(by omega))).trans (RowT.len x).symm))))) rfl ?_
 refine TL.nil ?_
 refine TE.draw (fun _ s => ⟨Frm.of s, s.block 0 (lb rfl) rfl, trivial⟩) ?_
 refine TD.done (by kernel_rfl) ?_
 refine TE.next J5 ?_
 refine sr fun _ J6 => ?_
 refine sg' ?_
 refine nx J6 ?_
 refine TC.ret ?_
 refine TE.weak (Sub.refl _) (fun _ s => sep_keep [1] rfl s) ?_
 refine TE.ret1 rfl rfl ?_
 have e : bookMerge B who x = (putRow B who x, true) := by rw [bookMerge, if_pos (by simp only [Bool.and_eq_true, decide_eq_true_iff, hrow]; exact ⟨⟨h8, h12⟩, by omega⟩)]
 exact ⟨by rw [e], by rw [e, putRow, dif_pos h8]; rfl⟩
 exact AllT.nil
 refine TL.nil ?_
 refine TE.draw (fun _ s => ⟨Frm.of s, s.block 0 (lb rfl) rfl, s.block 1 (lb rfl) rfl, trivial⟩) ?_
 refine tb 6 rfl (PV.not (r := true) rfl rfl rfl) ?_
 refine ta 7 rfl (PV.pick rfl rfl rfl) ?_
 refine ta 8 rfl (PV.move rfl rfl) ?_
 refine TD.takeNot (i := 9) (b := true) rfl (by kernel_rfl) (by kernel_rfl) (by kernel_rfl) (fun _ _ _ _ h => h) rfl rfl rfl rfl rfl ?_
 refine TD.takeNot (i := 10) (b := true) rfl (by kernel_rfl) (by kernel_rfl) (by kernel_rfl) (fun _ _ _ _ h => h) rfl rfl rfl rfl rfl ?_
 refine TD.takeNot (i := 11) (b := true) rfl (by kernel_rfl) (by kernel_rfl) (by kernel_rfl) (fun _ _ _ _ h => h) rfl rfl rfl rfl rfl ?_
 refine TD.takeNot (i := 12) (b := true) rfl (by kernel_rfl) (by kernel_rfl) (by kernel_rfl) (fun _ _ _ _ h => h) rfl rfl rfl rfl rfl ?_
 refine TD.takeNot (i := 13) (b := true) rfl (by kernel_rfl) (by kernel_rfl) (by kernel_rfl) (fun _ _ _ _ h => h) rfl rfl rfl rfl rfl ?_
 refine TD.takeNot (i := 14) (b := true) rfl (by kernel_rfl) (by kernel_rfl) (by kernel_rfl) (fun _ _ _ _ h => h) rfl rfl rfl rfl rfl ?_
 refine TD.takeNot (i := 15) (b := true) rfl (by kernel_rfl) (by kernel_rfl) (by kernel_rfl) (fun _ _ _ _ h => h) rfl rfl rfl rfl rfl ?_
 refine TD.takeNot (i := 16) (b := true) rfl (by kernel_rfl) (by kernel_rfl) (by kernel_rfl) (fun _ _ _ _ h => h) rfl rfl rfl rfl rfl ?_
 refine TD.takeNot (i := 17) (b := true) rfl (by kernel_rfl) (by kernel_rfl) (by kernel_rfl) (fun _ _ _ _ h => h) rfl rfl rfl rfl rfl ?_
 refine TD.takeNot (i := 18) (b := true) rfl (by kernel_rfl) (by kernel_rfl) (by kernel_rfl) (fun _ _ _ _ h => h) rfl rfl rfl rfl rfl ?_
 refine ta 19 rfl (PV.pick rfl rfl rfl) ?_
 refine TD.done (by kernel_rfl) ?_
 refine TE.next J3 ?_
 refine TC.yes rfl ?_
 refine sr fun _ J7 => ?_
 refine sg' ?_
 refine nx J7 ?_
 refine TC.ret ?_
 refine TE.passRet ?_
 refine TE.weak (Sub.refl _) (fun _ s => sep_keep [1] rfl s) ?_
 refine TE.ret1 rfl rfl ?_
 have e : bookMerge B who x = (B, false) := by rw [bookMerge, if_neg (fun h => by simp only [Bool.and_eq_true, decide_eq_true_iff] at h; rw [h12] at h; exact absurd h.1.2 (by decide))]
 exact ⟨by rw [e], by rw [e]; rfl⟩
 exact AllT.nil
 refine TL.nil ?_
 refine TE.draw (fun _ s => ⟨Frm.of s, s.block 0 (lb rfl) rfl, s.block 1 (lb rfl) rfl, trivial⟩) ?_
 refine ta 2 rfl (PV.not (r := true) rfl rfl rfl) ?_
 refine ta 3 rfl (PV.move rfl rfl) ?_
 refine TD.takeNot (i := 4) (b := true) rfl (by kernel_rfl) (by kernel_rfl) (by kernel_rfl) (fun _ _ _ _ h => h) rfl rfl rfl rfl rfl ?_
 refine TD.takeNot (i := 5) (b := true) rfl (by kernel_rfl) (by kernel_rfl) (by kernel_rfl) (fun _ _ _ _ h => h) rfl rfl rfl rfl rfl ?_
 refine TD.takeNot (i := 6) (b := true) rfl (by kernel_rfl) (by kernel_rfl) (by kernel_rfl) (fun _ _ _ _ h => h) rfl rfl rfl rfl rfl ?_
 refine ta 7 rfl (PV.pick rfl rfl rfl) ?_
 refine ta 8 rfl (PV.move rfl rfl) ?_
 refine TD.takeNot (i := 9) (b := true) rfl (by kernel_rfl) (by kernel_rfl) (by kernel_rfl) (fun _ _ _ _ h => h) rfl rfl rfl rfl rfl ?_
 refine TD.takeNot (i := 10) (b := true) rfl (by kernel_rfl) (by kernel_rfl) (by kernel_rfl) (fun _ _ _ _ h => h) rfl rfl rfl rfl rfl ?_
 refine TD.takeNot (i := 11) (b := true) rfl (by kernel_rfl) (by kernel_rfl) (by kernel_rfl) (fun _ _ _ _ h => h) rfl rfl rfl rfl rfl ?_
 refine TD.takeNot (i := 12) (b := true) rfl (by kernel_rfl) (by kernel_rfl) (by kernel_rfl) (fun _ _ _ _ h => h) rfl rfl rfl rfl rfl ?_
 refine TD.takeNot (i := 13) (b := true) rfl (by kernel_rfl) (by kernel_rfl) (by kernel_rfl) (fun _ _ _ _ h => h) rfl rfl rfl rfl rfl ?_
 refine TD.takeNot (i := 14) (b := true) rfl (by kernel_rfl) (by kernel_rfl) (by kernel_rfl) (fun _ _ _ _ h => h) rfl rfl rfl rfl rfl ?_
 refine TD.takeNot (i := 15) (b := true) rfl (by kernel_rfl) (by kernel_rfl) (by kernel_rfl) (fun _ _ _ _ h => h) rfl rfl rfl rfl rfl ?_
 refine TD.takeNot (i := 16) (b := true) rfl (by kernel_rfl) (by kernel_rfl) (by kernel_rfl) (fun _ _ _ _ h => h) rfl rfl rfl rfl rfl ?_
 refine TD.takeNot (i := 17) (b := true) rfl (by kernel_rfl) (by kernel_rfl) (by kernel_rfl) (fun _ _ _ _ h => h) rfl rfl rfl rfl rfl ?_
 refine TD.takeNot (i := 18) (b := true) rfl (by kernel_rfl) (by kernel_rfl) (by kernel_rfl) (fun _ _ _ _ h => h) rfl rfl rfl rfl rfl ?_
 refine ta 19 rfl (PV.pick rfl rfl rfl) ?_
 refine TD.done (by kernel_rfl) ?_
 refine TE.next J3 ?_
 refine TC.yes rfl ?_
 refine sr fun _ J8 => ?_
 refine sg' ?_
 refine nx J8 ?_
 refine TC.ret ?_
 refine TE.passRet ?_
 refine TE.weak (Sub.refl _) (fun _ s => sep_keep [1] rfl s) ?_
 refine TE.ret1 rfl rfl ?_
 have e : bookMerge B who x = (B, false) := by rw [bookMerge, if_neg (fun h => by simp only [Bool.and_eq_true, decide_eq_true_iff] at h; rw [h8] at h; exact absurd h.1.1 (by decide))]
 exact ⟨by rw [e], by rw [e]; rfl⟩
 exact AllT.nil
theorem bookCell_does (b off T : Nat) (cs : BookT → List Value) (hA : Arnd cs (fun x => ints x.flat) off) (B : BookT) (of' key : Int) :
    Does Tryz.prog 51 #[(.pointer (some ⟨b, off, none⟩)), (.int .i64 (of')), (.int .i64 (key))] (fun _ => True) [blkA b (cs B) T] (Ret (fun r' H => r' = .agg (ints (bookCell B of' key).flat).toArray ∧ H = [blkA b (cs B) T])) := by
 refine Does.body (vs := [(.pointer (some ⟨b, off, none⟩)), (.int .i64 (of')), (.int .i64 (key))]) (n := 35) Tryz.func51 rfl rfl rfl (fun w0 F hF => ?_)
 refine sr fun _ J1 => ?_
 refine TL.alloc (Want.plain rfl) rfl rfl rfl z44 (fun b6 => ?_)
 change TL _ _ _ _ _ _ _ _ _ [blkA b6 (ints CellT.zero.flat) 44, blkA b (cs B) T]
 refine nx J1 ?_
 refine sr fun _ J2 => ?_
 refine TL.alloc (Want.plain rfl) rfl rfl rfl z44 (fun b7 => ?_)
 change TL _ _ _ _ _ _ _ _ _ [blkA b7 (ints CellT.zero.flat) 44, blkA b6 (ints CellT.zero.flat) 44, blkA b (cs B) T]
 refine nx J2 ?_
 refine sr fun _ J3 => ?_
 refine sg' ?_
 refine nx J3 ?_
 refine TC.seq fun _ J4 => ?_
 refine sr fun _ J5 => ?_
 refine mv ?_
 refine nx J5 ?_
 refine TC.block ?_
 refine TC.loop (α := (Nat) × (CellT) × (Int)) (fun ⟨k, c, n⟩ => k ≤ 5 ∧ (c, n) = bookTo B of' key k) (fun ⟨k, c, n⟩ => [(0, (.pointer (some ⟨b, off, none⟩))), (1, (.int .i64 (of'))), (2, (.int .i64 (key))), (6, (.pointer (some ⟨b6, 0, none⟩))), (7, (.pointer (some ⟨b7, 0, none⟩))), (8, (.int .i64 (n))), (12, (.int .i64 (((k : Nat) : Int))))]) (fun ⟨k, c, n⟩ => [blkA b7 (ints c.flat) 44, blkA b6 (ints CellT.zero.flat) 44, blkA b (cs B) T]) (fun ⟨k, c, n⟩ => 5 - k) (0, CellT.zero, -1)
     ⟨Nat.zero_le _, rfl⟩ (Sub.r (Sub.r (Sub.r (Sub.r (Sub.r (Sub.cons rfl (by congr 1) (Sub.cons rfl (by congr 1) (Sub.nil _))))))))
     (fun _ s => s) (fun ⟨k, c, n⟩ hinv => ?_)
 obtain ⟨hk, hc⟩ := hinv
 refine sr fun _ J6 => ?_
 refine tp (PV.lss rfl rfl rfl) ?_
 refine TL.dec (fun h13 => ?_) (fun h13 => ?_)
 refine nx J6 ?_
 refine TC.seq fun _ J7 => ?_
 refine TC.yes rfl ?_
 refine TC.skip ?_
 refine TE.next J7 ?_
 refine TC.seq fun _ J8 => ?_
 refine TC.block ?_
 refine sr fun _ J9 => ?_
 refine mv ?_
 refine sg' ?_
 refine nx J9 ?_
 refine sr fun _ J10 => ?_
 refine mv ?_
 refine mv ?_
 refine tp (PV.nilCheck rfl rfl) ?_
 refine tp (PV.fieldAddr (r := off) rfl Tryz.underlying71 rfl sz69 rfl rfl) ?_
 refine tp (PV.indexArr (r := off + k * 174) rfl Tryz.underlying69 sz48 rfl rfl (by omega) (by omega) (by omega)) ?_
 refine tp (PV.loadN (vs := ints (B.rows[k]'(by omega)).flat) rfl Tryz.underlying48 rfl sz48 rfl (Rd.own 2 rfl rfl) (RowT.len (B.rows[k]'(by omega))) (Arnd.sub hA (j := k * 174) (by omega) (by have h0 := (BookT.len B); omega) (BookT.sub_rows B (k * 174) (by omega) (by omega) (vs_sub RowT.flat_length B.rows (i := k) 0 (by omega) (by omega) (by decide) (whole (RowT.len (B.rows[k]'(by omega)))))))) ?_
 refine mv ?_
 refine mv ?_
 refine mv ?_
 refine TL.callR (A := []) (Want.plain rfl) rfl rfl rfl nm87 rfl (rowCell_does (B.rows[k]'(by omega)) ((k : Nat) : Int) of' key) (fun _ s => s) (fun _ _ _ => trivial) (fun vR HR hR => ?_)
 obtain ⟨rfl, rfl⟩ := hR
 change TL _ _ _ _ _ _ _ _ _ [blkA b7 (ints c.flat) 44, blkA b6 (ints CellT.zero.flat) 44, blkA b (cs B) T]
 refine mv ?_
 refine tp (PV.extract (vs := [(.agg (ints ((rowCell (B.rows[k]'(by omega)) ((k : Nat) : Int) of' key).1).flat).toArray), (.int .i64 ((rowCell (B.rows[k]'(by omega)) ((k : Nat) : Int) of' key).2))]) rfl rfl rfl) ?_
 refine tp (PV.extract (vs := [(.agg (ints ((rowCell (B.rows[k]'(by omega)) ((k : Nat) : Int) of' key).1).flat).toArray), (.int .i64 ((rowCell (B.rows[k]'(by omega)) ((k : Nat) : Int) of' key).2))]) rfl rfl rfl) ?_
 refine TL.alloc (Want.plain rfl) rfl rfl rfl z44 (fun b10 => ?_)
 change TL _ _ _ _ _ _ _ _ _ [blkA b10 (ints CellT.zero.flat) 44, blkA b7 (ints c.flat) 44, blkA b6 (ints CellT.zero.flat) 44, blkA b (cs B) T]
 refine TL.store (vs := ints ((rowCell (B.rows[k]'(by omega)) ((k : Nat) : Int) of' key).1).flat) (i := 0) (H' := [blkA b10 (ints ((rowCell (B.rows[k]'(by omega)) ((k : Nat) : Int) of' key).1).flat) 44, blkA b7 (ints c.flat) 44, blkA b6 (ints CellT.zero.flat) 44, blkA b (cs B) T]) (Want.plain rfl) rfl rfl rfl rfl rfl (by rw [(CellT.len ((rowCell (B.rows[k]'(by omega)) ((k : Nat) : Int) of' key).1))]; exact sz44) (ints_one _) rfl rfl (by have h0 := (CellT.len CellT.zero); have h1 := (CellT.len ((rowCell (B.rows[k]'(by omega)) ((k : Nat) : Int) of' key).1)); omega) (wwhole ((CellT.len CellT.zero).trans (CellT.len ((rowCell (B.rows[k]'(by omega)) ((k : Nat) : Int) of' key).1)).symm)) rfl ?_
 refine sg' ?_
 refine nx J10 ?_
 refine sr fun _ J11 => ?_
 refine mv ?_
 refine mv ?_
 refine tp (PV.gtr rfl rfl rfl) ?_
 refine TL.dec (fun h30 => ?_) (fun h30 => ?_)
 refine nx J11 ?_
 refine TC.yes rfl ?_
 refine TC.region ?_
 refine tp (PV.loadN (vs := ints ((rowCell (B.rows[k]'(by omega)) ((k : Nat) : Int) of' key).1).flat) rfl Tryz.underlying44 rfl sz44 rfl (Rd.own 0 rfl rfl) (CellT.len ((rowCell (B.rows[k]'(by omega)) ((k : Nat) : Int) of' key).1)) (whole (CellT.len ((rowCell (B.rows[k]'(by omega)) ((k : Nat) : Int) of' key).1)))) ?_
 refine mv ?_
 refine TL.store (vs := ints ((rowCell (B.rows[k]'(by omega)) ((k : Nat) : Int) of' key).1).flat) (i := 1) (H' := [blkA b10 (ints ((rowCell (B.rows[k]'(by omega)) ((k : Nat) : Int) of' key).1).flat) 44, blkA b7 (ints ((rowCell (B.rows[k]'(by omega)) ((k : Nat) : Int) of' key).1).flat) 44, blkA b6 (ints CellT.zero.flat) 44, blkA b (cs B) T]) (Want.plain rfl) rfl rfl rfl rfl rfl (by rw [(CellT.len ((rowCell (B.rows[k]'(by omega)) ((k : Nat) : Int) of' key).1))]; exact sz44) (ints_one _) rfl rfl (by have h0 := (CellT.len c); have h1 := (CellT.len ((rowCell (B.rows[k]'(by omega)) ((k : Nat) : Int) of' key).1)); omega) (wwhole ((CellT.len c).trans (CellT.len ((rowCell (B.rows[k]'(by omega)) ((k : Nat) : Int) of' key).1)).symm)) rfl ?_
 refine sg' ?_
 refine TL.nil ?_
 refine TE.blockEnd ?_
 refine TE.next J8 ?_
 refine TC.region ?_
 refine tp (PV.add rfl rfl rfl (wrap_i64 (by omega) (by omega))) ?_
 refine mv ?_
 refine TL.nil ?_
 exact TE.round ((k + 1, (rowCell (B.rows[k]'(by omega)) ((k : Nat) : Int) of' key).1, (rowCell (B.rows[k]'(by omega)) ((k : Nat) : Int) of' key).2) : (Nat) × (CellT) × (Int)) ⟨by omega, by rw [bookTo_succ, ← hc, bookStep, bookRow_at B (by omega)]; simp [h30]⟩ (by show 5 - (k + 1) < 5 - k; omega)
   (Sub.r (Sub.r (Sub.r (Sub.r (Sub.r (Sub.r (Sub.cons rfl (by simp) (Sub.nil _))))))))
   (fun _ s => sep_keep [1, 1, 1] rfl s)
 refine nx J11 ?_
 refine TC.no rfl ?_
 refine TC.skip ?_
 refine TE.blockEnd ?_
 refine TE.next J8 ?_
 refine TC.region ?_
 refine tp (PV.add rfl rfl rfl (wrap_i64 (by omega) (by omega))) ?_
 refine mv ?_
 refine TL.nil ?_
 exact TE.round ((k + 1, c, n) : (Nat) × (CellT) × (Int)) ⟨by omega, by rw [bookTo_succ, ← hc, bookStep, bookRow_at B (by omega)]; simp [h30]⟩ (by show 5 - (k + 1) < 5 - k; omega)
   (Sub.r (Sub.r (Sub.r (Sub.r (Sub.r (Sub.r (Sub.cons rfl (by simp) (Sub.nil _))))))))
   (fun _ s => sep_keep [1, 1, 1] rfl s)
 refine nx J6 ?_
 refine TC.seq fun _ J12 => ?_
 refine TC.no rfl ?_
 refine TC.exit ?_
 refine TE.pass ?_
 refine TE.pass ?_
 refine TE.hit ?_
 refine TE.next J4 ?_
 refine sr fun _ J13 => ?_
 refine tp (PV.loadN (vs := ints c.flat) rfl Tryz.underlying44 rfl sz44 rfl (Rd.own 0 rfl rfl) (CellT.len c) (whole (CellT.len c))) ?_
 refine TL.store (vs := ints c.flat) (i := 1) (H' := [blkA b7 (ints c.flat) 44, blkA b6 (ints c.flat) 44, blkA b (cs B) T]) (Want.plain rfl) rfl rfl rfl rfl rfl (by rw [(CellT.len c)]; exact sz44) (ints_one _) rfl rfl (by have h0 := (CellT.len CellT.zero); have h1 := (CellT.len c); omega) (wwhole ((CellT.len CellT.zero).trans (CellT.len c).symm)) rfl ?_
 refine nx J13 ?_
 refine TC.ret ?_
 refine TE.retC (H' := [blkA b (cs B) T]) rfl rfl Tryz.underlying44 rfl sz44 (Rd.own 1 rfl rfl) (CellT.len c) (fun _ s => sep_keep [2] rfl s) ?_
 obtain rfl : k = 5 := by omega
 exact ⟨by rw [bookCell, ← hc], rfl⟩
theorem bookValue_does (b off T : Nat) (cs : BookT → List Value) (hA : Arnd cs (fun x => ints x.flat) off) (B : BookT) (key : Int) :
    Does Tryz.prog 22 #[(.pointer (some ⟨b, off, none⟩)), (.int .i64 (key))] (fun _ => True) [blkA b (cs B) T] (Ret (fun r' H => r' = .int .i64 (bookValue B key) ∧ H = [blkA b (cs B) T])) := by
 refine Does.body (vs := [(.pointer (some ⟨b, off, none⟩)), (.int .i64 (key))]) (n := 24) Tryz.func22 rfl rfl rfl (fun w0 F hF => ?_)
 refine sr fun _ J1 => ?_
 refine sg' ?_
 refine nx J1 ?_
 refine sr fun _ J2 => ?_
 refine sg' ?_
 refine nx J2 ?_
 refine TC.seq fun _ J3 => ?_
 refine sr fun _ J4 => ?_
 refine mv ?_
 refine nx J4 ?_
 refine TC.block ?_
 refine TC.loop (α := (Nat) × (Int)) (fun ⟨k, n⟩ => k ≤ 5 ∧ n = valueTo B key k) (fun ⟨k, n⟩ => [(0, (.pointer (some ⟨b, off, none⟩))), (1, (.int .i64 (key))), (4, (.int .i64 0)), (5, (.int .i64 (n))), (8, (.int .i64 (((k : Nat) : Int))))]) (fun ⟨k, n⟩ => [blkA b (cs B) T]) (fun ⟨k, n⟩ => 5 - k) (0, 0)
     ⟨Nat.zero_le _, rfl⟩ (Sub.r (Sub.r (Sub.r (Sub.cons rfl (by congr 1) (Sub.cons rfl (by congr 1) (Sub.nil _))))))
     (fun _ s => s) (fun ⟨k, n⟩ hinv => ?_)
 obtain ⟨hk, hc⟩ := hinv
 refine sr fun _ J5 => ?_
 refine tp (PV.lss rfl rfl rfl) ?_
 refine TL.dec (fun h9 => ?_) (fun h9 => ?_)
 refine nx J5 ?_
 refine TC.seq fun _ J6 => ?_
 refine TC.yes rfl ?_
 refine TC.skip ?_
 refine TE.next J6 ?_
 refine TC.seq fun _ J7 => ?_
 refine TC.block ?_
 refine sr fun _ J8 => ?_
 refine mv ?_
 refine sg' ?_
 refine nx J8 ?_
 refine sr fun _ J9 => ?_
 refine mv ?_
 refine mv ?_
 refine mv ?_
 refine TL.callR (A := [blkA b (cs B) T]) (Want.plain rfl) rfl rfl rfl nm51 rfl (bookCell_does b off T cs hA B ((k : Nat) : Int) key) (fun _ s => s) (fun _ _ _ => trivial) (fun vR HR hR => ?_)
 obtain ⟨rfl, rfl⟩ := hR
 change TL _ _ _ _ _ _ _ _ _ [blkA b (cs B) T]
 refine TL.alloc (Want.plain rfl) rfl rfl rfl z44 (fun b7 => ?_)
 change TL _ _ _ _ _ _ _ _ _ [blkA b7 (ints CellT.zero.flat) 44, blkA b (cs B) T]
 refine TL.store (vs := ints (bookCell B ((k : Nat) : Int) key).flat) (i := 0) (H' := [blkA b7 (ints (bookCell B ((k : Nat) : Int) key).flat) 44, blkA b (cs B) T]) (Want.plain rfl) rfl rfl rfl rfl rfl (by rw [(CellT.len (bookCell B ((k : Nat) : Int) key))]; exact sz44) (ints_one _) rfl rfl (by have h0 := (CellT.len CellT.zero); have h1 := (CellT.len (bookCell B ((k : Nat) : Int) key)); omega) (wwhole ((CellT.len CellT.zero).trans (CellT.len (bookCell B ((k : Nat) : Int) key)).symm)) rfl ?_
 refine nx J9 ?_
 refine TC.region ?_
 refine mv ?_
 refine tp (PV.fieldAddr (r := 0) rfl Tryz.underlying44 rfl sz3 rfl rfl) ?_
 refine tp (PV.load1 (v := (.int .i64 ((bookCell B ((k : Nat) : Int) key).inn))) rfl Tryz.underlying3 rfl rfl (Rd.own 0 rfl rfl) (CellT.at_inn (bookCell B ((k : Nat) : Int) key) rfl)) ?_
 refine tp (PV.fieldAddr (r := 1) rfl Tryz.underlying44 rfl sz3 rfl rfl) ?_
 refine tp (PV.load1 (v := (.int .i64 ((bookCell B ((k : Nat) : Int) key).out))) rfl Tryz.underlying3 rfl rfl (Rd.own 0 rfl rfl) (CellT.at_out (bookCell B ((k : Nat) : Int) key) rfl)) ?_
 refine tp (PV.sub (r := (w64 (((bookCell B ((k : Nat) : Int) key).inn) - ((bookCell B ((k : Nat) : Int) key).out)))) rfl rfl rfl rfl) ?_
 refine tp (PV.add (r := (w64 (n + (w64 (((bookCell B ((k : Nat) : Int) key).inn) - ((bookCell B ((k : Nat) : Int) key).out)))))) rfl rfl rfl rfl) ?_
 refine sg' ?_
 refine TL.nil ?_
 refine TE.blockEnd ?_
 refine TE.next J7 ?_
 refine TC.region ?_
 refine tp (PV.add rfl rfl rfl (wrap_i64 (by omega) (by omega))) ?_
 refine mv ?_
 refine TL.nil ?_
 exact TE.round ((k + 1, (w64 (n + (w64 (((bookCell B ((k : Nat) : Int) key).inn) - ((bookCell B ((k : Nat) : Int) key).out)))))) : (Nat) × (Int)) ⟨by omega, by rw [valueTo_succ, ← hc]⟩ (by show 5 - (k + 1) < 5 - k; omega)
   (Sub.r (Sub.r (Sub.r (Sub.r (Sub.cons rfl (by simp) (Sub.nil _))))))
   (fun _ s => sep_keep [1] rfl s)
 refine nx J5 ?_
 refine TC.seq fun _ J10 => ?_
 refine TC.no rfl ?_
 refine TC.exit ?_
 refine TE.pass ?_
 refine TE.pass ?_
 refine TE.hit ?_
 refine TE.next J3 ?_
 refine sr fun _ J11 => ?_
 refine mv ?_
 refine sg' ?_
 refine nx J11 ?_
 refine TC.ret ?_
 refine TE.weak (Sub.refl _) (fun _ s => sep_keep [0] rfl s) ?_
 refine TE.ret1 rfl rfl ?_
 obtain rfl : k = 5 := by omega
 exact ⟨by rw [hc]; rfl, rfl⟩
theorem bookRights_does (b off T : Nat) (cs : BookT → List Value) (hA : Arnd cs (fun x => ints x.flat) off) (B : BookT) (who key : Int) :
    Does Tryz.prog 21 #[(.pointer (some ⟨b, off, none⟩)), (.int .i64 (who)), (.int .i64 (key))] (fun _ => True) [blkA b (cs B) T] (Ret (fun r' H => r' = .int .i64 (bookRights B who key) ∧ H = [blkA b (cs B) T])) := by
 refine Does.body (vs := [(.pointer (some ⟨b, off, none⟩)), (.int .i64 (who)), (.int .i64 (key))]) (n := 71) Tryz.func21 rfl rfl rfl (fun w0 F hF => ?_)
 refine sr fun _ J1 => ?_
 refine sg' ?_
 refine nx J1 ?_
 refine TC.seq fun _ J2 => ?_
 refine sr fun _ J3 => ?_
 refine mv ?_
 refine TL.callR (A := []) (Want.plain rfl) rfl rfl rfl nm50 rfl (bookMachine_does who) (fun _ s => s) (fun _ _ _ => trivial) (fun vR HR hR => ?_)
 obtain ⟨rfl, rfl⟩ := hR
 change TL _ _ _ _ _ _ _ _ _ [blkA b (cs B) T]
 refine TL.decB (fun h14 => ?_) (fun h14 => ?_)
 have hm : 0 ≤ who ∧ who < 5 := of_decide_eq_true h14
 refine tp (PV.not (r := false) rfl rfl rfl) ?_
 refine nx J3 ?_
 refine TC.no rfl ?_
 refine TC.skip ?_
 refine TE.next J2 ?_
 refine sr fun _ J4 => ?_
 refine TL.alloc (Want.plain rfl) rfl rfl rfl z127 (fun b7 => ?_)
 change TL _ _ _ _ _ _ _ _ _ [blkA b7 (ints ((#v[CellT.zero, CellT.zero, CellT.zero, CellT.zero, CellT.zero]).toList.flatMap CellT.flat)) 127, blkA b (cs B) T]
 refine nx J4 ?_
 refine TC.seq fun _ J5 => ?_
 refine sr fun _ J6 => ?_
 refine mv ?_
 refine nx J6 ?_
 refine TC.block ?_
 refine TC.loop (α := (Nat) × (Vector CellT 5)) (fun ⟨k, C⟩ => k ≤ 5 ∧ ∀ (j : Nat) (h : j < 5), j < k → C[j] = bookCell B j key) (fun ⟨k, C⟩ => [(0, (.pointer (some ⟨b, off, none⟩))), (1, (.int .i64 (who))), (2, (.int .i64 (key))), (6, (.int .i64 0)), (7, (.pointer (some ⟨b7, 0, none⟩))), (16, (.int .i64 (((k : Nat) : Int))))]) (fun ⟨k, C⟩ => [blkA b7 (ints (C.toList.flatMap CellT.flat)) 127, blkA b (cs B) T]) (fun ⟨k, C⟩ => 5 - k) (0, #v[CellT.zero, CellT.zero, CellT.zero, CellT.zero, CellT.zero])
     ⟨Nat.zero_le _, fun j _ h => absurd h (by omega)⟩ (Sub.r (Sub.r (Sub.r (Sub.r (Sub.r (Sub.cons rfl (by congr 1) (Sub.nil _)))))))
     (fun _ s => sep_keep [0, 0] rfl s) (fun ⟨k, C⟩ hinv => ?_)
 obtain ⟨hk, hC⟩ := hinv
 refine sr fun _ J7 => ?_
 refine tp (PV.lss rfl rfl rfl) ?_
 refine TL.dec (fun h17 => ?_) (fun h17 => ?_)
 refine nx J7 ?_
 refine TC.seq fun _ J8 => ?_
 refine TC.yes rfl ?_
 refine TC.skip ?_
 refine TE.next J8 ?_
 refine TC.seq fun _ J9 => ?_
 refine TC.block ?_
 refine sr fun _ J10 => ?_
 refine mv ?_
 refine sg' ?_
 refine nx J10 ?_
 refine TC.region ?_
 refine mv ?_
 refine mv ?_
 refine mv ?_
 refine mv ?_
 refine TL.callR (A := [blkA b (cs B) T]) (Want.plain rfl) rfl rfl rfl nm51 rfl (bookCell_does b off T cs hA B ((k : Nat) : Int) key) (fun _ s => sep_selR [1] rfl s) (fun _ _ _ => trivial) (fun vR HR hR => ?_)
 obtain ⟨rfl, rfl⟩ := hR
 change TL _ _ _ _ _ _ _ _ _ [blkA b (cs B) T, blkA b7 (ints (C.toList.flatMap CellT.flat)) 127]
 refine tp (PV.indexArr (r := k * 7) rfl Tryz.underlying127 sz44 rfl rfl (by omega) (by omega) (by omega)) ?_
 refine TL.store (vs := ints (bookCell B ((k : Nat) : Int) key).flat) (i := 1) (H' := [blkA b (cs B) T, blkA b7 (ints ((C.set k (bookCell B ((k : Nat) : Int) key) (by omega)).toList.flatMap CellT.flat)) 127]) (Want.plain rfl) rfl rfl rfl rfl rfl (by rw [(CellT.len (bookCell B ((k : Nat) : Int) key))]; exact sz44) (ints_one _) rfl rfl (by have h0 := (vsc_len C); have h1 := (CellT.len (bookCell B ((k : Nat) : Int) key)); omega) (vs_wr CellT.flat_length C (i := k) 0 (by omega) (by omega) (by have h1 := (CellT.len (bookCell B ((k : Nat) : Int) key)); omega) (wwhole ((CellT.len (C[k]'(by omega))).trans (CellT.len (bookCell B ((k : Nat) : Int) key)).symm))) rfl ?_
 refine TL.nil ?_
 refine TE.blockEnd ?_
 refine TE.next J9 ?_
 refine TC.region ?_
 refine tp (PV.add rfl rfl rfl (wrap_i64 (by omega) (by omega))) ?_
 refine mv ?_
 refine TL.nil ?_
 exact TE.round ((k + 1, (C.set k (bookCell B ((k : Nat) : Int) key) (by omega))) : (Nat) × (Vector CellT 5)) ⟨by omega, fun j h hj => by
        rw [Vector.getElem_set]
        split
        · subst_vars; rfl
        · exact hC j h (by omega)⟩ (by show 5 - (k + 1) < 5 - k; omega)
   (Sub.r (Sub.r (Sub.r (Sub.r (Sub.r (Sub.cons rfl (by simp) (Sub.nil _)))))))
   (fun _ s => sep_keep [1, 0] rfl s)
 refine nx J7 ?_
 refine TC.seq fun _ J11 => ?_
 refine TC.no rfl ?_
 refine TC.exit ?_
 refine TE.pass ?_
 refine TE.pass ?_
 refine TE.hit ?_
 refine TE.next J5 ?_
 refine sr fun _ J12 => ?_
 refine sg' ?_
 refine nx J12 ?_
 refine TC.seq fun _ J13 => ?_
 refine sr fun _ J14 => ?_
 refine mv ?_
 refine mv ?_
 refine tp (PV.nilCheck rfl rfl) ?_
 refine tp (PV.fieldAddr (r := off) rfl Tryz.underlying71 rfl sz69 rfl rfl) ?_
 refine tp (PV.indexArr (r := off + who.toNat * 174) rfl Tryz.underlying69 sz48 rfl rfl (by omega) (by omega) (by omega)) ?_
 refine tp (PV.loadN (vs := ints (B.rows[who.toNat]'(by omega)).flat) rfl Tryz.underlying48 rfl sz48 rfl (Rd.own 1 rfl rfl) (RowT.len (B.rows[who.toNat]'(by omega))) (Arnd.sub hA (j := who.toNat * 174) (by omega) (by have h0 := (BookT.len B); omega) (BookT.sub_rows B (who.toNat * 174) (by omega) (by omega) (vs_sub RowT.flat_length B.rows (i := who.toNat) 0 (by omega) (by omega) (by decide) (whole (RowT.len (B.rows[who.toNat]'(by omega)))))))) ?_
 refine mv ?_
 have hbr : B.rows[who.toNat]'(by omega) = bookRow B who := by rw [bookRow, dif_pos h14]
 rw [hbr]
 refine TL.callR (A := []) (Want.plain rfl) rfl rfl rfl nm52 rfl (rowOwn_does (bookRow B who) who) (fun _ s => s) (fun _ _ _ => trivial) (fun vR HR hR => ?_)
 obtain ⟨_, rfl, rfl⟩ := hR
 revert vR
 intro ul1
 change TL _ _ _ _ _ _ _ _ _ [own ul1 ((rowOwn (bookRow B who) who).length) (ints (rowOwn (bookRow B who) who)) 3 1, blkA b7 (ints (C.toList.flatMap CellT.flat)) 127, blkA b (cs B) T]
 refine TL.ownLen 0 rfl rfl (fun hlul1 houl1 => ?_)
 refine tp (PV.lenV rfl Tryz.underlying74 rfl hlul1) ?_
 refine mv ?_
 refine nx J14 ?_
 refine TC.block ?_
 refine TC.loop (α := (Nat) × (Int)) (fun ⟨i, r⟩ => i ≤ (rowOwn (bookRow B who) who).length ∧ r = ((rowOwn (bookRow B who) who).take i).foldl (rightsStep B key) 0) (fun ⟨i, r⟩ => [(0, (.pointer (some ⟨b, off, none⟩))), (6, (.int .i64 0)), (7, (.pointer (some ⟨b7, 0, none⟩))), (9, (.int .i64 (r))), (33, ul1), (34, (.int .i64 ((((rowOwn (bookRow B who) who).length : Nat) : Int)))), (35, (.int .i64 (((i : Nat) : Int))))]) (fun ⟨i, r⟩ => [own ul1 ((rowOwn (bookRow B who) who).length) (ints (rowOwn (bookRow B who) who)) 3 1, blkA b7 (ints (C.toList.flatMap CellT.flat)) 127, blkA b (cs B) T]) (fun ⟨i, r⟩ => (rowOwn (bookRow B who) who).length - i) (0, 0)
     ⟨Nat.zero_le _, rfl⟩ (Sub.r (Sub.r (Sub.r (Sub.cons rfl (by congr 1) (Sub.r (Sub.r (Sub.cons rfl (by congr 1) (Sub.nil _))))))))
     (fun _ s => sep_keep [0, 0, 0] rfl s) (fun ⟨i, r⟩ hinv => ?_)
 obtain ⟨hi, hr⟩ := hinv
 have hE : ∀ (j : Nat) (h : j < 5), C[j] = bookCell B j key := fun j h => hC j h (by omega)
 refine sr fun _ J15 => ?_
 refine tp (PV.lss rfl rfl rfl) ?_
 refine TL.dec (fun h36 => ?_) (fun h36 => ?_)
 refine nx J15 ?_
 refine TC.seq fun _ J16 => ?_
 refine TC.yes rfl ?_
 refine TC.skip ?_
 refine TE.next J16 ?_
 refine TC.seq fun _ J17 => ?_
 refine TC.block ?_
 refine sr fun _ J18 => ?_
 refine TL.ownAt 0 rfl rfl (by omega) (fun ga capa hva hcapa => ?_)
 obtain ⟨q, hq, hq5⟩ : ∃ q : Nat, (rowOwn (bookRow B who) who)[i] = ((q : Nat) : Int) ∧ q < 5 := by have := rowOwn_mem (bookRow B who) who _ (List.getElem_mem (show i < (rowOwn (bookRow B who) who).length by omega)); exact ⟨(rowOwn (bookRow B who) who)[i].toNat, by omega, by omega⟩
 have hE2 : C[q] = bookCell B (rowOwn (bookRow B who) who)[i] key := by rw [hE q hq5, hq]
 refine tp (PV.indexSlV (r := i) hva rfl Tryz.underlying74 sz3 rfl rfl (by omega) (by omega) (by omega)) ?_
 refine tp (PV.load1X (v := (.int .i64 (((q : Nat) : Int)))) rfl Tryz.underlying3 rfl rfl (RdX.own 0 rfl hva rfl) (by rw [← hq]; simp [ints, show i < (rowOwn (bookRow B who) who).length by omega])) ?_
 refine sg' ?_
 refine nx J18 ?_
 refine TC.seq fun _ J19 => ?_
 refine TC.draw (fun w => Frm F w ∧ w.heap[b7]? = some (.cells (ints (C.toList.flatMap CellT.flat)).toArray 127 (0, 0)) ∧ True) mixed rfl (fun _ s => ⟨Frm.of s, s.block 1 (lb rfl) rfl, trivial⟩) ?_
 refine ta 0 rfl (PV.move rfl rfl) ?_
 refine ta 1 rfl (PV.move rfl rfl) ?_
 refine ta 2 rfl (PV.indexArr (r := q * 7) rfl Tryz.underlying127 sz44 rfl rfl (by omega) (by omega) (by omega)) ?_
 refine ta 3 rfl (PV.fieldAddr (r := q * 7) rfl Tryz.underlying44 rfl sz3 rfl rfl) ?_
 refine ta 4 rfl (PV.load1 (v := (.int .i64 ((C[q]'(by omega)).inn))) rfl Tryz.underlying3 rfl rfl (fun _ h => h.2.1) (vs_pt CellT.flat_length C (i := q) 0 (by omega) (by omega) (by decide) (CellT.at_inn (C[q]'(by omega)) rfl))) ?_
 refine ta 5 rfl (PV.move rfl rfl) ?_
 refine ta 6 rfl (PV.indexArr (r := q * 7) rfl Tryz.underlying127 sz44 rfl rfl (by omega) (by omega) (by omega)) ?_
 refine ta 7 rfl (PV.fieldAddr (r := q * 7 + 1) rfl Tryz.underlying44 rfl sz3 rfl rfl) ?_
 refine ta 8 rfl (PV.load1 (v := (.int .i64 ((C[q]'(by omega)).out))) rfl Tryz.underlying3 rfl rfl (fun _ h => h.2.1) (vs_pt CellT.flat_length C (i := q) 1 (by omega) (by omega) (by decide) (CellT.at_out (C[q]'(by omega)) rfl))) ?_
 refine ta 9 rfl (PV.sub (r := (w64 (((C[q]'(by omega)).inn) - ((C[q]'(by omega)).out)))) rfl rfl rfl rfl) ?_
 refine ta 10 rfl (PV.add (r := (w64 (r + (w64 (((C[q]'(by omega)).inn) - ((C[q]'(by omega)).out)))))) rfl rfl rfl rfl) ?_
 refine ta 11 rfl (PV.assign rfl rfl) ?_
 refine TD.done (by kernel_rfl) ?_
 refine TE.next J19 ?_
 refine sr fun _ J20 => ?_
 refine mv ?_
 refine nx J20 ?_
 refine TC.block ?_
 refine TC.loop (α := (Nat) × (Int)) (fun ⟨o, r3⟩ => o ≤ 5 ∧ r3 = rightsIn B key (rowOwn (bookRow B who) who)[i] (w64 (r + w64 (C[q].inn - C[q].out))) o) (fun ⟨o, r3⟩ => [(0, (.pointer (some ⟨b, off, none⟩))), (6, (.int .i64 0)), (7, (.pointer (some ⟨b7, 0, none⟩))), (9, (.int .i64 (r3))), (11, (.int .i64 (((q : Nat) : Int)))), (33, ul1), (34, (.int .i64 ((((rowOwn (bookRow B who) who).length : Nat) : Int)))), (35, (.int .i64 (((i : Nat) : Int)))), (50, (.int .i64 (((o : Nat) : Int))))]) (fun ⟨o, r3⟩ => [own ul1 ((rowOwn (bookRow B who) who).length) (ints (rowOwn (bookRow B who) who)) 3 1, blkA b7 (ints (C.toList.flatMap CellT.flat)) 127, blkA b (cs B) T]) (fun ⟨o, r3⟩ => 5 - o) (0, (w64 (r + (w64 (((C[q]'(by omega)).inn) - ((C[q]'(by omega)).out))))))
     ⟨Nat.zero_le _, rfl⟩ (Sub.r (Sub.r (Sub.r (Sub.cons rfl (by congr 1) (Sub.r (Sub.r (Sub.r (Sub.r (Sub.cons rfl (by congr 1) (Sub.nil _))))))))))
     (fun _ s => sep_keep [0, 0, 0] rfl s) (fun ⟨o, r3⟩ hinv => ?_)
 obtain ⟨ho, hr3⟩ := hinv
 refine sr fun _ J21 => ?_
 refine tp (PV.lss rfl rfl rfl) ?_
 refine TL.dec (fun h51 => ?_) (fun h51 => ?_)
 refine nx J21 ?_
 refine TC.seq fun _ J22 => ?_
 refine TC.yes rfl ?_
 refine TC.skip ?_
 refine TE.next J22 ?_
 refine TC.seq fun _ J23 => ?_
 refine TC.block ?_
 refine sr fun _ J24 => ?_
 refine mv ?_
 refine sg' ?_
 refine nx J24 ?_
 refine TC.draw (fun w => Frm F w ∧ w.heap[b7]? = some (.cells (ints (C.toList.flatMap CellT.flat)).toArray 127 (0, 0)) ∧ True) mixed rfl (fun _ s => ⟨Frm.of s, s.block 1 (lb rfl) rfl, trivial⟩) ?_
 refine ta 0 rfl (PV.move rfl rfl) ?_
 refine ta 1 rfl (PV.move rfl rfl) ?_
 refine ta 2 rfl (PV.move rfl rfl) ?_
 refine ta 3 rfl (PV.indexArr (r := o * 7) rfl Tryz.underlying127 sz44 rfl rfl (by omega) (by omega) (by omega)) ?_
 refine ta 4 rfl (PV.fieldAddr (r := o * 7 + 2) rfl Tryz.underlying44 rfl sz42 rfl rfl) ?_
 refine ta 5 rfl (PV.indexArr (r := o * 7 + 2 + q) rfl Tryz.underlying42 sz3 rfl rfl (by omega) (by omega) (by omega)) ?_
 refine ta 6 rfl (PV.load1 (v := (.int .i64 ((((C[o]'(by omega)).given)[q]'(by omega))))) rfl Tryz.underlying3 rfl rfl (fun _ h => h.2.1) (vs_pt CellT.flat_length C (i := o) (2 + q) (by omega) (by omega) (by omega) (CellT.pt_given (C[o]'(by omega)) q (by omega) (by omega) (vi_at ((C[o]'(by omega)).given) (by omega))))) ?_
 refine ta 7 rfl (PV.move rfl rfl) ?_
 refine ta 8 rfl (PV.move rfl rfl) ?_
 refine ta 9 rfl (PV.indexArr (r := q * 7) rfl Tryz.underlying127 sz44 rfl rfl (by omega) (by omega) (by omega)) ?_
 refine ta 10 rfl (PV.fieldAddr (r := q * 7 + 2) rfl Tryz.underlying44 rfl sz42 rfl rfl) ?_
 refine ta 11 rfl (PV.indexArr (r := q * 7 + 2 + o) rfl Tryz.underlying42 sz3 rfl rfl (by omega) (by omega) (by omega)) ?_
 refine ta 12 rfl (PV.load1 (v := (.int .i64 ((((C[q]'(by omega)).given)[o]'(by omega))))) rfl Tryz.underlying3 rfl rfl (fun _ h => h.2.1) (vs_pt CellT.flat_length C (i := q) (2 + o) (by omega) (by omega) (by omega) (CellT.pt_given (C[q]'(by omega)) o (by omega) (by omega) (vi_at ((C[q]'(by omega)).given) (by omega))))) ?_
 refine ta 13 rfl (PV.sub (r := (w64 ((((C[o]'(by omega)).given)[q]'(by omega)) - (((C[q]'(by omega)).given)[o]'(by omega))))) rfl rfl rfl rfl) ?_
 refine ta 14 rfl (PV.add (r := (w64 (r3 + (w64 ((((C[o]'(by omega)).given)[q]'(by omega)) - (((C[q]'(by omega)).given)[o]'(by omega))))))) rfl rfl rfl rfl) ?_
 refine ta 15 rfl (PV.assign rfl rfl) ?_
 refine TD.done (by kernel_rfl) ?_
 refine TE.blockEnd ?_
 refine TE.next J23 ?_
 refine TC.region ?_
 refine tp (PV.add rfl rfl rfl (wrap_i64 (by omega) (by omega))) ?_
 refine mv ?_
 refine TL.nil ?_
 exact TE.round ((o + 1, (w64 (r3 + (w64 ((((C[o]'(by omega)).given)[q]'(by omega)) - (((C[q]'(by omega)).given)[o]'(by omega))))))) : (Nat) × (Int)) ⟨by omega, by rw [rightsIn_succ, ← hr3, givenOf_at _ (by omega), hq, givenOf_at _ hq5, ← hE o (by omega), ← hE q hq5]⟩ (by show 5 - (o + 1) < 5 - o; omega)
   (Sub.r (Sub.r (Sub.r (Sub.r (Sub.r (Sub.r (Sub.r (Sub.r (Sub.cons rfl (by simp) (Sub.nil _))))))))))
   (fun _ s => sep_keep [0, 0, 0] rfl s)
 refine nx J21 ?_
 refine TC.seq fun _ J25 => ?_
 refine TC.no rfl ?_
 refine TC.exit ?_
 refine TE.pass ?_
 refine TE.pass ?_
 refine TE.hit ?_
 refine TE.blockEnd ?_
 refine TE.next J17 ?_
 refine TC.region ?_
 refine tp (PV.add rfl rfl rfl (wrap_i64 (by omega) (by omega))) ?_
 refine mv ?_
 refine TL.nil ?_
 exact TE.round ((i + 1, r3) : (Nat) × (Int)) ⟨by omega, by
          have h5 : o = 5 := by omega
          rw [List.take_succ_eq_append_getElem (by omega), List.foldl_append, ← hr]
          show r3 = rightsStep B key r _
          rw [hr3, h5, rightsStep, ← hE2]⟩ (by show (rowOwn (bookRow B who) who).length - (i + 1) < (rowOwn (bookRow B who) who).length - i; omega)
   (Sub.r (Sub.r (Sub.r (Sub.r (Sub.r (Sub.r (Sub.cons rfl (by simp) (Sub.nil _))))))))
   (fun _ s => sep_keep [0, 0, 0] rfl s)
 refine nx J15 ?_
 refine TC.seq fun _ J26 => ?_
 refine TC.no rfl ?_
 refine TC.exit ?_
 refine TE.pass ?_
 refine TE.pass ?_
 refine TE.hit ?_
 refine TE.next J13 ?_
 refine sr fun _ J27 => ?_
 refine mv ?_
 refine sg' ?_
 refine nx J27 ?_
 refine TC.ret ?_
 refine TE.weak (Sub.refl _) (fun _ s => sep_keep [2] rfl s) ?_
 refine TE.ret1 rfl rfl ?_
 obtain rfl : i = (rowOwn (bookRow B who) who).length := by omega
 exact ⟨by rw [bookRights, if_pos h14, hr, List.take_length], rfl⟩
 refine tp (PV.not (r := true) rfl rfl rfl) ?_
 refine nx J3 ?_
 refine TC.yes rfl ?_
 refine sr fun _ J28 => ?_
 refine sg' ?_
 refine nx J28 ?_
 refine TC.ret ?_
 refine TE.passRet ?_
 refine TE.weak (Sub.refl _) (fun _ s => sep_keep [0] rfl s) ?_
 refine TE.ret1 rfl rfl ?_
 exact ⟨by rw [bookRights, if_neg (by simp [h14])], rfl⟩
theorem mirRow_does (b off T : Nat) (cs : MirT → List Value) (hA : Arnd cs MirT.cells off) (M : MirT) (who : Int) :
    Does Tryz.prog 26 #[(.pointer (some ⟨b, off, none⟩)), (.int .i64 (who))] (fun _ => True) [blkA b (cs M) T] (Ret (fun r' H => r' = .agg (ints (mirRow M who).flat).toArray ∧ H = [blkA b (cs M) T])) := by
 refine Does.body (vs := [(.pointer (some ⟨b, off, none⟩)), (.int .i64 (who))]) (n := 15) Tryz.func26 rfl rfl rfl (fun w0 F hF => ?_)
 refine sr fun _ J1 => ?_
 refine TL.alloc (Want.plain rfl) rfl rfl rfl z48 (fun b4 => ?_)
 change TL _ _ _ _ _ _ _ _ _ [blkA b4 (ints RowT.zero.flat) 48, blkA b (cs M) T]
 refine nx J1 ?_
 refine TC.seq fun _ J2 => ?_
 refine sr fun _ J3 => ?_
 refine mv ?_
 refine TL.callR (A := []) (Want.plain rfl) rfl rfl rfl nm55 rfl (mirrorMachine_does who) (fun _ s => s) (fun _ _ _ => trivial) (fun vR HR hR => ?_)
 obtain ⟨rfl, rfl⟩ := hR
 change TL _ _ _ _ _ _ _ _ _ [blkA b4 (ints RowT.zero.flat) 48, blkA b (cs M) T]
 refine TL.decB (fun h6 => ?_) (fun h6 => ?_)
 have hm : 0 ≤ who ∧ who < 5 := of_decide_eq_true h6
 refine tp (PV.not (r := false) rfl rfl rfl) ?_
 refine nx J3 ?_
 refine TC.no rfl ?_
 refine TC.skip ?_
 refine TE.next J2 ?_
 refine sr fun _ J4 => ?_
 refine mv ?_
 refine mv ?_
 refine tp (PV.nilCheck rfl rfl) ?_
 refine tp (PV.fieldAddr (r := off) rfl Tryz.underlying77 rfl sz69 rfl rfl) ?_
 refine tp (PV.indexArr (r := off + who.toNat * 174) rfl Tryz.underlying69 sz48 rfl rfl (by omega) (by omega) (by omega)) ?_
 refine tp (PV.loadN (vs := ints (M.rows[who.toNat]'(by omega)).flat) rfl Tryz.underlying48 rfl sz48 rfl (Rd.own 1 rfl rfl) (RowT.len (M.rows[who.toNat]'(by omega))) (Arnd.sub hA (j := who.toNat * 174) (by omega) (by have h0 := (MirT.len M); omega) (MirT.sub_rows M (who.toNat * 174) (by omega) (by omega) (vs_sub RowT.flat_length M.rows (i := who.toNat) 0 (by omega) (by omega) (by decide) (whole (RowT.len (M.rows[who.toNat]'(by omega)))))))) ?_
 refine TL.store (vs := ints (M.rows[who.toNat]'(by omega)).flat) (i := 0) (H' := [blkA b4 (ints (M.rows[who.toNat]'(by omega)).flat) 48, blkA b (cs M) T]) (Want.plain rfl) rfl rfl rfl rfl rfl (by rw [(RowT.len (M.rows[who.toNat]'(by omega)))]; exact sz48) (ints_one _) rfl rfl (by have h0 := (RowT.len RowT.zero); have h1 := (RowT.len (M.rows[who.toNat]'(by omega))); omega) (wwhole ((RowT.len RowT.zero).trans (RowT.len (M.rows[who.toNat]'(by omega))).symm)) rfl ?_
 refine nx J4 ?_
 refine TC.ret ?_
 refine TE.retC (H' := [blkA b (cs M) T]) rfl rfl Tryz.underlying48 rfl sz48 (Rd.own 0 rfl rfl) (RowT.len (M.rows[who.toNat]'(by omega))) (fun _ s => sep_keep [1] rfl s) ?_
 exact ⟨by rw [mirRow, dif_pos h6], rfl⟩
 refine tp (PV.not (r := true) rfl rfl rfl) ?_
 refine nx J3 ?_
 refine TC.yes rfl ?_
 refine sr fun _ J5 => ?_
 refine tp (PV.build (cells := (ints RowT.zero.flat).toArray) rfl rfl (by as_aux_lemma => kernel_rfl)) ?_
 refine TL.store (vs := ints RowT.zero.flat) (i := 0) (H' := [blkA b4 (ints RowT.zero.flat) 48, blkA b (cs M) T]) (Want.plain rfl) rfl rfl rfl rfl rfl (by rw [(RowT.len RowT.zero)]; exact sz48) (ints_one _) rfl rfl (by have h0 := (RowT.len RowT.zero); have h1 := (RowT.len RowT.zero); omega) (wwhole ((RowT.len RowT.zero).trans (RowT.len RowT.zero).symm)) rfl ?_
 refine nx J5 ?_
 refine TC.ret ?_
 refine TE.passRet ?_
 refine TE.retC (H' := [blkA b (cs M) T]) rfl rfl Tryz.underlying48 rfl sz48 (Rd.own 0 rfl rfl) (RowT.len RowT.zero) (fun _ s => sep_keep [1] rfl s) ?_
 exact ⟨by rw [mirRow, dif_neg (by simp [h6])], rfl⟩
theorem mirSealed_does (b off T : Nat) (cs : MirT → List Value) (hA : Arnd cs MirT.cells off) (M : MirT) (who : Int) :
    Does Tryz.prog 30 #[(.pointer (some ⟨b, off, none⟩)), (.int .i64 (who))] (fun _ => True) [blkA b (cs M) T] (Ret (fun r' H => r' = .bool (mirSealed M who) ∧ H = [blkA b (cs M) T])) := by
 refine Does.body (vs := [(.pointer (some ⟨b, off, none⟩)), (.int .i64 (who))]) (n := 15) Tryz.func30 rfl rfl rfl (fun w0 F hF => ?_)
 refine sr fun _ J1 => ?_
 refine sg' ?_
 refine nx J1 ?_
 clear J1
 refine sr fun _ J2 => ?_
 refine mv ?_
 refine TL.callR (A := []) (Want.plain rfl) rfl rfl rfl nm55 rfl (mirrorMachine_does who) (fun _ s => s) (fun _ _ _ => trivial) (fun vR HR hR => ?_)
 obtain ⟨rfl, rfl⟩ := hR
 change TL _ _ _ _ _ _ _ _ _ [blkA b (cs M) T]
 refine TL.decB (fun h6 => ?_) (fun h6 => ?_)
 have hm : 0 ≤ who ∧ who < 5 := of_decide_eq_true h6
 refine mv ?_
 refine tq (PV.move rfl rfl) ?_
 refine tq (PV.move rfl rfl) ?_
 refine tq (PV.nilCheck rfl rfl) ?_
 refine tq (PV.fieldAddr (r := off + 870) rfl Tryz.underlying77 rfl sz75 rfl rfl) ?_
 refine tq (PV.indexArr (r := off + 870 + who.toNat) rfl Tryz.underlying75 sz4 rfl rfl (by omega) (by omega) (by omega)) ?_
 refine tq (PV.load1 (v := (.bool ((M.sealed[who.toNat]'(by omega))))) rfl Tryz.underlying4 rfl rfl (Rd.own 0 rfl rfl) (Arnd.at hA (j := 870 + who.toNat) (by omega) (by have h0 := (MirT.len M); omega) (MirT.pt_sealed M (who.toNat) (by omega) (by omega) (vb_at M.sealed (by omega))))) ?_
 refine tp (PV.pick rfl rfl rfl) ?_
 refine sg' ?_
 refine nx J2 ?_
 clear J2
 refine TC.ret ?_
 refine TE.weak (Sub.refl _) (fun _ s => sep_keep [0] rfl s) ?_
 refine TE.ret1 rfl rfl ?_
 exact ⟨by simp [mirSealed, *], rfl⟩
 refine mv ?_
 refine TL.unmet (b := false) rfl rfl rfl rfl (lb rfl) ?_
 refine TL.unmet (b := false) rfl rfl rfl rfl (lb rfl) ?_
 refine TL.unmet (b := false) rfl rfl rfl rfl (lb rfl) ?_
 refine TL.unmet (b := false) rfl rfl rfl rfl (lb rfl) ?_
 refine TL.unmet (b := false) rfl rfl rfl rfl (lb rfl) ?_
 refine TL.unmet (b := false) rfl rfl rfl rfl (lb rfl) ?_
 refine tp (PV.pick rfl rfl rfl) ?_
 refine sg' ?_
 refine nx J2 ?_
 clear J2
 refine TC.ret ?_
 refine TE.weak (Sub.refl _) (fun _ s => sep_keep [0] rfl s) ?_
 refine TE.ret1 rfl rfl ?_
 exact ⟨by simp [mirSealed, *], rfl⟩
theorem mirTakes_does (b off T : Nat) (cs : MirT → List Value) (hA : Arnd cs MirT.cells off) (M : MirT) (who : Int) (x : RowT) (hx : WF x.flat) :
    Does Tryz.prog 56 #[(.pointer (some ⟨b, off, none⟩)), (.int .i64 (who)), (.agg (ints x.flat).toArray)] (fun _ => True) [blkA b (cs M) T] (Ret (fun r' H => r' = .bool (mirTakes M who x) ∧ H = [blkA b (cs M) T])) := by
 refine Does.body (vs := [(.pointer (some ⟨b, off, none⟩)), (.int .i64 (who)), (.agg (ints x.flat).toArray)]) (n := 34) Tryz.func56 rfl rfl rfl (fun w0 F hF => ?_)
 refine sr fun _ J1 => ?_
 refine TL.box (Want.plain rfl) rfl rfl rfl rfl (fun b5 => ?_)
 change TL _ _ _ _ _ _ _ _ _ [blkA b5 (ints x.flat) 48, blkA b (cs M) T]
 refine sg' ?_
 refine nx J1 ?_
 clear J1
 refine TC.seq fun _ J2 => ?_
 refine TC.draw (fun w => Frm F w ∧ w.heap[b]? = some (.cells (cs M).toArray T (0, 0)) ∧ w.heap[b5]? = some (.cells (ints x.flat).toArray 48 (0, 0)) ∧ True) mixed rfl (fun _ s => ⟨Frm.of s, s.block 1 (lb rfl) rfl, s.block 0 (lb rfl) rfl, trivial⟩) ?_
 refine ta 0 rfl (PV.move rfl rfl) ?_
 refine TD.all [1] (by kernel_rfl) rfl ?_
 refine AllT.cons rfl ?_ ?_
 refine TL.callR (A := []) (Want.plain rfl) rfl rfl rfl nm55 rfl (mirrorMachine_does who) (fun _ s => s) (fun _ _ _ => trivial) (fun vR HR hR => ?_)
 obtain ⟨rfl, rfl⟩ := hR
 change TL _ _ _ _ _ _ _ _ _ [blkA b5 (ints x.flat) 48, blkA b (cs M) T]
 refine TL.decB (fun h8 => ?_) (fun h8 => ?_)
 have hm : 0 ≤ who ∧ who < 5 := of_decide_eq_true h8
 refine TL.nil ?_
 refine TE.draw (fun _ s => ⟨Frm.of s, s.block 1 (lb rfl) rfl, s.block 0 (lb rfl) rfl, trivial⟩) ?_
 refine ta 2 rfl (PV.move rfl rfl) ?_
 refine tb 3 rfl (PV.move rfl rfl) ?_
 refine tb 4 rfl (PV.move rfl rfl) ?_
 refine tb 5 rfl (PV.nilCheck rfl rfl) ?_
 refine tb 6 rfl (PV.fieldAddr (r := off + 870) rfl Tryz.underlying77 rfl sz75 rfl rfl) ?_
 refine tb 7 rfl (PV.indexArr (r := off + 870 + who.toNat) rfl Tryz.underlying75 sz4 rfl rfl (by omega) (by omega) (by omega)) ?_
 refine tb 8 rfl (PV.load1 (v := (.bool ((M.sealed[who.toNat]'(by omega))))) rfl Tryz.underlying4 rfl rfl (fun _ h => h.2.1) (Arnd.at hA (j := 870 + who.toNat) (by omega) (by have h0 := (MirT.len M); omega) (MirT.pt_sealed M (who.toNat) (by omega) (by omega) (vb_at M.sealed (by omega))))) ?_
 refine TD.decB (fun h15 => ?_) (fun h15 => ?_)
 refine tb 9 rfl (PV.not (r := false) rfl rfl rfl) ?_
 refine ta 10 rfl (PV.pick rfl rfl rfl) ?_
 refine ta 11 rfl (PV.move rfl rfl) ?_
 refine TD.takeNot (i := 12) (b := false) rfl (by kernel_rfl) (by kernel_rfl) (by kernel_rfl) (fun _ _ _ _ h => h) rfl rfl rfl rfl rfl ?_
 refine TD.takeNot (i := 13) (b := false) rfl (by kernel_rfl) (by kernel_rfl) (by kernel_rfl) (fun _ _ _ _ h => h) rfl rfl rfl rfl rfl ?_
 refine ta 14 rfl (PV.pick rfl rfl rfl) ?_
 refine ta 15 rfl (PV.move rfl rfl) ?_
 refine TD.takeNot (i := 16) (b := false) rfl (by kernel_rfl) (by kernel_rfl) (by kernel_rfl) (fun _ _ _ _ h => h) rfl rfl rfl rfl rfl ?_
 refine TD.takeNot (i := 17) (b := false) rfl (by kernel_rfl) (by kernel_rfl) (by kernel_rfl) (fun _ _ _ _ h => h) rfl rfl rfl rfl rfl ?_
 refine TD.takeNot (i := 18) (b := false) rfl (by kernel_rfl) (by kernel_rfl) (by kernel_rfl) (fun _ _ _ _ h => h) rfl rfl rfl rfl rfl ?_
 refine TD.takeNot (i := 19) (b := false) rfl (by kernel_rfl) (by kernel_rfl) (by kernel_rfl) (fun _ _ _ _ h => h) rfl rfl rfl rfl rfl ?_
 refine TD.takeNot (i := 20) (b := false) rfl (by kernel_rfl) (by kernel_rfl) (by kernel_rfl) (fun _ _ _ _ h => h) rfl rfl rfl rfl rfl ?_
 refine TD.takeNot (i := 21) (b := false) rfl (by kernel_rfl) (by kernel_rfl) (by kernel_rfl) (fun _ _ _ _ h => h) rfl rfl rfl rfl rfl ?_
 refine TD.takeNot (i := 22) (b := false) rfl (by kernel_rfl) (by kernel_rfl) (by kernel_rfl) (fun _ _ _ _ h => h) rfl rfl rfl rfl rfl ?_
 refine TD.takeNot (i := 23) (b := false) rfl (by kernel_rfl) (by kernel_rfl) (by kernel_rfl) (fun _ _ _ _ h => h) rfl rfl rfl rfl rfl ?_
 refine TD.takeNot (i := 24) (b := false) rfl (by kernel_rfl) (by kernel_rfl) (by kernel_rfl) (fun _ _ _ _ h => h) rfl rfl rfl rfl rfl ?_
 refine TD.takeNot (i := 25) (b := false) rfl (by kernel_rfl) (by kernel_rfl) (by kernel_rfl) (fun _ _ _ _ h => h) rfl rfl rfl rfl rfl ?_
 refine ta 26 rfl (PV.pick rfl rfl rfl) ?_
 refine ta 27 rfl (PV.assign rfl rfl) ?_
 refine TD.done (by kernel_rfl) ?_
 refine TE.next J2 ?_
 clear J2
 refine TC.ret ?_
 refine TE.weak (Sub.refl _) (fun _ s => sep_keep [1] rfl s) ?_
 refine TE.ret1 rfl rfl ?_
 exact ⟨by simp [mirTakes, mirSealed, mirRow, *], rfl⟩
 refine tb 9 rfl (PV.not (r := true) rfl rfl rfl) ?_
 refine ta 10 rfl (PV.pick rfl rfl rfl) ?_
 refine ta 11 rfl (PV.move rfl rfl) ?_
 refine tb 12 rfl (PV.loadN (vs := ints x.flat) rfl Tryz.underlying48 rfl sz48 rfl (fun _ h => h.2.2.1) (RowT.len x) (whole (RowT.len x))) ?_
 refine TD.all [13] (by kernel_rfl) rfl ?_
 refine AllT.cons rfl ?_ ?_
 refine TL.callR (A := []) (Want.met rfl rfl rfl) rfl rfl rfl nm33 rfl (rowRight_does x hx) (fun _ s => s) (fun _ _ _ => trivial) (fun vR HR hR => ?_)
 obtain ⟨rfl, rfl⟩ := hR
 change TL _ _ _ _ _ _ _ _ _ [blkA b5 (ints x.flat) 48, blkA b (cs M) T]
 refine TL.decB (fun h20 => ?_) (fun h20 => ?_)
 refine TL.nil ?_
 refine TE.draw (fun _ s => ⟨Frm.of s, s.block 1 (lb rfl) rfl, s.block 0 (lb rfl) rfl, trivial⟩) ?_
 refine ta 14 rfl (PV.pick rfl rfl rfl) ?_
 refine ta 15 rfl (PV.move rfl rfl) ?_
 refine tb 16 rfl (PV.fieldAddr (r := 0) rfl Tryz.underlying48 rfl sz3 rfl rfl) ?_
 refine tb 17 rfl (PV.load1 (v := (.int .i64 (x.version))) rfl Tryz.underlying3 rfl rfl (fun _ h => h.2.2.1) (RowT.at_version x rfl)) ?_
 refine tb 18 rfl (PV.move rfl rfl) ?_
 refine tb 19 rfl (PV.move rfl rfl) ?_
 refine tb 20 rfl (PV.nilCheck rfl rfl) ?_
 refine tb 21 rfl (PV.fieldAddr (r := off) rfl Tryz.underlying77 rfl sz69 rfl rfl) ?_
 refine tb 22 rfl (PV.indexArr (r := off + who.toNat * 174) rfl Tryz.underlying69 sz48 rfl rfl (by omega) (by omega) (by omega)) ?_
 refine tb 23 rfl (PV.fieldAddr (r := off + who.toNat * 174) rfl Tryz.underlying48 rfl sz3 rfl rfl) ?_
 refine tb 24 rfl (PV.load1 (v := (.int .i64 ((M.rows[who.toNat]'(by omega)).version))) rfl Tryz.underlying3 rfl rfl (fun _ h => h.2.1) (Arnd.at hA (j := who.toNat * 174) (by omega) (by have h0 := (MirT.len M); omega) (MirT.pt_rows M (who.toNat * 174) (by omega) (by omega) (vs_pt RowT.flat_length M.rows (i := who.toNat) 0 (by omega) (by omega) (by decide) (RowT.at_version (M.rows[who.toNat]'(by omega)) rfl))))) ?_
 refine tb 25 rfl (PV.gtr rfl rfl rfl) ?_
 refine ta 26 rfl (PV.pick rfl rfl rfl) ?_
 refine ta 27 rfl (PV.assign rfl rfl) ?_
 refine TD.done (by kernel_rfl) ?_
 refine TE.next J2 ?_
 clear J2
 refine TC.ret ?_
 refine TE.weak (Sub.refl _) (fun _ s => sep_keep [1] rfl s) ?_
 refine TE.ret1 rfl rfl ?_
 exact ⟨by simp [mirTakes, mirSealed, mirRow, *], rfl⟩
 refine TL.nil ?_
 refine TE.draw (fun _ s => ⟨Frm.of s, s.block 1 (lb rfl) rfl, s.block 0 (lb rfl) rfl, trivial⟩) ?_
 refine ta 14 rfl (PV.pick rfl rfl rfl) ?_
 refine ta 15 rfl (PV.move rfl rfl) ?_
 refine TD.takeNot (i := 16) (b := false) rfl (by kernel_rfl) (by kernel_rfl) (by kernel_rfl) (fun _ _ _ _ h => h) rfl rfl rfl rfl rfl ?_
 refine TD.takeNot (i := 17) (b := false) rfl (by kernel_rfl) (by kernel_rfl) (by kernel_rfl) (fun _ _ _ _ h => h) rfl rfl rfl rfl rfl ?_
 refine TD.takeNot (i := 18) (b := false) rfl (by kernel_rfl) (by kernel_rfl) (by kernel_rfl) (fun _ _ _ _ h => h) rfl rfl rfl rfl rfl ?_
 refine TD.takeNot (i := 19) (b := false) rfl (by kernel_rfl) (by kernel_rfl) (by kernel_rfl) (fun _ _ _ _ h => h) rfl rfl rfl rfl rfl ?_
 refine TD.takeNot (i := 20) (b := false) rfl (by kernel_rfl) (by kernel_rfl) (by kernel_rfl) (fun _ _ _ _ h => h) rfl rfl rfl rfl rfl ?_
 refine TD.takeNot (i := 21) (b := false) rfl (by kernel_rfl) (by kernel_rfl) (by kernel_rfl) (fun _ _ _ _ h => h) rfl rfl rfl rfl rfl ?_
 refine TD.takeNot (i := 22) (b := false) rfl (by kernel_rfl) (by kernel_rfl) (by kernel_rfl) (fun _ _ _ _ h => h) rfl rfl rfl rfl rfl ?_
 refine TD.takeNot (i := 23) (b := false) rfl (by kernel_rfl) (by kernel_rfl) (by kernel_rfl) (fun _ _ _ _ h => h) rfl rfl rfl rfl rfl ?_
 refine TD.takeNot (i := 24) (b := false) rfl (by kernel_rfl) (by kernel_rfl) (by kernel_rfl) (fun _ _ _ _ h => h) rfl rfl rfl rfl rfl ?_
 refine TD.takeNot (i := 25) (b := false) rfl (by kernel_rfl) (by kernel_rfl) (by kernel_rfl) (fun _ _ _ _ h => h) rfl rfl rfl rfl rfl ?_
 refine ta 26 rfl (PV.pick rfl rfl rfl) ?_
 refine ta 27 rfl (PV.assign rfl rfl) ?_
 refine TD.done (by kernel_rfl) ?_
 refine TE.next J2 ?_
 clear J2
 refine TC.ret ?_
 refine TE.weak (Sub.refl _) (fun _ s => sep_keep [1] rfl s) ?_
 refine TE.ret1 rfl rfl ?_
 exact ⟨by simp [mirTakes, mirSealed, mirRow, *], rfl⟩
 exact AllT.nil
 refine TL.nil ?_
 refine TE.draw (fun _ s => ⟨Frm.of s, s.block 1 (lb rfl) rfl, s.block 0 (lb rfl) rfl, trivial⟩) ?_
 refine ta 2 rfl (PV.move rfl rfl) ?_
 refine TD.takeNot (i := 3) (b := false) rfl (by kernel_rfl) (by kernel_rfl) (by kernel_rfl) (fun _ _ _ _ h => h) rfl rfl rfl rfl rfl ?_
 refine TD.takeNot (i := 4) (b := false) rfl (by kernel_rfl) (by kernel_rfl) (by kernel_rfl) (fun _ _ _ _ h => h) rfl rfl rfl rfl rfl ?_
 refine TD.takeNot (i := 5) (b := false) rfl (by kernel_rfl) (by kernel_rfl) (by kernel_rfl) (fun _ _ _ _ h => h) rfl rfl rfl rfl rfl ?_
 refine TD.takeNot (i := 6) (b := false) rfl (by kernel_rfl) (by kernel_rfl) (by kernel_rfl) (fun _ _ _ _ h => h) rfl rfl rfl rfl rfl ?_
 refine TD.takeNot (i := 7) (b := false) rfl (by kernel_rfl) (by kernel_rfl) (by kernel_rfl) (fun _ _ _ _ h => h) rfl rfl rfl rfl rfl ?_
 refine TD.takeNot (i := 8) (b := false) rfl (by kernel_rfl) (by kernel_rfl) (by kernel_rfl) (fun _ _ _ _ h => h) rfl rfl rfl rfl rfl ?_
 refine TD.takeNot (i := 9) (b := false) rfl (by kernel_rfl) (by kernel_rfl) (by kernel_rfl) (fun _ _ _ _ h => h) rfl rfl rfl rfl rfl ?_
 refine ta 10 rfl (PV.pick rfl rfl rfl) ?_
 refine ta 11 rfl (PV.move rfl rfl) ?_
 refine TD.takeNot (i := 12) (b := false) rfl (by kernel_rfl) (by kernel_rfl) (by kernel_rfl) (fun _ _ _ _ h => h) rfl rfl rfl rfl rfl ?_
 refine TD.takeNot (i := 13) (b := false) rfl (by kernel_rfl) (by kernel_rfl) (by kernel_rfl) (fun _ _ _ _ h => h) rfl rfl rfl rfl rfl ?_
 refine ta 14 rfl (PV.pick rfl rfl rfl) ?_
 refine ta 15 rfl (PV.move rfl rfl) ?_
 refine TD.takeNot (i := 16) (b := false) rfl (by kernel_rfl) (by kernel_rfl) (by kernel_rfl) (fun _ _ _ _ h => h) rfl rfl rfl rfl rfl ?_
 refine TD.takeNot (i := 17) (b := false) rfl (by kernel_rfl) (by kernel_rfl) (by kernel_rfl) (fun _ _ _ _ h => h) rfl rfl rfl rfl rfl ?_
 refine TD.takeNot (i := 18) (b := false) rfl (by kernel_rfl) (by kernel_rfl) (by kernel_rfl) (fun _ _ _ _ h => h) rfl rfl rfl rfl rfl ?_
 refine TD.takeNot (i := 19) (b := false) rfl (by kernel_rfl) (by kernel_rfl) (by kernel_rfl) (fun _ _ _ _ h => h) rfl rfl rfl rfl rfl ?_
 refine TD.takeNot (i := 20) (b := false) rfl (by kernel_rfl) (by kernel_rfl) (by kernel_rfl) (fun _ _ _ _ h => h) rfl rfl rfl rfl rfl ?_
 refine TD.takeNot (i := 21) (b := false) rfl (by kernel_rfl) (by kernel_rfl) (by kernel_rfl) (fun _ _ _ _ h => h) rfl rfl rfl rfl rfl ?_
 refine TD.takeNot (i := 22) (b := false) rfl (by kernel_rfl) (by kernel_rfl) (by kernel_rfl) (fun _ _ _ _ h => h) rfl rfl rfl rfl rfl ?_
 refine TD.takeNot (i := 23) (b := false) rfl (by kernel_rfl) (by kernel_rfl) (by kernel_rfl) (fun _ _ _ _ h => h) rfl rfl rfl rfl rfl ?_
 refine TD.takeNot (i := 24) (b := false) rfl (by kernel_rfl) (by kernel_rfl) (by kernel_rfl) (fun _ _ _ _ h => h) rfl rfl rfl rfl rfl ?_
 refine TD.takeNot (i := 25) (b := false) rfl (by kernel_rfl) (by kernel_rfl) (by kernel_rfl) (fun _ _ _ _ h => h) rfl rfl rfl rfl rfl ?_
 refine ta 26 rfl (PV.pick rfl rfl rfl) ?_
 refine ta 27 rfl (PV.assign rfl rfl) ?_
 refine TD.done (by kernel_rfl) ?_
 refine TE.next J2 ?_
 clear J2
 refine TC.ret ?_
 refine TE.weak (Sub.refl _) (fun _ s => sep_keep [1] rfl s) ?_
 refine TE.ret1 rfl rfl ?_
 exact ⟨by simp [mirTakes, mirSealed, mirRow, *], rfl⟩
 exact AllT.nil
theorem mirKeep_does (b off T : Nat) (cs : MirT → List Value) (hA : Arnd cs MirT.cells off) (M : MirT) (who : Int) (x : RowT) (hx : WF x.flat) :
    Does Tryz.prog 28 #[(.pointer (some ⟨b, off, none⟩)), (.int .i64 (who)), (.agg (ints x.flat).toArray)] (fun _ => True) [blkA b (cs M) T] (Ret (fun r' H => r' = .bool (mirKeep M who x).2 ∧ H = [blkA b (cs (mirKeep M who x).1) T])) := by
 refine Does.body (vs := [(.pointer (some ⟨b, off, none⟩)), (.int .i64 (who)), (.agg (ints x.flat).toArray)]) (n := 18) Tryz.func28 rfl rfl rfl (fun w0 F hF => ?_)
 refine sr fun _ J1 => ?_
 refine TL.box (Want.plain rfl) rfl rfl rfl rfl (fun b5 => ?_)
 change TL _ _ _ _ _ _ _ _ _ [blkA b5 (ints x.flat) 48, blkA b (cs M) T]
 refine sg' ?_
 refine nx J1 ?_
 refine TC.seq fun _ J2 => ?_
 refine sr fun _ J3 => ?_
 refine mv ?_
 refine mv ?_
 refine tp (PV.loadN (vs := ints x.flat) rfl Tryz.underlying48 rfl sz48 rfl (Rd.own 0 rfl rfl) (RowT.len x) (whole (RowT.len x))) ?_
 refine TL.callR (A := [blkA b (cs M) T]) (Want.plain rfl) rfl rfl rfl nm56 rfl (mirTakes_does b off T cs hA M who x hx) (fun _ s => sep_selR [1] rfl s) (fun _ _ _ => trivial) (fun vR HR hR => ?_)
 obtain ⟨rfl, rfl⟩ := hR
 change TL _ _ _ _ _ _ _ _ _ [blkA b (cs M) T, blkA b5 (ints x.flat) 48]
 refine TL.decB (fun h10 => ?_) (fun h10 => ?_)
 have hm0 : machB who = true := by have := h10; simp only [mirTakes, Bool.and_eq_true] at this; exact this.1.1.1
 have hm : 0 ≤ who ∧ who < 5 := of_decide_eq_true hm0
 refine tp (PV.not (r := false) rfl rfl rfl) ?_
 refine nx J3 ?_
 refine TC.no rfl ?_
 refine TC.skip ?_
 refine TE.next J2 ?_
 refine TC.seq fun _ J4 => ?_
 refine TC.draw (fun w => Frm F w ∧ w.heap[b5]? = some (.cells (ints x.flat).toArray 48 (0, 0)) ∧ True) mixed rfl (fun _ s => ⟨Frm.of s, s.block 1 (lb rfl) rfl, trivial⟩) ?_
 refine ta 0 rfl (PV.move rfl rfl) ?_
 refine ta 1 rfl (PV.move rfl rfl) ?_
 refine ta 2 rfl (PV.loadN (vs := ints x.flat) rfl Tryz.underlying48 rfl sz48 rfl (fun _ h => h.2.1) (RowT.len x) (whole (RowT.len x))) ?_
 refine ta 3 rfl (PV.nilCheck rfl rfl) ?_
 refine ta 4 rfl (PV.fieldAddr (r := off) rfl Tryz.underlying77 rfl sz69 rfl rfl) ?_
 refine ta 5 rfl (PV.indexArr (r := off + who.toNat * 174) rfl Tryz.underlying69 sz48 rfl rfl (by omega) (by omega) (by omega)) ?_
 refine TD.all [6] (by kernel_rfl) rfl ?_
 refine AllT.cons rfl ?_ ?_
 refine TL.store (vs := ints x.flat) (i := 0) (H' := [blkA b (cs (MirT.mk (M.rows.set who.toNat x (by omega)) M.sealed)) T, blkA b5 (ints x.flat) 48]) (Want.plain rfl) rfl rfl rfl rfl rfl (by rw [(RowT.len x)]; exact sz48) (ints_one _) rfl rfl (by have h0 := (MirT.len M); have h2 := Arnd.le hA M; have h1 := (RowT.len x); omega) (Arnd.wr hA (x := M) (x' := (MirT.mk (M.rows.set who.toNat x (by omega)) M.sealed)) (j := who.toNat * 174) (by omega) (by have h0 := (MirT.len M); have h1 := (RowT.len x); omega) (MirT.wr_rows_ M (who.toNat * 174) (by omega) (by have h1 := (RowT.len x); omega) (vs_wr RowT.flat_length M.rows (i := who.toNat) 0 (by omega) (by omega) (by have h1 := (RowT.len x); omega) (wwhole ((RowT.len (M.rows[who.toNat]'(by omega))).trans (RowT.len x).symm))))) rfl ?_
 refine TL.nil ?_
 refine TE.draw (fun _ s => ⟨Frm.of s, s.block 1 (lb rfl) rfl, trivial⟩) ?_
 refine TD.done (by kernel_rfl) ?_
 refine TE.next J4 ?_
 refine sr fun _ J5 => ?_
 refine sg' ?_
 refine nx J5 ?_
 refine TC.ret ?_
 refine TE.weak (Sub.refl _) (fun _ s => sep_keep [0] rfl s) ?_
 refine TE.ret1 rfl rfl ?_
 have e : mirKeep M who x = (mirPut M who x, true) := by rw [mirKeep, if_pos h10]
 exact ⟨by rw [e], by rw [e, mirPut, dif_pos hm0]; rfl⟩
 exact AllT.nil
 refine tp (PV.not (r := true) rfl rfl rfl) ?_
 refine nx J3 ?_
 refine TC.yes rfl ?_
 refine sr fun _ J6 => ?_
 refine sg' ?_
 refine nx J6 ?_
 refine TC.ret ?_
 refine TE.passRet ?_
 refine TE.weak (Sub.refl _) (fun _ s => sep_keep [0] rfl s) ?_
 refine TE.ret1 rfl rfl ?_
 have e : mirKeep M who x = (M, false) := by rw [mirKeep, if_neg (by simp [h10])]
 exact ⟨by rw [e], by rw [e]; rfl⟩
theorem mirSeal_does (b off T : Nat) (cs : MirT → List Value) (hA : Arnd cs MirT.cells off) (M : MirT) (who : Int) :
    Does Tryz.prog 25 #[(.pointer (some ⟨b, off, none⟩)), (.int .i64 (who))] (fun _ => True) [blkA b (cs M) T] (Ret (fun r' H => r' = .tuple #[.agg (ints (mirRow M who).flat).toArray, .bool (machB who)] ∧ H = [blkA b (cs (mirClose M who)) T])) := by
 refine Does.body (vs := [(.pointer (some ⟨b, off, none⟩)), (.int .i64 (who))]) (n := 21) Tryz.func25 rfl rfl rfl (fun w0 F hF => ?_)
 refine sr fun _ J1 => ?_
 refine TL.alloc (Want.plain rfl) rfl rfl rfl z48 (fun b4 => ?_)
 change TL _ _ _ _ _ _ _ _ _ [blkA b4 (ints RowT.zero.flat) 48, blkA b (cs M) T]
 refine sg' ?_
 refine nx J1 ?_
 clear J1
 refine TC.seq fun _ J2 => ?_
 refine sr fun _ J3 => ?_
 refine mv ?_
 refine TL.callR (A := []) (Want.plain rfl) rfl rfl rfl nm55 rfl (mirrorMachine_does who) (fun _ s => s) (fun _ _ _ => trivial) (fun vR HR hR => ?_)
 obtain ⟨rfl, rfl⟩ := hR
 change TL _ _ _ _ _ _ _ _ _ [blkA b4 (ints RowT.zero.flat) 48, blkA b (cs M) T]
 refine TL.decB (fun h7 => ?_) (fun h7 => ?_)
 have hm : 0 ≤ who ∧ who < 5 := of_decide_eq_true h7
 refine tp (PV.not (r := false) rfl rfl rfl) ?_
 refine nx J3 ?_
 clear J3
 refine TC.no rfl ?_
 refine TC.skip ?_
 refine TE.next J2 ?_
 clear J2
 refine sr fun _ J4 => ?_
 refine mv ?_
 refine mv ?_
 refine tp (PV.nilCheck rfl rfl) ?_
 refine tp (PV.fieldAddr (r := off + 870) rfl Tryz.underlying77 rfl sz75 rfl rfl) ?_
 refine tp (PV.indexArr (r := off + 870 + who.toNat) rfl Tryz.underlying75 sz4 rfl rfl (by omega) (by omega) (by omega)) ?_
 refine TL.store1 (i := 1) (H' := [blkA b4 (ints RowT.zero.flat) 48, blkA b (cs (MirT.mk M.rows (M.sealed.set who.toNat true (by omega)))) T]) (Want.plain rfl) rfl rfl rfl rfl rfl sz4 rfl rfl (by have h0 := (MirT.len M); have h2 := Arnd.le hA M; omega) (Arnd.set hA (x := M) (x' := (MirT.mk M.rows (M.sealed.set who.toNat true (by omega)))) (j := 870 + who.toNat) (by omega) (by have h0 := (MirT.len M); omega) (MirT.st_sealed M (who.toNat) (by omega) (by omega) (vb_st M.sealed (by omega) _))) rfl ?_
 refine nx J4 ?_
 clear J4
 refine sr fun _ J5 => ?_
 refine mv ?_
 refine mv ?_
 refine tp (PV.nilCheck rfl rfl) ?_
 refine tp (PV.fieldAddr (r := off) rfl Tryz.underlying77 rfl sz69 rfl rfl) ?_
 refine tp (PV.indexArr (r := off + who.toNat * 174) rfl Tryz.underlying69 sz48 rfl rfl (by omega) (by omega) (by omega)) ?_
 refine tp (PV.loadN (vs := ints (M.rows[who.toNat]'(by omega)).flat) rfl Tryz.underlying48 rfl sz48 rfl (Rd.own 1 rfl rfl) (RowT.len (M.rows[who.toNat]'(by omega))) (Arnd.sub hA (j := who.toNat * 174) (by omega) (by have h0 := (MirT.len (MirT.mk M.rows (M.sealed.set who.toNat true (by omega)))); omega) (MirT.sub_rows (MirT.mk M.rows (M.sealed.set who.toNat true (by omega))) (who.toNat * 174) (by omega) (by omega) (vs_sub RowT.flat_length M.rows (i := who.toNat) 0 (by omega) (by omega) (by decide) (whole (RowT.len (M.rows[who.toNat]'(by omega)))))))) ?_
 refine TL.store (vs := ints (M.rows[who.toNat]'(by omega)).flat) (i := 0) (H' := [blkA b4 (ints (M.rows[who.toNat]'(by omega)).flat) 48, blkA b (cs (MirT.mk M.rows (M.sealed.set who.toNat true (by omega)))) T]) (Want.plain rfl) rfl rfl rfl rfl rfl (by rw [(RowT.len (M.rows[who.toNat]'(by omega)))]; exact sz48) (ints_one _) rfl rfl (by have h0 := (RowT.len RowT.zero); have h1 := (RowT.len (M.rows[who.toNat]'(by omega))); omega) (wwhole ((RowT.len RowT.zero).trans (RowT.len (M.rows[who.toNat]'(by omega))).symm)) rfl ?_
 refine sg' ?_
 refine nx J5 ?_
 clear J5
 refine TC.ret ?_
 refine TE.retCT (H' := [blkA b (cs (MirT.mk M.rows (M.sealed.set who.toNat true (by omega)))) T]) rfl rfl rfl Tryz.underlying48 rfl sz48 (Rd.own 0 rfl rfl) (RowT.len (M.rows[who.toNat]'(by omega))) (fun _ s => sep_keep [1] rfl s) ?_
 exact ⟨by simp [mirRow, *], by simp [mirClose, *]⟩
 refine tp (PV.not (r := true) rfl rfl rfl) ?_
 refine nx J3 ?_
 clear J3
 refine TC.yes rfl ?_
 refine sr fun _ J6 => ?_
 refine tp (PV.build (cells := (ints RowT.zero.flat).toArray) rfl rfl (by as_aux_lemma => kernel_rfl)) ?_
 refine TL.store (vs := ints RowT.zero.flat) (i := 0) (H' := [blkA b4 (ints RowT.zero.flat) 48, blkA b (cs M) T]) (Want.plain rfl) rfl rfl rfl rfl rfl (by rw [(RowT.len RowT.zero)]; exact sz48) (ints_one _) rfl rfl (by have h0 := (RowT.len RowT.zero); have h1 := (RowT.len RowT.zero); omega) (wwhole ((RowT.len RowT.zero).trans (RowT.len RowT.zero).symm)) rfl ?_
 refine sg' ?_
 refine nx J6 ?_
 clear J6
 refine TC.ret ?_
 refine TE.passRet ?_
 clear J2
 refine TE.retCT (H' := [blkA b (cs M) T]) rfl rfl rfl Tryz.underlying48 rfl sz48 (Rd.own 0 rfl rfl) (RowT.len RowT.zero) (fun _ s => sep_keep [1] rfl s) ?_
 exact ⟨by simp [mirRow, *], by simp [mirClose, *]⟩
end Go.Proofs.YtfceaphohlbnbaaGreat
end

section
namespace Api
open Go Leg Codec

def kRow (k : Int) : Bool := decide (k = 0 ∨ k = 2 ∨ k = 9)
def kAsk (k : Int) : Bool := decide (k = 3 ∨ k = 6)
def readMsgP : Ps (MsgT × Bool) := pb (smallP 10) fun k =>
  if kRow k then pb (smallP 5) fun w => pb rowP fun x => pr (⟨k, w, x, 0, 0, .zero, .zero, .zero, .zero⟩, rightR x)
  else if k = 1 then pb numP fun n => pr (⟨k, 0, .zero, n, 0, .zero, .zero, .zero, .zero⟩, true)
  else if kAsk k then pb numP fun n => pb ballotP fun b => pr (⟨k, 0, .zero, 0, n, b, .zero, .zero, .zero⟩, true)
  else if k = 4 then pb numP fun n => pb ballotP fun b => pb ballotP fun d => pb changeP fun c => pr (⟨k, 0, .zero, 0, n, b, d, c, .zero⟩, true)
  else if k = 5 then pb numP fun n => pb ballotP fun b => pb changeP fun c => pr (⟨k, 0, .zero, 0, n, b, .zero, c, .zero⟩, true)
  else if k = 7 then pb viewP fun v => pr (⟨k, 0, .zero, 0, 0, .zero, .zero, .zero, v⟩, rightV v)
  else if k = 8 then pb (smallP 5) fun w => pb viewP fun v => pr (⟨k, w, .zero, 0, 0, .zero, .zero, .zero, v⟩, rightV v)
  else pr (⟨k, 0, .zero, 0, 0, .zero, .zero, .zero, .zero⟩, true)
def encR (m : RecT) : List UInt8 :=
  if m.kind = 0 then encs [m.kind] ++ encRow m.row
  else if m.kind = 1 then encs [m.kind, m.whose] ++ encRow m.row
  else if m.kind = 2 then encs [m.kind, m.whose]
  else if m.kind = 3 then encs [m.kind, m.epoch] ++ encs m.ballot.flat
  else if m.kind = 4 then encs [m.kind, m.epoch] ++ encs m.ballot.flat ++ encs m.change.flat
  else if m.kind = 5 then encs [m.kind] ++ encs m.view.flat
  else []
end Api
end

section
namespace Api
open Go Leg Codec

def Nm (n : Int) : Prop := 0 ≤ n ∧ n < 9223372036854775808
def OkB (b : BallotT) : Prop := Nm b.round ∧ 0 ≤ b.who ∧ b.who < 5
def OkC (c : ChangeT) : Prop := (0 ≤ c.kind ∧ c.kind < 2) ∧ (0 ≤ c.who ∧ c.who < 5) ∧ (0 ≤ c.heir ∧ c.heir < 5)
def OkV (v : ViewT) : Prop := Nm v.epoch ∧ (0 ≤ v.members ∧ v.members < 32) ∧ ∀ (i : Nat) (h : i < 5), 0 ≤ v.heirs[i] ∧ v.heirs[i] < 6
structure OkM (m : MsgT) : Prop where
  kind : 0 ≤ m.kind ∧ m.kind < 10
  whose : 0 ≤ m.whose ∧ m.whose < 5
  row : TameR m.row
  version : Nm m.version
  epoch : Nm m.epoch
  ballot : OkB m.ballot
  had : OkB m.had
  change : OkC m.change
  view : OkV m.view
theorem heir_z (i : Nat) (hi : i < 5) : RowT.zero.heir[i] = 0 := by match i, hi with | 0, _ | 1, _ | 2, _ | 3, _ | 4, _ => rfl
theorem cell_z (k : Nat) (hk : k < 4) : RowT.zero.cells[k] = CellT.zero := by match k, hk with | 0, _ | 1, _ | 2, _ | 3, _ => rfl
theorem left_z (i : Nat) (hi : i < 5) : RowT.zero.left[i] = RowT.zero.cells := by match i, hi with | 0, _ | 1, _ | 2, _ | 3, _ | 4, _ => rfl
theorem tame_rzero : TameR RowT.zero := ⟨⟨by decide, by decide⟩, fun k hk => by rw [cell_z k hk]; exact tame_zero, fun i hi => by rw [heir_z i hi]; decide, fun i k hi hk => by rw [show RowT.zero.left[i][k] = RowT.zero.cells[k] from by rw [left_z i hi], cell_z k hk]; exact tame_zero, fun i hi _ => by rw [left_z i hi, left_z 0 (by decide)]⟩
theorem Ext.if {α : Type} {c : Prop} [Decidable c] {p q : Ps α} (hp : Ext p) (hq : Ext q) : Ext (if c then p else q) := by split <;> assumption
theorem Ext.change : Ext changeP := (Ext.small _).pb fun _ => (Ext.small _).pb fun _ => (Ext.small _).pb fun _ => Ext.pr _
theorem Ext.ballot : Ext ballotP := Ext.num.pb fun _ => (Ext.small _).pb fun _ => Ext.pr _
theorem Ext.view : Ext viewP := Ext.num.pb fun _ => (Ext.small _).pb fun _ => (Ext.small _).pb fun _ => (Ext.small _).pb fun _ => (Ext.small _).pb fun _ => (Ext.small _).pb fun _ => (Ext.small _).pb fun _ => Ext.pr _
theorem Ext.msg : Ext readMsgP := (Ext.small _).pb fun k => Ext.if ((Ext.small _).pb fun _ => Ext.row.pb fun _ => Ext.pr _) (Ext.if (Ext.num.pb fun _ => Ext.pr _) (Ext.if (Ext.num.pb fun _ => Ext.ballot.pb fun _ => Ext.pr _)
  (Ext.if (Ext.num.pb fun _ => Ext.ballot.pb fun _ => Ext.ballot.pb fun _ => Ext.change.pb fun _ => Ext.pr _) (Ext.if (Ext.num.pb fun _ => Ext.ballot.pb fun _ => Ext.change.pb fun _ => Ext.pr _) (Ext.if (Ext.view.pb fun _ => Ext.pr _) (Ext.if ((Ext.small _).pb fun _ => Ext.view.pb fun _ => Ext.pr _) (Ext.pr _)))))))
structure OkRc (m : RecT) : Prop where
  kind : 0 ≤ m.kind ∧ m.kind < 6
  whose : 0 ≤ m.whose ∧ m.whose < 5
  row : TameR m.row
  epoch : Nm m.epoch
  ballot : OkB m.ballot
  change : OkC m.change
  view : OkV m.view
end Api
end

section
namespace Api
open Go Leg Codec

theorem leaveH_rng {c : ChangeT} {i : Nat} {h : Int} (hh : 0 ≤ h ∧ h ≤ 5) (hc : 0 ≤ c.heir ∧ c.heir < 5) : 0 ≤ leaveH c i h ∧ leaveH c i h ≤ 5 := by
  unfold leaveH; split <;> omega
theorem leaveV_get (v : ViewT) (c : ChangeT) (i : Nat) (h : i < 5) : (leaveV v c)[i] = leaveH c i v.heirs[i] := by simp [leaveV]
theorem Rng.zeros {v : ViewT} (h : v.heirs = #v[0, 0, 0, 0, 0]) : Rng v := fun i hi => by
  have : v.heirs[i] = 0 := by
    rw [show v.heirs[i] = (#v[0, 0, 0, 0, 0] : Vector Int 5)[i] from by rw [h]]
    match i, hi with | 0, _ | 1, _ | 2, _ | 3, _ | 4, _ => rfl
  omega
theorem Rng.zero : Rng ViewT.zero := Rng.zeros rfl
theorem Rng.next {v : ViewT} (h : Rng v) (c : ChangeT) : Rng (nextV v c).1 := by
  unfold nextV
  split
  · exact Rng.zero
  rename_i h1
  have hm : 0 ≤ c.heir ∧ c.heir < 5 := by
    simp only [Bool.or_eq_true, Bool.not_eq_true', not_or, Bool.not_eq_false] at h1
    exact of_decide_eq_true h1.2
  split
  · split
    · exact Rng.zero
    · exact h
  · split
    · split
      · exact Rng.zero
      · exact fun i hi => by show 0 ≤ (leaveV v c)[i] ∧ (leaveV v c)[i] ≤ 5; rw [leaveV_get v c i hi]; exact leaveH_rng (h i hi) hm
    · exact Rng.zero
theorem Rng.first : Rng firstV := Rng.zeros rfl
def stepV (v : ViewT) (c : ChangeT) : ViewT := if (nextV v c).2 = 0 then (nextV v c).1 else v
theorem Rng.step {v : ViewT} (h : Rng v) (c : ChangeT) : Rng (stepV v c) := by unfold stepV; split; exact h.next c; exact h
theorem or_bits : ∀ (m : Fin 32) (w u : Fin 5), bitB (orI .i64 ((m.val : Nat) : Int) (2 ^ w.val)) ((u.val : Nat) : Int) = (bitB ((m.val : Nat) : Int) ((u.val : Nat) : Int) || decide (u = w)) ∧ 0 ≤ orI .i64 ((m.val : Nat) : Int) (2 ^ w.val) ∧ orI .i64 ((m.val : Nat) : Int) (2 ^ w.val) < 32 := by decide +kernel
theorem andNot_bits : ∀ (m : Fin 32) (w u : Fin 5), bitB (andNotI .i64 ((m.val : Nat) : Int) (2 ^ w.val)) ((u.val : Nat) : Int) = (bitB ((m.val : Nat) : Int) ((u.val : Nat) : Int) && decide (u ≠ w)) ∧ 0 ≤ andNotI .i64 ((m.val : Nat) : Int) (2 ^ w.val) ∧ andNotI .i64 ((m.val : Nat) : Int) (2 ^ w.val) < 32 := by decide +kernel
structure GoodV (v : ViewT) : Prop where
  epoch : 1 ≤ v.epoch
  mem : 1 ≤ v.members ∧ v.members < 32
  ok : ∀ (i : Nat) (h : i < 5), okH v v.heirs[i] i = true
  rng : Rng v
theorem GoodV.right {v : ViewT} (h : GoodV v) : rightV v = true := by
  unfold rightV
  rw [Bool.and_eq_true, decide_eq_true_iff, decide_eq_true_iff]
  exact ⟨⟨h.epoch, h.mem⟩, h.ok⟩
theorem GoodV.of {v : ViewT} (h : rightV v = true) (hr : Rng v) : GoodV v := by
  unfold rightV at h
  rw [Bool.and_eq_true, decide_eq_true_iff, decide_eq_true_iff] at h
  exact ⟨h.1.1, h.1.2, h.2, hr⟩
theorem memb_or {v v' : ViewT} {w u : Int} (hm : 0 ≤ v.members ∧ v.members < 32) (hw : 0 ≤ w ∧ w < 5) (e : v'.members = orI .i64 v.members (2 ^ w.toNat)) : memb v' u = (memb v u || (machB u && decide (u = w))) ∧ 0 ≤ v'.members ∧ v'.members < 32 := by
  obtain ⟨m, hm', e1⟩ : ∃ m : Nat, m < 32 ∧ v.members = (m : Int) := ⟨v.members.toNat, by omega, by omega⟩
  have hb := or_bits ⟨m, hm'⟩ ⟨w.toNat, by omega⟩
  simp only at hb
  rw [← e1, ← e] at hb
  refine ⟨?_, (hb ⟨0, by decide⟩).2⟩
  by_cases hu : 0 ≤ u ∧ u < 5
  · have h1 := (hb ⟨u.toNat, by omega⟩).1
    simp only at h1
    rw [show ((u.toNat : Nat) : Int) = u by omega] at h1
    have hmu : machB u = true := decide_eq_true hu
    simp only [memb, hmu, Bool.true_and, h1, Fin.mk.injEq]
    congr 1
    rw [decide_eq_decide]; omega
  · have hmu : machB u = false := decide_eq_false hu
    simp [memb, hmu]
theorem memb_andNot {v v' : ViewT} {w u : Int} (hm : 0 ≤ v.members ∧ v.members < 32) (hw : 0 ≤ w ∧ w < 5) (e : v'.members = andNotI .i64 v.members (2 ^ w.toNat)) : memb v' u = (memb v u && decide (u ≠ w)) ∧ 0 ≤ v'.members ∧ v'.members < 32 := by
  obtain ⟨m, hm', e1⟩ : ∃ m : Nat, m < 32 ∧ v.members = (m : Int) := ⟨v.members.toNat, by omega, by omega⟩
  have hb := andNot_bits ⟨m, hm'⟩ ⟨w.toNat, by omega⟩
  simp only at hb
  rw [← e1, ← e] at hb
  refine ⟨?_, (hb ⟨0, by decide⟩).2⟩
  by_cases hu : 0 ≤ u ∧ u < 5
  · have h1 := (hb ⟨u.toNat, by omega⟩).1
    simp only at h1
    rw [show ((u.toNat : Nat) : Int) = u by omega] at h1
    have hmu : machB u = true := decide_eq_true hu
    simp only [memb, hmu, Bool.true_and, h1, ne_eq, Fin.mk.injEq]
    congr 1
    rw [decide_eq_decide]; omega
  · have hmu : machB u = false := decide_eq_false hu
    simp [memb, hmu]
theorem mem_pos {v : ViewT} {u : Int} (h0 : 0 ≤ v.members) (h : memb v u = true) : 1 ≤ v.members := by
  have hb : bitB v.members u = true := by simp only [memb, Bool.and_eq_true] at h; exact h.2
  have : v.members ≠ 0 := fun e => by
    rw [e] at hb
    have := of_decide_eq_true hb
    rw [Int.zero_fdiv] at this; omega
  omega
theorem GoodV.step {v : ViewT} (g : GoodV v) (he : v.epoch < 9223372036854775807) (c : ChangeT) : GoodV (stepV v c) ∧ v.epoch ≤ (stepV v c).epoch ∧ (stepV v c).epoch ≤ v.epoch + 1 := by
  have hw1 : IntKind.i64.wrap (v.epoch + 1) = v.epoch + 1 := wrap_i64 (by have := g.epoch; omega) (by omega)
  by_cases hz : (nextV v c).2 = 0
  rotate_left
  · rw [stepV, if_neg hz]; exact ⟨g, by omega, by omega⟩
  rw [stepV, if_pos hz]
  have hr := g.rng.next c
  unfold nextV at hz hr ⊢
  split at hz
  · exact absurd hz (by decide)
  rename_i h1
  rw [if_neg h1] at hr ⊢
  have hm : machB c.who = true ∧ machB c.heir = true := by
    simp only [Bool.or_eq_true, Bool.not_eq_true', not_or, Bool.not_eq_false] at h1; exact h1
  have hwho := of_decide_eq_true hm.1
  have hheir := of_decide_eq_true hm.2
  split at hz
  · rename_i h2
    rw [if_pos h2] at hr ⊢
    split at hz
    · exact absurd hz (by decide)
    rename_i h3
    rw [if_neg h3] at hr ⊢
    simp only [Bool.or_eq_true, not_or, Bool.not_eq_true] at h3
    have hb := fun u => memb_or (v := v) (v' := ⟨IntKind.i64.wrap (v.epoch + 1), orI .i64 v.members (2 ^ c.who.toNat), v.heirs⟩) (u := u) ⟨by have := g.mem; omega, g.mem.2⟩ hwho rfl
    have hh0 : ∀ (i : Nat) (h : i < 5), (i : Int) = c.who → v.heirs[i] = 0 := fun i h e => by
      have := h3.1
      rw [heirV, dif_pos hwho] at this
      have e2 : c.who.toNat = i := by omega
      simp only [e2] at this
      have hr := g.rng i h
      split at this
      · omega
      · cases this
    refine ⟨⟨by show 1 ≤ IntKind.i64.wrap (v.epoch + 1); rw [hw1]; have := g.epoch; omega, ⟨mem_pos (u := c.who) (hb 0).2.1 (by rw [(hb c.who).1, hm.1]; simp), (hb 0).2.2⟩, fun i h => ?_, hr⟩, by show v.epoch ≤ IntKind.i64.wrap (v.epoch + 1); rw [hw1]; omega, by show IntKind.i64.wrap (v.epoch + 1) ≤ _; rw [hw1]; omega⟩
    have ho := g.ok i h
    unfold okH at ho ⊢
    rw [Bool.or_eq_true, decide_eq_true_iff, Bool.and_eq_true] at ho ⊢
    rcases ho with ho | ⟨h4, h5⟩
    · exact .inl ho
    · by_cases q : (i : Int) = c.who
      · exact .inl (hh0 i h q)
      · refine .inr ⟨by rw [(hb _).1]; show (memb v (v.heirs[i] - 1) || _) = true; rw [h4]; rfl, ?_⟩
        rw [(hb _).1, decide_eq_false q, Bool.and_false, Bool.or_false]; exact h5
  · rename_i h2
    rw [if_neg h2] at hr ⊢
    split at hz
    rotate_left
    · exact absurd hz (by decide)
    rename_i h3
    rw [if_pos h3] at hr ⊢
    split at hz
    · exact absurd hz (by decide)
    rename_i h4
    rw [if_neg h4] at hr ⊢
    simp only [Bool.or_eq_true, Bool.not_eq_true', not_or, Bool.not_eq_false, decide_eq_true_iff] at h4
    obtain ⟨⟨m1, m2⟩, m3⟩ := h4
    have hb := fun u => memb_andNot (v := v) (v' := ⟨IntKind.i64.wrap (v.epoch + 1), andNotI .i64 v.members (2 ^ c.who.toNat), leaveV v c⟩) (u := u) ⟨by have := g.mem; omega, g.mem.2⟩ hwho rfl
    refine ⟨⟨by show 1 ≤ IntKind.i64.wrap (v.epoch + 1); rw [hw1]; have := g.epoch; omega, ⟨mem_pos (u := c.heir) (hb 0).2.1 (by rw [(hb c.heir).1, m2]; simpa using m3), (hb 0).2.2⟩, fun i h => ?_, hr⟩, by show v.epoch ≤ IntKind.i64.wrap (v.epoch + 1); rw [hw1]; omega, by show IntKind.i64.wrap (v.epoch + 1) ≤ _; rw [hw1]; omega⟩
    have ho := g.ok i h
    show okH _ ((leaveV v c)[i]) i = true
    rw [leaveV_get v c i h]
    unfold okH at ho ⊢
    rw [Bool.or_eq_true, decide_eq_true_iff, Bool.and_eq_true] at ho ⊢
    unfold leaveH
    by_cases q : (i : Int) = c.who ∨ v.heirs[i] = c.who + 1
    · rw [if_pos q]
      refine .inr ⟨by rw [(hb _).1, show c.heir + 1 - 1 = c.heir by omega, m2]; simpa using m3, ?_⟩
      rw [(hb _).1]
      rcases q with q | q
      · rw [q]; simp
      · rcases ho with ho | ⟨_, h5⟩
        · omega
        · rw [Bool.not_eq_true'] at h5; rw [h5]; rfl
    · rw [if_neg q]
      rcases ho with ho | ⟨h5, h6⟩
      · exact .inl ho
      · refine .inr ⟨by rw [(hb _).1, h5]; simp; omega, ?_⟩
        rw [Bool.not_eq_true'] at h6
        rw [(hb _).1, h6]; rfl
theorem GoodV.first : GoodV firstV := ⟨by decide, by decide, fun i h => by match i, h with | 0, _ | 1, _ | 2, _ | 3, _ | 4, _ => rfl, Rng.first⟩
end Api
end

section
namespace Api
open Go Leg Codec

def rowMsg (x : RepT) : MsgT := { MsgT.zero with kind := 0, whose := x.id, row := x.own }
def newsMsg (id : Int) (x : RowT) : MsgT := { MsgT.zero with kind := 2, whose := id, row := x }
def bit0 (k w : Int) : Bool := decide (k.fdiv (2 ^ min w.toNat IntKind.i64.bits) % 2 = 0)
def tellL (x : RepT) : List SaidT := ((witL x.id).filter fun w => bit0 x.kept w).map fun w => ⟨w, rowMsg x⟩
def newsTo (id : Int) (x : RowT) (k : Nat) : List SaidT := ((List.range k).filter fun i : Nat => !decide (((i : Nat) : Int) = id)).map fun i : Nat => ⟨((i : Nat) : Int), newsMsg id x⟩
def newsL (id : Int) (x : RowT) : List SaidT := newsTo id x 5
theorem newsTo_succ (id : Int) (x : RowT) (k : Nat) : newsTo id x (k + 1) = newsTo id x k ++ (if ((k : Nat) : Int) = id then [] else [⟨((k : Nat) : Int), newsMsg id x⟩]) := by
  unfold newsTo
  rw [List.range_succ, List.filter_append, List.map_append]
  by_cases h : ((k : Nat) : Int) = id <;> simp [h]
def Alone (x : RepT) : Prop := Rng x.view ∧ ∀ i : Nat, i < 5 → heirV x.view ((i : Nat) : Int) ≠ some x.id
end Api
namespace Api
open Go Leg Codec
def growOf (x : RepT) (o : OpT) : RowT × Int :=
  if o.kind = 0 then rowInc x.own o.key o.n else if o.kind = 1 then rowDec x.own o.key o.n else if o.kind = 2 then (if o.to' ≠ x.id then rowGive x.own o.key o.n o.to' else (.zero, 5)) else (.zero, 5)
def planF (x : RepT) (o : OpT) : RowT × Int × Int :=
  if memb x.view x.id = false then (.zero, 0, 9) else if keyB o.key = false then (.zero, 0, 5) else if o.kind = 3 then (.zero, bookValue x.book o.key, 0) else if x.busy then (.zero, 0, 8)
  else if (growOf x o).2 ≠ 0 then (.zero, 0, (growOf x o).2) else if o.kind ≠ 0 ∧ bookRights x.book x.id o.key < o.n then (.zero, 0, 7) else ((growOf x o).1, 0, 0)
def rowRec (y : RowT) : RecT := { RecT.zero with kind := 0, row := y }
def growF (x : RepT) (y : RowT) (op : Int) : RepT := { x with own := y, busy := true, kept := 0, waits := op }
end Api
namespace Api
open Go Leg Codec
def enterF (x : RepT) (v : ViewT) : RepT := { x with view := v, acc := { AccT.zero with epoch := v.epoch }, vote := .pointer none, round := 0 }
def newRep (id : Int) (lg : Nat) : RepT := enterF { RepT.zero with id := id, log := .pointer (some ⟨lg, 0, none⟩) } firstV
def opsF (x : RepT) : RepT := { x with ops := w64 (x.ops + 1) }
theorem rowRec_len (y : RowT) : (encR (rowRec y)).length ≤ 1760 := by
  have h1 := encRow_len y
  have h2 := encs_len [(0 : Int)]
  simp only [encR, rowRec, if_true, List.length_append, List.length_cons, List.length_nil] at *
  omega
end Api
namespace Api
open Go Leg Codec
def countF (x : RepT) : RepT := { x with busy := false, book := (bookMerge x.book x.id x.own).1, waits := if x.waits > 0 then 0 else x.waits }
def countR (x : RepT) (rs : List ReplyT) : List ReplyT := if x.waits > 0 then rs ++ [⟨x.waits, 0, 0⟩] else rs
def keptB (x : RepT) (from' ver : Int) : Bool := x.busy && decide (ver = x.own.version) && decide (from' ∈ witL x.id)
def keptX (x : RepT) (from' : Int) : RepT := { x with kept := orI .i64 x.kept (IntKind.i64.wrap (1 * 2 ^ min from'.toNat IntKind.i64.bits)) }
def fullB (x : RepT) : Bool := (witL x.id).all fun w => !bit0 x.kept w
def keptS (x : RepT) (from' ver : Int) : RepT := if keptB x from' ver then (if fullB (keptX x from') then countF (keptX x from') else keptX x from') else x
def keptR (x : RepT) (from' ver : Int) (rs : List ReplyT) : List ReplyT := if keptB x from' ver && fullB (keptX x from') then countR x rs else rs
def keptO (x : RepT) (from' ver : Int) : List SaidT := if keptB x from' ver && fullB (keptX x from') then newsL x.id x.own else []
end Api
namespace Api
open Go Leg Codec
def cN (x : RepT) (o : OpT) : RowT × Int × Int := planF (opsF x) o
def doneB (x : RepT) (o : OpT) : Bool := decide ((cN x o).2.2 ≠ 0 ∨ o.kind = 3)
def clientX (x : RepT) (o : OpT) : RepT := if doneB x o then opsF x else growF (opsF x) (cN x o).1 (opsF x).ops
def clientC (x : RepT) (o : OpT) (recs : List (List UInt8)) : List (List UInt8) := if doneB x o then recs else recs ++ [encR (rowRec (cN x o).1)]
def clientR (x : RepT) (o : OpT) (rs : List ReplyT) : List ReplyT := if doneB x o then rs ++ [ReplyT.mk (opsF x).ops (cN x o).2.2 (cN x o).2.1] else rs
def clientO (x : RepT) (o : OpT) : List SaidT := if doneB x o then [] else tellL (growF (opsF x) (cN x o).1 (opsF x).ops)
theorem alone_first {x : RepT} (h : x.view = firstV) : Alone x := by
  unfold Alone
  rw [h]
  refine ⟨Rng.first, fun i hi => ?_⟩
  match i, hi with
  | 0, _ | 1, _ | 2, _ | 3, _ | 4, _ => exact fun e => nomatch (show (none : Option Int) = some x.id from e)
end Api
namespace Api
open Go Leg Codec
theorem keptS_rep (y : RepT) (v : Value) (w ver : Int) : keptS { y with replies := v } w ver = { keptS y w ver with replies := v } := by
  unfold keptS
  rw [show keptB { y with replies := v } w ver = keptB y w ver from rfl, show fullB (keptX { y with replies := v } w) = fullB (keptX y w) from rfl]
  split
  · split <;> rfl
  · rfl
theorem keptS_own (y : RepT) (w ver : Int) : (keptS y w ver).own = y.own ∧ (keptS y w ver).id = y.id ∧ (keptS y w ver).view = y.view ∧ (keptS y w ver).log = y.log ∧ (keptS y w ver).ops = y.ops := by
  unfold keptS
  split
  · split <;> exact ⟨rfl, rfl, rfl, rfl, rfl⟩
  · exact ⟨rfl, rfl, rfl, rfl, rfl⟩
def keepX (x : RepT) (id : Int) : RepT := keptS (keptS x ((id + 1) % 5) x.own.version) ((id + 2) % 5) x.own.version
theorem keptO_len (y : RepT) (w ver : Int) : (keptO y w ver).length ≤ 5 := by
  unfold keptO
  split
  · unfold newsL newsTo
    rw [List.length_map]
    exact Nat.le_trans (List.length_filter_le _ _) (by simp)
  · simp
theorem keptR_len (y : RepT) (w ver : Int) (rs : List ReplyT) : (keptR y w ver rs).length ≤ rs.length + 1 := by
  unfold keptR countR
  split
  · split <;> simp
  · simp
end Api
end

section
namespace Leg
open Go Go.ChangeShapes Go.WideShapes Codec Api

section
variable {P : Program} {W : World} {H : Type} {enc : TypeId × Value → H} {B0 : Nat} {spare : Nat → Bool} {held : Bool}
theorem trod_boolL {t : TypeId} {fuel : Nat} {cs : List Value} {x : DataW H × List MemPlace} (ht : P.underlying t = some .bool) (h : DataW.trod enc P W B0 spare held fuel t cs = some x) : ∃ b, cs = [.bool b] := by
  cases fuel with
  | zero => simp [DataW.trod] at h
  | succ n =>
    unfold DataW.trod at h
    rw [ht] at h
    split at h <;> simp_all
theorem Fits.append {a b : List (Option IntKind)} {x y : List Lit} (h : Fits a x) (g : Fits b y) : Fits (a ++ b) (x ++ y) :=
  ⟨by rw [List.map_append, List.map_append, h.1, g.1], fun l hl => (List.mem_append.1 hl).elim (h.2 l) (g.2 l)⟩
theorem fields_in {d : Nat} (ih : ∀ t ks, flatK P d t = some ks → ∀ fuel cs x, DataW.trod enc P W B0 spare held fuel t cs = some x → ∃ ls, Fits ks ls ∧ cs = ls.map cellL) (cs : List Value) (n : Nat) :
    ∀ (fs : List Field) (o : Nat) (ks : List (Option IntKind)), flatKF P (flatK P d) fs o = some ks → cs.length = o + ks.length →
      (∀ f ∈ fs, ∃ y, DataW.trod enc P W B0 spare held n f.type ((cs.drop f.offset).take (P.cellsOf f.type)) = some y) → ∃ ls, Fits ks ls ∧ cs.drop o = ls.map cellL
  | [], o, ks, h, hl, _ => by
    simp only [flatKF, Option.some.injEq] at h
    subst h
    exact ⟨[], ⟨rfl, fun _ h => by cases h⟩, by rw [List.drop_of_length_le (by simpa using Nat.le_of_eq hl)]; rfl⟩
  | f :: fs, o, ks, h, hl, hf => by
    simp only [flatKF] at h
    split at h
    · rename_i c hc
      split at h
      · rename_i hh
        obtain ⟨m, hm, rfl⟩ := Option.map_eq_some_iff.1 h
        rw [List.length_append] at hl
        obtain ⟨y, hy⟩ := hf f (by simp)
        rw [hh.1, hh.2] at hy
        obtain ⟨l1, f1, e1⟩ := ih f.type c hc n _ _ hy
        obtain ⟨l2, f2, e2⟩ := fields_in ih cs n fs (o + c.length) m hm (by omega) (fun g hg => hf g (by simp [hg]))
        refine ⟨l1 ++ l2, f1.append f2, ?_⟩
        rw [List.map_append, ← e1, ← e2, ← List.drop_drop]
        exact (List.take_append_drop _ _).symm
      · cases h
    · cases h
theorem flat_in : ∀ (d : Nat) (t : TypeId) (ks : List (Option IntKind)), flatK P d t = some ks → ∀ fuel cs x, DataW.trod enc P W B0 spare held fuel t cs = some x → ∃ ls, Fits ks ls ∧ cs = ls.map cellL
  | 0, _, _, h => by simp [flatK] at h
  | d + 1, t, ks, h => fun fuel cs x hx => by
    have ih := flat_in d
    simp only [flatK] at h
    split at h
    · rename_i q hu
      simp only [Option.some.injEq] at h
      subst h
      obtain ⟨n, rfl, _, hw⟩ := DataW.trod_int hu hx
      exact ⟨[.int q n], ⟨rfl, by simpa using hw⟩, rfl⟩
    · rename_i hu
      simp only [Option.some.injEq] at h
      subst h
      obtain ⟨b, rfl⟩ := trod_boolL hu hx
      exact ⟨[.bool b], ⟨rfl, by simp [Lit.wf]⟩, rfl⟩
    · rename_i n e hu
      split at h
      · rename_i c hc
        split at h
        · rename_i hh
          simp only [Option.some.injEq] at h
          subst h
          obtain ⟨xs, m, _, _, hl, hxl, hxi⟩ := DataW.trod_array hu hx
          rw [hh.2] at hl
          have each : ∀ k, k ≤ n → ∃ ls, Fits (List.replicate k c).flatten ls ∧ cs.take (k * c.length) = ls.map cellL := by
            intro k
            induction k with
            | zero => intro _; exact ⟨[], ⟨rfl, fun _ h => by cases h⟩, by simp⟩
            | succ k ihk =>
              intro hk
              obtain ⟨l1, f1, e1⟩ := ihk (by omega)
              have hy := hxi k (by omega)
              rw [List.getElem?_eq_getElem (by omega), hh.1] at hy
              obtain ⟨l2, f2, e2⟩ := ih e c hc m _ _ hy
              refine ⟨l1 ++ l2, ?_, ?_⟩
              · rw [List.replicate_succ', List.flatten_append]
                simpa using f1.append f2
              · rw [List.map_append, ← e1, ← e2, Nat.add_mul, Nat.one_mul, List.take_add]
          obtain ⟨ls, f, e⟩ := each n (Nat.le_refl _)
          rw [List.take_of_length_le (by omega)] at e
          exact ⟨ls, f, e⟩
        · cases h
      · cases h
    · rename_i fs hu
      split at h
      · rename_i m' hc
        split at h
        · rename_i hh
          simp only [Option.some.injEq] at h
          subst h
          obtain ⟨xs, m, _, _, hl, hxl, hxi⟩ := DataW.trod_struct hu hx
          have := fields_in (fun t ks h => ih t ks h) cs m fs.toList 0 _ hc (by rw [hl, hh.1, Nat.zero_add]) (fun f hf => by
            obtain ⟨i, hi⟩ := List.getElem?_of_mem hf
            have hi' : fs[i]? = some f := by simpa using hi
            have := hxi i f hi'
            have hlt := (Array.getElem?_eq_some_iff.1 hi').1
            rw [List.getElem?_eq_getElem (by omega)] at this
            exact ⟨_, this⟩)
          simpa using this
        · cases h
      · cases h
    · cases h
theorem fits_ints {c : Nat} {ls : List Lit} (h : Fits (List.replicate c (some .i64)) ls) : ∃ l, ls = litI l ∧ l.length = c ∧ WF l := by
  obtain ⟨h1, h2⟩ := h
  have e : ∀ x ∈ ls, ∃ n, x = .int .i64 n := fun x hx => by
    have : kindL x ∈ ls.map kindL := List.mem_map_of_mem hx
    rw [h1, List.map_replicate] at this
    have := List.eq_of_mem_replicate this
    cases x <;> simp only [kindL, Option.some.injEq, reduceCtorEq] at this
    subst this
    exact ⟨_, rfl⟩
  refine ⟨ls.map fun x => match x with | .int _ n => n | _ => 0, ?_, ?_, ?_⟩
  · rw [litI, List.map_map]
    conv => lhs; rw [← List.map_id ls]
    refine List.map_congr_left fun x hx => ?_
    obtain ⟨n, rfl⟩ := e x hx
    rfl
  · have := congrArg List.length h1
    simpa using this
  · intro n hn
    obtain ⟨x, hx, rfl⟩ := List.mem_map.1 hn
    obtain ⟨n, rfl⟩ := e x hx
    exact h2 _ hx
theorem litI_cells (l : List Int) : (litI l).map cellL = ints l := by simp [litI, ints, cellL]

theorem block_of_cell {a : Addr} {v : Value} (h : W.cell? a = some v) : ∃ b o cs T z, a = ⟨b, o, none⟩ ∧ W.heap[b]? = some (.cells (List.toArray cs) T z) ∧ cs[o]? = some v := by
  obtain ⟨b, o, s⟩ := a
  simp only [World.cell?] at h
  split at h
  · rename_i cs T z hb
    cases s with
    | some s => simp at h
    | none => exact ⟨b, o, cs.toList, T, z, rfl, by simpa using hb, by simpa using h⟩
  · cases h
theorem listT_in {t e : TypeId} {fuel size : Nat} {α : Type} {E : List Value → α → Hl → Prop} {cs : List Value} {x : DataW H × List MemPlace} (ht : P.underlying t = some (.slice e)) (hc : P.cellsOf e = size) (hs : 0 < size)
    (hE : ∀ fuel cs x, DataW.trod enc P W B0 spare held fuel e cs = some x → ∃ a, E cs a (hp W)) (h : DataW.trod enc P W B0 spare held fuel t cs = some x) : ∃ u l, cs = [u] ∧ IsL size E u l (hp W) := by
  classical
  rcases Deep.open_slice ht h with ⟨rfl, _⟩ | ⟨a, len, cap, m, n, D, Pl, rfl, _, hl, hm, hmm, _, hx⟩
  · exact ⟨_, [], rfl, .inl ⟨rfl, rfl⟩⟩
  · have hlm : len ≤ m := by rw [hmm]; split <;> omega
    by_cases h0 : len = 0
    · subst h0
      exact ⟨_, [], rfl, .inr (.inl ⟨a, cap, rfl, rfl⟩)⟩
    · have first : ∃ v, W.cell? a = some v := by
        obtain ⟨cs', h1, _⟩ := hx 0 (by omega)
        obtain ⟨_, h2, h3⟩ := World.cells?_some h1
        have := h3 0 (by omega)
        rw [Nat.zero_mul, show (a.add 0).add 0 = a from rfl, List.getElem?_eq_getElem (by omega)] at this
        exact ⟨_, this⟩
      obtain ⟨v, hv⟩ := first
      obtain ⟨b, o, bs, T, z, rfl, hb, _⟩ := block_of_cell hv
      have each : ∀ i, i < len → ∃ us, us.length = size ∧ (bs.drop (o + i * size)).take size = us ∧ ∃ x, E us x (hp W) := fun i hi => by
        obtain ⟨cs', h1, h2⟩ := hx i (by omega)
        obtain ⟨_, h3, h4⟩ := World.cells?_some h1
        rw [hc] at h3 h4
        refine ⟨cs', h3, ?_, hE _ _ _ h2⟩
        apply List.ext_getElem?
        intro k
        rw [List.getElem?_take]
        split
        · rename_i hk
          have := h4 k hk
          rw [addL, addL] at this
          simp only [World.cell?, hb, Option.isSome_none, Bool.false_eq_true, if_false] at this
          rw [List.getElem?_drop]
          simpa using this
        · rw [List.getElem?_eq_none (by omega)]
      obtain ⟨f, hf⟩ : ∃ f : Nat → α, ∀ i, i < len → E ((bs.drop (o + i * size)).take size) (f i) (hp W) := by
        have each' : ∀ i, i < len → ∃ x, E ((bs.drop (o + i * size)).take size) x (hp W) := fun i hi => by
          obtain ⟨us, _, e2, q⟩ := each i hi
          rw [e2]; exact q
        obtain ⟨x, _⟩ := each' 0 (by omega)
        haveI : Inhabited α := ⟨x⟩
        exact Deep.choose_lt each'
      refine ⟨_, (List.range len).map f, rfl, .inr (.inr ⟨b, o, cap, bs, T, z, by simp, by simpa using hl, by simpa [maxLen] using hm, hb, fun j hj => ?_⟩)⟩
      have hj' : j < len := by simpa using hj
      obtain ⟨us, e1, e2, _⟩ := each j hj'
      exact ⟨us, e1, e2, by rw [← e2]; simpa using hf j hj'⟩
theorem listV_in {t e : TypeId} {size : Nat} {α : Type} {E : List Value → α → Hl → Prop} {v : Value} {d : DataW H} {ps : List MemPlace} (ht : P.underlying t = some (.slice e)) (hc : P.cellsOf e = size) (hs : 0 < size) (hv : Value.okWide P W .any B0 t v)
    (hE : ∀ fuel cs x, DataW.trod enc P W 0 spare held fuel e cs = some x → ∃ a, E cs a (hp W)) (hd : DataW.Trod enc P W 0 spare held t v d ps) : ∃ l, IsL size E v l (hp W) := by
  obtain ⟨fuel, hf⟩ := hd
  obtain ⟨u, l, h1, h2⟩ := listT_in ht hc hs hE hf
  obtain ⟨a, len, cap, rfl⟩ := WideShapes.okWide_slice ht hv
  simp [Value.cells] at h1
  subst h1
  exact ⟨l, h2⟩
end
end Leg
end

section
namespace Leg
open Go

section
variable {P : Program} {w0 : World} {F : Hl} {n : Nat} {ops : Array Oper} {Q : QQ} {D : List Deferred} {L : List (Nat × Value)} {H : List HP} {o : Oper} {l : List Oper} {d : Nat} {S : World → Prop}
def IsMethod (P : Program) (t : TypeId) (rv : Value) (nm : String) (f : FuncId) : Prop := ∀ w, (method (P.types.size + Made.depth) t rv nm).run P w = .ok (f, rv) w
theorem TL.callI {recv : Operand} {nm : String} {t : TypeId} {rv : Value} {f : FuncId} {xs : Array Operand} {ts : Array TypeId} {vs : List Value} {R : Hl → Prop} {A B : List HP} {p : Value → List HP → Prop} (hw : Want n D ops o L)
    (ho : o.op = .call { callee := .invoke recv nm, args := xs, argTypes := ts }) (hd : o.dst = some d) (hn : Nat.blt d n = true) (hr : evL L recv = some (.iface t rv)) (hm : IsMethod P t rv nm f) (hf : Named P f) (hx : evs L xs.toList = some vs)
    (sp : Does P f (rv :: vs).toArray R A (Ret p)) (hp : ∀ h, sep H h → sep (A ++ B) h) (hR : ∀ g, Dj g F → sep B g → R (jn g F))
    (hret : ∀ v H', p v H' → TL P w0 F n ops Q l D ((d, v) :: L) (H' ++ B)) : TL P w0 F n ops Q (o :: l) D L H :=
  TL.callw hw (fun a w g => by
      have e : xs.map a.eval = vs.toArray := g.evals hx
      have e2 : a.eval recv = .iface t rv := g.eval hr
      have e3 := hm w
      simp [execOp, ho, resolve, invoke, callMethod, e, e2, e3, run_callFunc hf])
    sp hp hR (fun v H' q a g w s m => by rw [hd]; exact hret v H' q _ w (g.put (lb hn) v) s m) (fun _ _ h => h.elim) (fun _ h => h)
theorem TE.retCTT {H' : List HP} {fn : Func} {post : Ending → List HP → Prop} {t t' t2 ty e m b : Nat} {cs : List Value} {z : Nat × Nat} {dt : TypeDesc} {v' v2 : Value} (hr : fn.results = #[.cell t ty, .tmp t', .tmp t2]) (he : lk L t = some (.pointer (some ⟨b, 0, none⟩))) (e' : lk L t' = some v') (e2 : lk L t2 = some v2)
    (hu : P.underlying ty = some dt) (hp : plainT dt = false) (hm : (P.info? ty).map (·.size) = some m) (hR : Rd (Sat H F) b (.cells cs.toArray e z)) (hl : cs.length = m) (hk : ∀ h, sep H h → sep H' h)
    (h : post (.returned (.tuple #[.agg cs.toArray, v', v2])) H') : TE w0 F n (bodyPost P fn (postOf post w0 F)) .ret [] L H := fun a w f s q => by
  have h1 : a.tmps.getD t undef = .pointer (some ⟨b, 0, none⟩) := f.eval (x := .tmp t) he
  have h2 : a.tmps.getD t' undef = v' := f.eval (x := .tmp t') e'
  have h4 : a.tmps.getD t2 undef = v2 := f.eval (x := .tmp t2) e2
  have h3 : (results fn a.tmps).run P w = .ok (.tuple #[.agg cs.toArray, v', v2]) w := by
    have h1' : a.tmps[t]?.getD undef = .pointer (some ⟨b, 0, none⟩) := by simpa using h1
    have h2' : a.tmps[t']?.getD undef = v' := by simpa using h2
    have h4' : a.tmps[t2]?.getD undef = v2 := by simpa using h4
    simp [results, hr, h1', h2', h4', asAddr, run_loadVar_row w b e ty cs.toArray z dt (hR w q) hu (by cases dt <;> simp [plainT] at hp ⊢) (by simp [hm, hl])]
  exact bodyPost_ret h3 f.2.1 ⟨s, H', q.mono hk, h⟩
theorem PV.ifaceNotNil {t t' u : TypeId} {x : Operand} {v : Value} {ms : Array (String × TypeId)} (ho : o.op = .binOp .neq t x (.const .nilIface) t') (ht : P.underlying t = some (.interface ms)) (hx : evL L x = some (.iface u v)) : PV P n D L S o (.bool true) :=
  PV.bin ho hx rfl fun w => by
    have := eqIn_ifaceNil (P := P) (w := w) 9999 (u := u) (v := v) ht
    simp [eqGuard, binOp, Op.equal, Op.maxDepth, this]
end
theorem isI_own (i : Nat) {v : Value} {l : List Int} {e : Nat} {B : List HP} {F : Hl} (hi : Nat.blt i B.length = true) (hH : B.getD i (fun _ => True) = own v l.length (Api.ints l) e 1) : ∀ g, Dj g F → sep B g → IsI .i64 v l (jn g F) := fun g _ s => by
  obtain ⟨h1, h2, d', rfl, a, _⟩ := sep_get i (lb hi) s
  rw [hH] at a
  rcases a with ⟨_, ⟨h0, hn, _⟩ | ⟨g, cap, cur, hv, hh, h3, h4, h5, h6⟩⟩
  · exact .inl ⟨h0, List.eq_nil_of_length_eq_zero hn⟩
  · refine .inr ⟨g, 0, cap, cur.toList, e, (0, 0), hv, h3, by simp only [maxLen] at h4; omega, jn_some (jn_some (by rw [hh]; simp [sg])), fun j hj => ?_⟩
    rw [Nat.mul_one] at h6
    have e1 : (cur.toList.take l.length)[j]? = some (.int .i64 (l.getD j 0)) := by rw [h6]; exact Api.ints_get l j hj
    rw [List.getElem?_take, if_pos hj] at e1
    simpa using e1
end Leg
end

section
namespace Dsk
open Go Leg Codec Api

abbrev Sec := List UInt8
def zs : Sec := List.replicate 64 0
def secV (b : Sec) : Value := .agg (u8s b).toArray
abbrev Secs := List (Int × Sec)
def sget (s : Secs) (k : Int) : Sec := match s with
  | [] => zs
  | (a, b) :: s => if k = a then b else sget s k
def sput (s : Secs) (k : Int) (v : Sec) : Secs := match s with
  | [] => [(k, v)]
  | (a, b) :: s => if k = a then (a, v) :: s else (a, b) :: sput s k v
theorem sget_put (s : Secs) (k j : Int) (v : Sec) : sget (sput s k v) j = if j = k then v else sget s j := by
  induction s with
  | nil => simp [sput, sget]
  | cons p s ih =>
    obtain ⟨a, b⟩ := p
    simp only [sput]
    by_cases h : k = a
    · subst h
      rw [if_pos rfl]
      by_cases h2 : j = k
      · simp [sget, h2]
      · simp [sget, h2]
    · rw [if_neg h]
      simp only [sget]
      by_cases h2 : j = a
      · subst h2
        rw [if_pos rfl, if_pos rfl, if_neg (by omega)]
      · rw [if_neg h2, if_neg h2, ih]
def kvS (s : Secs) : List (Int × Value) := s.map fun p => (p.1, secV p.2)
theorem kget_kvS (s : Secs) (k : Int) : (kget (kvS s) k).getD (secV zs) = secV (sget s k) := by
  induction s with
  | nil => rfl
  | cons p s ih =>
    obtain ⟨a, b⟩ := p
    simp only [kvS, List.map_cons, kget, sget] at ih ⊢
    split
    · rfl
    · exact ih
theorem kput_kvS (s : Secs) (k : Int) (v : Sec) : kput (kvS s) k (secV v) = kvS (sput s k v) := by
  induction s with
  | nil => rfl
  | cons p s ih =>
    obtain ⟨a, b⟩ := p
    simp only [kvS, List.map_cons, kput, sput] at ih ⊢
    split
    · rfl
    · rw [ih]; rfl
def wcell (p : Int × Sec) : List Value := .int .i64 p.1 :: u8s p.2
def wflat (ws : Secs) : List Value := ws.flatMap wcell
def padS (b : List UInt8) : Sec := b ++ List.replicate (64 - b.length) 0
theorem padS_len {b : List UInt8} (h : b.length ≤ 64) : (padS b).length = 64 := by simp [padS]; omega
def Whole (s : Secs) : Prop := ∀ p ∈ s, p.2.length = 64
theorem wcell_len {p : Int × Sec} (h : p.2.length = 64) : (wcell p).length = 65 := by simp [wcell, u8s, h]
theorem wflat_get {ws : Secs} (h : Whole ws) {k : Nat} (hk : k < ws.length) : ((wflat ws).drop (k * 65)).take 65 = wcell ws[k] := by
  induction ws generalizing k with
  | nil => simp at hk
  | cons p ws ih =>
    have h1 := wcell_len (h p (by simp))
    simp only [wflat, List.flatMap_cons] at ih ⊢
    cases k with
    | zero =>
      simp only [Nat.zero_mul, List.drop_zero, List.getElem_cons_zero]
      rw [List.take_append_of_le_length (by omega), List.take_of_length_le (by omega)]
    | succ k =>
      rw [List.drop_append, List.drop_of_length_le (by omega), h1, show (k + 1) * 65 - 65 = k * 65 by omega, List.nil_append]
      simpa using ih (fun q hq => h q (by simp [hq])) (by simpa using hk)
theorem sget_whole {s : Secs} (h : Whole s) (k : Int) : (sget s k).length = 64 := by
  induction s with
  | nil => simp [sget, zs]
  | cons p s ih =>
    obtain ⟨a, b⟩ := p
    simp only [sget]
    split
    · exact h (a, b) (by simp)
    · exact ih fun q hq => h q (by simp [hq])
theorem Whole.put {s : Secs} (h : Whole s) (k : Int) {v : Sec} (hv : v.length = 64) : Whole (sput s k v) := by
  induction s with
  | nil => intro p hp; simp only [sput, List.mem_singleton] at hp; subst hp; exact hv
  | cons p s ih =>
    obtain ⟨a, b⟩ := p
    intro q hq
    simp only [sput] at hq
    split at hq
    · rcases List.mem_cons.1 hq with rfl | hq
      · exact hv
      · exact h q (by simp [hq])
    · rcases List.mem_cons.1 hq with rfl | hq
      · exact h (a, b) (by simp)
      · exact ih (fun q hq => h q (by simp [hq])) q hq
theorem Whole.add {s : Secs} (h : Whole s) (k : Int) {v : Sec} (hv : v.length = 64) : Whole (s ++ [(k, v)]) := fun p hp => by
  rcases List.mem_append.1 hp with hp | hp
  · exact h p hp
  · simp only [List.mem_singleton] at hp; subst hp; exact hv
section
variable {P : Program} {n : Nat} {D : List Deferred} {L : List (Nat × Value)} {S : World → Prop} {o : Oper}
theorem PV.mapNil {t t' k e m : TypeId} {x y : Operand} (ho : o.op = .binOp .eql t x y t') (hu : P.underlying t = some (.map k e)) (hx : evL L x = some (.map (some m))) (hy : evL L y = some (.map none)) : PV P n D L S o (.bool false) :=
  PV.bin ho hx hy fun w => by
    have e : (Op.equal t (.map (some m)) (.map none)).run P w = .ok false w := run_equalIn_map_nil w 9999 t k e (some m) hu
    simp [eqGuard, binOp, e]
end
end Dsk
namespace Dsk
open Go Leg Codec Api
theorem wr_pad {k : Int} {b : List UInt8} (h : b.length ≤ 64) : wr (.int .i64 k :: u8s zs) 1 ((u8s b).take (min b.length 64)) = wcell (k, padS b) := by
  have e : (u8s b).take (min b.length 64) = u8s b := List.take_of_length_le (by rw [u8s_length]; omega)
  rw [e, wr, u8s_length]
  have e2 : (Value.int IntKind.i64 k :: u8s zs).drop (1 + b.length) = u8s (List.replicate (64 - b.length) 0) := by
    rw [show 1 + b.length = b.length + 1 by omega, List.drop_succ_cons]
    rw [u8s, u8s, zs, ← List.map_drop, List.drop_replicate]
  rw [e2]
  simp only [wcell, padS, u8s, List.map_append, List.take_succ_cons, List.take_zero, List.cons_append, List.nil_append]
theorem fold_set (vs : List Value) : ∀ (j : Nat) (pre zeros : List Value), pre.length = j → zeros.length = vs.length →
    ((vs.zipIdx j).foldl (fun (cs : Array Value) (c, i) => cs.setIfInBounds (0 + i) c) (pre ++ zeros).toArray) = (pre ++ vs).toArray := by
  induction vs with
  | nil => intro j pre zeros _ h; rw [List.eq_nil_of_length_eq_zero h]; rfl
  | cons v vs ih =>
    intro j pre zeros hp hz
    match zeros, hz with
    | z :: zeros, hz =>
      rw [List.zipIdx_cons, List.foldl_cons]
      have e : (pre ++ z :: zeros).toArray.setIfInBounds (0 + j) v = ((pre ++ [v]) ++ zeros).toArray := by
        rw [Nat.zero_add, List.setIfInBounds_toArray, List.set_append_right _ _ (by omega), hp, Nat.sub_self, List.set_cons_zero, List.append_assoc]
        rfl
      simp only [e]
      rw [ih (j + 1) (pre ++ [v]) zeros (by simp [hp]) (by simpa using hz), List.append_assoc]
      rfl
theorem fill_whole {zeros : Array Value} {vs : List Value} (h : zeros.size = vs.length) : Instr.fill (fun i => some (i * vs.length, vs.length)) zeros [(0, .agg vs.toArray)] = some vs.toArray := by
  have e := fold_set vs 0 [] zeros.toList rfl (by simpa using h)
  simp only [List.nil_append, Array.toArray_toList] at e
  simp only [Instr.fill, Value.cells, List.size_toArray, Nat.zero_mul, Nat.zero_add, ne_eq, not_true_eq_false, false_or, decide_false, Bool.false_or]
  rw [if_neg (by simp [h])]
  rw [← Array.foldl_toList, Array.toList_zipIdx]
  simp only [Nat.zero_add] at e
  rw [e]
theorem fill_at {zeros : Array Value} {vs : List Value} {size : Nat} (h : vs.length = size) (hz : zeros.size = size) : Instr.fill (fun i => some (i * size, size)) zeros [(0, .agg vs.toArray)] = some vs.toArray := by
  subst h; exact fill_whole hz
theorem wcell_one (p : Int × Sec) : ∀ u ∈ wcell p, u.oneCell' = true := by
  intro u hu
  rcases List.mem_cons.1 hu with rfl | hu
  · rfl
  · exact u8s_one _ u hu
end Dsk
namespace Leg
open Go
section
variable {P : Program} {w0 : World} {F : Hl} {n : Nat} {ops : Array Oper} {Q : QQ} {D : List Deferred} {L : List (Nat × Value)} {H : List HP} {l : List Oper}
end
end Leg
namespace Dsk
open Go Leg Codec Api
def wat (ws : Secs) (k : Nat) : Int × Sec := ws.getD k (0, zs)
theorem wat_eq {ws : Secs} {k : Nat} (hk : k < ws.length) : wat ws k = ws[k] := by simp [wat, List.getD_eq_getElem?_getD, hk]
theorem wat_len {ws : Secs} (h : Whole ws) {k : Nat} (hk : k < ws.length) : (wat ws k).2.length = 64 := by rw [wat_eq hk]; exact h _ (List.getElem_mem hk)
theorem wflat_atN {ws : Secs} (h : Whole ws) {k : Nat} (hk : k < ws.length) : ((wflat ws).drop (k * 65)).take 65 = wcell (wat ws k) := by rw [wat_eq hk]; exact wflat_get h hk
theorem wflat_at0 {ws : Secs} (h : Whole ws) {k : Nat} (hk : k < ws.length) : (wflat ws)[k * 65]? = some (.int .i64 (wat ws k).1) := by
  have e := congrArg (fun l : List Value => l[0]?) (wflat_atN h hk)
  simpa [wcell] using e
theorem wflat_at1 {ws : Secs} (h : Whole ws) {k : Nat} (hk : k < ws.length) : ((wflat ws).drop (k * 65 + 1)).take 64 = u8s (wat ws k).2 := by
  have e := congrArg (fun l : List Value => l.drop 1) (wflat_atN h hk)
  simp only [List.drop_take, List.drop_drop, wcell, List.drop_succ_cons, List.drop_zero] at e
  exact e
theorem wcell_tail {p : Int × Sec} (h : p.2.length = 64) : ((wcell p).drop 1).take 64 = u8s p.2 := by
  simp only [wcell, List.drop_succ_cons, List.drop_zero]
  exact List.take_of_length_le (by rw [u8s_length, h]; exact Nat.le_refl _)
def layN (s ws : Secs) : Nat → Secs
  | 0 => s
  | k + 1 => sput (layN s ws k) (wat ws k).1 (wat ws k).2
theorem Whole.lay {s ws : Secs} (h : Whole s) (hw : Whole ws) : ∀ k, k ≤ ws.length → Whole (layN s ws k)
  | 0, _ => h
  | k + 1, hk => (Whole.lay h hw k (by omega)).put _ (wat_len hw (by omega))
def readN (s ws : Secs) (at' : Int) : Nat → Sec
  | 0 => sget s at'
  | k + 1 => if (wat ws k).1 = at' then (wat ws k).2 else readN s ws at' k
theorem readN_len {s ws : Secs} (h : Whole s) (hw : Whole ws) (at' : Int) : ∀ k, k ≤ ws.length → (readN s ws at' k).length = 64
  | 0, _ => sget_whole h _
  | k + 1, hk => by
    simp only [readN]
    split
    · exact wat_len hw (by omega)
    · exact readN_len h hw at' k (by omega)
theorem readN_hit {s ws : Secs} {at' : Int} {k : Nat} (h : (wat ws k).1 = at') : readN s ws at' (k + 1) = (wat ws k).2 := by simp [readN, h]
theorem readN_miss {s ws : Secs} {at' : Int} {k : Nat} (h : (wat ws k).1 ≠ at') : readN s ws at' (k + 1) = readN s ws at' k := by simp [readN, h]
structure DS where
  s : Secs
  ws : Secs
  ar : Bool
  lf : Int
  dn : Bool
structure DS.Ok (D : DS) : Prop where
  s : Whole D.s
  ws : Whole D.ws
  lf : 0 ≤ D.lf ∧ D.lf ≤ 9223372036854775807
def DS.new : DS := ⟨[], [], false, 0, false⟩
def DS.write (D : DS) (at' : Int) (bs : List UInt8) : Int × DS :=
  if at' < 0 ∨ 2048 ≤ at' ∨ 64 < bs.length then (5, D)
  else if D.dn = true ∨ (D.ar = true ∧ D.lf = 0) then (4, { D with dn := true })
  else (0, { D with ws := D.ws ++ [(at', padS bs)], lf := if D.ar = true then D.lf - 1 else D.lf, dn := false })
def DS.sync (D : DS) : Int × DS := if D.dn = true then (4, D) else (0, { D with s := layN D.s D.ws D.ws.length, ws := [] })
def DS.read (D : DS) (at' : Int) : Sec := readN D.s D.ws at' D.ws.length
theorem whole_nil : Whole [] := fun _ h => absurd h (by simp)
theorem DS.new_ok : DS.new.Ok := ⟨whole_nil, whole_nil, ⟨by decide, by decide⟩⟩
theorem DS.write_ok {D : DS} (h : D.Ok) (at' : Int) (bs : List UInt8) : (D.write at' bs).2.Ok := by
  unfold DS.write
  split
  · exact h
  · split
    · exact ⟨h.s, h.ws, h.lf⟩
    · rename_i h1 h2
      refine ⟨h.s, h.ws.add _ (padS_len (by omega)), ?_⟩
      have := h.lf
      show 0 ≤ (if D.ar = true then D.lf - 1 else D.lf) ∧ (if D.ar = true then D.lf - 1 else D.lf) ≤ 9223372036854775807
      split <;> rename_i h3
      · have : D.lf ≠ 0 := fun q => h2 (.inr ⟨h3, q⟩)
        exact ⟨by omega, by omega⟩
      · exact this
theorem DS.sync_ok {D : DS} (h : D.Ok) : D.sync.2.Ok := by
  unfold DS.sync
  split
  · exact h
  · exact ⟨h.s.lay h.ws _ (Nat.le_refl _), whole_nil, h.lf⟩
theorem DS.read_len {D : DS} (h : D.Ok) (at' : Int) : (D.read at').length = 64 := readN_len h.s h.ws _ _ (Nat.le_refl _)
theorem DS.write_ws {D : DS} {at' : Int} {bs : List UInt8} : (D.write at' bs).2.ws.length ≤ D.ws.length + 1 := by
  unfold DS.write
  split
  · simp
  · split
    · simp
    · simp
abbrev diskP (DT WT : Nat) (d : Nat) (D : DS) : HP := pack fun x : Nat × Value => [blkA d [.map (some x.1), x.2, .bool D.ar, .int .i64 D.lf, .bool D.dn] DT, mapP x.1 (kvS D.s), own x.2 D.ws.length (wflat D.ws) WT 65]
end Dsk
end
