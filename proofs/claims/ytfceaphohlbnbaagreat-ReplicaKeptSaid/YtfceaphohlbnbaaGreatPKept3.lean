/-
  Joined texts: what a statement's proof reaches.
-/
import Derived.OpenShut
import Derived.Deep.Slices
import Derived.ChangeArms
import Derived.WalkSpells
import Derived.Test.YtfceaphohlbnbaaGreatPKept2
section
namespace Go.Proofs.YtfceaphohlbnbaaGreat

open Go Leg Codec Api

set_option linter.unusedSimpArgs false
set_option linter.unusedVariables false

set_option maxRecDepth 100000

set_option maxHeartbeats 8000000

theorem bookMerge_does (b off T : Nat) (cs : BookT → List Value) (hA : Arnd cs (fun x => ints x.flat) off) (B : BookT) (who : Int) (x : RowT) (hx : WF x.flat) :
    Does Tryz.prog 20 #[(.pointer (some ⟨b, off, none⟩)), (.int .i64 (who)), (.agg (ints x.flat).toArray)] (fun _ => True) [blkA b (cs B) T] (Ret (fun r' H => r' = .bool (bookMerge B who x).2 ∧ H = [blkA b (cs (bookMerge B who x).1) T])) := by
  refine Does.body (vs := [(.pointer (some ⟨b, off, none⟩)), (.int .i64 (who)), (.agg (ints x.flat).toArray)]) (n := 33) Tryz.func20 rfl rfl rfl (fun w0 F hF => ?_)
  refine TC.seq (fun K1 hK1 => ?_)
  refine TC.region ?_
  refine TL.box (Want.plain rfl) rfl rfl rfl rfl (fun b5 => ?_)
  change TL _ _ _ _ _ _ _ _ _ [blkA b5 (ints x.flat) 48, blkA b (cs B) T]
  refine tp rfl rfl rfl (PV.assign rfl rfl) ?_
  refine TL.nil ?_
  refine TE.next hK1 ?_
  clear hK1
  refine TC.seq (fun K2 hK2 => ?_)
  refine TC.seq (fun K3 hK3 => ?_)
  refine TC.draw (fun w => Frm F w ∧ w.heap[b5]? = some (.cells (ints x.flat).toArray 48 (0, 0)) ∧ w.heap[b]? = some (.cells (cs B).toArray T (0, 0)) ∧ True) mixed rfl (fun _ s => ⟨Frm.of s, s.block 0 (lb rfl) rfl, s.block 1 (lb rfl) rfl, trivial⟩) ?_
  refine TD.take (i := 0) rfl (by kernel_rfl) (by kernel_rfl) (by kernel_rfl) (fun _ _ _ _ h => h) (Want.plain rfl) rfl rfl (PV.move rfl rfl) ?_
  refine TD.all [1] (by kernel_rfl) rfl ?_
  refine AllT.cons rfl ?_ ?_
  refine TL.callR (A := []) (B := [blkA b5 (ints x.flat) 48, blkA b (cs B) T]) (Want.plain rfl) rfl rfl rfl nm50 rfl (bookMachine_does who) (fun _ s => s) (fun _ _ _ => trivial) (fun vR HR hR => ?_)
  obtain ⟨rfl, rfl⟩ := hR
  change TL _ _ _ _ _ _ _ _ _ [blkA b5 (ints x.flat) 48, blkA b (cs B) T]
  refine TL.decB (fun h8 => ?_) (fun h8 => ?_)
  have hm : 0 ≤ who ∧ who < 5 := of_decide_eq_true h8
  have hrow : bookRow B who = B.rows[who.toNat]'(by omega) := by rw [bookRow, dif_pos h8]
  refine TL.nil ?_
  refine TE.draw (fun _ s => ⟨Frm.of s, s.block 0 (lb rfl) rfl, s.block 1 (lb rfl) rfl, trivial⟩) ?_
  refine TD.take (i := 2) rfl (by kernel_rfl) (by kernel_rfl) (by kernel_rfl) (fun _ _ _ _ h => h) (Want.plain rfl) rfl rfl (PV.not (r := false) rfl rfl rfl) ?_
  refine TD.take (i := 3) rfl (by kernel_rfl) (by kernel_rfl) (by kernel_rfl) (fun _ _ _ _ h => h) (Want.plain rfl) rfl rfl (PV.move rfl rfl) ?_
  refine TD.take (i := 4) rfl (by kernel_rfl) (by kernel_rfl) (by kernel_rfl) (fun _ _ _ _ h => h) (Want.met rfl rfl rfl) rfl rfl (PV.loadN (vs := ints x.flat) rfl Tryz.underlying48 rfl sz48 rfl (fun _ h => h.2.1) (RowT.len x) (whole (RowT.len x))) ?_
  refine TD.all [5] (by kernel_rfl) rfl ?_
  refine AllT.cons rfl ?_ ?_
  refine TL.callR (A := []) (B := [blkA b5 (ints x.flat) 48, blkA b (cs B) T]) (Want.met rfl rfl rfl) rfl rfl rfl nm33 rfl (rowRight_does x hx) (fun _ s => s) (fun _ _ _ => trivial) (fun vR HR hR => ?_)
  obtain ⟨rfl, rfl⟩ := hR
  change TL _ _ _ _ _ _ _ _ _ [blkA b5 (ints x.flat) 48, blkA b (cs B) T]
  refine TL.decB (fun h12 => ?_) (fun h12 => ?_)
  refine TL.nil ?_
  refine TE.draw (fun _ s => ⟨Frm.of s, s.block 0 (lb rfl) rfl, s.block 1 (lb rfl) rfl, trivial⟩) ?_
  refine TD.take (i := 6) rfl (by kernel_rfl) (by kernel_rfl) (by kernel_rfl) (fun _ _ _ _ h => h) (Want.met rfl rfl rfl) rfl rfl (PV.not (r := false) rfl rfl rfl) ?_
  refine TD.take (i := 7) rfl (by kernel_rfl) (by kernel_rfl) (by kernel_rfl) (fun _ _ _ _ h => h) (Want.plain rfl) rfl rfl (PV.pick rfl rfl rfl) ?_
  refine TD.take (i := 8) rfl (by kernel_rfl) (by kernel_rfl) (by kernel_rfl) (fun _ _ _ _ h => h) (Want.plain rfl) rfl rfl (PV.move rfl rfl) ?_
  refine TD.take (i := 9) rfl (by kernel_rfl) (by kernel_rfl) (by kernel_rfl) (fun _ _ _ _ h => h) (Want.met rfl rfl rfl) rfl rfl (PV.fieldAddr (r := 0) rfl Tryz.underlying48 rfl sz3 rfl rfl) ?_
  refine TD.take (i := 10) rfl (by kernel_rfl) (by kernel_rfl) (by kernel_rfl) (fun _ _ _ _ h => h) (Want.met rfl rfl rfl) rfl rfl (PV.load1 (v := (.int .i64 (x.version))) rfl Tryz.underlying3 rfl rfl (fun _ h => h.2.1) (RowT.at_version x rfl)) ?_
  refine TD.take (i := 11) rfl (by kernel_rfl) (by kernel_rfl) (by kernel_rfl) (fun _ _ _ _ h => h) (Want.met rfl rfl rfl) rfl rfl (PV.move rfl rfl) ?_
  refine TD.take (i := 12) rfl (by kernel_rfl) (by kernel_rfl) (by kernel_rfl) (fun _ _ _ _ h => h) (Want.met rfl rfl rfl) rfl rfl (PV.move rfl rfl) ?_
  refine TD.take (i := 13) rfl (by kernel_rfl) (by kernel_rfl) (by kernel_rfl) (fun _ _ _ _ h => h) (Want.met rfl rfl rfl) rfl rfl (PV.nilCheck rfl rfl) ?_
  refine TD.take (i := 14) rfl (by kernel_rfl) (by kernel_rfl) (by kernel_rfl) (fun _ _ _ _ h => h) (Want.met rfl rfl rfl) rfl rfl (PV.fieldAddr (r := off) rfl Tryz.underlying71 rfl sz69 rfl rfl) ?_
  refine TD.take (i := 15) rfl (by kernel_rfl) (by kernel_rfl) (by kernel_rfl) (fun _ _ _ _ h => h) (Want.met rfl rfl rfl) rfl rfl (PV.indexArr (r := off + who.toNat * 174) rfl Tryz.underlying69 sz48 rfl rfl (by omega) (by omega) (by omega)) ?_
  refine TD.take (i := 16) rfl (by kernel_rfl) (by kernel_rfl) (by kernel_rfl) (fun _ _ _ _ h => h) (Want.met rfl rfl rfl) rfl rfl (PV.fieldAddr (r := off + who.toNat * 174) rfl Tryz.underlying48 rfl sz3 rfl rfl) ?_
  refine TD.take (i := 17) rfl (by kernel_rfl) (by kernel_rfl) (by kernel_rfl) (fun _ _ _ _ h => h) (Want.met rfl rfl rfl) rfl rfl (PV.load1 (v := (.int .i64 ((B.rows[who.toNat]'(by omega)).version))) rfl Tryz.underlying3 rfl rfl (fun _ h => h.2.2.1) (Arnd.at hA (j := who.toNat * 174) (by omega) (by have h0 := (BookT.len B); omega) (BookT.pt_rows B (who.toNat * 174) (by omega) (by omega) (vs_pt RowT.flat_length B.rows (i := who.toNat) 0 (by omega) (by omega) (by decide) (RowT.at_version (B.rows[who.toNat]'(by omega)) rfl))))) ?_
  refine TD.take (i := 18) rfl (by kernel_rfl) (by kernel_rfl) (by kernel_rfl) (fun _ _ _ _ h => h) (Want.met rfl rfl rfl) rfl rfl (PV.leq rfl rfl rfl) ?_
  refine TD.dec (fun h25 => ?_) (fun h25 => ?_)
  refine TD.take (i := 19) rfl (by kernel_rfl) (by kernel_rfl) (by kernel_rfl) (fun _ _ _ _ h => h) (Want.plain rfl) rfl rfl (PV.pick rfl rfl rfl) ?_
  refine TD.done (by kernel_rfl) ?_
  refine TE.next hK3 ?_
  clear hK3
  refine TC.yes rfl ?_
  refine TC.seq (fun K4 hK4 => ?_)
  refine TC.region ?_
  refine tp rfl rfl rfl (PV.assign rfl rfl) ?_
  refine TL.nil ?_
  refine TE.next hK4 ?_
  clear hK4
  refine TC.ret ?_
  refine TE.passRet ?_
  clear hK2
  refine TE.weak (Sub.refl _) (fun _ s => sep_keep [1] rfl s) ?_
  refine TE.ret1 rfl rfl ?_
  have e : bookMerge B who x = (B, false) := by rw [bookMerge, if_neg (fun h => by simp only [Bool.and_eq_true, decide_eq_true_iff] at h; rw [hrow] at h; omega)]
  exact ⟨by rw [e], by rw [e]; rfl⟩
  refine TD.take (i := 19) rfl (by kernel_rfl) (by kernel_rfl) (by kernel_rfl) (fun _ _ _ _ h => h) (Want.plain rfl) rfl rfl (PV.pick rfl rfl rfl) ?_
  refine TD.done (by kernel_rfl) ?_
  refine TE.next hK3 ?_
  clear hK3
  refine TC.no rfl ?_
  refine TC.skip ?_
  refine TE.next hK2 ?_
  clear hK2
  refine TC.seq (fun K5 hK5 => ?_)
  refine TC.draw (fun w => Frm F w ∧ w.heap[b5]? = some (.cells (ints x.flat).toArray 48 (0, 0)) ∧ True) mixed rfl (fun _ s => ⟨Frm.of s, s.block 0 (lb rfl) rfl, trivial⟩) ?_
  refine TD.take (i := 0) rfl (by kernel_rfl) (by kernel_rfl) (by kernel_rfl) (fun _ _ _ _ h => h) (Want.plain rfl) rfl rfl (PV.move rfl rfl) ?_
  refine TD.take (i := 1) rfl (by kernel_rfl) (by kernel_rfl) (by kernel_rfl) (fun _ _ _ _ h => h) (Want.plain rfl) rfl rfl (PV.move rfl rfl) ?_
  refine TD.take (i := 2) rfl (by kernel_rfl) (by kernel_rfl) (by kernel_rfl) (fun _ _ _ _ h => h) (Want.plain rfl) rfl rfl (PV.loadN (vs := ints x.flat) rfl Tryz.underlying48 rfl sz48 rfl (fun _ h => h.2.1) (RowT.len x) (whole (RowT.len x))) ?_
  refine TD.take (i := 3) rfl (by kernel_rfl) (by kernel_rfl) (by kernel_rfl) (fun _ _ _ _ h => h) (Want.plain rfl) rfl rfl (PV.nilCheck rfl rfl) ?_
  refine TD.take (i := 4) rfl (by kernel_rfl) (by kernel_rfl) (by kernel_rfl) (fun _ _ _ _ h => h) (Want.plain rfl) rfl rfl (PV.fieldAddr (r := off) rfl Tryz.underlying71 rfl sz69 rfl rfl) ?_
  refine TD.take (i := 5) rfl (by kernel_rfl) (by kernel_rfl) (by kernel_rfl) (fun _ _ _ _ h => h) (Want.plain rfl) rfl rfl (PV.indexArr (r := off + who.toNat * 174) rfl Tryz.underlying69 sz48 rfl rfl (by omega) (by omega) (by omega)) ?_
  refine TD.all [6] (by kernel_rfl) rfl ?_
  refine AllT.cons rfl ?_ ?_
  refine TL.store (vs := ints x.flat) (i := 1) (H' := [blkA b5 (ints x.flat) 48, blkA b (cs (BookT.mk (B.rows.set who.toNat x (by omega)))) T]) (Want.plain rfl) rfl rfl rfl rfl rfl (by rw [(RowT.len x)]; exact sz48) (ints_one _) rfl rfl (by have h0 := (BookT.len B); have h2 := Arnd.le hA B; have h1 := (RowT.len x); omega) (Arnd.wr hA (x := B) (x' := (BookT.mk (B.rows.set who.toNat x (by omega)))) (j := who.toNat * 174) (by omega) (by have h0 := (BookT.len B); have h1 := (RowT.len x); omega) (BookT.wr_rows_ B (who.toNat * 174) (by omega) (by have h1 := (RowT.len x); omega) (vs_wr RowT.flat_length B.rows (i := who.toNat) 0 (by omega) (by omega) (by have h1 := (RowT.len x); omega) (wwhole ((RowT.len (B.rows[who.toNat]'(by omega))).trans (RowT.len x).symm))))) rfl ?_
  refine TL.nil ?_
  refine TE.draw (fun _ s => ⟨Frm.of s, s.block 0 (lb rfl) rfl, trivial⟩) ?_
  refine TD.done (by kernel_rfl) ?_
  refine TE.next hK5 ?_
  clear hK5
  refine TC.seq (fun K6 hK6 => ?_)
  refine TC.region ?_
  refine tp rfl rfl rfl (PV.assign rfl rfl) ?_
  refine TL.nil ?_
  refine TE.next hK6 ?_
  clear hK6
  refine TC.ret ?_
  refine TE.weak (Sub.refl _) (fun _ s => sep_keep [1] rfl s) ?_
  refine TE.ret1 rfl rfl ?_
  have e : bookMerge B who x = (putRow B who x, true) := by rw [bookMerge, if_pos (by simp only [Bool.and_eq_true, decide_eq_true_iff, hrow]; exact ⟨⟨h8, h12⟩, by omega⟩)]
  exact ⟨by rw [e], by rw [e, putRow, dif_pos h8]; rfl⟩
  exact AllT.nil
  refine TL.nil ?_
  refine TE.draw (fun _ s => ⟨Frm.of s, s.block 0 (lb rfl) rfl, s.block 1 (lb rfl) rfl, trivial⟩) ?_
  refine TD.take (i := 6) rfl (by kernel_rfl) (by kernel_rfl) (by kernel_rfl) (fun _ _ _ _ h => h) (Want.met rfl rfl rfl) rfl rfl (PV.not (r := true) rfl rfl rfl) ?_
  refine TD.take (i := 7) rfl (by kernel_rfl) (by kernel_rfl) (by kernel_rfl) (fun _ _ _ _ h => h) (Want.plain rfl) rfl rfl (PV.pick rfl rfl rfl) ?_
  refine TD.take (i := 8) rfl (by kernel_rfl) (by kernel_rfl) (by kernel_rfl) (fun _ _ _ _ h => h) (Want.plain rfl) rfl rfl (PV.move rfl rfl) ?_
  refine TD.takeNot (i := 9) (b := true) rfl (by kernel_rfl) (by kernel_rfl) (by kernel_rfl) (fun _ _ _ _ h => h) rfl rfl rfl rfl rfl ?_
  refine TD.takeNot (i := 10) (b := true) rfl (by kernel_rfl) (by kernel_rfl) (by kernel_rfl) (fun _ _ _ _ h => h) rfl rfl rfl rfl rfl ?_
  refine TD.takeNot (i := 11) (b := true) rfl (by kernel_rfl) (by kernel_rfl) (by kernel_rfl) (fun _ _ _ _ h => h) rfl rfl rfl rfl rfl ?_
  refine TD.takeNot (i := 12) (b := true) rfl (by kernel_rfl) (by kernel_rfl) (by kernel_rfl) (fun _ _ _ _ h => h) rfl rfl rfl rfl rfl ?_
  refine TD.takeNot (i := 13) (b := true) rfl (by kernel_rfl) (by kernel_rfl) (by kernel_rfl) (fun _ _ _ _ h => h) rfl rfl rfl rfl rfl ?_
  refine TD.takeNot (i := 14) (b := true) rfl (by kernel_rfl) (by kernel_rfl) (by kernel_rfl) (fun _ _ _ _ h => h) rfl rfl rfl rfl rfl ?_
  refine TD.takeNot (i := 15) (b := true) rfl (by kernel_rfl) (by kernel_rfl) (by kernel_rfl) (fun _ _ _ _ h => h) rfl rfl rfl rfl rfl ?_
  refine TD.takeNot (i := 16) (b := true) rfl (by kernel_rfl) (by kernel_rfl) (by kernel_rfl) (fun _ _ _ _ h => h) rfl rfl rfl rfl rfl ?_
  refine TD.takeNot (i := 17) (b := true) rfl (by kernel_rfl) (by kernel_rfl) (by kernel_rfl) (fun _ _ _ _ h => h) rfl rfl rfl rfl rfl ?_
  refine TD.takeNot (i := 18) (b := true) rfl (by kernel_rfl) (by kernel_rfl) (by kernel_rfl) (fun _ _ _ _ h => h) rfl rfl rfl rfl rfl ?_
  refine TD.take (i := 19) rfl (by kernel_rfl) (by kernel_rfl) (by kernel_rfl) (fun _ _ _ _ h => h) (Want.plain rfl) rfl rfl (PV.pick rfl rfl rfl) ?_
  refine TD.done (by kernel_rfl) ?_
  refine TE.next hK3 ?_
  clear hK3
  refine TC.yes rfl ?_
  refine TC.seq (fun K7 hK7 => ?_)
  refine TC.region ?_
  refine tp rfl rfl rfl (PV.assign rfl rfl) ?_
  refine TL.nil ?_
  refine TE.next hK7 ?_
  clear hK7
  refine TC.ret ?_
  refine TE.passRet ?_
  clear hK2
  refine TE.weak (Sub.refl _) (fun _ s => sep_keep [1] rfl s) ?_
  refine TE.ret1 rfl rfl ?_
  have e : bookMerge B who x = (B, false) := by rw [bookMerge, if_neg (fun h => by simp only [Bool.and_eq_true, decide_eq_true_iff] at h; rw [h12] at h; exact absurd h.1.2 (by decide))]
  exact ⟨by rw [e], by rw [e]; rfl⟩
  exact AllT.nil
  refine TL.nil ?_
  refine TE.draw (fun _ s => ⟨Frm.of s, s.block 0 (lb rfl) rfl, s.block 1 (lb rfl) rfl, trivial⟩) ?_
  refine TD.take (i := 2) rfl (by kernel_rfl) (by kernel_rfl) (by kernel_rfl) (fun _ _ _ _ h => h) (Want.plain rfl) rfl rfl (PV.not (r := true) rfl rfl rfl) ?_
  refine TD.take (i := 3) rfl (by kernel_rfl) (by kernel_rfl) (by kernel_rfl) (fun _ _ _ _ h => h) (Want.plain rfl) rfl rfl (PV.move rfl rfl) ?_
  refine TD.takeNot (i := 4) (b := true) rfl (by kernel_rfl) (by kernel_rfl) (by kernel_rfl) (fun _ _ _ _ h => h) rfl rfl rfl rfl rfl ?_
  refine TD.takeNot (i := 5) (b := true) rfl (by kernel_rfl) (by kernel_rfl) (by kernel_rfl) (fun _ _ _ _ h => h) rfl rfl rfl rfl rfl ?_
  refine TD.takeNot (i := 6) (b := true) rfl (by kernel_rfl) (by kernel_rfl) (by kernel_rfl) (fun _ _ _ _ h => h) rfl rfl rfl rfl rfl ?_
  refine TD.take (i := 7) rfl (by kernel_rfl) (by kernel_rfl) (by kernel_rfl) (fun _ _ _ _ h => h) (Want.plain rfl) rfl rfl (PV.pick rfl rfl rfl) ?_
  refine TD.take (i := 8) rfl (by kernel_rfl) (by kernel_rfl) (by kernel_rfl) (fun _ _ _ _ h => h) (Want.plain rfl) rfl rfl (PV.move rfl rfl) ?_
  refine TD.takeNot (i := 9) (b := true) rfl (by kernel_rfl) (by kernel_rfl) (by kernel_rfl) (fun _ _ _ _ h => h) rfl rfl rfl rfl rfl ?_
  refine TD.takeNot (i := 10) (b := true) rfl (by kernel_rfl) (by kernel_rfl) (by kernel_rfl) (fun _ _ _ _ h => h) rfl rfl rfl rfl rfl ?_
  refine TD.takeNot (i := 11) (b := true) rfl (by kernel_rfl) (by kernel_rfl) (by kernel_rfl) (fun _ _ _ _ h => h) rfl rfl rfl rfl rfl ?_
  refine TD.takeNot (i := 12) (b := true) rfl (by kernel_rfl) (by kernel_rfl) (by kernel_rfl) (fun _ _ _ _ h => h) rfl rfl rfl rfl rfl ?_
  refine TD.takeNot (i := 13) (b := true) rfl (by kernel_rfl) (by kernel_rfl) (by kernel_rfl) (fun _ _ _ _ h => h) rfl rfl rfl rfl rfl ?_
  refine TD.takeNot (i := 14) (b := true) rfl (by kernel_rfl) (by kernel_rfl) (by kernel_rfl) (fun _ _ _ _ h => h) rfl rfl rfl rfl rfl ?_
  refine TD.takeNot (i := 15) (b := true) rfl (by kernel_rfl) (by kernel_rfl) (by kernel_rfl) (fun _ _ _ _ h => h) rfl rfl rfl rfl rfl ?_
  refine TD.takeNot (i := 16) (b := true) rfl (by kernel_rfl) (by kernel_rfl) (by kernel_rfl) (fun _ _ _ _ h => h) rfl rfl rfl rfl rfl ?_
  refine TD.takeNot (i := 17) (b := true) rfl (by kernel_rfl) (by kernel_rfl) (by kernel_rfl) (fun _ _ _ _ h => h) rfl rfl rfl rfl rfl ?_
  refine TD.takeNot (i := 18) (b := true) rfl (by kernel_rfl) (by kernel_rfl) (by kernel_rfl) (fun _ _ _ _ h => h) rfl rfl rfl rfl rfl ?_
  refine TD.take (i := 19) rfl (by kernel_rfl) (by kernel_rfl) (by kernel_rfl) (fun _ _ _ _ h => h) (Want.plain rfl) rfl rfl (PV.pick rfl rfl rfl) ?_
  refine TD.done (by kernel_rfl) ?_
  refine TE.next hK3 ?_
  clear hK3
  refine TC.yes rfl ?_
  refine TC.seq (fun K8 hK8 => ?_)
  refine TC.region ?_
  refine tp rfl rfl rfl (PV.assign rfl rfl) ?_
  refine TL.nil ?_
  refine TE.next hK8 ?_
  clear hK8
  refine TC.ret ?_
  refine TE.passRet ?_
  clear hK2
  refine TE.weak (Sub.refl _) (fun _ s => sep_keep [1] rfl s) ?_
  refine TE.ret1 rfl rfl ?_
  have e : bookMerge B who x = (B, false) := by rw [bookMerge, if_neg (fun h => by simp only [Bool.and_eq_true, decide_eq_true_iff] at h; rw [h8] at h; exact absurd h.1.1 (by decide))]
  exact ⟨by rw [e], by rw [e]; rfl⟩
  exact AllT.nil
theorem bookCell_does (b off T : Nat) (cs : BookT → List Value) (hA : Arnd cs (fun x => ints x.flat) off) (B : BookT) (of' key : Int) :
    Does Tryz.prog 51 #[(.pointer (some ⟨b, off, none⟩)), (.int .i64 (of')), (.int .i64 (key))] (fun _ => True) [blkA b (cs B) T] (Ret (fun r' H => r' = .agg (ints (bookCell B of' key).flat).toArray ∧ H = [blkA b (cs B) T])) := by
  refine Does.body (vs := [(.pointer (some ⟨b, off, none⟩)), (.int .i64 (of')), (.int .i64 (key))]) (n := 35) Tryz.func51 rfl rfl rfl (fun w0 F hF => ?_)
  refine TC.seq (fun K1 hK1 => ?_)
  refine TC.region ?_
  refine TL.alloc (Want.plain rfl) rfl rfl rfl z44 (fun b6 => ?_)
  change TL _ _ _ _ _ _ _ _ _ [blkA b6 (ints CellT.zero.flat) 44, blkA b (cs B) T]
  refine TL.nil ?_
  refine TE.next hK1 ?_
  clear hK1
  refine TC.seq (fun K2 hK2 => ?_)
  refine TC.region ?_
  refine TL.alloc (Want.plain rfl) rfl rfl rfl z44 (fun b7 => ?_)
  change TL _ _ _ _ _ _ _ _ _ [blkA b7 (ints CellT.zero.flat) 44, blkA b6 (ints CellT.zero.flat) 44, blkA b (cs B) T]
  refine TL.nil ?_
  refine TE.next hK2 ?_
  clear hK2
  refine TC.seq (fun K3 hK3 => ?_)
  refine TC.region ?_
  refine tp rfl rfl rfl (PV.assign rfl rfl) ?_
  refine TL.nil ?_
  refine TE.next hK3 ?_
  clear hK3
  refine TC.seq (fun K4 hK4 => ?_)
  refine TC.seq (fun K5 hK5 => ?_)
  refine TC.region ?_
  refine tp rfl rfl rfl (PV.move rfl rfl) ?_
  refine TL.nil ?_
  refine TE.next hK5 ?_
  clear hK5
  refine TC.block ?_
  refine TC.loop (α := (Nat) × (CellT) × (Int)) (fun ⟨k, c, n⟩ => k ≤ 5 ∧ (c, n) = bookTo B of' key k) (fun ⟨k, c, n⟩ => [(0, (.pointer (some ⟨b, off, none⟩))), (1, (.int .i64 (of'))), (2, (.int .i64 (key))), (6, (.pointer (some ⟨b6, 0, none⟩))), (7, (.pointer (some ⟨b7, 0, none⟩))), (8, (.int .i64 (n))), (12, (.int .i64 (((k : Nat) : Int))))]) (fun ⟨k, c, n⟩ => [blkA b7 (ints c.flat) 44, blkA b6 (ints CellT.zero.flat) 44, blkA b (cs B) T]) (fun ⟨k, c, n⟩ => 5 - k) (0, CellT.zero, -1)
      ⟨Nat.zero_le _, rfl⟩ (Sub.r (Sub.r (Sub.r (Sub.r (Sub.r (Sub.cons rfl (by congr 1) (Sub.cons rfl (by congr 1) (Sub.nil _))))))))
      (fun _ s => s) (fun ⟨k, c, n⟩ hinv => ?_)
  obtain ⟨hk, hc⟩ := hinv
  refine TC.seq (fun K6 hK6 => ?_)
  refine TC.region ?_
  refine tp rfl rfl rfl (PV.lss rfl rfl rfl) ?_
  refine TL.dec (fun h13 => ?_) (fun h13 => ?_)
  refine TL.nil ?_
  refine TE.next hK6 ?_
  clear hK6
  refine TC.seq (fun K7 hK7 => ?_)
  refine TC.yes rfl ?_
  refine TC.skip ?_
  refine TE.next hK7 ?_
  clear hK7
  refine TC.seq (fun K8 hK8 => ?_)
  refine TC.block ?_
  refine TC.seq (fun K9 hK9 => ?_)
  refine TC.region ?_
  refine tp rfl rfl rfl (PV.move rfl rfl) ?_
  refine tp rfl rfl rfl (PV.assign rfl rfl) ?_
  refine TL.nil ?_
  refine TE.next hK9 ?_
  clear hK9
  refine TC.seq (fun K10 hK10 => ?_)
  refine TC.region ?_
  refine tp rfl rfl rfl (PV.move rfl rfl) ?_
  refine tp rfl rfl rfl (PV.move rfl rfl) ?_
  refine tp rfl rfl rfl (PV.nilCheck rfl rfl) ?_
  refine tp rfl rfl rfl (PV.fieldAddr (r := off) rfl Tryz.underlying71 rfl sz69 rfl rfl) ?_
  refine tp rfl rfl rfl (PV.indexArr (r := off + k * 174) rfl Tryz.underlying69 sz48 rfl rfl (by omega) (by omega) (by omega)) ?_
  refine tp rfl rfl rfl (PV.loadN (vs := ints (B.rows[k]'(by omega)).flat) rfl Tryz.underlying48 rfl sz48 rfl (Rd.own 2 rfl rfl) (RowT.len (B.rows[k]'(by omega))) (Arnd.sub hA (j := k * 174) (by omega) (by have h0 := (BookT.len B); omega) (BookT.sub_rows B (k * 174) (by omega) (by omega) (vs_sub RowT.flat_length B.rows (i := k) 0 (by omega) (by omega) (by decide) (whole (RowT.len (B.rows[k]'(by omega)))))))) ?_
  refine tp rfl rfl rfl (PV.move rfl rfl) ?_
  refine tp rfl rfl rfl (PV.move rfl rfl) ?_
  refine tp rfl rfl rfl (PV.move rfl rfl) ?_
  refine TL.callR (A := []) (B := [blkA b7 (ints c.flat) 44, blkA b6 (ints CellT.zero.flat) 44, blkA b (cs B) T]) (Want.plain rfl) rfl rfl rfl nm87 rfl (rowCell_does (B.rows[k]'(by omega)) ((k : Nat) : Int) of' key) (fun _ s => s) (fun _ _ _ => trivial) (fun vR HR hR => ?_)
  obtain ⟨rfl, rfl⟩ := hR
  change TL _ _ _ _ _ _ _ _ _ [blkA b7 (ints c.flat) 44, blkA b6 (ints CellT.zero.flat) 44, blkA b (cs B) T]
  refine tp rfl rfl rfl (PV.move rfl rfl) ?_
  refine tp rfl rfl rfl (PV.extract (vs := [(.agg (ints ((rowCell (B.rows[k]'(by omega)) ((k : Nat) : Int) of' key).1).flat).toArray), (.int .i64 ((rowCell (B.rows[k]'(by omega)) ((k : Nat) : Int) of' key).2))]) rfl rfl rfl) ?_
  refine tp rfl rfl rfl (PV.extract (vs := [(.agg (ints ((rowCell (B.rows[k]'(by omega)) ((k : Nat) : Int) of' key).1).flat).toArray), (.int .i64 ((rowCell (B.rows[k]'(by omega)) ((k : Nat) : Int) of' key).2))]) rfl rfl rfl) ?_
  refine TL.alloc (Want.plain rfl) rfl rfl rfl z44 (fun b10 => ?_)
  change TL _ _ _ _ _ _ _ _ _ [blkA b10 (ints CellT.zero.flat) 44, blkA b7 (ints c.flat) 44, blkA b6 (ints CellT.zero.flat) 44, blkA b (cs B) T]
  refine TL.store (vs := ints ((rowCell (B.rows[k]'(by omega)) ((k : Nat) : Int) of' key).1).flat) (i := 0) (H' := [blkA b10 (ints ((rowCell (B.rows[k]'(by omega)) ((k : Nat) : Int) of' key).1).flat) 44, blkA b7 (ints c.flat) 44, blkA b6 (ints CellT.zero.flat) 44, blkA b (cs B) T]) (Want.plain rfl) rfl rfl rfl rfl rfl (by rw [(CellT.len ((rowCell (B.rows[k]'(by omega)) ((k : Nat) : Int) of' key).1))]; exact sz44) (ints_one _) rfl rfl (by have h0 := (CellT.len CellT.zero); have h1 := (CellT.len ((rowCell (B.rows[k]'(by omega)) ((k : Nat) : Int) of' key).1)); omega) (wwhole ((CellT.len CellT.zero).trans (CellT.len ((rowCell (B.rows[k]'(by omega)) ((k : Nat) : Int) of' key).1)).symm)) rfl ?_
  refine tp rfl rfl rfl (PV.assign rfl rfl) ?_
  refine TL.nil ?_
  refine TE.next hK10 ?_
  clear hK10
  refine TC.seq (fun K11 hK11 => ?_)
  refine TC.region ?_
  refine tp rfl rfl rfl (PV.move rfl rfl) ?_
  refine tp rfl rfl rfl (PV.move rfl rfl) ?_
  refine tp rfl rfl rfl (PV.gtr rfl rfl rfl) ?_
  refine TL.dec (fun h30 => ?_) (fun h30 => ?_)
  refine TL.nil ?_
  refine TE.next hK11 ?_
  clear hK11
  refine TC.yes rfl ?_
  refine TC.region ?_
  refine tp rfl rfl rfl (PV.loadN (vs := ints ((rowCell (B.rows[k]'(by omega)) ((k : Nat) : Int) of' key).1).flat) rfl Tryz.underlying44 rfl sz44 rfl (Rd.own 0 rfl rfl) (CellT.len ((rowCell (B.rows[k]'(by omega)) ((k : Nat) : Int) of' key).1)) (whole (CellT.len ((rowCell (B.rows[k]'(by omega)) ((k : Nat) : Int) of' key).1)))) ?_
  refine tp rfl rfl rfl (PV.move rfl rfl) ?_
  refine TL.store (vs := ints ((rowCell (B.rows[k]'(by omega)) ((k : Nat) : Int) of' key).1).flat) (i := 1) (H' := [blkA b10 (ints ((rowCell (B.rows[k]'(by omega)) ((k : Nat) : Int) of' key).1).flat) 44, blkA b7 (ints ((rowCell (B.rows[k]'(by omega)) ((k : Nat) : Int) of' key).1).flat) 44, blkA b6 (ints CellT.zero.flat) 44, blkA b (cs B) T]) (Want.plain rfl) rfl rfl rfl rfl rfl (by rw [(CellT.len ((rowCell (B.rows[k]'(by omega)) ((k : Nat) : Int) of' key).1))]; exact sz44) (ints_one _) rfl rfl (by have h0 := (CellT.len c); have h1 := (CellT.len ((rowCell (B.rows[k]'(by omega)) ((k : Nat) : Int) of' key).1)); omega) (wwhole ((CellT.len c).trans (CellT.len ((rowCell (B.rows[k]'(by omega)) ((k : Nat) : Int) of' key).1)).symm)) rfl ?_
  refine tp rfl rfl rfl (PV.assign rfl rfl) ?_
  refine TL.nil ?_
  refine TE.blockEnd ?_
  refine TE.next hK8 ?_
  clear hK8
  refine TC.region ?_
  refine tp rfl rfl rfl (PV.add rfl rfl rfl (wrap_i64 (by omega) (by omega))) ?_
  refine tp rfl rfl rfl (PV.move rfl rfl) ?_
  refine TL.nil ?_
  exact TE.round ((k + 1, (rowCell (B.rows[k]'(by omega)) ((k : Nat) : Int) of' key).1, (rowCell (B.rows[k]'(by omega)) ((k : Nat) : Int) of' key).2) : (Nat) × (CellT) × (Int)) ⟨by omega, by rw [bookTo_succ, ← hc, bookStep, bookRow_at B (by omega)]; simp [h30]⟩ (by show 5 - (k + 1) < 5 - k; omega)
    (Sub.r (Sub.r (Sub.r (Sub.r (Sub.r (Sub.r (Sub.cons rfl (by simp) (Sub.nil _))))))))
    (fun _ s => sep_keep [1, 1, 1] rfl s)
  refine TL.nil ?_
  refine TE.next hK11 ?_
  clear hK11
  refine TC.no rfl ?_
  refine TC.skip ?_
  refine TE.blockEnd ?_
  refine TE.next hK8 ?_
  clear hK8
  refine TC.region ?_
  refine tp rfl rfl rfl (PV.add rfl rfl rfl (wrap_i64 (by omega) (by omega))) ?_
  refine tp rfl rfl rfl (PV.move rfl rfl) ?_
  refine TL.nil ?_
  exact TE.round ((k + 1, c, n) : (Nat) × (CellT) × (Int)) ⟨by omega, by rw [bookTo_succ, ← hc, bookStep, bookRow_at B (by omega)]; simp [h30]⟩ (by show 5 - (k + 1) < 5 - k; omega)
    (Sub.r (Sub.r (Sub.r (Sub.r (Sub.r (Sub.r (Sub.cons rfl (by simp) (Sub.nil _))))))))
    (fun _ s => sep_keep [1, 1, 1] rfl s)
  refine TL.nil ?_
  refine TE.next hK6 ?_
  clear hK6
  refine TC.seq (fun K12 hK12 => ?_)
  refine TC.no rfl ?_
  refine TC.exit ?_
  refine TE.pass ?_
  clear hK12
  refine TE.pass ?_
  refine TE.hit ?_
  refine TE.next hK4 ?_
  clear hK4
  refine TC.seq (fun K13 hK13 => ?_)
  refine TC.region ?_
  refine tp rfl rfl rfl (PV.loadN (vs := ints c.flat) rfl Tryz.underlying44 rfl sz44 rfl (Rd.own 0 rfl rfl) (CellT.len c) (whole (CellT.len c))) ?_
  refine TL.store (vs := ints c.flat) (i := 1) (H' := [blkA b7 (ints c.flat) 44, blkA b6 (ints c.flat) 44, blkA b (cs B) T]) (Want.plain rfl) rfl rfl rfl rfl rfl (by rw [(CellT.len c)]; exact sz44) (ints_one _) rfl rfl (by have h0 := (CellT.len CellT.zero); have h1 := (CellT.len c); omega) (wwhole ((CellT.len CellT.zero).trans (CellT.len c).symm)) rfl ?_
  refine TL.nil ?_
  refine TE.next hK13 ?_
  clear hK13
  refine TC.ret ?_
  refine TE.retC (H' := [blkA b (cs B) T]) rfl rfl Tryz.underlying44 rfl sz44 (Rd.own 1 rfl rfl) (CellT.len c) (fun _ s => sep_keep [2] rfl s) ?_
  obtain rfl : k = 5 := by omega
  exact ⟨by rw [bookCell, ← hc], rfl⟩
theorem bookValue_does (b off T : Nat) (cs : BookT → List Value) (hA : Arnd cs (fun x => ints x.flat) off) (B : BookT) (key : Int) :
    Does Tryz.prog 22 #[(.pointer (some ⟨b, off, none⟩)), (.int .i64 (key))] (fun _ => True) [blkA b (cs B) T] (Ret (fun r' H => r' = .int .i64 (bookValue B key) ∧ H = [blkA b (cs B) T])) := by
  refine Does.body (vs := [(.pointer (some ⟨b, off, none⟩)), (.int .i64 (key))]) (n := 24) Tryz.func22 rfl rfl rfl (fun w0 F hF => ?_)
  refine TC.seq (fun K1 hK1 => ?_)
  refine TC.region ?_
  refine tp rfl rfl rfl (PV.assign rfl rfl) ?_
  refine TL.nil ?_
  refine TE.next hK1 ?_
  clear hK1
  refine TC.seq (fun K2 hK2 => ?_)
  refine TC.region ?_
  refine tp rfl rfl rfl (PV.assign rfl rfl) ?_
  refine TL.nil ?_
  refine TE.next hK2 ?_
  clear hK2
  refine TC.seq (fun K3 hK3 => ?_)
  refine TC.seq (fun K4 hK4 => ?_)
  refine TC.region ?_
  refine tp rfl rfl rfl (PV.move rfl rfl) ?_
  refine TL.nil ?_
  refine TE.next hK4 ?_
  clear hK4
  refine TC.block ?_
  refine TC.loop (α := (Nat) × (Int)) (fun ⟨k, n⟩ => k ≤ 5 ∧ n = valueTo B key k) (fun ⟨k, n⟩ => [(0, (.pointer (some ⟨b, off, none⟩))), (1, (.int .i64 (key))), (4, (.int .i64 0)), (5, (.int .i64 (n))), (8, (.int .i64 (((k : Nat) : Int))))]) (fun ⟨k, n⟩ => [blkA b (cs B) T]) (fun ⟨k, n⟩ => 5 - k) (0, 0)
      ⟨Nat.zero_le _, rfl⟩ (Sub.r (Sub.r (Sub.r (Sub.cons rfl (by congr 1) (Sub.cons rfl (by congr 1) (Sub.nil _))))))
      (fun _ s => s) (fun ⟨k, n⟩ hinv => ?_)
  obtain ⟨hk, hc⟩ := hinv
  refine TC.seq (fun K5 hK5 => ?_)
  refine TC.region ?_
  refine tp rfl rfl rfl (PV.lss rfl rfl rfl) ?_
  refine TL.dec (fun h9 => ?_) (fun h9 => ?_)
  refine TL.nil ?_
  refine TE.next hK5 ?_
  clear hK5
  refine TC.seq (fun K6 hK6 => ?_)
  refine TC.yes rfl ?_
  refine TC.skip ?_
  refine TE.next hK6 ?_
  clear hK6
  refine TC.seq (fun K7 hK7 => ?_)
  refine TC.block ?_
  refine TC.seq (fun K8 hK8 => ?_)
  refine TC.region ?_
  refine tp rfl rfl rfl (PV.move rfl rfl) ?_
  refine tp rfl rfl rfl (PV.assign rfl rfl) ?_
  refine TL.nil ?_
  refine TE.next hK8 ?_
  clear hK8
  refine TC.seq (fun K9 hK9 => ?_)
  refine TC.region ?_
  refine tp rfl rfl rfl (PV.move rfl rfl) ?_
  refine tp rfl rfl rfl (PV.move rfl rfl) ?_
  refine tp rfl rfl rfl (PV.move rfl rfl) ?_
  refine TL.callR (A := [blkA b (cs B) T]) (B := []) (Want.plain rfl) rfl rfl rfl nm51 rfl (bookCell_does b off T cs hA B ((k : Nat) : Int) key) (fun _ s => s) (fun _ _ _ => trivial) (fun vR HR hR => ?_)
  obtain ⟨rfl, rfl⟩ := hR
  change TL _ _ _ _ _ _ _ _ _ [blkA b (cs B) T]
  refine TL.alloc (Want.plain rfl) rfl rfl rfl z44 (fun b7 => ?_)
  change TL _ _ _ _ _ _ _ _ _ [blkA b7 (ints CellT.zero.flat) 44, blkA b (cs B) T]
  refine TL.store (vs := ints (bookCell B ((k : Nat) : Int) key).flat) (i := 0) (H' := [blkA b7 (ints (bookCell B ((k : Nat) : Int) key).flat) 44, blkA b (cs B) T]) (Want.plain rfl) rfl rfl rfl rfl rfl (by rw [(CellT.len (bookCell B ((k : Nat) : Int) key))]; exact sz44) (ints_one _) rfl rfl (by have h0 := (CellT.len CellT.zero); have h1 := (CellT.len (bookCell B ((k : Nat) : Int) key)); omega) (wwhole ((CellT.len CellT.zero).trans (CellT.len (bookCell B ((k : Nat) : Int) key)).symm)) rfl ?_
  refine TL.nil ?_
  refine TE.next hK9 ?_
  clear hK9
  refine TC.region ?_
  refine tp rfl rfl rfl (PV.move rfl rfl) ?_
  refine tp rfl rfl rfl (PV.fieldAddr (r := 0) rfl Tryz.underlying44 rfl sz3 rfl rfl) ?_
  refine tp rfl rfl rfl (PV.load1 (v := (.int .i64 ((bookCell B ((k : Nat) : Int) key).inn))) rfl Tryz.underlying3 rfl rfl (Rd.own 0 rfl rfl) (CellT.at_inn (bookCell B ((k : Nat) : Int) key) rfl)) ?_
  refine tp rfl rfl rfl (PV.fieldAddr (r := 1) rfl Tryz.underlying44 rfl sz3 rfl rfl) ?_
  refine tp rfl rfl rfl (PV.load1 (v := (.int .i64 ((bookCell B ((k : Nat) : Int) key).out))) rfl Tryz.underlying3 rfl rfl (Rd.own 0 rfl rfl) (CellT.at_out (bookCell B ((k : Nat) : Int) key) rfl)) ?_
  refine tp rfl rfl rfl (PV.sub (r := (w64 (((bookCell B ((k : Nat) : Int) key).inn) - ((bookCell B ((k : Nat) : Int) key).out)))) rfl rfl rfl rfl) ?_
  refine tp rfl rfl rfl (PV.add (r := (w64 (n + (w64 (((bookCell B ((k : Nat) : Int) key).inn) - ((bookCell B ((k : Nat) : Int) key).out)))))) rfl rfl rfl rfl) ?_
  refine tp rfl rfl rfl (PV.assign rfl rfl) ?_
  refine TL.nil ?_
  refine TE.blockEnd ?_
  refine TE.next hK7 ?_
  clear hK7
  refine TC.region ?_
  refine tp rfl rfl rfl (PV.add rfl rfl rfl (wrap_i64 (by omega) (by omega))) ?_
  refine tp rfl rfl rfl (PV.move rfl rfl) ?_
  refine TL.nil ?_
  exact TE.round ((k + 1, (w64 (n + (w64 (((bookCell B ((k : Nat) : Int) key).inn) - ((bookCell B ((k : Nat) : Int) key).out)))))) : (Nat) × (Int)) ⟨by omega, by rw [valueTo_succ, ← hc]⟩ (by show 5 - (k + 1) < 5 - k; omega)
    (Sub.r (Sub.r (Sub.r (Sub.r (Sub.cons rfl (by simp) (Sub.nil _))))))
    (fun _ s => sep_keep [1] rfl s)
  refine TL.nil ?_
  refine TE.next hK5 ?_
  clear hK5
  refine TC.seq (fun K10 hK10 => ?_)
  refine TC.no rfl ?_
  refine TC.exit ?_
  refine TE.pass ?_
  clear hK10
  refine TE.pass ?_
  refine TE.hit ?_
  refine TE.next hK3 ?_
  clear hK3
  refine TC.seq (fun K11 hK11 => ?_)
  refine TC.region ?_
  refine tp rfl rfl rfl (PV.move rfl rfl) ?_
  refine tp rfl rfl rfl (PV.assign rfl rfl) ?_
  refine TL.nil ?_
  refine TE.next hK11 ?_
  clear hK11
  refine TC.ret ?_
  refine TE.weak (Sub.refl _) (fun _ s => sep_keep [0] rfl s) ?_
  refine TE.ret1 rfl rfl ?_
  obtain rfl : k = 5 := by omega
  exact ⟨by rw [hc]; rfl, rfl⟩
theorem bookRights_does (b off T : Nat) (cs : BookT → List Value) (hA : Arnd cs (fun x => ints x.flat) off) (B : BookT) (who key : Int) :
    Does Tryz.prog 21 #[(.pointer (some ⟨b, off, none⟩)), (.int .i64 (who)), (.int .i64 (key))] (fun _ => True) [blkA b (cs B) T] (Ret (fun r' H => r' = .int .i64 (bookRights B who key) ∧ H = [blkA b (cs B) T])) := by
  refine Does.body (vs := [(.pointer (some ⟨b, off, none⟩)), (.int .i64 (who)), (.int .i64 (key))]) (n := 71) Tryz.func21 rfl rfl rfl (fun w0 F hF => ?_)
  refine TC.seq (fun K1 hK1 => ?_)
  refine TC.region ?_
  refine tp rfl rfl rfl (PV.assign rfl rfl) ?_
  refine TL.nil ?_
  refine TE.next hK1 ?_
  clear hK1
  refine TC.seq (fun K2 hK2 => ?_)
  refine TC.seq (fun K3 hK3 => ?_)
  refine TC.region ?_
  refine tp rfl rfl rfl (PV.move rfl rfl) ?_
  refine TL.callR (A := []) (B := [blkA b (cs B) T]) (Want.plain rfl) rfl rfl rfl nm50 rfl (bookMachine_does who) (fun _ s => s) (fun _ _ _ => trivial) (fun vR HR hR => ?_)
  obtain ⟨rfl, rfl⟩ := hR
  change TL _ _ _ _ _ _ _ _ _ [blkA b (cs B) T]
  refine TL.decB (fun h14 => ?_) (fun h14 => ?_)
  have hm : 0 ≤ who ∧ who < 5 := of_decide_eq_true h14
  refine tp rfl rfl rfl (PV.not (r := false) rfl rfl rfl) ?_
  refine TL.nil ?_
  refine TE.next hK3 ?_
  clear hK3
  refine TC.no rfl ?_
  refine TC.skip ?_
  refine TE.next hK2 ?_
  clear hK2
  refine TC.seq (fun K4 hK4 => ?_)
  refine TC.region ?_
  refine TL.alloc (Want.plain rfl) rfl rfl rfl z127 (fun b7 => ?_)
  change TL _ _ _ _ _ _ _ _ _ [blkA b7 (ints ((#v[CellT.zero, CellT.zero, CellT.zero, CellT.zero, CellT.zero]).toList.flatMap CellT.flat)) 127, blkA b (cs B) T]
  refine TL.nil ?_
  refine TE.next hK4 ?_
  clear hK4
  refine TC.seq (fun K5 hK5 => ?_)
  refine TC.seq (fun K6 hK6 => ?_)
  refine TC.region ?_
  refine tp rfl rfl rfl (PV.move rfl rfl) ?_
  refine TL.nil ?_
  refine TE.next hK6 ?_
  clear hK6
  refine TC.block ?_
  refine TC.loop (α := (Nat) × (Vector CellT 5)) (fun ⟨k, C⟩ => k ≤ 5 ∧ ∀ (j : Nat) (h : j < 5), j < k → C[j] = bookCell B j key) (fun ⟨k, C⟩ => [(0, (.pointer (some ⟨b, off, none⟩))), (1, (.int .i64 (who))), (2, (.int .i64 (key))), (6, (.int .i64 0)), (7, (.pointer (some ⟨b7, 0, none⟩))), (16, (.int .i64 (((k : Nat) : Int))))]) (fun ⟨k, C⟩ => [blkA b7 (ints (C.toList.flatMap CellT.flat)) 127, blkA b (cs B) T]) (fun ⟨k, C⟩ => 5 - k) (0, #v[CellT.zero, CellT.zero, CellT.zero, CellT.zero, CellT.zero])
      ⟨Nat.zero_le _, fun j _ h => absurd h (by omega)⟩ (Sub.r (Sub.r (Sub.r (Sub.r (Sub.r (Sub.cons rfl (by congr 1) (Sub.nil _)))))))
      (fun _ s => sep_keep [0, 0] rfl s) (fun ⟨k, C⟩ hinv => ?_)
  obtain ⟨hk, hC⟩ := hinv
  refine TC.seq (fun K7 hK7 => ?_)
  refine TC.region ?_
  refine tp rfl rfl rfl (PV.lss rfl rfl rfl) ?_
  refine TL.dec (fun h17 => ?_) (fun h17 => ?_)
  refine TL.nil ?_
  refine TE.next hK7 ?_
  clear hK7
  refine TC.seq (fun K8 hK8 => ?_)
  refine TC.yes rfl ?_
  refine TC.skip ?_
  refine TE.next hK8 ?_
  clear hK8
  refine TC.seq (fun K9 hK9 => ?_)
  refine TC.block ?_
  refine TC.seq (fun K10 hK10 => ?_)
  refine TC.region ?_
  refine tp rfl rfl rfl (PV.move rfl rfl) ?_
  refine tp rfl rfl rfl (PV.assign rfl rfl) ?_
  refine TL.nil ?_
  refine TE.next hK10 ?_
  clear hK10
  refine TC.region ?_
  refine tp rfl rfl rfl (PV.move rfl rfl) ?_
  refine tp rfl rfl rfl (PV.move rfl rfl) ?_
  refine tp rfl rfl rfl (PV.move rfl rfl) ?_
  refine tp rfl rfl rfl (PV.move rfl rfl) ?_
  refine TL.callR (A := [blkA b (cs B) T]) (B := [blkA b7 (ints (C.toList.flatMap CellT.flat)) 127]) (Want.plain rfl) rfl rfl rfl nm51 rfl (bookCell_does b off T cs hA B ((k : Nat) : Int) key) (fun _ s => sep_selR [1] rfl s) (fun _ _ _ => trivial) (fun vR HR hR => ?_)
  obtain ⟨rfl, rfl⟩ := hR
  change TL _ _ _ _ _ _ _ _ _ [blkA b (cs B) T, blkA b7 (ints (C.toList.flatMap CellT.flat)) 127]
  refine tp rfl rfl rfl (PV.indexArr (r := k * 7) rfl Tryz.underlying127 sz44 rfl rfl (by omega) (by omega) (by omega)) ?_
  refine TL.store (vs := ints (bookCell B ((k : Nat) : Int) key).flat) (i := 1) (H' := [blkA b (cs B) T, blkA b7 (ints ((C.set k (bookCell B ((k : Nat) : Int) key) (by omega)).toList.flatMap CellT.flat)) 127]) (Want.plain rfl) rfl rfl rfl rfl rfl (by rw [(CellT.len (bookCell B ((k : Nat) : Int) key))]; exact sz44) (ints_one _) rfl rfl (by have h0 := (vsc_len C); have h1 := (CellT.len (bookCell B ((k : Nat) : Int) key)); omega) (vs_wr CellT.flat_length C (i := k) 0 (by omega) (by omega) (by have h1 := (CellT.len (bookCell B ((k : Nat) : Int) key)); omega) (wwhole ((CellT.len (C[k]'(by omega))).trans (CellT.len (bookCell B ((k : Nat) : Int) key)).symm))) rfl ?_
  refine TL.nil ?_
  refine TE.blockEnd ?_
  refine TE.next hK9 ?_
  clear hK9
  refine TC.region ?_
  refine tp rfl rfl rfl (PV.add rfl rfl rfl (wrap_i64 (by omega) (by omega))) ?_
  refine tp rfl rfl rfl (PV.move rfl rfl) ?_
  refine TL.nil ?_
  exact TE.round ((k + 1, (C.set k (bookCell B ((k : Nat) : Int) key) (by omega))) : (Nat) × (Vector CellT 5)) ⟨by omega, fun j h hj => by
        rw [Vector.getElem_set]
        split
        · subst_vars; rfl
        · exact hC j h (by omega)⟩ (by show 5 - (k + 1) < 5 - k; omega)
    (Sub.r (Sub.r (Sub.r (Sub.r (Sub.r (Sub.cons rfl (by simp) (Sub.nil _)))))))
    (fun _ s => sep_keep [1, 0] rfl s)
  refine TL.nil ?_
  refine TE.next hK7 ?_
  clear hK7
  refine TC.seq (fun K11 hK11 => ?_)
  refine TC.no rfl ?_
  refine TC.exit ?_
  refine TE.pass ?_
  clear hK11
  refine TE.pass ?_
  refine TE.hit ?_
  refine TE.next hK5 ?_
  clear hK5
  refine TC.seq (fun K12 hK12 => ?_)
  refine TC.region ?_
  refine tp rfl rfl rfl (PV.assign rfl rfl) ?_
  refine TL.nil ?_
  refine TE.next hK12 ?_
  clear hK12
  refine TC.seq (fun K13 hK13 => ?_)
  refine TC.seq (fun K14 hK14 => ?_)
  refine TC.region ?_
  refine tp rfl rfl rfl (PV.move rfl rfl) ?_
  refine tp rfl rfl rfl (PV.move rfl rfl) ?_
  refine tp rfl rfl rfl (PV.nilCheck rfl rfl) ?_
  refine tp rfl rfl rfl (PV.fieldAddr (r := off) rfl Tryz.underlying71 rfl sz69 rfl rfl) ?_
  refine tp rfl rfl rfl (PV.indexArr (r := off + who.toNat * 174) rfl Tryz.underlying69 sz48 rfl rfl (by omega) (by omega) (by omega)) ?_
  refine tp rfl rfl rfl (PV.loadN (vs := ints (B.rows[who.toNat]'(by omega)).flat) rfl Tryz.underlying48 rfl sz48 rfl (Rd.own 1 rfl rfl) (RowT.len (B.rows[who.toNat]'(by omega))) (Arnd.sub hA (j := who.toNat * 174) (by omega) (by have h0 := (BookT.len B); omega) (BookT.sub_rows B (who.toNat * 174) (by omega) (by omega) (vs_sub RowT.flat_length B.rows (i := who.toNat) 0 (by omega) (by omega) (by decide) (whole (RowT.len (B.rows[who.toNat]'(by omega)))))))) ?_
  refine tp rfl rfl rfl (PV.move rfl rfl) ?_
  have hbr : B.rows[who.toNat]'(by omega) = bookRow B who := by rw [bookRow, dif_pos h14]
  rw [hbr]
  refine TL.callR (A := []) (B := [blkA b7 (ints (C.toList.flatMap CellT.flat)) 127, blkA b (cs B) T]) (Want.plain rfl) rfl rfl rfl nm52 rfl (rowOwn_does (bookRow B who) who) (fun _ s => s) (fun _ _ _ => trivial) (fun vR HR hR => ?_)
  obtain ⟨_, rfl, rfl⟩ := hR
  revert vR
  intro ul1
  change TL _ _ _ _ _ _ _ _ _ [own ul1 ((rowOwn (bookRow B who) who).length) (ints (rowOwn (bookRow B who) who)) 3 1, blkA b7 (ints (C.toList.flatMap CellT.flat)) 127, blkA b (cs B) T]
  refine TL.ownLen 0 rfl rfl (fun hlul1 houl1 => ?_)
  refine tp rfl rfl rfl (PV.lenV rfl Tryz.underlying74 rfl hlul1) ?_
  refine tp rfl rfl rfl (PV.move rfl rfl) ?_
  refine TL.nil ?_
  refine TE.next hK14 ?_
  clear hK14
  refine TC.block ?_
  refine TC.loop (α := (Nat) × (Int)) (fun ⟨i, r⟩ => i ≤ (rowOwn (bookRow B who) who).length ∧ r = ((rowOwn (bookRow B who) who).take i).foldl (rightsStep B key) 0) (fun ⟨i, r⟩ => [(0, (.pointer (some ⟨b, off, none⟩))), (6, (.int .i64 0)), (7, (.pointer (some ⟨b7, 0, none⟩))), (9, (.int .i64 (r))), (33, ul1), (34, (.int .i64 ((((rowOwn (bookRow B who) who).length : Nat) : Int)))), (35, (.int .i64 (((i : Nat) : Int))))]) (fun ⟨i, r⟩ => [own ul1 ((rowOwn (bookRow B who) who).length) (ints (rowOwn (bookRow B who) who)) 3 1, blkA b7 (ints (C.toList.flatMap CellT.flat)) 127, blkA b (cs B) T]) (fun ⟨i, r⟩ => (rowOwn (bookRow B who) who).length - i) (0, 0)
      ⟨Nat.zero_le _, rfl⟩ (Sub.r (Sub.r (Sub.r (Sub.cons rfl (by congr 1) (Sub.r (Sub.r (Sub.cons rfl (by congr 1) (Sub.nil _))))))))
      (fun _ s => sep_keep [0, 0, 0] rfl s) (fun ⟨i, r⟩ hinv => ?_)
  obtain ⟨hi, hr⟩ := hinv
  have hE : ∀ (j : Nat) (h : j < 5), C[j] = bookCell B j key := fun j h => hC j h (by omega)
  refine TC.seq (fun K15 hK15 => ?_)
  refine TC.region ?_
  refine tp rfl rfl rfl (PV.lss rfl rfl rfl) ?_
  refine TL.dec (fun h36 => ?_) (fun h36 => ?_)
  refine TL.nil ?_
  refine TE.next hK15 ?_
  clear hK15
  refine TC.seq (fun K16 hK16 => ?_)
  refine TC.yes rfl ?_
  refine TC.skip ?_
  refine TE.next hK16 ?_
  clear hK16
  refine TC.seq (fun K17 hK17 => ?_)
  refine TC.block ?_
  refine TC.seq (fun K18 hK18 => ?_)
  refine TC.region ?_
  refine TL.ownAt 0 rfl rfl (by omega) (fun ga capa hva hcapa => ?_)
  obtain ⟨q, hq, hq5⟩ : ∃ q : Nat, (rowOwn (bookRow B who) who)[i] = ((q : Nat) : Int) ∧ q < 5 := by have := rowOwn_mem (bookRow B who) who _ (List.getElem_mem (show i < (rowOwn (bookRow B who) who).length by omega)); exact ⟨(rowOwn (bookRow B who) who)[i].toNat, by omega, by omega⟩
  have hE2 : C[q] = bookCell B (rowOwn (bookRow B who) who)[i] key := by rw [hE q hq5, hq]
  refine tp rfl rfl rfl (PV.indexSlV (r := i) hva rfl Tryz.underlying74 sz3 rfl rfl (by omega) (by omega) (by omega)) ?_
  refine tp rfl rfl rfl (PV.load1X (v := (.int .i64 (((q : Nat) : Int)))) rfl Tryz.underlying3 rfl rfl (RdX.own 0 rfl hva rfl) (by rw [← hq]; simp [ints, show i < (rowOwn (bookRow B who) who).length by omega])) ?_
  refine tp rfl rfl rfl (PV.assign rfl rfl) ?_
  refine TL.nil ?_
  refine TE.next hK18 ?_
  clear hK18
  refine TC.seq (fun K19 hK19 => ?_)
  refine TC.draw (fun w => Frm F w ∧ w.heap[b7]? = some (.cells (ints (C.toList.flatMap CellT.flat)).toArray 127 (0, 0)) ∧ True) mixed rfl (fun _ s => ⟨Frm.of s, s.block 1 (lb rfl) rfl, trivial⟩) ?_
  refine TD.take (i := 0) rfl (by kernel_rfl) (by kernel_rfl) (by kernel_rfl) (fun _ _ _ _ h => h) (Want.plain rfl) rfl rfl (PV.move rfl rfl) ?_
  refine TD.take (i := 1) rfl (by kernel_rfl) (by kernel_rfl) (by kernel_rfl) (fun _ _ _ _ h => h) (Want.plain rfl) rfl rfl (PV.move rfl rfl) ?_
  refine TD.take (i := 2) rfl (by kernel_rfl) (by kernel_rfl) (by kernel_rfl) (fun _ _ _ _ h => h) (Want.plain rfl) rfl rfl (PV.indexArr (r := q * 7) rfl Tryz.underlying127 sz44 rfl rfl (by omega) (by omega) (by omega)) ?_
  refine TD.take (i := 3) rfl (by kernel_rfl) (by kernel_rfl) (by kernel_rfl) (fun _ _ _ _ h => h) (Want.plain rfl) rfl rfl (PV.fieldAddr (r := q * 7) rfl Tryz.underlying44 rfl sz3 rfl rfl) ?_
  refine TD.take (i := 4) rfl (by kernel_rfl) (by kernel_rfl) (by kernel_rfl) (fun _ _ _ _ h => h) (Want.plain rfl) rfl rfl (PV.load1 (v := (.int .i64 ((C[q]'(by omega)).inn))) rfl Tryz.underlying3 rfl rfl (fun _ h => h.2.1) (vs_pt CellT.flat_length C (i := q) 0 (by omega) (by omega) (by decide) (CellT.at_inn (C[q]'(by omega)) rfl))) ?_
  refine TD.take (i := 5) rfl (by kernel_rfl) (by kernel_rfl) (by kernel_rfl) (fun _ _ _ _ h => h) (Want.plain rfl) rfl rfl (PV.move rfl rfl) ?_
  refine TD.take (i := 6) rfl (by kernel_rfl) (by kernel_rfl) (by kernel_rfl) (fun _ _ _ _ h => h) (Want.plain rfl) rfl rfl (PV.indexArr (r := q * 7) rfl Tryz.underlying127 sz44 rfl rfl (by omega) (by omega) (by omega)) ?_
  refine TD.take (i := 7) rfl (by kernel_rfl) (by kernel_rfl) (by kernel_rfl) (fun _ _ _ _ h => h) (Want.plain rfl) rfl rfl (PV.fieldAddr (r := q * 7 + 1) rfl Tryz.underlying44 rfl sz3 rfl rfl) ?_
  refine TD.take (i := 8) rfl (by kernel_rfl) (by kernel_rfl) (by kernel_rfl) (fun _ _ _ _ h => h) (Want.plain rfl) rfl rfl (PV.load1 (v := (.int .i64 ((C[q]'(by omega)).out))) rfl Tryz.underlying3 rfl rfl (fun _ h => h.2.1) (vs_pt CellT.flat_length C (i := q) 1 (by omega) (by omega) (by decide) (CellT.at_out (C[q]'(by omega)) rfl))) ?_
  refine TD.take (i := 9) rfl (by kernel_rfl) (by kernel_rfl) (by kernel_rfl) (fun _ _ _ _ h => h) (Want.plain rfl) rfl rfl (PV.sub (r := (w64 (((C[q]'(by omega)).inn) - ((C[q]'(by omega)).out)))) rfl rfl rfl rfl) ?_
  refine TD.take (i := 10) rfl (by kernel_rfl) (by kernel_rfl) (by kernel_rfl) (fun _ _ _ _ h => h) (Want.plain rfl) rfl rfl (PV.add (r := (w64 (r + (w64 (((C[q]'(by omega)).inn) - ((C[q]'(by omega)).out)))))) rfl rfl rfl rfl) ?_
  refine TD.take (i := 11) rfl (by kernel_rfl) (by kernel_rfl) (by kernel_rfl) (fun _ _ _ _ h => h) (Want.plain rfl) rfl rfl (PV.assign rfl rfl) ?_
  refine TD.done (by kernel_rfl) ?_
  refine TE.next hK19 ?_
  clear hK19
  refine TC.seq (fun K20 hK20 => ?_)
  refine TC.region ?_
  refine tp rfl rfl rfl (PV.move rfl rfl) ?_
  refine TL.nil ?_
  refine TE.next hK20 ?_
  clear hK20
  refine TC.block ?_
  refine TC.loop (α := (Nat) × (Int)) (fun ⟨o, r3⟩ => o ≤ 5 ∧ r3 = rightsIn B key (rowOwn (bookRow B who) who)[i] (w64 (r + w64 (C[q].inn - C[q].out))) o) (fun ⟨o, r3⟩ => [(0, (.pointer (some ⟨b, off, none⟩))), (6, (.int .i64 0)), (7, (.pointer (some ⟨b7, 0, none⟩))), (9, (.int .i64 (r3))), (11, (.int .i64 (((q : Nat) : Int)))), (33, ul1), (34, (.int .i64 ((((rowOwn (bookRow B who) who).length : Nat) : Int)))), (35, (.int .i64 (((i : Nat) : Int)))), (50, (.int .i64 (((o : Nat) : Int))))]) (fun ⟨o, r3⟩ => [own ul1 ((rowOwn (bookRow B who) who).length) (ints (rowOwn (bookRow B who) who)) 3 1, blkA b7 (ints (C.toList.flatMap CellT.flat)) 127, blkA b (cs B) T]) (fun ⟨o, r3⟩ => 5 - o) (0, (w64 (r + (w64 (((C[q]'(by omega)).inn) - ((C[q]'(by omega)).out))))))
      ⟨Nat.zero_le _, rfl⟩ (Sub.r (Sub.r (Sub.r (Sub.cons rfl (by congr 1) (Sub.r (Sub.r (Sub.r (Sub.r (Sub.cons rfl (by congr 1) (Sub.nil _))))))))))
      (fun _ s => sep_keep [0, 0, 0] rfl s) (fun ⟨o, r3⟩ hinv => ?_)
  obtain ⟨ho, hr3⟩ := hinv
  refine TC.seq (fun K21 hK21 => ?_)
  refine TC.region ?_
  refine tp rfl rfl rfl (PV.lss rfl rfl rfl) ?_
  refine TL.dec (fun h51 => ?_) (fun h51 => ?_)
  refine TL.nil ?_
  refine TE.next hK21 ?_
  clear hK21
  refine TC.seq (fun K22 hK22 => ?_)
  refine TC.yes rfl ?_
  refine TC.skip ?_
  refine TE.next hK22 ?_
  clear hK22
  refine TC.seq (fun K23 hK23 => ?_)
  refine TC.block ?_
  refine TC.seq (fun K24 hK24 => ?_)
  refine TC.region ?_
  refine tp rfl rfl rfl (PV.move rfl rfl) ?_
  refine tp rfl rfl rfl (PV.assign rfl rfl) ?_
  refine TL.nil ?_
  refine TE.next hK24 ?_
  clear hK24
  refine TC.draw (fun w => Frm F w ∧ w.heap[b7]? = some (.cells (ints (C.toList.flatMap CellT.flat)).toArray 127 (0, 0)) ∧ True) mixed rfl (fun _ s => ⟨Frm.of s, s.block 1 (lb rfl) rfl, trivial⟩) ?_
  refine TD.take (i := 0) rfl (by kernel_rfl) (by kernel_rfl) (by kernel_rfl) (fun _ _ _ _ h => h) (Want.plain rfl) rfl rfl (PV.move rfl rfl) ?_
  refine TD.take (i := 1) rfl (by kernel_rfl) (by kernel_rfl) (by kernel_rfl) (fun _ _ _ _ h => h) (Want.plain rfl) rfl rfl (PV.move rfl rfl) ?_
  refine TD.take (i := 2) rfl (by kernel_rfl) (by kernel_rfl) (by kernel_rfl) (fun _ _ _ _ h => h) (Want.plain rfl) rfl rfl (PV.move rfl rfl) ?_
  refine TD.take (i := 3) rfl (by kernel_rfl) (by kernel_rfl) (by kernel_rfl) (fun _ _ _ _ h => h) (Want.plain rfl) rfl rfl (PV.indexArr (r := o * 7) rfl Tryz.underlying127 sz44 rfl rfl (by omega) (by omega) (by omega)) ?_
  refine TD.take (i := 4) rfl (by kernel_rfl) (by kernel_rfl) (by kernel_rfl) (fun _ _ _ _ h => h) (Want.plain rfl) rfl rfl (PV.fieldAddr (r := o * 7 + 2) rfl Tryz.underlying44 rfl sz42 rfl rfl) ?_
  refine TD.take (i := 5) rfl (by kernel_rfl) (by kernel_rfl) (by kernel_rfl) (fun _ _ _ _ h => h) (Want.plain rfl) rfl rfl (PV.indexArr (r := o * 7 + 2 + q) rfl Tryz.underlying42 sz3 rfl rfl (by omega) (by omega) (by omega)) ?_
  refine TD.take (i := 6) rfl (by kernel_rfl) (by kernel_rfl) (by kernel_rfl) (fun _ _ _ _ h => h) (Want.plain rfl) rfl rfl (PV.load1 (v := (.int .i64 ((((C[o]'(by omega)).given)[q]'(by omega))))) rfl Tryz.underlying3 rfl rfl (fun _ h => h.2.1) (vs_pt CellT.flat_length C (i := o) (2 + q) (by omega) (by omega) (by omega) (CellT.pt_given (C[o]'(by omega)) q (by omega) (by omega) (vi_at ((C[o]'(by omega)).given) (by omega))))) ?_
  refine TD.take (i := 7) rfl (by kernel_rfl) (by kernel_rfl) (by kernel_rfl) (fun _ _ _ _ h => h) (Want.plain rfl) rfl rfl (PV.move rfl rfl) ?_
  refine TD.take (i := 8) rfl (by kernel_rfl) (by kernel_rfl) (by kernel_rfl) (fun _ _ _ _ h => h) (Want.plain rfl) rfl rfl (PV.move rfl rfl) ?_
  refine TD.take (i := 9) rfl (by kernel_rfl) (by kernel_rfl) (by kernel_rfl) (fun _ _ _ _ h => h) (Want.plain rfl) rfl rfl (PV.indexArr (r := q * 7) rfl Tryz.underlying127 sz44 rfl rfl (by omega) (by omega) (by omega)) ?_
  refine TD.take (i := 10) rfl (by kernel_rfl) (by kernel_rfl) (by kernel_rfl) (fun _ _ _ _ h => h) (Want.plain rfl) rfl rfl (PV.fieldAddr (r := q * 7 + 2) rfl Tryz.underlying44 rfl sz42 rfl rfl) ?_
  refine TD.take (i := 11) rfl (by kernel_rfl) (by kernel_rfl) (by kernel_rfl) (fun _ _ _ _ h => h) (Want.plain rfl) rfl rfl (PV.indexArr (r := q * 7 + 2 + o) rfl Tryz.underlying42 sz3 rfl rfl (by omega) (by omega) (by omega)) ?_
  refine TD.take (i := 12) rfl (by kernel_rfl) (by kernel_rfl) (by kernel_rfl) (fun _ _ _ _ h => h) (Want.plain rfl) rfl rfl (PV.load1 (v := (.int .i64 ((((C[q]'(by omega)).given)[o]'(by omega))))) rfl Tryz.underlying3 rfl rfl (fun _ h => h.2.1) (vs_pt CellT.flat_length C (i := q) (2 + o) (by omega) (by omega) (by omega) (CellT.pt_given (C[q]'(by omega)) o (by omega) (by omega) (vi_at ((C[q]'(by omega)).given) (by omega))))) ?_
  refine TD.take (i := 13) rfl (by kernel_rfl) (by kernel_rfl) (by kernel_rfl) (fun _ _ _ _ h => h) (Want.plain rfl) rfl rfl (PV.sub (r := (w64 ((((C[o]'(by omega)).given)[q]'(by omega)) - (((C[q]'(by omega)).given)[o]'(by omega))))) rfl rfl rfl rfl) ?_
  refine TD.take (i := 14) rfl (by kernel_rfl) (by kernel_rfl) (by kernel_rfl) (fun _ _ _ _ h => h) (Want.plain rfl) rfl rfl (PV.add (r := (w64 (r3 + (w64 ((((C[o]'(by omega)).given)[q]'(by omega)) - (((C[q]'(by omega)).given)[o]'(by omega))))))) rfl rfl rfl rfl) ?_
  refine TD.take (i := 15) rfl (by kernel_rfl) (by kernel_rfl) (by kernel_rfl) (fun _ _ _ _ h => h) (Want.plain rfl) rfl rfl (PV.assign rfl rfl) ?_
  refine TD.done (by kernel_rfl) ?_
  refine TE.blockEnd ?_
  refine TE.next hK23 ?_
  clear hK23
  refine TC.region ?_
  refine tp rfl rfl rfl (PV.add rfl rfl rfl (wrap_i64 (by omega) (by omega))) ?_
  refine tp rfl rfl rfl (PV.move rfl rfl) ?_
  refine TL.nil ?_
  exact TE.round ((o + 1, (w64 (r3 + (w64 ((((C[o]'(by omega)).given)[q]'(by omega)) - (((C[q]'(by omega)).given)[o]'(by omega))))))) : (Nat) × (Int)) ⟨by omega, by rw [rightsIn_succ, ← hr3, givenOf_at _ (by omega), hq, givenOf_at _ hq5, ← hE o (by omega), ← hE q hq5]⟩ (by show 5 - (o + 1) < 5 - o; omega)
    (Sub.r (Sub.r (Sub.r (Sub.r (Sub.r (Sub.r (Sub.r (Sub.r (Sub.cons rfl (by simp) (Sub.nil _))))))))))
    (fun _ s => sep_keep [0, 0, 0] rfl s)
  refine TL.nil ?_
  refine TE.next hK21 ?_
  clear hK21
  refine TC.seq (fun K25 hK25 => ?_)
  refine TC.no rfl ?_
  refine TC.exit ?_
  refine TE.pass ?_
  clear hK25
  refine TE.pass ?_
  refine TE.hit ?_
  refine TE.blockEnd ?_
  refine TE.next hK17 ?_
  clear hK17
  refine TC.region ?_
  refine tp rfl rfl rfl (PV.add rfl rfl rfl (wrap_i64 (by omega) (by omega))) ?_
  refine tp rfl rfl rfl (PV.move rfl rfl) ?_
  refine TL.nil ?_
  exact TE.round ((i + 1, r3) : (Nat) × (Int)) ⟨by omega, by
          have h5 : o = 5 := by omega
          rw [List.take_succ_eq_append_getElem (by omega), List.foldl_append, ← hr]
          show r3 = rightsStep B key r _
          rw [hr3, h5, rightsStep, ← hE2]⟩ (by show (rowOwn (bookRow B who) who).length - (i + 1) < (rowOwn (bookRow B who) who).length - i; omega)
    (Sub.r (Sub.r (Sub.r (Sub.r (Sub.r (Sub.r (Sub.cons rfl (by simp) (Sub.nil _))))))))
    (fun _ s => sep_keep [0, 0, 0] rfl s)
  refine TL.nil ?_
  refine TE.next hK15 ?_
  clear hK15
  refine TC.seq (fun K26 hK26 => ?_)
  refine TC.no rfl ?_
  refine TC.exit ?_
  refine TE.pass ?_
  clear hK26
  refine TE.pass ?_
  refine TE.hit ?_
  refine TE.next hK13 ?_
  clear hK13
  refine TC.seq (fun K27 hK27 => ?_)
  refine TC.region ?_
  refine tp rfl rfl rfl (PV.move rfl rfl) ?_
  refine tp rfl rfl rfl (PV.assign rfl rfl) ?_
  refine TL.nil ?_
  refine TE.next hK27 ?_
  clear hK27
  refine TC.ret ?_
  refine TE.weak (Sub.refl _) (fun _ s => sep_keep [2] rfl s) ?_
  refine TE.ret1 rfl rfl ?_
  obtain rfl : i = (rowOwn (bookRow B who) who).length := by omega
  exact ⟨by rw [bookRights, if_pos h14, hr, List.take_length], rfl⟩
  refine tp rfl rfl rfl (PV.not (r := true) rfl rfl rfl) ?_
  refine TL.nil ?_
  refine TE.next hK3 ?_
  clear hK3
  refine TC.yes rfl ?_
  refine TC.seq (fun K28 hK28 => ?_)
  refine TC.region ?_
  refine tp rfl rfl rfl (PV.assign rfl rfl) ?_
  refine TL.nil ?_
  refine TE.next hK28 ?_
  clear hK28
  refine TC.ret ?_
  refine TE.passRet ?_
  clear hK2
  refine TE.weak (Sub.refl _) (fun _ s => sep_keep [0] rfl s) ?_
  refine TE.ret1 rfl rfl ?_
  exact ⟨by rw [bookRights, if_neg (by simp [h14])], rfl⟩
end Go.Proofs.YtfceaphohlbnbaaGreat
end

section
namespace Api
open Go Leg Codec

def kRow (k : Int) : Bool := decide (k = 0 ∨ k = 2 ∨ k = 9)
def kAsk (k : Int) : Bool := decide (k = 3 ∨ k = 6)
/-- The message that comes next; false: its row, its view may not be. -/
def readMsgP : Ps (MsgT × Bool) := pb (smallP 10) fun k =>
  if kRow k then pb (smallP 5) fun w => pb rowP fun x => pr (⟨k, w, x, 0, 0, .zero, .zero, .zero, .zero⟩, rightR x)
  else if k = 1 then pb numP fun n => pr (⟨k, 0, .zero, n, 0, .zero, .zero, .zero, .zero⟩, true)
  else if kAsk k then pb numP fun n => pb ballotP fun b => pr (⟨k, 0, .zero, 0, n, b, .zero, .zero, .zero⟩, true)
  else if k = 4 then pb numP fun n => pb ballotP fun b => pb ballotP fun d => pb changeP fun c => pr (⟨k, 0, .zero, 0, n, b, d, c, .zero⟩, true)
  else if k = 5 then pb numP fun n => pb ballotP fun b => pb changeP fun c => pr (⟨k, 0, .zero, 0, n, b, .zero, c, .zero⟩, true)
  else if k = 7 then pb viewP fun v => pr (⟨k, 0, .zero, 0, 0, .zero, .zero, .zero, v⟩, rightV v)
  else if k = 8 then pb (smallP 5) fun w => pb viewP fun v => pr (⟨k, w, .zero, 0, 0, .zero, .zero, .zero, v⟩, rightV v)
  else pr (⟨k, 0, .zero, 0, 0, .zero, .zero, .zero, .zero⟩, true)
def encR (m : RecT) : List UInt8 :=
  if m.kind = 0 then encs [m.kind] ++ encRow m.row
  else if m.kind = 1 then encs [m.kind, m.whose] ++ encRow m.row
  else if m.kind = 2 then encs [m.kind, m.whose]
  else if m.kind = 3 then encs [m.kind, m.epoch] ++ encs m.ballot.flat
  else if m.kind = 4 then encs [m.kind, m.epoch] ++ encs m.ballot.flat ++ encs m.change.flat
  else if m.kind = 5 then encs [m.kind] ++ encs m.view.flat
  else []
end Api
end

section
namespace Api
open Go Leg Codec

def Nm (n : Int) : Prop := 0 ≤ n ∧ n < 9223372036854775808
def OkB (b : BallotT) : Prop := Nm b.round ∧ 0 ≤ b.who ∧ b.who < 5
def OkC (c : ChangeT) : Prop := (0 ≤ c.kind ∧ c.kind < 2) ∧ (0 ≤ c.who ∧ c.who < 5) ∧ (0 ≤ c.heir ∧ c.heir < 5)
def OkV (v : ViewT) : Prop := Nm v.epoch ∧ (0 ≤ v.members ∧ v.members < 32) ∧ ∀ (i : Nat) (h : i < 5), 0 ≤ v.heirs[i] ∧ v.heirs[i] < 6
structure OkM (m : MsgT) : Prop where
  kind : 0 ≤ m.kind ∧ m.kind < 10
  whose : 0 ≤ m.whose ∧ m.whose < 5
  row : TameR m.row
  version : Nm m.version
  epoch : Nm m.epoch
  ballot : OkB m.ballot
  had : OkB m.had
  change : OkC m.change
  view : OkV m.view
/-- What was read has those bytes. -/
theorem heir_z (i : Nat) (hi : i < 5) : RowT.zero.heir[i] = 0 := by match i, hi with | 0, _ | 1, _ | 2, _ | 3, _ | 4, _ => rfl
theorem cell_z (k : Nat) (hk : k < 4) : RowT.zero.cells[k] = CellT.zero := by match k, hk with | 0, _ | 1, _ | 2, _ | 3, _ => rfl
theorem left_z (i : Nat) (hi : i < 5) : RowT.zero.left[i] = RowT.zero.cells := by match i, hi with | 0, _ | 1, _ | 2, _ | 3, _ | 4, _ => rfl
theorem tame_rzero : TameR RowT.zero := ⟨⟨by decide, by decide⟩, fun k hk => by rw [cell_z k hk]; exact tame_zero, fun i hi => by rw [heir_z i hi]; decide, fun i k hi hk => by rw [show RowT.zero.left[i][k] = RowT.zero.cells[k] from by rw [left_z i hi], cell_z k hk]; exact tame_zero, fun i hi _ => by rw [left_z i hi, left_z 0 (by decide)]⟩
theorem Ext.if {α : Type} {c : Prop} [Decidable c] {p q : Ps α} (hp : Ext p) (hq : Ext q) : Ext (if c then p else q) := by split <;> assumption
theorem Ext.change : Ext changeP := (Ext.small _).pb fun _ => (Ext.small _).pb fun _ => (Ext.small _).pb fun _ => Ext.pr _
theorem Ext.ballot : Ext ballotP := Ext.num.pb fun _ => (Ext.small _).pb fun _ => Ext.pr _
theorem Ext.view : Ext viewP := Ext.num.pb fun _ => (Ext.small _).pb fun _ => (Ext.small _).pb fun _ => (Ext.small _).pb fun _ => (Ext.small _).pb fun _ => (Ext.small _).pb fun _ => (Ext.small _).pb fun _ => Ext.pr _
theorem Ext.msg : Ext readMsgP := (Ext.small _).pb fun k => Ext.if ((Ext.small _).pb fun _ => Ext.row.pb fun _ => Ext.pr _) (Ext.if (Ext.num.pb fun _ => Ext.pr _) (Ext.if (Ext.num.pb fun _ => Ext.ballot.pb fun _ => Ext.pr _)
  (Ext.if (Ext.num.pb fun _ => Ext.ballot.pb fun _ => Ext.ballot.pb fun _ => Ext.change.pb fun _ => Ext.pr _) (Ext.if (Ext.num.pb fun _ => Ext.ballot.pb fun _ => Ext.change.pb fun _ => Ext.pr _) (Ext.if (Ext.view.pb fun _ => Ext.pr _) (Ext.if ((Ext.small _).pb fun _ => Ext.view.pb fun _ => Ext.pr _) (Ext.pr _)))))))
structure OkRc (m : RecT) : Prop where
  kind : 0 ≤ m.kind ∧ m.kind < 6
  whose : 0 ≤ m.whose ∧ m.whose < 5
  row : TameR m.row
  epoch : Nm m.epoch
  ballot : OkB m.ballot
  change : OkC m.change
  view : OkV m.view
end Api
end

section
namespace Api
open Go Leg Codec

theorem leaveH_rng {c : ChangeT} {i : Nat} {h : Int} (hh : 0 ≤ h ∧ h ≤ 5) (hc : 0 ≤ c.heir ∧ c.heir < 5) : 0 ≤ leaveH c i h ∧ leaveH c i h ≤ 5 := by
  unfold leaveH; split <;> omega
theorem leaveV_get (v : ViewT) (c : ChangeT) (i : Nat) (h : i < 5) : (leaveV v c)[i] = leaveH c i v.heirs[i] := by simp [leaveV]
theorem Rng.zeros {v : ViewT} (h : v.heirs = #v[0, 0, 0, 0, 0]) : Rng v := fun i hi => by
  have : v.heirs[i] = 0 := by
    rw [show v.heirs[i] = (#v[0, 0, 0, 0, 0] : Vector Int 5)[i] from by rw [h]]
    match i, hi with | 0, _ | 1, _ | 2, _ | 3, _ | 4, _ => rfl
  omega
theorem Rng.zero : Rng ViewT.zero := Rng.zeros rfl
theorem Rng.next {v : ViewT} (h : Rng v) (c : ChangeT) : Rng (nextV v c).1 := by
  unfold nextV
  split
  · exact Rng.zero
  rename_i h1
  have hm : 0 ≤ c.heir ∧ c.heir < 5 := by
    simp only [Bool.or_eq_true, Bool.not_eq_true', not_or, Bool.not_eq_false] at h1
    exact of_decide_eq_true h1.2
  split
  · split
    · exact Rng.zero
    · exact h
  · split
    · split
      · exact Rng.zero
      · exact fun i hi => by show 0 ≤ (leaveV v c)[i] ∧ (leaveV v c)[i] ≤ 5; rw [leaveV_get v c i hi]; exact leaveH_rng (h i hi) hm
    · exact Rng.zero
theorem Rng.first : Rng firstV := Rng.zeros rfl
def stepV (v : ViewT) (c : ChangeT) : ViewT := if (nextV v c).2 = 0 then (nextV v c).1 else v
theorem Rng.step {v : ViewT} (h : Rng v) (c : ChangeT) : Rng (stepV v c) := by unfold stepV; split; exact h.next c; exact h
theorem or_bits : ∀ (m : Fin 32) (w u : Fin 5), bitB (orI .i64 ((m.val : Nat) : Int) (2 ^ w.val)) ((u.val : Nat) : Int) = (bitB ((m.val : Nat) : Int) ((u.val : Nat) : Int) || decide (u = w)) ∧ 0 ≤ orI .i64 ((m.val : Nat) : Int) (2 ^ w.val) ∧ orI .i64 ((m.val : Nat) : Int) (2 ^ w.val) < 32 := by decide +kernel
theorem andNot_bits : ∀ (m : Fin 32) (w u : Fin 5), bitB (andNotI .i64 ((m.val : Nat) : Int) (2 ^ w.val)) ((u.val : Nat) : Int) = (bitB ((m.val : Nat) : Int) ((u.val : Nat) : Int) && decide (u ≠ w)) ∧ 0 ≤ andNotI .i64 ((m.val : Nat) : Int) (2 ^ w.val) ∧ andNotI .i64 ((m.val : Nat) : Int) (2 ^ w.val) < 32 := by decide +kernel
structure GoodV (v : ViewT) : Prop where
  epoch : 1 ≤ v.epoch
  mem : 1 ≤ v.members ∧ v.members < 32
  ok : ∀ (i : Nat) (h : i < 5), okH v v.heirs[i] i = true
  rng : Rng v
theorem GoodV.right {v : ViewT} (h : GoodV v) : rightV v = true := by
  unfold rightV
  rw [Bool.and_eq_true, decide_eq_true_iff, decide_eq_true_iff]
  exact ⟨⟨h.epoch, h.mem⟩, h.ok⟩
theorem GoodV.of {v : ViewT} (h : rightV v = true) (hr : Rng v) : GoodV v := by
  unfold rightV at h
  rw [Bool.and_eq_true, decide_eq_true_iff, decide_eq_true_iff] at h
  exact ⟨h.1.1, h.1.2, h.2, hr⟩
theorem memb_or {v v' : ViewT} {w u : Int} (hm : 0 ≤ v.members ∧ v.members < 32) (hw : 0 ≤ w ∧ w < 5) (e : v'.members = orI .i64 v.members (2 ^ w.toNat)) : memb v' u = (memb v u || (machB u && decide (u = w))) ∧ 0 ≤ v'.members ∧ v'.members < 32 := by
  obtain ⟨m, hm', e1⟩ : ∃ m : Nat, m < 32 ∧ v.members = (m : Int) := ⟨v.members.toNat, by omega, by omega⟩
  have hb := or_bits ⟨m, hm'⟩ ⟨w.toNat, by omega⟩
  simp only at hb
  rw [← e1, ← e] at hb
  refine ⟨?_, (hb ⟨0, by decide⟩).2⟩
  by_cases hu : 0 ≤ u ∧ u < 5
  · have h1 := (hb ⟨u.toNat, by omega⟩).1
    simp only at h1
    rw [show ((u.toNat : Nat) : Int) = u by omega] at h1
    have hmu : machB u = true := decide_eq_true hu
    simp only [memb, hmu, Bool.true_and, h1, Fin.mk.injEq]
    congr 1
    rw [decide_eq_decide]; omega
  · have hmu : machB u = false := decide_eq_false hu
    simp [memb, hmu]
theorem memb_andNot {v v' : ViewT} {w u : Int} (hm : 0 ≤ v.members ∧ v.members < 32) (hw : 0 ≤ w ∧ w < 5) (e : v'.members = andNotI .i64 v.members (2 ^ w.toNat)) : memb v' u = (memb v u && decide (u ≠ w)) ∧ 0 ≤ v'.members ∧ v'.members < 32 := by
  obtain ⟨m, hm', e1⟩ : ∃ m : Nat, m < 32 ∧ v.members = (m : Int) := ⟨v.members.toNat, by omega, by omega⟩
  have hb := andNot_bits ⟨m, hm'⟩ ⟨w.toNat, by omega⟩
  simp only at hb
  rw [← e1, ← e] at hb
  refine ⟨?_, (hb ⟨0, by decide⟩).2⟩
  by_cases hu : 0 ≤ u ∧ u < 5
  · have h1 := (hb ⟨u.toNat, by omega⟩).1
    simp only at h1
    rw [show ((u.toNat : Nat) : Int) = u by omega] at h1
    have hmu : machB u = true := decide_eq_true hu
    simp only [memb, hmu, Bool.true_and, h1, ne_eq, Fin.mk.injEq]
    congr 1
    rw [decide_eq_decide]; omega
  · have hmu : machB u = false := decide_eq_false hu
    simp [memb, hmu]
theorem mem_pos {v : ViewT} {u : Int} (h0 : 0 ≤ v.members) (h : memb v u = true) : 1 ≤ v.members := by
  have hb : bitB v.members u = true := by simp only [memb, Bool.and_eq_true] at h; exact h.2
  have : v.members ≠ 0 := fun e => by
    rw [e] at hb
    have := of_decide_eq_true hb
    rw [Int.zero_fdiv] at this; omega
  omega
theorem GoodV.step {v : ViewT} (g : GoodV v) (he : v.epoch < 9223372036854775807) (c : ChangeT) : GoodV (stepV v c) ∧ v.epoch ≤ (stepV v c).epoch ∧ (stepV v c).epoch ≤ v.epoch + 1 := by
  have hw1 : IntKind.i64.wrap (v.epoch + 1) = v.epoch + 1 := wrap_i64 (by have := g.epoch; omega) (by omega)
  by_cases hz : (nextV v c).2 = 0
  rotate_left
  · rw [stepV, if_neg hz]; exact ⟨g, by omega, by omega⟩
  rw [stepV, if_pos hz]
  have hr := g.rng.next c
  unfold nextV at hz hr ⊢
  split at hz
  · exact absurd hz (by decide)
  rename_i h1
  rw [if_neg h1] at hr ⊢
  have hm : machB c.who = true ∧ machB c.heir = true := by
    simp only [Bool.or_eq_true, Bool.not_eq_true', not_or, Bool.not_eq_false] at h1; exact h1
  have hwho := of_decide_eq_true hm.1
  have hheir := of_decide_eq_true hm.2
  split at hz
  · rename_i h2
    rw [if_pos h2] at hr ⊢
    split at hz
    · exact absurd hz (by decide)
    rename_i h3
    rw [if_neg h3] at hr ⊢
    simp only [Bool.or_eq_true, not_or, Bool.not_eq_true] at h3
    have hb := fun u => memb_or (v := v) (v' := ⟨IntKind.i64.wrap (v.epoch + 1), orI .i64 v.members (2 ^ c.who.toNat), v.heirs⟩) (u := u) ⟨by have := g.mem; omega, g.mem.2⟩ hwho rfl
    have hh0 : ∀ (i : Nat) (h : i < 5), (i : Int) = c.who → v.heirs[i] = 0 := fun i h e => by
      have := h3.1
      rw [heirV, dif_pos hwho] at this
      have e2 : c.who.toNat = i := by omega
      simp only [e2] at this
      have hr := g.rng i h
      split at this
      · omega
      · cases this
    refine ⟨⟨by show 1 ≤ IntKind.i64.wrap (v.epoch + 1); rw [hw1]; have := g.epoch; omega, ⟨mem_pos (u := c.who) (hb 0).2.1 (by rw [(hb c.who).1, hm.1]; simp), (hb 0).2.2⟩, fun i h => ?_, hr⟩, by show v.epoch ≤ IntKind.i64.wrap (v.epoch + 1); rw [hw1]; omega, by show IntKind.i64.wrap (v.epoch + 1) ≤ _; rw [hw1]; omega⟩
    have ho := g.ok i h
    unfold okH at ho ⊢
    rw [Bool.or_eq_true, decide_eq_true_iff, Bool.and_eq_true] at ho ⊢
    rcases ho with ho | ⟨h4, h5⟩
    · exact .inl ho
    · by_cases q : (i : Int) = c.who
      · exact .inl (hh0 i h q)
      · refine .inr ⟨by rw [(hb _).1]; show (memb v (v.heirs[i] - 1) || _) = true; rw [h4]; rfl, ?_⟩
        rw [(hb _).1, decide_eq_false q, Bool.and_false, Bool.or_false]; exact h5
  · rename_i h2
    rw [if_neg h2] at hr ⊢
    split at hz
    rotate_left
    · exact absurd hz (by decide)
    rename_i h3
    rw [if_pos h3] at hr ⊢
    split at hz
    · exact absurd hz (by decide)
    rename_i h4
    rw [if_neg h4] at hr ⊢
    simp only [Bool.or_eq_true, Bool.not_eq_true', not_or, Bool.not_eq_false, decide_eq_true_iff] at h4
    obtain ⟨⟨m1, m2⟩, m3⟩ := h4
    have hb := fun u => memb_andNot (v := v) (v' := ⟨IntKind.i64.wrap (v.epoch + 1), andNotI .i64 v.members (2 ^ c.who.toNat), leaveV v c⟩) (u := u) ⟨by have := g.mem; omega, g.mem.2⟩ hwho rfl
    refine ⟨⟨by show 1 ≤ IntKind.i64.wrap (v.epoch + 1); rw [hw1]; have := g.epoch; omega, ⟨mem_pos (u := c.heir) (hb 0).2.1 (by rw [(hb c.heir).1, m2]; simpa using m3), (hb 0).2.2⟩, fun i h => ?_, hr⟩, by show v.epoch ≤ IntKind.i64.wrap (v.epoch + 1); rw [hw1]; omega, by show IntKind.i64.wrap (v.epoch + 1) ≤ _; rw [hw1]; omega⟩
    have ho := g.ok i h
    show okH _ ((leaveV v c)[i]) i = true
    rw [leaveV_get v c i h]
    unfold okH at ho ⊢
    rw [Bool.or_eq_true, decide_eq_true_iff, Bool.and_eq_true] at ho ⊢
    unfold leaveH
    by_cases q : (i : Int) = c.who ∨ v.heirs[i] = c.who + 1
    · rw [if_pos q]
      refine .inr ⟨by rw [(hb _).1, show c.heir + 1 - 1 = c.heir by omega, m2]; simpa using m3, ?_⟩
      rw [(hb _).1]
      rcases q with q | q
      · rw [q]; simp
      · rcases ho with ho | ⟨_, h5⟩
        · omega
        · rw [Bool.not_eq_true'] at h5; rw [h5]; rfl
    · rw [if_neg q]
      rcases ho with ho | ⟨h5, h6⟩
      · exact .inl ho
      · refine .inr ⟨by rw [(hb _).1, h5]; simp; omega, ?_⟩
        rw [Bool.not_eq_true'] at h6
        rw [(hb _).1, h6]; rfl
theorem GoodV.first : GoodV firstV := ⟨by decide, by decide, fun i h => by match i, h with | 0, _ | 1, _ | 2, _ | 3, _ | 4, _ => rfl, Rng.first⟩
end Api
end

section
namespace Api
open Go Leg Codec

def rowMsg (x : RepT) : MsgT := { MsgT.zero with kind := 0, whose := x.id, row := x.own }
def newsMsg (id : Int) (x : RowT) : MsgT := { MsgT.zero with kind := 2, whose := id, row := x }
def bit0 (k w : Int) : Bool := decide (k.fdiv (2 ^ min w.toNat IntKind.i64.bits) % 2 = 0)
/-- The witnesses that don't have its row are told it. -/
def tellL (x : RepT) : List SaidT := ((witL x.id).filter fun w => bit0 x.kept w).map fun w => ⟨w, rowMsg x⟩
def newsTo (id : Int) (x : RowT) (k : Nat) : List SaidT := ((List.range k).filter fun i : Nat => !decide (((i : Nat) : Int) = id)).map fun i : Nat => ⟨((i : Nat) : Int), newsMsg id x⟩
def newsL (id : Int) (x : RowT) : List SaidT := newsTo id x 5
theorem newsTo_succ (id : Int) (x : RowT) (k : Nat) : newsTo id x (k + 1) = newsTo id x k ++ (if ((k : Nat) : Int) = id then [] else [⟨((k : Nat) : Int), newsMsg id x⟩]) := by
  unfold newsTo
  rw [List.range_succ, List.filter_append, List.map_append]
  by_cases h : ((k : Nat) : Int) = id <;> simp [h]
/-- Nobody's heir. -/
def Alone (x : RepT) : Prop := Rng x.view ∧ ∀ i : Nat, i < 5 → heirV x.view ((i : Nat) : Int) ≠ some x.id
end Api
namespace Api
open Go Leg Codec
/-- The row that an op makes, or the value that it reads. -/
def growOf (x : RepT) (o : OpT) : RowT × Int :=
  if o.kind = 0 then rowInc x.own o.key o.n else if o.kind = 1 then rowDec x.own o.key o.n else if o.kind = 2 then (if o.to' ≠ x.id then rowGive x.own o.key o.n o.to' else (.zero, 5)) else (.zero, 5)
def planF (x : RepT) (o : OpT) : RowT × Int × Int :=
  if memb x.view x.id = false then (.zero, 0, 9) else if keyB o.key = false then (.zero, 0, 5) else if o.kind = 3 then (.zero, bookValue x.book o.key, 0) else if x.busy then (.zero, 0, 8)
  else if (growOf x o).2 ≠ 0 then (.zero, 0, (growOf x o).2) else if o.kind ≠ 0 ∧ bookRights x.book x.id o.key < o.n then (.zero, 0, 7) else ((growOf x o).1, 0, 0)
def rowRec (y : RowT) : RecT := { RecT.zero with kind := 0, row := y }
def growF (x : RepT) (y : RowT) (op : Int) : RepT := { x with own := y, busy := true, kept := 0, waits := op }
end Api
namespace Api
open Go Leg Codec
def enterF (x : RepT) (v : ViewT) : RepT := { x with view := v, acc := { AccT.zero with epoch := v.epoch }, vote := .pointer none, round := 0 }
/-- A machine on a new disk. -/
def newRep (id : Int) (lg : Nat) : RepT := enterF { RepT.zero with id := id, log := .pointer (some ⟨lg, 0, none⟩) } firstV
def opsF (x : RepT) : RepT := { x with ops := w64 (x.ops + 1) }
theorem rowRec_len (y : RowT) : (encR (rowRec y)).length ≤ 1760 := by
  have h1 := encRow_len y
  have h2 := encs_len [(0 : Int)]
  simp only [encR, rowRec, if_true, List.length_append, List.length_cons, List.length_nil] at *
  omega
end Api
namespace Api
open Go Leg Codec
/-- All witnesses have its row: it counts. -/
def countF (x : RepT) : RepT := { x with busy := false, book := (bookMerge x.book x.id x.own).1, waits := if x.waits > 0 then 0 else x.waits }
def countR (x : RepT) (rs : List ReplyT) : List ReplyT := if x.waits > 0 then rs ++ [⟨x.waits, 0, 0⟩] else rs
def keptB (x : RepT) (from' ver : Int) : Bool := x.busy && decide (ver = x.own.version) && decide (from' ∈ witL x.id)
def keptX (x : RepT) (from' : Int) : RepT := { x with kept := orI .i64 x.kept (IntKind.i64.wrap (1 * 2 ^ min from'.toNat IntKind.i64.bits)) }
def fullB (x : RepT) : Bool := (witL x.id).all fun w => !bit0 x.kept w
def keptS (x : RepT) (from' ver : Int) : RepT := if keptB x from' ver then (if fullB (keptX x from') then countF (keptX x from') else keptX x from') else x
def keptR (x : RepT) (from' ver : Int) (rs : List ReplyT) : List ReplyT := if keptB x from' ver && fullB (keptX x from') then countR x rs else rs
def keptO (x : RepT) (from' ver : Int) : List SaidT := if keptB x from' ver && fullB (keptX x from') then newsL x.id x.own else []
end Api
namespace Api
open Go Leg Codec
/-- What a client's op makes of a machine. -/
def cN (x : RepT) (o : OpT) : RowT × Int × Int := planF (opsF x) o
def doneB (x : RepT) (o : OpT) : Bool := decide ((cN x o).2.2 ≠ 0 ∨ o.kind = 3)
def clientX (x : RepT) (o : OpT) : RepT := if doneB x o then opsF x else growF (opsF x) (cN x o).1 (opsF x).ops
def clientC (x : RepT) (o : OpT) (recs : List (List UInt8)) : List (List UInt8) := if doneB x o then recs else recs ++ [encR (rowRec (cN x o).1)]
def clientR (x : RepT) (o : OpT) (rs : List ReplyT) : List ReplyT := if doneB x o then rs ++ [ReplyT.mk (opsF x).ops (cN x o).2.2 (cN x o).2.1] else rs
def clientO (x : RepT) (o : OpT) : List SaidT := if doneB x o then [] else tellL (growF (opsF x) (cN x o).1 (opsF x).ops)
theorem alone_first {x : RepT} (h : x.view = firstV) : Alone x := by
  unfold Alone
  rw [h]
  refine ⟨Rng.first, fun i hi => ?_⟩
  match i, hi with
  | 0, _ | 1, _ | 2, _ | 3, _ | 4, _ => exact fun e => nomatch (show (none : Option Int) = some x.id from e)
end Api
namespace Api
open Go Leg Codec
theorem keptS_rep (y : RepT) (v : Value) (w ver : Int) : keptS { y with replies := v } w ver = { keptS y w ver with replies := v } := by
  unfold keptS
  rw [show keptB { y with replies := v } w ver = keptB y w ver from rfl, show fullB (keptX { y with replies := v } w) = fullB (keptX y w) from rfl]
  split
  · split <;> rfl
  · rfl
theorem keptS_own (y : RepT) (w ver : Int) : (keptS y w ver).own = y.own ∧ (keptS y w ver).id = y.id ∧ (keptS y w ver).view = y.view ∧ (keptS y w ver).log = y.log ∧ (keptS y w ver).ops = y.ops := by
  unfold keptS
  split
  · split <;> exact ⟨rfl, rfl, rfl, rfl, rfl⟩
  · exact ⟨rfl, rfl, rfl, rfl, rfl⟩
theorem keptO_len (y : RepT) (w ver : Int) : (keptO y w ver).length ≤ 5 := by
  unfold keptO
  split
  · unfold newsL newsTo
    rw [List.length_map]
    exact Nat.le_trans (List.length_filter_le _ _) (by simp)
  · simp
theorem keptR_len (y : RepT) (w ver : Int) (rs : List ReplyT) : (keptR y w ver rs).length ≤ rs.length + 1 := by
  unfold keptR countR
  split
  · split <;> simp
  · simp
end Api
end

section
namespace Leg
open Go Go.ChangeShapes Go.WideShapes Codec Api

section
variable {P : Program} {W : World} {H : Type} {enc : TypeId × Value → H} {B0 : Nat} {spare : Nat → Bool} {held : Bool}
theorem trod_boolL {t : TypeId} {fuel : Nat} {cs : List Value} {x : DataW H × List MemPlace} (ht : P.underlying t = some .bool) (h : DataW.trod enc P W B0 spare held fuel t cs = some x) : ∃ b, cs = [.bool b] := by
  cases fuel with
  | zero => simp [DataW.trod] at h
  | succ n =>
    unfold DataW.trod at h
    rw [ht] at h
    split at h <;> simp_all
theorem Fits.append {a b : List (Option IntKind)} {x y : List Lit} (h : Fits a x) (g : Fits b y) : Fits (a ++ b) (x ++ y) :=
  ⟨by rw [List.map_append, List.map_append, h.1, g.1], fun l hl => (List.mem_append.1 hl).elim (h.2 l) (g.2 l)⟩
theorem fields_in {d : Nat} (ih : ∀ t ks, flatK P d t = some ks → ∀ fuel cs x, DataW.trod enc P W B0 spare held fuel t cs = some x → ∃ ls, Fits ks ls ∧ cs = ls.map cellL) (cs : List Value) (n : Nat) :
    ∀ (fs : List Field) (o : Nat) (ks : List (Option IntKind)), flatKF P (flatK P d) fs o = some ks → cs.length = o + ks.length →
      (∀ f ∈ fs, ∃ y, DataW.trod enc P W B0 spare held n f.type ((cs.drop f.offset).take (P.cellsOf f.type)) = some y) → ∃ ls, Fits ks ls ∧ cs.drop o = ls.map cellL
  | [], o, ks, h, hl, _ => by
    simp only [flatKF, Option.some.injEq] at h
    subst h
    exact ⟨[], ⟨rfl, fun _ h => by cases h⟩, by rw [List.drop_of_length_le (by simpa using Nat.le_of_eq hl)]; rfl⟩
  | f :: fs, o, ks, h, hl, hf => by
    simp only [flatKF] at h
    split at h
    · rename_i c hc
      split at h
      · rename_i hh
        obtain ⟨m, hm, rfl⟩ := Option.map_eq_some_iff.1 h
        rw [List.length_append] at hl
        obtain ⟨y, hy⟩ := hf f (by simp)
        rw [hh.1, hh.2] at hy
        obtain ⟨l1, f1, e1⟩ := ih f.type c hc n _ _ hy
        obtain ⟨l2, f2, e2⟩ := fields_in ih cs n fs (o + c.length) m hm (by omega) (fun g hg => hf g (by simp [hg]))
        refine ⟨l1 ++ l2, f1.append f2, ?_⟩
        rw [List.map_append, ← e1, ← e2, ← List.drop_drop]
        exact (List.take_append_drop _ _).symm
      · cases h
    · cases h
/-- A value of a flat type: what it is. -/
theorem flat_in : ∀ (d : Nat) (t : TypeId) (ks : List (Option IntKind)), flatK P d t = some ks → ∀ fuel cs x, DataW.trod enc P W B0 spare held fuel t cs = some x → ∃ ls, Fits ks ls ∧ cs = ls.map cellL
  | 0, _, _, h => by simp [flatK] at h
  | d + 1, t, ks, h => fun fuel cs x hx => by
    have ih := flat_in d
    simp only [flatK] at h
    split at h
    · rename_i q hu
      simp only [Option.some.injEq] at h
      subst h
      obtain ⟨n, rfl, _, hw⟩ := DataW.trod_int hu hx
      exact ⟨[.int q n], ⟨rfl, by simpa using hw⟩, rfl⟩
    · rename_i hu
      simp only [Option.some.injEq] at h
      subst h
      obtain ⟨b, rfl⟩ := trod_boolL hu hx
      exact ⟨[.bool b], ⟨rfl, by simp [Lit.wf]⟩, rfl⟩
    · rename_i n e hu
      split at h
      · rename_i c hc
        split at h
        · rename_i hh
          simp only [Option.some.injEq] at h
          subst h
          obtain ⟨xs, m, _, _, hl, hxl, hxi⟩ := DataW.trod_array hu hx
          rw [hh.2] at hl
          have each : ∀ k, k ≤ n → ∃ ls, Fits (List.replicate k c).flatten ls ∧ cs.take (k * c.length) = ls.map cellL := by
            intro k
            induction k with
            | zero => intro _; exact ⟨[], ⟨rfl, fun _ h => by cases h⟩, by simp⟩
            | succ k ihk =>
              intro hk
              obtain ⟨l1, f1, e1⟩ := ihk (by omega)
              have hy := hxi k (by omega)
              rw [List.getElem?_eq_getElem (by omega), hh.1] at hy
              obtain ⟨l2, f2, e2⟩ := ih e c hc m _ _ hy
              refine ⟨l1 ++ l2, ?_, ?_⟩
              · rw [List.replicate_succ', List.flatten_append]
                simpa using f1.append f2
              · rw [List.map_append, ← e1, ← e2, Nat.add_mul, Nat.one_mul, List.take_add]
          obtain ⟨ls, f, e⟩ := each n (Nat.le_refl _)
          rw [List.take_of_length_le (by omega)] at e
          exact ⟨ls, f, e⟩
        · cases h
      · cases h
    · rename_i fs hu
      split at h
      · rename_i m' hc
        split at h
        · rename_i hh
          simp only [Option.some.injEq] at h
          subst h
          obtain ⟨xs, m, _, _, hl, hxl, hxi⟩ := DataW.trod_struct hu hx
          have := fields_in (fun t ks h => ih t ks h) cs m fs.toList 0 _ hc (by rw [hl, hh.1, Nat.zero_add]) (fun f hf => by
            obtain ⟨i, hi⟩ := List.getElem?_of_mem hf
            have hi' : fs[i]? = some f := by simpa using hi
            have := hxi i f hi'
            have hlt := (Array.getElem?_eq_some_iff.1 hi').1
            rw [List.getElem?_eq_getElem (by omega)] at this
            exact ⟨_, this⟩)
          simpa using this
        · cases h
      · cases h
    · cases h
theorem fits_ints {c : Nat} {ls : List Lit} (h : Fits (List.replicate c (some .i64)) ls) : ∃ l, ls = litI l ∧ l.length = c ∧ WF l := by
  obtain ⟨h1, h2⟩ := h
  have e : ∀ x ∈ ls, ∃ n, x = .int .i64 n := fun x hx => by
    have : kindL x ∈ ls.map kindL := List.mem_map_of_mem hx
    rw [h1, List.map_replicate] at this
    have := List.eq_of_mem_replicate this
    cases x <;> simp only [kindL, Option.some.injEq, reduceCtorEq] at this
    subst this
    exact ⟨_, rfl⟩
  refine ⟨ls.map fun x => match x with | .int _ n => n | _ => 0, ?_, ?_, ?_⟩
  · rw [litI, List.map_map]
    conv => lhs; rw [← List.map_id ls]
    refine List.map_congr_left fun x hx => ?_
    obtain ⟨n, rfl⟩ := e x hx
    rfl
  · have := congrArg List.length h1
    simpa using this
  · intro n hn
    obtain ⟨x, hx, rfl⟩ := List.mem_map.1 hn
    obtain ⟨n, rfl⟩ := e x hx
    exact h2 _ hx
theorem litI_cells (l : List Int) : (litI l).map cellL = ints l := by simp [litI, ints, cellL]

theorem block_of_cell {a : Addr} {v : Value} (h : W.cell? a = some v) : ∃ b o cs T z, a = ⟨b, o, none⟩ ∧ W.heap[b]? = some (.cells (List.toArray cs) T z) ∧ cs[o]? = some v := by
  obtain ⟨b, o, s⟩ := a
  simp only [World.cell?] at h
  split at h
  · rename_i cs T z hb
    cases s with
    | some s => simp at h
    | none => exact ⟨b, o, cs.toList, T, z, rfl, by simpa using hb, by simpa using h⟩
  · cases h
/-- A slice of whatever elements. -/
theorem listT_in {t e : TypeId} {fuel size : Nat} {α : Type} {E : List Value → α → Hl → Prop} {cs : List Value} {x : DataW H × List MemPlace} (ht : P.underlying t = some (.slice e)) (hc : P.cellsOf e = size) (hs : 0 < size)
    (hE : ∀ fuel cs x, DataW.trod enc P W B0 spare held fuel e cs = some x → ∃ a, E cs a (hp W)) (h : DataW.trod enc P W B0 spare held fuel t cs = some x) : ∃ u l, cs = [u] ∧ IsL size E u l (hp W) := by
  classical
  rcases Deep.open_slice ht h with ⟨rfl, _⟩ | ⟨a, len, cap, m, n, D, Pl, rfl, _, hl, hm, hmm, _, hx⟩
  · exact ⟨_, [], rfl, .inl ⟨rfl, rfl⟩⟩
  · have hlm : len ≤ m := by rw [hmm]; split <;> omega
    by_cases h0 : len = 0
    · subst h0
      exact ⟨_, [], rfl, .inr (.inl ⟨a, cap, rfl, rfl⟩)⟩
    · have first : ∃ v, W.cell? a = some v := by
        obtain ⟨cs', h1, _⟩ := hx 0 (by omega)
        obtain ⟨_, h2, h3⟩ := World.cells?_some h1
        have := h3 0 (by omega)
        rw [Nat.zero_mul, show (a.add 0).add 0 = a from rfl, List.getElem?_eq_getElem (by omega)] at this
        exact ⟨_, this⟩
      obtain ⟨v, hv⟩ := first
      obtain ⟨b, o, bs, T, z, rfl, hb, _⟩ := block_of_cell hv
      have each : ∀ i, i < len → ∃ us, us.length = size ∧ (bs.drop (o + i * size)).take size = us ∧ ∃ x, E us x (hp W) := fun i hi => by
        obtain ⟨cs', h1, h2⟩ := hx i (by omega)
        obtain ⟨_, h3, h4⟩ := World.cells?_some h1
        rw [hc] at h3 h4
        refine ⟨cs', h3, ?_, hE _ _ _ h2⟩
        apply List.ext_getElem?
        intro k
        rw [List.getElem?_take]
        split
        · rename_i hk
          have := h4 k hk
          rw [addL, addL] at this
          simp only [World.cell?, hb, Option.isSome_none, Bool.false_eq_true, if_false] at this
          rw [List.getElem?_drop]
          simpa using this
        · rw [List.getElem?_eq_none (by omega)]
      obtain ⟨f, hf⟩ : ∃ f : Nat → α, ∀ i, i < len → E ((bs.drop (o + i * size)).take size) (f i) (hp W) := by
        have each' : ∀ i, i < len → ∃ x, E ((bs.drop (o + i * size)).take size) x (hp W) := fun i hi => by
          obtain ⟨us, _, e2, q⟩ := each i hi
          rw [e2]; exact q
        obtain ⟨x, _⟩ := each' 0 (by omega)
        haveI : Inhabited α := ⟨x⟩
        exact Deep.choose_lt each'
      refine ⟨_, (List.range len).map f, rfl, .inr (.inr ⟨b, o, cap, bs, T, z, by simp, by simpa using hl, by simpa [maxLen] using hm, hb, fun j hj => ?_⟩)⟩
      have hj' : j < len := by simpa using hj
      obtain ⟨us, e1, e2, _⟩ := each j hj'
      exact ⟨us, e1, e2, by rw [← e2]; simpa using hf j hj'⟩
theorem listV_in {t e : TypeId} {size : Nat} {α : Type} {E : List Value → α → Hl → Prop} {v : Value} {d : DataW H} {ps : List MemPlace} (ht : P.underlying t = some (.slice e)) (hc : P.cellsOf e = size) (hs : 0 < size) (hv : Value.okWide P W .any B0 t v)
    (hE : ∀ fuel cs x, DataW.trod enc P W 0 spare held fuel e cs = some x → ∃ a, E cs a (hp W)) (hd : DataW.Trod enc P W 0 spare held t v d ps) : ∃ l, IsL size E v l (hp W) := by
  obtain ⟨fuel, hf⟩ := hd
  obtain ⟨u, l, h1, h2⟩ := listT_in ht hc hs hE hf
  obtain ⟨a, len, cap, rfl⟩ := WideShapes.okWide_slice ht hv
  simp [Value.cells] at h1
  subst h1
  exact ⟨l, h2⟩
end
end Leg
end

section
namespace Leg
open Go

section
variable {P : Program} {w0 : World} {F : Hl} {n : Nat} {ops : Array Oper} {Q : QQ} {D : List Deferred} {L : List (Nat × Value)} {H : List HP} {o : Oper} {l : List Oper} {d : Nat} {S : World → Prop}
/-- Which function a method is. -/
def IsMethod (P : Program) (t : TypeId) (rv : Value) (nm : String) (f : FuncId) : Prop := ∀ w, (method (P.types.size + Made.depth) t rv nm).run P w = .ok (f, rv) w
theorem TL.callI {recv : Operand} {nm : String} {t : TypeId} {rv : Value} {f : FuncId} {xs : Array Operand} {ts : Array TypeId} {vs : List Value} {R : Hl → Prop} {A B : List HP} {p : Value → List HP → Prop} (hw : Want n D ops o L)
    (ho : o.op = .call { callee := .invoke recv nm, args := xs, argTypes := ts }) (hd : o.dst = some d) (hn : Nat.blt d n = true) (hr : evL L recv = some (.iface t rv)) (hm : IsMethod P t rv nm f) (hf : Named P f) (hx : evs L xs.toList = some vs)
    (sp : Does P f (rv :: vs).toArray R A (Ret p)) (hp : ∀ h, sep H h → sep (A ++ B) h) (hR : ∀ g, Dj g F → sep B g → R (jn g F))
    (hret : ∀ v H', p v H' → TL P w0 F n ops Q l D ((d, v) :: L) (H' ++ B)) : TL P w0 F n ops Q (o :: l) D L H :=
  TL.callw hw (fun a w g => by
      have e : xs.map a.eval = vs.toArray := g.evals hx
      have e2 : a.eval recv = .iface t rv := g.eval hr
      have e3 := hm w
      simp [execOp, ho, resolve, invoke, callMethod, e, e2, e3, run_callFunc hf])
    sp hp hR (fun v H' q a g w s m => by rw [hd]; exact hret v H' q _ w (g.put (lb hn) v) s m) (fun _ _ h => h.elim) (fun _ h => h)
theorem TE.retCTT {H' : List HP} {fn : Func} {post : Ending → List HP → Prop} {t t' t2 ty e m b : Nat} {cs : List Value} {z : Nat × Nat} {dt : TypeDesc} {v' v2 : Value} (hr : fn.results = #[.cell t ty, .tmp t', .tmp t2]) (he : lk L t = some (.pointer (some ⟨b, 0, none⟩))) (e' : lk L t' = some v') (e2 : lk L t2 = some v2)
    (hu : P.underlying ty = some dt) (hp : plainT dt = false) (hm : (P.info? ty).map (·.size) = some m) (hR : Rd (Sat H F) b (.cells cs.toArray e z)) (hl : cs.length = m) (hk : ∀ h, sep H h → sep H' h)
    (h : post (.returned (.tuple #[.agg cs.toArray, v', v2])) H') : TE w0 F n (bodyPost P fn (postOf post w0 F)) .ret [] L H := fun a w f s q => by
  have h1 : a.tmps.getD t undef = .pointer (some ⟨b, 0, none⟩) := f.eval (x := .tmp t) he
  have h2 : a.tmps.getD t' undef = v' := f.eval (x := .tmp t') e'
  have h4 : a.tmps.getD t2 undef = v2 := f.eval (x := .tmp t2) e2
  have h3 : (results fn a.tmps).run P w = .ok (.tuple #[.agg cs.toArray, v', v2]) w := by
    have h1' : a.tmps[t]?.getD undef = .pointer (some ⟨b, 0, none⟩) := by simpa using h1
    have h2' : a.tmps[t']?.getD undef = v' := by simpa using h2
    have h4' : a.tmps[t2]?.getD undef = v2 := by simpa using h4
    simp [results, hr, h1', h2', h4', asAddr, run_loadVar_row w b e ty cs.toArray z dt (hR w q) hu (by cases dt <;> simp [plainT] at hp ⊢) (by simp [hm, hl])]
  exact bodyPost_ret h3 f.2.1 ⟨s, H', q.mono hk, h⟩
theorem PV.ifaceNotNil {t t' u : TypeId} {x : Operand} {v : Value} {ms : Array (String × TypeId)} (ho : o.op = .binOp .neq t x (.const .nilIface) t') (ht : P.underlying t = some (.interface ms)) (hx : evL L x = some (.iface u v)) : PV P n D L S o (.bool true) :=
  PV.bin ho hx rfl fun w => by
    have := eqIn_ifaceNil (P := P) (w := w) 9999 (u := u) (v := v) ht
    simp [eqGuard, binOp, Op.equal, Op.maxDepth, this]
end
/-- An owned slice of numbers, lent to be read. -/
theorem isI_own (i : Nat) {v : Value} {l : List Int} {e : Nat} {B : List HP} {F : Hl} (hi : Nat.blt i B.length = true) (hH : B.getD i (fun _ => True) = own v l.length (Api.ints l) e 1) : ∀ g, Dj g F → sep B g → IsI .i64 v l (jn g F) := fun g _ s => by
  obtain ⟨h1, h2, d', rfl, a, _⟩ := sep_get i (lb hi) s
  rw [hH] at a
  rcases a with ⟨_, ⟨h0, hn, _⟩ | ⟨g, cap, cur, hv, hh, h3, h4, h5, h6⟩⟩
  · exact .inl ⟨h0, List.eq_nil_of_length_eq_zero hn⟩
  · refine .inr ⟨g, 0, cap, cur.toList, e, (0, 0), hv, h3, by simp only [maxLen] at h4; omega, jn_some (jn_some (by rw [hh]; simp [sg])), fun j hj => ?_⟩
    rw [Nat.mul_one] at h6
    have e1 : (cur.toList.take l.length)[j]? = some (.int .i64 (l.getD j 0)) := by rw [h6]; exact Api.ints_get l j hj
    rw [List.getElem?_take, if_pos hj] at e1
    simpa using e1
end Leg
end

section
namespace Dsk
open Go Leg Codec Api

abbrev Sec := List UInt8
def zs : Sec := List.replicate 64 0
def secV (b : Sec) : Value := .agg (u8s b).toArray
abbrev Secs := List (Int × Sec)
def sget (s : Secs) (k : Int) : Sec := match s with
  | [] => zs
  | (a, b) :: s => if k = a then b else sget s k
def sput (s : Secs) (k : Int) (v : Sec) : Secs := match s with
  | [] => [(k, v)]
  | (a, b) :: s => if k = a then (a, v) :: s else (a, b) :: sput s k v
theorem sget_put (s : Secs) (k j : Int) (v : Sec) : sget (sput s k v) j = if j = k then v else sget s j := by
  induction s with
  | nil => simp [sput, sget]
  | cons p s ih =>
    obtain ⟨a, b⟩ := p
    simp only [sput]
    by_cases h : k = a
    · subst h
      rw [if_pos rfl]
      by_cases h2 : j = k
      · simp [sget, h2]
      · simp [sget, h2]
    · rw [if_neg h]
      simp only [sget]
      by_cases h2 : j = a
      · subst h2
        rw [if_pos rfl, if_pos rfl, if_neg (by omega)]
      · rw [if_neg h2, if_neg h2, ih]
def kvS (s : Secs) : List (Int × Value) := s.map fun p => (p.1, secV p.2)
theorem kget_kvS (s : Secs) (k : Int) : (kget (kvS s) k).getD (secV zs) = secV (sget s k) := by
  induction s with
  | nil => rfl
  | cons p s ih =>
    obtain ⟨a, b⟩ := p
    simp only [kvS, List.map_cons, kget, sget] at ih ⊢
    split
    · rfl
    · exact ih
theorem kput_kvS (s : Secs) (k : Int) (v : Sec) : kput (kvS s) k (secV v) = kvS (sput s k v) := by
  induction s with
  | nil => rfl
  | cons p s ih =>
    obtain ⟨a, b⟩ := p
    simp only [kvS, List.map_cons, kput, sput] at ih ⊢
    split
    · rfl
    · rw [ih]; rfl
/-- A write's cells. -/
def wcell (p : Int × Sec) : List Value := .int .i64 p.1 :: u8s p.2
def wflat (ws : Secs) : List Value := ws.flatMap wcell
/-- Bytes, padded to a sector. -/
def padS (b : List UInt8) : Sec := b ++ List.replicate (64 - b.length) 0
theorem padS_len {b : List UInt8} (h : b.length ≤ 64) : (padS b).length = 64 := by simp [padS]; omega
/-- All sectors are whole. -/
def Whole (s : Secs) : Prop := ∀ p ∈ s, p.2.length = 64
theorem wcell_len {p : Int × Sec} (h : p.2.length = 64) : (wcell p).length = 65 := by simp [wcell, u8s, h]
/-- The write at a place. -/
theorem wflat_get {ws : Secs} (h : Whole ws) {k : Nat} (hk : k < ws.length) : ((wflat ws).drop (k * 65)).take 65 = wcell ws[k] := by
  induction ws generalizing k with
  | nil => simp at hk
  | cons p ws ih =>
    have h1 := wcell_len (h p (by simp))
    simp only [wflat, List.flatMap_cons] at ih ⊢
    cases k with
    | zero =>
      simp only [Nat.zero_mul, List.drop_zero, List.getElem_cons_zero]
      rw [List.take_append_of_le_length (by omega), List.take_of_length_le (by omega)]
    | succ k =>
      rw [List.drop_append, List.drop_of_length_le (by omega), h1, show (k + 1) * 65 - 65 = k * 65 by omega, List.nil_append]
      simpa using ih (fun q hq => h q (by simp [hq])) (by simpa using hk)
theorem sget_whole {s : Secs} (h : Whole s) (k : Int) : (sget s k).length = 64 := by
  induction s with
  | nil => simp [sget, zs]
  | cons p s ih =>
    obtain ⟨a, b⟩ := p
    simp only [sget]
    split
    · exact h (a, b) (by simp)
    · exact ih fun q hq => h q (by simp [hq])
theorem Whole.put {s : Secs} (h : Whole s) (k : Int) {v : Sec} (hv : v.length = 64) : Whole (sput s k v) := by
  induction s with
  | nil => intro p hp; simp only [sput, List.mem_singleton] at hp; subst hp; exact hv
  | cons p s ih =>
    obtain ⟨a, b⟩ := p
    intro q hq
    simp only [sput] at hq
    split at hq
    · rcases List.mem_cons.1 hq with rfl | hq
      · exact hv
      · exact h q (by simp [hq])
    · rcases List.mem_cons.1 hq with rfl | hq
      · exact h (a, b) (by simp)
      · exact ih (fun q hq => h q (by simp [hq])) q hq
theorem Whole.add {s : Secs} (h : Whole s) (k : Int) {v : Sec} (hv : v.length = 64) : Whole (s ++ [(k, v)]) := fun p hp => by
  rcases List.mem_append.1 hp with hp | hp
  · exact h p hp
  · simp only [List.mem_singleton] at hp; subst hp; exact hv
section
variable {P : Program} {n : Nat} {D : List Deferred} {L : List (Nat × Value)} {S : World → Prop} {o : Oper}
theorem PV.mapNil {t t' k e m : TypeId} {x y : Operand} (ho : o.op = .binOp .eql t x y t') (hu : P.underlying t = some (.map k e)) (hx : evL L x = some (.map (some m))) (hy : evL L y = some (.map none)) : PV P n D L S o (.bool false) :=
  PV.bin ho hx hy fun w => by
    have e : (Op.equal t (.map (some m)) (.map none)).run P w = .ok false w := run_equalIn_map_nil w 9999 t k e (some m) hu
    simp [eqGuard, binOp, e]
end
end Dsk
namespace Dsk
open Go Leg Codec Api
theorem wr_pad {k : Int} {b : List UInt8} (h : b.length ≤ 64) : wr (.int .i64 k :: u8s zs) 1 ((u8s b).take (min b.length 64)) = wcell (k, padS b) := by
  have e : (u8s b).take (min b.length 64) = u8s b := List.take_of_length_le (by rw [u8s_length]; omega)
  rw [e, wr, u8s_length]
  have e2 : (Value.int IntKind.i64 k :: u8s zs).drop (1 + b.length) = u8s (List.replicate (64 - b.length) 0) := by
    rw [show 1 + b.length = b.length + 1 by omega, List.drop_succ_cons]
    rw [u8s, u8s, zs, ← List.map_drop, List.drop_replicate]
  rw [e2]
  simp only [wcell, padS, u8s, List.map_append, List.take_succ_cons, List.take_zero, List.cons_append, List.nil_append]
/-- A fold that lays a list's values in, one behind the other. -/
theorem fold_set (vs : List Value) : ∀ (j : Nat) (pre zeros : List Value), pre.length = j → zeros.length = vs.length →
    ((vs.zipIdx j).foldl (fun (cs : Array Value) (c, i) => cs.setIfInBounds (0 + i) c) (pre ++ zeros).toArray) = (pre ++ vs).toArray := by
  induction vs with
  | nil => intro j pre zeros _ h; rw [List.eq_nil_of_length_eq_zero h]; rfl
  | cons v vs ih =>
    intro j pre zeros hp hz
    match zeros, hz with
    | z :: zeros, hz =>
      rw [List.zipIdx_cons, List.foldl_cons]
      have e : (pre ++ z :: zeros).toArray.setIfInBounds (0 + j) v = ((pre ++ [v]) ++ zeros).toArray := by
        rw [Nat.zero_add, List.setIfInBounds_toArray, List.set_append_right _ _ (by omega), hp, Nat.sub_self, List.set_cons_zero, List.append_assoc]
        rfl
      simp only [e]
      rw [ih (j + 1) (pre ++ [v]) zeros (by simp [hp]) (by simpa using hz), List.append_assoc]
      rfl
theorem fill_whole {zeros : Array Value} {vs : List Value} (h : zeros.size = vs.length) : Instr.fill (fun i => some (i * vs.length, vs.length)) zeros [(0, .agg vs.toArray)] = some vs.toArray := by
  have e := fold_set vs 0 [] zeros.toList rfl (by simpa using h)
  simp only [List.nil_append, Array.toArray_toList] at e
  simp only [Instr.fill, Value.cells, List.size_toArray, Nat.zero_mul, Nat.zero_add, ne_eq, not_true_eq_false, false_or, decide_false, Bool.false_or]
  rw [if_neg (by simp [h])]
  rw [← Array.foldl_toList, Array.toList_zipIdx]
  simp only [Nat.zero_add] at e
  rw [e]
theorem fill_at {zeros : Array Value} {vs : List Value} {size : Nat} (h : vs.length = size) (hz : zeros.size = size) : Instr.fill (fun i => some (i * size, size)) zeros [(0, .agg vs.toArray)] = some vs.toArray := by
  subst h; exact fill_whole hz
theorem wcell_one (p : Int × Sec) : ∀ u ∈ wcell p, u.oneCell' = true := by
  intro u hu
  rcases List.mem_cons.1 hu with rfl | hu
  · rfl
  · exact u8s_one _ u hu
end Dsk
namespace Leg
open Go
section
variable {P : Program} {w0 : World} {F : Hl} {n : Nat} {ops : Array Oper} {Q : QQ} {D : List Deferred} {L : List (Nat × Value)} {H : List HP} {l : List Oper}
end
end Leg
namespace Dsk
open Go Leg Codec Api
/-- The write at a place. -/
def wat (ws : Secs) (k : Nat) : Int × Sec := ws.getD k (0, zs)
theorem wat_eq {ws : Secs} {k : Nat} (hk : k < ws.length) : wat ws k = ws[k] := by simp [wat, List.getD_eq_getElem?_getD, hk]
theorem wat_len {ws : Secs} (h : Whole ws) {k : Nat} (hk : k < ws.length) : (wat ws k).2.length = 64 := by rw [wat_eq hk]; exact h _ (List.getElem_mem hk)
theorem wflat_atN {ws : Secs} (h : Whole ws) {k : Nat} (hk : k < ws.length) : ((wflat ws).drop (k * 65)).take 65 = wcell (wat ws k) := by rw [wat_eq hk]; exact wflat_get h hk
theorem wflat_at0 {ws : Secs} (h : Whole ws) {k : Nat} (hk : k < ws.length) : (wflat ws)[k * 65]? = some (.int .i64 (wat ws k).1) := by
  have e := congrArg (fun l : List Value => l[0]?) (wflat_atN h hk)
  simpa [wcell] using e
theorem wflat_at1 {ws : Secs} (h : Whole ws) {k : Nat} (hk : k < ws.length) : ((wflat ws).drop (k * 65 + 1)).take 64 = u8s (wat ws k).2 := by
  have e := congrArg (fun l : List Value => l.drop 1) (wflat_atN h hk)
  simp only [List.drop_take, List.drop_drop, wcell, List.drop_succ_cons, List.drop_zero] at e
  exact e
theorem wcell_tail {p : Int × Sec} (h : p.2.length = 64) : ((wcell p).drop 1).take 64 = u8s p.2 := by
  simp only [wcell, List.drop_succ_cons, List.drop_zero]
  exact List.take_of_length_le (by rw [u8s_length, h]; exact Nat.le_refl _)
/-- The first k writes laid down. -/
def layN (s ws : Secs) : Nat → Secs
  | 0 => s
  | k + 1 => sput (layN s ws k) (wat ws k).1 (wat ws k).2
theorem Whole.lay {s ws : Secs} (h : Whole s) (hw : Whole ws) : ∀ k, k ≤ ws.length → Whole (layN s ws k)
  | 0, _ => h
  | k + 1, hk => (Whole.lay h hw k (by omega)).put _ (wat_len hw (by omega))
/-- A sector as it was written last. -/
def readN (s ws : Secs) (at' : Int) : Nat → Sec
  | 0 => sget s at'
  | k + 1 => if (wat ws k).1 = at' then (wat ws k).2 else readN s ws at' k
theorem readN_len {s ws : Secs} (h : Whole s) (hw : Whole ws) (at' : Int) : ∀ k, k ≤ ws.length → (readN s ws at' k).length = 64
  | 0, _ => sget_whole h _
  | k + 1, hk => by
    simp only [readN]
    split
    · exact wat_len hw (by omega)
    · exact readN_len h hw at' k (by omega)
theorem readN_hit {s ws : Secs} {at' : Int} {k : Nat} (h : (wat ws k).1 = at') : readN s ws at' (k + 1) = (wat ws k).2 := by simp [readN, h]
theorem readN_miss {s ws : Secs} {at' : Int} {k : Nat} (h : (wat ws k).1 ≠ at') : readN s ws at' (k + 1) = readN s ws at' k := by simp [readN, h]
/-- A disk in plain words. -/
structure DS where
  s : Secs
  ws : Secs
  ar : Bool
  lf : Int
  dn : Bool
structure DS.Ok (D : DS) : Prop where
  s : Whole D.s
  ws : Whole D.ws
  lf : 0 ≤ D.lf ∧ D.lf ≤ 9223372036854775807
def DS.new : DS := ⟨[], [], false, 0, false⟩
def DS.write (D : DS) (at' : Int) (bs : List UInt8) : Int × DS :=
  if at' < 0 ∨ 2048 ≤ at' ∨ 64 < bs.length then (5, D)
  else if D.dn = true ∨ (D.ar = true ∧ D.lf = 0) then (4, { D with dn := true })
  else (0, { D with ws := D.ws ++ [(at', padS bs)], lf := if D.ar = true then D.lf - 1 else D.lf, dn := false })
def DS.sync (D : DS) : Int × DS := if D.dn = true then (4, D) else (0, { D with s := layN D.s D.ws D.ws.length, ws := [] })
def DS.read (D : DS) (at' : Int) : Sec := readN D.s D.ws at' D.ws.length
theorem whole_nil : Whole [] := fun _ h => absurd h (by simp)
theorem DS.new_ok : DS.new.Ok := ⟨whole_nil, whole_nil, ⟨by decide, by decide⟩⟩
theorem DS.write_ok {D : DS} (h : D.Ok) (at' : Int) (bs : List UInt8) : (D.write at' bs).2.Ok := by
  unfold DS.write
  split
  · exact h
  · split
    · exact ⟨h.s, h.ws, h.lf⟩
    · rename_i h1 h2
      refine ⟨h.s, h.ws.add _ (padS_len (by omega)), ?_⟩
      have := h.lf
      show 0 ≤ (if D.ar = true then D.lf - 1 else D.lf) ∧ (if D.ar = true then D.lf - 1 else D.lf) ≤ 9223372036854775807
      split <;> rename_i h3
      · have : D.lf ≠ 0 := fun q => h2 (.inr ⟨h3, q⟩)
        exact ⟨by omega, by omega⟩
      · exact this
theorem DS.sync_ok {D : DS} (h : D.Ok) : D.sync.2.Ok := by
  unfold DS.sync
  split
  · exact h
  · exact ⟨h.s.lay h.ws _ (Nat.le_refl _), whole_nil, h.lf⟩
theorem DS.read_len {D : DS} (h : D.Ok) (at' : Int) : (D.read at').length = 64 := readN_len h.s h.ws _ _ (Nat.le_refl _)
theorem DS.write_ws {D : DS} {at' : Int} {bs : List UInt8} : (D.write at' bs).2.ws.length ≤ D.ws.length + 1 := by
  unfold DS.write
  split
  · simp
  · split
    · simp
    · simp
/-- The pieces of a disk. -/
abbrev diskP (DT WT : Nat) (d : Nat) (D : DS) : HP := pack fun x : Nat × Value => [blkA d [.map (some x.1), x.2, .bool D.ar, .int .i64 D.lf, .bool D.dn] DT, mapP x.1 (kvS D.s), own x.2 D.ws.length (wflat D.ws) WT 65]
end Dsk
end

section
namespace Go.Proofs.YtfceaphohlbnbaaGreat

open Go Leg Codec Api Dsk

set_option maxRecDepth 100000

theorem dr_new_does  :
    Does Tryz.prog 11 #[] (fun _ => True) [] (Ret (fun v H => ∃ d m, v = .pointer (some ⟨d, 0, none⟩) ∧ H = [blkA d [(.map (some m)), (.slice none 0 0), (.bool false), (.int .i64 0), (.bool false)] 115, mapP m ([])])) := by
  refine Does.body (vs := []) (n := 4) Tryz.func11 rfl rfl rfl (fun w0 F hF => ?_)
  refine TC.seq (fun K1 hK1 => ?_)
  refine TC.region ?_
  refine tp rfl rfl rfl (PV.assign rfl rfl) ?_
  refine TL.nil ?_
  refine TE.next hK1 ?_
  clear hK1
  refine TC.seq (fun K2 hK2 => ?_)
  refine TC.region ?_
  refine TL.makeMap (Want.plain rfl) rfl rfl rfl (fun m1 => ?_)
  change TL _ _ _ _ _ _ _ _ _ [mapP m1 ([])]
  refine tp rfl rfl rfl (PV.build (cells := #[(.map (some m1)), (.slice none 0 0), (.bool false), (.int .i64 0), (.bool false)]) rfl rfl (by as_aux_lemma => kernel_rfl)) ?_
  refine TL.box (Want.plain rfl) rfl rfl rfl rfl (fun b3 => ?_)
  change TL _ _ _ _ _ _ _ _ _ [blkA b3 [(.map (some m1)), (.slice none 0 0), (.bool false), (.int .i64 0), (.bool false)] 115, mapP m1 ([])]
  refine tp rfl rfl rfl (PV.assign rfl rfl) ?_
  refine TL.nil ?_
  refine TE.next hK2 ?_
  clear hK2
  refine TC.ret ?_
  refine TE.weak (Sub.refl _) (fun _ s => sep_keep [0, 0] rfl s) ?_
  refine TE.ret1 rfl rfl ?_
  exact ⟨b3, m1, rfl, rfl⟩
theorem mixedD : Tryz.prog.follows .mixedOrders = true := by kernel_rfl

theorem dr_last_does (d m : Nat) (wv : Value) (s : Secs) (ar dn : Bool) (lf at' : Int) (b : List UInt8) (hb : b.length = 64) :
    Does Tryz.prog 57 #[(.pointer (some ⟨d, 0, none⟩)), (.int .i64 (at')), (.agg (u8s b).toArray)] (fun _ => True) [blkA d [(.map (some m)), wv, (.bool (ar)), (.int .i64 (lf)), (.bool (dn))] 115, mapP m (kvS s)] (Ret (fun _ H => H = [blkA d [(.map (some m)), wv, (.bool (ar)), (.int .i64 (lf)), (.bool (dn))] 115, mapP m (kvS (sput s at' b))])) := by
  refine Does.body (vs := [(.pointer (some ⟨d, 0, none⟩)), (.int .i64 (at')), (.agg (u8s b).toArray)]) (n := 21) Tryz.func57 rfl rfl rfl (fun w0 F hF => ?_)
  refine TC.seq (fun K1 hK1 => ?_)
  refine TC.region ?_
  refine TL.box (Want.plain rfl) rfl rfl rfl rfl (fun b5 => ?_)
  change TL _ _ _ _ _ _ _ _ _ [blkA b5 (u8s b) 133, blkA d [(.map (some m)), wv, (.bool (ar)), (.int .i64 (lf)), (.bool (dn))] 115, mapP m (kvS s)]
  refine TL.nil ?_
  refine TE.next hK1 ?_
  clear hK1
  refine TC.seq (fun K2 hK2 => ?_)
  refine TC.seq (fun K3 hK3 => ?_)
  refine TC.region ?_
  refine tp rfl rfl rfl (PV.move rfl rfl) ?_
  refine tp rfl rfl rfl (PV.nilCheck rfl rfl) ?_
  refine tp rfl rfl rfl (PV.fieldAddr (r := 0) rfl Tryz.underlying115 rfl sz112 rfl rfl) ?_
  refine tp rfl rfl rfl (PV.load1 (v := (.map (some m))) rfl Tryz.underlying112 rfl rfl (Rd.own 1 rfl rfl) rfl) ?_
  refine tp rfl rfl rfl (PV.mapNil rfl Tryz.underlying112 rfl rfl) ?_
  refine TL.nil ?_
  refine TE.next hK3 ?_
  clear hK3
  refine TC.no rfl ?_
  refine TC.skip ?_
  refine TE.next hK2 ?_
  clear hK2
  refine TC.draw (fun w => Frm F w ∧ w.heap[d]? = some (.cells ([(.map (some m)), wv, (.bool (ar)), (.int .i64 (lf)), (.bool (dn))]).toArray 115 (0, 0)) ∧ w.heap[b5]? = some (.cells (u8s b).toArray 133 (0, 0)) ∧ True) mixedD rfl (fun _ s => ⟨Frm.of s, s.block 1 (lb rfl) rfl, s.block 0 (lb rfl) rfl, trivial⟩) ?_
  refine TD.take (i := 0) rfl (by kernel_rfl) (by kernel_rfl) (by kernel_rfl) (fun _ _ _ _ h => h) (Want.plain rfl) rfl rfl (PV.move rfl rfl) ?_
  refine TD.take (i := 1) rfl (by kernel_rfl) (by kernel_rfl) (by kernel_rfl) (fun _ _ _ _ h => h) (Want.plain rfl) rfl rfl (PV.nilCheck rfl rfl) ?_
  refine TD.take (i := 2) rfl (by kernel_rfl) (by kernel_rfl) (by kernel_rfl) (fun _ _ _ _ h => h) (Want.plain rfl) rfl rfl (PV.fieldAddr (r := 0) rfl Tryz.underlying115 rfl sz112 rfl rfl) ?_
  refine TD.take (i := 3) rfl (by kernel_rfl) (by kernel_rfl) (by kernel_rfl) (fun _ _ _ _ h => h) (Want.plain rfl) rfl rfl (PV.load1 (v := (.map (some m))) rfl Tryz.underlying112 rfl rfl (fun _ h => h.2.1) rfl) ?_
  refine TD.take (i := 4) rfl (by kernel_rfl) (by kernel_rfl) (by kernel_rfl) (fun _ _ _ _ h => h) (Want.plain rfl) rfl rfl (PV.move rfl rfl) ?_
  refine TD.take (i := 5) rfl (by kernel_rfl) (by kernel_rfl) (by kernel_rfl) (fun _ _ _ _ h => h) (Want.plain rfl) rfl rfl (PV.loadN (vs := u8s b) rfl Tryz.underlying133 rfl sz133 rfl (fun _ h => h.2.2.1) (by rw [u8s_length]; exact hb) (by rw [List.drop_zero, List.take_of_length_le (by rw [u8s_length, hb]; exact Nat.le_refl _)])) ?_
  refine TD.all [6] (by kernel_rfl) rfl ?_
  refine AllT.cons rfl ?_ ?_
  refine TL.mapUpdate (i := 2) (H' := [blkA b5 (u8s b) 133, blkA d [(.map (some m)), wv, (.bool (ar)), (.int .i64 (lf)), (.bool (dn))] 115, mapP m (kvS (sput s at' b))]) (Want.plain rfl) rfl rfl Tryz.underlying112 Tryz.underlying3 rfl rfl rfl rfl rfl (congrArg (fun q => List.set _ 2 (mapP m q)) (kput_kvS _ _ _)) ?_
  refine TL.nil ?_
  refine TE.draw (fun _ s => ⟨Frm.of s, s.block 1 (lb rfl) rfl, s.block 0 (lb rfl) rfl, trivial⟩) ?_
  refine TD.done (by kernel_rfl) ?_
  refine TE.weak (Sub.refl _) (fun _ s => sep_keep [1, 1] rfl s) ?_
  refine TE.end0 rfl ?_
  exact rfl
  exact AllT.nil
theorem dr_write_does (d m : Nat) (wv : Value) (ws : Secs) (ar dn : Bool) (lf at' : Int) (x : Value) (bs : List UInt8) (hl : 0 ≤ lf ∧ lf ≤ 9223372036854775807) (hw : ws.length ≤ 1000000000) :
    Does Tryz.prog 70 #[(.pointer (some ⟨d, 0, none⟩)), (.int .i64 (at')), x] (IsW x bs) [blkA d [(.map (some m)), wv, (.bool (ar)), (.int .i64 (lf)), (.bool (dn))] 115, own wv (ws.length) (wflat ws) 135 65] (Ret (fun v H => if at' < 0 ∨ 2048 ≤ at' ∨ 64 < bs.length then v = .int .i64 5 ∧ H = [blkA d [(.map (some m)), wv, (.bool (ar)), (.int .i64 (lf)), (.bool (dn))] 115, own wv (ws.length) (wflat ws) 135 65] else if dn = true ∨ (ar = true ∧ lf = 0) then v = .int .i64 4 ∧ H = [blkA d [(.map (some m)), wv, (.bool (ar)), (.int .i64 (lf)), (.bool true)] 115, own wv (ws.length) (wflat ws) 135 65] else v = .int .i64 0 ∧ ∃ wv', H = [blkA d [(.map (some m)), wv', (.bool (ar)), (.int .i64 ((if ar = true then lf - 1 else lf))), (.bool false)] 115, own wv' ((ws ++ [(at', padS bs)]).length) (wflat (ws ++ [(at', padS bs)])) 135 65])) := by
  refine Does.body (vs := [(.pointer (some ⟨d, 0, none⟩)), (.int .i64 (at')), x]) (n := 64) Tryz.func70 rfl rfl rfl (fun w0 F hF => ?_)
  refine TC.seq (fun K1 hK1 => ?_)
  refine TC.region ?_
  refine tp rfl rfl rfl (PV.assign rfl rfl) ?_
  refine TL.nil ?_
  refine TE.next hK1 ?_
  clear hK1
  refine TC.seq (fun K2 hK2 => ?_)
  refine TC.seq (fun K3 hK3 => ?_)
  refine TC.region ?_
  refine tp rfl rfl rfl (PV.move rfl rfl) ?_
  refine tp rfl rfl rfl (PV.lss rfl rfl rfl) ?_
  refine TL.dec (fun h9 => ?_) (fun h9 => ?_)
  refine tp rfl rfl rfl (PV.move rfl rfl) ?_
  refine TL.unmet (b := true) rfl rfl rfl rfl (lb rfl) ?_
  refine TL.unmet (b := true) rfl rfl rfl rfl (lb rfl) ?_
  refine tp rfl rfl rfl (PV.pick rfl rfl rfl) ?_
  refine tp rfl rfl rfl (PV.move rfl rfl) ?_
  refine TL.unmet (b := true) rfl rfl rfl rfl (lb rfl) ?_
  refine TL.unmet (b := true) rfl rfl rfl rfl (lb rfl) ?_
  refine TL.unmet (b := true) rfl rfl rfl rfl (lb rfl) ?_
  refine tp rfl rfl rfl (PV.pick rfl rfl rfl) ?_
  refine TL.nil ?_
  refine TE.next hK3 ?_
  clear hK3
  refine TC.yes rfl ?_
  refine TC.seq (fun K4 hK4 => ?_)
  refine TC.region ?_
  refine tp rfl rfl rfl (PV.assign rfl rfl) ?_
  refine TL.nil ?_
  refine TE.next hK4 ?_
  clear hK4
  refine TC.ret ?_
  refine TE.passRet ?_
  clear hK2
  refine TE.weak (Sub.refl _) (fun _ s => sep_keep [0, 0] rfl s) ?_
  refine TE.ret1 rfl rfl ?_
  show (if _ then _ else _)
  first
    | (rw [if_pos (by omega)]; exact ⟨rfl, rfl⟩)
    | (rw [if_neg (by omega), if_pos (by simp_all)]; exact ⟨rfl, by simp_all <;> rfl⟩)
    | (rw [if_neg (by omega), if_neg (by simp_all)]; exact ⟨rfl, v61, by simp_all <;> rfl⟩)
  refine tp rfl rfl rfl (PV.move rfl rfl) ?_
  refine tq rfl rfl rfl rfl rfl (PV.move rfl rfl) ?_
  refine tq rfl rfl rfl rfl rfl (PV.geq rfl rfl rfl) ?_
  refine TL.dec (fun h12 => ?_) (fun h12 => ?_)
  refine tp rfl rfl rfl (PV.pick rfl rfl rfl) ?_
  refine tp rfl rfl rfl (PV.move rfl rfl) ?_
  refine TL.unmet (b := true) rfl rfl rfl rfl (lb rfl) ?_
  refine TL.unmet (b := true) rfl rfl rfl rfl (lb rfl) ?_
  refine TL.unmet (b := true) rfl rfl rfl rfl (lb rfl) ?_
  refine tp rfl rfl rfl (PV.pick rfl rfl rfl) ?_
  refine TL.nil ?_
  refine TE.next hK3 ?_
  clear hK3
  refine TC.yes rfl ?_
  refine TC.seq (fun K5 hK5 => ?_)
  refine TC.region ?_
  refine tp rfl rfl rfl (PV.assign rfl rfl) ?_
  refine TL.nil ?_
  refine TE.next hK5 ?_
  clear hK5
  refine TC.ret ?_
  refine TE.passRet ?_
  clear hK2
  refine TE.weak (Sub.refl _) (fun _ s => sep_keep [0, 0] rfl s) ?_
  refine TE.ret1 rfl rfl ?_
  show (if _ then _ else _)
  first
    | (rw [if_pos (by omega)]; exact ⟨rfl, rfl⟩)
    | (rw [if_neg (by omega), if_pos (by simp_all)]; exact ⟨rfl, by simp_all <;> rfl⟩)
    | (rw [if_neg (by omega), if_neg (by simp_all)]; exact ⟨rfl, v61, by simp_all <;> rfl⟩)
  refine tp rfl rfl rfl (PV.pick rfl rfl rfl) ?_
  refine tp rfl rfl rfl (PV.move rfl rfl) ?_
  refine tq rfl rfl rfl rfl rfl (PV.move rfl rfl) ?_
  refine tq rfl rfl rfl rfl rfl (PV.lenV rfl Tryz.underlying106 rfl hF.len) ?_
  refine tq rfl rfl rfl rfl rfl (PV.gtr rfl rfl rfl) ?_
  refine TL.dec (fun h17 => ?_) (fun h17 => ?_)
  refine tp rfl rfl rfl (PV.pick rfl rfl rfl) ?_
  refine TL.nil ?_
  refine TE.next hK3 ?_
  clear hK3
  refine TC.yes rfl ?_
  refine TC.seq (fun K6 hK6 => ?_)
  refine TC.region ?_
  refine tp rfl rfl rfl (PV.assign rfl rfl) ?_
  refine TL.nil ?_
  refine TE.next hK6 ?_
  clear hK6
  refine TC.ret ?_
  refine TE.passRet ?_
  clear hK2
  refine TE.weak (Sub.refl _) (fun _ s => sep_keep [0, 0] rfl s) ?_
  refine TE.ret1 rfl rfl ?_
  show (if _ then _ else _)
  first
    | (rw [if_pos (by omega)]; exact ⟨rfl, rfl⟩)
    | (rw [if_neg (by omega), if_pos (by simp_all)]; exact ⟨rfl, by simp_all <;> rfl⟩)
    | (rw [if_neg (by omega), if_neg (by simp_all)]; exact ⟨rfl, v61, by simp_all <;> rfl⟩)
  refine tp rfl rfl rfl (PV.pick rfl rfl rfl) ?_
  refine TL.nil ?_
  refine TE.next hK3 ?_
  clear hK3
  refine TC.no rfl ?_
  refine TC.skip ?_
  refine TE.next hK2 ?_
  clear hK2
  refine TC.seq (fun K7 hK7 => ?_)
  refine TC.seq (fun K8 hK8 => ?_)
  refine TC.region ?_
  refine tp rfl rfl rfl (PV.move rfl rfl) ?_
  refine tp rfl rfl rfl (PV.nilCheck rfl rfl) ?_
  refine tp rfl rfl rfl (PV.fieldAddr (r := 2) rfl Tryz.underlying115 rfl sz4 rfl rfl) ?_
  refine tp rfl rfl rfl (PV.load1 (v := (.bool (ar))) rfl Tryz.underlying4 rfl rfl (Rd.own 0 rfl rfl) rfl) ?_
  refine TL.decB (fun h22 => ?_) (fun h22 => ?_)
  refine tp rfl rfl rfl (PV.move rfl rfl) ?_
  refine tq rfl rfl rfl rfl rfl (PV.move rfl rfl) ?_
  refine tq rfl rfl rfl rfl rfl (PV.nilCheck rfl rfl) ?_
  refine tq rfl rfl rfl rfl rfl (PV.fieldAddr (r := 3) rfl Tryz.underlying115 rfl sz3 rfl rfl) ?_
  refine tq rfl rfl rfl rfl rfl (PV.load1 (v := (.int .i64 (lf))) rfl Tryz.underlying3 rfl rfl (Rd.own 0 rfl rfl) rfl) ?_
  refine tq rfl rfl rfl rfl rfl (PV.eql rfl rfl rfl) ?_
  refine TL.dec (fun h28 => ?_) (fun h28 => ?_)
  refine tp rfl rfl rfl (PV.pick rfl rfl rfl) ?_
  refine TL.nil ?_
  refine TE.next hK8 ?_
  clear hK8
  refine TC.yes rfl ?_
  refine TC.region ?_
  refine tp rfl rfl rfl (PV.move rfl rfl) ?_
  refine tp rfl rfl rfl (PV.nilCheck rfl rfl) ?_
  refine tp rfl rfl rfl (PV.fieldAddr (r := 4) rfl Tryz.underlying115 rfl sz4 rfl rfl) ?_
  refine TL.store1 (i := 0) (H' := [blkA d [(.map (some m)), wv, (.bool (ar)), (.int .i64 (lf)), (.bool true)] 115, own wv (ws.length) (wflat ws) 135 65]) (Want.plain rfl) rfl rfl rfl rfl rfl sz4 rfl rfl (lb rfl) rfl rfl ?_
  refine TL.nil ?_
  refine TE.next hK7 ?_
  clear hK7
  refine TC.seq (fun K9 hK9 => ?_)
  refine TC.seq (fun K10 hK10 => ?_)
  refine TC.region ?_
  refine tp rfl rfl rfl (PV.move rfl rfl) ?_
  refine tp rfl rfl rfl (PV.nilCheck rfl rfl) ?_
  refine tp rfl rfl rfl (PV.fieldAddr (r := 4) rfl Tryz.underlying115 rfl sz4 rfl rfl) ?_
  refine tp rfl rfl rfl (PV.load1 (v := (.bool true)) rfl Tryz.underlying4 rfl rfl (Rd.own 0 rfl rfl) rfl) ?_
  refine TL.nil ?_
  refine TE.next hK10 ?_
  clear hK10
  refine TC.yes rfl ?_
  refine TC.seq (fun K11 hK11 => ?_)
  refine TC.region ?_
  refine tp rfl rfl rfl (PV.assign rfl rfl) ?_
  refine TL.nil ?_
  refine TE.next hK11 ?_
  clear hK11
  refine TC.ret ?_
  refine TE.passRet ?_
  clear hK9
  refine TE.weak (Sub.refl _) (fun _ s => sep_keep [0, 0] rfl s) ?_
  refine TE.ret1 rfl rfl ?_
  show (if _ then _ else _)
  first
    | (rw [if_pos (by omega)]; exact ⟨rfl, rfl⟩)
    | (rw [if_neg (by omega), if_pos (by simp_all)]; exact ⟨rfl, by simp_all <;> rfl⟩)
    | (rw [if_neg (by omega), if_neg (by simp_all)]; exact ⟨rfl, v61, by simp_all <;> rfl⟩)
  refine tp rfl rfl rfl (PV.pick rfl rfl rfl) ?_
  refine TL.nil ?_
  refine TE.next hK8 ?_
  clear hK8
  refine TC.no rfl ?_
  refine TC.skip ?_
  refine TE.next hK7 ?_
  clear hK7
  refine TC.seq (fun K12 hK12 => ?_)
  refine TC.seq (fun K13 hK13 => ?_)
  refine TC.region ?_
  refine tp rfl rfl rfl (PV.move rfl rfl) ?_
  refine tp rfl rfl rfl (PV.nilCheck rfl rfl) ?_
  refine tp rfl rfl rfl (PV.fieldAddr (r := 4) rfl Tryz.underlying115 rfl sz4 rfl rfl) ?_
  refine tp rfl rfl rfl (PV.load1 (v := (.bool (dn))) rfl Tryz.underlying4 rfl rfl (Rd.own 0 rfl rfl) rfl) ?_
  refine TL.decB (fun h36 => ?_) (fun h36 => ?_)
  refine TL.nil ?_
  refine TE.next hK13 ?_
  clear hK13
  refine TC.yes rfl ?_
  refine TC.seq (fun K14 hK14 => ?_)
  refine TC.region ?_
  refine tp rfl rfl rfl (PV.assign rfl rfl) ?_
  refine TL.nil ?_
  refine TE.next hK14 ?_
  clear hK14
  refine TC.ret ?_
  refine TE.passRet ?_
  clear hK12
  refine TE.weak (Sub.refl _) (fun _ s => sep_keep [0, 0] rfl s) ?_
  refine TE.ret1 rfl rfl ?_
  show (if _ then _ else _)
  first
    | (rw [if_pos (by omega)]; exact ⟨rfl, rfl⟩)
    | (rw [if_neg (by omega), if_pos (by simp_all)]; exact ⟨rfl, by simp_all <;> rfl⟩)
    | (rw [if_neg (by omega), if_neg (by simp_all)]; exact ⟨rfl, v61, by simp_all <;> rfl⟩)
  refine TL.nil ?_
  refine TE.next hK13 ?_
  clear hK13
  refine TC.no rfl ?_
  refine TC.skip ?_
  refine TE.next hK12 ?_
  clear hK12
  refine TC.seq (fun K15 hK15 => ?_)
  refine TC.seq (fun K16 hK16 => ?_)
  refine TC.region ?_
  refine tp rfl rfl rfl (PV.move rfl rfl) ?_
  refine tp rfl rfl rfl (PV.nilCheck rfl rfl) ?_
  refine tp rfl rfl rfl (PV.fieldAddr (r := 2) rfl Tryz.underlying115 rfl sz4 rfl rfl) ?_
  refine tp rfl rfl rfl (PV.load1 (v := (.bool (ar))) rfl Tryz.underlying4 rfl rfl (Rd.own 0 rfl rfl) rfl) ?_
  refine TL.decB (fun h40 => ?_) (fun h40 => ?_)
  refine TL.nil ?_
  refine TE.next hK16 ?_
  clear hK16
  refine TC.yes rfl ?_
  refine TC.region ?_
  refine tp rfl rfl rfl (PV.move rfl rfl) ?_
  refine tp rfl rfl rfl (PV.nilCheck rfl rfl) ?_
  refine tp rfl rfl rfl (PV.fieldAddr (r := 3) rfl Tryz.underlying115 rfl sz3 rfl rfl) ?_
  refine tp rfl rfl rfl (PV.load1 (v := (.int .i64 (lf))) rfl Tryz.underlying3 rfl rfl (Rd.own 0 rfl rfl) rfl) ?_
  refine tp rfl rfl rfl (PV.sub rfl rfl rfl (wrap_i64 (by omega) (by omega))) ?_
  refine tp rfl rfl rfl (PV.nilCheck rfl rfl) ?_
  refine tp rfl rfl rfl (PV.fieldAddr (r := 3) rfl Tryz.underlying115 rfl sz3 rfl rfl) ?_
  refine TL.store1 (i := 0) (H' := [blkA d [(.map (some m)), wv, (.bool (ar)), (.int .i64 (lf - 1)), (.bool (dn))] 115, own wv (ws.length) (wflat ws) 135 65]) (Want.plain rfl) rfl rfl rfl rfl rfl sz3 rfl rfl (lb rfl) rfl rfl ?_
  refine TL.nil ?_
  refine TE.next hK15 ?_
  clear hK15
  refine TC.seq (fun K17 hK17 => ?_)
  refine TC.region ?_
  refine tp rfl rfl rfl (PV.move rfl rfl) ?_
  refine tp rfl rfl rfl (PV.build (cells := #[(.int .i64 (at')), (.int .u8 0), (.int .u8 0), (.int .u8 0), (.int .u8 0), (.int .u8 0), (.int .u8 0), (.int .u8 0), (.int .u8 0), (.int .u8 0), (.int .u8 0), (.int .u8 0), (.int .u8 0), (.int .u8 0), (.int .u8 0), (.int .u8 0), (.int .u8 0), (.int .u8 0), (.int .u8 0), (.int .u8 0), (.int .u8 0), (.int .u8 0), (.int .u8 0), (.int .u8 0), (.int .u8 0), (.int .u8 0), (.int .u8 0), (.int .u8 0), (.int .u8 0), (.int .u8 0), (.int .u8 0), (.int .u8 0), (.int .u8 0), (.int .u8 0), (.int .u8 0), (.int .u8 0), (.int .u8 0), (.int .u8 0), (.int .u8 0), (.int .u8 0), (.int .u8 0), (.int .u8 0), (.int .u8 0), (.int .u8 0), (.int .u8 0), (.int .u8 0), (.int .u8 0), (.int .u8 0), (.int .u8 0), (.int .u8 0), (.int .u8 0), (.int .u8 0), (.int .u8 0), (.int .u8 0), (.int .u8 0), (.int .u8 0), (.int .u8 0), (.int .u8 0), (.int .u8 0), (.int .u8 0), (.int .u8 0), (.int .u8 0), (.int .u8 0), (.int .u8 0), (.int .u8 0)]) rfl rfl (by as_aux_lemma => kernel_rfl)) ?_
  refine TL.alloc (Want.plain rfl) rfl rfl rfl z135 (fun b7 => ?_)
  change TL _ _ _ _ _ _ _ _ _ [blkA b7 [(.int .i64 0), (.int .u8 0), (.int .u8 0), (.int .u8 0), (.int .u8 0), (.int .u8 0), (.int .u8 0), (.int .u8 0), (.int .u8 0), (.int .u8 0), (.int .u8 0), (.int .u8 0), (.int .u8 0), (.int .u8 0), (.int .u8 0), (.int .u8 0), (.int .u8 0), (.int .u8 0), (.int .u8 0), (.int .u8 0), (.int .u8 0), (.int .u8 0), (.int .u8 0), (.int .u8 0), (.int .u8 0), (.int .u8 0), (.int .u8 0), (.int .u8 0), (.int .u8 0), (.int .u8 0), (.int .u8 0), (.int .u8 0), (.int .u8 0), (.int .u8 0), (.int .u8 0), (.int .u8 0), (.int .u8 0), (.int .u8 0), (.int .u8 0), (.int .u8 0), (.int .u8 0), (.int .u8 0), (.int .u8 0), (.int .u8 0), (.int .u8 0), (.int .u8 0), (.int .u8 0), (.int .u8 0), (.int .u8 0), (.int .u8 0), (.int .u8 0), (.int .u8 0), (.int .u8 0), (.int .u8 0), (.int .u8 0), (.int .u8 0), (.int .u8 0), (.int .u8 0), (.int .u8 0), (.int .u8 0), (.int .u8 0), (.int .u8 0), (.int .u8 0), (.int .u8 0), (.int .u8 0)] 135, blkA d [(.map (some m)), wv, (.bool (ar)), (.int .i64 (lf - 1)), (.bool (dn))] 115, own wv (ws.length) (wflat ws) 135 65]
  refine TL.store (vs := [(.int .i64 (at')), (.int .u8 0), (.int .u8 0), (.int .u8 0), (.int .u8 0), (.int .u8 0), (.int .u8 0), (.int .u8 0), (.int .u8 0), (.int .u8 0), (.int .u8 0), (.int .u8 0), (.int .u8 0), (.int .u8 0), (.int .u8 0), (.int .u8 0), (.int .u8 0), (.int .u8 0), (.int .u8 0), (.int .u8 0), (.int .u8 0), (.int .u8 0), (.int .u8 0), (.int .u8 0), (.int .u8 0), (.int .u8 0), (.int .u8 0), (.int .u8 0), (.int .u8 0), (.int .u8 0), (.int .u8 0), (.int .u8 0), (.int .u8 0), (.int .u8 0), (.int .u8 0), (.int .u8 0), (.int .u8 0), (.int .u8 0), (.int .u8 0), (.int .u8 0), (.int .u8 0), (.int .u8 0), (.int .u8 0), (.int .u8 0), (.int .u8 0), (.int .u8 0), (.int .u8 0), (.int .u8 0), (.int .u8 0), (.int .u8 0), (.int .u8 0), (.int .u8 0), (.int .u8 0), (.int .u8 0), (.int .u8 0), (.int .u8 0), (.int .u8 0), (.int .u8 0), (.int .u8 0), (.int .u8 0), (.int .u8 0), (.int .u8 0), (.int .u8 0), (.int .u8 0), (.int .u8 0)]) (i := 0) (H' := [blkA b7 [(.int .i64 (at')), (.int .u8 0), (.int .u8 0), (.int .u8 0), (.int .u8 0), (.int .u8 0), (.int .u8 0), (.int .u8 0), (.int .u8 0), (.int .u8 0), (.int .u8 0), (.int .u8 0), (.int .u8 0), (.int .u8 0), (.int .u8 0), (.int .u8 0), (.int .u8 0), (.int .u8 0), (.int .u8 0), (.int .u8 0), (.int .u8 0), (.int .u8 0), (.int .u8 0), (.int .u8 0), (.int .u8 0), (.int .u8 0), (.int .u8 0), (.int .u8 0), (.int .u8 0), (.int .u8 0), (.int .u8 0), (.int .u8 0), (.int .u8 0), (.int .u8 0), (.int .u8 0), (.int .u8 0), (.int .u8 0), (.int .u8 0), (.int .u8 0), (.int .u8 0), (.int .u8 0), (.int .u8 0), (.int .u8 0), (.int .u8 0), (.int .u8 0), (.int .u8 0), (.int .u8 0), (.int .u8 0), (.int .u8 0), (.int .u8 0), (.int .u8 0), (.int .u8 0), (.int .u8 0), (.int .u8 0), (.int .u8 0), (.int .u8 0), (.int .u8 0), (.int .u8 0), (.int .u8 0), (.int .u8 0), (.int .u8 0), (.int .u8 0), (.int .u8 0), (.int .u8 0), (.int .u8 0)] 135, blkA d [(.map (some m)), wv, (.bool (ar)), (.int .i64 (lf - 1)), (.bool (dn))] 115, own wv (ws.length) (wflat ws) 135 65]) (Want.plain rfl) rfl rfl rfl rfl rfl sz135 (by simp [Value.oneCell']) rfl rfl (lbe rfl) rfl rfl ?_
  refine TL.nil ?_
  refine TE.next hK17 ?_
  clear hK17
  refine TC.seq (fun K18 hK18 => ?_)
  refine TC.region ?_
  refine tp rfl rfl rfl (PV.fieldAddr (r := 1) rfl Tryz.underlying135 rfl sz133 rfl rfl) ?_
  refine tp rfl rfl rfl (PV.sliceArr rfl Tryz.underlying133 sz5 rfl) ?_
  refine tp rfl rfl rfl (PV.move rfl rfl) ?_
  refine TL.copy (i := 0) (m := bs.length) (news := (u8s bs)) (H' := [blkA b7 (wcell (at', padS bs)) 135, blkA d [(.map (some m)), wv, (.bool (ar)), (.int .i64 (lf - 1)), (.bool (dn))] 115, own wv (ws.length) (wflat ws) 135 65]) (Want.plain rfl) rfl rfl rfl Tryz.underlying106 sz5 rfl rfl rfl rfl (fun _ _ => hF.src (fun _ h => Frm.of h)) (u8s_one _) (by show 1 + min bs.length 64 ≤ 65; omega) (wr_pad (by omega)) rfl ?_
  refine TL.nil ?_
  refine TE.next hK18 ?_
  clear hK18
  refine TC.seq (fun K19 hK19 => ?_)
  refine TC.draw (fun w => Frm F w ∧ w.heap[b7]? = some (.cells (wcell (at', padS bs)).toArray 135 (0, 0)) ∧ True) mixedD rfl (fun _ s => ⟨Frm.of s, s.block 0 (lb rfl) rfl, trivial⟩) ?_
  refine TD.take (i := 0) rfl (by kernel_rfl) (by kernel_rfl) (by kernel_rfl) (fun _ _ _ _ h => h) (Want.plain rfl) rfl rfl (PV.move rfl rfl) ?_
  refine TD.take (i := 1) rfl (by kernel_rfl) (by kernel_rfl) (by kernel_rfl) (fun _ _ _ _ h => h) (Want.plain rfl) rfl rfl (PV.move rfl rfl) ?_
  refine TD.take (i := 2) rfl (by kernel_rfl) (by kernel_rfl) (by kernel_rfl) (fun _ _ _ _ h => h) (Want.plain rfl) rfl rfl (PV.nilCheck rfl rfl) ?_
  refine TD.take (i := 3) rfl (by kernel_rfl) (by kernel_rfl) (by kernel_rfl) (fun _ _ _ _ h => h) (Want.plain rfl) rfl rfl (PV.fieldAddr (r := 1) rfl Tryz.underlying115 rfl sz113 rfl rfl) ?_
  refine TD.take (i := 5) rfl (by kernel_rfl) (by kernel_rfl) (by kernel_rfl) (fun _ _ _ _ h => h) (Want.plain rfl) rfl rfl (PV.loadN (vs := wcell (at', padS bs)) rfl Tryz.underlying135 rfl sz135 rfl (fun _ h => h.2.1) (wcell_len (padS_len (by omega))) (by rw [List.drop_zero, List.take_of_length_le (by rw [(wcell_len (padS_len (by omega)))]; exact Nat.le_refl _)])) ?_
  refine TD.all [4, 6] (by kernel_rfl) rfl ?_
  refine AllT.cons rfl ?_ ?_
  refine tp rfl rfl rfl (PV.load1 (v := wv) rfl Tryz.underlying113 rfl rfl (Rd.own 1 rfl rfl) rfl) ?_
  refine TL.nil ?_
  refine TE.draw (fun _ s => ⟨Frm.of s, s.block 0 (lb rfl) rfl, trivial⟩) ?_
  refine TD.all [6] (by kernel_rfl) rfl ?_
  refine AllT.cons rfl ?_ ?_
  refine TL.buildSlice (cells := (wcell (at', padS bs)).toArray) (Want.plain rfl) rfl rfl rfl Tryz.underlying113 in135 rfl rfl rfl (fill_at (wcell_len (padS_len (by omega))) (by simp)) (fun b60 => ?_)
  change TL _ _ _ _ _ _ _ _ _ [blkA b60 (wcell (at', padS bs)) 135, blkA b7 (wcell (at', padS bs)) 135, blkA d [(.map (some m)), wv, (.bool (ar)), (.int .i64 (lf - 1)), (.bool (dn))] 115, own wv (ws.length) (wflat ws) 135 65]
  refine TL.nil ?_
  refine TE.draw (fun _ s => ⟨Frm.of s, s.block 1 (lb rfl) rfl, trivial⟩) ?_
  refine TD.all [7] (by kernel_rfl) rfl ?_
  refine AllT.cons rfl ?_ ?_
  refine TL.append (k := 3) (news := wcell (at', padS bs)) (nn' := (ws ++ [(at', padS bs)]).length) (xs' := wflat (ws ++ [(at', padS bs)])) (Want.plain rfl) rfl rfl rfl Tryz.underlying113 in135 rfl rfl rfl rfl rfl rfl (fun _ _ => Src.rd (wcell_len (padS_len (by omega))) (Rd.own 0 rfl rfl) (by rw [List.drop_zero, List.take_of_length_le (Nat.le_refl _)])) (wcell_one _) (by simp only [maxLen]; omega) (by omega) (by simp) (by simp [wflat]) (fun v61 ov61 => ?_)
  change TL _ _ _ _ _ _ _ _ _ [blkA b60 (wcell (at', padS bs)) 135, blkA b7 (wcell (at', padS bs)) 135, blkA d [(.map (some m)), wv, (.bool (ar)), (.int .i64 (lf - 1)), (.bool (dn))] 115, own v61 ((ws ++ [(at', padS bs)]).length) (wflat (ws ++ [(at', padS bs)])) 135 65]
  refine TL.nil ?_
  refine TE.draw (fun _ s => ⟨Frm.of s, s.block 1 (lb rfl) rfl, trivial⟩) ?_
  refine TD.take (i := 8) rfl (by kernel_rfl) (by kernel_rfl) (by kernel_rfl) (fun _ _ _ _ h => h) (Want.plain rfl) rfl rfl (PV.nilCheck rfl rfl) ?_
  refine TD.take (i := 9) rfl (by kernel_rfl) (by kernel_rfl) (by kernel_rfl) (fun _ _ _ _ h => h) (Want.plain rfl) rfl rfl (PV.fieldAddr (r := 1) rfl Tryz.underlying115 rfl sz113 rfl rfl) ?_
  refine TD.all [10] (by kernel_rfl) rfl ?_
  refine AllT.cons rfl ?_ ?_
  refine TL.store1 (i := 2) (H' := [blkA b60 (wcell (at', padS bs)) 135, blkA b7 (wcell (at', padS bs)) 135, blkA d [(.map (some m)), v61, (.bool (ar)), (.int .i64 (lf - 1)), (.bool (dn))] 115, own v61 ((ws ++ [(at', padS bs)]).length) (wflat (ws ++ [(at', padS bs)])) 135 65]) (Want.plain rfl) rfl rfl rfl rfl ov61 sz113 rfl rfl (lb rfl) rfl rfl ?_
  refine TL.nil ?_
  refine TE.draw (fun _ s => ⟨Frm.of s, s.block 1 (lb rfl) rfl, trivial⟩) ?_
  refine TD.done (by kernel_rfl) ?_
  refine TE.next hK19 ?_
  clear hK19
  refine TC.seq (fun K20 hK20 => ?_)
  refine TC.region ?_
  refine tp rfl rfl rfl (PV.assign rfl rfl) ?_
  refine TL.nil ?_
  refine TE.next hK20 ?_
  clear hK20
  refine TC.ret ?_
  refine TE.weak (Sub.refl _) (fun _ s => sep_keep [2, 2] rfl s) ?_
  refine TE.ret1 rfl rfl ?_
  show (if _ then _ else _)
  first
    | (rw [if_pos (by omega)]; exact ⟨rfl, rfl⟩)
    | (rw [if_neg (by omega), if_pos (by simp_all)]; exact ⟨rfl, by simp_all <;> rfl⟩)
    | (rw [if_neg (by omega), if_neg (by simp_all)]; exact ⟨rfl, v61, by simp_all <;> rfl⟩)
  exact AllT.nil
  exact AllT.nil
  exact AllT.nil
  refine AllT.cons rfl ?_ ?_
  refine TL.buildSlice (cells := (wcell (at', padS bs)).toArray) (Want.plain rfl) rfl rfl rfl Tryz.underlying113 in135 rfl rfl rfl (fill_at (wcell_len (padS_len (by omega))) (by simp)) (fun b60 => ?_)
  change TL _ _ _ _ _ _ _ _ _ [blkA b60 (wcell (at', padS bs)) 135, blkA b7 (wcell (at', padS bs)) 135, blkA d [(.map (some m)), wv, (.bool (ar)), (.int .i64 (lf - 1)), (.bool (dn))] 115, own wv (ws.length) (wflat ws) 135 65]
  refine TL.nil ?_
  refine TE.draw (fun _ s => ⟨Frm.of s, s.block 1 (lb rfl) rfl, trivial⟩) ?_
  refine TD.all [4] (by kernel_rfl) rfl ?_
  refine AllT.cons rfl ?_ ?_
  refine tp rfl rfl rfl (PV.load1 (v := wv) rfl Tryz.underlying113 rfl rfl (Rd.own 2 rfl rfl) rfl) ?_
  refine TL.nil ?_
  refine TE.draw (fun _ s => ⟨Frm.of s, s.block 1 (lb rfl) rfl, trivial⟩) ?_
  refine TD.all [7] (by kernel_rfl) rfl ?_
  refine AllT.cons rfl ?_ ?_
  refine TL.append (k := 3) (news := wcell (at', padS bs)) (nn' := (ws ++ [(at', padS bs)]).length) (xs' := wflat (ws ++ [(at', padS bs)])) (Want.plain rfl) rfl rfl rfl Tryz.underlying113 in135 rfl rfl rfl rfl rfl rfl (fun _ _ => Src.rd (wcell_len (padS_len (by omega))) (Rd.own 0 rfl rfl) (by rw [List.drop_zero, List.take_of_length_le (Nat.le_refl _)])) (wcell_one _) (by simp only [maxLen]; omega) (by omega) (by simp) (by simp [wflat]) (fun v61 ov61 => ?_)
  change TL _ _ _ _ _ _ _ _ _ [blkA b60 (wcell (at', padS bs)) 135, blkA b7 (wcell (at', padS bs)) 135, blkA d [(.map (some m)), wv, (.bool (ar)), (.int .i64 (lf - 1)), (.bool (dn))] 115, own v61 ((ws ++ [(at', padS bs)]).length) (wflat (ws ++ [(at', padS bs)])) 135 65]
  refine TL.nil ?_
  refine TE.draw (fun _ s => ⟨Frm.of s, s.block 1 (lb rfl) rfl, trivial⟩) ?_
  refine TD.take (i := 8) rfl (by kernel_rfl) (by kernel_rfl) (by kernel_rfl) (fun _ _ _ _ h => h) (Want.plain rfl) rfl rfl (PV.nilCheck rfl rfl) ?_
  refine TD.take (i := 9) rfl (by kernel_rfl) (by kernel_rfl) (by kernel_rfl) (fun _ _ _ _ h => h) (Want.plain rfl) rfl rfl (PV.fieldAddr (r := 1) rfl Tryz.underlying115 rfl sz113 rfl rfl) ?_
  refine TD.all [10] (by kernel_rfl) rfl ?_
  refine AllT.cons rfl ?_ ?_
  refine TL.store1 (i := 2) (H' := [blkA b60 (wcell (at', padS bs)) 135, blkA b7 (wcell (at', padS bs)) 135, blkA d [(.map (some m)), v61, (.bool (ar)), (.int .i64 (lf - 1)), (.bool (dn))] 115, own v61 ((ws ++ [(at', padS bs)]).length) (wflat (ws ++ [(at', padS bs)])) 135 65]) (Want.plain rfl) rfl rfl rfl rfl ov61 sz113 rfl rfl (lb rfl) rfl rfl ?_
  refine TL.nil ?_
  refine TE.draw (fun _ s => ⟨Frm.of s, s.block 1 (lb rfl) rfl, trivial⟩) ?_
  refine TD.done (by kernel_rfl) ?_
  refine TE.next hK19 ?_
  clear hK19
  refine TC.seq (fun K21 hK21 => ?_)
  refine TC.region ?_
  refine tp rfl rfl rfl (PV.assign rfl rfl) ?_
  refine TL.nil ?_
  refine TE.next hK21 ?_
  clear hK21
  refine TC.ret ?_
  refine TE.weak (Sub.refl _) (fun _ s => sep_keep [2, 2] rfl s) ?_
  refine TE.ret1 rfl rfl ?_
  show (if _ then _ else _)
  first
    | (rw [if_pos (by omega)]; exact ⟨rfl, rfl⟩)
    | (rw [if_neg (by omega), if_pos (by simp_all)]; exact ⟨rfl, by simp_all <;> rfl⟩)
    | (rw [if_neg (by omega), if_neg (by simp_all)]; exact ⟨rfl, v61, by simp_all <;> rfl⟩)
  exact AllT.nil
  exact AllT.nil
  exact AllT.nil
  exact AllT.nil
  refine TL.nil ?_
  refine TE.next hK16 ?_
  clear hK16
  refine TC.no rfl ?_
  refine TC.skip ?_
  refine TE.next hK15 ?_
  clear hK15
  refine TC.seq (fun K22 hK22 => ?_)
  refine TC.region ?_
  refine tp rfl rfl rfl (PV.move rfl rfl) ?_
  refine tp rfl rfl rfl (PV.build (cells := #[(.int .i64 (at')), (.int .u8 0), (.int .u8 0), (.int .u8 0), (.int .u8 0), (.int .u8 0), (.int .u8 0), (.int .u8 0), (.int .u8 0), (.int .u8 0), (.int .u8 0), (.int .u8 0), (.int .u8 0), (.int .u8 0), (.int .u8 0), (.int .u8 0), (.int .u8 0), (.int .u8 0), (.int .u8 0), (.int .u8 0), (.int .u8 0), (.int .u8 0), (.int .u8 0), (.int .u8 0), (.int .u8 0), (.int .u8 0), (.int .u8 0), (.int .u8 0), (.int .u8 0), (.int .u8 0), (.int .u8 0), (.int .u8 0), (.int .u8 0), (.int .u8 0), (.int .u8 0), (.int .u8 0), (.int .u8 0), (.int .u8 0), (.int .u8 0), (.int .u8 0), (.int .u8 0), (.int .u8 0), (.int .u8 0), (.int .u8 0), (.int .u8 0), (.int .u8 0), (.int .u8 0), (.int .u8 0), (.int .u8 0), (.int .u8 0), (.int .u8 0), (.int .u8 0), (.int .u8 0), (.int .u8 0), (.int .u8 0), (.int .u8 0), (.int .u8 0), (.int .u8 0), (.int .u8 0), (.int .u8 0), (.int .u8 0), (.int .u8 0), (.int .u8 0), (.int .u8 0), (.int .u8 0)]) rfl rfl (by as_aux_lemma => kernel_rfl)) ?_
  refine TL.alloc (Want.plain rfl) rfl rfl rfl z135 (fun b7 => ?_)
  change TL _ _ _ _ _ _ _ _ _ [blkA b7 [(.int .i64 0), (.int .u8 0), (.int .u8 0), (.int .u8 0), (.int .u8 0), (.int .u8 0), (.int .u8 0), (.int .u8 0), (.int .u8 0), (.int .u8 0), (.int .u8 0), (.int .u8 0), (.int .u8 0), (.int .u8 0), (.int .u8 0), (.int .u8 0), (.int .u8 0), (.int .u8 0), (.int .u8 0), (.int .u8 0), (.int .u8 0), (.int .u8 0), (.int .u8 0), (.int .u8 0), (.int .u8 0), (.int .u8 0), (.int .u8 0), (.int .u8 0), (.int .u8 0), (.int .u8 0), (.int .u8 0), (.int .u8 0), (.int .u8 0), (.int .u8 0), (.int .u8 0), (.int .u8 0), (.int .u8 0), (.int .u8 0), (.int .u8 0), (.int .u8 0), (.int .u8 0), (.int .u8 0), (.int .u8 0), (.int .u8 0), (.int .u8 0), (.int .u8 0), (.int .u8 0), (.int .u8 0), (.int .u8 0), (.int .u8 0), (.int .u8 0), (.int .u8 0), (.int .u8 0), (.int .u8 0), (.int .u8 0), (.int .u8 0), (.int .u8 0), (.int .u8 0), (.int .u8 0), (.int .u8 0), (.int .u8 0), (.int .u8 0), (.int .u8 0), (.int .u8 0), (.int .u8 0)] 135, blkA d [(.map (some m)), wv, (.bool (ar)), (.int .i64 (lf)), (.bool (dn))] 115, own wv (ws.length) (wflat ws) 135 65]
  refine TL.store (vs := [(.int .i64 (at')), (.int .u8 0), (.int .u8 0), (.int .u8 0), (.int .u8 0), (.int .u8 0), (.int .u8 0), (.int .u8 0), (.int .u8 0), (.int .u8 0), (.int .u8 0), (.int .u8 0), (.int .u8 0), (.int .u8 0), (.int .u8 0), (.int .u8 0), (.int .u8 0), (.int .u8 0), (.int .u8 0), (.int .u8 0), (.int .u8 0), (.int .u8 0), (.int .u8 0), (.int .u8 0), (.int .u8 0), (.int .u8 0), (.int .u8 0), (.int .u8 0), (.int .u8 0), (.int .u8 0), (.int .u8 0), (.int .u8 0), (.int .u8 0), (.int .u8 0), (.int .u8 0), (.int .u8 0), (.int .u8 0), (.int .u8 0), (.int .u8 0), (.int .u8 0), (.int .u8 0), (.int .u8 0), (.int .u8 0), (.int .u8 0), (.int .u8 0), (.int .u8 0), (.int .u8 0), (.int .u8 0), (.int .u8 0), (.int .u8 0), (.int .u8 0), (.int .u8 0), (.int .u8 0), (.int .u8 0), (.int .u8 0), (.int .u8 0), (.int .u8 0), (.int .u8 0), (.int .u8 0), (.int .u8 0), (.int .u8 0), (.int .u8 0), (.int .u8 0), (.int .u8 0), (.int .u8 0)]) (i := 0) (H' := [blkA b7 [(.int .i64 (at')), (.int .u8 0), (.int .u8 0), (.int .u8 0), (.int .u8 0), (.int .u8 0), (.int .u8 0), (.int .u8 0), (.int .u8 0), (.int .u8 0), (.int .u8 0), (.int .u8 0), (.int .u8 0), (.int .u8 0), (.int .u8 0), (.int .u8 0), (.int .u8 0), (.int .u8 0), (.int .u8 0), (.int .u8 0), (.int .u8 0), (.int .u8 0), (.int .u8 0), (.int .u8 0), (.int .u8 0), (.int .u8 0), (.int .u8 0), (.int .u8 0), (.int .u8 0), (.int .u8 0), (.int .u8 0), (.int .u8 0), (.int .u8 0), (.int .u8 0), (.int .u8 0), (.int .u8 0), (.int .u8 0), (.int .u8 0), (.int .u8 0), (.int .u8 0), (.int .u8 0), (.int .u8 0), (.int .u8 0), (.int .u8 0), (.int .u8 0), (.int .u8 0), (.int .u8 0), (.int .u8 0), (.int .u8 0), (.int .u8 0), (.int .u8 0), (.int .u8 0), (.int .u8 0), (.int .u8 0), (.int .u8 0), (.int .u8 0), (.int .u8 0), (.int .u8 0), (.int .u8 0), (.int .u8 0), (.int .u8 0), (.int .u8 0), (.int .u8 0), (.int .u8 0), (.int .u8 0)] 135, blkA d [(.map (some m)), wv, (.bool (ar)), (.int .i64 (lf)), (.bool (dn))] 115, own wv (ws.length) (wflat ws) 135 65]) (Want.plain rfl) rfl rfl rfl rfl rfl sz135 (by simp [Value.oneCell']) rfl rfl (lbe rfl) rfl rfl ?_
  refine TL.nil ?_
  refine TE.next hK22 ?_
  clear hK22
  refine TC.seq (fun K23 hK23 => ?_)
  refine TC.region ?_
  refine tp rfl rfl rfl (PV.fieldAddr (r := 1) rfl Tryz.underlying135 rfl sz133 rfl rfl) ?_
  refine tp rfl rfl rfl (PV.sliceArr rfl Tryz.underlying133 sz5 rfl) ?_
  refine tp rfl rfl rfl (PV.move rfl rfl) ?_
  refine TL.copy (i := 0) (m := bs.length) (news := (u8s bs)) (H' := [blkA b7 (wcell (at', padS bs)) 135, blkA d [(.map (some m)), wv, (.bool (ar)), (.int .i64 (lf)), (.bool (dn))] 115, own wv (ws.length) (wflat ws) 135 65]) (Want.plain rfl) rfl rfl rfl Tryz.underlying106 sz5 rfl rfl rfl rfl (fun _ _ => hF.src (fun _ h => Frm.of h)) (u8s_one _) (by show 1 + min bs.length 64 ≤ 65; omega) (wr_pad (by omega)) rfl ?_
  refine TL.nil ?_
  refine TE.next hK23 ?_
  clear hK23
  refine TC.seq (fun K24 hK24 => ?_)
  refine TC.draw (fun w => Frm F w ∧ w.heap[b7]? = some (.cells (wcell (at', padS bs)).toArray 135 (0, 0)) ∧ True) mixedD rfl (fun _ s => ⟨Frm.of s, s.block 0 (lb rfl) rfl, trivial⟩) ?_
  refine TD.take (i := 0) rfl (by kernel_rfl) (by kernel_rfl) (by kernel_rfl) (fun _ _ _ _ h => h) (Want.plain rfl) rfl rfl (PV.move rfl rfl) ?_
  refine TD.take (i := 1) rfl (by kernel_rfl) (by kernel_rfl) (by kernel_rfl) (fun _ _ _ _ h => h) (Want.plain rfl) rfl rfl (PV.move rfl rfl) ?_
  refine TD.take (i := 2) rfl (by kernel_rfl) (by kernel_rfl) (by kernel_rfl) (fun _ _ _ _ h => h) (Want.plain rfl) rfl rfl (PV.nilCheck rfl rfl) ?_
  refine TD.take (i := 3) rfl (by kernel_rfl) (by kernel_rfl) (by kernel_rfl) (fun _ _ _ _ h => h) (Want.plain rfl) rfl rfl (PV.fieldAddr (r := 1) rfl Tryz.underlying115 rfl sz113 rfl rfl) ?_
  refine TD.take (i := 5) rfl (by kernel_rfl) (by kernel_rfl) (by kernel_rfl) (fun _ _ _ _ h => h) (Want.plain rfl) rfl rfl (PV.loadN (vs := wcell (at', padS bs)) rfl Tryz.underlying135 rfl sz135 rfl (fun _ h => h.2.1) (wcell_len (padS_len (by omega))) (by rw [List.drop_zero, List.take_of_length_le (by rw [(wcell_len (padS_len (by omega)))]; exact Nat.le_refl _)])) ?_
  refine TD.all [4, 6] (by kernel_rfl) rfl ?_
  refine AllT.cons rfl ?_ ?_
  refine tp rfl rfl rfl (PV.load1 (v := wv) rfl Tryz.underlying113 rfl rfl (Rd.own 1 rfl rfl) rfl) ?_
  refine TL.nil ?_
  refine TE.draw (fun _ s => ⟨Frm.of s, s.block 0 (lb rfl) rfl, trivial⟩) ?_
  refine TD.all [6] (by kernel_rfl) rfl ?_
  refine AllT.cons rfl ?_ ?_
  refine TL.buildSlice (cells := (wcell (at', padS bs)).toArray) (Want.plain rfl) rfl rfl rfl Tryz.underlying113 in135 rfl rfl rfl (fill_at (wcell_len (padS_len (by omega))) (by simp)) (fun b60 => ?_)
  change TL _ _ _ _ _ _ _ _ _ [blkA b60 (wcell (at', padS bs)) 135, blkA b7 (wcell (at', padS bs)) 135, blkA d [(.map (some m)), wv, (.bool (ar)), (.int .i64 (lf)), (.bool (dn))] 115, own wv (ws.length) (wflat ws) 135 65]
  refine TL.nil ?_
  refine TE.draw (fun _ s => ⟨Frm.of s, s.block 1 (lb rfl) rfl, trivial⟩) ?_
  refine TD.all [7] (by kernel_rfl) rfl ?_
  refine AllT.cons rfl ?_ ?_
  refine TL.append (k := 3) (news := wcell (at', padS bs)) (nn' := (ws ++ [(at', padS bs)]).length) (xs' := wflat (ws ++ [(at', padS bs)])) (Want.plain rfl) rfl rfl rfl Tryz.underlying113 in135 rfl rfl rfl rfl rfl rfl (fun _ _ => Src.rd (wcell_len (padS_len (by omega))) (Rd.own 0 rfl rfl) (by rw [List.drop_zero, List.take_of_length_le (Nat.le_refl _)])) (wcell_one _) (by simp only [maxLen]; omega) (by omega) (by simp) (by simp [wflat]) (fun v61 ov61 => ?_)
  change TL _ _ _ _ _ _ _ _ _ [blkA b60 (wcell (at', padS bs)) 135, blkA b7 (wcell (at', padS bs)) 135, blkA d [(.map (some m)), wv, (.bool (ar)), (.int .i64 (lf)), (.bool (dn))] 115, own v61 ((ws ++ [(at', padS bs)]).length) (wflat (ws ++ [(at', padS bs)])) 135 65]
  refine TL.nil ?_
  refine TE.draw (fun _ s => ⟨Frm.of s, s.block 1 (lb rfl) rfl, trivial⟩) ?_
  refine TD.take (i := 8) rfl (by kernel_rfl) (by kernel_rfl) (by kernel_rfl) (fun _ _ _ _ h => h) (Want.plain rfl) rfl rfl (PV.nilCheck rfl rfl) ?_
  refine TD.take (i := 9) rfl (by kernel_rfl) (by kernel_rfl) (by kernel_rfl) (fun _ _ _ _ h => h) (Want.plain rfl) rfl rfl (PV.fieldAddr (r := 1) rfl Tryz.underlying115 rfl sz113 rfl rfl) ?_
  refine TD.all [10] (by kernel_rfl) rfl ?_
  refine AllT.cons rfl ?_ ?_
  refine TL.store1 (i := 2) (H' := [blkA b60 (wcell (at', padS bs)) 135, blkA b7 (wcell (at', padS bs)) 135, blkA d [(.map (some m)), v61, (.bool (ar)), (.int .i64 (lf)), (.bool (dn))] 115, own v61 ((ws ++ [(at', padS bs)]).length) (wflat (ws ++ [(at', padS bs)])) 135 65]) (Want.plain rfl) rfl rfl rfl rfl ov61 sz113 rfl rfl (lb rfl) rfl rfl ?_
  refine TL.nil ?_
  refine TE.draw (fun _ s => ⟨Frm.of s, s.block 1 (lb rfl) rfl, trivial⟩) ?_
  refine TD.done (by kernel_rfl) ?_
  refine TE.next hK24 ?_
  clear hK24
  refine TC.seq (fun K25 hK25 => ?_)
  refine TC.region ?_
  refine tp rfl rfl rfl (PV.assign rfl rfl) ?_
  refine TL.nil ?_
  refine TE.next hK25 ?_
  clear hK25
  refine TC.ret ?_
  refine TE.weak (Sub.refl _) (fun _ s => sep_keep [2, 2] rfl s) ?_
  refine TE.ret1 rfl rfl ?_
  show (if _ then _ else _)
  first
    | (rw [if_pos (by omega)]; exact ⟨rfl, rfl⟩)
    | (rw [if_neg (by omega), if_pos (by simp_all)]; exact ⟨rfl, by simp_all <;> rfl⟩)
    | (rw [if_neg (by omega), if_neg (by simp_all)]; exact ⟨rfl, v61, by simp_all <;> rfl⟩)
  exact AllT.nil
  exact AllT.nil
  exact AllT.nil
  refine AllT.cons rfl ?_ ?_
  refine TL.buildSlice (cells := (wcell (at', padS bs)).toArray) (Want.plain rfl) rfl rfl rfl Tryz.underlying113 in135 rfl rfl rfl (fill_at (wcell_len (padS_len (by omega))) (by simp)) (fun b60 => ?_)
  change TL _ _ _ _ _ _ _ _ _ [blkA b60 (wcell (at', padS bs)) 135, blkA b7 (wcell (at', padS bs)) 135, blkA d [(.map (some m)), wv, (.bool (ar)), (.int .i64 (lf)), (.bool (dn))] 115, own wv (ws.length) (wflat ws) 135 65]
  refine TL.nil ?_
  refine TE.draw (fun _ s => ⟨Frm.of s, s.block 1 (lb rfl) rfl, trivial⟩) ?_
  refine TD.all [4] (by kernel_rfl) rfl ?_
  refine AllT.cons rfl ?_ ?_
  refine tp rfl rfl rfl (PV.load1 (v := wv) rfl Tryz.underlying113 rfl rfl (Rd.own 2 rfl rfl) rfl) ?_
  refine TL.nil ?_
  refine TE.draw (fun _ s => ⟨Frm.of s, s.block 1 (lb rfl) rfl, trivial⟩) ?_
  refine TD.all [7] (by kernel_rfl) rfl ?_
  refine AllT.cons rfl ?_ ?_
  refine TL.append (k := 3) (news := wcell (at', padS bs)) (nn' := (ws ++ [(at', padS bs)]).length) (xs' := wflat (ws ++ [(at', padS bs)])) (Want.plain rfl) rfl rfl rfl Tryz.underlying113 in135 rfl rfl rfl rfl rfl rfl (fun _ _ => Src.rd (wcell_len (padS_len (by omega))) (Rd.own 0 rfl rfl) (by rw [List.drop_zero, List.take_of_length_le (Nat.le_refl _)])) (wcell_one _) (by simp only [maxLen]; omega) (by omega) (by simp) (by simp [wflat]) (fun v61 ov61 => ?_)
  change TL _ _ _ _ _ _ _ _ _ [blkA b60 (wcell (at', padS bs)) 135, blkA b7 (wcell (at', padS bs)) 135, blkA d [(.map (some m)), wv, (.bool (ar)), (.int .i64 (lf)), (.bool (dn))] 115, own v61 ((ws ++ [(at', padS bs)]).length) (wflat (ws ++ [(at', padS bs)])) 135 65]
  refine TL.nil ?_
  refine TE.draw (fun _ s => ⟨Frm.of s, s.block 1 (lb rfl) rfl, trivial⟩) ?_
  refine TD.take (i := 8) rfl (by kernel_rfl) (by kernel_rfl) (by kernel_rfl) (fun _ _ _ _ h => h) (Want.plain rfl) rfl rfl (PV.nilCheck rfl rfl) ?_
  refine TD.take (i := 9) rfl (by kernel_rfl) (by kernel_rfl) (by kernel_rfl) (fun _ _ _ _ h => h) (Want.plain rfl) rfl rfl (PV.fieldAddr (r := 1) rfl Tryz.underlying115 rfl sz113 rfl rfl) ?_
  refine TD.all [10] (by kernel_rfl) rfl ?_
  refine AllT.cons rfl ?_ ?_
  refine TL.store1 (i := 2) (H' := [blkA b60 (wcell (at', padS bs)) 135, blkA b7 (wcell (at', padS bs)) 135, blkA d [(.map (some m)), v61, (.bool (ar)), (.int .i64 (lf)), (.bool (dn))] 115, own v61 ((ws ++ [(at', padS bs)]).length) (wflat (ws ++ [(at', padS bs)])) 135 65]) (Want.plain rfl) rfl rfl rfl rfl ov61 sz113 rfl rfl (lb rfl) rfl rfl ?_
  refine TL.nil ?_
  refine TE.draw (fun _ s => ⟨Frm.of s, s.block 1 (lb rfl) rfl, trivial⟩) ?_
  refine TD.done (by kernel_rfl) ?_
  refine TE.next hK24 ?_
  clear hK24
  refine TC.seq (fun K26 hK26 => ?_)
  refine TC.region ?_
  refine tp rfl rfl rfl (PV.assign rfl rfl) ?_
  refine TL.nil ?_
  refine TE.next hK26 ?_
  clear hK26
  refine TC.ret ?_
  refine TE.weak (Sub.refl _) (fun _ s => sep_keep [2, 2] rfl s) ?_
  refine TE.ret1 rfl rfl ?_
  show (if _ then _ else _)
  first
    | (rw [if_pos (by omega)]; exact ⟨rfl, rfl⟩)
    | (rw [if_neg (by omega), if_pos (by simp_all)]; exact ⟨rfl, by simp_all <;> rfl⟩)
    | (rw [if_neg (by omega), if_neg (by simp_all)]; exact ⟨rfl, v61, by simp_all <;> rfl⟩)
  exact AllT.nil
  exact AllT.nil
  exact AllT.nil
  exact AllT.nil
  refine tp rfl rfl rfl (PV.move rfl rfl) ?_
  refine TL.unmet (b := false) rfl rfl rfl rfl (lb rfl) ?_
  refine TL.unmet (b := false) rfl rfl rfl rfl (lb rfl) ?_
  refine TL.unmet (b := false) rfl rfl rfl rfl (lb rfl) ?_
  refine TL.unmet (b := false) rfl rfl rfl rfl (lb rfl) ?_
  refine TL.unmet (b := false) rfl rfl rfl rfl (lb rfl) ?_
  refine tp rfl rfl rfl (PV.pick rfl rfl rfl) ?_
  refine TL.nil ?_
  refine TE.next hK8 ?_
  clear hK8
  refine TC.no rfl ?_
  refine TC.skip ?_
  refine TE.next hK7 ?_
  clear hK7
  refine TC.seq (fun K27 hK27 => ?_)
  refine TC.seq (fun K28 hK28 => ?_)
  refine TC.region ?_
  refine tp rfl rfl rfl (PV.move rfl rfl) ?_
  refine tp rfl rfl rfl (PV.nilCheck rfl rfl) ?_
  refine tp rfl rfl rfl (PV.fieldAddr (r := 4) rfl Tryz.underlying115 rfl sz4 rfl rfl) ?_
  refine tp rfl rfl rfl (PV.load1 (v := (.bool (dn))) rfl Tryz.underlying4 rfl rfl (Rd.own 0 rfl rfl) rfl) ?_
  refine TL.decB (fun h36 => ?_) (fun h36 => ?_)
  refine TL.nil ?_
  refine TE.next hK28 ?_
  clear hK28
  refine TC.yes rfl ?_
  refine TC.seq (fun K29 hK29 => ?_)
  refine TC.region ?_
  refine tp rfl rfl rfl (PV.assign rfl rfl) ?_
  refine TL.nil ?_
  refine TE.next hK29 ?_
  clear hK29
  refine TC.ret ?_
  refine TE.passRet ?_
  clear hK27
  refine TE.weak (Sub.refl _) (fun _ s => sep_keep [0, 0] rfl s) ?_
  refine TE.ret1 rfl rfl ?_
  show (if _ then _ else _)
  first
    | (rw [if_pos (by omega)]; exact ⟨rfl, rfl⟩)
    | (rw [if_neg (by omega), if_pos (by simp_all)]; exact ⟨rfl, by simp_all <;> rfl⟩)
    | (rw [if_neg (by omega), if_neg (by simp_all)]; exact ⟨rfl, v61, by simp_all <;> rfl⟩)
  refine TL.nil ?_
  refine TE.next hK28 ?_
  clear hK28
  refine TC.no rfl ?_
  refine TC.skip ?_
  refine TE.next hK27 ?_
  clear hK27
  refine TC.seq (fun K30 hK30 => ?_)
  refine TC.seq (fun K31 hK31 => ?_)
  refine TC.region ?_
  refine tp rfl rfl rfl (PV.move rfl rfl) ?_
  refine tp rfl rfl rfl (PV.nilCheck rfl rfl) ?_
  refine tp rfl rfl rfl (PV.fieldAddr (r := 2) rfl Tryz.underlying115 rfl sz4 rfl rfl) ?_
  refine tp rfl rfl rfl (PV.load1 (v := (.bool (ar))) rfl Tryz.underlying4 rfl rfl (Rd.own 0 rfl rfl) rfl) ?_
  refine TL.decB (fun h40 => ?_) (fun h40 => ?_)
  refine TL.nil ?_
  refine TE.next hK31 ?_
  clear hK31
  refine TC.yes rfl ?_
  refine TC.region ?_
  refine tp rfl rfl rfl (PV.move rfl rfl) ?_
  refine tp rfl rfl rfl (PV.nilCheck rfl rfl) ?_
  refine tp rfl rfl rfl (PV.fieldAddr (r := 3) rfl Tryz.underlying115 rfl sz3 rfl rfl) ?_
  refine tp rfl rfl rfl (PV.load1 (v := (.int .i64 (lf))) rfl Tryz.underlying3 rfl rfl (Rd.own 0 rfl rfl) rfl) ?_
  refine tp rfl rfl rfl (PV.sub rfl rfl rfl (wrap_i64 (by omega) (by omega))) ?_
  refine tp rfl rfl rfl (PV.nilCheck rfl rfl) ?_
  refine tp rfl rfl rfl (PV.fieldAddr (r := 3) rfl Tryz.underlying115 rfl sz3 rfl rfl) ?_
  refine TL.store1 (i := 0) (H' := [blkA d [(.map (some m)), wv, (.bool (ar)), (.int .i64 (lf - 1)), (.bool (dn))] 115, own wv (ws.length) (wflat ws) 135 65]) (Want.plain rfl) rfl rfl rfl rfl rfl sz3 rfl rfl (lb rfl) rfl rfl ?_
  refine TL.nil ?_
  refine TE.next hK30 ?_
  clear hK30
  refine TC.seq (fun K32 hK32 => ?_)
  refine TC.region ?_
  refine tp rfl rfl rfl (PV.move rfl rfl) ?_
  refine tp rfl rfl rfl (PV.build (cells := #[(.int .i64 (at')), (.int .u8 0), (.int .u8 0), (.int .u8 0), (.int .u8 0), (.int .u8 0), (.int .u8 0), (.int .u8 0), (.int .u8 0), (.int .u8 0), (.int .u8 0), (.int .u8 0), (.int .u8 0), (.int .u8 0), (.int .u8 0), (.int .u8 0), (.int .u8 0), (.int .u8 0), (.int .u8 0), (.int .u8 0), (.int .u8 0), (.int .u8 0), (.int .u8 0), (.int .u8 0), (.int .u8 0), (.int .u8 0), (.int .u8 0), (.int .u8 0), (.int .u8 0), (.int .u8 0), (.int .u8 0), (.int .u8 0), (.int .u8 0), (.int .u8 0), (.int .u8 0), (.int .u8 0), (.int .u8 0), (.int .u8 0), (.int .u8 0), (.int .u8 0), (.int .u8 0), (.int .u8 0), (.int .u8 0), (.int .u8 0), (.int .u8 0), (.int .u8 0), (.int .u8 0), (.int .u8 0), (.int .u8 0), (.int .u8 0), (.int .u8 0), (.int .u8 0), (.int .u8 0), (.int .u8 0), (.int .u8 0), (.int .u8 0), (.int .u8 0), (.int .u8 0), (.int .u8 0), (.int .u8 0), (.int .u8 0), (.int .u8 0), (.int .u8 0), (.int .u8 0), (.int .u8 0)]) rfl rfl (by as_aux_lemma => kernel_rfl)) ?_
  refine TL.alloc (Want.plain rfl) rfl rfl rfl z135 (fun b7 => ?_)
  change TL _ _ _ _ _ _ _ _ _ [blkA b7 [(.int .i64 0), (.int .u8 0), (.int .u8 0), (.int .u8 0), (.int .u8 0), (.int .u8 0), (.int .u8 0), (.int .u8 0), (.int .u8 0), (.int .u8 0), (.int .u8 0), (.int .u8 0), (.int .u8 0), (.int .u8 0), (.int .u8 0), (.int .u8 0), (.int .u8 0), (.int .u8 0), (.int .u8 0), (.int .u8 0), (.int .u8 0), (.int .u8 0), (.int .u8 0), (.int .u8 0), (.int .u8 0), (.int .u8 0), (.int .u8 0), (.int .u8 0), (.int .u8 0), (.int .u8 0), (.int .u8 0), (.int .u8 0), (.int .u8 0), (.int .u8 0), (.int .u8 0), (.int .u8 0), (.int .u8 0), (.int .u8 0), (.int .u8 0), (.int .u8 0), (.int .u8 0), (.int .u8 0), (.int .u8 0), (.int .u8 0), (.int .u8 0), (.int .u8 0), (.int .u8 0), (.int .u8 0), (.int .u8 0), (.int .u8 0), (.int .u8 0), (.int .u8 0), (.int .u8 0), (.int .u8 0), (.int .u8 0), (.int .u8 0), (.int .u8 0), (.int .u8 0), (.int .u8 0), (.int .u8 0), (.int .u8 0), (.int .u8 0), (.int .u8 0), (.int .u8 0), (.int .u8 0)] 135, blkA d [(.map (some m)), wv, (.bool (ar)), (.int .i64 (lf - 1)), (.bool (dn))] 115, own wv (ws.length) (wflat ws) 135 65]
  refine TL.store (vs := [(.int .i64 (at')), (.int .u8 0), (.int .u8 0), (.int .u8 0), (.int .u8 0), (.int .u8 0), (.int .u8 0), (.int .u8 0), (.int .u8 0), (.int .u8 0), (.int .u8 0), (.int .u8 0), (.int .u8 0), (.int .u8 0), (.int .u8 0), (.int .u8 0), (.int .u8 0), (.int .u8 0), (.int .u8 0), (.int .u8 0), (.int .u8 0), (.int .u8 0), (.int .u8 0), (.int .u8 0), (.int .u8 0), (.int .u8 0), (.int .u8 0), (.int .u8 0), (.int .u8 0), (.int .u8 0), (.int .u8 0), (.int .u8 0), (.int .u8 0), (.int .u8 0), (.int .u8 0), (.int .u8 0), (.int .u8 0), (.int .u8 0), (.int .u8 0), (.int .u8 0), (.int .u8 0), (.int .u8 0), (.int .u8 0), (.int .u8 0), (.int .u8 0), (.int .u8 0), (.int .u8 0), (.int .u8 0), (.int .u8 0), (.int .u8 0), (.int .u8 0), (.int .u8 0), (.int .u8 0), (.int .u8 0), (.int .u8 0), (.int .u8 0), (.int .u8 0), (.int .u8 0), (.int .u8 0), (.int .u8 0), (.int .u8 0), (.int .u8 0), (.int .u8 0), (.int .u8 0), (.int .u8 0)]) (i := 0) (H' := [blkA b7 [(.int .i64 (at')), (.int .u8 0), (.int .u8 0), (.int .u8 0), (.int .u8 0), (.int .u8 0), (.int .u8 0), (.int .u8 0), (.int .u8 0), (.int .u8 0), (.int .u8 0), (.int .u8 0), (.int .u8 0), (.int .u8 0), (.int .u8 0), (.int .u8 0), (.int .u8 0), (.int .u8 0), (.int .u8 0), (.int .u8 0), (.int .u8 0), (.int .u8 0), (.int .u8 0), (.int .u8 0), (.int .u8 0), (.int .u8 0), (.int .u8 0), (.int .u8 0), (.int .u8 0), (.int .u8 0), (.int .u8 0), (.int .u8 0), (.int .u8 0), (.int .u8 0), (.int .u8 0), (.int .u8 0), (.int .u8 0), (.int .u8 0), (.int .u8 0), (.int .u8 0), (.int .u8 0), (.int .u8 0), (.int .u8 0), (.int .u8 0), (.int .u8 0), (.int .u8 0), (.int .u8 0), (.int .u8 0), (.int .u8 0), (.int .u8 0), (.int .u8 0), (.int .u8 0), (.int .u8 0), (.int .u8 0), (.int .u8 0), (.int .u8 0), (.int .u8 0), (.int .u8 0), (.int .u8 0), (.int .u8 0), (.int .u8 0), (.int .u8 0), (.int .u8 0), (.int .u8 0), (.int .u8 0)] 135, blkA d [(.map (some m)), wv, (.bool (ar)), (.int .i64 (lf - 1)), (.bool (dn))] 115, own wv (ws.length) (wflat ws) 135 65]) (Want.plain rfl) rfl rfl rfl rfl rfl sz135 (by simp [Value.oneCell']) rfl rfl (lbe rfl) rfl rfl ?_
  refine TL.nil ?_
  refine TE.next hK32 ?_
  clear hK32
  refine TC.seq (fun K33 hK33 => ?_)
  refine TC.region ?_
  refine tp rfl rfl rfl (PV.fieldAddr (r := 1) rfl Tryz.underlying135 rfl sz133 rfl rfl) ?_
  refine tp rfl rfl rfl (PV.sliceArr rfl Tryz.underlying133 sz5 rfl) ?_
  refine tp rfl rfl rfl (PV.move rfl rfl) ?_
  refine TL.copy (i := 0) (m := bs.length) (news := (u8s bs)) (H' := [blkA b7 (wcell (at', padS bs)) 135, blkA d [(.map (some m)), wv, (.bool (ar)), (.int .i64 (lf - 1)), (.bool (dn))] 115, own wv (ws.length) (wflat ws) 135 65]) (Want.plain rfl) rfl rfl rfl Tryz.underlying106 sz5 rfl rfl rfl rfl (fun _ _ => hF.src (fun _ h => Frm.of h)) (u8s_one _) (by show 1 + min bs.length 64 ≤ 65; omega) (wr_pad (by omega)) rfl ?_
  refine TL.nil ?_
  refine TE.next hK33 ?_
  clear hK33
  refine TC.seq (fun K34 hK34 => ?_)
  refine TC.draw (fun w => Frm F w ∧ w.heap[b7]? = some (.cells (wcell (at', padS bs)).toArray 135 (0, 0)) ∧ True) mixedD rfl (fun _ s => ⟨Frm.of s, s.block 0 (lb rfl) rfl, trivial⟩) ?_
  refine TD.take (i := 0) rfl (by kernel_rfl) (by kernel_rfl) (by kernel_rfl) (fun _ _ _ _ h => h) (Want.plain rfl) rfl rfl (PV.move rfl rfl) ?_
  refine TD.take (i := 1) rfl (by kernel_rfl) (by kernel_rfl) (by kernel_rfl) (fun _ _ _ _ h => h) (Want.plain rfl) rfl rfl (PV.move rfl rfl) ?_
  refine TD.take (i := 2) rfl (by kernel_rfl) (by kernel_rfl) (by kernel_rfl) (fun _ _ _ _ h => h) (Want.plain rfl) rfl rfl (PV.nilCheck rfl rfl) ?_
  refine TD.take (i := 3) rfl (by kernel_rfl) (by kernel_rfl) (by kernel_rfl) (fun _ _ _ _ h => h) (Want.plain rfl) rfl rfl (PV.fieldAddr (r := 1) rfl Tryz.underlying115 rfl sz113 rfl rfl) ?_
  refine TD.take (i := 5) rfl (by kernel_rfl) (by kernel_rfl) (by kernel_rfl) (fun _ _ _ _ h => h) (Want.plain rfl) rfl rfl (PV.loadN (vs := wcell (at', padS bs)) rfl Tryz.underlying135 rfl sz135 rfl (fun _ h => h.2.1) (wcell_len (padS_len (by omega))) (by rw [List.drop_zero, List.take_of_length_le (by rw [(wcell_len (padS_len (by omega)))]; exact Nat.le_refl _)])) ?_
  refine TD.all [4, 6] (by kernel_rfl) rfl ?_
  refine AllT.cons rfl ?_ ?_
  refine tp rfl rfl rfl (PV.load1 (v := wv) rfl Tryz.underlying113 rfl rfl (Rd.own 1 rfl rfl) rfl) ?_
  refine TL.nil ?_
  refine TE.draw (fun _ s => ⟨Frm.of s, s.block 0 (lb rfl) rfl, trivial⟩) ?_
  refine TD.all [6] (by kernel_rfl) rfl ?_
  refine AllT.cons rfl ?_ ?_
  refine TL.buildSlice (cells := (wcell (at', padS bs)).toArray) (Want.plain rfl) rfl rfl rfl Tryz.underlying113 in135 rfl rfl rfl (fill_at (wcell_len (padS_len (by omega))) (by simp)) (fun b60 => ?_)
  change TL _ _ _ _ _ _ _ _ _ [blkA b60 (wcell (at', padS bs)) 135, blkA b7 (wcell (at', padS bs)) 135, blkA d [(.map (some m)), wv, (.bool (ar)), (.int .i64 (lf - 1)), (.bool (dn))] 115, own wv (ws.length) (wflat ws) 135 65]
  refine TL.nil ?_
  refine TE.draw (fun _ s => ⟨Frm.of s, s.block 1 (lb rfl) rfl, trivial⟩) ?_
  refine TD.all [7] (by kernel_rfl) rfl ?_
  refine AllT.cons rfl ?_ ?_
  refine TL.append (k := 3) (news := wcell (at', padS bs)) (nn' := (ws ++ [(at', padS bs)]).length) (xs' := wflat (ws ++ [(at', padS bs)])) (Want.plain rfl) rfl rfl rfl Tryz.underlying113 in135 rfl rfl rfl rfl rfl rfl (fun _ _ => Src.rd (wcell_len (padS_len (by omega))) (Rd.own 0 rfl rfl) (by rw [List.drop_zero, List.take_of_length_le (Nat.le_refl _)])) (wcell_one _) (by simp only [maxLen]; omega) (by omega) (by simp) (by simp [wflat]) (fun v61 ov61 => ?_)
  change TL _ _ _ _ _ _ _ _ _ [blkA b60 (wcell (at', padS bs)) 135, blkA b7 (wcell (at', padS bs)) 135, blkA d [(.map (some m)), wv, (.bool (ar)), (.int .i64 (lf - 1)), (.bool (dn))] 115, own v61 ((ws ++ [(at', padS bs)]).length) (wflat (ws ++ [(at', padS bs)])) 135 65]
  refine TL.nil ?_
  refine TE.draw (fun _ s => ⟨Frm.of s, s.block 1 (lb rfl) rfl, trivial⟩) ?_
  refine TD.take (i := 8) rfl (by kernel_rfl) (by kernel_rfl) (by kernel_rfl) (fun _ _ _ _ h => h) (Want.plain rfl) rfl rfl (PV.nilCheck rfl rfl) ?_
  refine TD.take (i := 9) rfl (by kernel_rfl) (by kernel_rfl) (by kernel_rfl) (fun _ _ _ _ h => h) (Want.plain rfl) rfl rfl (PV.fieldAddr (r := 1) rfl Tryz.underlying115 rfl sz113 rfl rfl) ?_
  refine TD.all [10] (by kernel_rfl) rfl ?_
  refine AllT.cons rfl ?_ ?_
  refine TL.store1 (i := 2) (H' := [blkA b60 (wcell (at', padS bs)) 135, blkA b7 (wcell (at', padS bs)) 135, blkA d [(.map (some m)), v61, (.bool (ar)), (.int .i64 (lf - 1)), (.bool (dn))] 115, own v61 ((ws ++ [(at', padS bs)]).length) (wflat (ws ++ [(at', padS bs)])) 135 65]) (Want.plain rfl) rfl rfl rfl rfl ov61 sz113 rfl rfl (lb rfl) rfl rfl ?_
  refine TL.nil ?_
  refine TE.draw (fun _ s => ⟨Frm.of s, s.block 1 (lb rfl) rfl, trivial⟩) ?_
  refine TD.done (by kernel_rfl) ?_
  refine TE.next hK34 ?_
  clear hK34
  refine TC.seq (fun K35 hK35 => ?_)
  refine TC.region ?_
  refine tp rfl rfl rfl (PV.assign rfl rfl) ?_
  refine TL.nil ?_
  refine TE.next hK35 ?_
  clear hK35
  refine TC.ret ?_
  refine TE.weak (Sub.refl _) (fun _ s => sep_keep [2, 2] rfl s) ?_
  refine TE.ret1 rfl rfl ?_
  show (if _ then _ else _)
  first
    | (rw [if_pos (by omega)]; exact ⟨rfl, rfl⟩)
    | (rw [if_neg (by omega), if_pos (by simp_all)]; exact ⟨rfl, by simp_all <;> rfl⟩)
    | (rw [if_neg (by omega), if_neg (by simp_all)]; exact ⟨rfl, v61, by simp_all <;> rfl⟩)
  exact AllT.nil
  exact AllT.nil
  exact AllT.nil
  refine AllT.cons rfl ?_ ?_
  refine TL.buildSlice (cells := (wcell (at', padS bs)).toArray) (Want.plain rfl) rfl rfl rfl Tryz.underlying113 in135 rfl rfl rfl (fill_at (wcell_len (padS_len (by omega))) (by simp)) (fun b60 => ?_)
  change TL _ _ _ _ _ _ _ _ _ [blkA b60 (wcell (at', padS bs)) 135, blkA b7 (wcell (at', padS bs)) 135, blkA d [(.map (some m)), wv, (.bool (ar)), (.int .i64 (lf - 1)), (.bool (dn))] 115, own wv (ws.length) (wflat ws) 135 65]
  refine TL.nil ?_
  refine TE.draw (fun _ s => ⟨Frm.of s, s.block 1 (lb rfl) rfl, trivial⟩) ?_
  refine TD.all [4] (by kernel_rfl) rfl ?_
  refine AllT.cons rfl ?_ ?_
  refine tp rfl rfl rfl (PV.load1 (v := wv) rfl Tryz.underlying113 rfl rfl (Rd.own 2 rfl rfl) rfl) ?_
  refine TL.nil ?_
  refine TE.draw (fun _ s => ⟨Frm.of s, s.block 1 (lb rfl) rfl, trivial⟩) ?_
  refine TD.all [7] (by kernel_rfl) rfl ?_
  refine AllT.cons rfl ?_ ?_
  refine TL.append (k := 3) (news := wcell (at', padS bs)) (nn' := (ws ++ [(at', padS bs)]).length) (xs' := wflat (ws ++ [(at', padS bs)])) (Want.plain rfl) rfl rfl rfl Tryz.underlying113 in135 rfl rfl rfl rfl rfl rfl (fun _ _ => Src.rd (wcell_len (padS_len (by omega))) (Rd.own 0 rfl rfl) (by rw [List.drop_zero, List.take_of_length_le (Nat.le_refl _)])) (wcell_one _) (by simp only [maxLen]; omega) (by omega) (by simp) (by simp [wflat]) (fun v61 ov61 => ?_)
  change TL _ _ _ _ _ _ _ _ _ [blkA b60 (wcell (at', padS bs)) 135, blkA b7 (wcell (at', padS bs)) 135, blkA d [(.map (some m)), wv, (.bool (ar)), (.int .i64 (lf - 1)), (.bool (dn))] 115, own v61 ((ws ++ [(at', padS bs)]).length) (wflat (ws ++ [(at', padS bs)])) 135 65]
  refine TL.nil ?_
  refine TE.draw (fun _ s => ⟨Frm.of s, s.block 1 (lb rfl) rfl, trivial⟩) ?_
  refine TD.take (i := 8) rfl (by kernel_rfl) (by kernel_rfl) (by kernel_rfl) (fun _ _ _ _ h => h) (Want.plain rfl) rfl rfl (PV.nilCheck rfl rfl) ?_
  refine TD.take (i := 9) rfl (by kernel_rfl) (by kernel_rfl) (by kernel_rfl) (fun _ _ _ _ h => h) (Want.plain rfl) rfl rfl (PV.fieldAddr (r := 1) rfl Tryz.underlying115 rfl sz113 rfl rfl) ?_
  refine TD.all [10] (by kernel_rfl) rfl ?_
  refine AllT.cons rfl ?_ ?_
  refine TL.store1 (i := 2) (H' := [blkA b60 (wcell (at', padS bs)) 135, blkA b7 (wcell (at', padS bs)) 135, blkA d [(.map (some m)), v61, (.bool (ar)), (.int .i64 (lf - 1)), (.bool (dn))] 115, own v61 ((ws ++ [(at', padS bs)]).length) (wflat (ws ++ [(at', padS bs)])) 135 65]) (Want.plain rfl) rfl rfl rfl rfl ov61 sz113 rfl rfl (lb rfl) rfl rfl ?_
  refine TL.nil ?_
  refine TE.draw (fun _ s => ⟨Frm.of s, s.block 1 (lb rfl) rfl, trivial⟩) ?_
  refine TD.done (by kernel_rfl) ?_
  refine TE.next hK34 ?_
  clear hK34
  refine TC.seq (fun K36 hK36 => ?_)
  refine TC.region ?_
  refine tp rfl rfl rfl (PV.assign rfl rfl) ?_
  refine TL.nil ?_
  refine TE.next hK36 ?_
  clear hK36
  refine TC.ret ?_
  refine TE.weak (Sub.refl _) (fun _ s => sep_keep [2, 2] rfl s) ?_
  refine TE.ret1 rfl rfl ?_
  show (if _ then _ else _)
  first
    | (rw [if_pos (by omega)]; exact ⟨rfl, rfl⟩)
    | (rw [if_neg (by omega), if_pos (by simp_all)]; exact ⟨rfl, by simp_all <;> rfl⟩)
    | (rw [if_neg (by omega), if_neg (by simp_all)]; exact ⟨rfl, v61, by simp_all <;> rfl⟩)
  exact AllT.nil
  exact AllT.nil
  exact AllT.nil
  exact AllT.nil
  refine TL.nil ?_
  refine TE.next hK31 ?_
  clear hK31
  refine TC.no rfl ?_
  refine TC.skip ?_
  refine TE.next hK30 ?_
  clear hK30
  refine TC.seq (fun K37 hK37 => ?_)
  refine TC.region ?_
  refine tp rfl rfl rfl (PV.move rfl rfl) ?_
  refine tp rfl rfl rfl (PV.build (cells := #[(.int .i64 (at')), (.int .u8 0), (.int .u8 0), (.int .u8 0), (.int .u8 0), (.int .u8 0), (.int .u8 0), (.int .u8 0), (.int .u8 0), (.int .u8 0), (.int .u8 0), (.int .u8 0), (.int .u8 0), (.int .u8 0), (.int .u8 0), (.int .u8 0), (.int .u8 0), (.int .u8 0), (.int .u8 0), (.int .u8 0), (.int .u8 0), (.int .u8 0), (.int .u8 0), (.int .u8 0), (.int .u8 0), (.int .u8 0), (.int .u8 0), (.int .u8 0), (.int .u8 0), (.int .u8 0), (.int .u8 0), (.int .u8 0), (.int .u8 0), (.int .u8 0), (.int .u8 0), (.int .u8 0), (.int .u8 0), (.int .u8 0), (.int .u8 0), (.int .u8 0), (.int .u8 0), (.int .u8 0), (.int .u8 0), (.int .u8 0), (.int .u8 0), (.int .u8 0), (.int .u8 0), (.int .u8 0), (.int .u8 0), (.int .u8 0), (.int .u8 0), (.int .u8 0), (.int .u8 0), (.int .u8 0), (.int .u8 0), (.int .u8 0), (.int .u8 0), (.int .u8 0), (.int .u8 0), (.int .u8 0), (.int .u8 0), (.int .u8 0), (.int .u8 0), (.int .u8 0), (.int .u8 0)]) rfl rfl (by as_aux_lemma => kernel_rfl)) ?_
  refine TL.alloc (Want.plain rfl) rfl rfl rfl z135 (fun b7 => ?_)
  change TL _ _ _ _ _ _ _ _ _ [blkA b7 [(.int .i64 0), (.int .u8 0), (.int .u8 0), (.int .u8 0), (.int .u8 0), (.int .u8 0), (.int .u8 0), (.int .u8 0), (.int .u8 0), (.int .u8 0), (.int .u8 0), (.int .u8 0), (.int .u8 0), (.int .u8 0), (.int .u8 0), (.int .u8 0), (.int .u8 0), (.int .u8 0), (.int .u8 0), (.int .u8 0), (.int .u8 0), (.int .u8 0), (.int .u8 0), (.int .u8 0), (.int .u8 0), (.int .u8 0), (.int .u8 0), (.int .u8 0), (.int .u8 0), (.int .u8 0), (.int .u8 0), (.int .u8 0), (.int .u8 0), (.int .u8 0), (.int .u8 0), (.int .u8 0), (.int .u8 0), (.int .u8 0), (.int .u8 0), (.int .u8 0), (.int .u8 0), (.int .u8 0), (.int .u8 0), (.int .u8 0), (.int .u8 0), (.int .u8 0), (.int .u8 0), (.int .u8 0), (.int .u8 0), (.int .u8 0), (.int .u8 0), (.int .u8 0), (.int .u8 0), (.int .u8 0), (.int .u8 0), (.int .u8 0), (.int .u8 0), (.int .u8 0), (.int .u8 0), (.int .u8 0), (.int .u8 0), (.int .u8 0), (.int .u8 0), (.int .u8 0), (.int .u8 0)] 135, blkA d [(.map (some m)), wv, (.bool (ar)), (.int .i64 (lf)), (.bool (dn))] 115, own wv (ws.length) (wflat ws) 135 65]
  refine TL.store (vs := [(.int .i64 (at')), (.int .u8 0), (.int .u8 0), (.int .u8 0), (.int .u8 0), (.int .u8 0), (.int .u8 0), (.int .u8 0), (.int .u8 0), (.int .u8 0), (.int .u8 0), (.int .u8 0), (.int .u8 0), (.int .u8 0), (.int .u8 0), (.int .u8 0), (.int .u8 0), (.int .u8 0), (.int .u8 0), (.int .u8 0), (.int .u8 0), (.int .u8 0), (.int .u8 0), (.int .u8 0), (.int .u8 0), (.int .u8 0), (.int .u8 0), (.int .u8 0), (.int .u8 0), (.int .u8 0), (.int .u8 0), (.int .u8 0), (.int .u8 0), (.int .u8 0), (.int .u8 0), (.int .u8 0), (.int .u8 0), (.int .u8 0), (.int .u8 0), (.int .u8 0), (.int .u8 0), (.int .u8 0), (.int .u8 0), (.int .u8 0), (.int .u8 0), (.int .u8 0), (.int .u8 0), (.int .u8 0), (.int .u8 0), (.int .u8 0), (.int .u8 0), (.int .u8 0), (.int .u8 0), (.int .u8 0), (.int .u8 0), (.int .u8 0), (.int .u8 0), (.int .u8 0), (.int .u8 0), (.int .u8 0), (.int .u8 0), (.int .u8 0), (.int .u8 0), (.int .u8 0), (.int .u8 0)]) (i := 0) (H' := [blkA b7 [(.int .i64 (at')), (.int .u8 0), (.int .u8 0), (.int .u8 0), (.int .u8 0), (.int .u8 0), (.int .u8 0), (.int .u8 0), (.int .u8 0), (.int .u8 0), (.int .u8 0), (.int .u8 0), (.int .u8 0), (.int .u8 0), (.int .u8 0), (.int .u8 0), (.int .u8 0), (.int .u8 0), (.int .u8 0), (.int .u8 0), (.int .u8 0), (.int .u8 0), (.int .u8 0), (.int .u8 0), (.int .u8 0), (.int .u8 0), (.int .u8 0), (.int .u8 0), (.int .u8 0), (.int .u8 0), (.int .u8 0), (.int .u8 0), (.int .u8 0), (.int .u8 0), (.int .u8 0), (.int .u8 0), (.int .u8 0), (.int .u8 0), (.int .u8 0), (.int .u8 0), (.int .u8 0), (.int .u8 0), (.int .u8 0), (.int .u8 0), (.int .u8 0), (.int .u8 0), (.int .u8 0), (.int .u8 0), (.int .u8 0), (.int .u8 0), (.int .u8 0), (.int .u8 0), (.int .u8 0), (.int .u8 0), (.int .u8 0), (.int .u8 0), (.int .u8 0), (.int .u8 0), (.int .u8 0), (.int .u8 0), (.int .u8 0), (.int .u8 0), (.int .u8 0), (.int .u8 0), (.int .u8 0)] 135, blkA d [(.map (some m)), wv, (.bool (ar)), (.int .i64 (lf)), (.bool (dn))] 115, own wv (ws.length) (wflat ws) 135 65]) (Want.plain rfl) rfl rfl rfl rfl rfl sz135 (by simp [Value.oneCell']) rfl rfl (lbe rfl) rfl rfl ?_
  refine TL.nil ?_
  refine TE.next hK37 ?_
  clear hK37
  refine TC.seq (fun K38 hK38 => ?_)
  refine TC.region ?_
  refine tp rfl rfl rfl (PV.fieldAddr (r := 1) rfl Tryz.underlying135 rfl sz133 rfl rfl) ?_
  refine tp rfl rfl rfl (PV.sliceArr rfl Tryz.underlying133 sz5 rfl) ?_
  refine tp rfl rfl rfl (PV.move rfl rfl) ?_
  refine TL.copy (i := 0) (m := bs.length) (news := (u8s bs)) (H' := [blkA b7 (wcell (at', padS bs)) 135, blkA d [(.map (some m)), wv, (.bool (ar)), (.int .i64 (lf)), (.bool (dn))] 115, own wv (ws.length) (wflat ws) 135 65]) (Want.plain rfl) rfl rfl rfl Tryz.underlying106 sz5 rfl rfl rfl rfl (fun _ _ => hF.src (fun _ h => Frm.of h)) (u8s_one _) (by show 1 + min bs.length 64 ≤ 65; omega) (wr_pad (by omega)) rfl ?_
  refine TL.nil ?_
  refine TE.next hK38 ?_
  clear hK38
  refine TC.seq (fun K39 hK39 => ?_)
  refine TC.draw (fun w => Frm F w ∧ w.heap[b7]? = some (.cells (wcell (at', padS bs)).toArray 135 (0, 0)) ∧ True) mixedD rfl (fun _ s => ⟨Frm.of s, s.block 0 (lb rfl) rfl, trivial⟩) ?_
  refine TD.take (i := 0) rfl (by kernel_rfl) (by kernel_rfl) (by kernel_rfl) (fun _ _ _ _ h => h) (Want.plain rfl) rfl rfl (PV.move rfl rfl) ?_
  refine TD.take (i := 1) rfl (by kernel_rfl) (by kernel_rfl) (by kernel_rfl) (fun _ _ _ _ h => h) (Want.plain rfl) rfl rfl (PV.move rfl rfl) ?_
  refine TD.take (i := 2) rfl (by kernel_rfl) (by kernel_rfl) (by kernel_rfl) (fun _ _ _ _ h => h) (Want.plain rfl) rfl rfl (PV.nilCheck rfl rfl) ?_
  refine TD.take (i := 3) rfl (by kernel_rfl) (by kernel_rfl) (by kernel_rfl) (fun _ _ _ _ h => h) (Want.plain rfl) rfl rfl (PV.fieldAddr (r := 1) rfl Tryz.underlying115 rfl sz113 rfl rfl) ?_
  refine TD.take (i := 5) rfl (by kernel_rfl) (by kernel_rfl) (by kernel_rfl) (fun _ _ _ _ h => h) (Want.plain rfl) rfl rfl (PV.loadN (vs := wcell (at', padS bs)) rfl Tryz.underlying135 rfl sz135 rfl (fun _ h => h.2.1) (wcell_len (padS_len (by omega))) (by rw [List.drop_zero, List.take_of_length_le (by rw [(wcell_len (padS_len (by omega)))]; exact Nat.le_refl _)])) ?_
  refine TD.all [4, 6] (by kernel_rfl) rfl ?_
  refine AllT.cons rfl ?_ ?_
  refine tp rfl rfl rfl (PV.load1 (v := wv) rfl Tryz.underlying113 rfl rfl (Rd.own 1 rfl rfl) rfl) ?_
  refine TL.nil ?_
  refine TE.draw (fun _ s => ⟨Frm.of s, s.block 0 (lb rfl) rfl, trivial⟩) ?_
  refine TD.all [6] (by kernel_rfl) rfl ?_
  refine AllT.cons rfl ?_ ?_
  refine TL.buildSlice (cells := (wcell (at', padS bs)).toArray) (Want.plain rfl) rfl rfl rfl Tryz.underlying113 in135 rfl rfl rfl (fill_at (wcell_len (padS_len (by omega))) (by simp)) (fun b60 => ?_)
  change TL _ _ _ _ _ _ _ _ _ [blkA b60 (wcell (at', padS bs)) 135, blkA b7 (wcell (at', padS bs)) 135, blkA d [(.map (some m)), wv, (.bool (ar)), (.int .i64 (lf)), (.bool (dn))] 115, own wv (ws.length) (wflat ws) 135 65]
  refine TL.nil ?_
  refine TE.draw (fun _ s => ⟨Frm.of s, s.block 1 (lb rfl) rfl, trivial⟩) ?_
  refine TD.all [7] (by kernel_rfl) rfl ?_
  refine AllT.cons rfl ?_ ?_
  refine TL.append (k := 3) (news := wcell (at', padS bs)) (nn' := (ws ++ [(at', padS bs)]).length) (xs' := wflat (ws ++ [(at', padS bs)])) (Want.plain rfl) rfl rfl rfl Tryz.underlying113 in135 rfl rfl rfl rfl rfl rfl (fun _ _ => Src.rd (wcell_len (padS_len (by omega))) (Rd.own 0 rfl rfl) (by rw [List.drop_zero, List.take_of_length_le (Nat.le_refl _)])) (wcell_one _) (by simp only [maxLen]; omega) (by omega) (by simp) (by simp [wflat]) (fun v61 ov61 => ?_)
  change TL _ _ _ _ _ _ _ _ _ [blkA b60 (wcell (at', padS bs)) 135, blkA b7 (wcell (at', padS bs)) 135, blkA d [(.map (some m)), wv, (.bool (ar)), (.int .i64 (lf)), (.bool (dn))] 115, own v61 ((ws ++ [(at', padS bs)]).length) (wflat (ws ++ [(at', padS bs)])) 135 65]
  refine TL.nil ?_
  refine TE.draw (fun _ s => ⟨Frm.of s, s.block 1 (lb rfl) rfl, trivial⟩) ?_
  refine TD.take (i := 8) rfl (by kernel_rfl) (by kernel_rfl) (by kernel_rfl) (fun _ _ _ _ h => h) (Want.plain rfl) rfl rfl (PV.nilCheck rfl rfl) ?_
  refine TD.take (i := 9) rfl (by kernel_rfl) (by kernel_rfl) (by kernel_rfl) (fun _ _ _ _ h => h) (Want.plain rfl) rfl rfl (PV.fieldAddr (r := 1) rfl Tryz.underlying115 rfl sz113 rfl rfl) ?_
  refine TD.all [10] (by kernel_rfl) rfl ?_
  refine AllT.cons rfl ?_ ?_
  refine TL.store1 (i := 2) (H' := [blkA b60 (wcell (at', padS bs)) 135, blkA b7 (wcell (at', padS bs)) 135, blkA d [(.map (some m)), v61, (.bool (ar)), (.int .i64 (lf)), (.bool (dn))] 115, own v61 ((ws ++ [(at', padS bs)]).length) (wflat (ws ++ [(at', padS bs)])) 135 65]) (Want.plain rfl) rfl rfl rfl rfl ov61 sz113 rfl rfl (lb rfl) rfl rfl ?_
  refine TL.nil ?_
  refine TE.draw (fun _ s => ⟨Frm.of s, s.block 1 (lb rfl) rfl, trivial⟩) ?_
  refine TD.done (by kernel_rfl) ?_
  refine TE.next hK39 ?_
  clear hK39
  refine TC.seq (fun K40 hK40 => ?_)
  refine TC.region ?_
  refine tp rfl rfl rfl (PV.assign rfl rfl) ?_
  refine TL.nil ?_
  refine TE.next hK40 ?_
  clear hK40
  refine TC.ret ?_
  refine TE.weak (Sub.refl _) (fun _ s => sep_keep [2, 2] rfl s) ?_
  refine TE.ret1 rfl rfl ?_
  show (if _ then _ else _)
  first
    | (rw [if_pos (by omega)]; exact ⟨rfl, rfl⟩)
    | (rw [if_neg (by omega), if_pos (by simp_all)]; exact ⟨rfl, by simp_all <;> rfl⟩)
    | (rw [if_neg (by omega), if_neg (by simp_all)]; exact ⟨rfl, v61, by simp_all <;> rfl⟩)
  exact AllT.nil
  exact AllT.nil
  exact AllT.nil
  refine AllT.cons rfl ?_ ?_
  refine TL.buildSlice (cells := (wcell (at', padS bs)).toArray) (Want.plain rfl) rfl rfl rfl Tryz.underlying113 in135 rfl rfl rfl (fill_at (wcell_len (padS_len (by omega))) (by simp)) (fun b60 => ?_)
  change TL _ _ _ _ _ _ _ _ _ [blkA b60 (wcell (at', padS bs)) 135, blkA b7 (wcell (at', padS bs)) 135, blkA d [(.map (some m)), wv, (.bool (ar)), (.int .i64 (lf)), (.bool (dn))] 115, own wv (ws.length) (wflat ws) 135 65]
  refine TL.nil ?_
  refine TE.draw (fun _ s => ⟨Frm.of s, s.block 1 (lb rfl) rfl, trivial⟩) ?_
  refine TD.all [4] (by kernel_rfl) rfl ?_
  refine AllT.cons rfl ?_ ?_
  refine tp rfl rfl rfl (PV.load1 (v := wv) rfl Tryz.underlying113 rfl rfl (Rd.own 2 rfl rfl) rfl) ?_
  refine TL.nil ?_
  refine TE.draw (fun _ s => ⟨Frm.of s, s.block 1 (lb rfl) rfl, trivial⟩) ?_
  refine TD.all [7] (by kernel_rfl) rfl ?_
  refine AllT.cons rfl ?_ ?_
  refine TL.append (k := 3) (news := wcell (at', padS bs)) (nn' := (ws ++ [(at', padS bs)]).length) (xs' := wflat (ws ++ [(at', padS bs)])) (Want.plain rfl) rfl rfl rfl Tryz.underlying113 in135 rfl rfl rfl rfl rfl rfl (fun _ _ => Src.rd (wcell_len (padS_len (by omega))) (Rd.own 0 rfl rfl) (by rw [List.drop_zero, List.take_of_length_le (Nat.le_refl _)])) (wcell_one _) (by simp only [maxLen]; omega) (by omega) (by simp) (by simp [wflat]) (fun v61 ov61 => ?_)
  change TL _ _ _ _ _ _ _ _ _ [blkA b60 (wcell (at', padS bs)) 135, blkA b7 (wcell (at', padS bs)) 135, blkA d [(.map (some m)), wv, (.bool (ar)), (.int .i64 (lf)), (.bool (dn))] 115, own v61 ((ws ++ [(at', padS bs)]).length) (wflat (ws ++ [(at', padS bs)])) 135 65]
  refine TL.nil ?_
  refine TE.draw (fun _ s => ⟨Frm.of s, s.block 1 (lb rfl) rfl, trivial⟩) ?_
  refine TD.take (i := 8) rfl (by kernel_rfl) (by kernel_rfl) (by kernel_rfl) (fun _ _ _ _ h => h) (Want.plain rfl) rfl rfl (PV.nilCheck rfl rfl) ?_
  refine TD.take (i := 9) rfl (by kernel_rfl) (by kernel_rfl) (by kernel_rfl) (fun _ _ _ _ h => h) (Want.plain rfl) rfl rfl (PV.fieldAddr (r := 1) rfl Tryz.underlying115 rfl sz113 rfl rfl) ?_
  refine TD.all [10] (by kernel_rfl) rfl ?_
  refine AllT.cons rfl ?_ ?_
  refine TL.store1 (i := 2) (H' := [blkA b60 (wcell (at', padS bs)) 135, blkA b7 (wcell (at', padS bs)) 135, blkA d [(.map (some m)), v61, (.bool (ar)), (.int .i64 (lf)), (.bool (dn))] 115, own v61 ((ws ++ [(at', padS bs)]).length) (wflat (ws ++ [(at', padS bs)])) 135 65]) (Want.plain rfl) rfl rfl rfl rfl ov61 sz113 rfl rfl (lb rfl) rfl rfl ?_
  refine TL.nil ?_
  refine TE.draw (fun _ s => ⟨Frm.of s, s.block 1 (lb rfl) rfl, trivial⟩) ?_
  refine TD.done (by kernel_rfl) ?_
  refine TE.next hK39 ?_
  clear hK39
  refine TC.seq (fun K41 hK41 => ?_)
  refine TC.region ?_
  refine tp rfl rfl rfl (PV.assign rfl rfl) ?_
  refine TL.nil ?_
  refine TE.next hK41 ?_
  clear hK41
  refine TC.ret ?_
  refine TE.weak (Sub.refl _) (fun _ s => sep_keep [2, 2] rfl s) ?_
  refine TE.ret1 rfl rfl ?_
  show (if _ then _ else _)
  first
    | (rw [if_pos (by omega)]; exact ⟨rfl, rfl⟩)
    | (rw [if_neg (by omega), if_pos (by simp_all)]; exact ⟨rfl, by simp_all <;> rfl⟩)
    | (rw [if_neg (by omega), if_neg (by simp_all)]; exact ⟨rfl, v61, by simp_all <;> rfl⟩)
  exact AllT.nil
  exact AllT.nil
  exact AllT.nil
  exact AllT.nil
theorem dr_syncDown_does (d m : Nat) (wv : Value) (ar : Bool) (lf : Int) :
    Does Tryz.prog 71 #[(.pointer (some ⟨d, 0, none⟩))] (fun _ => True) [blkA d [(.map (some m)), wv, (.bool (ar)), (.int .i64 (lf)), (.bool true)] 115] (Ret (fun v H => v = .int .i64 4 ∧ H = [blkA d [(.map (some m)), wv, (.bool (ar)), (.int .i64 (lf)), (.bool true)] 115])) := by
  refine Does.body (vs := [(.pointer (some ⟨d, 0, none⟩))]) (n := 28) Tryz.func71 rfl rfl rfl (fun w0 F hF => ?_)
  refine TC.seq (fun K1 hK1 => ?_)
  refine TC.region ?_
  refine tp rfl rfl rfl (PV.assign rfl rfl) ?_
  refine TL.nil ?_
  refine TE.next hK1 ?_
  clear hK1
  refine TC.seq (fun K2 hK2 => ?_)
  refine TC.seq (fun K3 hK3 => ?_)
  refine TC.region ?_
  refine tp rfl rfl rfl (PV.move rfl rfl) ?_
  refine tp rfl rfl rfl (PV.nilCheck rfl rfl) ?_
  refine tp rfl rfl rfl (PV.fieldAddr (r := 4) rfl Tryz.underlying115 rfl sz4 rfl rfl) ?_
  refine tp rfl rfl rfl (PV.load1 (v := (.bool true)) rfl Tryz.underlying4 rfl rfl (Rd.own 0 rfl rfl) rfl) ?_
  refine TL.nil ?_
  refine TE.next hK3 ?_
  clear hK3
  refine TC.yes rfl ?_
  refine TC.seq (fun K4 hK4 => ?_)
  refine TC.region ?_
  refine tp rfl rfl rfl (PV.assign rfl rfl) ?_
  refine TL.nil ?_
  refine TE.next hK4 ?_
  clear hK4
  refine TC.ret ?_
  refine TE.passRet ?_
  clear hK2
  refine TE.weak (Sub.refl _) (fun _ s => sep_keep [0] rfl s) ?_
  refine TE.ret1 rfl rfl ?_
  exact ⟨rfl, rfl⟩
theorem dr_syncUp_does (d m : Nat) (wv : Value) (s ws : Secs) (ar : Bool) (lf : Int) (hw : Whole ws) :
    Does Tryz.prog 71 #[(.pointer (some ⟨d, 0, none⟩))] (fun _ => True) [blkA d [(.map (some m)), wv, (.bool (ar)), (.int .i64 (lf)), (.bool false)] 115, mapP m (kvS s), own wv (ws.length) (wflat ws) 135 65] (Ret (fun v H => v = .int .i64 0 ∧ H = [blkA d [(.map (some m)), (.slice none 0 0), (.bool (ar)), (.int .i64 (lf)), (.bool false)] 115, mapP m (kvS (layN s ws ws.length)), own (.slice none 0 0) 0 [] 135 65])) := by
  refine Does.body (vs := [(.pointer (some ⟨d, 0, none⟩))]) (n := 28) Tryz.func71 rfl rfl rfl (fun w0 F hF => ?_)
  refine TC.seq (fun K1 hK1 => ?_)
  refine TC.region ?_
  refine TL.ownLen 2 rfl rfl (fun hwl _ => ?_)
  refine tp rfl rfl rfl (PV.assign rfl rfl) ?_
  refine TL.nil ?_
  refine TE.next hK1 ?_
  clear hK1
  refine TC.seq (fun K2 hK2 => ?_)
  refine TC.seq (fun K3 hK3 => ?_)
  refine TC.region ?_
  refine tp rfl rfl rfl (PV.move rfl rfl) ?_
  refine tp rfl rfl rfl (PV.nilCheck rfl rfl) ?_
  refine tp rfl rfl rfl (PV.fieldAddr (r := 4) rfl Tryz.underlying115 rfl sz4 rfl rfl) ?_
  refine tp rfl rfl rfl (PV.load1 (v := (.bool false)) rfl Tryz.underlying4 rfl rfl (Rd.own 0 rfl rfl) rfl) ?_
  refine TL.nil ?_
  refine TE.next hK3 ?_
  clear hK3
  refine TC.no rfl ?_
  refine TC.skip ?_
  refine TE.next hK2 ?_
  clear hK2
  refine TC.seq (fun K4 hK4 => ?_)
  refine TC.seq (fun K5 hK5 => ?_)
  refine TC.region ?_
  refine tp rfl rfl rfl (PV.move rfl rfl) ?_
  refine tp rfl rfl rfl (PV.nilCheck rfl rfl) ?_
  refine tp rfl rfl rfl (PV.fieldAddr (r := 1) rfl Tryz.underlying115 rfl sz113 rfl rfl) ?_
  refine tp rfl rfl rfl (PV.load1 (v := wv) rfl Tryz.underlying113 rfl rfl (Rd.own 0 rfl rfl) rfl) ?_
  refine tp rfl rfl rfl (PV.lenV rfl Tryz.underlying113 rfl hwl) ?_
  refine tp rfl rfl rfl (PV.move rfl rfl) ?_
  refine TL.nil ?_
  refine TE.next hK5 ?_
  clear hK5
  refine TC.block ?_
  refine TC.loop (α := (Nat) × (Secs)) (fun ⟨k, s'⟩ => k ≤ ws.length ∧ s' = layN s ws k) (fun ⟨k, s'⟩ => [(0, (.pointer (some ⟨d, 0, none⟩))), (2, (.int .i64 0)), (12, wv), (13, (.int .i64 (((ws.length : Nat) : Int)))), (14, (.int .i64 (((k : Nat) : Int))))]) (fun ⟨k, s'⟩ => [blkA d [(.map (some m)), wv, (.bool (ar)), (.int .i64 (lf)), (.bool false)] 115, mapP m (kvS s'), own wv (ws.length) (wflat ws) 135 65]) (fun ⟨k, s'⟩ => ws.length - k) (0, s)
      ⟨Nat.zero_le _, rfl⟩ (Sub.r (Sub.r (Sub.r (Sub.r (Sub.cons rfl (by congr 1) (Sub.nil _))))))
      (fun _ s => s) (fun ⟨k, s'⟩ hinv => ?_)
  obtain ⟨hk, hs'⟩ := hinv
  refine TC.seq (fun K6 hK6 => ?_)
  refine TC.region ?_
  refine tp rfl rfl rfl (PV.lss rfl rfl rfl) ?_
  refine TL.dec (fun h15 => ?_) (fun h15 => ?_)
  refine TL.ownAt 2 rfl rfl (by omega) (fun g cap hv hcap => ?_)
  refine TL.nil ?_
  refine TE.next hK6 ?_
  clear hK6
  refine TC.seq (fun K7 hK7 => ?_)
  refine TC.yes rfl ?_
  refine TC.skip ?_
  refine TE.next hK7 ?_
  clear hK7
  refine TC.seq (fun K8 hK8 => ?_)
  refine TC.block ?_
  refine TC.seq (fun K9 hK9 => ?_)
  refine TC.region ?_
  refine tp rfl rfl rfl (PV.indexSlV (r := k * 65) hv rfl Tryz.underlying113 sz135 rfl rfl (by omega) (by omega) (by omega)) ?_
  refine tp rfl rfl rfl (PV.loadNX (vs := wcell (wat ws k)) rfl Tryz.underlying135 rfl sz135 rfl (RdX.own 2 rfl hv rfl) (wcell_len (wat_len hw (by omega))) (wflat_atN hw (by omega))) ?_
  refine TL.alloc (Want.plain rfl) rfl rfl rfl z135 (fun b4 => ?_)
  change TL _ _ _ _ _ _ _ _ _ [blkA b4 [(.int .i64 0), (.int .u8 0), (.int .u8 0), (.int .u8 0), (.int .u8 0), (.int .u8 0), (.int .u8 0), (.int .u8 0), (.int .u8 0), (.int .u8 0), (.int .u8 0), (.int .u8 0), (.int .u8 0), (.int .u8 0), (.int .u8 0), (.int .u8 0), (.int .u8 0), (.int .u8 0), (.int .u8 0), (.int .u8 0), (.int .u8 0), (.int .u8 0), (.int .u8 0), (.int .u8 0), (.int .u8 0), (.int .u8 0), (.int .u8 0), (.int .u8 0), (.int .u8 0), (.int .u8 0), (.int .u8 0), (.int .u8 0), (.int .u8 0), (.int .u8 0), (.int .u8 0), (.int .u8 0), (.int .u8 0), (.int .u8 0), (.int .u8 0), (.int .u8 0), (.int .u8 0), (.int .u8 0), (.int .u8 0), (.int .u8 0), (.int .u8 0), (.int .u8 0), (.int .u8 0), (.int .u8 0), (.int .u8 0), (.int .u8 0), (.int .u8 0), (.int .u8 0), (.int .u8 0), (.int .u8 0), (.int .u8 0), (.int .u8 0), (.int .u8 0), (.int .u8 0), (.int .u8 0), (.int .u8 0), (.int .u8 0), (.int .u8 0), (.int .u8 0), (.int .u8 0), (.int .u8 0)] 135, blkA d [(.map (some m)), wv, (.bool (ar)), (.int .i64 (lf)), (.bool false)] 115, mapP m (kvS s'), own wv (ws.length) (wflat ws) 135 65]
  refine TL.store (vs := wcell (wat ws k)) (i := 0) (H' := [blkA b4 (wcell (wat ws k)) 135, blkA d [(.map (some m)), wv, (.bool (ar)), (.int .i64 (lf)), (.bool false)] 115, mapP m (kvS s'), own wv (ws.length) (wflat ws) 135 65]) (Want.plain rfl) rfl rfl rfl rfl rfl (by rw [wcell_len (wat_len hw (by omega))]; exact sz135) (wcell_one _) rfl rfl (by rw [wcell_len (wat_len hw (by omega))]; exact Nat.le_refl _) (wr_whole (Eq.trans (rfl : _ = 65) (by rw [wcell_len (wat_len hw (by omega))] : (wcell (wat ws k)).length = 65).symm)) rfl ?_
  refine TL.nil ?_
  refine TE.next hK9 ?_
  clear hK9
  refine TC.region ?_
  refine tp rfl rfl rfl (PV.move rfl rfl) ?_
  refine tp rfl rfl rfl (PV.fieldAddr (r := 0) rfl Tryz.underlying135 rfl sz3 rfl rfl) ?_
  refine tp rfl rfl rfl (PV.load1 (v := (.int .i64 ((wat ws k).1))) rfl Tryz.underlying3 rfl rfl (Rd.own 0 rfl rfl) rfl) ?_
  refine tp rfl rfl rfl (PV.fieldAddr (r := 1) rfl Tryz.underlying135 rfl sz133 rfl rfl) ?_
  refine tp rfl rfl rfl (PV.loadN (vs := u8s (wat ws k).2) rfl Tryz.underlying133 rfl sz133 rfl (Rd.own 0 rfl rfl) (by rw [u8s_length]; exact wat_len hw (by omega)) (wcell_tail (wat_len hw (by omega)))) ?_
  refine TL.callR (A := [blkA d [(.map (some m)), wv, (.bool (ar)), (.int .i64 (lf)), (.bool false)] 115, mapP m (kvS s')]) (B := [blkA b4 (wcell (wat ws k)) 135, own wv (ws.length) (wflat ws) 135 65]) (Want.plain rfl) rfl rfl rfl nm57 rfl (dr_last_does d m wv s' ar false lf ((wat ws k).1) (wat ws k).2 (by exact wat_len hw (by omega))) (fun _ s => sep_selR [1, 1] rfl s) (fun _ _ _ => trivial) (fun vR HR hR => ?_)
  subst hR
  change TL _ _ _ _ _ _ _ _ _ [blkA d [(.map (some m)), wv, (.bool (ar)), (.int .i64 (lf)), (.bool false)] 115, mapP m (kvS (sput s' ((wat ws k).1) (wat ws k).2)), blkA b4 (wcell (wat ws k)) 135, own wv (ws.length) (wflat ws) 135 65]
  refine TL.nil ?_
  refine TE.blockEnd ?_
  refine TE.next hK8 ?_
  clear hK8
  refine TC.region ?_
  refine tp rfl rfl rfl (PV.add rfl rfl rfl (wrap_i64 (by omega) (by omega))) ?_
  refine tp rfl rfl rfl (PV.move rfl rfl) ?_
  refine TL.nil ?_
  exact TE.round ((k + 1, sput s' (wat ws k).1 (wat ws k).2) : (Nat) × (Secs)) ⟨by omega, by rw [hs']; rfl⟩ (by show ws.length - (k + 1) < ws.length - k; omega)
    (Sub.r (Sub.r (Sub.r (Sub.r (Sub.cons rfl (by simp) (Sub.nil _))))))
    (fun _ s => sep_keep [0, 0, 1] rfl s)
  refine TL.nil ?_
  refine TE.next hK6 ?_
  clear hK6
  refine TC.seq (fun K10 hK10 => ?_)
  refine TC.no rfl ?_
  refine TC.exit ?_
  refine TE.pass ?_
  clear hK10
  refine TE.pass ?_
  refine TE.hit ?_
  refine TE.next hK4 ?_
  clear hK4
  refine TC.seq (fun K11 hK11 => ?_)
  refine TC.region ?_
  refine tp rfl rfl rfl (PV.move rfl rfl) ?_
  refine tp rfl rfl rfl (PV.nilCheck rfl rfl) ?_
  refine tp rfl rfl rfl (PV.fieldAddr (r := 1) rfl Tryz.underlying115 rfl sz113 rfl rfl) ?_
  refine TL.store1 (i := 0) (H' := [blkA d [(.map (some m)), (.slice none 0 0), (.bool (ar)), (.int .i64 (lf)), (.bool false)] 115, mapP m (kvS s'), own wv (ws.length) (wflat ws) 135 65]) (Want.plain rfl) rfl rfl rfl rfl rfl sz113 rfl rfl (lb rfl) rfl rfl ?_
  refine TL.nil ?_
  refine TE.next hK11 ?_
  clear hK11
  refine TC.seq (fun K12 hK12 => ?_)
  refine TC.region ?_
  refine tp rfl rfl rfl (PV.assign rfl rfl) ?_
  refine TL.nil ?_
  refine TE.next hK12 ?_
  clear hK12
  refine TC.ret ?_
  refine TE.weak (H' := [blkA d [(.map (some m)), (.slice none 0 0), (.bool (ar)), (.int .i64 (lf)), (.bool false)] 115, mapP m (kvS s'), own (.slice none 0 0) 0 [] 135 65]) (Sub.refl _) (fun _ s => sep_perm (List.Perm.trans (List.Perm.swap _ _ _) (List.Perm.cons _ (List.Perm.swap _ _ _))) (sep_ownNil 135 65 (sep_keep [0, 0] rfl s))) ?_
  refine TE.ret1 rfl rfl ?_
  obtain rfl : k = ws.length := by omega
  subst hs'
  exact ⟨rfl, rfl⟩
theorem dr_read_does (d m : Nat) (wv : Value) (s ws : Secs) (ar dn : Bool) (lf at' : Int) (hs2 : Whole s) (hw : Whole ws) (hb : ws.length ≤ 1000000000) :
    Does Tryz.prog 69 #[(.pointer (some ⟨d, 0, none⟩)), (.int .i64 (at'))] (fun _ => True) [blkA d [(.map (some m)), wv, (.bool (ar)), (.int .i64 (lf)), (.bool (dn))] 115, mapP m (kvS s), own wv (ws.length) (wflat ws) 135 65] (Ret (fun v H => v = secV (readN s ws at' ws.length) ∧ H = [blkA d [(.map (some m)), wv, (.bool (ar)), (.int .i64 (lf)), (.bool (dn))] 115, mapP m (kvS s), own wv (ws.length) (wflat ws) 135 65])) := by
  refine Does.body (vs := [(.pointer (some ⟨d, 0, none⟩)), (.int .i64 (at'))]) (n := 40) Tryz.func69 rfl rfl rfl (fun w0 F hF => ?_)
  refine TC.seq (fun K1 hK1 => ?_)
  refine TC.region ?_
  refine TL.ownLen 2 rfl rfl (fun hwl _ => ?_)
  refine TL.alloc (Want.plain rfl) rfl rfl rfl z133 (fun b4 => ?_)
  change TL _ _ _ _ _ _ _ _ _ [blkA b4 [(.int .u8 0), (.int .u8 0), (.int .u8 0), (.int .u8 0), (.int .u8 0), (.int .u8 0), (.int .u8 0), (.int .u8 0), (.int .u8 0), (.int .u8 0), (.int .u8 0), (.int .u8 0), (.int .u8 0), (.int .u8 0), (.int .u8 0), (.int .u8 0), (.int .u8 0), (.int .u8 0), (.int .u8 0), (.int .u8 0), (.int .u8 0), (.int .u8 0), (.int .u8 0), (.int .u8 0), (.int .u8 0), (.int .u8 0), (.int .u8 0), (.int .u8 0), (.int .u8 0), (.int .u8 0), (.int .u8 0), (.int .u8 0), (.int .u8 0), (.int .u8 0), (.int .u8 0), (.int .u8 0), (.int .u8 0), (.int .u8 0), (.int .u8 0), (.int .u8 0), (.int .u8 0), (.int .u8 0), (.int .u8 0), (.int .u8 0), (.int .u8 0), (.int .u8 0), (.int .u8 0), (.int .u8 0), (.int .u8 0), (.int .u8 0), (.int .u8 0), (.int .u8 0), (.int .u8 0), (.int .u8 0), (.int .u8 0), (.int .u8 0), (.int .u8 0), (.int .u8 0), (.int .u8 0), (.int .u8 0), (.int .u8 0), (.int .u8 0), (.int .u8 0), (.int .u8 0)] 133, blkA d [(.map (some m)), wv, (.bool (ar)), (.int .i64 (lf)), (.bool (dn))] 115, mapP m (kvS s), own wv (ws.length) (wflat ws) 135 65]
  refine TL.nil ?_
  refine TE.next hK1 ?_
  clear hK1
  refine TC.seq (fun K2 hK2 => ?_)
  refine TC.seq (fun K3 hK3 => ?_)
  refine TC.region ?_
  refine tp rfl rfl rfl (PV.move rfl rfl) ?_
  refine tp rfl rfl rfl (PV.nilCheck rfl rfl) ?_
  refine tp rfl rfl rfl (PV.fieldAddr (r := 1) rfl Tryz.underlying115 rfl sz113 rfl rfl) ?_
  refine tp rfl rfl rfl (PV.load1 (v := wv) rfl Tryz.underlying113 rfl rfl (Rd.own 1 rfl rfl) rfl) ?_
  refine tp rfl rfl rfl (PV.lenV rfl Tryz.underlying113 rfl hwl) ?_
  refine tp rfl rfl rfl (PV.sub rfl rfl rfl (wrap_i64 (by omega) (by omega))) ?_
  refine tp rfl rfl rfl (PV.assign rfl rfl) ?_
  refine TL.nil ?_
  refine TE.next hK3 ?_
  clear hK3
  refine TC.block ?_
  refine TC.loop (α := (Int)) (fun p => -1 ≤ p ∧ p < ws.length ∧ readN s ws at' (p + 1).toNat = readN s ws at' ws.length) (fun p => [(0, (.pointer (some ⟨d, 0, none⟩))), (1, (.int .i64 (at'))), (4, (.pointer (some ⟨b4, 0, none⟩))), (5, (.int .i64 (p)))]) (fun p => [blkA b4 [(.int .u8 0), (.int .u8 0), (.int .u8 0), (.int .u8 0), (.int .u8 0), (.int .u8 0), (.int .u8 0), (.int .u8 0), (.int .u8 0), (.int .u8 0), (.int .u8 0), (.int .u8 0), (.int .u8 0), (.int .u8 0), (.int .u8 0), (.int .u8 0), (.int .u8 0), (.int .u8 0), (.int .u8 0), (.int .u8 0), (.int .u8 0), (.int .u8 0), (.int .u8 0), (.int .u8 0), (.int .u8 0), (.int .u8 0), (.int .u8 0), (.int .u8 0), (.int .u8 0), (.int .u8 0), (.int .u8 0), (.int .u8 0), (.int .u8 0), (.int .u8 0), (.int .u8 0), (.int .u8 0), (.int .u8 0), (.int .u8 0), (.int .u8 0), (.int .u8 0), (.int .u8 0), (.int .u8 0), (.int .u8 0), (.int .u8 0), (.int .u8 0), (.int .u8 0), (.int .u8 0), (.int .u8 0), (.int .u8 0), (.int .u8 0), (.int .u8 0), (.int .u8 0), (.int .u8 0), (.int .u8 0), (.int .u8 0), (.int .u8 0), (.int .u8 0), (.int .u8 0), (.int .u8 0), (.int .u8 0), (.int .u8 0), (.int .u8 0), (.int .u8 0), (.int .u8 0)] 133, blkA d [(.map (some m)), wv, (.bool (ar)), (.int .i64 (lf)), (.bool (dn))] 115, mapP m (kvS s), own wv (ws.length) (wflat ws) 135 65]) (fun p => (p + 1).toNat) (((ws.length : Nat) : Int) - 1)
      ⟨by omega, by omega, by congr 1; omega⟩ (Sub.r (Sub.r (Sub.r (Sub.cons rfl (by congr 1) (Sub.nil _)))))
      (fun _ s => s) (fun p hinv => ?_)
  obtain ⟨hp1, hp2, hp3⟩ := hinv
  refine TC.seq (fun K4 hK4 => ?_)
  refine TC.seq (fun K5 hK5 => ?_)
  refine TC.region ?_
  refine tp rfl rfl rfl (PV.move rfl rfl) ?_
  refine tp rfl rfl rfl (PV.geq rfl rfl rfl) ?_
  refine TL.dec (fun h13 => ?_) (fun h13 => ?_)
  refine TL.ownAt 3 rfl rfl (by omega) (fun g cap hv hcap => ?_)
  refine TL.nil ?_
  refine TE.next hK5 ?_
  clear hK5
  refine TC.yes rfl ?_
  refine TC.skip ?_
  refine TE.next hK4 ?_
  clear hK4
  refine TC.seq (fun K6 hK6 => ?_)
  refine TC.block ?_
  refine TC.seq (fun K7 hK7 => ?_)
  refine TC.region ?_
  refine tp rfl rfl rfl (PV.move rfl rfl) ?_
  refine tp rfl rfl rfl (PV.nilCheck rfl rfl) ?_
  refine tp rfl rfl rfl (PV.fieldAddr (r := 1) rfl Tryz.underlying115 rfl sz113 rfl rfl) ?_
  refine tp rfl rfl rfl (PV.load1 (v := wv) rfl Tryz.underlying113 rfl rfl (Rd.own 1 rfl rfl) rfl) ?_
  refine tp rfl rfl rfl (PV.move rfl rfl) ?_
  refine tp rfl rfl rfl (PV.indexSlV (r := p.toNat * 65) hv rfl Tryz.underlying113 sz135 rfl rfl (by omega) (by omega) (by omega)) ?_
  refine tp rfl rfl rfl (PV.fieldAddr (r := p.toNat * 65) rfl Tryz.underlying135 rfl sz3 rfl rfl) ?_
  refine tp rfl rfl rfl (PV.load1X (v := (.int .i64 ((wat ws p.toNat).1))) rfl Tryz.underlying3 rfl rfl (RdX.own 3 rfl hv rfl) (wflat_at0 hw (by omega))) ?_
  refine tp rfl rfl rfl (PV.move rfl rfl) ?_
  refine tp rfl rfl rfl (PV.eql rfl rfl rfl) ?_
  refine TL.dec (fun h25 => ?_) (fun h25 => ?_)
  refine TL.nil ?_
  refine TE.next hK7 ?_
  clear hK7
  refine TC.yes rfl ?_
  refine TC.seq (fun K8 hK8 => ?_)
  refine TC.region ?_
  refine tp rfl rfl rfl (PV.move rfl rfl) ?_
  refine tp rfl rfl rfl (PV.nilCheck rfl rfl) ?_
  refine tp rfl rfl rfl (PV.fieldAddr (r := 1) rfl Tryz.underlying115 rfl sz113 rfl rfl) ?_
  refine tp rfl rfl rfl (PV.load1 (v := wv) rfl Tryz.underlying113 rfl rfl (Rd.own 1 rfl rfl) rfl) ?_
  refine tp rfl rfl rfl (PV.move rfl rfl) ?_
  refine tp rfl rfl rfl (PV.indexSlV (r := p.toNat * 65) hv rfl Tryz.underlying113 sz135 rfl rfl (by omega) (by omega) (by omega)) ?_
  refine tp rfl rfl rfl (PV.fieldAddr (r := p.toNat * 65 + 1) rfl Tryz.underlying135 rfl sz133 rfl rfl) ?_
  refine tp rfl rfl rfl (PV.loadNX (vs := u8s (wat ws p.toNat).2) rfl Tryz.underlying133 rfl sz133 rfl (RdX.own 3 rfl hv rfl) (by rw [u8s_length]; exact wat_len hw (by omega)) (wflat_at1 hw (by omega))) ?_
  refine TL.store (vs := u8s (wat ws p.toNat).2) (i := 0) (H' := [blkA b4 (u8s (wat ws p.toNat).2) 133, blkA d [(.map (some m)), wv, (.bool (ar)), (.int .i64 (lf)), (.bool (dn))] 115, mapP m (kvS s), own wv (ws.length) (wflat ws) 135 65]) (Want.plain rfl) rfl rfl rfl rfl rfl (by rw [u8s_length, wat_len hw (by omega)]; exact sz133) (u8s_one _) rfl rfl (by rw [u8s_length, wat_len hw (by omega)]; exact Nat.le_refl _) (wr_whole (Eq.trans (rfl : _ = 64) (by rw [u8s_length, wat_len hw (by omega)] : (u8s (wat ws p.toNat).2).length = 64).symm)) rfl ?_
  refine TL.nil ?_
  refine TE.next hK8 ?_
  clear hK8
  refine TC.ret ?_
  refine TE.blockRet ?_
  refine TE.passRet ?_
  clear hK6
  refine TE.passRet ?_
  refine TE.blockRet ?_
  refine TE.passRet ?_
  clear hK2
  refine TE.retC (H' := [blkA d [(.map (some m)), wv, (.bool (ar)), (.int .i64 (lf)), (.bool (dn))] 115, mapP m (kvS s), own wv (ws.length) (wflat ws) 135 65]) rfl rfl Tryz.underlying133 rfl sz133 (Rd.own 0 rfl rfl) (by rw [u8s_length]; exact wat_len hw (by omega)) (fun _ s => sep_keep [1, 1, 1] rfl s) ?_
  have e := readN_hit (s := s) h25
  rw [show p.toNat + 1 = (p + 1).toNat by omega, hp3] at e
  exact ⟨by rw [e]; rfl, rfl⟩
  refine TL.nil ?_
  refine TE.next hK7 ?_
  clear hK7
  refine TC.no rfl ?_
  refine TC.skip ?_
  refine TE.blockEnd ?_
  refine TE.next hK6 ?_
  clear hK6
  refine TC.region ?_
  refine tp rfl rfl rfl (PV.move rfl rfl) ?_
  refine tp rfl rfl rfl (PV.sub rfl rfl rfl (wrap_i64 (by omega) (by omega))) ?_
  refine tp rfl rfl rfl (PV.assign rfl rfl) ?_
  refine TL.nil ?_
  exact TE.round ((p - 1) : (Int)) ⟨by omega, by omega, by rw [← hp3, show (p + 1).toNat = p.toNat + 1 by omega, readN_miss h25]; congr 1; omega⟩ (by show (p - 1 + 1).toNat < (p + 1).toNat; omega)
    (Sub.r (Sub.r (Sub.r (Sub.r (Sub.nil _)))))
    (fun _ s => s)
  refine TL.nil ?_
  refine TE.next hK5 ?_
  clear hK5
  refine TC.no rfl ?_
  refine TC.exit ?_
  refine TE.pass ?_
  clear hK4
  refine TE.pass ?_
  refine TE.hit ?_
  refine TE.next hK2 ?_
  clear hK2
  refine TC.seq (fun K9 hK9 => ?_)
  refine TC.region ?_
  refine tp rfl rfl rfl (PV.move rfl rfl) ?_
  refine tp rfl rfl rfl (PV.nilCheck rfl rfl) ?_
  refine tp rfl rfl rfl (PV.fieldAddr (r := 0) rfl Tryz.underlying115 rfl sz112 rfl rfl) ?_
  refine tp rfl rfl rfl (PV.load1 (v := (.map (some m))) rfl Tryz.underlying112 rfl rfl (Rd.own 1 rfl rfl) rfl) ?_
  refine tp rfl rfl rfl (PV.move rfl rfl) ?_
  refine tp rfl rfl rfl (PV.lookup rfl Tryz.underlying112 Tryz.underlying3 z133 rfl rfl (RdM.own 2 rfl rfl) (kget_kvS _ _)) ?_
  refine TL.store (vs := u8s (sget s at')) (i := 0) (H' := [blkA b4 (u8s (sget s at')) 133, blkA d [(.map (some m)), wv, (.bool (ar)), (.int .i64 (lf)), (.bool (dn))] 115, mapP m (kvS s), own wv (ws.length) (wflat ws) 135 65]) (Want.plain rfl) rfl rfl rfl rfl rfl (by rw [u8s_length, sget_whole hs2]; exact sz133) (u8s_one _) rfl rfl (by rw [u8s_length, sget_whole hs2]; exact Nat.le_refl _) (wr_whole (Eq.trans (rfl : _ = 64) (by rw [u8s_length, sget_whole hs2] : (u8s (sget s at')).length = 64).symm)) rfl ?_
  refine TL.nil ?_
  refine TE.next hK9 ?_
  clear hK9
  refine TC.ret ?_
  refine TE.retC (H' := [blkA d [(.map (some m)), wv, (.bool (ar)), (.int .i64 (lf)), (.bool (dn))] 115, mapP m (kvS s), own wv (ws.length) (wflat ws) 135 65]) rfl rfl Tryz.underlying133 rfl sz133 (Rd.own 0 rfl rfl) (by rw [u8s_length]; exact sget_whole hs2 _) (fun _ s => sep_keep [1, 1, 1] rfl s) ?_
  rw [show (p + 1).toNat = 0 by omega] at hp3
  exact ⟨by rw [← hp3]; rfl, rfl⟩
theorem sg133 : Tryz.prog.eqGuardType Tryz.prog.depth 133 = false := by kernel_rfl
theorem sk133 : Tryz.prog.keyTypeAt 2 133 = true := by kernel_rfl
theorem sf133 : flatK Tryz.prog 2 133 = some (List.replicate 64 (some .u8)) := by kernel_rfl
theorem sa133 : aggT Tryz.prog 133 = true := by kernel_rfl
theorem sc133 : Tryz.prog.cellsOf 133 = 64 := by kernel_rfl

/-- A disk. -/
abbrev dk (d : Nat) (D : DS) : HP := diskP 115 135 d D

theorem dk_read (d : Nat) (D : DS) (at' : Int) (hD : D.Ok) (hb : D.ws.length ≤ 1000000000) : Does Tryz.prog 69 #[(.pointer (some ⟨d, 0, none⟩)), .int .i64 at'] (fun _ => True) [dk d D] (Ret (fun v H => v = secV (D.read at') ∧ H = [dk d (D)])) := Does.pack (B := []) fun ⟨m, wv⟩ =>
  Does.withinR (dr_read_does d m wv D.s D.ws D.ar D.dn D.lf at' hD.s hD.ws hb) (B := []) (fun _ _ _ _ => trivial) (fun _ s => s) (fun v H h => by
    obtain ⟨rfl, rfl⟩ := h
    exact ⟨_, fun _ s => sep_close (H := []) (m, wv) (s), rfl, rfl⟩)

theorem dk_write (d : Nat) (D : DS) (at' : Int) (x : Value) (bs : List UInt8) (hD : D.Ok) (hb : D.ws.length ≤ 1000000000) : Does Tryz.prog 70 #[(.pointer (some ⟨d, 0, none⟩)), .int .i64 at', x] (IsW x bs) [dk d D] (Ret (fun v H => v = .int .i64 (D.write at' bs).1 ∧ H = [dk d ((D.write at' bs).2)])) := Does.pack (B := []) fun ⟨m, wv⟩ =>
  Does.withinR (dr_write_does d m wv D.ws D.ar D.dn D.lf at' x bs hD.lf hb) (B := [mapP m (kvS D.s)]) (fun _ _ h d => h.more d) (fun _ s => sep_selR [0, 1] rfl s) (fun v H h => by
    unfold DS.write
    replace h : (if at' < 0 ∨ 2048 ≤ at' ∨ 64 < bs.length then _ else _) := h
    split at h <;> rename_i h1
    · rw [if_pos h1]
      obtain ⟨rfl, rfl⟩ := h
      exact ⟨_, fun _ s => sep_close (H := []) (m, wv) (sep_selR [0, 1] rfl s), rfl, rfl⟩
    · rw [if_neg h1]
      split at h <;> rename_i h2
      · rw [if_pos h2]
        obtain ⟨rfl, rfl⟩ := h
        exact ⟨_, fun _ s => sep_close (H := []) (m, wv) (sep_selR [0, 1] rfl s), rfl, rfl⟩
      · rw [if_neg h2]
        obtain ⟨rfl, wv', rfl⟩ := h
        exact ⟨_, fun _ s => sep_close (H := []) (m, wv') (sep_selR [0, 1] rfl s), rfl, rfl⟩)

theorem dk_sync (d : Nat) (D : DS) (hD : D.Ok) : Does Tryz.prog 71 #[(.pointer (some ⟨d, 0, none⟩))] (fun _ => True) [dk d D] (Ret (fun v H => v = .int .i64 D.sync.1 ∧ H = [dk d D.sync.2])) := by
  obtain ⟨s, ws, ar, lf, dn⟩ := D
  cases dn
  · exact Does.pack (B := []) fun ⟨m, wv⟩ => Does.withinR (dr_syncUp_does d m wv s ws ar lf hD.ws) (B := []) (fun _ _ _ _ => trivial) (fun _ s => s) (fun v H h => by
      obtain ⟨rfl, rfl⟩ := h
      exact ⟨_, fun _ s => sep_close (H := []) (m, (.slice none 0 0 : Value)) s, rfl, rfl⟩)
  · exact Does.pack (B := []) fun ⟨m, wv⟩ => Does.withinR (dr_syncDown_does d m wv ar lf) (B := [mapP m (kvS s), own wv ws.length (wflat ws) 135 65]) (fun _ _ _ _ => trivial) (fun _ s => s) (fun v H h => by
      obtain ⟨rfl, rfl⟩ := h
      exact ⟨_, fun _ s => sep_close (H := []) (m, wv) s, rfl, rfl⟩)

theorem dk_new : Does Tryz.prog 11 #[] (fun _ => True) [] (Ret (fun v H => ∃ d, v = .pointer (some ⟨d, 0, none⟩) ∧ H = [dk d DS.new])) :=
  Does.withinR dr_new_does (B := []) (fun _ _ _ _ => trivial) (fun _ s => s) (fun v H h => by
    obtain ⟨d, m, rfl, rfl⟩ := h
    exact ⟨_, fun _ s => sep_close (H := []) (m, (.slice none 0 0 : Value)) (sep_perm (List.Perm.trans (List.Perm.swap _ _ _) (List.Perm.cons _ (List.Perm.swap _ _ _))) (sep_ownNil 135 65 s)), d, rfl, rfl⟩)

end Go.Proofs.YtfceaphohlbnbaaGreat
end

section
namespace Wal
open Go Leg Codec Api Dsk

/-! ### Bits -/
theorem orI_add32 {x y : Int} (k : Nat) (hx : 0 ≤ x) (hx2 : x < 2 ^ k) (hy : 0 ≤ y) (h : x + y * 2 ^ k < 4294967296) : orI .u32 x (y * 2 ^ k) = x + y * 2 ^ k := by
  obtain ⟨a, rfl⟩ := Int.eq_ofNat_of_zero_le hx
  obtain ⟨b, rfl⟩ := Int.eq_ofNat_of_zero_le hy
  have e2 : ((b : Nat) : Int) * 2 ^ k = ((b * 2 ^ k : Nat) : Int) := by simp
  rw [e2] at h ⊢
  have ha : a < 2 ^ k := by have : (((2 : Nat) ^ k : Nat) : Int) = (2 : Int) ^ k := by simp
                            omega
  have hs : a + b * 2 ^ k < 4294967296 := by omega
  have h1 : (BitVec.ofInt 32 (a : Int)).toNat = a := by rw [BitVec.toNat_ofInt]; omega
  have h2 : (BitVec.ofInt 32 ((b * 2 ^ k : Nat) : Int)).toNat = b * 2 ^ k := by
    rw [BitVec.toNat_ofInt]; generalize b * 2 ^ k = q at *; omega
  have h3 : a ||| b * 2 ^ k = a + b * 2 ^ k := by
    rw [Nat.or_comm, ← Nat.shiftLeft_eq, ← Nat.shiftLeft_add_eq_or_of_lt ha, Nat.add_comm]
  show IntKind.u32.wrap (((BitVec.ofInt 32 (a : Int)) ||| (BitVec.ofInt 32 ((b * 2 ^ k : Nat) : Int))).toNat : Nat) = _
  rw [BitVec.toNat_or, h1, h2, h3]
  generalize b * 2 ^ k = q at *
  rw [wrap_u32 (by omega) (by omega)]
  omega
theorem orI_add64 {x y : Int} (k : Nat) (hx : 0 ≤ x) (hx2 : x < 2 ^ k) (hy : 0 ≤ y) (h : x + y * 2 ^ k < 9223372036854775808) : orI .i64 (y * 2 ^ k) x = x + y * 2 ^ k := by
  obtain ⟨a, rfl⟩ := Int.eq_ofNat_of_zero_le hx
  obtain ⟨b, rfl⟩ := Int.eq_ofNat_of_zero_le hy
  have e2 : ((b : Nat) : Int) * 2 ^ k = ((b * 2 ^ k : Nat) : Int) := by simp
  rw [e2] at h ⊢
  have ha : a < 2 ^ k := by have : (((2 : Nat) ^ k : Nat) : Int) = (2 : Int) ^ k := by simp
                            omega
  have h1 : (BitVec.ofInt 64 (a : Int)).toNat = a := by rw [BitVec.toNat_ofInt]; omega
  have h2 : (BitVec.ofInt 64 ((b * 2 ^ k : Nat) : Int)).toNat = b * 2 ^ k := by
    rw [BitVec.toNat_ofInt]; generalize b * 2 ^ k = q at *; omega
  have h3 : b * 2 ^ k ||| a = a + b * 2 ^ k := by
    rw [← Nat.shiftLeft_eq, ← Nat.shiftLeft_add_eq_or_of_lt ha, Nat.add_comm]
  show IntKind.i64.wrap (((BitVec.ofInt 64 ((b * 2 ^ k : Nat) : Int)) ||| (BitVec.ofInt 64 (a : Int))).toNat : Nat) = _
  rw [BitVec.toNat_or, h1, h2, h3]
  generalize b * 2 ^ k = q at *
  rw [wrap_i64 (by omega) (by omega)]
  omega
theorem u32_range (x : Int) : 0 ≤ IntKind.u32.wrap x ∧ IntKind.u32.wrap x < 4294967296 := by
  simp only [IntKind.wrap, IntKind.signed, IntKind.bits]; simp; omega
theorem xor32_range (a b : Int) : 0 ≤ xorI .u32 a b ∧ xorI .u32 a b < 4294967296 := u32_range _
/-- A number's lowest byte. -/
def r8 (x : Int) : UInt8 := UInt8.ofNat (x % 256).toNat
theorem r8_nat (x : Int) : (((r8 x).toNat : Nat) : Int) = x % 256 := by
  have : (x % 256).toNat < 256 := by omega
  simp only [r8, UInt8.toNat_ofNat']; omega
theorem r8_wrap (x : Int) : IntKind.u8.wrap x = (((r8 x).toNat : Nat) : Int) := by
  rw [r8_nat]; simp only [IntKind.wrap, IntKind.signed, IntKind.bits]; simp

/-! ### Sums -/
def crcBit (r : Int) : Int := if andI .u32 r 1 = 1 then xorI .u32 (r.fdiv 2) 3988292384 else r.fdiv 2
def crcBits (r : Int) : Nat → Int
  | 0 => r
  | k + 1 => crcBit (crcBits r k)
def crcByte (r : Int) (c : UInt8) : Int := crcBits (xorI .u32 r ((c.toNat : Nat) : Int)) 8
def crcRun (r : Int) (bs : List UInt8) : Int := bs.foldl crcByte r
def crcOf (bs : List UInt8) : Int := xorI .u32 4294967295 (crcRun 4294967295 bs)
theorem crcRun_take {r : Int} {bs : List UInt8} {k : Nat} (h : k < bs.length) : crcRun r (bs.take (k + 1)) = crcByte (crcRun r (bs.take k)) (bs.getD k 0) := by
  rw [crcRun, crcRun, List.take_succ_eq_append_getElem h, List.foldl_append, List.getD_eq_getElem?_getD, List.getElem?_eq_getElem h]; rfl
theorem crcRun_append (r : Int) (a b : List UInt8) : crcRun r (a ++ b) = crcRun (crcRun r a) b := by simp [crcRun]
theorem crcRun_flat {r : Int} {ps : List (List UInt8)} {k : Nat} (h : k < ps.length) : crcRun r (ps.take (k + 1)).flatten = crcRun (crcRun r (ps.take k).flatten) ps[k] := by
  rw [List.take_succ_eq_append_getElem h, List.flatten_append, crcRun_append]; simp
theorem crcOf_range (bs : List UInt8) : 0 ≤ crcOf bs ∧ crcOf bs < 4294967296 := xor32_range _ _
def le4 (r : Int) : List UInt8 := [r8 r, r8 (r.fdiv 256), r8 (r.fdiv 65536), r8 (r.fdiv 16777216)]
/-- Four bytes' number, as it is put together. -/
def le32 (a b c d : UInt8) : Int :=
  orI .u32 (orI .u32 (orI .u32 ((a.toNat : Nat) : Int) (IntKind.u32.wrap (((b.toNat : Nat) : Int) * 2 ^ 8))) (IntKind.u32.wrap (((c.toNat : Nat) : Int) * 2 ^ 16))) (IntKind.u32.wrap (((d.toNat : Nat) : Int) * 2 ^ 24))
theorem le32_eq (a b c d : UInt8) : le32 a b c d = ((a.toNat : Nat) : Int) + ((b.toNat : Nat) : Int) * 256 + ((c.toNat : Nat) : Int) * 65536 + ((d.toNat : Nat) : Int) * 16777216 := by
  have ha := a.toNat_lt
  have hb := b.toNat_lt
  have hc := c.toNat_lt
  have hd := d.toNat_lt
  unfold le32
  generalize a.toNat = a at *
  generalize b.toNat = b at *
  generalize c.toNat = c at *
  generalize d.toNat = d at *
  rw [wrap_u32 (x := (b : Int) * 2 ^ 8) (by omega) (by omega), wrap_u32 (x := (c : Int) * 2 ^ 16) (by omega) (by omega), wrap_u32 (x := (d : Int) * 2 ^ 24) (by omega) (by omega)]
  rw [orI_add32 8 (by omega) (by omega) (by omega) (by omega), orI_add32 16 (by omega) (by omega) (by omega) (by omega), orI_add32 24 (by omega) (by omega) (by omega) (by omega)]
  omega
def putP (bs : List UInt8) : List UInt8 := bs ++ le4 (crcOf bs)
def takeP (bs : List UInt8) : Option (List UInt8) :=
  if bs.length < 4 then none
  else if crcOf (bs.take (bs.length - 4)) = le32 ((bs.drop (bs.length - 4)).getD 0 0) ((bs.drop (bs.length - 4)).getD 1 0) ((bs.drop (bs.length - 4)).getD 2 0) ((bs.drop (bs.length - 4)).getD 3 0) then some (bs.take (bs.length - 4)) else none
theorem putP_len (bs : List UInt8) : (putP bs).length = bs.length + 4 := by simp [putP, le4]
theorem le32_le4 {r : Int} (h : 0 ≤ r ∧ r < 4294967296) : le32 (r8 r) (r8 (r.fdiv 256)) (r8 (r.fdiv 65536)) (r8 (r.fdiv 16777216)) = r := by
  rw [le32_eq, r8_nat, r8_nat, r8_nat, r8_nat, Int.fdiv_eq_ediv_of_nonneg _ (by decide), Int.fdiv_eq_ediv_of_nonneg _ (by decide), Int.fdiv_eq_ediv_of_nonneg _ (by decide)]
  omega
theorem takeP_putP (bs : List UInt8) : takeP (putP bs) = some bs := by
  have hl := putP_len bs
  have e1 : (putP bs).take (bs.length + 4 - 4) = bs := by rw [Nat.add_sub_cancel, putP]; exact List.take_left
  have e2 : (putP bs).drop (bs.length + 4 - 4) = le4 (crcOf bs) := by rw [Nat.add_sub_cancel, putP]; exact List.drop_left
  unfold takeP
  rw [hl, if_neg (by omega), e1, e2]
  exact if_pos (le32_le4 (crcOf_range bs)).symm
theorem takeP_len {bs t : List UInt8} (h : takeP bs = some t) : t.length + 4 = bs.length := by
  unfold takeP at h
  split at h
  · cases h
  · split at h
    · injection h with h; subst h; rw [List.length_take]; omega
    · cases h

/-! ### Sectors -/
def piecesN (n : Nat) : Nat := if n = 0 then 1 else (n - 1) / 52 + 1
theorem piecesN_pos (n : Nat) : 0 < piecesN n := by unfold piecesN; split <;> omega
theorem piecesN_le {n : Nat} (h : n ≤ 3000) : piecesN n ≤ 58 := by unfold piecesN; split <;> omega
theorem piecesN_cover (n : Nat) : n ≤ piecesN n * 52 := by unfold piecesN; split <;> omega
def be4 (n : Int) : List UInt8 := [r8 (n.fdiv 16777216), r8 (n.fdiv 65536), r8 (n.fdiv 256), r8 n]
/-- Bytes' number, the highest first. -/
def beI (bs : List UInt8) : Int := bs.foldl (fun h c => orI .i64 (IntKind.i64.wrap (h * 2 ^ 8)) ((c.toNat : Nat) : Int)) 0
theorem beI_take {bs : List UInt8} {k : Nat} (h : k < bs.length) : beI (bs.take (k + 1)) = orI .i64 (IntKind.i64.wrap (beI (bs.take k) * 2 ^ 8)) (((bs.getD k 0).toNat : Nat) : Int) := by
  rw [beI, beI, List.take_succ_eq_append_getElem h, List.foldl_append, List.getD_eq_getElem?_getD, List.getElem?_eq_getElem h]; rfl
theorem be_step {h : Int} (c : UInt8) (h0 : 0 ≤ h) (h1 : h < 4294967296) : orI .i64 (IntKind.i64.wrap (h * 2 ^ 8)) ((c.toNat : Nat) : Int) = h * 256 + ((c.toNat : Nat) : Int) := by
  have hc := c.toNat_lt
  generalize c.toNat = c at *
  rw [wrap_i64 (by omega) (by omega), orI_add64 8 (by omega) (by omega) (by omega) (by omega)]
  omega
theorem beI_four (a b c d : UInt8) : beI [a, b, c, d] = ((a.toNat : Nat) : Int) * 16777216 + ((b.toNat : Nat) : Int) * 65536 + ((c.toNat : Nat) : Int) * 256 + ((d.toNat : Nat) : Int) := by
  have ha := a.toNat_lt
  have hb := b.toNat_lt
  have hc := c.toNat_lt
  have hd := d.toNat_lt
  simp only [beI, List.foldl_cons, List.foldl_nil]
  rw [be_step a (by omega) (by omega), be_step b (by omega) (by omega), be_step c (by omega) (by omega), be_step d (by omega) (by omega)]
  omega
theorem beI_be4 {n : Int} (h0 : 0 ≤ n) (h1 : n < 4294967296) : beI (be4 n) = n := by
  rw [be4, beI_four, r8_nat, r8_nat, r8_nat, r8_nat, Int.fdiv_eq_ediv_of_nonneg _ (by decide), Int.fdiv_eq_ediv_of_nonneg _ (by decide), Int.fdiv_eq_ediv_of_nonneg _ (by decide)]
  omega
def partP (b : List UInt8) (i : Nat) : List UInt8 := (b.drop (i * 52)).take 52
theorem partP_len (b : List UInt8) (i : Nat) : (partP b i).length ≤ 52 := by rw [partP, List.length_take]; omega
theorem part_le {n k : Nat} (h : k < piecesN n) : k * 52 ≤ n := by unfold piecesN at h; split at h <;> omega
theorem part_eq (b : List UInt8) (k : Nat) : ((b.take (min ((k + 1) * 52) b.length)).drop (k * 52)) = partP b k := by
  rw [partP, List.drop_take, Nat.add_mul, Nat.one_mul]
  by_cases q : k * 52 + 52 ≤ b.length
  · rw [Nat.min_eq_left q, Nat.add_sub_cancel_left]
  · rw [Nat.min_eq_right (by omega), List.take_of_length_le (by rw [List.length_drop]; omega), List.take_of_length_le (by rw [List.length_drop]; omega)]
theorem parts_all (b : List UInt8) : ∀ k, b.length ≤ k * 52 → ((List.range k).map (partP b)).flatten = b := by
  have key : ∀ k, ((List.range k).map (partP b)).flatten = b.take (k * 52) := by
    intro k
    induction k with
    | zero => simp
    | succ k ih =>
      rw [List.range_succ, List.map_append, List.flatten_append, ih, Nat.add_mul, Nat.one_mul, List.take_add]
      simp [partP]
  intro k hk
  rw [key, List.take_of_length_le hk]
def textP (number : Int) (place all : Nat) (p : List UInt8) : List UInt8 := be4 number ++ ([r8 (place : Int), r8 (all : Int), r8 (p.length : Int)] ++ (p ++ List.replicate (52 - p.length) 0))
theorem textP_len {number : Int} {place all : Nat} {p : List UInt8} (h : p.length ≤ 52) : (textP number place all p).length = 59 := by simp [textP, be4]; omega
def sectP (number : Int) (place all : Nat) (p : List UInt8) : Sec := putP (textP number place all p) ++ [1]
theorem sectP_len {number : Int} {place all : Nat} {p : List UInt8} (h : p.length ≤ 52) : (sectP number place all p).length = 64 := by simp [sectP, putP_len, textP_len h]
def sectorsP (number : Int) (b : List UInt8) : List Sec := (List.range (piecesN b.length)).map fun i => sectP number i (piecesN b.length) (partP b i)
def secsN (number : Int) (b : List UInt8) (k : Nat) : List Sec := (List.range k).map fun i => sectP number i (piecesN b.length) (partP b i)
theorem secsN_succ (number : Int) (b : List UInt8) (k : Nat) : secsN number b (k + 1) = secsN number b k ++ [sectP number k (piecesN b.length) (partP b k)] := by simp [secsN, List.range_succ]
theorem secsN_len (number : Int) (b : List UInt8) (k : Nat) : (secsN number b k).length = k := by simp [secsN]
theorem text_copy {number : Int} {place all : Nat} {p : List UInt8} (h : p.length ≤ 52) :
    wr (u8s (be4 number ++ ([r8 (place : Int), r8 (all : Int), r8 (p.length : Int)] ++ List.replicate 52 0))) 7 ((u8s p).take (min p.length 52)) = u8s (textP number place all p) := by
  have e : (u8s p).take (min p.length 52) = u8s p := List.take_of_length_le (by rw [u8s_length]; omega)
  rw [e, wr, u8s_length]
  have e2 : (u8s (be4 number ++ ([r8 (place : Int), r8 (all : Int), r8 (p.length : Int)] ++ List.replicate 52 0))).take 7 = u8s (be4 number ++ [r8 (place : Int), r8 (all : Int), r8 (p.length : Int)]) := rfl
  have e3 : (u8s (be4 number ++ ([r8 (place : Int), r8 (all : Int), r8 (p.length : Int)] ++ List.replicate 52 0))).drop (7 + p.length) = u8s (List.replicate (52 - p.length) 0) := by
    rw [← List.drop_drop]
    have : (u8s (be4 number ++ ([r8 (place : Int), r8 (all : Int), r8 (p.length : Int)] ++ List.replicate 52 0))).drop 7 = u8s (List.replicate 52 0) := rfl
    rw [this, u8s, u8s, ← List.map_drop, List.drop_replicate]
  rw [e2, e3, textP]
  simp [u8s]
theorem sectorsP_len (number : Int) (b : List UInt8) : (sectorsP number b).length = piecesN b.length := by simp [sectorsP]
/-- What a sector has of a record. -/
def pieceP (s : Sec) (number place : Int) : Option (List UInt8 × Int) :=
  match takeP (s.take 63) with
  | none => none
  | some t => if s.getD 63 0 ≠ 1 then none
    else if beI (t.take 4) ≠ number ∨ (((t.getD 4 0).toNat : Nat) : Int) ≠ place ∨ place ≥ (((t.getD 5 0).toNat : Nat) : Int) ∨ (((t.getD 6 0).toNat : Nat) : Int) > 52 then none
    else some ((t.drop 7).take (t.getD 6 0).toNat, (((t.getD 5 0).toNat : Nat) : Int))
theorem pieceP_sect {number : Int} {place all : Nat} {p : List UInt8} (h : p.length ≤ 52) (h0 : 0 ≤ number) (h1 : number < 4294967296) (hp : place < all) (ha : all ≤ 255) : pieceP (sectP number place all p) number place = some (p, (all : Int)) := by
  have e1 : (sectP number place all p).take 63 = putP (textP number place all p) := by
    rw [sectP, List.take_append_of_le_length (by rw [putP_len, textP_len h]; omega), List.take_of_length_le (by rw [putP_len, textP_len h]; omega)]
  have e2 : (sectP number place all p).getD 63 0 = 1 := by
    rw [sectP, List.getD_eq_getElem?_getD, List.getElem?_append_right (by rw [putP_len, textP_len h]; omega), putP_len, textP_len h]; rfl
  have n1 : (((r8 (place : Int)).toNat : Nat) : Int) = place := by rw [r8_nat]; omega
  have n2 : (((r8 (all : Int)).toNat : Nat) : Int) = all := by rw [r8_nat]; omega
  have n3 : (((r8 (p.length : Int)).toNat : Nat) : Int) = p.length := by rw [r8_nat]; omega
  unfold pieceP
  rw [e1, takeP_putP]
  simp only [e2, ne_eq, not_true_eq_false, if_false]
  have t4 : (textP number place all p).take 4 = be4 number := rfl
  have g4 : (textP number place all p).getD 4 0 = r8 (place : Int) := rfl
  have g5 : (textP number place all p).getD 5 0 = r8 (all : Int) := rfl
  have g6 : (textP number place all p).getD 6 0 = r8 (p.length : Int) := rfl
  have g7 : (textP number place all p).drop 7 = p ++ List.replicate (52 - p.length) 0 := rfl
  rw [t4, beI_be4 h0 h1, g4, g5, g6, g7, n1, n2, n3]
  rw [if_neg (by omega)]
  have n3' : (r8 (p.length : Int)).toNat = p.length := by omega
  rw [n3']
  simp
/-- A sector that does not end so is no piece. -/
theorem pieceP_end {s : Sec} {number place : Int} (h : s.getD 63 0 ≠ 1) : pieceP s number place = none := by
  unfold pieceP
  split
  · rfl
  · rw [if_pos h]
theorem pieceP_facts {s b : Sec} {number place all : Int} (hs : s.length = 64) (h : pieceP s number place = some (b, all)) : place < all ∧ all ≤ 255 ∧ b.length ≤ 52 := by
  unfold pieceP at h
  split at h
  · cases h
  · rename_i t ht
    have hl := takeP_len ht
    split at h
    · cases h
    · split at h
      · cases h
      · rename_i h2
        injection h with h
        simp only [Prod.mk.injEq] at h
        obtain ⟨rfl, rfl⟩ := h
        have := (t.getD 5 0).toNat_lt
        rw [List.length_take]
        omega

theorem pieceP_none1 {s : Sec} {number place : Int} (h : takeP (s.take 63) = none) : pieceP s number place = none := by simp only [pieceP, h]
theorem pieceP_none2 {s t : Sec} {number place : Int} (h : takeP (s.take 63) = some t) (h2 : beI (t.take 4) ≠ number ∨ (((t.getD 4 0).toNat : Nat) : Int) ≠ place ∨ place ≥ (((t.getD 5 0).toNat : Nat) : Int) ∨ (((t.getD 6 0).toNat : Nat) : Int) > 52) : pieceP s number place = none := by
  simp only [pieceP, h]
  split
  · rfl
  · first | rfl | rw [if_pos h2]
theorem pieceP_some {s t : Sec} {number place : Int} (h : takeP (s.take 63) = some t) (h1 : s.getD 63 0 = 1) (h2 : ¬ (beI (t.take 4) ≠ number ∨ (((t.getD 4 0).toNat : Nat) : Int) ≠ place ∨ place ≥ (((t.getD 5 0).toNat : Nat) : Int) ∨ (((t.getD 6 0).toNat : Nat) : Int) > 52)) :
    pieceP s number place = some ((t.drop 7).take (t.getD 6 0).toNat, (((t.getD 5 0).toNat : Nat) : Int)) := by
  simp only [pieceP, h, h1, ne_eq, not_true_eq_false, if_false]
  rw [if_neg h2]

/-! ### Records -/
/-- The first k pieces of a record. -/
def moreP (rd : Int → Sec) (number at' all : Int) : Nat → Option (List UInt8)
  | 0 => some []
  | k + 1 => match moreP rd number at' all k with
    | none => none
    | some b => match pieceP (rd (at' + k)) number k with
      | none => none
      | some (m, same) => if same = all then some (b ++ m) else none
def standsP (rd : Int → Sec) (number at' : Int) : Option (List UInt8 × Int) :=
  match pieceP (rd at') number 0 with
  | none => none
  | some (_, all) => (moreP rd number at' all all.toNat).map fun b => (b, all)
theorem moreP_none {rd : Int → Sec} {number at' all : Int} {k : Nat} (h : moreP rd number at' all k = none) : ∀ m, k ≤ m → moreP rd number at' all m = none := by
  intro m hm
  induction hm with
  | refl => exact h
  | step _ ih => simp only [moreP, ih]
theorem moreP_stop {rd : Int → Sec} {number at' all : Int} {k : Nat} (h : pieceP (rd (at' + k)) number k = none ∨ ∃ m same, pieceP (rd (at' + k)) number k = some (m, same) ∧ same ≠ all) : ∀ m, k < m → moreP rd number at' all m = none := by
  refine fun m hm => moreP_none (k := k + 1) ?_ m hm
  simp only [moreP]
  cases moreP rd number at' all k with
  | none => rfl
  | some b =>
    rcases h with h | ⟨x, same, h, h2⟩
    · simp only [h]
    · simp only [h, if_neg h2]
theorem moreP_go {rd : Int → Sec} {number at' all : Int} {k : Nat} {b x : List UInt8} (h : moreP rd number at' all k = some b) (h2 : pieceP (rd (at' + k)) number k = some (x, all)) : moreP rd number at' all (k + 1) = some (b ++ x) := by
  simp only [moreP, h, h2, if_true]
theorem moreP_one {rd : Int → Sec} {number at' all : Int} {b : List UInt8} (h : pieceP (rd at') number 0 = some (b, all)) : moreP rd number at' all 1 = some b := by
  have h0 : moreP rd number at' all 0 = some [] := rfl
  have := moreP_go (rd := rd) (number := number) (at' := at') (all := all) (k := 0) h0 (x := b) (by simpa using h)
  simpa using this
theorem standsP_none1 {rd : Int → Sec} {number at' : Int} (h : pieceP (rd at') number 0 = none) : standsP rd number at' = none := by simp only [standsP, h]
theorem standsP_none2 {rd : Int → Sec} {number at' all : Int} {b : List UInt8} (h : pieceP (rd at') number 0 = some (b, all)) (h2 : moreP rd number at' all all.toNat = none) : standsP rd number at' = none := by simp only [standsP, h, h2, Option.map_none]
theorem standsP_some {rd : Int → Sec} {number at' all : Int} {b c : List UInt8} (h : pieceP (rd at') number 0 = some (b, all)) (h2 : moreP rd number at' all all.toNat = some c) : standsP rd number at' = some (c, all) := by simp only [standsP, h, h2, Option.map_some]
/-- The records that stand one behind the other. -/
def scanP (rd : Int → Sec) : Nat → Int → Int → List (List UInt8) × Int
  | 0, _, used => ([], used)
  | f + 1, cnt, used => match standsP rd (cnt + 1) used with
    | none => ([], used)
    | some (b, all) => let r := scanP rd f (cnt + 1) (used + all); (b :: r.1, r.2)
def wipeP : Nat → Int → DS → Int × DS
  | 0, _, D => (0, D)
  | n + 1, at', D => if D.read at' = zs then wipeP n (at' + 1) D else if (D.write at' []).1 = 0 then wipeP n (at' + 1) (D.write at' []).2 else D.write at' []
/-- What Open finds, and how it leaves the disk: an error's number, records, sectors. -/
structure OpenR where
  err : Int
  recs : List (List UInt8)
  used : Int
  D : DS
def fuel0 : Nat := 2049
theorem fuel0_eq : fuel0 = 2049 := rfl
def openP (D : DS) : OpenR :=
  let r := scanP D.read fuel0 0 0
  let w := wipeP (2048 - r.2).toNat r.2 D
  if w.1 ≠ 0 then ⟨w.1, [], 0, w.2⟩ else if w.2.sync.1 ≠ 0 then ⟨w.2.sync.1, [], 0, w.2.sync.2⟩ else ⟨0, r.1, r.2, w.2.sync.2⟩
/-- Sectors that there may be. -/
def In (s : Secs) : Prop := ∀ p ∈ s, 0 ≤ p.1 ∧ p.1 < 2048
def DS.In (D : DS) : Prop := Wal.In D.s ∧ Wal.In D.ws
end Wal
end
