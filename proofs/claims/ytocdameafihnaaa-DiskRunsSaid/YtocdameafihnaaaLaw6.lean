/-
  Layer 6's statements, walked.
-/

import Derived.Test.YtocdameafihnaaaDiskA
import Derived.Test.YtocdameafihnaaaLaw6P

namespace Go.Proofs.Ytocdameafihnaaa

open Go Leg Codec Api Dsk

set_option maxRecDepth 100000

theorem sg37 : Try.prog.eqGuardType Try.prog.depth 37 = false := by kernel_rfl
theorem sk37 : Try.prog.keyTypeAt 2 37 = true := by kernel_rfl
theorem sf37 : flatK Try.prog 2 37 = some (List.replicate 64 (some .u8)) := by kernel_rfl
theorem sa37 : aggT Try.prog 37 = true := by kernel_rfl
theorem sc37 : Try.prog.cellsOf 37 = 64 := by kernel_rfl

theorem fit6_does  :
    Does Try.prog 12 #[] (fun _ => True) [] (Ret (fun v H => v = .bool true ∧ H = [])) := by
  refine Does.body (vs := []) (n := 29) Try.func12 rfl rfl rfl (fun w0 F hF => ?_)
  refine TC.seq (fun K1 hK1 => ?_)
  refine TC.region ?_
  refine TL.v (Want.plain rfl) rfl rfl (PV.assign rfl rfl) ?_
  refine TL.nil ?_
  refine TE.next hK1 ?_
  clear hK1
  refine TC.seq (fun K2 hK2 => ?_)
  refine TC.region ?_
  refine TL.callR (A := []) (B := []) (Want.plain rfl) rfl rfl rfl nm13 rfl (dk_new) (fun _ s => s) (fun _ _ _ => trivial) (fun vR HR hR => ?_)
  obtain ⟨d, rfl, rfl⟩ := hR
  change TL _ _ _ _ _ _ _ _ _ [dk d (DS.new)]
  refine TL.v (Want.plain rfl) rfl rfl (PV.assign rfl rfl) ?_
  refine TL.nil ?_
  refine TE.next hK2 ?_
  clear hK2
  refine TC.seq (fun K3 hK3 => ?_)
  refine TC.seq (fun K4 hK4 => ?_)
  refine TC.region ?_
  refine TL.v (Want.plain rfl) rfl rfl (PV.move rfl rfl) ?_
  refine TL.v (Want.plain rfl) rfl rfl (PV.ptrNil rfl Try.underlying23 rfl rfl) ?_
  refine TL.nil ?_
  refine TE.next hK4 ?_
  clear hK4
  refine TC.no rfl ?_
  refine TC.skip ?_
  refine TE.next hK3 ?_
  clear hK3
  refine TC.seq (fun K5 hK5 => ?_)
  refine TC.region ?_
  refine TL.v (Want.plain rfl) rfl rfl (PV.move rfl rfl) ?_
  refine TL.buildSlice (cells := #[(.int .u8 7)]) (Want.plain rfl) rfl rfl rfl Try.underlying28 in5 rfl rfl rfl (by as_aux_lemma => kernel_rfl) (fun b8 => ?_)
  change TL _ _ _ _ _ _ _ _ _ [blkA b8 [(.int .u8 7)] 5, dk d (DS.new)]
  refine TL.callR (A := [dk d (DS.new)]) (B := [blkA b8 [(.int .u8 7)] 5]) (Want.plain rfl) rfl rfl rfl nm15 rfl (dk_write d (DS.new) 3 (.slice (some ⟨b8, 0, none⟩) (1) (1)) ([7]) DS.new_ok (by decide)) (fun _ s => sep_selR [1] rfl s) (fun g d s => IsB.w (isB_blk (bs := [7]) 0 (by simp) rfl rfl g d s)) (fun vR HR hR => ?_)
  obtain ⟨hv, rfl⟩ := hR
  subst hv
  change TL _ _ _ _ _ _ _ _ _ [dk d (((DS.new).write 3 ([7])).2), blkA b8 [(.int .u8 7)] 5]
  refine TL.nil ?_
  refine TE.next hK5 ?_
  clear hK5
  refine TC.seq (fun K6 hK6 => ?_)
  refine TC.region ?_
  refine TL.v (Want.plain rfl) rfl rfl (PV.move rfl rfl) ?_
  refine TL.callR (A := [dk d (((DS.new).write 3 ([7])).2)]) (B := [blkA b8 [(.int .u8 7)] 5]) (Want.plain rfl) rfl rfl rfl nm21 rfl (dk_read d (((DS.new).write 3 ([7])).2) 3 (DS.write_ok DS.new_ok 3 ([7])) (by decide)) (fun _ s => s) (fun _ _ _ => trivial) (fun vR HR hR => ?_)
  obtain ⟨hv, rfl⟩ := hR
  subst hv
  change TL _ _ _ _ _ _ _ _ _ [dk d (((DS.new).write 3 ([7])).2), blkA b8 [(.int .u8 7)] 5]
  refine TL.v (Want.plain rfl) rfl rfl (PV.index1 (cs := u8s ((((DS.new).write 3 ([7])).2).read 3)) (v := .int .u8 7) (r := 0) rfl Try.underlying37 Try.underlying5 rfl sz5 rfl rfl (lz rfl) (ll rfl) rfl rfl) ?_
  refine TL.v (Want.plain rfl) rfl rfl (PV.assign rfl rfl) ?_
  refine TL.nil ?_
  refine TE.next hK6 ?_
  clear hK6
  refine TC.seq (fun K7 hK7 => ?_)
  refine TC.region ?_
  refine TL.v (Want.plain rfl) rfl rfl (PV.move rfl rfl) ?_
  refine TL.callR (A := [dk d (((DS.new).write 3 ([7])).2)]) (B := [blkA b8 [(.int .u8 7)] 5]) (Want.plain rfl) rfl rfl rfl nm19 rfl (dk_crash d (((DS.new).write 3 ([7])).2) 0 (-1) 0 (DS.write_ok DS.new_ok 3 ([7]))) (fun _ s => s) (fun _ _ _ => trivial) (fun vR HR hR => ?_)
  obtain ⟨_, rfl⟩ := hR
  change TL _ _ _ _ _ _ _ _ _ [dk d ((((DS.new).write 3 ([7])).2).crash 0 (-1) 0), blkA b8 [(.int .u8 7)] 5]
  refine TL.nil ?_
  refine TE.next hK7 ?_
  clear hK7
  refine TC.seq (fun K8 hK8 => ?_)
  refine TC.region ?_
  refine TL.v (Want.plain rfl) rfl rfl (PV.move rfl rfl) ?_
  refine TL.callR (A := [dk d ((((DS.new).write 3 ([7])).2).crash 0 (-1) 0)]) (B := [blkA b8 [(.int .u8 7)] 5]) (Want.plain rfl) rfl rfl rfl nm21 rfl (dk_read d ((((DS.new).write 3 ([7])).2).crash 0 (-1) 0) 3 (DS.crash_ok (DS.write_ok DS.new_ok 3 ([7])) 0 (-1) 0) (by decide)) (fun _ s => s) (fun _ _ _ => trivial) (fun vR HR hR => ?_)
  obtain ⟨hv, rfl⟩ := hR
  subst hv
  change TL _ _ _ _ _ _ _ _ _ [dk d ((((DS.new).write 3 ([7])).2).crash 0 (-1) 0), blkA b8 [(.int .u8 7)] 5]
  refine TL.v (Want.plain rfl) rfl rfl (PV.index1 (cs := u8s (((((DS.new).write 3 ([7])).2).crash 0 (-1) 0).read 3)) (v := .int .u8 0) (r := 0) rfl Try.underlying37 Try.underlying5 rfl sz5 rfl rfl (lz rfl) (ll rfl) rfl rfl) ?_
  refine TL.v (Want.plain rfl) rfl rfl (PV.assign rfl rfl) ?_
  refine TL.nil ?_
  refine TE.next hK8 ?_
  clear hK8
  refine TC.seq (fun K9 hK9 => ?_)
  refine TC.region ?_
  refine TL.v (Want.plain rfl) rfl rfl (PV.move rfl rfl) ?_
  refine TL.v (Want.plain rfl) rfl rfl (PV.eql rfl rfl rfl) ?_
  refine TL.v (Want.plain rfl) rfl rfl (PV.move rfl rfl) ?_
  refine TL.v (Want.met rfl rfl rfl) rfl rfl (PV.move rfl rfl) ?_
  refine TL.v (Want.met rfl rfl rfl) rfl rfl (PV.eql rfl rfl rfl) ?_
  refine TL.v (Want.plain rfl) rfl rfl (PV.pick rfl rfl rfl) ?_
  refine TL.v (Want.plain rfl) rfl rfl (PV.move rfl rfl) ?_
  refine TL.v (Want.met rfl rfl rfl) rfl rfl (PV.move rfl rfl) ?_
  refine TL.callR (A := [dk d ((((DS.new).write 3 ([7])).2).crash 0 (-1) 0)]) (B := [blkA b8 [(.int .u8 7)] 5]) (Want.met rfl rfl rfl) rfl rfl rfl nm18 rfl (dk_waits d ((((DS.new).write 3 ([7])).2).crash 0 (-1) 0) ) (fun _ s => s) (fun _ _ _ => trivial) (fun vR HR hR => ?_)
  obtain ⟨hv, rfl⟩ := hR
  subst hv
  change TL _ _ _ _ _ _ _ _ _ [dk d ((((DS.new).write 3 ([7])).2).crash 0 (-1) 0), blkA b8 [(.int .u8 7)] 5]
  refine TL.v (Want.met rfl rfl rfl) rfl rfl (PV.to (PV.eql rfl rfl rfl) rfl) ?_
  refine TL.v (Want.plain rfl) rfl rfl (PV.pick rfl rfl rfl) ?_
  refine TL.v (Want.plain rfl) rfl rfl (PV.assign rfl rfl) ?_
  refine TL.nil ?_
  refine TE.next hK9 ?_
  clear hK9
  refine TC.ret ?_
  refine TE.weak (Sub.refl _) (fun _ s => sep_keep [] rfl s) ?_
  refine TE.ret1 rfl rfl ?_
  exact ⟨rfl, rfl⟩


theorem pad_copy {bs : List UInt8} (h : bs.length ≤ 64) : wr (u8s zs) 0 ((u8s bs).take (min bs.length 64)) = u8s (padS bs) := by
  have e : (u8s bs).take (min bs.length 64) = u8s bs := List.take_of_length_le (by rw [u8s_length]; omega)
  rw [e, wr, u8s_length, List.take_zero, List.nil_append, Nat.zero_add]
  have e2 : (u8s zs).drop bs.length = u8s (List.replicate (64 - bs.length) 0) := by
    rw [u8s, u8s, zs, ← List.map_drop, List.drop_replicate]
  rw [e2, padS, u8s_append]

theorem pad_does (x : Value) (bs : List UInt8) (hl : bs.length ≤ 64) :
    Does Try.prog 20 #[x] (IsW x bs) [] (Ret (fun v H => v = secV (padS bs) ∧ H = [])) := by
  refine Does.body (vs := [x]) (n := 8) Try.func20 rfl rfl rfl (fun w0 F hF => ?_)
  refine TC.seq (fun K1 hK1 => ?_)
  refine TC.region ?_
  refine TL.alloc (Want.plain rfl) rfl rfl rfl z37 (fun b2 => ?_)
  change TL _ _ _ _ _ _ _ _ _ [blkA b2 [(.int .u8 0), (.int .u8 0), (.int .u8 0), (.int .u8 0), (.int .u8 0), (.int .u8 0), (.int .u8 0), (.int .u8 0), (.int .u8 0), (.int .u8 0), (.int .u8 0), (.int .u8 0), (.int .u8 0), (.int .u8 0), (.int .u8 0), (.int .u8 0), (.int .u8 0), (.int .u8 0), (.int .u8 0), (.int .u8 0), (.int .u8 0), (.int .u8 0), (.int .u8 0), (.int .u8 0), (.int .u8 0), (.int .u8 0), (.int .u8 0), (.int .u8 0), (.int .u8 0), (.int .u8 0), (.int .u8 0), (.int .u8 0), (.int .u8 0), (.int .u8 0), (.int .u8 0), (.int .u8 0), (.int .u8 0), (.int .u8 0), (.int .u8 0), (.int .u8 0), (.int .u8 0), (.int .u8 0), (.int .u8 0), (.int .u8 0), (.int .u8 0), (.int .u8 0), (.int .u8 0), (.int .u8 0), (.int .u8 0), (.int .u8 0), (.int .u8 0), (.int .u8 0), (.int .u8 0), (.int .u8 0), (.int .u8 0), (.int .u8 0), (.int .u8 0), (.int .u8 0), (.int .u8 0), (.int .u8 0), (.int .u8 0), (.int .u8 0), (.int .u8 0), (.int .u8 0)] 37]
  refine TL.nil ?_
  refine TE.next hK1 ?_
  clear hK1
  refine TC.seq (fun K2 hK2 => ?_)
  refine TC.region ?_
  refine TL.alloc (Want.plain rfl) rfl rfl rfl z37 (fun b3 => ?_)
  change TL _ _ _ _ _ _ _ _ _ [blkA b3 [(.int .u8 0), (.int .u8 0), (.int .u8 0), (.int .u8 0), (.int .u8 0), (.int .u8 0), (.int .u8 0), (.int .u8 0), (.int .u8 0), (.int .u8 0), (.int .u8 0), (.int .u8 0), (.int .u8 0), (.int .u8 0), (.int .u8 0), (.int .u8 0), (.int .u8 0), (.int .u8 0), (.int .u8 0), (.int .u8 0), (.int .u8 0), (.int .u8 0), (.int .u8 0), (.int .u8 0), (.int .u8 0), (.int .u8 0), (.int .u8 0), (.int .u8 0), (.int .u8 0), (.int .u8 0), (.int .u8 0), (.int .u8 0), (.int .u8 0), (.int .u8 0), (.int .u8 0), (.int .u8 0), (.int .u8 0), (.int .u8 0), (.int .u8 0), (.int .u8 0), (.int .u8 0), (.int .u8 0), (.int .u8 0), (.int .u8 0), (.int .u8 0), (.int .u8 0), (.int .u8 0), (.int .u8 0), (.int .u8 0), (.int .u8 0), (.int .u8 0), (.int .u8 0), (.int .u8 0), (.int .u8 0), (.int .u8 0), (.int .u8 0), (.int .u8 0), (.int .u8 0), (.int .u8 0), (.int .u8 0), (.int .u8 0), (.int .u8 0), (.int .u8 0), (.int .u8 0)] 37, blkA b2 [(.int .u8 0), (.int .u8 0), (.int .u8 0), (.int .u8 0), (.int .u8 0), (.int .u8 0), (.int .u8 0), (.int .u8 0), (.int .u8 0), (.int .u8 0), (.int .u8 0), (.int .u8 0), (.int .u8 0), (.int .u8 0), (.int .u8 0), (.int .u8 0), (.int .u8 0), (.int .u8 0), (.int .u8 0), (.int .u8 0), (.int .u8 0), (.int .u8 0), (.int .u8 0), (.int .u8 0), (.int .u8 0), (.int .u8 0), (.int .u8 0), (.int .u8 0), (.int .u8 0), (.int .u8 0), (.int .u8 0), (.int .u8 0), (.int .u8 0), (.int .u8 0), (.int .u8 0), (.int .u8 0), (.int .u8 0), (.int .u8 0), (.int .u8 0), (.int .u8 0), (.int .u8 0), (.int .u8 0), (.int .u8 0), (.int .u8 0), (.int .u8 0), (.int .u8 0), (.int .u8 0), (.int .u8 0), (.int .u8 0), (.int .u8 0), (.int .u8 0), (.int .u8 0), (.int .u8 0), (.int .u8 0), (.int .u8 0), (.int .u8 0), (.int .u8 0), (.int .u8 0), (.int .u8 0), (.int .u8 0), (.int .u8 0), (.int .u8 0), (.int .u8 0), (.int .u8 0)] 37]
  refine TL.nil ?_
  refine TE.next hK2 ?_
  clear hK2
  refine TC.seq (fun K3 hK3 => ?_)
  refine TC.region ?_
  refine TL.v (Want.plain rfl) rfl rfl (PV.sliceArr rfl Try.underlying37 sz5 rfl) ?_
  refine TL.v (Want.plain rfl) rfl rfl (PV.move rfl rfl) ?_
  refine TL.copy (i := 0) (m := bs.length) (news := (u8s bs)) (H' := [blkA b3 (u8s (padS bs)) 37, blkA b2 [(.int .u8 0), (.int .u8 0), (.int .u8 0), (.int .u8 0), (.int .u8 0), (.int .u8 0), (.int .u8 0), (.int .u8 0), (.int .u8 0), (.int .u8 0), (.int .u8 0), (.int .u8 0), (.int .u8 0), (.int .u8 0), (.int .u8 0), (.int .u8 0), (.int .u8 0), (.int .u8 0), (.int .u8 0), (.int .u8 0), (.int .u8 0), (.int .u8 0), (.int .u8 0), (.int .u8 0), (.int .u8 0), (.int .u8 0), (.int .u8 0), (.int .u8 0), (.int .u8 0), (.int .u8 0), (.int .u8 0), (.int .u8 0), (.int .u8 0), (.int .u8 0), (.int .u8 0), (.int .u8 0), (.int .u8 0), (.int .u8 0), (.int .u8 0), (.int .u8 0), (.int .u8 0), (.int .u8 0), (.int .u8 0), (.int .u8 0), (.int .u8 0), (.int .u8 0), (.int .u8 0), (.int .u8 0), (.int .u8 0), (.int .u8 0), (.int .u8 0), (.int .u8 0), (.int .u8 0), (.int .u8 0), (.int .u8 0), (.int .u8 0), (.int .u8 0), (.int .u8 0), (.int .u8 0), (.int .u8 0), (.int .u8 0), (.int .u8 0), (.int .u8 0), (.int .u8 0)] 37]) (Want.plain rfl) rfl rfl rfl Try.underlying28 sz5 rfl rfl rfl rfl (fun _ _ => hF.src (fun _ h => Frm.of h)) (u8s_one _) (by show 0 + min bs.length 64 ≤ 64; omega) (pad_copy hl) rfl ?_
  refine TL.nil ?_
  refine TE.next hK3 ?_
  clear hK3
  refine TC.seq (fun K4 hK4 => ?_)
  refine TC.region ?_
  refine TL.v (Want.plain rfl) rfl rfl (PV.loadN (vs := u8s (padS bs)) rfl Try.underlying37 rfl sz37 rfl (Rd.own 0 rfl rfl) (by rw [u8s_length]; exact padS_len hl) (take_all (by rw [u8s_length]; exact padS_len hl))) ?_
  refine TL.store (vs := u8s (padS bs)) (i := 1) (H' := [blkA b3 (u8s (padS bs)) 37, blkA b2 (u8s (padS bs)) 37]) (Want.plain rfl) rfl rfl rfl rfl rfl (by rw [u8s_length, padS_len hl]; exact sz37) (u8s_one _) rfl rfl (by rw [u8s_length, padS_len hl]; first | exact Nat.le_refl _ | (rw [rfl]; exact Nat.le_refl _)) (wr_whole (by rw [u8s_length, padS_len hl]; first | rfl | exact rfl)) rfl ?_
  refine TL.nil ?_
  refine TE.next hK4 ?_
  clear hK4
  refine TC.ret ?_
  refine TE.retC (H' := []) rfl rfl Try.underlying37 rfl sz37 (Rd.own 1 rfl rfl) (by rw [u8s_length, padS_len hl]) (fun _ s => sep_keep [] rfl s) ?_
  exact ⟨rfl, rfl⟩


theorem diskArms_does (n more : Int) :
    Does Try.prog 3 #[(.int .i64 (n)), (.int .i64 (more))] (fun _ => True) [] (Ret (fun v H => v = .bool true ∧ H = [])) := by
  refine Does.body (vs := [(.int .i64 (n)), (.int .i64 (more))]) (n := 55) Try.func3 rfl rfl rfl (fun w0 F hF => ?_)
  obtain ⟨N, hN, hN2⟩ : ∃ N : Nat, andI .i64 n 63 = ((N : Nat) : Int) ∧ N < 64 := ⟨(n % 64).toNat, by rw [show andI .i64 n 63 = n % 64 from mask (k := 6) (by decide) n]; omega, by omega⟩
  obtain ⟨M', hM, hM1⟩ : ∃ M : Nat, andI .i64 more 15 = ((M : Nat) : Int) ∧ M < 16 := ⟨(more % 16).toNat, by rw [show andI .i64 more 15 = more % 16 from mask (k := 4) (by decide) more]; omega, by omega⟩
  obtain ⟨M, hM2⟩ : ∃ M : Nat, ((M' : Nat) : Int) + 1 = ((M : Nat) : Int) := ⟨M' + 1, by omega⟩
  refine TC.seq (fun K1 hK1 => ?_)
  refine TC.region ?_
  refine TL.v (Want.plain rfl) rfl rfl (PV.assign rfl rfl) ?_
  refine TL.nil ?_
  refine TE.next hK1 ?_
  clear hK1
  refine TC.seq (fun K2 hK2 => ?_)
  refine TC.seq (fun K3 hK3 => ?_)
  refine TC.region ?_
  refine TL.callR (A := []) (B := []) (Want.plain rfl) rfl rfl rfl nm12 rfl (fit6_does ) (fun _ s => s) (fun _ _ _ => trivial) (fun vR HR hR => ?_)
  obtain ⟨rfl, rfl⟩ := hR
  change TL _ _ _ _ _ _ _ _ _ []
  refine TL.v (Want.plain rfl) rfl rfl (PV.not (r := false) rfl rfl rfl) ?_
  refine TL.nil ?_
  refine TE.next hK3 ?_
  clear hK3
  refine TC.no rfl ?_
  refine TC.skip ?_
  refine TE.next hK2 ?_
  clear hK2
  refine TC.seq (fun K4 hK4 => ?_)
  refine TC.region ?_
  refine TL.v (Want.plain rfl) rfl rfl (PV.move rfl rfl) ?_
  refine TL.v (Want.plain rfl) rfl rfl (PV.and (r := ((N : Nat) : Int)) rfl rfl rfl hN) ?_
  refine TL.v (Want.plain rfl) rfl rfl (PV.move rfl rfl) ?_
  refine TL.v (Want.plain rfl) rfl rfl (PV.and (r := ((M' : Nat) : Int)) rfl rfl rfl hM) ?_
  refine TL.v (Want.plain rfl) rfl rfl (PV.add (r := ((M : Nat) : Int)) rfl rfl rfl (by rw [← hM2]; exact wrap_i64 (by omega) (by omega))) ?_
  refine TL.v (Want.plain rfl) rfl rfl (PV.assign rfl rfl) ?_
  refine TL.v (Want.plain rfl) rfl rfl (PV.assign rfl rfl) ?_
  refine TL.nil ?_
  refine TE.next hK4 ?_
  clear hK4
  refine TC.seq (fun K5 hK5 => ?_)
  refine TC.region ?_
  refine TL.callR (A := []) (B := []) (Want.plain rfl) rfl rfl rfl nm13 rfl (dk_new) (fun _ s => s) (fun _ _ _ => trivial) (fun vR HR hR => ?_)
  obtain ⟨d, rfl, rfl⟩ := hR
  change TL _ _ _ _ _ _ _ _ _ [dk d (DS.new)]
  refine TL.v (Want.plain rfl) rfl rfl (PV.assign rfl rfl) ?_
  refine TL.nil ?_
  refine TE.next hK5 ?_
  clear hK5
  refine TC.seq (fun K6 hK6 => ?_)
  refine TC.region ?_
  refine TL.v (Want.plain rfl) rfl rfl (PV.move rfl rfl) ?_
  refine TL.v (Want.plain rfl) rfl rfl (PV.move rfl rfl) ?_
  refine TL.callR (A := [dk d (DS.new)]) (B := []) (Want.plain rfl) rfl rfl rfl nm14 rfl (dk_arm d (DS.new) ((N : Nat) : Int)) (fun _ s => s) (fun _ _ _ => trivial) (fun vR HR hR => ?_)
  obtain ⟨_, rfl⟩ := hR
  rw [armD_new]
  change TL _ _ _ _ _ _ _ _ _ [dk d (armD N 0)]
  refine TL.nil ?_
  refine TE.next hK6 ?_
  clear hK6
  refine TC.seq (fun K7 hK7 => ?_)
  refine TC.seq (fun K8 hK8 => ?_)
  refine TC.region ?_
  refine TL.v (Want.plain rfl) rfl rfl (PV.move rfl rfl) ?_
  refine TL.v (Want.plain rfl) rfl rfl (PV.move rfl rfl) ?_
  refine TL.nil ?_
  refine TE.next hK8 ?_
  clear hK8
  refine TC.block ?_
  refine TC.loop (α := (Nat)) (fun k => k ≤ N) (fun k => [(0, (.int .i64 (((N : Nat) : Int)))), (1, (.int .i64 (((M : Nat) : Int)))), (5, (.pointer (some ⟨d, 0, none⟩))), (18, (.int .i64 (((N : Nat) : Int)))), (19, (.int .i64 (((k : Nat) : Int))))]) (fun k => [dk d (armD N k)]) (fun k => N - k) 0
      (Nat.zero_le _) (Sub.cons rfl rfl (Sub.cons rfl rfl (Sub.cons rfl rfl (Sub.cons rfl rfl (Sub.cons rfl (by congr 1) (Sub.nil _))))))
      (fun _ s => s) (fun k hinv => ?_)
  obtain hk := hinv
  refine TC.seq (fun K9 hK9 => ?_)
  refine TC.region ?_
  refine TL.v (Want.plain rfl) rfl rfl (PV.lss rfl rfl rfl) ?_
  refine TL.dec (fun h20 => ?_) (fun h20 => ?_)
  · skip
    refine TL.nil ?_
    refine TE.next hK9 ?_
    clear hK9
    refine TC.seq (fun K10 hK10 => ?_)
    refine TC.yes rfl ?_
    refine TC.skip ?_
    refine TE.next hK10 ?_
    clear hK10
    refine TC.seq (fun K11 hK11 => ?_)
    refine TC.block ?_
    refine TC.seq (fun K12 hK12 => ?_)
    refine TC.region ?_
    refine TL.v (Want.plain rfl) rfl rfl (PV.move rfl rfl) ?_
    refine TL.v (Want.plain rfl) rfl rfl (PV.assign rfl rfl) ?_
    refine TL.nil ?_
    refine TE.next hK12 ?_
    clear hK12
    refine TC.seq (fun K13 hK13 => ?_)
    refine TC.region ?_
    refine TL.v (Want.plain rfl) rfl rfl (PV.move rfl rfl) ?_
    refine TL.v (Want.plain rfl) rfl rfl (PV.move rfl rfl) ?_
    refine TL.buildSlice (cells := #[(.int .u8 1)]) (Want.plain rfl) rfl rfl rfl Try.underlying28 in5 rfl rfl rfl (by as_aux_lemma => kernel_rfl) (fun b24 => ?_)
    change TL _ _ _ _ _ _ _ _ _ [blkA b24 [(.int .u8 1)] 5, dk d (armD N k)]
    refine TL.callR (A := [dk d (armD N k)]) (B := [blkA b24 [(.int .u8 1)] 5]) (Want.plain rfl) rfl rfl rfl nm15 rfl (dk_write d (armD N k) ((k : Nat) : Int) (.slice (some ⟨b24, 0, none⟩) (1) (1)) ([1]) (armD_ok (by omega)) (by simp only [armD, downD, aws_len]; omega)) (fun _ s => sep_selR [1] rfl s) (fun g d s => IsB.w (isB_blk (bs := [1]) 0 (by simp) rfl rfl g d s)) (fun vR HR hR => ?_)
    obtain ⟨hv, rfl⟩ := hR
    subst hv
    rw [armD_write (by omega) (by omega)]
    change TL _ _ _ _ _ _ _ _ _ [dk d (armD N (k + 1)), blkA b24 [(.int .u8 1)] 5]
    refine TL.v (Want.plain rfl) rfl rfl (PV.neq rfl rfl rfl) ?_
    refine TL.v (Want.plain rfl) rfl rfl (PV.move rfl rfl) ?_
    refine TL.v (Want.met rfl rfl rfl) rfl rfl (PV.move rfl rfl) ?_
    refine TL.callR (A := [dk d (armD N (k + 1))]) (B := [blkA b24 [(.int .u8 1)] 5]) (Want.met rfl rfl rfl) rfl rfl rfl nm16 rfl (dk_down d (armD N (k + 1)) ) (fun _ s => s) (fun _ _ _ => trivial) (fun vR HR hR => ?_)
    obtain ⟨hv, rfl⟩ := hR
    subst hv
    change TL _ _ _ _ _ _ _ _ _ [dk d (armD N (k + 1)), blkA b24 [(.int .u8 1)] 5]
    refine TL.v (Want.plain rfl) rfl rfl (PV.pick rfl rfl rfl) ?_
    refine TL.nil ?_
    refine TE.next hK13 ?_
    clear hK13
    refine TC.no rfl ?_
    refine TC.skip ?_
    refine TE.blockEnd ?_
    refine TE.next hK11 ?_
    clear hK11
    refine TC.region ?_
    refine TL.v (Want.plain rfl) rfl rfl (PV.add rfl rfl rfl (wrap_i64 (by omega) (by omega))) ?_
    refine TL.v (Want.plain rfl) rfl rfl (PV.move rfl rfl) ?_
    refine TL.nil ?_
    exact TE.round ((k + 1) : (Nat)) (by omega) (by show N - (k + 1) < N - k; omega)
      (Sub.cons rfl rfl (Sub.cons rfl rfl (Sub.cons rfl rfl (Sub.cons rfl rfl (Sub.cons rfl (by simp) (Sub.nil _))))))
      (fun _ s => sep_keep [0] rfl s)
  · skip
    refine TL.nil ?_
    refine TE.next hK9 ?_
    clear hK9
    refine TC.seq (fun K14 hK14 => ?_)
    refine TC.no rfl ?_
    refine TC.exit ?_
    refine TE.pass ?_
    clear hK14
    refine TE.pass ?_
    refine TE.hit ?_
    refine TE.next hK7 ?_
    clear hK7
    refine TC.seq (fun K15 hK15 => ?_)
    refine TC.seq (fun K16 hK16 => ?_)
    refine TC.region ?_
    refine TL.v (Want.plain rfl) rfl rfl (PV.move rfl rfl) ?_
    refine TL.callR (A := [dk d (armD N k)]) (B := []) (Want.plain rfl) rfl rfl rfl nm16 rfl (dk_down d (armD N k) ) (fun _ s => s) (fun _ _ _ => trivial) (fun vR HR hR => ?_)
    obtain ⟨hv, rfl⟩ := hR
    subst hv
    change TL _ _ _ _ _ _ _ _ _ [dk d (armD N k)]
    refine TL.nil ?_
    refine TE.next hK16 ?_
    clear hK16
    refine TC.no rfl ?_
    refine TC.skip ?_
    refine TE.next hK15 ?_
    clear hK15
    refine TC.seq (fun K17 hK17 => ?_)
    refine TC.seq (fun K18 hK18 => ?_)
    refine TC.region ?_
    refine TL.v (Want.plain rfl) rfl rfl (PV.move rfl rfl) ?_
    refine TL.v (Want.plain rfl) rfl rfl (PV.move rfl rfl) ?_
    refine TL.nil ?_
    refine TE.next hK18 ?_
    clear hK18
    refine TC.block ?_
    refine TC.loop (α := (Nat) × (Bool)) (fun ⟨j, b⟩ => j ≤ M) (fun ⟨j, b⟩ => [(0, (.int .i64 (((N : Nat) : Int)))), (5, (.pointer (some ⟨d, 0, none⟩))), (34, (.int .i64 (((M : Nat) : Int)))), (35, (.int .i64 (((j : Nat) : Int))))]) (fun ⟨j, b⟩ => [dk d (downD N b)]) (fun ⟨j, b⟩ => M - j) (0, false)
        (Nat.zero_le _) (Sub.cons rfl rfl (Sub.cons rfl rfl (Sub.cons rfl rfl (Sub.cons rfl (by congr 1) (Sub.nil _)))))
        (fun _ s => by
      obtain rfl : k = N := by omega
      rw [armD_end] at s
      exact s) (fun ⟨j, b⟩ hinv => ?_)
    obtain hj := hinv
    refine TC.seq (fun K19 hK19 => ?_)
    refine TC.region ?_
    refine TL.v (Want.plain rfl) rfl rfl (PV.lss rfl rfl rfl) ?_
    refine TL.dec (fun h36 => ?_) (fun h36 => ?_)
    · skip
      refine TL.nil ?_
      refine TE.next hK19 ?_
      clear hK19
      refine TC.seq (fun K20 hK20 => ?_)
      refine TC.yes rfl ?_
      refine TC.skip ?_
      refine TE.next hK20 ?_
      clear hK20
      refine TC.seq (fun K21 hK21 => ?_)
      refine TC.block ?_
      refine TC.seq (fun K22 hK22 => ?_)
      refine TC.region ?_
      refine TL.v (Want.plain rfl) rfl rfl (PV.move rfl rfl) ?_
      refine TL.callR (A := [dk d (downD N b)]) (B := []) (Want.plain rfl) rfl rfl rfl nm15 rfl (dk_write d (downD N b) 0 (.slice none 0 0) ([]) downD_ok (by simp only [armD, downD, aws_len]; omega)) (fun _ s => s) (fun _ _ _ => .inl (.inl ⟨rfl, rfl⟩)) (fun vR HR hR => ?_)
      obtain ⟨hv, rfl⟩ := hR
      subst hv
      rw [downD_write]
      change TL _ _ _ _ _ _ _ _ _ [dk d (downD N true)]
      refine TL.v (Want.plain rfl) rfl rfl (PV.neq rfl rfl rfl) ?_
      refine TL.v (Want.plain rfl) rfl rfl (PV.move rfl rfl) ?_
      refine TL.v (Want.met rfl rfl rfl) rfl rfl (PV.move rfl rfl) ?_
      refine TL.callR (A := [dk d (downD N true)]) (B := []) (Want.met rfl rfl rfl) rfl rfl rfl nm16 rfl (dk_down d (downD N true) ) (fun _ s => s) (fun _ _ _ => trivial) (fun vR HR hR => ?_)
      obtain ⟨hv, rfl⟩ := hR
      subst hv
      change TL _ _ _ _ _ _ _ _ _ [dk d (downD N true)]
      refine TL.v (Want.met rfl rfl rfl) rfl rfl (PV.not (r := false) rfl rfl rfl) ?_
      refine TL.v (Want.plain rfl) rfl rfl (PV.pick rfl rfl rfl) ?_
      refine TL.v (Want.plain rfl) rfl rfl (PV.move rfl rfl) ?_
      refine TL.v (Want.met rfl rfl rfl) rfl rfl (PV.move rfl rfl) ?_
      refine TL.callR (A := [dk d (downD N true)]) (B := []) (Want.met rfl rfl rfl) rfl rfl rfl nm17 rfl (dk_sync d (downD N true)  downD_ok) (fun _ s => s) (fun _ _ _ => trivial) (fun vR HR hR => ?_)
      obtain ⟨hv, rfl⟩ := hR
      subst hv
      rw [downD_sync]
      change TL _ _ _ _ _ _ _ _ _ [dk d (downD N true)]
      refine TL.v (Want.met rfl rfl rfl) rfl rfl (PV.neq rfl rfl rfl) ?_
      refine TL.v (Want.plain rfl) rfl rfl (PV.pick rfl rfl rfl) ?_
      refine TL.nil ?_
      refine TE.next hK22 ?_
      clear hK22
      refine TC.no rfl ?_
      refine TC.skip ?_
      refine TE.blockEnd ?_
      refine TE.next hK21 ?_
      clear hK21
      refine TC.region ?_
      refine TL.v (Want.plain rfl) rfl rfl (PV.add rfl rfl rfl (wrap_i64 (by omega) (by omega))) ?_
      refine TL.v (Want.plain rfl) rfl rfl (PV.move rfl rfl) ?_
      refine TL.nil ?_
      exact TE.round ((j + 1, true) : (Nat) × (Bool)) (by omega) (by show M - (j + 1) < M - j; omega)
        (Sub.cons rfl rfl (Sub.cons rfl rfl (Sub.cons rfl rfl (Sub.cons rfl (by simp) (Sub.nil _)))))
        (fun _ s => s)
    · skip
      refine TL.nil ?_
      refine TE.next hK19 ?_
      clear hK19
      refine TC.seq (fun K23 hK23 => ?_)
      refine TC.no rfl ?_
      refine TC.exit ?_
      refine TE.pass ?_
      clear hK23
      refine TE.pass ?_
      refine TE.hit ?_
      refine TE.next hK17 ?_
      clear hK17
      refine TC.seq (fun K24 hK24 => ?_)
      refine TC.region ?_
      refine TL.v (Want.plain rfl) rfl rfl (PV.move rfl rfl) ?_
      refine TL.callR (A := [dk d (downD N b)]) (B := []) (Want.plain rfl) rfl rfl rfl nm18 rfl (dk_waits d (downD N b) ) (fun _ s => s) (fun _ _ _ => trivial) (fun vR HR hR => ?_)
      obtain ⟨hv, rfl⟩ := hR
      subst hv
      change TL _ _ _ _ _ _ _ _ _ [dk d (downD N b)]
      refine TL.v (Want.plain rfl) rfl rfl (PV.move rfl rfl) ?_
      refine TL.v (Want.plain rfl) rfl rfl (PV.eql rfl rfl rfl) ?_
      refine TL.v (Want.plain rfl) rfl rfl (PV.assign rfl rfl) ?_
      refine TL.nil ?_
      refine TE.next hK24 ?_
      clear hK24
      refine TC.ret ?_
      refine TE.weak (Sub.refl _) (fun _ s => sep_keep [] rfl s) ?_
      refine TE.ret1 rfl rfl ?_
      exact ⟨by simp only [downD, aws_len, decide_true], rfl⟩


theorem diskSures_does (vd vm : Value) (data more : List (List UInt8)) (c0 c1 c2 : Int) :
    Does Try.prog 5 #[vd, vm, (.agg #[(.int .i64 (c0)), (.int .i64 (c1)), (.int .i64 (c2))])] (fun F => IsBB vd data F ∧ IsBB vm more F) [] (Ret (fun v H => v = .bool true ∧ H = [])) := by
  refine Does.body (vs := [vd, vm, (.agg #[(.int .i64 (c0)), (.int .i64 (c1)), (.int .i64 (c2))])]) (n := 141) Try.func5 rfl rfl rfl (fun w0 F hF => ?_)
  refine TC.seq (fun K1 hK1 => ?_)
  refine TC.region ?_
  refine TL.box (Want.plain rfl) rfl rfl rfl rfl (fun b5 => ?_)
  change TL _ _ _ _ _ _ _ _ _ [blkA b5 [(.int .i64 (c0)), (.int .i64 (c1)), (.int .i64 (c2))] 45]
  refine TL.v (Want.plain rfl) rfl rfl (PV.assign rfl rfl) ?_
  refine TL.nil ?_
  refine TE.next hK1 ?_
  clear hK1
  refine TC.seq (fun K2 hK2 => ?_)
  refine TC.seq (fun K3 hK3 => ?_)
  refine TC.region ?_
  refine TL.callR (A := []) (B := [blkA b5 [(.int .i64 (c0)), (.int .i64 (c1)), (.int .i64 (c2))] 45]) (Want.plain rfl) rfl rfl rfl nm12 rfl (fit6_does ) (fun _ s => s) (fun _ _ _ => trivial) (fun vR HR hR => ?_)
  obtain ⟨rfl, rfl⟩ := hR
  change TL _ _ _ _ _ _ _ _ _ [blkA b5 [(.int .i64 (c0)), (.int .i64 (c1)), (.int .i64 (c2))] 45]
  refine TL.v (Want.plain rfl) rfl rfl (PV.not (r := false) rfl rfl rfl) ?_
  refine TL.nil ?_
  refine TE.next hK3 ?_
  clear hK3
  refine TC.no rfl ?_
  refine TC.skip ?_
  refine TE.next hK2 ?_
  clear hK2
  refine TC.seq (fun K4 hK4 => ?_)
  refine TC.seq (fun K5 hK5 => ?_)
  refine TC.region ?_
  refine TL.v (Want.plain rfl) rfl rfl (PV.move rfl rfl) ?_
  refine TL.v (Want.plain rfl) rfl rfl (PV.lenV rfl Try.underlying44 rfl hF.1.len) ?_
  refine TL.v (Want.plain rfl) rfl rfl (PV.gtr rfl rfl rfl) ?_
  refine TL.dec (fun h21 => ?_) (fun h21 => ?_)
  · skip
    refine TL.v (Want.plain rfl) rfl rfl (PV.move rfl rfl) ?_
    refine TL.unmet (b := true) rfl rfl rfl rfl (lb rfl) ?_
    refine TL.unmet (b := true) rfl rfl rfl rfl (lb rfl) ?_
    refine TL.unmet (b := true) rfl rfl rfl rfl (lb rfl) ?_
    refine TL.v (Want.plain rfl) rfl rfl (PV.pick rfl rfl rfl) ?_
    refine TL.nil ?_
    refine TE.next hK5 ?_
    clear hK5
    refine TC.yes rfl ?_
    refine TC.seq (fun K6 hK6 => ?_)
    refine TC.region ?_
    refine TL.v (Want.plain rfl) rfl rfl (PV.assign rfl rfl) ?_
    refine TL.nil ?_
    refine TE.next hK6 ?_
    clear hK6
    refine TC.ret ?_
    refine TE.passRet ?_
    clear hK4
    refine TE.weak (Sub.refl _) (fun _ s => sep_keep [] rfl s) ?_
    refine TE.ret1 rfl rfl ?_
    exact ⟨rfl, rfl⟩
  · skip
    refine TL.v (Want.plain rfl) rfl rfl (PV.move rfl rfl) ?_
    refine TL.v (Want.met rfl rfl rfl) rfl rfl (PV.move rfl rfl) ?_
    refine TL.v (Want.met rfl rfl rfl) rfl rfl (PV.lenV rfl Try.underlying44 rfl hF.2.len) ?_
    refine TL.v (Want.met rfl rfl rfl) rfl rfl (PV.gtr rfl rfl rfl) ?_
    refine TL.dec (fun h25 => ?_) (fun h25 => ?_)
    · skip
      refine TL.v (Want.plain rfl) rfl rfl (PV.pick rfl rfl rfl) ?_
      refine TL.nil ?_
      refine TE.next hK5 ?_
      clear hK5
      refine TC.yes rfl ?_
      refine TC.seq (fun K7 hK7 => ?_)
      refine TC.region ?_
      refine TL.v (Want.plain rfl) rfl rfl (PV.assign rfl rfl) ?_
      refine TL.nil ?_
      refine TE.next hK7 ?_
      clear hK7
      refine TC.ret ?_
      refine TE.passRet ?_
      clear hK4
      refine TE.weak (Sub.refl _) (fun _ s => sep_keep [] rfl s) ?_
      refine TE.ret1 rfl rfl ?_
      exact ⟨rfl, rfl⟩
    · skip
      refine TL.v (Want.plain rfl) rfl rfl (PV.pick rfl rfl rfl) ?_
      refine TL.nil ?_
      refine TE.next hK5 ?_
      clear hK5
      refine TC.no rfl ?_
      refine TC.skip ?_
      refine TE.next hK4 ?_
      clear hK4
      refine TC.seq (fun K8 hK8 => ?_)
      refine TC.region ?_
      refine TL.callR (A := []) (B := [blkA b5 [(.int .i64 (c0)), (.int .i64 (c1)), (.int .i64 (c2))] 45]) (Want.plain rfl) rfl rfl rfl nm13 rfl (dk_new) (fun _ s => s) (fun _ _ _ => trivial) (fun vR HR hR => ?_)
      obtain ⟨d, rfl, rfl⟩ := hR
      change TL _ _ _ _ _ _ _ _ _ [dk d (DS.new), blkA b5 [(.int .i64 (c0)), (.int .i64 (c1)), (.int .i64 (c2))] 45]
      refine TL.v (Want.plain rfl) rfl rfl (PV.assign rfl rfl) ?_
      refine TL.nil ?_
      refine TE.next hK8 ?_
      clear hK8
      refine TC.seq (fun K9 hK9 => ?_)
      refine TC.seq (fun K10 hK10 => ?_)
      refine TC.region ?_
      refine TL.v (Want.plain rfl) rfl rfl (PV.move rfl rfl) ?_
      refine TL.v (Want.plain rfl) rfl rfl (PV.lenV rfl Try.underlying44 rfl hF.1.len) ?_
      refine TL.v (Want.plain rfl) rfl rfl (PV.move rfl rfl) ?_
      refine TL.nil ?_
      refine TE.next hK10 ?_
      clear hK10
      refine TC.block ?_
      refine TC.loop (α := (Nat)) (fun k => k ≤ data.length ∧ ∀ i (hi : i < data.length), i < k → data[i].length ≤ 64) (fun k => [(0, vd), (1, vm), (5, (.pointer (some ⟨b5, 0, none⟩))), (7, (.pointer (some ⟨d, 0, none⟩))), (28, vd), (29, (.int .i64 (((data.length : Nat) : Int)))), (30, (.int .i64 (((k : Nat) : Int))))]) (fun k => [dk d (sA data k), blkA b5 [(.int .i64 (c0)), (.int .i64 (c1)), (.int .i64 (c2))] 45]) (fun k => data.length - k) 0
          ⟨Nat.zero_le _, fun i hi h => absurd h (by omega)⟩ (Sub.cons rfl rfl (Sub.cons rfl rfl (Sub.cons rfl rfl (Sub.cons rfl rfl (Sub.cons rfl rfl (Sub.cons rfl rfl (Sub.cons rfl (by congr 1) (Sub.nil _))))))))
          (fun _ s => s) (fun k hinv => ?_)
      obtain ⟨hk, hk2⟩ := hinv
      refine TC.seq (fun K11 hK11 => ?_)
      refine TC.region ?_
      refine TL.v (Want.plain rfl) rfl rfl (PV.lss rfl rfl rfl) ?_
      refine TL.dec (fun h31 => ?_) (fun h31 => ?_)
      · skip
        obtain ⟨b_a, off_a, cap_a, cs_a, T_a, z_a, us_a, hv_a, hc_a, hb_a, hl_a, hs_a, hE_a⟩ := IsL.at hF.1 (j := k) (by omega)
        obtain ⟨u_a, rfl, hu_a⟩ := hE_a
        refine TL.nil ?_
        refine TE.next hK11 ?_
        clear hK11
        refine TC.seq (fun K12 hK12 => ?_)
        refine TC.yes rfl ?_
        refine TC.skip ?_
        refine TE.next hK12 ?_
        clear hK12
        refine TC.seq (fun K13 hK13 => ?_)
        refine TC.block ?_
        refine TC.seq (fun K14 hK14 => ?_)
        refine TC.region ?_
        refine TL.v (Want.plain rfl) rfl rfl (PV.move rfl rfl) ?_
        refine TL.v (Want.plain rfl) rfl rfl (PV.indexSlV (r := off_a + k) hv_a rfl Try.underlying44 sz28 rfl rfl (by omega) (by omega) (by omega)) ?_
        refine TL.v (Want.plain rfl) rfl rfl (PV.load1X (v := u_a) rfl Try.underlying28 rfl rfl (RdX.frm hb_a (fun _ h => Frm.of h)) (by have := stretch_get (j := 0) hs_a rfl; simpa using this)) ?_
        refine TL.v (Want.plain rfl) rfl rfl (PV.assign rfl rfl) ?_
        refine TL.v (Want.plain rfl) rfl rfl (PV.assign rfl rfl) ?_
        refine TL.nil ?_
        refine TE.next hK14 ?_
        clear hK14
        refine TC.seq (fun K15 hK15 => ?_)
        refine TC.region ?_
        refine TL.v (Want.plain rfl) rfl rfl (PV.move rfl rfl) ?_
        refine TL.v (Want.plain rfl) rfl rfl (PV.lenV rfl Try.underlying28 rfl hu_a.len) ?_
        refine TL.v (Want.plain rfl) rfl rfl (PV.gtr rfl rfl rfl) ?_
        refine TL.dec (fun h37 => ?_) (fun h37 => ?_)
        · skip
          refine TL.v (Want.plain rfl) rfl rfl (PV.move rfl rfl) ?_
          refine TL.unmet (b := true) rfl rfl rfl rfl (lb rfl) ?_
          refine TL.unmet (b := true) rfl rfl rfl rfl (lb rfl) ?_
          refine TL.unmet (b := true) rfl rfl rfl rfl (lb rfl) ?_
          refine TL.unmet (b := true) rfl rfl rfl rfl (lb rfl) ?_
          refine TL.unmet (b := true) rfl rfl rfl rfl (lb rfl) ?_
          refine TL.v (Want.plain rfl) rfl rfl (PV.pick rfl rfl rfl) ?_
          refine TL.nil ?_
          refine TE.next hK15 ?_
          clear hK15
          refine TC.yes rfl ?_
          refine TC.seq (fun K16 hK16 => ?_)
          refine TC.region ?_
          refine TL.v (Want.plain rfl) rfl rfl (PV.assign rfl rfl) ?_
          refine TL.nil ?_
          refine TE.next hK16 ?_
          clear hK16
          refine TC.ret ?_
          refine TE.blockRet ?_
          refine TE.passRet ?_
          clear hK13
          refine TE.passRet ?_
          refine TE.blockRet ?_
          refine TE.passRet ?_
          clear hK9
          refine TE.weak (Sub.refl _) (fun _ s => sep_keep [] rfl s) ?_
          refine TE.ret1 rfl rfl ?_
          exact ⟨rfl, rfl⟩
        · skip
          refine TL.v (Want.plain rfl) rfl rfl (PV.move rfl rfl) ?_
          refine TL.v (Want.met rfl rfl rfl) rfl rfl (PV.move rfl rfl) ?_
          refine TL.v (Want.met rfl rfl rfl) rfl rfl (PV.move rfl rfl) ?_
          refine TL.v (Want.met rfl rfl rfl) rfl rfl (PV.move rfl rfl) ?_
          refine TL.callR (A := [dk d (sA data k)]) (B := [blkA b5 [(.int .i64 (c0)), (.int .i64 (c1)), (.int .i64 (c2))] 45]) (Want.met rfl rfl rfl) rfl rfl rfl nm15 rfl (dk_write d (sA data k) ((k : Nat) : Int) u_a (data[k]) (sA_ok (fun i hi h => hk2 i hi (by omega))) (by simp only [sA, sB, sC, sD, DS.arm, wl_len, List.length_take, List.length_nil]; omega)) (fun _ s => s) (fun g d _ => IsW.more hu_a d) (fun vR HR hR => ?_)
          obtain ⟨hv, rfl⟩ := hR
          subst hv
          rw [sA_write (by omega) (by omega) (by omega)]
          change TL _ _ _ _ _ _ _ _ _ [dk d (sA data (k + 1)), blkA b5 [(.int .i64 (c0)), (.int .i64 (c1)), (.int .i64 (c2))] 45]
          refine TL.v (Want.met rfl rfl rfl) rfl rfl (PV.neq rfl rfl rfl) ?_
          refine TL.v (Want.plain rfl) rfl rfl (PV.pick rfl rfl rfl) ?_
          refine TL.nil ?_
          refine TE.next hK15 ?_
          clear hK15
          refine TC.no rfl ?_
          refine TC.skip ?_
          refine TE.blockEnd ?_
          refine TE.next hK13 ?_
          clear hK13
          refine TC.region ?_
          refine TL.v (Want.plain rfl) rfl rfl (PV.add rfl rfl rfl (wrap_i64 (by omega) (by omega))) ?_
          refine TL.v (Want.plain rfl) rfl rfl (PV.move rfl rfl) ?_
          refine TL.nil ?_
          exact TE.round ((k + 1) : (Nat)) ⟨by omega, fun i hi h => by
      by_cases e : i = k
      · subst e; omega
      · exact hk2 i hi (by omega)⟩ (by show data.length - (k + 1) < data.length - k; omega)
            (Sub.cons rfl rfl (Sub.cons rfl rfl (Sub.cons rfl rfl (Sub.cons rfl rfl (Sub.cons rfl rfl (Sub.cons rfl rfl (Sub.cons rfl (by simp) (Sub.nil _))))))))
            (fun _ s => s)
      · skip
        have hke : k = data.length := by omega
        have hd : ∀ b ∈ data, b.length ≤ 64 := fun b hb => by obtain ⟨i, hi, rfl⟩ := List.getElem_of_mem hb; exact hk2 i hi (by omega)
        refine TL.nil ?_
        refine TE.next hK11 ?_
        clear hK11
        refine TC.seq (fun K17 hK17 => ?_)
        refine TC.no rfl ?_
        refine TC.exit ?_
        refine TE.pass ?_
        clear hK17
        refine TE.pass ?_
        refine TE.hit ?_
        refine TE.next hK9 ?_
        clear hK9
        refine TC.seq (fun K18 hK18 => ?_)
        refine TC.region ?_
        refine TL.v (Want.plain rfl) rfl rfl (PV.move rfl rfl) ?_
        refine TL.callR (A := [dk d (sA data k)]) (B := [blkA b5 [(.int .i64 (c0)), (.int .i64 (c1)), (.int .i64 (c2))] 45]) (Want.plain rfl) rfl rfl rfl nm17 rfl (dk_sync d (sA data k)  (sA_ok (fun i hi h => hk2 i hi (by omega)))) (fun _ s => s) (fun _ _ _ => trivial) (fun vR HR hR => ?_)
        obtain ⟨hv, rfl⟩ := hR
        subst hv
        rw [hke, sA_sync (more := more)]
        change TL _ _ _ _ _ _ _ _ _ [dk d (sB data more 0), blkA b5 [(.int .i64 (c0)), (.int .i64 (c1)), (.int .i64 (c2))] 45]
        refine TL.nil ?_
        refine TE.next hK18 ?_
        clear hK18
        refine TC.seq (fun K19 hK19 => ?_)
        refine TC.seq (fun K20 hK20 => ?_)
        refine TC.region ?_
        refine TL.v (Want.plain rfl) rfl rfl (PV.move rfl rfl) ?_
        refine TL.v (Want.plain rfl) rfl rfl (PV.lenV rfl Try.underlying44 rfl hF.2.len) ?_
        refine TL.v (Want.plain rfl) rfl rfl (PV.move rfl rfl) ?_
        refine TL.nil ?_
        refine TE.next hK20 ?_
        clear hK20
        refine TC.block ?_
        refine TC.loop (α := (Nat)) (fun j => j ≤ more.length ∧ ∀ i (hi : i < more.length), i < j → more[i].length ≤ 64) (fun j => [(0, vd), (1, vm), (5, (.pointer (some ⟨b5, 0, none⟩))), (7, (.pointer (some ⟨d, 0, none⟩))), (48, vm), (49, (.int .i64 (((more.length : Nat) : Int)))), (50, (.int .i64 (((j : Nat) : Int))))]) (fun j => [dk d (sB data more j), blkA b5 [(.int .i64 (c0)), (.int .i64 (c1)), (.int .i64 (c2))] 45]) (fun j => more.length - j) 0
            ⟨Nat.zero_le _, fun i hi h => absurd h (by omega)⟩ (Sub.cons rfl rfl (Sub.cons rfl rfl (Sub.cons rfl rfl (Sub.cons rfl rfl (Sub.cons rfl rfl (Sub.cons rfl rfl (Sub.cons rfl (by congr 1) (Sub.nil _))))))))
            (fun _ s => s) (fun j hinv => ?_)
        obtain ⟨hj, hm2⟩ := hinv
        refine TC.seq (fun K21 hK21 => ?_)
        refine TC.region ?_
        refine TL.v (Want.plain rfl) rfl rfl (PV.lss rfl rfl rfl) ?_
        refine TL.dec (fun h51 => ?_) (fun h51 => ?_)
        · skip
          obtain ⟨b_b, off_b, cap_b, cs_b, T_b, z_b, us_b, hv_b, hc_b, hb_b, hl_b, hs_b, hE_b⟩ := IsL.at hF.2 (j := j) (by omega)
          obtain ⟨u_b, rfl, hu_b⟩ := hE_b
          refine TL.nil ?_
          refine TE.next hK21 ?_
          clear hK21
          refine TC.seq (fun K22 hK22 => ?_)
          refine TC.yes rfl ?_
          refine TC.skip ?_
          refine TE.next hK22 ?_
          clear hK22
          refine TC.seq (fun K23 hK23 => ?_)
          refine TC.block ?_
          refine TC.seq (fun K24 hK24 => ?_)
          refine TC.region ?_
          refine TL.v (Want.plain rfl) rfl rfl (PV.move rfl rfl) ?_
          refine TL.v (Want.plain rfl) rfl rfl (PV.indexSlV (r := off_b + j) hv_b rfl Try.underlying44 sz28 rfl rfl (by omega) (by omega) (by omega)) ?_
          refine TL.v (Want.plain rfl) rfl rfl (PV.load1X (v := u_b) rfl Try.underlying28 rfl rfl (RdX.frm hb_b (fun _ h => Frm.of h)) (by have := stretch_get (j := 0) hs_b rfl; simpa using this)) ?_
          refine TL.v (Want.plain rfl) rfl rfl (PV.assign rfl rfl) ?_
          refine TL.v (Want.plain rfl) rfl rfl (PV.assign rfl rfl) ?_
          refine TL.nil ?_
          refine TE.next hK24 ?_
          clear hK24
          refine TC.seq (fun K25 hK25 => ?_)
          refine TC.seq (fun K26 hK26 => ?_)
          refine TC.region ?_
          refine TL.v (Want.plain rfl) rfl rfl (PV.move rfl rfl) ?_
          refine TL.v (Want.plain rfl) rfl rfl (PV.lenV rfl Try.underlying28 rfl hu_b.len) ?_
          refine TL.v (Want.plain rfl) rfl rfl (PV.gtr rfl rfl rfl) ?_
          refine TL.dec (fun h57 => ?_) (fun h57 => ?_)
          · skip
            refine TL.nil ?_
            refine TE.next hK26 ?_
            clear hK26
            refine TC.yes rfl ?_
            refine TC.seq (fun K27 hK27 => ?_)
            refine TC.region ?_
            refine TL.v (Want.plain rfl) rfl rfl (PV.assign rfl rfl) ?_
            refine TL.nil ?_
            refine TE.next hK27 ?_
            clear hK27
            refine TC.ret ?_
            refine TE.passRet ?_
            clear hK25
            refine TE.blockRet ?_
            refine TE.passRet ?_
            clear hK23
            refine TE.passRet ?_
            refine TE.blockRet ?_
            refine TE.passRet ?_
            clear hK19
            refine TE.weak (Sub.refl _) (fun _ s => sep_keep [] rfl s) ?_
            refine TE.ret1 rfl rfl ?_
            exact ⟨rfl, rfl⟩
          · skip
            refine TL.nil ?_
            refine TE.next hK26 ?_
            clear hK26
            refine TC.no rfl ?_
            refine TC.skip ?_
            refine TE.next hK25 ?_
            clear hK25
            refine TC.region ?_
            refine TL.v (Want.plain rfl) rfl rfl (PV.move rfl rfl) ?_
            refine TL.v (Want.plain rfl) rfl rfl (PV.move rfl rfl) ?_
            refine TL.v (Want.plain rfl) rfl rfl (PV.add rfl rfl rfl (wrap_i64 (by omega) (by omega))) ?_
            refine TL.v (Want.plain rfl) rfl rfl (PV.move rfl rfl) ?_
            refine TL.callR (A := [dk d (sB data more j)]) (B := [blkA b5 [(.int .i64 (c0)), (.int .i64 (c1)), (.int .i64 (c2))] 45]) (Want.plain rfl) rfl rfl rfl nm15 rfl (dk_write d (sB data more j) (100 + ((j : Nat) : Int)) u_b (more[j]) (sB_ok hd (fun i hi h => hm2 i hi (by omega))) (by simp only [sA, sB, sC, sD, DS.arm, wl_len, List.length_take, List.length_nil]; omega)) (fun _ s => s) (fun g d _ => IsW.more hu_b d) (fun vR HR hR => ?_)
            obtain ⟨hv, rfl⟩ := hR
            subst hv
            rw [sB_write (by omega) (by omega) (by omega)]
            change TL _ _ _ _ _ _ _ _ _ [dk d (sB data more (j + 1)), blkA b5 [(.int .i64 (c0)), (.int .i64 (c1)), (.int .i64 (c2))] 45]
            refine TL.nil ?_
            refine TE.blockEnd ?_
            refine TE.next hK23 ?_
            clear hK23
            refine TC.region ?_
            refine TL.v (Want.plain rfl) rfl rfl (PV.add rfl rfl rfl (wrap_i64 (by omega) (by omega))) ?_
            refine TL.v (Want.plain rfl) rfl rfl (PV.move rfl rfl) ?_
            refine TL.nil ?_
            exact TE.round ((j + 1) : (Nat)) ⟨by omega, fun i hi h => by
      by_cases e : i = j
      · subst e; omega
      · exact hm2 i hi (by omega)⟩ (by show more.length - (j + 1) < more.length - j; omega)
              (Sub.cons rfl rfl (Sub.cons rfl rfl (Sub.cons rfl rfl (Sub.cons rfl rfl (Sub.cons rfl rfl (Sub.cons rfl rfl (Sub.cons rfl (by simp) (Sub.nil _))))))))
              (fun _ s => s)
        · skip
          have hje : j = more.length := by omega
          have hm : ∀ b ∈ more, b.length ≤ 64 := fun b hb => by obtain ⟨i, hi, rfl⟩ := List.getElem_of_mem hb; exact hm2 i hi (by omega)
          refine TL.nil ?_
          refine TE.next hK21 ?_
          clear hK21
          refine TC.seq (fun K28 hK28 => ?_)
          refine TC.no rfl ?_
          refine TC.exit ?_
          refine TE.pass ?_
          clear hK28
          refine TE.pass ?_
          refine TE.hit ?_
          refine TE.next hK19 ?_
          clear hK19
          refine TC.seq (fun K29 hK29 => ?_)
          refine TC.region ?_
          refine TL.v (Want.plain rfl) rfl rfl (PV.move rfl rfl) ?_
          refine TL.callR (A := [dk d (sB data more j)]) (B := [blkA b5 [(.int .i64 (c0)), (.int .i64 (c1)), (.int .i64 (c2))] 45]) (Want.plain rfl) rfl rfl rfl nm14 rfl (dk_arm d (sB data more j) 0) (fun _ s => s) (fun _ _ _ => trivial) (fun vR HR hR => ?_)
          obtain ⟨_, rfl⟩ := hR
          rw [hje]
          change TL _ _ _ _ _ _ _ _ _ [dk d ((sB data more more.length).arm 0), blkA b5 [(.int .i64 (c0)), (.int .i64 (c1)), (.int .i64 (c2))] 45]
          refine TL.nil ?_
          refine TE.next hK29 ?_
          clear hK29
          refine TC.seq (fun K30 hK30 => ?_)
          refine TC.region ?_
          refine TL.v (Want.plain rfl) rfl rfl (PV.move rfl rfl) ?_
          refine TL.callR (A := [dk d ((sB data more more.length).arm 0)]) (B := [blkA b5 [(.int .i64 (c0)), (.int .i64 (c1)), (.int .i64 (c2))] 45]) (Want.plain rfl) rfl rfl rfl nm15 rfl (dk_write d ((sB data more more.length).arm 0) 5 (.slice none 0 0) ([]) (sBarm_ok hd hm) (by simp only [sA, sB, sC, sD, DS.arm, wl_len, List.length_take, List.length_nil]; omega)) (fun _ s => s) (fun _ _ _ => .inl (.inl ⟨rfl, rfl⟩)) (fun vR HR hR => ?_)
          obtain ⟨hv, rfl⟩ := hR
          subst hv
          rw [sB_arm]
          change TL _ _ _ _ _ _ _ _ _ [dk d (sD data more), blkA b5 [(.int .i64 (c0)), (.int .i64 (c1)), (.int .i64 (c2))] 45]
          refine TL.nil ?_
          refine TE.next hK30 ?_
          clear hK30
          refine TC.seq (fun K31 hK31 => ?_)
          refine TC.seq (fun K32 hK32 => ?_)
          refine TC.region ?_
          refine TL.v (Want.plain rfl) rfl rfl (PV.move rfl rfl) ?_
          refine TL.v (Want.plain rfl) rfl rfl (PV.lenV rfl Try.underlying44 rfl hF.2.len) ?_
          refine TL.v (Want.plain rfl) rfl rfl (PV.gtr rfl rfl rfl) ?_
          refine TL.dec (fun h70 => ?_) (fun h70 => ?_)
          · skip
            refine TL.v (Want.plain rfl) rfl rfl (PV.move rfl rfl) ?_
            refine TL.v (Want.met rfl rfl rfl) rfl rfl (PV.move rfl rfl) ?_
            refine TL.callR (A := [dk d (sD data more)]) (B := [blkA b5 [(.int .i64 (c0)), (.int .i64 (c1)), (.int .i64 (c2))] 45]) (Want.met rfl rfl rfl) rfl rfl rfl nm17 rfl (dk_sync d (sD data more)  (sD_ok hd hm)) (fun _ s => s) (fun _ _ _ => trivial) (fun vR HR hR => ?_)
            obtain ⟨hv, rfl⟩ := hR
            subst hv
            rw [sD_sync]
            change TL _ _ _ _ _ _ _ _ _ [dk d (sD data more), blkA b5 [(.int .i64 (c0)), (.int .i64 (c1)), (.int .i64 (c2))] 45]
            refine TL.v (Want.met rfl rfl rfl) rfl rfl (PV.neq rfl rfl rfl) ?_
            refine TL.v (Want.plain rfl) rfl rfl (PV.pick rfl rfl rfl) ?_
            refine TL.nil ?_
            refine TE.next hK32 ?_
            clear hK32
            refine TC.no rfl ?_
            refine TC.skip ?_
            refine TE.next hK31 ?_
            clear hK31
            refine TC.seq (fun K33 hK33 => ?_)
            refine TC.region ?_
            refine TL.v (Want.plain rfl) rfl rfl (PV.move rfl rfl) ?_
            refine TL.v (Want.plain rfl) rfl rfl (PV.indexArr (r := 0) rfl Try.underlying45 sz3 rfl rfl (lz rfl) (lz rfl) rfl) ?_
            refine TL.v (Want.plain rfl) rfl rfl (PV.load1 (v := (.int .i64 (c0))) rfl Try.underlying3 rfl rfl (Rd.own 1 rfl rfl) rfl) ?_
            refine TL.v (Want.plain rfl) rfl rfl (PV.indexArr (r := 1) rfl Try.underlying45 sz3 rfl rfl (lz rfl) (lz rfl) rfl) ?_
            refine TL.v (Want.plain rfl) rfl rfl (PV.load1 (v := (.int .i64 (c1))) rfl Try.underlying3 rfl rfl (Rd.own 1 rfl rfl) rfl) ?_
            refine TL.v (Want.plain rfl) rfl rfl (PV.indexArr (r := 2) rfl Try.underlying45 sz3 rfl rfl (lz rfl) (lz rfl) rfl) ?_
            refine TL.v (Want.plain rfl) rfl rfl (PV.load1 (v := (.int .i64 (c2))) rfl Try.underlying3 rfl rfl (Rd.own 1 rfl rfl) rfl) ?_
            refine TL.callR (A := [dk d (sD data more)]) (B := [blkA b5 [(.int .i64 (c0)), (.int .i64 (c1)), (.int .i64 (c2))] 45]) (Want.plain rfl) rfl rfl rfl nm19 rfl (dk_crash d (sD data more) c0 c1 c2 (sD_ok hd hm)) (fun _ s => s) (fun _ _ _ => trivial) (fun vR HR hR => ?_)
            obtain ⟨_, rfl⟩ := hR
            rw [sD_crash]
            change TL _ _ _ _ _ _ _ _ _ [dk d (sC data more c0 c1 c2), blkA b5 [(.int .i64 (c0)), (.int .i64 (c1)), (.int .i64 (c2))] 45]
            refine TL.nil ?_
            refine TE.next hK33 ?_
            clear hK33
            refine TC.seq (fun K34 hK34 => ?_)
            refine TC.seq (fun K35 hK35 => ?_)
            refine TC.region ?_
            refine TL.v (Want.plain rfl) rfl rfl (PV.move rfl rfl) ?_
            refine TL.v (Want.plain rfl) rfl rfl (PV.lenV rfl Try.underlying44 rfl hF.1.len) ?_
            refine TL.v (Want.plain rfl) rfl rfl (PV.move rfl rfl) ?_
            refine TL.nil ?_
            refine TE.next hK35 ?_
            clear hK35
            refine TC.block ?_
            refine TC.loop (α := (Nat)) (fun i => i ≤ data.length) (fun i => [(1, vm), (5, (.pointer (some ⟨b5, 0, none⟩))), (7, (.pointer (some ⟨d, 0, none⟩))), (84, vd), (85, (.int .i64 (((data.length : Nat) : Int)))), (86, (.int .i64 (((i : Nat) : Int))))]) (fun i => [dk d (sC data more c0 c1 c2), blkA b5 [(.int .i64 (c0)), (.int .i64 (c1)), (.int .i64 (c2))] 45]) (fun i => data.length - i) 0
                (Nat.zero_le _) (Sub.cons rfl rfl (Sub.cons rfl rfl (Sub.cons rfl rfl (Sub.cons rfl rfl (Sub.cons rfl rfl (Sub.cons rfl (by congr 1) (Sub.nil _)))))))
                (fun _ s => s) (fun i hinv => ?_)
            obtain hi := hinv
            refine TC.seq (fun K36 hK36 => ?_)
            refine TC.region ?_
            refine TL.v (Want.plain rfl) rfl rfl (PV.lss rfl rfl rfl) ?_
            refine TL.dec (fun h87 => ?_) (fun h87 => ?_)
            · skip
              obtain ⟨b_c, off_c, cap_c, cs_c, T_c, z_c, us_c, hv_c, hc_c, hb_c, hl_c, hs_c, hE_c⟩ := IsL.at hF.1 (j := i) (by omega)
              obtain ⟨u_c, rfl, hu_c⟩ := hE_c
              refine TL.nil ?_
              refine TE.next hK36 ?_
              clear hK36
              refine TC.seq (fun K37 hK37 => ?_)
              refine TC.yes rfl ?_
              refine TC.skip ?_
              refine TE.next hK37 ?_
              clear hK37
              refine TC.seq (fun K38 hK38 => ?_)
              refine TC.block ?_
              refine TC.seq (fun K39 hK39 => ?_)
              refine TC.region ?_
              refine TL.v (Want.plain rfl) rfl rfl (PV.move rfl rfl) ?_
              refine TL.v (Want.plain rfl) rfl rfl (PV.indexSlV (r := off_c + i) hv_c rfl Try.underlying44 sz28 rfl rfl (by omega) (by omega) (by omega)) ?_
              refine TL.v (Want.plain rfl) rfl rfl (PV.load1X (v := u_c) rfl Try.underlying28 rfl rfl (RdX.frm hb_c (fun _ h => Frm.of h)) (by have := stretch_get (j := 0) hs_c rfl; simpa using this)) ?_
              refine TL.v (Want.plain rfl) rfl rfl (PV.assign rfl rfl) ?_
              refine TL.v (Want.plain rfl) rfl rfl (PV.assign rfl rfl) ?_
              refine TL.nil ?_
              refine TE.next hK39 ?_
              clear hK39
              refine TC.seq (fun K40 hK40 => ?_)
              refine TC.region ?_
              refine TL.v (Want.plain rfl) rfl rfl (PV.move rfl rfl) ?_
              refine TL.v (Want.plain rfl) rfl rfl (PV.move rfl rfl) ?_
              refine TL.callR (A := [dk d (sC data more c0 c1 c2)]) (B := [blkA b5 [(.int .i64 (c0)), (.int .i64 (c1)), (.int .i64 (c2))] 45]) (Want.plain rfl) rfl rfl rfl nm21 rfl (dk_read d (sC data more c0 c1 c2) ((i : Nat) : Int) (sC_ok hd hm) (by simp only [sA, sB, sC, sD, DS.arm, wl_len, List.length_take, List.length_nil]; omega)) (fun _ s => s) (fun _ _ _ => trivial) (fun vR HR hR => ?_)
              obtain ⟨hv, rfl⟩ := hR
              subst hv
              rw [sC_read, sC_sure (by omega) (by omega)]
              change TL _ _ _ _ _ _ _ _ _ [dk d (sC data more c0 c1 c2), blkA b5 [(.int .i64 (c0)), (.int .i64 (c1)), (.int .i64 (c2))] 45]
              refine TL.v (Want.plain rfl) rfl rfl (PV.move rfl rfl) ?_
              refine TL.callR (A := []) (B := [dk d (sC data more c0 c1 c2), blkA b5 [(.int .i64 (c0)), (.int .i64 (c1)), (.int .i64 (c2))] 45]) (Want.plain rfl) rfl rfl rfl nm20 rfl (pad_does u_c (data[i]) (by first | exact hk2 _ _ (by omega) | exact hm2 _ _ (by omega))) (fun _ s => s) (fun g d _ => IsW.more hu_c d) (fun vR HR hR => ?_)
              obtain ⟨rfl, rfl⟩ := hR
              change TL _ _ _ _ _ _ _ _ _ [dk d (sC data more c0 c1 c2), blkA b5 [(.int .i64 (c0)), (.int .i64 (c1)), (.int .i64 (c2))] 45]
              refine TL.v (Want.plain rfl) rfl rfl (PV.neqB (a := (padS data[i])) (b := (padS data[i])) (m := 2) sg37 sk37 rfl sf37 sa37 sc37 (padS_len (by first | exact hk2 _ _ (by omega) | exact hm2 _ _ (by omega))) (padS_len (by first | exact hk2 _ _ (by omega) | exact hm2 _ _ (by omega))) rfl rfl rfl) ?_
              refine TL.dec (fun h96 => ?_) (fun h96 => ?_)
              · exact absurd rfl h96
              · skip
                refine TL.v (Want.plain rfl) rfl rfl (PV.move rfl rfl) ?_
                refine TL.v (Want.met rfl rfl rfl) rfl rfl (PV.move rfl rfl) ?_
                refine TL.v (Want.met rfl rfl rfl) rfl rfl (PV.move rfl rfl) ?_
                refine TL.callR (A := [dk d (sC data more c0 c1 c2)]) (B := [blkA b5 [(.int .i64 (c0)), (.int .i64 (c1)), (.int .i64 (c2))] 45]) (Want.met rfl rfl rfl) rfl rfl rfl nm22 rfl (dk_sure d (sC data more c0 c1 c2) ((i : Nat) : Int) (sC_ok hd hm)) (fun _ s => s) (fun _ _ _ => trivial) (fun vR HR hR => ?_)
                obtain ⟨hv, rfl⟩ := hR
                subst hv
                rw [sC_sure (by omega) (by omega)]
                change TL _ _ _ _ _ _ _ _ _ [dk d (sC data more c0 c1 c2), blkA b5 [(.int .i64 (c0)), (.int .i64 (c1)), (.int .i64 (c2))] 45]
                refine TL.v (Want.met rfl rfl rfl) rfl rfl (PV.move rfl rfl) ?_
                refine TL.callR (A := []) (B := [dk d (sC data more c0 c1 c2), blkA b5 [(.int .i64 (c0)), (.int .i64 (c1)), (.int .i64 (c2))] 45]) (Want.met rfl rfl rfl) rfl rfl rfl nm20 rfl (pad_does u_c (data[i]) (by first | exact hk2 _ _ (by omega) | exact hm2 _ _ (by omega))) (fun _ s => s) (fun g d _ => IsW.more hu_c d) (fun vR HR hR => ?_)
                obtain ⟨rfl, rfl⟩ := hR
                change TL _ _ _ _ _ _ _ _ _ [dk d (sC data more c0 c1 c2), blkA b5 [(.int .i64 (c0)), (.int .i64 (c1)), (.int .i64 (c2))] 45]
                refine TL.v (Want.met rfl rfl rfl) rfl rfl (PV.neqB (a := (padS data[i])) (b := (padS data[i])) (m := 2) sg37 sk37 rfl sf37 sa37 sc37 (padS_len (by first | exact hk2 _ _ (by omega) | exact hm2 _ _ (by omega))) (padS_len (by first | exact hk2 _ _ (by omega) | exact hm2 _ _ (by omega))) rfl rfl rfl) ?_
                refine TL.dec (fun h103 => ?_) (fun h103 => ?_)
                · exact absurd rfl h103
                · skip
                  refine TL.v (Want.plain rfl) rfl rfl (PV.pick rfl rfl rfl) ?_
                  refine TL.nil ?_
                  refine TE.next hK40 ?_
                  clear hK40
                  refine TC.no rfl ?_
                  refine TC.skip ?_
                  refine TE.blockEnd ?_
                  refine TE.next hK38 ?_
                  clear hK38
                  refine TC.region ?_
                  refine TL.v (Want.plain rfl) rfl rfl (PV.add rfl rfl rfl (wrap_i64 (by omega) (by omega))) ?_
                  refine TL.v (Want.plain rfl) rfl rfl (PV.move rfl rfl) ?_
                  refine TL.nil ?_
                  exact TE.round ((i + 1) : (Nat)) (by omega) (by show data.length - (i + 1) < data.length - i; omega)
                    (Sub.cons rfl rfl (Sub.cons rfl rfl (Sub.cons rfl rfl (Sub.cons rfl rfl (Sub.cons rfl rfl (Sub.cons rfl (by simp) (Sub.nil _)))))))
                    (fun _ s => s)
            · skip
              refine TL.nil ?_
              refine TE.next hK36 ?_
              clear hK36
              refine TC.seq (fun K41 hK41 => ?_)
              refine TC.no rfl ?_
              refine TC.exit ?_
              refine TE.pass ?_
              clear hK41
              refine TE.pass ?_
              refine TE.hit ?_
              refine TE.next hK34 ?_
              clear hK34
              refine TC.seq (fun K42 hK42 => ?_)
              refine TC.seq (fun K43 hK43 => ?_)
              refine TC.region ?_
              refine TL.v (Want.plain rfl) rfl rfl (PV.move rfl rfl) ?_
              refine TL.v (Want.plain rfl) rfl rfl (PV.lenV rfl Try.underlying44 rfl hF.2.len) ?_
              refine TL.v (Want.plain rfl) rfl rfl (PV.move rfl rfl) ?_
              refine TL.nil ?_
              refine TE.next hK43 ?_
              clear hK43
              refine TC.block ?_
              refine TC.loop (α := (Nat)) (fun l => l ≤ more.length) (fun l => [(5, (.pointer (some ⟨b5, 0, none⟩))), (7, (.pointer (some ⟨d, 0, none⟩))), (106, vm), (107, (.int .i64 (((more.length : Nat) : Int)))), (108, (.int .i64 (((l : Nat) : Int))))]) (fun l => [dk d (sC data more c0 c1 c2), blkA b5 [(.int .i64 (c0)), (.int .i64 (c1)), (.int .i64 (c2))] 45]) (fun l => more.length - l) 0
                  (Nat.zero_le _) (Sub.cons rfl rfl (Sub.cons rfl rfl (Sub.cons rfl rfl (Sub.cons rfl rfl (Sub.cons rfl (by congr 1) (Sub.nil _))))))
                  (fun _ s => s) (fun l hinv => ?_)
              obtain hl := hinv
              refine TC.seq (fun K44 hK44 => ?_)
              refine TC.region ?_
              refine TL.v (Want.plain rfl) rfl rfl (PV.lss rfl rfl rfl) ?_
              refine TL.dec (fun h109 => ?_) (fun h109 => ?_)
              · skip
                obtain ⟨b_e, off_e, cap_e, cs_e, T_e, z_e, us_e, hv_e, hc_e, hb_e, hl_e, hs_e, hE_e⟩ := IsL.at hF.2 (j := l) (by omega)
                obtain ⟨u_e, rfl, hu_e⟩ := hE_e
                refine TL.nil ?_
                refine TE.next hK44 ?_
                clear hK44
                refine TC.seq (fun K45 hK45 => ?_)
                refine TC.yes rfl ?_
                refine TC.skip ?_
                refine TE.next hK45 ?_
                clear hK45
                refine TC.seq (fun K46 hK46 => ?_)
                refine TC.block ?_
                refine TC.seq (fun K47 hK47 => ?_)
                refine TC.region ?_
                refine TL.v (Want.plain rfl) rfl rfl (PV.move rfl rfl) ?_
                refine TL.v (Want.plain rfl) rfl rfl (PV.indexSlV (r := off_e + l) hv_e rfl Try.underlying44 sz28 rfl rfl (by omega) (by omega) (by omega)) ?_
                refine TL.v (Want.plain rfl) rfl rfl (PV.load1X (v := u_e) rfl Try.underlying28 rfl rfl (RdX.frm hb_e (fun _ h => Frm.of h)) (by have := stretch_get (j := 0) hs_e rfl; simpa using this)) ?_
                refine TL.v (Want.plain rfl) rfl rfl (PV.assign rfl rfl) ?_
                refine TL.v (Want.plain rfl) rfl rfl (PV.assign rfl rfl) ?_
                refine TL.nil ?_
                refine TE.next hK47 ?_
                clear hK47
                refine TC.seq (fun K48 hK48 => ?_)
                refine TC.region ?_
                refine TL.v (Want.plain rfl) rfl rfl (PV.move rfl rfl) ?_
                refine TL.v (Want.plain rfl) rfl rfl (PV.move rfl rfl) ?_
                refine TL.v (Want.plain rfl) rfl rfl (PV.add rfl rfl rfl (wrap_i64 (by omega) (by omega))) ?_
                refine TL.callR (A := [dk d (sC data more c0 c1 c2)]) (B := [blkA b5 [(.int .i64 (c0)), (.int .i64 (c1)), (.int .i64 (c2))] 45]) (Want.plain rfl) rfl rfl rfl nm21 rfl (dk_read d (sC data more c0 c1 c2) (100 + ((l : Nat) : Int)) (sC_ok hd hm) (by simp only [sA, sB, sC, sD, DS.arm, wl_len, List.length_take, List.length_nil]; omega)) (fun _ s => s) (fun _ _ _ => trivial) (fun vR HR hR => ?_)
                obtain ⟨hv, rfl⟩ := hR
                subst hv
                change TL _ _ _ _ _ _ _ _ _ [dk d (sC data more c0 c1 c2), blkA b5 [(.int .i64 (c0)), (.int .i64 (c1)), (.int .i64 (c2))] 45]
                refine TL.alloc (Want.plain rfl) rfl rfl rfl z37 (fun b16 => ?_)
                change TL _ _ _ _ _ _ _ _ _ [blkA b16 [(.int .u8 0), (.int .u8 0), (.int .u8 0), (.int .u8 0), (.int .u8 0), (.int .u8 0), (.int .u8 0), (.int .u8 0), (.int .u8 0), (.int .u8 0), (.int .u8 0), (.int .u8 0), (.int .u8 0), (.int .u8 0), (.int .u8 0), (.int .u8 0), (.int .u8 0), (.int .u8 0), (.int .u8 0), (.int .u8 0), (.int .u8 0), (.int .u8 0), (.int .u8 0), (.int .u8 0), (.int .u8 0), (.int .u8 0), (.int .u8 0), (.int .u8 0), (.int .u8 0), (.int .u8 0), (.int .u8 0), (.int .u8 0), (.int .u8 0), (.int .u8 0), (.int .u8 0), (.int .u8 0), (.int .u8 0), (.int .u8 0), (.int .u8 0), (.int .u8 0), (.int .u8 0), (.int .u8 0), (.int .u8 0), (.int .u8 0), (.int .u8 0), (.int .u8 0), (.int .u8 0), (.int .u8 0), (.int .u8 0), (.int .u8 0), (.int .u8 0), (.int .u8 0), (.int .u8 0), (.int .u8 0), (.int .u8 0), (.int .u8 0), (.int .u8 0), (.int .u8 0), (.int .u8 0), (.int .u8 0), (.int .u8 0), (.int .u8 0), (.int .u8 0), (.int .u8 0)] 37, dk d (sC data more c0 c1 c2), blkA b5 [(.int .i64 (c0)), (.int .i64 (c1)), (.int .i64 (c2))] 45]
                refine TL.store (vs := u8s ((sC data more c0 c1 c2).read (100 + ((l : Nat) : Int)))) (i := 0) (H' := [blkA b16 (u8s ((sC data more c0 c1 c2).read (100 + ((l : Nat) : Int)))) 37, dk d (sC data more c0 c1 c2), blkA b5 [(.int .i64 (c0)), (.int .i64 (c1)), (.int .i64 (c2))] 45]) (Want.plain rfl) rfl rfl rfl rfl rfl (by rw [u8s_length, DS.read_len (sC_ok hd hm) _]; exact sz37) (u8s_one _) rfl rfl (by rw [u8s_length, DS.read_len (sC_ok hd hm) _]; first | exact Nat.le_refl _ | (rw [rfl]; exact Nat.le_refl _)) (wr_whole (by rw [u8s_length, DS.read_len (sC_ok hd hm) _]; first | rfl | exact rfl)) rfl ?_
                refine TL.nil ?_
                refine TE.next hK48 ?_
                clear hK48
                refine TC.seq (fun K49 hK49 => ?_)
                refine TC.draw (fun w => Frm F w ∧ w.heap[b5]? = some (.cells ([(.int .i64 (c0)), (.int .i64 (c1)), (.int .i64 (c2))]).toArray 45 (0, 0)) ∧ w.heap[b16]? = some (.cells (u8s ((sC data more c0 c1 c2).read (100 + ((l : Nat) : Int)))).toArray 37 (0, 0)) ∧ True) mixed rfl (fun _ s => ⟨Frm.of s, s.block 2 (lb rfl) rfl, s.block 0 (lb rfl) rfl, trivial⟩) ?_
                refine TD.take (i := 0) rfl (by kernel_rfl) (by kernel_rfl) (by kernel_rfl) (fun _ _ _ _ h => h) (Want.plain rfl) rfl rfl (PV.move rfl rfl) ?_
                refine TD.take (i := 1) rfl (by kernel_rfl) (by kernel_rfl) (by kernel_rfl) (fun _ _ _ _ h => h) (Want.plain rfl) rfl rfl (PV.indexArr (r := 1) rfl Try.underlying45 sz3 rfl rfl (lz rfl) (lz rfl) rfl) ?_
                refine TD.take (i := 2) rfl (by kernel_rfl) (by kernel_rfl) (by kernel_rfl) (fun _ _ _ _ h => h) (Want.plain rfl) rfl rfl (PV.load1 (v := (.int .i64 (c1))) rfl Try.underlying3 rfl rfl (fun _ h => h.2.1) rfl) ?_
                refine TD.take (i := 3) rfl (by kernel_rfl) (by kernel_rfl) (by kernel_rfl) (fun _ _ _ _ h => h) (Want.plain rfl) rfl rfl (PV.neq rfl rfl rfl) ?_
                refine TD.dec (fun h120 => ?_) (fun h120 => ?_)
                · skip
                  refine TD.take (i := 4) rfl (by kernel_rfl) (by kernel_rfl) (by kernel_rfl) (fun _ _ _ _ h => h) (Want.plain rfl) rfl rfl (PV.move rfl rfl) ?_
                  refine TD.take (i := 5) rfl (by kernel_rfl) (by kernel_rfl) (by kernel_rfl) (fun _ _ _ _ h => h) (Want.met rfl rfl rfl) rfl rfl (PV.loadN (vs := u8s ((sC data more c0 c1 c2).read (100 + ((l : Nat) : Int)))) rfl Try.underlying37 rfl sz37 rfl (fun _ h => h.2.2.1) (by rw [u8s_length]; exact DS.read_len (sC_ok hd hm) _) (take_all (by rw [u8s_length]; exact DS.read_len (sC_ok hd hm) _))) ?_
                  refine TD.take (i := 6) rfl (by kernel_rfl) (by kernel_rfl) (by kernel_rfl) (fun _ _ _ _ h => h) (Want.met rfl rfl rfl) rfl rfl (PV.move rfl rfl) ?_
                  refine TD.all [7] (by kernel_rfl) rfl ?_
                  refine AllT.cons rfl ?_ ?_
                  · skip
                    refine TL.callR (A := []) (B := [blkA b16 (u8s ((sC data more c0 c1 c2).read (100 + ((l : Nat) : Int)))) 37, dk d (sC data more c0 c1 c2), blkA b5 [(.int .i64 (c0)), (.int .i64 (c1)), (.int .i64 (c2))] 45]) (Want.met rfl rfl rfl) rfl rfl rfl nm20 rfl (pad_does u_e (more[l]) (by first | exact hk2 _ _ (by omega) | exact hm2 _ _ (by omega))) (fun _ s => s) (fun g d _ => IsW.more hu_e d) (fun vR HR hR => ?_)
                    obtain ⟨rfl, rfl⟩ := hR
                    change TL _ _ _ _ _ _ _ _ _ [blkA b16 (u8s ((sC data more c0 c1 c2).read (100 + ((l : Nat) : Int)))) 37, dk d (sC data more c0 c1 c2), blkA b5 [(.int .i64 (c0)), (.int .i64 (c1)), (.int .i64 (c2))] 45]
                    refine TL.nil ?_
                    refine TE.draw (fun _ s => ⟨Frm.of s, s.block 2 (lb rfl) rfl, s.block 0 (lb rfl) rfl, trivial⟩) ?_
                    refine TD.take (i := 8) rfl (by kernel_rfl) (by kernel_rfl) (by kernel_rfl) (fun _ _ _ _ h => h) (Want.met rfl rfl rfl) rfl rfl (PV.neqB (a := ((sC data more c0 c1 c2).read (100 + ((l : Nat) : Int)))) (b := (padS more[l])) (m := 2) sg37 sk37 rfl sf37 sa37 sc37 (DS.read_len (sC_ok hd hm) _) (padS_len (by first | exact hk2 _ _ (by omega) | exact hm2 _ _ (by omega))) rfl rfl rfl) ?_
                    refine TD.dec (fun h125 => ?_) (fun h125 => ?_)
                    · skip
                      refine TD.take (i := 9) rfl (by kernel_rfl) (by kernel_rfl) (by kernel_rfl) (fun _ _ _ _ h => h) (Want.plain rfl) rfl rfl (PV.pick rfl rfl rfl) ?_
                      refine TD.take (i := 10) rfl (by kernel_rfl) (by kernel_rfl) (by kernel_rfl) (fun _ _ _ _ h => h) (Want.plain rfl) rfl rfl (PV.move rfl rfl) ?_
                      refine TD.take (i := 11) rfl (by kernel_rfl) (by kernel_rfl) (by kernel_rfl) (fun _ _ _ _ h => h) (Want.met rfl rfl rfl) rfl rfl (PV.loadN (vs := u8s ((sC data more c0 c1 c2).read (100 + ((l : Nat) : Int)))) rfl Try.underlying37 rfl sz37 rfl (fun _ h => h.2.2.1) (by rw [u8s_length]; exact DS.read_len (sC_ok hd hm) _) (take_all (by rw [u8s_length]; exact DS.read_len (sC_ok hd hm) _))) ?_
                      refine TD.take (i := 12) rfl (by kernel_rfl) (by kernel_rfl) (by kernel_rfl) (fun _ _ _ _ h => h) (Want.met rfl rfl rfl) rfl rfl (PV.build (cells := (u8s zs).toArray) rfl rfl (by as_aux_lemma => kernel_rfl)) ?_
                      refine TD.take (i := 13) rfl (by kernel_rfl) (by kernel_rfl) (by kernel_rfl) (fun _ _ _ _ h => h) (Want.met rfl rfl rfl) rfl rfl (PV.neqB (a := ((sC data more c0 c1 c2).read (100 + ((l : Nat) : Int)))) (b := zs) (m := 2) sg37 sk37 rfl sf37 sa37 sc37 (DS.read_len (sC_ok hd hm) _) (by decide) rfl rfl rfl) ?_
                      refine TD.dec (fun h130 => ?_) (fun h130 => ?_)
                      · exact absurd (sC_more (data := data) (more := more) (k := l) (mask := c0) (n := c2) (by omega) (by omega) h120) (by simp [h125, h130])
                      · skip
                        refine TD.take (i := 14) rfl (by kernel_rfl) (by kernel_rfl) (by kernel_rfl) (fun _ _ _ _ h => h) (Want.plain rfl) rfl rfl (PV.pick rfl rfl rfl) ?_
                        refine TD.done (by kernel_rfl) ?_
                        refine TE.next hK49 ?_
                        clear hK49
                        refine TC.no rfl ?_
                        refine TC.skip ?_
                        refine TE.blockEnd ?_
                        refine TE.next hK46 ?_
                        clear hK46
                        refine TC.region ?_
                        refine TL.v (Want.plain rfl) rfl rfl (PV.add rfl rfl rfl (wrap_i64 (by omega) (by omega))) ?_
                        refine TL.v (Want.plain rfl) rfl rfl (PV.move rfl rfl) ?_
                        refine TL.nil ?_
                        exact TE.round ((l + 1) : (Nat)) (by omega) (by show more.length - (l + 1) < more.length - l; omega)
                          (Sub.cons rfl rfl (Sub.cons rfl rfl (Sub.cons rfl rfl (Sub.cons rfl rfl (Sub.cons rfl (by simp) (Sub.nil _))))))
                          (fun _ s => sep_keep [1, 1] rfl s)
                    · skip
                      refine TD.take (i := 9) rfl (by kernel_rfl) (by kernel_rfl) (by kernel_rfl) (fun _ _ _ _ h => h) (Want.plain rfl) rfl rfl (PV.pick rfl rfl rfl) ?_
                      refine TD.take (i := 10) rfl (by kernel_rfl) (by kernel_rfl) (by kernel_rfl) (fun _ _ _ _ h => h) (Want.plain rfl) rfl rfl (PV.move rfl rfl) ?_
                      refine TD.takeNot (i := 11) (b := false) rfl (by kernel_rfl) (by kernel_rfl) (by kernel_rfl) (fun _ _ _ _ h => h) rfl rfl rfl rfl rfl ?_
                      refine TD.takeNot (i := 12) (b := false) rfl (by kernel_rfl) (by kernel_rfl) (by kernel_rfl) (fun _ _ _ _ h => h) rfl rfl rfl rfl rfl ?_
                      refine TD.takeNot (i := 13) (b := false) rfl (by kernel_rfl) (by kernel_rfl) (by kernel_rfl) (fun _ _ _ _ h => h) rfl rfl rfl rfl rfl ?_
                      refine TD.take (i := 14) rfl (by kernel_rfl) (by kernel_rfl) (by kernel_rfl) (fun _ _ _ _ h => h) (Want.plain rfl) rfl rfl (PV.pick rfl rfl rfl) ?_
                      refine TD.done (by kernel_rfl) ?_
                      refine TE.next hK49 ?_
                      clear hK49
                      refine TC.no rfl ?_
                      refine TC.skip ?_
                      refine TE.blockEnd ?_
                      refine TE.next hK46 ?_
                      clear hK46
                      refine TC.region ?_
                      refine TL.v (Want.plain rfl) rfl rfl (PV.add rfl rfl rfl (wrap_i64 (by omega) (by omega))) ?_
                      refine TL.v (Want.plain rfl) rfl rfl (PV.move rfl rfl) ?_
                      refine TL.nil ?_
                      exact TE.round ((l + 1) : (Nat)) (by omega) (by show more.length - (l + 1) < more.length - l; omega)
                        (Sub.cons rfl rfl (Sub.cons rfl rfl (Sub.cons rfl rfl (Sub.cons rfl rfl (Sub.cons rfl (by simp) (Sub.nil _))))))
                        (fun _ s => sep_keep [1, 1] rfl s)
                  exact AllT.nil
                · skip
                  refine TD.take (i := 4) rfl (by kernel_rfl) (by kernel_rfl) (by kernel_rfl) (fun _ _ _ _ h => h) (Want.plain rfl) rfl rfl (PV.move rfl rfl) ?_
                  refine TD.takeNot (i := 5) (b := false) rfl (by kernel_rfl) (by kernel_rfl) (by kernel_rfl) (fun _ _ _ _ h => h) rfl rfl rfl rfl rfl ?_
                  refine TD.takeNot (i := 6) (b := false) rfl (by kernel_rfl) (by kernel_rfl) (by kernel_rfl) (fun _ _ _ _ h => h) rfl rfl rfl rfl rfl ?_
                  refine TD.takeNot (i := 7) (b := false) rfl (by kernel_rfl) (by kernel_rfl) (by kernel_rfl) (fun _ _ _ _ h => h) rfl rfl rfl rfl rfl ?_
                  refine TD.takeNot (i := 8) (b := false) rfl (by kernel_rfl) (by kernel_rfl) (by kernel_rfl) (fun _ _ _ _ h => h) rfl rfl rfl rfl rfl ?_
                  refine TD.take (i := 9) rfl (by kernel_rfl) (by kernel_rfl) (by kernel_rfl) (fun _ _ _ _ h => h) (Want.plain rfl) rfl rfl (PV.pick rfl rfl rfl) ?_
                  refine TD.take (i := 10) rfl (by kernel_rfl) (by kernel_rfl) (by kernel_rfl) (fun _ _ _ _ h => h) (Want.plain rfl) rfl rfl (PV.move rfl rfl) ?_
                  refine TD.takeNot (i := 11) (b := false) rfl (by kernel_rfl) (by kernel_rfl) (by kernel_rfl) (fun _ _ _ _ h => h) rfl rfl rfl rfl rfl ?_
                  refine TD.takeNot (i := 12) (b := false) rfl (by kernel_rfl) (by kernel_rfl) (by kernel_rfl) (fun _ _ _ _ h => h) rfl rfl rfl rfl rfl ?_
                  refine TD.takeNot (i := 13) (b := false) rfl (by kernel_rfl) (by kernel_rfl) (by kernel_rfl) (fun _ _ _ _ h => h) rfl rfl rfl rfl rfl ?_
                  refine TD.take (i := 14) rfl (by kernel_rfl) (by kernel_rfl) (by kernel_rfl) (fun _ _ _ _ h => h) (Want.plain rfl) rfl rfl (PV.pick rfl rfl rfl) ?_
                  refine TD.done (by kernel_rfl) ?_
                  refine TE.next hK49 ?_
                  clear hK49
                  refine TC.no rfl ?_
                  refine TC.skip ?_
                  refine TE.blockEnd ?_
                  refine TE.next hK46 ?_
                  clear hK46
                  refine TC.region ?_
                  refine TL.v (Want.plain rfl) rfl rfl (PV.add rfl rfl rfl (wrap_i64 (by omega) (by omega))) ?_
                  refine TL.v (Want.plain rfl) rfl rfl (PV.move rfl rfl) ?_
                  refine TL.nil ?_
                  exact TE.round ((l + 1) : (Nat)) (by omega) (by show more.length - (l + 1) < more.length - l; omega)
                    (Sub.cons rfl rfl (Sub.cons rfl rfl (Sub.cons rfl rfl (Sub.cons rfl rfl (Sub.cons rfl (by simp) (Sub.nil _))))))
                    (fun _ s => sep_keep [1, 1] rfl s)
              · skip
                refine TL.nil ?_
                refine TE.next hK44 ?_
                clear hK44
                refine TC.seq (fun K50 hK50 => ?_)
                refine TC.no rfl ?_
                refine TC.exit ?_
                refine TE.pass ?_
                clear hK50
                refine TE.pass ?_
                refine TE.hit ?_
                refine TE.next hK42 ?_
                clear hK42
                refine TC.seq (fun K51 hK51 => ?_)
                refine TC.region ?_
                refine TL.v (Want.plain rfl) rfl rfl (PV.move rfl rfl) ?_
                refine TL.callR (A := [dk d (sC data more c0 c1 c2)]) (B := [blkA b5 [(.int .i64 (c0)), (.int .i64 (c1)), (.int .i64 (c2))] 45]) (Want.plain rfl) rfl rfl rfl nm16 rfl (dk_down d (sC data more c0 c1 c2) ) (fun _ s => s) (fun _ _ _ => trivial) (fun vR HR hR => ?_)
                obtain ⟨hv, rfl⟩ := hR
                subst hv
                change TL _ _ _ _ _ _ _ _ _ [dk d (sC data more c0 c1 c2), blkA b5 [(.int .i64 (c0)), (.int .i64 (c1)), (.int .i64 (c2))] 45]
                refine TL.v (Want.plain rfl) rfl rfl (PV.not (r := true) rfl rfl rfl) ?_
                refine TL.v (Want.plain rfl) rfl rfl (PV.move rfl rfl) ?_
                refine TL.v (Want.met rfl rfl rfl) rfl rfl (PV.move rfl rfl) ?_
                refine TL.callR (A := [dk d (sC data more c0 c1 c2)]) (B := [blkA b5 [(.int .i64 (c0)), (.int .i64 (c1)), (.int .i64 (c2))] 45]) (Want.met rfl rfl rfl) rfl rfl rfl nm18 rfl (dk_waits d (sC data more c0 c1 c2) ) (fun _ s => s) (fun _ _ _ => trivial) (fun vR HR hR => ?_)
                obtain ⟨hv, rfl⟩ := hR
                subst hv
                change TL _ _ _ _ _ _ _ _ _ [dk d (sC data more c0 c1 c2), blkA b5 [(.int .i64 (c0)), (.int .i64 (c1)), (.int .i64 (c2))] 45]
                refine TL.v (Want.met rfl rfl rfl) rfl rfl (PV.eql rfl rfl rfl) ?_
                refine TL.v (Want.plain rfl) rfl rfl (PV.pick rfl rfl rfl) ?_
                refine TL.v (Want.plain rfl) rfl rfl (PV.assign rfl rfl) ?_
                refine TL.nil ?_
                refine TE.next hK51 ?_
                clear hK51
                refine TC.ret ?_
                refine TE.weak (Sub.refl _) (fun _ s => sep_keep [] rfl s) ?_
                refine TE.ret1 rfl rfl ?_
                exact ⟨rfl, rfl⟩
          · skip
            refine TL.v (Want.plain rfl) rfl rfl (PV.move rfl rfl) ?_
            refine TL.unmet (b := false) rfl rfl rfl rfl (lb rfl) ?_
            refine TL.unmet (b := false) rfl rfl rfl rfl (lb rfl) ?_
            refine TL.unmet (b := false) rfl rfl rfl rfl (lb rfl) ?_
            refine TL.v (Want.plain rfl) rfl rfl (PV.pick rfl rfl rfl) ?_
            refine TL.nil ?_
            refine TE.next hK32 ?_
            clear hK32
            refine TC.no rfl ?_
            refine TC.skip ?_
            refine TE.next hK31 ?_
            clear hK31
            refine TC.seq (fun K52 hK52 => ?_)
            refine TC.region ?_
            refine TL.v (Want.plain rfl) rfl rfl (PV.move rfl rfl) ?_
            refine TL.v (Want.plain rfl) rfl rfl (PV.indexArr (r := 0) rfl Try.underlying45 sz3 rfl rfl (lz rfl) (lz rfl) rfl) ?_
            refine TL.v (Want.plain rfl) rfl rfl (PV.load1 (v := (.int .i64 (c0))) rfl Try.underlying3 rfl rfl (Rd.own 1 rfl rfl) rfl) ?_
            refine TL.v (Want.plain rfl) rfl rfl (PV.indexArr (r := 1) rfl Try.underlying45 sz3 rfl rfl (lz rfl) (lz rfl) rfl) ?_
            refine TL.v (Want.plain rfl) rfl rfl (PV.load1 (v := (.int .i64 (c1))) rfl Try.underlying3 rfl rfl (Rd.own 1 rfl rfl) rfl) ?_
            refine TL.v (Want.plain rfl) rfl rfl (PV.indexArr (r := 2) rfl Try.underlying45 sz3 rfl rfl (lz rfl) (lz rfl) rfl) ?_
            refine TL.v (Want.plain rfl) rfl rfl (PV.load1 (v := (.int .i64 (c2))) rfl Try.underlying3 rfl rfl (Rd.own 1 rfl rfl) rfl) ?_
            refine TL.callR (A := [dk d (sD data more)]) (B := [blkA b5 [(.int .i64 (c0)), (.int .i64 (c1)), (.int .i64 (c2))] 45]) (Want.plain rfl) rfl rfl rfl nm19 rfl (dk_crash d (sD data more) c0 c1 c2 (sD_ok hd hm)) (fun _ s => s) (fun _ _ _ => trivial) (fun vR HR hR => ?_)
            obtain ⟨_, rfl⟩ := hR
            rw [sD_crash]
            change TL _ _ _ _ _ _ _ _ _ [dk d (sC data more c0 c1 c2), blkA b5 [(.int .i64 (c0)), (.int .i64 (c1)), (.int .i64 (c2))] 45]
            refine TL.nil ?_
            refine TE.next hK52 ?_
            clear hK52
            refine TC.seq (fun K53 hK53 => ?_)
            refine TC.seq (fun K54 hK54 => ?_)
            refine TC.region ?_
            refine TL.v (Want.plain rfl) rfl rfl (PV.move rfl rfl) ?_
            refine TL.v (Want.plain rfl) rfl rfl (PV.lenV rfl Try.underlying44 rfl hF.1.len) ?_
            refine TL.v (Want.plain rfl) rfl rfl (PV.move rfl rfl) ?_
            refine TL.nil ?_
            refine TE.next hK54 ?_
            clear hK54
            refine TC.block ?_
            refine TC.loop (α := (Nat)) (fun i => i ≤ data.length) (fun i => [(1, vm), (5, (.pointer (some ⟨b5, 0, none⟩))), (7, (.pointer (some ⟨d, 0, none⟩))), (84, vd), (85, (.int .i64 (((data.length : Nat) : Int)))), (86, (.int .i64 (((i : Nat) : Int))))]) (fun i => [dk d (sC data more c0 c1 c2), blkA b5 [(.int .i64 (c0)), (.int .i64 (c1)), (.int .i64 (c2))] 45]) (fun i => data.length - i) 0
                (Nat.zero_le _) (Sub.cons rfl rfl (Sub.cons rfl rfl (Sub.cons rfl rfl (Sub.cons rfl rfl (Sub.cons rfl rfl (Sub.cons rfl (by congr 1) (Sub.nil _)))))))
                (fun _ s => s) (fun i hinv => ?_)
            obtain hi := hinv
            refine TC.seq (fun K55 hK55 => ?_)
            refine TC.region ?_
            refine TL.v (Want.plain rfl) rfl rfl (PV.lss rfl rfl rfl) ?_
            refine TL.dec (fun h87 => ?_) (fun h87 => ?_)
            · skip
              obtain ⟨b_c, off_c, cap_c, cs_c, T_c, z_c, us_c, hv_c, hc_c, hb_c, hl_c, hs_c, hE_c⟩ := IsL.at hF.1 (j := i) (by omega)
              obtain ⟨u_c, rfl, hu_c⟩ := hE_c
              refine TL.nil ?_
              refine TE.next hK55 ?_
              clear hK55
              refine TC.seq (fun K56 hK56 => ?_)
              refine TC.yes rfl ?_
              refine TC.skip ?_
              refine TE.next hK56 ?_
              clear hK56
              refine TC.seq (fun K57 hK57 => ?_)
              refine TC.block ?_
              refine TC.seq (fun K58 hK58 => ?_)
              refine TC.region ?_
              refine TL.v (Want.plain rfl) rfl rfl (PV.move rfl rfl) ?_
              refine TL.v (Want.plain rfl) rfl rfl (PV.indexSlV (r := off_c + i) hv_c rfl Try.underlying44 sz28 rfl rfl (by omega) (by omega) (by omega)) ?_
              refine TL.v (Want.plain rfl) rfl rfl (PV.load1X (v := u_c) rfl Try.underlying28 rfl rfl (RdX.frm hb_c (fun _ h => Frm.of h)) (by have := stretch_get (j := 0) hs_c rfl; simpa using this)) ?_
              refine TL.v (Want.plain rfl) rfl rfl (PV.assign rfl rfl) ?_
              refine TL.v (Want.plain rfl) rfl rfl (PV.assign rfl rfl) ?_
              refine TL.nil ?_
              refine TE.next hK58 ?_
              clear hK58
              refine TC.seq (fun K59 hK59 => ?_)
              refine TC.region ?_
              refine TL.v (Want.plain rfl) rfl rfl (PV.move rfl rfl) ?_
              refine TL.v (Want.plain rfl) rfl rfl (PV.move rfl rfl) ?_
              refine TL.callR (A := [dk d (sC data more c0 c1 c2)]) (B := [blkA b5 [(.int .i64 (c0)), (.int .i64 (c1)), (.int .i64 (c2))] 45]) (Want.plain rfl) rfl rfl rfl nm21 rfl (dk_read d (sC data more c0 c1 c2) ((i : Nat) : Int) (sC_ok hd hm) (by simp only [sA, sB, sC, sD, DS.arm, wl_len, List.length_take, List.length_nil]; omega)) (fun _ s => s) (fun _ _ _ => trivial) (fun vR HR hR => ?_)
              obtain ⟨hv, rfl⟩ := hR
              subst hv
              rw [sC_read, sC_sure (by omega) (by omega)]
              change TL _ _ _ _ _ _ _ _ _ [dk d (sC data more c0 c1 c2), blkA b5 [(.int .i64 (c0)), (.int .i64 (c1)), (.int .i64 (c2))] 45]
              refine TL.v (Want.plain rfl) rfl rfl (PV.move rfl rfl) ?_
              refine TL.callR (A := []) (B := [dk d (sC data more c0 c1 c2), blkA b5 [(.int .i64 (c0)), (.int .i64 (c1)), (.int .i64 (c2))] 45]) (Want.plain rfl) rfl rfl rfl nm20 rfl (pad_does u_c (data[i]) (by first | exact hk2 _ _ (by omega) | exact hm2 _ _ (by omega))) (fun _ s => s) (fun g d _ => IsW.more hu_c d) (fun vR HR hR => ?_)
              obtain ⟨rfl, rfl⟩ := hR
              change TL _ _ _ _ _ _ _ _ _ [dk d (sC data more c0 c1 c2), blkA b5 [(.int .i64 (c0)), (.int .i64 (c1)), (.int .i64 (c2))] 45]
              refine TL.v (Want.plain rfl) rfl rfl (PV.neqB (a := (padS data[i])) (b := (padS data[i])) (m := 2) sg37 sk37 rfl sf37 sa37 sc37 (padS_len (by first | exact hk2 _ _ (by omega) | exact hm2 _ _ (by omega))) (padS_len (by first | exact hk2 _ _ (by omega) | exact hm2 _ _ (by omega))) rfl rfl rfl) ?_
              refine TL.dec (fun h96 => ?_) (fun h96 => ?_)
              · exact absurd rfl h96
              · skip
                refine TL.v (Want.plain rfl) rfl rfl (PV.move rfl rfl) ?_
                refine TL.v (Want.met rfl rfl rfl) rfl rfl (PV.move rfl rfl) ?_
                refine TL.v (Want.met rfl rfl rfl) rfl rfl (PV.move rfl rfl) ?_
                refine TL.callR (A := [dk d (sC data more c0 c1 c2)]) (B := [blkA b5 [(.int .i64 (c0)), (.int .i64 (c1)), (.int .i64 (c2))] 45]) (Want.met rfl rfl rfl) rfl rfl rfl nm22 rfl (dk_sure d (sC data more c0 c1 c2) ((i : Nat) : Int) (sC_ok hd hm)) (fun _ s => s) (fun _ _ _ => trivial) (fun vR HR hR => ?_)
                obtain ⟨hv, rfl⟩ := hR
                subst hv
                rw [sC_sure (by omega) (by omega)]
                change TL _ _ _ _ _ _ _ _ _ [dk d (sC data more c0 c1 c2), blkA b5 [(.int .i64 (c0)), (.int .i64 (c1)), (.int .i64 (c2))] 45]
                refine TL.v (Want.met rfl rfl rfl) rfl rfl (PV.move rfl rfl) ?_
                refine TL.callR (A := []) (B := [dk d (sC data more c0 c1 c2), blkA b5 [(.int .i64 (c0)), (.int .i64 (c1)), (.int .i64 (c2))] 45]) (Want.met rfl rfl rfl) rfl rfl rfl nm20 rfl (pad_does u_c (data[i]) (by first | exact hk2 _ _ (by omega) | exact hm2 _ _ (by omega))) (fun _ s => s) (fun g d _ => IsW.more hu_c d) (fun vR HR hR => ?_)
                obtain ⟨rfl, rfl⟩ := hR
                change TL _ _ _ _ _ _ _ _ _ [dk d (sC data more c0 c1 c2), blkA b5 [(.int .i64 (c0)), (.int .i64 (c1)), (.int .i64 (c2))] 45]
                refine TL.v (Want.met rfl rfl rfl) rfl rfl (PV.neqB (a := (padS data[i])) (b := (padS data[i])) (m := 2) sg37 sk37 rfl sf37 sa37 sc37 (padS_len (by first | exact hk2 _ _ (by omega) | exact hm2 _ _ (by omega))) (padS_len (by first | exact hk2 _ _ (by omega) | exact hm2 _ _ (by omega))) rfl rfl rfl) ?_
                refine TL.dec (fun h103 => ?_) (fun h103 => ?_)
                · exact absurd rfl h103
                · skip
                  refine TL.v (Want.plain rfl) rfl rfl (PV.pick rfl rfl rfl) ?_
                  refine TL.nil ?_
                  refine TE.next hK59 ?_
                  clear hK59
                  refine TC.no rfl ?_
                  refine TC.skip ?_
                  refine TE.blockEnd ?_
                  refine TE.next hK57 ?_
                  clear hK57
                  refine TC.region ?_
                  refine TL.v (Want.plain rfl) rfl rfl (PV.add rfl rfl rfl (wrap_i64 (by omega) (by omega))) ?_
                  refine TL.v (Want.plain rfl) rfl rfl (PV.move rfl rfl) ?_
                  refine TL.nil ?_
                  exact TE.round ((i + 1) : (Nat)) (by omega) (by show data.length - (i + 1) < data.length - i; omega)
                    (Sub.cons rfl rfl (Sub.cons rfl rfl (Sub.cons rfl rfl (Sub.cons rfl rfl (Sub.cons rfl rfl (Sub.cons rfl (by simp) (Sub.nil _)))))))
                    (fun _ s => s)
            · skip
              refine TL.nil ?_
              refine TE.next hK55 ?_
              clear hK55
              refine TC.seq (fun K60 hK60 => ?_)
              refine TC.no rfl ?_
              refine TC.exit ?_
              refine TE.pass ?_
              clear hK60
              refine TE.pass ?_
              refine TE.hit ?_
              refine TE.next hK53 ?_
              clear hK53
              refine TC.seq (fun K61 hK61 => ?_)
              refine TC.seq (fun K62 hK62 => ?_)
              refine TC.region ?_
              refine TL.v (Want.plain rfl) rfl rfl (PV.move rfl rfl) ?_
              refine TL.v (Want.plain rfl) rfl rfl (PV.lenV rfl Try.underlying44 rfl hF.2.len) ?_
              refine TL.v (Want.plain rfl) rfl rfl (PV.move rfl rfl) ?_
              refine TL.nil ?_
              refine TE.next hK62 ?_
              clear hK62
              refine TC.block ?_
              refine TC.loop (α := (Nat)) (fun l => l ≤ more.length) (fun l => [(5, (.pointer (some ⟨b5, 0, none⟩))), (7, (.pointer (some ⟨d, 0, none⟩))), (106, vm), (107, (.int .i64 (((more.length : Nat) : Int)))), (108, (.int .i64 (((l : Nat) : Int))))]) (fun l => [dk d (sC data more c0 c1 c2), blkA b5 [(.int .i64 (c0)), (.int .i64 (c1)), (.int .i64 (c2))] 45]) (fun l => more.length - l) 0
                  (Nat.zero_le _) (Sub.cons rfl rfl (Sub.cons rfl rfl (Sub.cons rfl rfl (Sub.cons rfl rfl (Sub.cons rfl (by congr 1) (Sub.nil _))))))
                  (fun _ s => s) (fun l hinv => ?_)
              obtain hl := hinv
              refine TC.seq (fun K63 hK63 => ?_)
              refine TC.region ?_
              refine TL.v (Want.plain rfl) rfl rfl (PV.lss rfl rfl rfl) ?_
              refine TL.dec (fun h109 => ?_) (fun h109 => ?_)
              · skip
                obtain ⟨b_e, off_e, cap_e, cs_e, T_e, z_e, us_e, hv_e, hc_e, hb_e, hl_e, hs_e, hE_e⟩ := IsL.at hF.2 (j := l) (by omega)
                obtain ⟨u_e, rfl, hu_e⟩ := hE_e
                refine TL.nil ?_
                refine TE.next hK63 ?_
                clear hK63
                refine TC.seq (fun K64 hK64 => ?_)
                refine TC.yes rfl ?_
                refine TC.skip ?_
                refine TE.next hK64 ?_
                clear hK64
                refine TC.seq (fun K65 hK65 => ?_)
                refine TC.block ?_
                refine TC.seq (fun K66 hK66 => ?_)
                refine TC.region ?_
                refine TL.v (Want.plain rfl) rfl rfl (PV.move rfl rfl) ?_
                refine TL.v (Want.plain rfl) rfl rfl (PV.indexSlV (r := off_e + l) hv_e rfl Try.underlying44 sz28 rfl rfl (by omega) (by omega) (by omega)) ?_
                refine TL.v (Want.plain rfl) rfl rfl (PV.load1X (v := u_e) rfl Try.underlying28 rfl rfl (RdX.frm hb_e (fun _ h => Frm.of h)) (by have := stretch_get (j := 0) hs_e rfl; simpa using this)) ?_
                refine TL.v (Want.plain rfl) rfl rfl (PV.assign rfl rfl) ?_
                refine TL.v (Want.plain rfl) rfl rfl (PV.assign rfl rfl) ?_
                refine TL.nil ?_
                refine TE.next hK66 ?_
                clear hK66
                refine TC.seq (fun K67 hK67 => ?_)
                refine TC.region ?_
                refine TL.v (Want.plain rfl) rfl rfl (PV.move rfl rfl) ?_
                refine TL.v (Want.plain rfl) rfl rfl (PV.move rfl rfl) ?_
                refine TL.v (Want.plain rfl) rfl rfl (PV.add rfl rfl rfl (wrap_i64 (by omega) (by omega))) ?_
                refine TL.callR (A := [dk d (sC data more c0 c1 c2)]) (B := [blkA b5 [(.int .i64 (c0)), (.int .i64 (c1)), (.int .i64 (c2))] 45]) (Want.plain rfl) rfl rfl rfl nm21 rfl (dk_read d (sC data more c0 c1 c2) (100 + ((l : Nat) : Int)) (sC_ok hd hm) (by simp only [sA, sB, sC, sD, DS.arm, wl_len, List.length_take, List.length_nil]; omega)) (fun _ s => s) (fun _ _ _ => trivial) (fun vR HR hR => ?_)
                obtain ⟨hv, rfl⟩ := hR
                subst hv
                change TL _ _ _ _ _ _ _ _ _ [dk d (sC data more c0 c1 c2), blkA b5 [(.int .i64 (c0)), (.int .i64 (c1)), (.int .i64 (c2))] 45]
                refine TL.alloc (Want.plain rfl) rfl rfl rfl z37 (fun b16 => ?_)
                change TL _ _ _ _ _ _ _ _ _ [blkA b16 [(.int .u8 0), (.int .u8 0), (.int .u8 0), (.int .u8 0), (.int .u8 0), (.int .u8 0), (.int .u8 0), (.int .u8 0), (.int .u8 0), (.int .u8 0), (.int .u8 0), (.int .u8 0), (.int .u8 0), (.int .u8 0), (.int .u8 0), (.int .u8 0), (.int .u8 0), (.int .u8 0), (.int .u8 0), (.int .u8 0), (.int .u8 0), (.int .u8 0), (.int .u8 0), (.int .u8 0), (.int .u8 0), (.int .u8 0), (.int .u8 0), (.int .u8 0), (.int .u8 0), (.int .u8 0), (.int .u8 0), (.int .u8 0), (.int .u8 0), (.int .u8 0), (.int .u8 0), (.int .u8 0), (.int .u8 0), (.int .u8 0), (.int .u8 0), (.int .u8 0), (.int .u8 0), (.int .u8 0), (.int .u8 0), (.int .u8 0), (.int .u8 0), (.int .u8 0), (.int .u8 0), (.int .u8 0), (.int .u8 0), (.int .u8 0), (.int .u8 0), (.int .u8 0), (.int .u8 0), (.int .u8 0), (.int .u8 0), (.int .u8 0), (.int .u8 0), (.int .u8 0), (.int .u8 0), (.int .u8 0), (.int .u8 0), (.int .u8 0), (.int .u8 0), (.int .u8 0)] 37, dk d (sC data more c0 c1 c2), blkA b5 [(.int .i64 (c0)), (.int .i64 (c1)), (.int .i64 (c2))] 45]
                refine TL.store (vs := u8s ((sC data more c0 c1 c2).read (100 + ((l : Nat) : Int)))) (i := 0) (H' := [blkA b16 (u8s ((sC data more c0 c1 c2).read (100 + ((l : Nat) : Int)))) 37, dk d (sC data more c0 c1 c2), blkA b5 [(.int .i64 (c0)), (.int .i64 (c1)), (.int .i64 (c2))] 45]) (Want.plain rfl) rfl rfl rfl rfl rfl (by rw [u8s_length, DS.read_len (sC_ok hd hm) _]; exact sz37) (u8s_one _) rfl rfl (by rw [u8s_length, DS.read_len (sC_ok hd hm) _]; first | exact Nat.le_refl _ | (rw [rfl]; exact Nat.le_refl _)) (wr_whole (by rw [u8s_length, DS.read_len (sC_ok hd hm) _]; first | rfl | exact rfl)) rfl ?_
                refine TL.nil ?_
                refine TE.next hK67 ?_
                clear hK67
                refine TC.seq (fun K68 hK68 => ?_)
                refine TC.draw (fun w => Frm F w ∧ w.heap[b5]? = some (.cells ([(.int .i64 (c0)), (.int .i64 (c1)), (.int .i64 (c2))]).toArray 45 (0, 0)) ∧ w.heap[b16]? = some (.cells (u8s ((sC data more c0 c1 c2).read (100 + ((l : Nat) : Int)))).toArray 37 (0, 0)) ∧ True) mixed rfl (fun _ s => ⟨Frm.of s, s.block 2 (lb rfl) rfl, s.block 0 (lb rfl) rfl, trivial⟩) ?_
                refine TD.take (i := 0) rfl (by kernel_rfl) (by kernel_rfl) (by kernel_rfl) (fun _ _ _ _ h => h) (Want.plain rfl) rfl rfl (PV.move rfl rfl) ?_
                refine TD.take (i := 1) rfl (by kernel_rfl) (by kernel_rfl) (by kernel_rfl) (fun _ _ _ _ h => h) (Want.plain rfl) rfl rfl (PV.indexArr (r := 1) rfl Try.underlying45 sz3 rfl rfl (lz rfl) (lz rfl) rfl) ?_
                refine TD.take (i := 2) rfl (by kernel_rfl) (by kernel_rfl) (by kernel_rfl) (fun _ _ _ _ h => h) (Want.plain rfl) rfl rfl (PV.load1 (v := (.int .i64 (c1))) rfl Try.underlying3 rfl rfl (fun _ h => h.2.1) rfl) ?_
                refine TD.take (i := 3) rfl (by kernel_rfl) (by kernel_rfl) (by kernel_rfl) (fun _ _ _ _ h => h) (Want.plain rfl) rfl rfl (PV.neq rfl rfl rfl) ?_
                refine TD.dec (fun h120 => ?_) (fun h120 => ?_)
                · skip
                  refine TD.take (i := 4) rfl (by kernel_rfl) (by kernel_rfl) (by kernel_rfl) (fun _ _ _ _ h => h) (Want.plain rfl) rfl rfl (PV.move rfl rfl) ?_
                  refine TD.take (i := 5) rfl (by kernel_rfl) (by kernel_rfl) (by kernel_rfl) (fun _ _ _ _ h => h) (Want.met rfl rfl rfl) rfl rfl (PV.loadN (vs := u8s ((sC data more c0 c1 c2).read (100 + ((l : Nat) : Int)))) rfl Try.underlying37 rfl sz37 rfl (fun _ h => h.2.2.1) (by rw [u8s_length]; exact DS.read_len (sC_ok hd hm) _) (take_all (by rw [u8s_length]; exact DS.read_len (sC_ok hd hm) _))) ?_
                  refine TD.take (i := 6) rfl (by kernel_rfl) (by kernel_rfl) (by kernel_rfl) (fun _ _ _ _ h => h) (Want.met rfl rfl rfl) rfl rfl (PV.move rfl rfl) ?_
                  refine TD.all [7] (by kernel_rfl) rfl ?_
                  refine AllT.cons rfl ?_ ?_
                  · skip
                    refine TL.callR (A := []) (B := [blkA b16 (u8s ((sC data more c0 c1 c2).read (100 + ((l : Nat) : Int)))) 37, dk d (sC data more c0 c1 c2), blkA b5 [(.int .i64 (c0)), (.int .i64 (c1)), (.int .i64 (c2))] 45]) (Want.met rfl rfl rfl) rfl rfl rfl nm20 rfl (pad_does u_e (more[l]) (by first | exact hk2 _ _ (by omega) | exact hm2 _ _ (by omega))) (fun _ s => s) (fun g d _ => IsW.more hu_e d) (fun vR HR hR => ?_)
                    obtain ⟨rfl, rfl⟩ := hR
                    change TL _ _ _ _ _ _ _ _ _ [blkA b16 (u8s ((sC data more c0 c1 c2).read (100 + ((l : Nat) : Int)))) 37, dk d (sC data more c0 c1 c2), blkA b5 [(.int .i64 (c0)), (.int .i64 (c1)), (.int .i64 (c2))] 45]
                    refine TL.nil ?_
                    refine TE.draw (fun _ s => ⟨Frm.of s, s.block 2 (lb rfl) rfl, s.block 0 (lb rfl) rfl, trivial⟩) ?_
                    refine TD.take (i := 8) rfl (by kernel_rfl) (by kernel_rfl) (by kernel_rfl) (fun _ _ _ _ h => h) (Want.met rfl rfl rfl) rfl rfl (PV.neqB (a := ((sC data more c0 c1 c2).read (100 + ((l : Nat) : Int)))) (b := (padS more[l])) (m := 2) sg37 sk37 rfl sf37 sa37 sc37 (DS.read_len (sC_ok hd hm) _) (padS_len (by first | exact hk2 _ _ (by omega) | exact hm2 _ _ (by omega))) rfl rfl rfl) ?_
                    refine TD.dec (fun h125 => ?_) (fun h125 => ?_)
                    · skip
                      refine TD.take (i := 9) rfl (by kernel_rfl) (by kernel_rfl) (by kernel_rfl) (fun _ _ _ _ h => h) (Want.plain rfl) rfl rfl (PV.pick rfl rfl rfl) ?_
                      refine TD.take (i := 10) rfl (by kernel_rfl) (by kernel_rfl) (by kernel_rfl) (fun _ _ _ _ h => h) (Want.plain rfl) rfl rfl (PV.move rfl rfl) ?_
                      refine TD.take (i := 11) rfl (by kernel_rfl) (by kernel_rfl) (by kernel_rfl) (fun _ _ _ _ h => h) (Want.met rfl rfl rfl) rfl rfl (PV.loadN (vs := u8s ((sC data more c0 c1 c2).read (100 + ((l : Nat) : Int)))) rfl Try.underlying37 rfl sz37 rfl (fun _ h => h.2.2.1) (by rw [u8s_length]; exact DS.read_len (sC_ok hd hm) _) (take_all (by rw [u8s_length]; exact DS.read_len (sC_ok hd hm) _))) ?_
                      refine TD.take (i := 12) rfl (by kernel_rfl) (by kernel_rfl) (by kernel_rfl) (fun _ _ _ _ h => h) (Want.met rfl rfl rfl) rfl rfl (PV.build (cells := (u8s zs).toArray) rfl rfl (by as_aux_lemma => kernel_rfl)) ?_
                      refine TD.take (i := 13) rfl (by kernel_rfl) (by kernel_rfl) (by kernel_rfl) (fun _ _ _ _ h => h) (Want.met rfl rfl rfl) rfl rfl (PV.neqB (a := ((sC data more c0 c1 c2).read (100 + ((l : Nat) : Int)))) (b := zs) (m := 2) sg37 sk37 rfl sf37 sa37 sc37 (DS.read_len (sC_ok hd hm) _) (by decide) rfl rfl rfl) ?_
                      refine TD.dec (fun h130 => ?_) (fun h130 => ?_)
                      · exact absurd (sC_more (data := data) (more := more) (k := l) (mask := c0) (n := c2) (by omega) (by omega) h120) (by simp [h125, h130])
                      · skip
                        refine TD.take (i := 14) rfl (by kernel_rfl) (by kernel_rfl) (by kernel_rfl) (fun _ _ _ _ h => h) (Want.plain rfl) rfl rfl (PV.pick rfl rfl rfl) ?_
                        refine TD.done (by kernel_rfl) ?_
                        refine TE.next hK68 ?_
                        clear hK68
                        refine TC.no rfl ?_
                        refine TC.skip ?_
                        refine TE.blockEnd ?_
                        refine TE.next hK65 ?_
                        clear hK65
                        refine TC.region ?_
                        refine TL.v (Want.plain rfl) rfl rfl (PV.add rfl rfl rfl (wrap_i64 (by omega) (by omega))) ?_
                        refine TL.v (Want.plain rfl) rfl rfl (PV.move rfl rfl) ?_
                        refine TL.nil ?_
                        exact TE.round ((l + 1) : (Nat)) (by omega) (by show more.length - (l + 1) < more.length - l; omega)
                          (Sub.cons rfl rfl (Sub.cons rfl rfl (Sub.cons rfl rfl (Sub.cons rfl rfl (Sub.cons rfl (by simp) (Sub.nil _))))))
                          (fun _ s => sep_keep [1, 1] rfl s)
                    · skip
                      refine TD.take (i := 9) rfl (by kernel_rfl) (by kernel_rfl) (by kernel_rfl) (fun _ _ _ _ h => h) (Want.plain rfl) rfl rfl (PV.pick rfl rfl rfl) ?_
                      refine TD.take (i := 10) rfl (by kernel_rfl) (by kernel_rfl) (by kernel_rfl) (fun _ _ _ _ h => h) (Want.plain rfl) rfl rfl (PV.move rfl rfl) ?_
                      refine TD.takeNot (i := 11) (b := false) rfl (by kernel_rfl) (by kernel_rfl) (by kernel_rfl) (fun _ _ _ _ h => h) rfl rfl rfl rfl rfl ?_
                      refine TD.takeNot (i := 12) (b := false) rfl (by kernel_rfl) (by kernel_rfl) (by kernel_rfl) (fun _ _ _ _ h => h) rfl rfl rfl rfl rfl ?_
                      refine TD.takeNot (i := 13) (b := false) rfl (by kernel_rfl) (by kernel_rfl) (by kernel_rfl) (fun _ _ _ _ h => h) rfl rfl rfl rfl rfl ?_
                      refine TD.take (i := 14) rfl (by kernel_rfl) (by kernel_rfl) (by kernel_rfl) (fun _ _ _ _ h => h) (Want.plain rfl) rfl rfl (PV.pick rfl rfl rfl) ?_
                      refine TD.done (by kernel_rfl) ?_
                      refine TE.next hK68 ?_
                      clear hK68
                      refine TC.no rfl ?_
                      refine TC.skip ?_
                      refine TE.blockEnd ?_
                      refine TE.next hK65 ?_
                      clear hK65
                      refine TC.region ?_
                      refine TL.v (Want.plain rfl) rfl rfl (PV.add rfl rfl rfl (wrap_i64 (by omega) (by omega))) ?_
                      refine TL.v (Want.plain rfl) rfl rfl (PV.move rfl rfl) ?_
                      refine TL.nil ?_
                      exact TE.round ((l + 1) : (Nat)) (by omega) (by show more.length - (l + 1) < more.length - l; omega)
                        (Sub.cons rfl rfl (Sub.cons rfl rfl (Sub.cons rfl rfl (Sub.cons rfl rfl (Sub.cons rfl (by simp) (Sub.nil _))))))
                        (fun _ s => sep_keep [1, 1] rfl s)
                  exact AllT.nil
                · skip
                  refine TD.take (i := 4) rfl (by kernel_rfl) (by kernel_rfl) (by kernel_rfl) (fun _ _ _ _ h => h) (Want.plain rfl) rfl rfl (PV.move rfl rfl) ?_
                  refine TD.takeNot (i := 5) (b := false) rfl (by kernel_rfl) (by kernel_rfl) (by kernel_rfl) (fun _ _ _ _ h => h) rfl rfl rfl rfl rfl ?_
                  refine TD.takeNot (i := 6) (b := false) rfl (by kernel_rfl) (by kernel_rfl) (by kernel_rfl) (fun _ _ _ _ h => h) rfl rfl rfl rfl rfl ?_
                  refine TD.takeNot (i := 7) (b := false) rfl (by kernel_rfl) (by kernel_rfl) (by kernel_rfl) (fun _ _ _ _ h => h) rfl rfl rfl rfl rfl ?_
                  refine TD.takeNot (i := 8) (b := false) rfl (by kernel_rfl) (by kernel_rfl) (by kernel_rfl) (fun _ _ _ _ h => h) rfl rfl rfl rfl rfl ?_
                  refine TD.take (i := 9) rfl (by kernel_rfl) (by kernel_rfl) (by kernel_rfl) (fun _ _ _ _ h => h) (Want.plain rfl) rfl rfl (PV.pick rfl rfl rfl) ?_
                  refine TD.take (i := 10) rfl (by kernel_rfl) (by kernel_rfl) (by kernel_rfl) (fun _ _ _ _ h => h) (Want.plain rfl) rfl rfl (PV.move rfl rfl) ?_
                  refine TD.takeNot (i := 11) (b := false) rfl (by kernel_rfl) (by kernel_rfl) (by kernel_rfl) (fun _ _ _ _ h => h) rfl rfl rfl rfl rfl ?_
                  refine TD.takeNot (i := 12) (b := false) rfl (by kernel_rfl) (by kernel_rfl) (by kernel_rfl) (fun _ _ _ _ h => h) rfl rfl rfl rfl rfl ?_
                  refine TD.takeNot (i := 13) (b := false) rfl (by kernel_rfl) (by kernel_rfl) (by kernel_rfl) (fun _ _ _ _ h => h) rfl rfl rfl rfl rfl ?_
                  refine TD.take (i := 14) rfl (by kernel_rfl) (by kernel_rfl) (by kernel_rfl) (fun _ _ _ _ h => h) (Want.plain rfl) rfl rfl (PV.pick rfl rfl rfl) ?_
                  refine TD.done (by kernel_rfl) ?_
                  refine TE.next hK68 ?_
                  clear hK68
                  refine TC.no rfl ?_
                  refine TC.skip ?_
                  refine TE.blockEnd ?_
                  refine TE.next hK65 ?_
                  clear hK65
                  refine TC.region ?_
                  refine TL.v (Want.plain rfl) rfl rfl (PV.add rfl rfl rfl (wrap_i64 (by omega) (by omega))) ?_
                  refine TL.v (Want.plain rfl) rfl rfl (PV.move rfl rfl) ?_
                  refine TL.nil ?_
                  exact TE.round ((l + 1) : (Nat)) (by omega) (by show more.length - (l + 1) < more.length - l; omega)
                    (Sub.cons rfl rfl (Sub.cons rfl rfl (Sub.cons rfl rfl (Sub.cons rfl rfl (Sub.cons rfl (by simp) (Sub.nil _))))))
                    (fun _ s => sep_keep [1, 1] rfl s)
              · skip
                refine TL.nil ?_
                refine TE.next hK63 ?_
                clear hK63
                refine TC.seq (fun K69 hK69 => ?_)
                refine TC.no rfl ?_
                refine TC.exit ?_
                refine TE.pass ?_
                clear hK69
                refine TE.pass ?_
                refine TE.hit ?_
                refine TE.next hK61 ?_
                clear hK61
                refine TC.seq (fun K70 hK70 => ?_)
                refine TC.region ?_
                refine TL.v (Want.plain rfl) rfl rfl (PV.move rfl rfl) ?_
                refine TL.callR (A := [dk d (sC data more c0 c1 c2)]) (B := [blkA b5 [(.int .i64 (c0)), (.int .i64 (c1)), (.int .i64 (c2))] 45]) (Want.plain rfl) rfl rfl rfl nm16 rfl (dk_down d (sC data more c0 c1 c2) ) (fun _ s => s) (fun _ _ _ => trivial) (fun vR HR hR => ?_)
                obtain ⟨hv, rfl⟩ := hR
                subst hv
                change TL _ _ _ _ _ _ _ _ _ [dk d (sC data more c0 c1 c2), blkA b5 [(.int .i64 (c0)), (.int .i64 (c1)), (.int .i64 (c2))] 45]
                refine TL.v (Want.plain rfl) rfl rfl (PV.not (r := true) rfl rfl rfl) ?_
                refine TL.v (Want.plain rfl) rfl rfl (PV.move rfl rfl) ?_
                refine TL.v (Want.met rfl rfl rfl) rfl rfl (PV.move rfl rfl) ?_
                refine TL.callR (A := [dk d (sC data more c0 c1 c2)]) (B := [blkA b5 [(.int .i64 (c0)), (.int .i64 (c1)), (.int .i64 (c2))] 45]) (Want.met rfl rfl rfl) rfl rfl rfl nm18 rfl (dk_waits d (sC data more c0 c1 c2) ) (fun _ s => s) (fun _ _ _ => trivial) (fun vR HR hR => ?_)
                obtain ⟨hv, rfl⟩ := hR
                subst hv
                change TL _ _ _ _ _ _ _ _ _ [dk d (sC data more c0 c1 c2), blkA b5 [(.int .i64 (c0)), (.int .i64 (c1)), (.int .i64 (c2))] 45]
                refine TL.v (Want.met rfl rfl rfl) rfl rfl (PV.eql rfl rfl rfl) ?_
                refine TL.v (Want.plain rfl) rfl rfl (PV.pick rfl rfl rfl) ?_
                refine TL.v (Want.plain rfl) rfl rfl (PV.assign rfl rfl) ?_
                refine TL.nil ?_
                refine TE.next hK70 ?_
                clear hK70
                refine TC.ret ?_
                refine TE.weak (Sub.refl _) (fun _ s => sep_keep [] rfl s) ?_
                refine TE.ret1 rfl rfl ?_
                exact ⟨rfl, rfl⟩


theorem diskSures_list (vd vm : Value) (data more : List (List UInt8)) (l : List Int) (hl : l.length = 3) : Does Try.prog 5 #[vd, vm, agI l] (fun F => IsBB vd data F ∧ IsBB vm more F) [] (Ret (fun v H => v = .bool true ∧ H = [])) := by
  match l, hl with
  | [a, b, c], _ => exact diskSures_does vd vm data more a b c

end Go.Proofs.Ytocdameafihnaaa
