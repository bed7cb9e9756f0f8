/-
  Joined texts: what a statement's proof reaches.
-/
import Derived.Test.YtobdfjdoilnfcaaGreatPWit6
set_option maxHeartbeats 8000000
section
namespace Go.Proofs.YtobdfjdoilnfcaaGreat

open Go Leg Codec Api Dsk Wal

set_option linter.unusedSimpArgs false
set_option linter.unusedVariables false

set_option maxRecDepth 100000

set_option maxHeartbeats 8000000

theorem wayLost0 (c n i j : Nat) (D M P : Nat → Value) (hi : i < 5) (hj : j < 5) (hv : validB ((i : Nat) : Int) ((j : Nat) : Int) = true) (W : List (List (List UInt8))) (hW : W.length = 25) (hk : W.getD (wayK ((i : Nat) : Int) ((j : Nat) : Int)) [] = []) (bs : List Nat) :
    Leg.Does Tryz.prog 42 #[(.pointer (some ⟨c, 0, none⟩)), (.agg (ints (OpT.mk 5 ((i : Nat) : Int) ((j : Nat) : Int) 0 0 ChangeT.zero 0 0 0).flat).toArray)] (fun _ => True) [blkA n (ptrsN bs) 120, boxesP 167 5 bs (W), blkA c (clC n D M P) 80] (Ret (fun v H => v = .int .i64 10 ∧ H = [blkA c (clC n D M P) 80, netP 120 167 5 n (W)])) := by
 refine Leg.Does.body (n := 91) Tryz.func42 rfl rfl rfl (fun w0 F hF => ?_)
 refine sr fun _ J1 => ?_
 refine TL.box (Want.plain rfl) rfl rfl rfl rfl (fun b3 => ?_)
 change TL _ _ _ _ _ _ _ _ _ [blkA b3 (ints (OpT.mk 5 ((i : Nat) : Int) ((j : Nat) : Int) 0 0 ChangeT.zero 0 0 0).flat) 30, blkA n (ptrsN bs) 120, boxesP 167 5 bs (W), blkA c (clC n D M P) 80]
 refine PS ?_
 refine nx J1 ?_
 refine TC.seq fun _ J2 => ?_
 refine D2 0 3 mixedD ?_
 refine PD 0 ?_
 refine PD 1 ?_
 refine FD 2 0 Tryz.underlying80 sz74 ?_
 refine ta 3 rfl (PV.load1 (v := (.pointer (some ⟨n, 0, none⟩))) rfl Tryz.underlying74 rfl rfl (fun _ h => h.2.2.1) (cl_n n D M P)) ?_
 refine FD 4 1 Tryz.underlying30 sz3 ?_
 refine ta 5 rfl (PV.load1 (v := (.int .i64 (((i : Nat) : Int)))) rfl Tryz.underlying3 rfl rfl (fun _ h => h.2.1) (OpT.at_at' _ rfl)) ?_
 refine FD 6 2 Tryz.underlying30 sz3 ?_
 refine ta 7 rfl (PV.load1 (v := (.int .i64 (((j : Nat) : Int)))) rfl Tryz.underlying3 rfl rfl (fun _ h => h.2.1) (OpT.at_to' _ rfl)) ?_
 refine TD.all [8] (by kernel_rfl) rfl ?_
 refine AllT.cons rfl ?_ ?_
 refine CR nm70 (way_does n bs ((i : Nat) : Int) ((j : Nat) : Int)) (SM [1]) fun vR HR hR => ?_
 obtain ⟨hw, rfl⟩ := hR
 obtain ⟨_, rfl⟩ : validB ((i : Nat) : Int) ((j : Nat) : Int) = true ∧ vR = .pointer (some ⟨(bs.getD (wayK ((i : Nat) : Int) ((j : Nat) : Int)) 0), 0, none⟩) := hw.resolve_right (fun q => by rw [hv] at q; cases q.1)
 refine TL.nil ?_
 refine E2 1 3 ?_
 refine PD 9 ?_
 refine TD.done (by kernel_rfl) ?_
 refine TE.next J2 ?_
 refine TC.seq fun _ J3 => ?_
 refine sr fun _ J4 => ?_
 refine PS ?_
 refine tp (PV.ptrNil rfl Tryz.underlying116 rfl rfl) ?_
 refine nx J4 ?_
 refine CN ?_
 refine CX J3 ?_
 refine TC.seq fun _ J5 => ?_
 refine sr fun _ J6 => ?_
 refine PS ?_
 refine TL.mono (H' := [boxP 167 5 (bs.getD (wayK ((i : Nat) : Int) ((j : Nat) : Int)) 0) (W.getD (wayK ((i : Nat) : Int) ((j : Nat) : Int)) []), boxesBut 167 5 bs W (wayK ((i : Nat) : Int) ((j : Nat) : Int)), blkA n (ptrsN bs) 120, blkA b3 (ints (OpT.mk 5 ((i : Nat) : Int) ((j : Nat) : Int) 0 0 ChangeT.zero 0 0 0).flat) 30, blkA c (clC n D M P) 80]) (fun _ s => way_open hv (sep_selR [2] rfl s)) ?_
 refine CR nm71 (boxLen_does (bs.getD (wayK ((i : Nat) : Int) ((j : Nat) : Int)) 0) (W.getD (wayK ((i : Nat) : Int) ((j : Nat) : Int)) [])) (fun _ s => s) fun vR HR hR => ?_
 obtain ⟨rfl, rfl⟩ := hR
 change TL _ _ _ _ _ _ _ _ _ [boxP 167 5 (bs.getD (wayK ((i : Nat) : Int) ((j : Nat) : Int)) 0) (W.getD (wayK ((i : Nat) : Int) ((j : Nat) : Int)) []), boxesBut 167 5 bs W (wayK ((i : Nat) : Int) ((j : Nat) : Int)), blkA n (ptrsN bs) 120, blkA b3 (ints (OpT.mk 5 ((i : Nat) : Int) ((j : Nat) : Int) 0 0 ChangeT.zero 0 0 0).flat) 30, blkA c (clC n D M P) 80]
 refine TL.mono (H' := [boxesP 167 5 bs (W), blkA n (ptrsN bs) 120, blkA b3 (ints (OpT.mk 5 ((i : Nat) : Int) ((j : Nat) : Int) 0 0 ChangeT.zero 0 0 0).flat) 30, blkA c (clC n D M P) 80]) (fun _ s => box_shut (validB_k hv).2 (validB_k hv).1 s) ?_
 refine tp (PV.to (v' := (.bool true)) (PV.eql rfl rfl rfl) (by rw [hk]; rfl)) ?_
 refine nx J6 ?_
 refine CY ?_
 refine sr fun _ J7 => ?_
 refine PS ?_
 refine nx J7 ?_
 refine TC.ret ?_
 refine TE.passRet ?_
 refine TE.weak (H' := [blkA c (clC n D M P) 80, netP 120 167 5 n (W)]) (Sub.refl _) (fun _ s => sep_selR [1, 0] rfl (sep_close (p := fun bs : List Nat => [blkA n (ptrsN bs) 120, boxesP 167 5 bs W]) bs (sep_keep [1, 0, 1] rfl s))) ?_
 refine TE.ret1 rfl rfl ?_
 exact ⟨rfl, rfl⟩
 exact AllT.nil
theorem wayLost (c n i j : Nat) (D M P : Nat → Value) (hi : i < 5) (hj : j < 5) (hv : validB ((i : Nat) : Int) ((j : Nat) : Int) = true) (W : List (List (List UInt8))) (hW : W.length = 25) (hk : W.getD (wayK ((i : Nat) : Int) ((j : Nat) : Int)) [] = []) : Leg.Does Tryz.prog 42 #[(.pointer (some ⟨c, 0, none⟩)), (.agg (ints (OpT.mk 5 ((i : Nat) : Int) ((j : Nat) : Int) 0 0 ChangeT.zero 0 0 0).flat).toArray)] (fun _ => True) [blkA c (clC n D M P) 80, netP 120 167 5 n (W)] (Ret (fun v H => v = .int .i64 10 ∧ H = [blkA c (clC n D M P) 80, netP 120 167 5 n (W)])) :=
  Leg.Does.ex (A' := fun bs : List Nat => [blkA n (ptrsN bs) 120, boxesP 167 5 bs W] ++ [blkA c (clC n D M P) 80]) (fun h s => sep_open (sep_selR [1] rfl s)) fun bs => Leg.Does.conv (wayLost0 c n i j D M P hi hj hv W hW hk bs) (fun h s => sep_selR [0, 0, 0] rfl s) fun e H F w hp hs => ⟨H, hs, hp⟩

theorem wayDown0 (c n i j : Nat) (D M P : Nat → Value) (hi : i < 5) (hj : j < 5) (hv : validB ((i : Nat) : Int) ((j : Nat) : Int) = true) (W : List (List (List UInt8))) (hW : W.length = 25) (by' : List UInt8) (ls : List (List UInt8)) (hk : W.getD (wayK ((i : Nat) : Int) ((j : Nat) : Int)) [] = frameB ((i : Nat) : Int) ((j : Nat) : Int) by' :: ls) (h0 : 0 < by'.length) (hb : by'.length ≤ 100000) (hM : M j = .pointer none) (bs : List Nat) :
    Leg.Does Tryz.prog 42 #[(.pointer (some ⟨c, 0, none⟩)), (.agg (ints (OpT.mk 5 ((i : Nat) : Int) ((j : Nat) : Int) 0 0 ChangeT.zero 0 0 0).flat).toArray)] (fun _ => True) [blkA n (ptrsN bs) 120, boxesP 167 5 bs (W), blkA c (clC n D M P) 80] (Ret (fun v H => v = .int .i64 0 ∧ H = [blkA c (clC n D M P) 80, netP 120 167 5 n (W.set (wayK ((i : Nat) : Int) ((j : Nat) : Int)) ls)])) := by
 refine Leg.Does.body (n := 91) Tryz.func42 rfl rfl rfl (fun w0 F hF => ?_)
 have hln : 0 < (W.getD (wayK ((i : Nat) : Int) ((j : Nat) : Int)) []).length := by rw [hk]; exact Nat.succ_pos _
 refine sr fun _ J1 => ?_
 refine TL.box (Want.plain rfl) rfl rfl rfl rfl (fun b3 => ?_)
 change TL _ _ _ _ _ _ _ _ _ [blkA b3 (ints (OpT.mk 5 ((i : Nat) : Int) ((j : Nat) : Int) 0 0 ChangeT.zero 0 0 0).flat) 30, blkA n (ptrsN bs) 120, boxesP 167 5 bs (W), blkA c (clC n D M P) 80]
 refine PS ?_
 refine nx J1 ?_
 refine TC.seq fun _ J2 => ?_
 refine D2 0 3 mixedD ?_
 refine PD 0 ?_
 refine PD 1 ?_
 refine FD 2 0 Tryz.underlying80 sz74 ?_
 refine ta 3 rfl (PV.load1 (v := (.pointer (some ⟨n, 0, none⟩))) rfl Tryz.underlying74 rfl rfl (fun _ h => h.2.2.1) (cl_n n D M P)) ?_
 refine FD 4 1 Tryz.underlying30 sz3 ?_
 refine ta 5 rfl (PV.load1 (v := (.int .i64 (((i : Nat) : Int)))) rfl Tryz.underlying3 rfl rfl (fun _ h => h.2.1) (OpT.at_at' _ rfl)) ?_
 refine FD 6 2 Tryz.underlying30 sz3 ?_
 refine ta 7 rfl (PV.load1 (v := (.int .i64 (((j : Nat) : Int)))) rfl Tryz.underlying3 rfl rfl (fun _ h => h.2.1) (OpT.at_to' _ rfl)) ?_
 refine TD.all [8] (by kernel_rfl) rfl ?_
 refine AllT.cons rfl ?_ ?_
 refine CR nm70 (way_does n bs ((i : Nat) : Int) ((j : Nat) : Int)) (SM [1]) fun vR HR hR => ?_
 obtain ⟨hw, rfl⟩ := hR
 obtain ⟨_, rfl⟩ : validB ((i : Nat) : Int) ((j : Nat) : Int) = true ∧ vR = .pointer (some ⟨(bs.getD (wayK ((i : Nat) : Int) ((j : Nat) : Int)) 0), 0, none⟩) := hw.resolve_right (fun q => by rw [hv] at q; cases q.1)
 refine TL.nil ?_
 refine E2 1 3 ?_
 refine PD 9 ?_
 refine TD.done (by kernel_rfl) ?_
 refine TE.next J2 ?_
 refine TC.seq fun _ J3 => ?_
 refine sr fun _ J4 => ?_
 refine PS ?_
 refine tp (PV.ptrNil rfl Tryz.underlying116 rfl rfl) ?_
 refine nx J4 ?_
 refine CN ?_
 refine CX J3 ?_
 refine TC.seq fun _ J5 => ?_
 refine sr fun _ J6 => ?_
 refine PS ?_
 refine TL.mono (H' := [boxP 167 5 (bs.getD (wayK ((i : Nat) : Int) ((j : Nat) : Int)) 0) (W.getD (wayK ((i : Nat) : Int) ((j : Nat) : Int)) []), boxesBut 167 5 bs W (wayK ((i : Nat) : Int) ((j : Nat) : Int)), blkA n (ptrsN bs) 120, blkA b3 (ints (OpT.mk 5 ((i : Nat) : Int) ((j : Nat) : Int) 0 0 ChangeT.zero 0 0 0).flat) 30, blkA c (clC n D M P) 80]) (fun _ s => way_open hv (sep_selR [2] rfl s)) ?_
 refine CR nm71 (boxLen_does (bs.getD (wayK ((i : Nat) : Int) ((j : Nat) : Int)) 0) (W.getD (wayK ((i : Nat) : Int) ((j : Nat) : Int)) [])) (fun _ s => s) fun vR HR hR => ?_
 obtain ⟨rfl, rfl⟩ := hR
 change TL _ _ _ _ _ _ _ _ _ [boxP 167 5 (bs.getD (wayK ((i : Nat) : Int) ((j : Nat) : Int)) 0) (W.getD (wayK ((i : Nat) : Int) ((j : Nat) : Int)) []), boxesBut 167 5 bs W (wayK ((i : Nat) : Int) ((j : Nat) : Int)), blkA n (ptrsN bs) 120, blkA b3 (ints (OpT.mk 5 ((i : Nat) : Int) ((j : Nat) : Int) 0 0 ChangeT.zero 0 0 0).flat) 30, blkA c (clC n D M P) 80]
 refine TL.mono (H' := [boxesP 167 5 bs (W), blkA n (ptrsN bs) 120, blkA b3 (ints (OpT.mk 5 ((i : Nat) : Int) ((j : Nat) : Int) 0 0 ChangeT.zero 0 0 0).flat) 30, blkA c (clC n D M P) 80]) (fun _ s => box_shut (validB_k hv).2 (validB_k hv).1 s) ?_
 refine PS ?_
 refine TL.dec (fun h23 => ?_) (fun h23 => ?_)
 · exact absurd h23 (by omega)
 refine nx J6 ?_
 refine CN ?_
 refine CX J5 ?_
 refine TC.seq fun _ J7 => ?_
 refine sr fun _ J8 => ?_
 refine FA 0 Tryz.underlying30 sz3 ?_
 refine tp (PV.load1 (v := (.int .i64 5)) rfl Tryz.underlying3 rfl rfl (RO 2) (OpT.at_kind _ rfl)) ?_
 refine PS ?_
 refine nx J8 ?_
 refine CN ?_
 refine CX J7 ?_
 refine TC.seq fun _ J9 => ?_
 refine TC.seq fun _ J10 => ?_
 refine D1 2 mixedD ?_
 refine FD 0 4 Tryz.underlying30 sz3 ?_
 refine ta 1 rfl (PV.load1 (v := (.int .i64 0)) rfl Tryz.underlying3 rfl rfl (fun _ h => h.2.1) (OpT.at_n _ rfl)) ?_
 refine ta 2 rfl (PV.to (v' := (.int .i64 0)) (PV.maxI rfl rfl rfl) rfl) ?_
 refine PD 3 ?_
 refine PD 6 ?_
 refine TD.all [4] (by kernel_rfl) rfl ?_
 refine AllT.cons rfl ?_ ?_
 refine TL.mono (H' := [boxP 167 5 (bs.getD (wayK ((i : Nat) : Int) ((j : Nat) : Int)) 0) (W.getD (wayK ((i : Nat) : Int) ((j : Nat) : Int)) []), boxesBut 167 5 bs W (wayK ((i : Nat) : Int) ((j : Nat) : Int)), blkA n (ptrsN bs) 120, blkA b3 (ints (OpT.mk 5 ((i : Nat) : Int) ((j : Nat) : Int) 0 0 ChangeT.zero 0 0 0).flat) 30, blkA c (clC n D M P) 80]) (fun _ s => way_open hv (sep_selR [0] rfl s)) ?_
 refine CR nm71 (boxLen_does (bs.getD (wayK ((i : Nat) : Int) ((j : Nat) : Int)) 0) (W.getD (wayK ((i : Nat) : Int) ((j : Nat) : Int)) [])) (fun _ s => s) fun vR HR hR => ?_
 obtain ⟨rfl, rfl⟩ := hR
 change TL _ _ _ _ _ _ _ _ _ [boxP 167 5 (bs.getD (wayK ((i : Nat) : Int) ((j : Nat) : Int)) 0) (W.getD (wayK ((i : Nat) : Int) ((j : Nat) : Int)) []), boxesBut 167 5 bs W (wayK ((i : Nat) : Int) ((j : Nat) : Int)), blkA n (ptrsN bs) 120, blkA b3 (ints (OpT.mk 5 ((i : Nat) : Int) ((j : Nat) : Int) 0 0 ChangeT.zero 0 0 0).flat) 30, blkA c (clC n D M P) 80]
 refine TL.mono (H' := [boxesP 167 5 bs (W), blkA n (ptrsN bs) 120, blkA b3 (ints (OpT.mk 5 ((i : Nat) : Int) ((j : Nat) : Int) 0 0 ChangeT.zero 0 0 0).flat) 30, blkA c (clC n D M P) 80]) (fun _ s => box_shut (validB_k hv).2 (validB_k hv).1 s) ?_
 refine TL.nil ?_
 refine E1 2 ?_
 refine ta 5 rfl (PV.rem (r := 0) rfl rfl rfl (by omega) (Int.zero_tmod _)) ?_
 refine TD.done (by kernel_rfl) ?_
 refine TE.next J10 ?_
 refine TC.block ?_
 refine TC.unroll 1 ?_
 refine sr fun _ J11 => ?_
 refine PS ?_
 refine nx J11 ?_
 refine TC.seq fun _ J12 => ?_
 refine CN ?_
 refine TC.exit ?_
 refine TE.pass ?_
 refine TE.pass ?_
 refine TE.hit ?_
 refine TE.next J9 ?_
 refine TC.seq fun _ J13 => ?_
 refine D2 2 3 mixedD ?_
 refine PD 0 ?_
 refine PD 1 ?_
 refine FD 2 0 Tryz.underlying80 sz74 ?_
 refine ta 3 rfl (PV.load1 (v := (.pointer (some ⟨n, 0, none⟩))) rfl Tryz.underlying74 rfl rfl (fun _ h => h.2.2.1) (cl_n n D M P)) ?_
 refine FD 4 1 Tryz.underlying30 sz3 ?_
 refine ta 5 rfl (PV.load1 (v := (.int .i64 (((i : Nat) : Int)))) rfl Tryz.underlying3 rfl rfl (fun _ h => h.2.1) (OpT.at_at' _ rfl)) ?_
 refine FD 6 2 Tryz.underlying30 sz3 ?_
 refine ta 7 rfl (PV.load1 (v := (.int .i64 (((j : Nat) : Int)))) rfl Tryz.underlying3 rfl rfl (fun _ h => h.2.1) (OpT.at_to' _ rfl)) ?_
 refine TD.all [8] (by kernel_rfl) rfl ?_
 refine AllT.cons rfl ?_ ?_
 refine TL.mono (H' := [netP 120 167 5 n (W), blkA b3 (ints (OpT.mk 5 ((i : Nat) : Int) ((j : Nat) : Int) 0 0 ChangeT.zero 0 0 0).flat) 30, blkA c (clC n D M P) 80]) (fun _ s => sep_close (p := fun bs : List Nat => [blkA n (ptrsN bs) 120, boxesP 167 5 bs W]) bs (sep_selR [1, 0] rfl s)) ?_
 refine CR nm74 (linkTake_does n W ((i : Nat) : Int) ((j : Nat) : Int) by' ls hv hW hk h0 hb) (fun _ s => s) fun vR HR hR => ?_
 obtain ⟨uv, rfl, rfl⟩ := hR
 refine TL.nil ?_
 refine E2 2 3 ?_
 refine PD 9 ?_
 refine ta 10 rfl (PV.extract (vs := [uv, (.bool true)]) rfl rfl rfl) ?_
 refine ta 11 rfl (PV.extract (vs := [uv, (.bool true)]) rfl rfl rfl) ?_
 refine PD 12 ?_
 refine PD 13 ?_
 refine TD.done (by kernel_rfl) ?_
 refine TE.next J13 ?_
 refine TC.seq fun _ J14 => ?_
 refine sr fun _ J15 => ?_
 refine FA 0 Tryz.underlying30 sz3 ?_
 refine tp (PV.load1 (v := (.int .i64 5)) rfl Tryz.underlying3 rfl rfl (RO 2) (OpT.at_kind _ rfl)) ?_
 refine PS ?_
 refine PS ?_
 refine PS ?_
 refine tq (PV.not (r := false) rfl rfl rfl) ?_
 refine PS ?_
 refine PS ?_
 refine PS ?_
 refine FA 2 Tryz.underlying30 sz3 ?_
 refine tq (PV.load1 (v := (.int .i64 (((j : Nat) : Int)))) rfl Tryz.underlying3 rfl rfl (RO 2) (OpT.at_to' _ rfl)) ?_
 refine CR nm13 (up0_does c n j D M P hj hM) (SM [3]) fun vR HR hR => ?_
 obtain ⟨rfl, rfl⟩ := hR
 refine tq (PV.not (r := true) rfl rfl rfl) ?_
 refine PS ?_
 refine nx J15 ?_
 refine CY ?_
 refine sr fun _ J16 => ?_
 refine PS ?_
 refine nx J16 ?_
 refine TC.ret ?_
 refine TE.passRet ?_
 refine WK [0, 0] ?_
 refine TE.ret1 rfl rfl ?_
 exact ⟨rfl, rfl⟩
 exact AllT.nil
 exact AllT.nil
 exact AllT.nil
theorem wayDown (c n i j : Nat) (D M P : Nat → Value) (hi : i < 5) (hj : j < 5) (hv : validB ((i : Nat) : Int) ((j : Nat) : Int) = true) (W : List (List (List UInt8))) (hW : W.length = 25) (by' : List UInt8) (ls : List (List UInt8)) (hk : W.getD (wayK ((i : Nat) : Int) ((j : Nat) : Int)) [] = frameB ((i : Nat) : Int) ((j : Nat) : Int) by' :: ls) (h0 : 0 < by'.length) (hb : by'.length ≤ 100000) (hM : M j = .pointer none) : Leg.Does Tryz.prog 42 #[(.pointer (some ⟨c, 0, none⟩)), (.agg (ints (OpT.mk 5 ((i : Nat) : Int) ((j : Nat) : Int) 0 0 ChangeT.zero 0 0 0).flat).toArray)] (fun _ => True) [blkA c (clC n D M P) 80, netP 120 167 5 n (W)] (Ret (fun v H => v = .int .i64 0 ∧ H = [blkA c (clC n D M P) 80, netP 120 167 5 n (W.set (wayK ((i : Nat) : Int) ((j : Nat) : Int)) ls)])) :=
  Leg.Does.ex (A' := fun bs : List Nat => [blkA n (ptrsN bs) 120, boxesP 167 5 bs W] ++ [blkA c (clC n D M P) 80]) (fun h s => sep_open (sep_selR [1] rfl s)) fun bs => Leg.Does.conv (wayDown0 c n i j D M P hi hj hv W hW by' ls hk h0 hb hM bs) (fun h s => sep_selR [0, 0, 0] rfl s) fun e H F w hp hs => ⟨H, hs, hp⟩

theorem wayTake00 (c n i j : Nat) (D M P : Nat → Value) (hi : i < 5) (hj : j < 5) (hv : validB ((i : Nat) : Int) ((j : Nat) : Int) = true) (W : List (List (List UInt8))) (hW : W.length = 25) (by' : List UInt8) (ls : List (List UInt8)) (hk : W.getD (wayK ((i : Nat) : Int) ((j : Nat) : Int)) [] = frameB ((i : Nat) : Int) ((j : Nat) : Int) by' :: ls) (h0 : 0 < by'.length) (hb : by'.length ≤ 100000) (d r : Nat) (recs : List (List UInt8)) (hD : D j = .pointer (some ⟨d, 0, none⟩)) (hM : M j = .pointer (some ⟨r, 0, none⟩)) (m : MsgT) (hdec : decM by' = (m, 0)) (x : RepT) (lg : Nat) (hlog : x.log = .pointer (some ⟨lg, 0, none⟩)) (hkd : m.kind = 0) (hroom : sizeS recs + 34 ≤ 2048) (hx : WF m.row.flat) (hto : ((i : Nat) : Int) ≠ x.id) (bs : List Nat) :
    Leg.Does Tryz.prog 42 #[(.pointer (some ⟨c, 0, none⟩)), (.agg (ints (OpT.mk 5 ((i : Nat) : Int) ((j : Nat) : Int) 0 0 ChangeT.zero 0 0 0).flat).toArray)] (fun _ => True) [blkA n (ptrsN bs) 120, boxesP 167 5 bs (W), blkA c (clC n D M P) 80, dkL d (recs), blkA r (RepT.cells x) 102, lgL lg d (recs)] (Ret (fun v H => v = .int .i64 0 ∧ H = [blkA c (clC n D M P) 80, dkL d (rowC x ((i : Nat) : Int) m.whose m.row recs), netP 120 167 5 n (sendAll (W.set (wayK ((i : Nat) : Int) ((j : Nat) : Int)) ls) j (rowO x ((i : Nat) : Int) m.whose m.row)), blkA r (RepT.cells (rowX x ((i : Nat) : Int) m.whose m.row)) 102, lgL lg d (rowC x ((i : Nat) : Int) m.whose m.row recs)])) := by
 refine Leg.Does.body (n := 91) Tryz.func42 rfl rfl rfl (fun w0 F hF => ?_)
 have hln : 0 < (W.getD (wayK ((i : Nat) : Int) ((j : Nat) : Int)) []).length := by rw [hk]; exact Nat.succ_pos _
 refine sr fun _ J1 => ?_
 refine TL.box (Want.plain rfl) rfl rfl rfl rfl (fun b3 => ?_)
 change TL _ _ _ _ _ _ _ _ _ [blkA b3 (ints (OpT.mk 5 ((i : Nat) : Int) ((j : Nat) : Int) 0 0 ChangeT.zero 0 0 0).flat) 30, blkA n (ptrsN bs) 120, boxesP 167 5 bs (W), blkA c (clC n D M P) 80, dkL d (recs), blkA r (RepT.cells x) 102, lgL lg d (recs)]
 refine PS ?_
 refine nx J1 ?_
 refine TC.seq fun _ J2 => ?_
 refine D2 0 3 mixedD ?_
 refine PD 0 ?_
 refine PD 1 ?_
 refine FD 2 0 Tryz.underlying80 sz74 ?_
 refine ta 3 rfl (PV.load1 (v := (.pointer (some ⟨n, 0, none⟩))) rfl Tryz.underlying74 rfl rfl (fun _ h => h.2.2.1) (cl_n n D M P)) ?_
 refine FD 4 1 Tryz.underlying30 sz3 ?_
 refine ta 5 rfl (PV.load1 (v := (.int .i64 (((i : Nat) : Int)))) rfl Tryz.underlying3 rfl rfl (fun _ h => h.2.1) (OpT.at_at' _ rfl)) ?_
 refine FD 6 2 Tryz.underlying30 sz3 ?_
 refine ta 7 rfl (PV.load1 (v := (.int .i64 (((j : Nat) : Int)))) rfl Tryz.underlying3 rfl rfl (fun _ h => h.2.1) (OpT.at_to' _ rfl)) ?_
 refine TD.all [8] (by kernel_rfl) rfl ?_
 refine AllT.cons rfl ?_ ?_
 refine CR nm70 (way_does n bs ((i : Nat) : Int) ((j : Nat) : Int)) (SM [1]) fun vR HR hR => ?_
 obtain ⟨hw, rfl⟩ := hR
 obtain ⟨_, rfl⟩ : validB ((i : Nat) : Int) ((j : Nat) : Int) = true ∧ vR = .pointer (some ⟨(bs.getD (wayK ((i : Nat) : Int) ((j : Nat) : Int)) 0), 0, none⟩) := hw.resolve_right (fun q => by rw [hv] at q; cases q.1)
 refine TL.nil ?_
 refine E2 1 3 ?_
 refine PD 9 ?_
 refine TD.done (by kernel_rfl) ?_
 refine TE.next J2 ?_
 refine TC.seq fun _ J3 => ?_
 refine sr fun _ J4 => ?_
 refine PS ?_
 refine tp (PV.ptrNil rfl Tryz.underlying116 rfl rfl) ?_
 refine nx J4 ?_
 refine CN ?_
 refine CX J3 ?_
 refine TC.seq fun _ J5 => ?_
 refine sr fun _ J6 => ?_
 refine PS ?_
 refine TL.mono (H' := [boxP 167 5 (bs.getD (wayK ((i : Nat) : Int) ((j : Nat) : Int)) 0) (W.getD (wayK ((i : Nat) : Int) ((j : Nat) : Int)) []), boxesBut 167 5 bs W (wayK ((i : Nat) : Int) ((j : Nat) : Int)), blkA n (ptrsN bs) 120, blkA b3 (ints (OpT.mk 5 ((i : Nat) : Int) ((j : Nat) : Int) 0 0 ChangeT.zero 0 0 0).flat) 30, blkA c (clC n D M P) 80, dkL d (recs), blkA r (RepT.cells x) 102, lgL lg d (recs)]) (fun _ s => way_open hv (sep_selR [2] rfl s)) ?_
 refine CR nm71 (boxLen_does (bs.getD (wayK ((i : Nat) : Int) ((j : Nat) : Int)) 0) (W.getD (wayK ((i : Nat) : Int) ((j : Nat) : Int)) [])) (fun _ s => s) fun vR HR hR => ?_
 obtain ⟨rfl, rfl⟩ := hR
 change TL _ _ _ _ _ _ _ _ _ [boxP 167 5 (bs.getD (wayK ((i : Nat) : Int) ((j : Nat) : Int)) 0) (W.getD (wayK ((i : Nat) : Int) ((j : Nat) : Int)) []), boxesBut 167 5 bs W (wayK ((i : Nat) : Int) ((j : Nat) : Int)), blkA n (ptrsN bs) 120, blkA b3 (ints (OpT.mk 5 ((i : Nat) : Int) ((j : Nat) : Int) 0 0 ChangeT.zero 0 0 0).flat) 30, blkA c (clC n D M P) 80, dkL d (recs), blkA r (RepT.cells x) 102, lgL lg d (recs)]
 refine TL.mono (H' := [boxesP 167 5 bs (W), blkA n (ptrsN bs) 120, blkA b3 (ints (OpT.mk 5 ((i : Nat) : Int) ((j : Nat) : Int) 0 0 ChangeT.zero 0 0 0).flat) 30, blkA c (clC n D M P) 80, dkL d (recs), blkA r (RepT.cells x) 102, lgL lg d (recs)]) (fun _ s => box_shut (validB_k hv).2 (validB_k hv).1 s) ?_
 refine PS ?_
 refine TL.dec (fun h23 => ?_) (fun h23 => ?_)
 · exact absurd h23 (by omega)
 refine nx J6 ?_
 refine CN ?_
 refine CX J5 ?_
 refine TC.seq fun _ J7 => ?_
 refine sr fun _ J8 => ?_
 refine FA 0 Tryz.underlying30 sz3 ?_
 refine tp (PV.load1 (v := (.int .i64 5)) rfl Tryz.underlying3 rfl rfl (RO 2) (OpT.at_kind _ rfl)) ?_
 refine PS ?_
 refine nx J8 ?_
 refine CN ?_
 refine CX J7 ?_
 refine TC.seq fun _ J9 => ?_
 refine TC.seq fun _ J10 => ?_
 refine D1 2 mixedD ?_
 refine FD 0 4 Tryz.underlying30 sz3 ?_
 refine ta 1 rfl (PV.load1 (v := (.int .i64 0)) rfl Tryz.underlying3 rfl rfl (fun _ h => h.2.1) (OpT.at_n _ rfl)) ?_
 refine ta 2 rfl (PV.to (v' := (.int .i64 0)) (PV.maxI rfl rfl rfl) rfl) ?_
 refine PD 3 ?_
 refine PD 6 ?_
 refine TD.all [4] (by kernel_rfl) rfl ?_
 refine AllT.cons rfl ?_ ?_
 refine TL.mono (H' := [boxP 167 5 (bs.getD (wayK ((i : Nat) : Int) ((j : Nat) : Int)) 0) (W.getD (wayK ((i : Nat) : Int) ((j : Nat) : Int)) []), boxesBut 167 5 bs W (wayK ((i : Nat) : Int) ((j : Nat) : Int)), blkA n (ptrsN bs) 120, blkA b3 (ints (OpT.mk 5 ((i : Nat) : Int) ((j : Nat) : Int) 0 0 ChangeT.zero 0 0 0).flat) 30, blkA c (clC n D M P) 80, dkL d (recs), blkA r (RepT.cells x) 102, lgL lg d (recs)]) (fun _ s => way_open hv (sep_selR [0] rfl s)) ?_
 refine CR nm71 (boxLen_does (bs.getD (wayK ((i : Nat) : Int) ((j : Nat) : Int)) 0) (W.getD (wayK ((i : Nat) : Int) ((j : Nat) : Int)) [])) (fun _ s => s) fun vR HR hR => ?_
 obtain ⟨rfl, rfl⟩ := hR
 change TL _ _ _ _ _ _ _ _ _ [boxP 167 5 (bs.getD (wayK ((i : Nat) : Int) ((j : Nat) : Int)) 0) (W.getD (wayK ((i : Nat) : Int) ((j : Nat) : Int)) []), boxesBut 167 5 bs W (wayK ((i : Nat) : Int) ((j : Nat) : Int)), blkA n (ptrsN bs) 120, blkA b3 (ints (OpT.mk 5 ((i : Nat) : Int) ((j : Nat) : Int) 0 0 ChangeT.zero 0 0 0).flat) 30, blkA c (clC n D M P) 80, dkL d (recs), blkA r (RepT.cells x) 102, lgL lg d (recs)]
 refine TL.mono (H' := [boxesP 167 5 bs (W), blkA n (ptrsN bs) 120, blkA b3 (ints (OpT.mk 5 ((i : Nat) : Int) ((j : Nat) : Int) 0 0 ChangeT.zero 0 0 0).flat) 30, blkA c (clC n D M P) 80, dkL d (recs), blkA r (RepT.cells x) 102, lgL lg d (recs)]) (fun _ s => box_shut (validB_k hv).2 (validB_k hv).1 s) ?_
 refine TL.nil ?_
 refine E1 2 ?_
 refine ta 5 rfl (PV.rem (r := 0) rfl rfl rfl (by omega) (Int.zero_tmod _)) ?_
 refine TD.done (by kernel_rfl) ?_
 refine TE.next J10 ?_
 refine TC.block ?_
 refine TC.unroll 1 ?_
 refine sr fun _ J11 => ?_
 refine PS ?_
 refine nx J11 ?_
 refine TC.seq fun _ J12 => ?_
 refine CN ?_
 refine TC.exit ?_
 refine TE.pass ?_
 refine TE.pass ?_
 refine TE.hit ?_
 refine TE.next J9 ?_
 refine TC.seq fun _ J13 => ?_
 refine D2 2 3 mixedD ?_
 refine PD 0 ?_
 refine PD 1 ?_
 refine FD 2 0 Tryz.underlying80 sz74 ?_
 refine ta 3 rfl (PV.load1 (v := (.pointer (some ⟨n, 0, none⟩))) rfl Tryz.underlying74 rfl rfl (fun _ h => h.2.2.1) (cl_n n D M P)) ?_
 refine FD 4 1 Tryz.underlying30 sz3 ?_
 refine ta 5 rfl (PV.load1 (v := (.int .i64 (((i : Nat) : Int)))) rfl Tryz.underlying3 rfl rfl (fun _ h => h.2.1) (OpT.at_at' _ rfl)) ?_
 refine FD 6 2 Tryz.underlying30 sz3 ?_
 refine ta 7 rfl (PV.load1 (v := (.int .i64 (((j : Nat) : Int)))) rfl Tryz.underlying3 rfl rfl (fun _ h => h.2.1) (OpT.at_to' _ rfl)) ?_
 refine TD.all [8] (by kernel_rfl) rfl ?_
 refine AllT.cons rfl ?_ ?_
 refine TL.mono (H' := [netP 120 167 5 n (W), blkA b3 (ints (OpT.mk 5 ((i : Nat) : Int) ((j : Nat) : Int) 0 0 ChangeT.zero 0 0 0).flat) 30, blkA c (clC n D M P) 80, dkL d (recs), blkA r (RepT.cells x) 102, lgL lg d (recs)]) (fun _ s => sep_close (p := fun bs : List Nat => [blkA n (ptrsN bs) 120, boxesP 167 5 bs W]) bs (sep_selR [1, 0] rfl s)) ?_
 refine CR nm74 (linkTake_does n W ((i : Nat) : Int) ((j : Nat) : Int) by' ls hv hW hk h0 hb) (fun _ s => s) fun vR HR hR => ?_
 obtain ⟨uv, rfl, rfl⟩ := hR
 refine TL.nil ?_
 refine E2 2 3 ?_
 refine PD 9 ?_
 refine ta 10 rfl (PV.extract (vs := [uv, (.bool true)]) rfl rfl rfl) ?_
 refine ta 11 rfl (PV.extract (vs := [uv, (.bool true)]) rfl rfl rfl) ?_
 refine PD 12 ?_
 refine PD 13 ?_
 refine TD.done (by kernel_rfl) ?_
 refine TE.next J13 ?_
 refine TC.seq fun _ J14 => ?_
 refine sr fun _ J15 => ?_
 refine FA 0 Tryz.underlying30 sz3 ?_
 refine tp (PV.load1 (v := (.int .i64 5)) rfl Tryz.underlying3 rfl rfl (RO 2) (OpT.at_kind _ rfl)) ?_
 refine PS ?_
 refine PS ?_
 refine PS ?_
 refine tq (PV.not (r := false) rfl rfl rfl) ?_
 refine PS ?_
 refine PS ?_
 refine PS ?_
 refine FA 2 Tryz.underlying30 sz3 ?_
 refine tq (PV.load1 (v := (.int .i64 (((j : Nat) : Int)))) rfl Tryz.underlying3 rfl rfl (RO 2) (OpT.at_to' _ rfl)) ?_
 refine CR nm13 (up1_does c n j D M P hj d r recs hD hM) (SM [3, 3]) fun vR HR hR => ?_
 obtain ⟨rfl, rfl⟩ := hR
 refine tq (PV.not (r := false) rfl rfl rfl) ?_
 refine PS ?_
 refine nx J15 ?_
 refine CN ?_
 refine CX J14 ?_
 refine sr fun _ J16 => ?_
 refine PS ?_
 refine CQ nm75 (decode_does uv by') (fun _ s => s) (isB_sub 3 rfl rfl) fun vR HR hR => ?_
 obtain ⟨hv1, rfl⟩ := hR
 rw [hdec] at hv1
 subst hv1
 refine PS ?_
 refine tp (PV.extract (vs := [(.agg (ints m.flat).toArray), (.int .i64 0)]) rfl rfl rfl) ?_
 refine tp (PV.extract (vs := [(.agg (ints m.flat).toArray), (.int .i64 0)]) rfl rfl rfl) ?_
 refine TL.alloc (Want.plain rfl) rfl rfl rfl z146 (fun b8 => ?_)
 change TL _ _ _ _ _ _ _ _ _ [blkA b8 (ints MsgT.zero.flat) 146, blkA c (clC n D M P) 80, dkL d (recs), netP 120 167 5 n (W.set (wayK ((i : Nat) : Int) ((j : Nat) : Int)) ls), subB uv (by') 5, blkA b3 (ints (OpT.mk 5 ((i : Nat) : Int) ((j : Nat) : Int) 0 0 ChangeT.zero 0 0 0).flat) 30, blkA r (RepT.cells x) 102, lgL lg d (recs)]
 refine TL.store (vs := ints m.flat) (i := 0) (Want.plain rfl) rfl rfl rfl rfl rfl (by rw [(MsgT.len m)]; exact sz146) (ints_one _) rfl rfl (by have h0 := (MsgT.len MsgT.zero); have h1 := (MsgT.len m); omega) (wwhole ((MsgT.len MsgT.zero).trans (MsgT.len m).symm)) rfl ?_
 refine PS ?_
 refine nx J16 ?_
 refine TC.seq fun _ J17 => ?_
 refine sr fun _ J18 => ?_
 refine PS ?_
 refine PS ?_
 refine nx J18 ?_
 refine CY ?_
 refine TC.draw (fun w => Frm F w ∧ w.heap[b3]? = some (.cells (ints (OpT.mk 5 ((i : Nat) : Int) ((j : Nat) : Int) 0 0 ChangeT.zero 0 0 0).flat).toArray 30 (0, 0)) ∧ w.heap[c]? = some (.cells (clC n D M P).toArray 80 (0, 0)) ∧ w.heap[b8]? = some (.cells (ints m.flat).toArray 146 (0, 0)) ∧ True) mixedD rfl (fun _ s => ⟨Frm.of s, s.block 5 (lb rfl) rfl, s.block 1 (lb rfl) rfl, s.block 0 (lb rfl) rfl, trivial⟩) ?_
 refine PD 0 ?_
 refine FD 1 2 Tryz.underlying30 sz3 ?_
 refine ta 2 rfl (PV.load1 (v := (.int .i64 (((j : Nat) : Int)))) rfl Tryz.underlying3 rfl rfl (fun _ h => h.2.1) (OpT.at_to' _ rfl)) ?_
 refine PD 3 ?_
 refine FD 4 6 Tryz.underlying80 sz66 ?_
 refine ta 5 rfl (PV.indexArr (r := 6 + j) rfl Tryz.underlying66 sz38 rfl rfl (by omega) (by omega) (by omega)) ?_
 refine ta 6 rfl (PV.load1 (v := (.pointer (some ⟨r, 0, none⟩))) rfl Tryz.underlying38 rfl rfl (fun _ h => h.2.2.1) ((cl_m n D M P hj).trans (congrArg some hM))) ?_
 refine PD 7 ?_
 refine FD 8 2 Tryz.underlying30 sz3 ?_
 refine ta 9 rfl (PV.load1 (v := (.int .i64 (((j : Nat) : Int)))) rfl Tryz.underlying3 rfl rfl (fun _ h => h.2.1) (OpT.at_to' _ rfl)) ?_
 refine ta 10 rfl (PV.build (cells := #[(.pointer (some ⟨c, 0, none⟩)), (.int .i64 (((j : Nat) : Int)))]) rfl rfl (by as_aux_lemma => kernel_rfl)) ?_
 refine ta 11 rfl (PV.mkIface rfl Tryz.underlying86 rfl rfl) ?_
 refine FD 12 1 Tryz.underlying30 sz3 ?_
 refine ta 13 rfl (PV.load1 (v := (.int .i64 (((i : Nat) : Int)))) rfl Tryz.underlying3 rfl rfl (fun _ h => h.2.1) (OpT.at_at' _ rfl)) ?_
 refine ta 14 rfl (PV.loadN (vs := ints m.flat) rfl Tryz.underlying146 rfl sz146 rfl (fun _ h => h.2.2.2.1) (MsgT.len m) (whole (MsgT.len m))) ?_
 refine TD.all [15] (by kernel_rfl) rfl ?_
 refine AllT.cons rfl ?_ ?_
 refine TL.mono (H' := [outE 80 120 167 5 c n d j D M P (W.set (wayK ((i : Nat) : Int) ((j : Nat) : Int)) ls) (recs) ([]), blkA b8 (ints m.flat) 146, subB uv (by') 5, blkA b3 (ints (OpT.mk 5 ((i : Nat) : Int) ((j : Nat) : Int) 0 0 ChangeT.zero 0 0 0).flat) 30, blkA r (RepT.cells x) 102, lgL lg d (recs)]) (fun _ s => out_shut (l := []) (sep_selR [1, 1, 1] rfl s)) ?_
 refine CR nm76 (take0_does r lg d 86 (outV c j) 191 (outE 80 120 167 5 c n d j D M P (W.set (wayK ((i : Nat) : Int) ((j : Nat) : Int)) ls)) (fun c' => (out_ok c n j D M P hj d hD (W.set (wayK ((i : Nat) : Int) ((j : Nat) : Int)) ls) (by rw [List.length_set]; exact hW) c')) (put_ok lg c n j D M P d (W.set (wayK ((i : Nat) : Int) ((j : Nat) : Int)) ls)) x ((i : Nat) : Int) m recs [] hlog hkd hroom hx (Nat.zero_le _) hto) (SM [4, 4, 0]) fun vR HR hR => ?_
 obtain rfl := hR
 change TL _ _ _ _ _ _ _ _ _ [blkA r (RepT.cells (rowX x ((i : Nat) : Int) m.whose m.row)) 102, lgL lg d (rowC x ((i : Nat) : Int) m.whose m.row recs), outE 80 120 167 5 c n d j D M P (W.set (wayK ((i : Nat) : Int) ((j : Nat) : Int)) ls) (rowC x ((i : Nat) : Int) m.whose m.row recs) ([] ++ rowO x ((i : Nat) : Int) m.whose m.row), blkA b8 (ints m.flat) 146, subB uv (by') 5, blkA b3 (ints (OpT.mk 5 ((i : Nat) : Int) ((j : Nat) : Int) 0 0 ChangeT.zero 0 0 0).flat) 30]
 refine TL.mono (H' := [blkA c (clC n D M P) 80, dkL d (rowC x ((i : Nat) : Int) m.whose m.row recs), netP 120 167 5 n (sendAll (W.set (wayK ((i : Nat) : Int) ((j : Nat) : Int)) ls) j (rowO x ((i : Nat) : Int) m.whose m.row)), blkA r (RepT.cells (rowX x ((i : Nat) : Int) m.whose m.row)) 102, lgL lg d (rowC x ((i : Nat) : Int) m.whose m.row recs), blkA b8 (ints m.flat) 146, subB uv (by') 5, blkA b3 (ints (OpT.mk 5 ((i : Nat) : Int) ((j : Nat) : Int) 0 0 ChangeT.zero 0 0 0).flat) 30]) (fun _ s => out_open (sep_selR [2] rfl s)) ?_
 refine TL.nil ?_
 refine TE.draw (fun _ s => ⟨Frm.of s, s.block 7 (lb rfl) rfl, s.block 0 (lb rfl) rfl, s.block 5 (lb rfl) rfl, trivial⟩) ?_
 refine TD.done (by kernel_rfl) ?_
 refine TE.next J17 ?_
 refine sr fun _ J19 => ?_
 refine PS ?_
 refine PS ?_
 refine nx J19 ?_
 refine TC.ret ?_
 refine WK [0, 0, 0, 0, 0] ?_
 refine TE.ret1 rfl rfl ?_
 exact ⟨rfl, rfl⟩
 exact AllT.nil
 exact AllT.nil
 exact AllT.nil
 exact AllT.nil
theorem wayTake0 (c n i j : Nat) (D M P : Nat → Value) (hi : i < 5) (hj : j < 5) (hv : validB ((i : Nat) : Int) ((j : Nat) : Int) = true) (W : List (List (List UInt8))) (hW : W.length = 25) (by' : List UInt8) (ls : List (List UInt8)) (hk : W.getD (wayK ((i : Nat) : Int) ((j : Nat) : Int)) [] = frameB ((i : Nat) : Int) ((j : Nat) : Int) by' :: ls) (h0 : 0 < by'.length) (hb : by'.length ≤ 100000) (d r : Nat) (recs : List (List UInt8)) (hD : D j = .pointer (some ⟨d, 0, none⟩)) (hM : M j = .pointer (some ⟨r, 0, none⟩)) (m : MsgT) (hdec : decM by' = (m, 0)) (x : RepT) (lg : Nat) (hlog : x.log = .pointer (some ⟨lg, 0, none⟩)) (hkd : m.kind = 0) (hroom : sizeS recs + 34 ≤ 2048) (hx : WF m.row.flat) (hto : ((i : Nat) : Int) ≠ x.id) : Leg.Does Tryz.prog 42 #[(.pointer (some ⟨c, 0, none⟩)), (.agg (ints (OpT.mk 5 ((i : Nat) : Int) ((j : Nat) : Int) 0 0 ChangeT.zero 0 0 0).flat).toArray)] (fun _ => True) [blkA c (clC n D M P) 80, netP 120 167 5 n (W), dkL d recs, blkA r (RepT.cells x) 102, lgL lg d recs] (Ret (fun v H => v = .int .i64 0 ∧ H = [blkA c (clC n D M P) 80, dkL d (rowC x ((i : Nat) : Int) m.whose m.row recs), netP 120 167 5 n (sendAll (W.set (wayK ((i : Nat) : Int) ((j : Nat) : Int)) ls) j (rowO x ((i : Nat) : Int) m.whose m.row)), blkA r (RepT.cells (rowX x ((i : Nat) : Int) m.whose m.row)) 102, lgL lg d (rowC x ((i : Nat) : Int) m.whose m.row recs)])) :=
  Leg.Does.ex (A' := fun bs : List Nat => [blkA n (ptrsN bs) 120, boxesP 167 5 bs W] ++ [blkA c (clC n D M P) 80, dkL d recs, blkA r (RepT.cells x) 102, lgL lg d recs]) (fun h s => sep_open (sep_selR [1] rfl s)) fun bs => Leg.Does.conv (wayTake00 c n i j D M P hi hj hv W hW by' ls hk h0 hb d r recs hD hM m hdec x lg hlog hkd hroom hx hto bs) (fun h s => sep_selR [0, 0, 0, 0, 0, 0] rfl s) fun e H F w hp hs => ⟨H, hs, hp⟩

theorem wayTake10 (c n i j : Nat) (D M P : Nat → Value) (hi : i < 5) (hj : j < 5) (hv : validB ((i : Nat) : Int) ((j : Nat) : Int) = true) (W : List (List (List UInt8))) (hW : W.length = 25) (by' : List UInt8) (ls : List (List UInt8)) (hk : W.getD (wayK ((i : Nat) : Int) ((j : Nat) : Int)) [] = frameB ((i : Nat) : Int) ((j : Nat) : Int) by' :: ls) (h0 : 0 < by'.length) (hb : by'.length ≤ 100000) (d r : Nat) (recs : List (List UInt8)) (hD : D j = .pointer (some ⟨d, 0, none⟩)) (hM : M j = .pointer (some ⟨r, 0, none⟩)) (m : MsgT) (hdec : decM by' = (m, 0)) (x : RepT) (rs : List ReplyT) (hkd : m.kind = 1) (hid : machB x.id = true) (hwo : WF x.own.flat) (hal : Alone x) (hrs : rs.length ≤ 1000000) (bs : List Nat) :
    Leg.Does Tryz.prog 42 #[(.pointer (some ⟨c, 0, none⟩)), (.agg (ints (OpT.mk 5 ((i : Nat) : Int) ((j : Nat) : Int) 0 0 ChangeT.zero 0 0 0).flat).toArray)] (fun _ => True) [blkA n (ptrsN bs) 120, boxesP 167 5 bs (W), blkA c (clC n D M P) 80, dkL d (recs), blkA r (RepT.cells x) 102, own x.replies ((rs).length) (ints (List.flatMap ReplyT.flat (rs))) 37 3] (Ret (fun v H => v = .int .i64 0 ∧ ∃ v', v'.oneCell' = true ∧ H = [blkA c (clC n D M P) 80, dkL d recs, netP 120 167 5 n (sendAll (W.set (wayK ((i : Nat) : Int) ((j : Nat) : Int)) ls) j (keptO x ((i : Nat) : Int) m.version)), blkA r (RepT.cells { keptS x ((i : Nat) : Int) m.version with replies := v' }) 102, own v' (keptR x ((i : Nat) : Int) m.version rs).length (ints (List.flatMap ReplyT.flat (keptR x ((i : Nat) : Int) m.version rs))) 37 3])) := by
 refine Leg.Does.body (n := 91) Tryz.func42 rfl rfl rfl (fun w0 F hF => ?_)
 have hln : 0 < (W.getD (wayK ((i : Nat) : Int) ((j : Nat) : Int)) []).length := by rw [hk]; exact Nat.succ_pos _
 refine sr fun _ J1 => ?_
 refine TL.box (Want.plain rfl) rfl rfl rfl rfl (fun b3 => ?_)
 change TL _ _ _ _ _ _ _ _ _ [blkA b3 (ints (OpT.mk 5 ((i : Nat) : Int) ((j : Nat) : Int) 0 0 ChangeT.zero 0 0 0).flat) 30, blkA n (ptrsN bs) 120, boxesP 167 5 bs (W), blkA c (clC n D M P) 80, dkL d (recs), blkA r (RepT.cells x) 102, own x.replies ((rs).length) (ints (List.flatMap ReplyT.flat (rs))) 37 3]
 refine PS ?_
 refine nx J1 ?_
 refine TC.seq fun _ J2 => ?_
 refine D2 0 3 mixedD ?_
 refine PD 0 ?_
 refine PD 1 ?_
 refine FD 2 0 Tryz.underlying80 sz74 ?_
 refine ta 3 rfl (PV.load1 (v := (.pointer (some ⟨n, 0, none⟩))) rfl Tryz.underlying74 rfl rfl (fun _ h => h.2.2.1) (cl_n n D M P)) ?_
 refine FD 4 1 Tryz.underlying30 sz3 ?_
 refine ta 5 rfl (PV.load1 (v := (.int .i64 (((i : Nat) : Int)))) rfl Tryz.underlying3 rfl rfl (fun _ h => h.2.1) (OpT.at_at' _ rfl)) ?_
 refine FD 6 2 Tryz.underlying30 sz3 ?_
 refine ta 7 rfl (PV.load1 (v := (.int .i64 (((j : Nat) : Int)))) rfl Tryz.underlying3 rfl rfl (fun _ h => h.2.1) (OpT.at_to' _ rfl)) ?_
 refine TD.all [8] (by kernel_rfl) rfl ?_
 refine AllT.cons rfl ?_ ?_
 refine CR nm70 (way_does n bs ((i : Nat) : Int) ((j : Nat) : Int)) (SM [1]) fun vR HR hR => ?_
 obtain ⟨hw, rfl⟩ := hR
 obtain ⟨_, rfl⟩ : validB ((i : Nat) : Int) ((j : Nat) : Int) = true ∧ vR = .pointer (some ⟨(bs.getD (wayK ((i : Nat) : Int) ((j : Nat) : Int)) 0), 0, none⟩) := hw.resolve_right (fun q => by rw [hv] at q; cases q.1)
 refine TL.nil ?_
 refine E2 1 3 ?_
 refine PD 9 ?_
 refine TD.done (by kernel_rfl) ?_
 refine TE.next J2 ?_
 refine TC.seq fun _ J3 => ?_
 refine sr fun _ J4 => ?_
 refine PS ?_
 refine tp (PV.ptrNil rfl Tryz.underlying116 rfl rfl) ?_
 refine nx J4 ?_
 refine CN ?_
 refine CX J3 ?_
 refine TC.seq fun _ J5 => ?_
 refine sr fun _ J6 => ?_
 refine PS ?_
 refine TL.mono (H' := [boxP 167 5 (bs.getD (wayK ((i : Nat) : Int) ((j : Nat) : Int)) 0) (W.getD (wayK ((i : Nat) : Int) ((j : Nat) : Int)) []), boxesBut 167 5 bs W (wayK ((i : Nat) : Int) ((j : Nat) : Int)), blkA n (ptrsN bs) 120, blkA b3 (ints (OpT.mk 5 ((i : Nat) : Int) ((j : Nat) : Int) 0 0 ChangeT.zero 0 0 0).flat) 30, blkA c (clC n D M P) 80, dkL d (recs), blkA r (RepT.cells x) 102, own x.replies ((rs).length) (ints (List.flatMap ReplyT.flat (rs))) 37 3]) (fun _ s => way_open hv (sep_selR [2] rfl s)) ?_
 refine CR nm71 (boxLen_does (bs.getD (wayK ((i : Nat) : Int) ((j : Nat) : Int)) 0) (W.getD (wayK ((i : Nat) : Int) ((j : Nat) : Int)) [])) (fun _ s => s) fun vR HR hR => ?_
 obtain ⟨rfl, rfl⟩ := hR
 change TL _ _ _ _ _ _ _ _ _ [boxP 167 5 (bs.getD (wayK ((i : Nat) : Int) ((j : Nat) : Int)) 0) (W.getD (wayK ((i : Nat) : Int) ((j : Nat) : Int)) []), boxesBut 167 5 bs W (wayK ((i : Nat) : Int) ((j : Nat) : Int)), blkA n (ptrsN bs) 120, blkA b3 (ints (OpT.mk 5 ((i : Nat) : Int) ((j : Nat) : Int) 0 0 ChangeT.zero 0 0 0).flat) 30, blkA c (clC n D M P) 80, dkL d (recs), blkA r (RepT.cells x) 102, own x.replies ((rs).length) (ints (List.flatMap ReplyT.flat (rs))) 37 3]
 refine TL.mono (H' := [boxesP 167 5 bs (W), blkA n (ptrsN bs) 120, blkA b3 (ints (OpT.mk 5 ((i : Nat) : Int) ((j : Nat) : Int) 0 0 ChangeT.zero 0 0 0).flat) 30, blkA c (clC n D M P) 80, dkL d (recs), blkA r (RepT.cells x) 102, own x.replies ((rs).length) (ints (List.flatMap ReplyT.flat (rs))) 37 3]) (fun _ s => box_shut (validB_k hv).2 (validB_k hv).1 s) ?_
 refine PS ?_
 refine TL.dec (fun h23 => ?_) (fun h23 => ?_)
 · exact absurd h23 (by omega)
 refine nx J6 ?_
 refine CN ?_
 refine CX J5 ?_
 refine TC.seq fun _ J7 => ?_
 refine sr fun _ J8 => ?_
 refine FA 0 Tryz.underlying30 sz3 ?_
 refine tp (PV.load1 (v := (.int .i64 5)) rfl Tryz.underlying3 rfl rfl (RO 2) (OpT.at_kind _ rfl)) ?_
 refine PS ?_
 refine nx J8 ?_
 refine CN ?_
 refine CX J7 ?_
 refine TC.seq fun _ J9 => ?_
 refine TC.seq fun _ J10 => ?_
 refine D1 2 mixedD ?_
 refine FD 0 4 Tryz.underlying30 sz3 ?_
 refine ta 1 rfl (PV.load1 (v := (.int .i64 0)) rfl Tryz.underlying3 rfl rfl (fun _ h => h.2.1) (OpT.at_n _ rfl)) ?_
 refine ta 2 rfl (PV.to (v' := (.int .i64 0)) (PV.maxI rfl rfl rfl) rfl) ?_
 refine PD 3 ?_
 refine PD 6 ?_
 refine TD.all [4] (by kernel_rfl) rfl ?_
 refine AllT.cons rfl ?_ ?_
 refine TL.mono (H' := [boxP 167 5 (bs.getD (wayK ((i : Nat) : Int) ((j : Nat) : Int)) 0) (W.getD (wayK ((i : Nat) : Int) ((j : Nat) : Int)) []), boxesBut 167 5 bs W (wayK ((i : Nat) : Int) ((j : Nat) : Int)), blkA n (ptrsN bs) 120, blkA b3 (ints (OpT.mk 5 ((i : Nat) : Int) ((j : Nat) : Int) 0 0 ChangeT.zero 0 0 0).flat) 30, blkA c (clC n D M P) 80, dkL d (recs), blkA r (RepT.cells x) 102, own x.replies ((rs).length) (ints (List.flatMap ReplyT.flat (rs))) 37 3]) (fun _ s => way_open hv (sep_selR [0] rfl s)) ?_
 refine CR nm71 (boxLen_does (bs.getD (wayK ((i : Nat) : Int) ((j : Nat) : Int)) 0) (W.getD (wayK ((i : Nat) : Int) ((j : Nat) : Int)) [])) (fun _ s => s) fun vR HR hR => ?_
 obtain ⟨rfl, rfl⟩ := hR
 change TL _ _ _ _ _ _ _ _ _ [boxP 167 5 (bs.getD (wayK ((i : Nat) : Int) ((j : Nat) : Int)) 0) (W.getD (wayK ((i : Nat) : Int) ((j : Nat) : Int)) []), boxesBut 167 5 bs W (wayK ((i : Nat) : Int) ((j : Nat) : Int)), blkA n (ptrsN bs) 120, blkA b3 (ints (OpT.mk 5 ((i : Nat) : Int) ((j : Nat) : Int) 0 0 ChangeT.zero 0 0 0).flat) 30, blkA c (clC n D M P) 80, dkL d (recs), blkA r (RepT.cells x) 102, own x.replies ((rs).length) (ints (List.flatMap ReplyT.flat (rs))) 37 3]
 refine TL.mono (H' := [boxesP 167 5 bs (W), blkA n (ptrsN bs) 120, blkA b3 (ints (OpT.mk 5 ((i : Nat) : Int) ((j : Nat) : Int) 0 0 ChangeT.zero 0 0 0).flat) 30, blkA c (clC n D M P) 80, dkL d (recs), blkA r (RepT.cells x) 102, own x.replies ((rs).length) (ints (List.flatMap ReplyT.flat (rs))) 37 3]) (fun _ s => box_shut (validB_k hv).2 (validB_k hv).1 s) ?_
 refine TL.nil ?_
 refine E1 2 ?_
 refine ta 5 rfl (PV.rem (r := 0) rfl rfl rfl (by omega) (Int.zero_tmod _)) ?_
 refine TD.done (by kernel_rfl) ?_
 refine TE.next J10 ?_
 refine TC.block ?_
 refine TC.unroll 1 ?_
 refine sr fun _ J11 => ?_
 refine PS ?_
 refine nx J11 ?_
 refine TC.seq fun _ J12 => ?_
 refine CN ?_
 refine TC.exit ?_
 refine TE.pass ?_
 refine TE.pass ?_
 refine TE.hit ?_
 refine TE.next J9 ?_
 refine TC.seq fun _ J13 => ?_
 refine D2 2 3 mixedD ?_
 refine PD 0 ?_
 refine PD 1 ?_
 refine FD 2 0 Tryz.underlying80 sz74 ?_
 refine ta 3 rfl (PV.load1 (v := (.pointer (some ⟨n, 0, none⟩))) rfl Tryz.underlying74 rfl rfl (fun _ h => h.2.2.1) (cl_n n D M P)) ?_
 refine FD 4 1 Tryz.underlying30 sz3 ?_
 refine ta 5 rfl (PV.load1 (v := (.int .i64 (((i : Nat) : Int)))) rfl Tryz.underlying3 rfl rfl (fun _ h => h.2.1) (OpT.at_at' _ rfl)) ?_
 refine FD 6 2 Tryz.underlying30 sz3 ?_
 refine ta 7 rfl (PV.load1 (v := (.int .i64 (((j : Nat) : Int)))) rfl Tryz.underlying3 rfl rfl (fun _ h => h.2.1) (OpT.at_to' _ rfl)) ?_
 refine TD.all [8] (by kernel_rfl) rfl ?_
 refine AllT.cons rfl ?_ ?_
 refine TL.mono (H' := [netP 120 167 5 n (W), blkA b3 (ints (OpT.mk 5 ((i : Nat) : Int) ((j : Nat) : Int) 0 0 ChangeT.zero 0 0 0).flat) 30, blkA c (clC n D M P) 80, dkL d (recs), blkA r (RepT.cells x) 102, own x.replies ((rs).length) (ints (List.flatMap ReplyT.flat (rs))) 37 3]) (fun _ s => sep_close (p := fun bs : List Nat => [blkA n (ptrsN bs) 120, boxesP 167 5 bs W]) bs (sep_selR [1, 0] rfl s)) ?_
 refine CR nm74 (linkTake_does n W ((i : Nat) : Int) ((j : Nat) : Int) by' ls hv hW hk h0 hb) (fun _ s => s) fun vR HR hR => ?_
 obtain ⟨uv, rfl, rfl⟩ := hR
 refine TL.nil ?_
 refine E2 2 3 ?_
 refine PD 9 ?_
 refine ta 10 rfl (PV.extract (vs := [uv, (.bool true)]) rfl rfl rfl) ?_
 refine ta 11 rfl (PV.extract (vs := [uv, (.bool true)]) rfl rfl rfl) ?_
 refine PD 12 ?_
 refine PD 13 ?_
 refine TD.done (by kernel_rfl) ?_
 refine TE.next J13 ?_
 refine TC.seq fun _ J14 => ?_
 refine sr fun _ J15 => ?_
 refine FA 0 Tryz.underlying30 sz3 ?_
 refine tp (PV.load1 (v := (.int .i64 5)) rfl Tryz.underlying3 rfl rfl (RO 2) (OpT.at_kind _ rfl)) ?_
 refine PS ?_
 refine PS ?_
 refine PS ?_
 refine tq (PV.not (r := false) rfl rfl rfl) ?_
 refine PS ?_
 refine PS ?_
 refine PS ?_
 refine FA 2 Tryz.underlying30 sz3 ?_
 refine tq (PV.load1 (v := (.int .i64 (((j : Nat) : Int)))) rfl Tryz.underlying3 rfl rfl (RO 2) (OpT.at_to' _ rfl)) ?_
 refine CR nm13 (up1_does c n j D M P hj d r recs hD hM) (SM [3, 3]) fun vR HR hR => ?_
 obtain ⟨rfl, rfl⟩ := hR
 refine tq (PV.not (r := false) rfl rfl rfl) ?_
 refine PS ?_
 refine nx J15 ?_
 refine CN ?_
 refine CX J14 ?_
 refine sr fun _ J16 => ?_
 refine PS ?_
 refine CQ nm75 (decode_does uv by') (fun _ s => s) (isB_sub 3 rfl rfl) fun vR HR hR => ?_
 obtain ⟨hv1, rfl⟩ := hR
 rw [hdec] at hv1
 subst hv1
 refine PS ?_
 refine tp (PV.extract (vs := [(.agg (ints m.flat).toArray), (.int .i64 0)]) rfl rfl rfl) ?_
 refine tp (PV.extract (vs := [(.agg (ints m.flat).toArray), (.int .i64 0)]) rfl rfl rfl) ?_
 refine TL.alloc (Want.plain rfl) rfl rfl rfl z146 (fun b8 => ?_)
 change TL _ _ _ _ _ _ _ _ _ [blkA b8 (ints MsgT.zero.flat) 146, blkA c (clC n D M P) 80, dkL d (recs), netP 120 167 5 n (W.set (wayK ((i : Nat) : Int) ((j : Nat) : Int)) ls), subB uv (by') 5, blkA b3 (ints (OpT.mk 5 ((i : Nat) : Int) ((j : Nat) : Int) 0 0 ChangeT.zero 0 0 0).flat) 30, blkA r (RepT.cells x) 102, own x.replies ((rs).length) (ints (List.flatMap ReplyT.flat (rs))) 37 3]
 refine TL.store (vs := ints m.flat) (i := 0) (Want.plain rfl) rfl rfl rfl rfl rfl (by rw [(MsgT.len m)]; exact sz146) (ints_one _) rfl rfl (by have h0 := (MsgT.len MsgT.zero); have h1 := (MsgT.len m); omega) (wwhole ((MsgT.len MsgT.zero).trans (MsgT.len m).symm)) rfl ?_
 refine PS ?_
 refine nx J16 ?_
 refine TC.seq fun _ J17 => ?_
 refine sr fun _ J18 => ?_
 refine PS ?_
 refine PS ?_
 refine nx J18 ?_
 refine CY ?_
 refine TC.draw (fun w => Frm F w ∧ w.heap[b3]? = some (.cells (ints (OpT.mk 5 ((i : Nat) : Int) ((j : Nat) : Int) 0 0 ChangeT.zero 0 0 0).flat).toArray 30 (0, 0)) ∧ w.heap[c]? = some (.cells (clC n D M P).toArray 80 (0, 0)) ∧ w.heap[b8]? = some (.cells (ints m.flat).toArray 146 (0, 0)) ∧ True) mixedD rfl (fun _ s => ⟨Frm.of s, s.block 5 (lb rfl) rfl, s.block 1 (lb rfl) rfl, s.block 0 (lb rfl) rfl, trivial⟩) ?_
 refine PD 0 ?_
 refine FD 1 2 Tryz.underlying30 sz3 ?_
 refine ta 2 rfl (PV.load1 (v := (.int .i64 (((j : Nat) : Int)))) rfl Tryz.underlying3 rfl rfl (fun _ h => h.2.1) (OpT.at_to' _ rfl)) ?_
 refine PD 3 ?_
 refine FD 4 6 Tryz.underlying80 sz66 ?_
 refine ta 5 rfl (PV.indexArr (r := 6 + j) rfl Tryz.underlying66 sz38 rfl rfl (by omega) (by omega) (by omega)) ?_
 refine ta 6 rfl (PV.load1 (v := (.pointer (some ⟨r, 0, none⟩))) rfl Tryz.underlying38 rfl rfl (fun _ h => h.2.2.1) ((cl_m n D M P hj).trans (congrArg some hM))) ?_
 refine PD 7 ?_
 refine FD 8 2 Tryz.underlying30 sz3 ?_
 refine ta 9 rfl (PV.load1 (v := (.int .i64 (((j : Nat) : Int)))) rfl Tryz.underlying3 rfl rfl (fun _ h => h.2.1) (OpT.at_to' _ rfl)) ?_
 refine ta 10 rfl (PV.build (cells := #[(.pointer (some ⟨c, 0, none⟩)), (.int .i64 (((j : Nat) : Int)))]) rfl rfl (by as_aux_lemma => kernel_rfl)) ?_
 refine ta 11 rfl (PV.mkIface rfl Tryz.underlying86 rfl rfl) ?_
 refine FD 12 1 Tryz.underlying30 sz3 ?_
 refine ta 13 rfl (PV.load1 (v := (.int .i64 (((i : Nat) : Int)))) rfl Tryz.underlying3 rfl rfl (fun _ h => h.2.1) (OpT.at_at' _ rfl)) ?_
 refine ta 14 rfl (PV.loadN (vs := ints m.flat) rfl Tryz.underlying146 rfl sz146 rfl (fun _ h => h.2.2.2.1) (MsgT.len m) (whole (MsgT.len m))) ?_
 refine TD.all [15] (by kernel_rfl) rfl ?_
 refine AllT.cons rfl ?_ ?_
 refine TL.mono (H' := [outE 80 120 167 5 c n d j D M P (W.set (wayK ((i : Nat) : Int) ((j : Nat) : Int)) ls) (recs) ([]), blkA b8 (ints m.flat) 146, subB uv (by') 5, blkA b3 (ints (OpT.mk 5 ((i : Nat) : Int) ((j : Nat) : Int) 0 0 ChangeT.zero 0 0 0).flat) 30, blkA r (RepT.cells x) 102, own x.replies ((rs).length) (ints (List.flatMap ReplyT.flat (rs))) 37 3]) (fun _ s => out_shut (l := []) (sep_selR [1, 1, 1] rfl s)) ?_
 refine CR nm76 (take1_does r 86 (outV c j) 191 (outE 80 120 167 5 c n d j D M P (W.set (wayK ((i : Nat) : Int) ((j : Nat) : Int)) ls) recs) (out_ok c n j D M P hj d hD (W.set (wayK ((i : Nat) : Int) ((j : Nat) : Int)) ls) (by rw [List.length_set]; exact hW) recs) x ((i : Nat) : Int) m rs [] hkd hid hwo hal (Nat.zero_le _) hrs) (SM [4, 4, 0]) fun vR HR hR => ?_
 obtain ⟨vk, hvk, rfl⟩ := hR
 change TL _ _ _ _ _ _ _ _ _ [blkA r (RepT.cells ({ keptS x ((i : Nat) : Int) m.version with replies := vk })) 102, own vk ((keptR x ((i : Nat) : Int) m.version rs).length) (ints (List.flatMap ReplyT.flat (keptR x ((i : Nat) : Int) m.version rs))) 37 3, outE 80 120 167 5 c n d j D M P (W.set (wayK ((i : Nat) : Int) ((j : Nat) : Int)) ls) (recs) ([] ++ keptO x ((i : Nat) : Int) m.version), blkA b8 (ints m.flat) 146, subB uv (by') 5, blkA b3 (ints (OpT.mk 5 ((i : Nat) : Int) ((j : Nat) : Int) 0 0 ChangeT.zero 0 0 0).flat) 30]
 refine TL.mono (H' := [blkA c (clC n D M P) 80, dkL d (recs), netP 120 167 5 n (sendAll (W.set (wayK ((i : Nat) : Int) ((j : Nat) : Int)) ls) j (keptO x ((i : Nat) : Int) m.version)), blkA r (RepT.cells ({ keptS x ((i : Nat) : Int) m.version with replies := vk })) 102, own vk ((keptR x ((i : Nat) : Int) m.version rs).length) (ints (List.flatMap ReplyT.flat (keptR x ((i : Nat) : Int) m.version rs))) 37 3, blkA b8 (ints m.flat) 146, subB uv (by') 5, blkA b3 (ints (OpT.mk 5 ((i : Nat) : Int) ((j : Nat) : Int) 0 0 ChangeT.zero 0 0 0).flat) 30]) (fun _ s => out_open (sep_selR [2] rfl s)) ?_
 refine TL.nil ?_
 refine TE.draw (fun _ s => ⟨Frm.of s, s.block 7 (lb rfl) rfl, s.block 0 (lb rfl) rfl, s.block 5 (lb rfl) rfl, trivial⟩) ?_
 refine TD.done (by kernel_rfl) ?_
 refine TE.next J17 ?_
 refine sr fun _ J19 => ?_
 refine PS ?_
 refine PS ?_
 refine nx J19 ?_
 refine TC.ret ?_
 refine WK [0, 0, 0, 0, 0] ?_
 refine TE.ret1 rfl rfl ?_
 exact ⟨rfl, vk, hvk, rfl⟩
 exact AllT.nil
 exact AllT.nil
 exact AllT.nil
 exact AllT.nil
theorem wayTake1 (c n i j : Nat) (D M P : Nat → Value) (hi : i < 5) (hj : j < 5) (hv : validB ((i : Nat) : Int) ((j : Nat) : Int) = true) (W : List (List (List UInt8))) (hW : W.length = 25) (by' : List UInt8) (ls : List (List UInt8)) (hk : W.getD (wayK ((i : Nat) : Int) ((j : Nat) : Int)) [] = frameB ((i : Nat) : Int) ((j : Nat) : Int) by' :: ls) (h0 : 0 < by'.length) (hb : by'.length ≤ 100000) (d r : Nat) (recs : List (List UInt8)) (hD : D j = .pointer (some ⟨d, 0, none⟩)) (hM : M j = .pointer (some ⟨r, 0, none⟩)) (m : MsgT) (hdec : decM by' = (m, 0)) (x : RepT) (rs : List ReplyT) (hkd : m.kind = 1) (hid : machB x.id = true) (hwo : WF x.own.flat) (hal : Alone x) (hrs : rs.length ≤ 1000000) : Leg.Does Tryz.prog 42 #[(.pointer (some ⟨c, 0, none⟩)), (.agg (ints (OpT.mk 5 ((i : Nat) : Int) ((j : Nat) : Int) 0 0 ChangeT.zero 0 0 0).flat).toArray)] (fun _ => True) [blkA c (clC n D M P) 80, netP 120 167 5 n (W), dkL d recs, blkA r (RepT.cells x) 102, own x.replies (rs).length (ints (List.flatMap ReplyT.flat (rs))) 37 3] (Ret (fun v H => v = .int .i64 0 ∧ ∃ v', v'.oneCell' = true ∧ H = [blkA c (clC n D M P) 80, dkL d recs, netP 120 167 5 n (sendAll (W.set (wayK ((i : Nat) : Int) ((j : Nat) : Int)) ls) j (keptO x ((i : Nat) : Int) m.version)), blkA r (RepT.cells { keptS x ((i : Nat) : Int) m.version with replies := v' }) 102, own v' (keptR x ((i : Nat) : Int) m.version rs).length (ints (List.flatMap ReplyT.flat (keptR x ((i : Nat) : Int) m.version rs))) 37 3])) :=
  Leg.Does.ex (A' := fun bs : List Nat => [blkA n (ptrsN bs) 120, boxesP 167 5 bs W] ++ [blkA c (clC n D M P) 80, dkL d recs, blkA r (RepT.cells x) 102, own x.replies (rs).length (ints (List.flatMap ReplyT.flat (rs))) 37 3]) (fun h s => sep_open (sep_selR [1] rfl s)) fun bs => Leg.Does.conv (wayTake10 c n i j D M P hi hj hv W hW by' ls hk h0 hb d r recs hD hM m hdec x rs hkd hid hwo hal hrs bs) (fun h s => sep_selR [0, 0, 0, 0, 0, 0] rfl s) fun e H F w hp hs => ⟨H, hs, hp⟩

theorem wayTake20 (c n i j : Nat) (D M P : Nat → Value) (hi : i < 5) (hj : j < 5) (hv : validB ((i : Nat) : Int) ((j : Nat) : Int) = true) (W : List (List (List UInt8))) (hW : W.length = 25) (by' : List UInt8) (ls : List (List UInt8)) (hk : W.getD (wayK ((i : Nat) : Int) ((j : Nat) : Int)) [] = frameB ((i : Nat) : Int) ((j : Nat) : Int) by' :: ls) (h0 : 0 < by'.length) (hb : by'.length ≤ 100000) (d r : Nat) (recs : List (List UInt8)) (hD : D j = .pointer (some ⟨d, 0, none⟩)) (hM : M j = .pointer (some ⟨r, 0, none⟩)) (m : MsgT) (hdec : decM by' = (m, 0)) (x : RepT) (hkd : m.kind = 2) (hx : WF m.row.flat) (bs : List Nat) :
    Leg.Does Tryz.prog 42 #[(.pointer (some ⟨c, 0, none⟩)), (.agg (ints (OpT.mk 5 ((i : Nat) : Int) ((j : Nat) : Int) 0 0 ChangeT.zero 0 0 0).flat).toArray)] (fun _ => True) [blkA n (ptrsN bs) 120, boxesP 167 5 bs (W), blkA c (clC n D M P) 80, dkL d (recs), blkA r (RepT.cells x) 102] (Ret (fun v H => v = .int .i64 0 ∧ H = [blkA c (clC n D M P) 80, dkL d recs, netP 120 167 5 n (W.set (wayK ((i : Nat) : Int) ((j : Nat) : Int)) ls), blkA r (RepT.cells { x with book := (bookMerge x.book m.whose m.row).1 }) 102])) := by
 refine Leg.Does.body (n := 91) Tryz.func42 rfl rfl rfl (fun w0 F hF => ?_)
 have hln : 0 < (W.getD (wayK ((i : Nat) : Int) ((j : Nat) : Int)) []).length := by rw [hk]; exact Nat.succ_pos _
 refine sr fun _ J1 => ?_
 refine TL.box (Want.plain rfl) rfl rfl rfl rfl (fun b3 => ?_)
 change TL _ _ _ _ _ _ _ _ _ [blkA b3 (ints (OpT.mk 5 ((i : Nat) : Int) ((j : Nat) : Int) 0 0 ChangeT.zero 0 0 0).flat) 30, blkA n (ptrsN bs) 120, boxesP 167 5 bs (W), blkA c (clC n D M P) 80, dkL d (recs), blkA r (RepT.cells x) 102]
 refine PS ?_
 refine nx J1 ?_
 refine TC.seq fun _ J2 => ?_
 refine D2 0 3 mixedD ?_
 refine PD 0 ?_
 refine PD 1 ?_
 refine FD 2 0 Tryz.underlying80 sz74 ?_
 refine ta 3 rfl (PV.load1 (v := (.pointer (some ⟨n, 0, none⟩))) rfl Tryz.underlying74 rfl rfl (fun _ h => h.2.2.1) (cl_n n D M P)) ?_
 refine FD 4 1 Tryz.underlying30 sz3 ?_
 refine ta 5 rfl (PV.load1 (v := (.int .i64 (((i : Nat) : Int)))) rfl Tryz.underlying3 rfl rfl (fun _ h => h.2.1) (OpT.at_at' _ rfl)) ?_
 refine FD 6 2 Tryz.underlying30 sz3 ?_
 refine ta 7 rfl (PV.load1 (v := (.int .i64 (((j : Nat) : Int)))) rfl Tryz.underlying3 rfl rfl (fun _ h => h.2.1) (OpT.at_to' _ rfl)) ?_
 refine TD.all [8] (by kernel_rfl) rfl ?_
 refine AllT.cons rfl ?_ ?_
 refine CR nm70 (way_does n bs ((i : Nat) : Int) ((j : Nat) : Int)) (SM [1]) fun vR HR hR => ?_
 obtain ⟨hw, rfl⟩ := hR
 obtain ⟨_, rfl⟩ : validB ((i : Nat) : Int) ((j : Nat) : Int) = true ∧ vR = .pointer (some ⟨(bs.getD (wayK ((i : Nat) : Int) ((j : Nat) : Int)) 0), 0, none⟩) := hw.resolve_right (fun q => by rw [hv] at q; cases q.1)
 refine TL.nil ?_
 refine E2 1 3 ?_
 refine PD 9 ?_
 refine TD.done (by kernel_rfl) ?_
 refine TE.next J2 ?_
 refine TC.seq fun _ J3 => ?_
 refine sr fun _ J4 => ?_
 refine PS ?_
 refine tp (PV.ptrNil rfl Tryz.underlying116 rfl rfl) ?_
 refine nx J4 ?_
 refine CN ?_
 refine CX J3 ?_
 refine TC.seq fun _ J5 => ?_
 refine sr fun _ J6 => ?_
 refine PS ?_
 refine TL.mono (H' := [boxP 167 5 (bs.getD (wayK ((i : Nat) : Int) ((j : Nat) : Int)) 0) (W.getD (wayK ((i : Nat) : Int) ((j : Nat) : Int)) []), boxesBut 167 5 bs W (wayK ((i : Nat) : Int) ((j : Nat) : Int)), blkA n (ptrsN bs) 120, blkA b3 (ints (OpT.mk 5 ((i : Nat) : Int) ((j : Nat) : Int) 0 0 ChangeT.zero 0 0 0).flat) 30, blkA c (clC n D M P) 80, dkL d (recs), blkA r (RepT.cells x) 102]) (fun _ s => way_open hv (sep_selR [2] rfl s)) ?_
 refine CR nm71 (boxLen_does (bs.getD (wayK ((i : Nat) : Int) ((j : Nat) : Int)) 0) (W.getD (wayK ((i : Nat) : Int) ((j : Nat) : Int)) [])) (fun _ s => s) fun vR HR hR => ?_
 obtain ⟨rfl, rfl⟩ := hR
 change TL _ _ _ _ _ _ _ _ _ [boxP 167 5 (bs.getD (wayK ((i : Nat) : Int) ((j : Nat) : Int)) 0) (W.getD (wayK ((i : Nat) : Int) ((j : Nat) : Int)) []), boxesBut 167 5 bs W (wayK ((i : Nat) : Int) ((j : Nat) : Int)), blkA n (ptrsN bs) 120, blkA b3 (ints (OpT.mk 5 ((i : Nat) : Int) ((j : Nat) : Int) 0 0 ChangeT.zero 0 0 0).flat) 30, blkA c (clC n D M P) 80, dkL d (recs), blkA r (RepT.cells x) 102]
 refine TL.mono (H' := [boxesP 167 5 bs (W), blkA n (ptrsN bs) 120, blkA b3 (ints (OpT.mk 5 ((i : Nat) : Int) ((j : Nat) : Int) 0 0 ChangeT.zero 0 0 0).flat) 30, blkA c (clC n D M P) 80, dkL d (recs), blkA r (RepT.cells x) 102]) (fun _ s => box_shut (validB_k hv).2 (validB_k hv).1 s) ?_
 refine PS ?_
 refine TL.dec (fun h23 => ?_) (fun h23 => ?_)
 · exact absurd h23 (by omega)
 refine nx J6 ?_
 refine CN ?_
 refine CX J5 ?_
 refine TC.seq fun _ J7 => ?_
 refine sr fun _ J8 => ?_
 refine FA 0 Tryz.underlying30 sz3 ?_
 refine tp (PV.load1 (v := (.int .i64 5)) rfl Tryz.underlying3 rfl rfl (RO 2) (OpT.at_kind _ rfl)) ?_
 refine PS ?_
 refine nx J8 ?_
 refine CN ?_
 refine CX J7 ?_
 refine TC.seq fun _ J9 => ?_
 refine TC.seq fun _ J10 => ?_
 refine D1 2 mixedD ?_
 refine FD 0 4 Tryz.underlying30 sz3 ?_
 refine ta 1 rfl (PV.load1 (v := (.int .i64 0)) rfl Tryz.underlying3 rfl rfl (fun _ h => h.2.1) (OpT.at_n _ rfl)) ?_
 refine ta 2 rfl (PV.to (v' := (.int .i64 0)) (PV.maxI rfl rfl rfl) rfl) ?_
 refine PD 3 ?_
 refine PD 6 ?_
 refine TD.all [4] (by kernel_rfl) rfl ?_
 refine AllT.cons rfl ?_ ?_
 refine TL.mono (H' := [boxP 167 5 (bs.getD (wayK ((i : Nat) : Int) ((j : Nat) : Int)) 0) (W.getD (wayK ((i : Nat) : Int) ((j : Nat) : Int)) []), boxesBut 167 5 bs W (wayK ((i : Nat) : Int) ((j : Nat) : Int)), blkA n (ptrsN bs) 120, blkA b3 (ints (OpT.mk 5 ((i : Nat) : Int) ((j : Nat) : Int) 0 0 ChangeT.zero 0 0 0).flat) 30, blkA c (clC n D M P) 80, dkL d (recs), blkA r (RepT.cells x) 102]) (fun _ s => way_open hv (sep_selR [0] rfl s)) ?_
 refine CR nm71 (boxLen_does (bs.getD (wayK ((i : Nat) : Int) ((j : Nat) : Int)) 0) (W.getD (wayK ((i : Nat) : Int) ((j : Nat) : Int)) [])) (fun _ s => s) fun vR HR hR => ?_
 obtain ⟨rfl, rfl⟩ := hR
 change TL _ _ _ _ _ _ _ _ _ [boxP 167 5 (bs.getD (wayK ((i : Nat) : Int) ((j : Nat) : Int)) 0) (W.getD (wayK ((i : Nat) : Int) ((j : Nat) : Int)) []), boxesBut 167 5 bs W (wayK ((i : Nat) : Int) ((j : Nat) : Int)), blkA n (ptrsN bs) 120, blkA b3 (ints (OpT.mk 5 ((i : Nat) : Int) ((j : Nat) : Int) 0 0 ChangeT.zero 0 0 0).flat) 30, blkA c (clC n D M P) 80, dkL d (recs), blkA r (RepT.cells x) 102]
 refine TL.mono (H' := [boxesP 167 5 bs (W), blkA n (ptrsN bs) 120, blkA b3 (ints (OpT.mk 5 ((i : Nat) : Int) ((j : Nat) : Int) 0 0 ChangeT.zero 0 0 0).flat) 30, blkA c (clC n D M P) 80, dkL d (recs), blkA r (RepT.cells x) 102]) (fun _ s => box_shut (validB_k hv).2 (validB_k hv).1 s) ?_
 refine TL.nil ?_
 refine E1 2 ?_
 refine ta 5 rfl (PV.rem (r := 0) rfl rfl rfl (by omega) (Int.zero_tmod _)) ?_
 refine TD.done (by kernel_rfl) ?_
 refine TE.next J10 ?_
 refine TC.block ?_
 refine TC.unroll 1 ?_
 refine sr fun _ J11 => ?_
 refine PS ?_
 refine nx J11 ?_
 refine TC.seq fun _ J12 => ?_
 refine CN ?_
 refine TC.exit ?_
 refine TE.pass ?_
 refine TE.pass ?_
 refine TE.hit ?_
 refine TE.next J9 ?_
 refine TC.seq fun _ J13 => ?_
 refine D2 2 3 mixedD ?_
 refine PD 0 ?_
 refine PD 1 ?_
 refine FD 2 0 Tryz.underlying80 sz74 ?_
 refine ta 3 rfl (PV.load1 (v := (.pointer (some ⟨n, 0, none⟩))) rfl Tryz.underlying74 rfl rfl (fun _ h => h.2.2.1) (cl_n n D M P)) ?_
 refine FD 4 1 Tryz.underlying30 sz3 ?_
 refine ta 5 rfl (PV.load1 (v := (.int .i64 (((i : Nat) : Int)))) rfl Tryz.underlying3 rfl rfl (fun _ h => h.2.1) (OpT.at_at' _ rfl)) ?_
 refine FD 6 2 Tryz.underlying30 sz3 ?_
 refine ta 7 rfl (PV.load1 (v := (.int .i64 (((j : Nat) : Int)))) rfl Tryz.underlying3 rfl rfl (fun _ h => h.2.1) (OpT.at_to' _ rfl)) ?_
 refine TD.all [8] (by kernel_rfl) rfl ?_
 refine AllT.cons rfl ?_ ?_
 refine TL.mono (H' := [netP 120 167 5 n (W), blkA b3 (ints (OpT.mk 5 ((i : Nat) : Int) ((j : Nat) : Int) 0 0 ChangeT.zero 0 0 0).flat) 30, blkA c (clC n D M P) 80, dkL d (recs), blkA r (RepT.cells x) 102]) (fun _ s => sep_close (p := fun bs : List Nat => [blkA n (ptrsN bs) 120, boxesP 167 5 bs W]) bs (sep_selR [1, 0] rfl s)) ?_
 refine CR nm74 (linkTake_does n W ((i : Nat) : Int) ((j : Nat) : Int) by' ls hv hW hk h0 hb) (fun _ s => s) fun vR HR hR => ?_
 obtain ⟨uv, rfl, rfl⟩ := hR
 refine TL.nil ?_
 refine E2 2 3 ?_
 refine PD 9 ?_
 refine ta 10 rfl (PV.extract (vs := [uv, (.bool true)]) rfl rfl rfl) ?_
 refine ta 11 rfl (PV.extract (vs := [uv, (.bool true)]) rfl rfl rfl) ?_
 refine PD 12 ?_
 refine PD 13 ?_
 refine TD.done (by kernel_rfl) ?_
 refine TE.next J13 ?_
 refine TC.seq fun _ J14 => ?_
 refine sr fun _ J15 => ?_
 refine FA 0 Tryz.underlying30 sz3 ?_
 refine tp (PV.load1 (v := (.int .i64 5)) rfl Tryz.underlying3 rfl rfl (RO 2) (OpT.at_kind _ rfl)) ?_
 refine PS ?_
 refine PS ?_
 refine PS ?_
 refine tq (PV.not (r := false) rfl rfl rfl) ?_
 refine PS ?_
 refine PS ?_
 refine PS ?_
 refine FA 2 Tryz.underlying30 sz3 ?_
 refine tq (PV.load1 (v := (.int .i64 (((j : Nat) : Int)))) rfl Tryz.underlying3 rfl rfl (RO 2) (OpT.at_to' _ rfl)) ?_
 refine CR nm13 (up1_does c n j D M P hj d r recs hD hM) (SM [3, 3]) fun vR HR hR => ?_
 obtain ⟨rfl, rfl⟩ := hR
 refine tq (PV.not (r := false) rfl rfl rfl) ?_
 refine PS ?_
 refine nx J15 ?_
 refine CN ?_
 refine CX J14 ?_
 refine sr fun _ J16 => ?_
 refine PS ?_
 refine CQ nm75 (decode_does uv by') (fun _ s => s) (isB_sub 3 rfl rfl) fun vR HR hR => ?_
 obtain ⟨hv1, rfl⟩ := hR
 rw [hdec] at hv1
 subst hv1
 refine PS ?_
 refine tp (PV.extract (vs := [(.agg (ints m.flat).toArray), (.int .i64 0)]) rfl rfl rfl) ?_
 refine tp (PV.extract (vs := [(.agg (ints m.flat).toArray), (.int .i64 0)]) rfl rfl rfl) ?_
 refine TL.alloc (Want.plain rfl) rfl rfl rfl z146 (fun b8 => ?_)
 change TL _ _ _ _ _ _ _ _ _ [blkA b8 (ints MsgT.zero.flat) 146, blkA c (clC n D M P) 80, dkL d (recs), netP 120 167 5 n (W.set (wayK ((i : Nat) : Int) ((j : Nat) : Int)) ls), subB uv (by') 5, blkA b3 (ints (OpT.mk 5 ((i : Nat) : Int) ((j : Nat) : Int) 0 0 ChangeT.zero 0 0 0).flat) 30, blkA r (RepT.cells x) 102]
 refine TL.store (vs := ints m.flat) (i := 0) (Want.plain rfl) rfl rfl rfl rfl rfl (by rw [(MsgT.len m)]; exact sz146) (ints_one _) rfl rfl (by have h0 := (MsgT.len MsgT.zero); have h1 := (MsgT.len m); omega) (wwhole ((MsgT.len MsgT.zero).trans (MsgT.len m).symm)) rfl ?_
 refine PS ?_
 refine nx J16 ?_
 refine TC.seq fun _ J17 => ?_
 refine sr fun _ J18 => ?_
 refine PS ?_
 refine PS ?_
 refine nx J18 ?_
 refine CY ?_
 refine TC.draw (fun w => Frm F w ∧ w.heap[b3]? = some (.cells (ints (OpT.mk 5 ((i : Nat) : Int) ((j : Nat) : Int) 0 0 ChangeT.zero 0 0 0).flat).toArray 30 (0, 0)) ∧ w.heap[c]? = some (.cells (clC n D M P).toArray 80 (0, 0)) ∧ w.heap[b8]? = some (.cells (ints m.flat).toArray 146 (0, 0)) ∧ True) mixedD rfl (fun _ s => ⟨Frm.of s, s.block 5 (lb rfl) rfl, s.block 1 (lb rfl) rfl, s.block 0 (lb rfl) rfl, trivial⟩) ?_
 refine PD 0 ?_
 refine FD 1 2 Tryz.underlying30 sz3 ?_
 refine ta 2 rfl (PV.load1 (v := (.int .i64 (((j : Nat) : Int)))) rfl Tryz.underlying3 rfl rfl (fun _ h => h.2.1) (OpT.at_to' _ rfl)) ?_
 refine PD 3 ?_
 refine FD 4 6 Tryz.underlying80 sz66 ?_
 refine ta 5 rfl (PV.indexArr (r := 6 + j) rfl Tryz.underlying66 sz38 rfl rfl (by omega) (by omega) (by omega)) ?_
 refine ta 6 rfl (PV.load1 (v := (.pointer (some ⟨r, 0, none⟩))) rfl Tryz.underlying38 rfl rfl (fun _ h => h.2.2.1) ((cl_m n D M P hj).trans (congrArg some hM))) ?_
 refine PD 7 ?_
 refine FD 8 2 Tryz.underlying30 sz3 ?_
 refine ta 9 rfl (PV.load1 (v := (.int .i64 (((j : Nat) : Int)))) rfl Tryz.underlying3 rfl rfl (fun _ h => h.2.1) (OpT.at_to' _ rfl)) ?_
 refine ta 10 rfl (PV.build (cells := #[(.pointer (some ⟨c, 0, none⟩)), (.int .i64 (((j : Nat) : Int)))]) rfl rfl (by as_aux_lemma => kernel_rfl)) ?_
 refine ta 11 rfl (PV.mkIface rfl Tryz.underlying86 rfl rfl) ?_
 refine FD 12 1 Tryz.underlying30 sz3 ?_
 refine ta 13 rfl (PV.load1 (v := (.int .i64 (((i : Nat) : Int)))) rfl Tryz.underlying3 rfl rfl (fun _ h => h.2.1) (OpT.at_at' _ rfl)) ?_
 refine ta 14 rfl (PV.loadN (vs := ints m.flat) rfl Tryz.underlying146 rfl sz146 rfl (fun _ h => h.2.2.2.1) (MsgT.len m) (whole (MsgT.len m))) ?_
 refine TD.all [15] (by kernel_rfl) rfl ?_
 refine AllT.cons rfl ?_ ?_
 refine CR nm76 (take2_does r 86 (outV c j) x ((i : Nat) : Int) m hkd hx) (SM [6]) fun vR HR hR => ?_
 obtain rfl := hR
 refine TL.nil ?_
 refine TE.draw (fun _ s => ⟨Frm.of s, s.block 6 (lb rfl) rfl, s.block 2 (lb rfl) rfl, s.block 1 (lb rfl) rfl, trivial⟩) ?_
 refine TD.done (by kernel_rfl) ?_
 refine TE.next J17 ?_
 refine sr fun _ J19 => ?_
 refine PS ?_
 refine PS ?_
 refine nx J19 ?_
 refine TC.ret ?_
 refine WK [2, 2, 2, 0] ?_
 refine TE.ret1 rfl rfl ?_
 exact ⟨rfl, rfl⟩
 exact AllT.nil
 exact AllT.nil
 exact AllT.nil
 exact AllT.nil
theorem wayTake2 (c n i j : Nat) (D M P : Nat → Value) (hi : i < 5) (hj : j < 5) (hv : validB ((i : Nat) : Int) ((j : Nat) : Int) = true) (W : List (List (List UInt8))) (hW : W.length = 25) (by' : List UInt8) (ls : List (List UInt8)) (hk : W.getD (wayK ((i : Nat) : Int) ((j : Nat) : Int)) [] = frameB ((i : Nat) : Int) ((j : Nat) : Int) by' :: ls) (h0 : 0 < by'.length) (hb : by'.length ≤ 100000) (d r : Nat) (recs : List (List UInt8)) (hD : D j = .pointer (some ⟨d, 0, none⟩)) (hM : M j = .pointer (some ⟨r, 0, none⟩)) (m : MsgT) (hdec : decM by' = (m, 0)) (x : RepT) (hkd : m.kind = 2) (hx : WF m.row.flat) : Leg.Does Tryz.prog 42 #[(.pointer (some ⟨c, 0, none⟩)), (.agg (ints (OpT.mk 5 ((i : Nat) : Int) ((j : Nat) : Int) 0 0 ChangeT.zero 0 0 0).flat).toArray)] (fun _ => True) [blkA c (clC n D M P) 80, netP 120 167 5 n (W), dkL d recs, blkA r (RepT.cells x) 102] (Ret (fun v H => v = .int .i64 0 ∧ H = [blkA c (clC n D M P) 80, dkL d recs, netP 120 167 5 n (W.set (wayK ((i : Nat) : Int) ((j : Nat) : Int)) ls), blkA r (RepT.cells { x with book := (bookMerge x.book m.whose m.row).1 }) 102])) :=
  Leg.Does.ex (A' := fun bs : List Nat => [blkA n (ptrsN bs) 120, boxesP 167 5 bs W] ++ [blkA c (clC n D M P) 80, dkL d recs, blkA r (RepT.cells x) 102]) (fun h s => sep_open (sep_selR [1] rfl s)) fun bs => Leg.Does.conv (wayTake20 c n i j D M P hi hj hv W hW by' ls hk h0 hb d r recs hD hM m hdec x hkd hx bs) (fun h s => sep_selR [0, 0, 0, 0, 0] rfl s) fun e H F w hp hs => ⟨H, hs, hp⟩

end Go.Proofs.YtobdfjdoilnfcaaGreat
end

section
namespace Go.Proofs.YtobdfjdoilnfcaaGreat

open Go Leg Codec Api Dsk Wal

set_option linter.unusedSimpArgs false
set_option linter.unusedVariables false

set_option maxRecDepth 100000

set_option maxHeartbeats 8000000

theorem doStep_does (c i j : Nat) (hi : i < 5) (X : HP) (p : Int → HP → Prop) (hw : Leg.Does Tryz.prog 42 #[(.pointer (some ⟨c, 0, none⟩)), (.agg (ints (OpT.mk 5 ((i : Nat) : Int) ((j : Nat) : Int) 0 0 ChangeT.zero 0 0 0).flat).toArray)] (fun _ => True) [X] (Ret (fun v H => ∃ e X', v = .int .i64 e ∧ H = [X'] ∧ p e X'))) :
    Leg.Does Tryz.prog 14 #[(.pointer (some ⟨c, 0, none⟩)), (.agg (ints (OpT.mk 5 ((i : Nat) : Int) ((j : Nat) : Int) 0 0 ChangeT.zero 0 0 0).flat).toArray)] (fun _ => True) [X] (Ret (fun v H => ∃ e X', v = .int .i64 e ∧ H = [X'] ∧ p e X')) := by
 refine Leg.Does.body (n := 114) Tryz.func14 rfl rfl rfl (fun w0 F hF => ?_)
 refine sr fun _ J1 => ?_
 refine TL.box (Want.plain rfl) rfl rfl rfl rfl (fun b3 => ?_)
 change TL _ _ _ _ _ _ _ _ _ [blkA b3 (ints (OpT.mk 5 ((i : Nat) : Int) ((j : Nat) : Int) 0 0 ChangeT.zero 0 0 0).flat) 30, X]
 refine PS ?_
 refine nx J1 ?_
 refine TC.seq fun _ J2 => ?_
 refine sr fun _ J3 => ?_
 refine PS ?_
 refine FA 1 Tryz.underlying30 sz3 ?_
 refine tp (PV.load1 (v := (.int .i64 (((i : Nat) : Int)))) rfl Tryz.underlying3 rfl rfl (RO 0) (OpT.at_at' _ rfl)) ?_
 refine CR nm39 (place1_does c i hi) (fun _ s => s) fun vR HR hR => ?_
 obtain ⟨rfl, rfl⟩ := hR
 refine tp (PV.not (r := false) rfl rfl rfl) ?_
 refine nx J3 ?_
 refine CN ?_
 refine CX J2 ?_
 refine TC.seq fun _ J4 => ?_
 refine sr fun _ J5 => ?_
 refine FA 0 Tryz.underlying30 sz3 ?_
 refine tp (PV.load1 (v := (.int .i64 5)) rfl Tryz.underlying3 rfl rfl (RO 0) (OpT.at_kind _ rfl)) ?_
 refine nx J5 ?_
 refine TC.block ?_
 refine TC.seq fun _ J6 => ?_
 refine sr fun _ J7 => ?_
 refine PS ?_
 refine PS ?_
 refine nx J7 ?_
 refine CN ?_
 refine sr fun _ J8 => ?_
 refine PS ?_
 refine PS ?_
 refine nx J8 ?_
 refine CN ?_
 refine sr fun _ J9 => ?_
 refine PS ?_
 refine PS ?_
 refine nx J9 ?_
 refine CN ?_
 refine sr fun _ J10 => ?_
 refine PS ?_
 refine PS ?_
 refine nx J10 ?_
 refine CN ?_
 refine TC.region ?_
 refine PS ?_
 refine PS ?_
 refine nx J6 ?_
 refine CN ?_
 refine TC.seq fun _ J11 => ?_
 refine sr fun _ J12 => ?_
 refine PS ?_
 refine PS ?_
 refine nx J12 ?_
 refine CY ?_
 refine CX J11 ?_
 refine CY ?_
 refine sr fun _ J13 => ?_
 refine PS ?_
 refine tp (PV.loadN (vs := ints (OpT.mk 5 ((i : Nat) : Int) ((j : Nat) : Int) 0 0 ChangeT.zero 0 0 0).flat) rfl Tryz.underlying30 rfl sz30 rfl (RO 0) (OpT.len (OpT.mk 5 ((i : Nat) : Int) ((j : Nat) : Int) 0 0 ChangeT.zero 0 0 0)) (whole (OpT.len (OpT.mk 5 ((i : Nat) : Int) ((j : Nat) : Int) 0 0 ChangeT.zero 0 0 0)))) ?_
 refine CR nm42 (hw) (SM [1]) fun vR HR hR => ?_
 obtain ⟨e, X', rfl, rfl, hp⟩ := hR
 refine PS ?_
 refine nx J13 ?_
 refine TC.ret ?_
 refine TE.blockRet ?_
 refine TE.passRet ?_
 refine WK [0] ?_
 refine TE.ret1 rfl rfl ?_
 exact ⟨e, X', rfl, rfl, hp⟩
theorem machine1_does (c n i : Nat) (D M P : Nat → Value) (hi : i < 5) (d r : Nat) (recs : List (List UInt8)) (hD : D i = .pointer (some ⟨d, 0, none⟩)) (hM : M i = .pointer (some ⟨r, 0, none⟩)) :
    Leg.Does Tryz.prog 15 #[(.pointer (some ⟨c, 0, none⟩)), (.int .i64 (((i : Nat) : Int)))] (fun _ => True) [blkA c (clC n D M P) 80, dkL d (recs)] (Ret (fun v H => v = .pointer (some ⟨r, 0, none⟩) ∧ H = [blkA c (clC n D M P) 80, dkL d recs])) := by
 refine Leg.Does.body (n := 15) Tryz.func15 rfl rfl rfl (fun w0 F hF => ?_)
 refine sr fun _ J1 => ?_
 refine PS ?_
 refine nx J1 ?_
 refine TC.seq fun _ J2 => ?_
 refine sr fun _ J3 => ?_
 refine PS ?_
 refine PS ?_
 refine CR nm13 (up1_does c n i D M P hi d r recs hD hM) (fun _ s => s) fun vR HR hR => ?_
 obtain ⟨rfl, rfl⟩ := hR
 refine tp (PV.not (r := false) rfl rfl rfl) ?_
 refine nx J3 ?_
 refine CN ?_
 refine CX J2 ?_
 refine sr fun _ J4 => ?_
 refine PS ?_
 refine PS ?_
 refine PS ?_
 refine FA 6 Tryz.underlying80 sz66 ?_
 refine tp (PV.indexArr (r := 6 + i) rfl Tryz.underlying66 sz38 rfl rfl (by omega) (by omega) (by omega)) ?_
 refine tp (PV.load1 (v := (.pointer (some ⟨r, 0, none⟩))) rfl Tryz.underlying38 rfl rfl (RO 0) ((cl_m n D M P hi).trans (congrArg some hM))) ?_
 refine PS ?_
 refine nx J4 ?_
 refine TC.ret ?_
 refine WK [0, 0] ?_
 refine TE.ret1 rfl rfl ?_
 exact ⟨rfl, rfl⟩
theorem replies1_does (c n i : Nat) (D M P : Nat → Value) (hi : i < 5) (r : Nat) (hM : M i = .pointer (some ⟨r, 0, none⟩)) (pl rs : List ReplyT) (hpl : pl.length ≤ 100000) (hrs : rs.length ≤ 100000) (x : RepT) :
    Leg.Does Tryz.prog 12 #[(.pointer (some ⟨c, 0, none⟩)), (.int .i64 (((i : Nat) : Int)))] (fun _ => True) [blkA c (clC n D M P) 80, own (P i) ((pl).length) (ints (List.flatMap ReplyT.flat (pl))) 37 3, blkA r (RepT.cells x) 102, own x.replies ((rs).length) (ints (List.flatMap ReplyT.flat (rs))) 37 3] (Ret (fun v H => ∃ u, u.oneCell' = true ∧ v = u ∧ H = [blkA c (clC n D M P) 80, own (P i) (pl).length (ints (List.flatMap ReplyT.flat (pl))) 37 3, blkA r (RepT.cells x) 102, own x.replies (rs).length (ints (List.flatMap ReplyT.flat (rs))) 37 3, own u (pl ++ rs).length (ints (List.flatMap ReplyT.flat (pl ++ rs))) 37 3])) := by
 refine Leg.Does.body (n := 34) Tryz.func12 rfl rfl rfl (fun w0 F hF => ?_)
 refine sr fun _ J1 => ?_
 refine PS ?_
 refine nx J1 ?_
 refine TC.seq fun _ J2 => ?_
 refine sr fun _ J3 => ?_
 refine PS ?_
 refine PS ?_
 refine CR nm39 (place1_does c i hi) (fun _ s => s) fun vR HR hR => ?_
 obtain ⟨rfl, rfl⟩ := hR
 refine tp (PV.not (r := false) rfl rfl rfl) ?_
 refine nx J3 ?_
 refine CN ?_
 refine CX J2 ?_
 refine sr fun _ J4 => ?_
 refine PS ?_
 refine PS ?_
 refine PS ?_
 refine FA 11 Tryz.underlying80 sz78 ?_
 refine tp (PV.indexArr (r := 11 + i) rfl Tryz.underlying78 sz31 rfl rfl (by omega) (by omega) (by omega)) ?_
 refine tp (PV.load1 (v := (P i)) rfl Tryz.underlying31 rfl rfl (RO 0) (cl_p n D M P hi)) ?_
 refine TL.ownNilI 37 3 (fun _ => ?_)
 refine TL.append (k := 0) (news := ints (List.flatMap ReplyT.flat (pl))) (nn' := (pl).length) (xs' := ints (List.flatMap ReplyT.flat (pl))) (Want.plain rfl) rfl rfl rfl Tryz.underlying31 in37 rfl rfl rfl rfl rfl rfl (fun _ s => Src.own 2 rfl rfl s) (ints_one _) (by simp only [maxLen]; omega) (by omega) (by simp) (by simp) (fun v16 ov16 => ?_)
 refine PS ?_
 refine nx J4 ?_
 refine TC.seq fun _ J5 => ?_
 refine sr fun _ J6 => ?_
 refine PS ?_
 refine PS ?_
 refine PS ?_
 refine FA 6 Tryz.underlying80 sz66 ?_
 refine tp (PV.indexArr (r := 6 + i) rfl Tryz.underlying66 sz38 rfl rfl (by omega) (by omega) (by omega)) ?_
 refine tp (PV.load1 (v := (.pointer (some ⟨r, 0, none⟩))) rfl Tryz.underlying38 rfl rfl (RO 1) ((cl_m n D M P hi).trans (congrArg some hM))) ?_
 refine tp (PV.ptrNotNil rfl Tryz.underlying38 rfl rfl) ?_
 refine nx J6 ?_
 refine CY ?_
 refine TC.region ?_
 refine PS ?_
 refine PS ?_
 refine PS ?_
 refine PS ?_
 refine FA 6 Tryz.underlying80 sz66 ?_
 refine tp (PV.indexArr (r := 6 + i) rfl Tryz.underlying66 sz38 rfl rfl (by omega) (by omega) (by omega)) ?_
 refine tp (PV.load1 (v := (.pointer (some ⟨r, 0, none⟩))) rfl Tryz.underlying38 rfl rfl (RO 1) ((cl_m n D M P hi).trans (congrArg some hM))) ?_
 refine CR nm16 (replies_does r x rs (by omega)) (SM [3, 3]) fun vR HR hR => ?_
 obtain ⟨_, rfl, rfl⟩ := hR
 revert vR
 intro ur
 refine TL.append (k := 3) (news := ints (List.flatMap ReplyT.flat (rs))) (nn' := (pl ++ rs).length) (xs' := ints (List.flatMap ReplyT.flat (pl ++ rs))) (Want.plain rfl) rfl rfl rfl Tryz.underlying31 in37 rfl rfl rfl rfl rfl rfl (fun _ s => Src.own 2 rfl rfl s) (ints_one _) (by simp only [maxLen]; omega) (by omega) (by rw [List.length_append]) (by simp [ints]) (fun v32 ov32 => ?_)
 refine PS ?_
 refine nx J5 (sr fun _ J7 => ?_)
 refine PS ?_
 refine PS ?_
 refine nx J7 ?_
 refine TC.ret ?_
 refine WK [4, 4, 0, 0, 1] ?_
 refine TE.ret1 rfl rfl ?_
 exact ⟨_, ov32, rfl, rfl⟩
theorem doCrash_does (c n i : Nat) (D M P : Nat → Value) (hi : i < 5) (d r : Nat) (recs : List (List UInt8)) (hD : D i = .pointer (some ⟨d, 0, none⟩)) (hM : M i = .pointer (some ⟨r, 0, none⟩)) (pl rs : List ReplyT) (hpl : pl.length ≤ 100000) (hrs : rs.length ≤ 100000) (x : RepT) (torn : Int) :
    Leg.Does Tryz.prog 14 #[(.pointer (some ⟨c, 0, none⟩)), (.agg (ints (OpT.mk 10 ((i : Nat) : Int) 0 0 0 ChangeT.zero 0 torn 0).flat).toArray)] (fun _ => True) [blkA c (clC n D M P) 80, dkL d (recs), own (P i) ((pl).length) (ints (List.flatMap ReplyT.flat (pl))) 37 3, blkA r (RepT.cells x) 102, own x.replies ((rs).length) (ints (List.flatMap ReplyT.flat (rs))) 37 3] (Ret (fun v H => ∃ u, u.oneCell' = true ∧ v = .int .i64 0 ∧ H = [blkA c (clC n D (upd M i (.pointer none)) (upd P i u)) 80, dkL d recs, own u (pl ++ rs).length (ints (List.flatMap ReplyT.flat (pl ++ rs))) 37 3])) := by
 refine Leg.Does.body (n := 114) Tryz.func14 rfl rfl rfl (fun w0 F hF => ?_)
 refine sr fun _ J1 => ?_
 refine TL.box (Want.plain rfl) rfl rfl rfl rfl (fun b3 => ?_)
 change TL _ _ _ _ _ _ _ _ _ [blkA b3 (ints (OpT.mk 10 ((i : Nat) : Int) 0 0 0 ChangeT.zero 0 torn 0).flat) 30, blkA c (clC n D M P) 80, dkL d (recs), own (P i) ((pl).length) (ints (List.flatMap ReplyT.flat (pl))) 37 3, blkA r (RepT.cells x) 102, own x.replies ((rs).length) (ints (List.flatMap ReplyT.flat (rs))) 37 3]
 refine PS ?_
 refine nx J1 ?_
 refine TC.seq fun _ J2 => ?_
 refine sr fun _ J3 => ?_
 refine PS ?_
 refine FA 1 Tryz.underlying30 sz3 ?_
 refine tp (PV.load1 (v := (.int .i64 (((i : Nat) : Int)))) rfl Tryz.underlying3 rfl rfl (RO 0) (OpT.at_at' _ rfl)) ?_
 refine CR nm39 (place1_does c i hi) (fun _ s => s) fun vR HR hR => ?_
 obtain ⟨rfl, rfl⟩ := hR
 refine tp (PV.not (r := false) rfl rfl rfl) ?_
 refine nx J3 ?_
 refine CN ?_
 refine CX J2 ?_
 refine TC.seq fun _ J4 => ?_
 refine sr fun _ J5 => ?_
 refine FA 0 Tryz.underlying30 sz3 ?_
 refine tp (PV.load1 (v := (.int .i64 10)) rfl Tryz.underlying3 rfl rfl (RO 0) (OpT.at_kind _ rfl)) ?_
 refine nx J5 ?_
 refine TC.block ?_
 refine TC.seq fun _ J6 => ?_
 refine sr fun _ J7 => ?_
 refine PS ?_
 refine PS ?_
 refine nx J7 ?_
 refine CN ?_
 refine sr fun _ J8 => ?_
 refine PS ?_
 refine PS ?_
 refine nx J8 ?_
 refine CN ?_
 refine sr fun _ J9 => ?_
 refine PS ?_
 refine PS ?_
 refine nx J9 ?_
 refine CN ?_
 refine sr fun _ J10 => ?_
 refine PS ?_
 refine PS ?_
 refine nx J10 ?_
 refine CN ?_
 refine TC.region ?_
 refine PS ?_
 refine PS ?_
 refine nx J6 ?_
 refine CN ?_
 refine TC.seq fun _ J11 => ?_
 refine sr fun _ J12 => ?_
 refine PS ?_
 refine PS ?_
 refine nx J12 ?_
 refine CN ?_
 refine sr fun _ J13 => ?_
 refine PS ?_
 refine PS ?_
 refine nx J13 ?_
 refine CN ?_
 refine TC.region ?_
 refine PS ?_
 refine PS ?_
 refine nx J11 ?_
 refine CN ?_
 refine sr fun _ J14 => ?_
 refine PS ?_
 refine PS ?_
 refine nx J14 ?_
 refine CN ?_
 refine sr fun _ J15 => ?_
 refine PS ?_
 refine PS ?_
 refine nx J15 ?_
 refine CN ?_
 refine sr fun _ J16 => ?_
 refine PS ?_
 refine PS ?_
 refine nx J16 ?_
 refine CY ?_
 refine TC.seq fun _ J17 => ?_
 refine D1 0 mixedD ?_
 refine PD 0 ?_
 refine FD 1 1 Tryz.underlying30 sz3 ?_
 refine ta 2 rfl (PV.load1 (v := (.int .i64 (((i : Nat) : Int)))) rfl Tryz.underlying3 rfl rfl (fun _ h => h.2.1) (OpT.at_at' _ rfl)) ?_
 refine PD 3 ?_
 refine FD 4 1 Tryz.underlying30 sz3 ?_
 refine ta 5 rfl (PV.load1 (v := (.int .i64 (((i : Nat) : Int)))) rfl Tryz.underlying3 rfl rfl (fun _ h => h.2.1) (OpT.at_at' _ rfl)) ?_
 refine PD 7 ?_
 refine FD 8 11 Tryz.underlying80 sz78 ?_
 refine TD.all [6] (by kernel_rfl) rfl ?_
 refine AllT.cons rfl ?_ ?_
 refine CR nm12 (replies1_does c n i D M P hi r hM pl rs hpl hrs x) (SM [1, 2, 2, 2]) fun vR HR hR => ?_
 obtain ⟨_, huc, rfl, rfl⟩ := hR
 revert vR
 intro uc huc
 refine TL.nil ?_
 refine E1 5 ?_
 refine ta 9 rfl (PV.indexArr (r := 11 + i) rfl Tryz.underlying78 sz31 rfl rfl (by omega) (by omega) (by omega)) ?_
 refine TD.all [10] (by kernel_rfl) rfl ?_
 refine AllT.cons rfl ?_ ?_
 refine TL.store1 (i := 0) (Want.plain rfl) rfl rfl rfl rfl huc sz31 rfl rfl (by rw [cl_len]; omega) (cl_setp n D M P uc hi) rfl ?_
 refine TL.nil ?_
 refine E1 5 ?_
 refine TD.done (by kernel_rfl) ?_
 refine TE.next J17 ?_
 refine TC.seq fun _ J18 => ?_
 refine D1 5 mixedD ?_
 refine PD 0 ?_
 refine FD 1 1 Tryz.underlying30 sz3 ?_
 refine ta 2 rfl (PV.load1 (v := (.int .i64 (((i : Nat) : Int)))) rfl Tryz.underlying3 rfl rfl (fun _ h => h.2.1) (OpT.at_at' _ rfl)) ?_
 refine PD 3 ?_
 refine FD 4 6 Tryz.underlying80 sz66 ?_
 refine ta 5 rfl (PV.indexArr (r := 6 + i) rfl Tryz.underlying66 sz38 rfl rfl (by omega) (by omega) (by omega)) ?_
 refine TD.all [6] (by kernel_rfl) rfl ?_
 refine AllT.cons rfl ?_ ?_
 refine TL.store1 (i := 0) (Want.plain rfl) rfl rfl rfl rfl rfl sz38 rfl rfl (by rw [cl_len]; omega) (cl_setm n D M (upd P i uc) (.pointer none) hi) rfl ?_
 refine TL.nil ?_
 refine E1 5 ?_
 refine TD.done (by kernel_rfl) ?_
 refine TE.next J18 ?_
 refine D2 5 0 mixedD ?_
 refine PD 0 ?_
 refine FD 1 1 Tryz.underlying30 sz3 ?_
 refine ta 2 rfl (PV.load1 (v := (.int .i64 (((i : Nat) : Int)))) rfl Tryz.underlying3 rfl rfl (fun _ h => h.2.1) (OpT.at_at' _ rfl)) ?_
 refine PD 3 ?_
 refine FD 4 1 Tryz.underlying80 sz77 ?_
 refine ta 5 rfl (PV.indexArr (r := 1 + i) rfl Tryz.underlying77 sz76 rfl rfl (by omega) (by omega) (by omega)) ?_
 refine ta 6 rfl (PV.load1 (v := (.pointer (some ⟨d, 0, none⟩))) rfl Tryz.underlying76 rfl rfl (fun _ h => h.2.2.1) ((cl_d n D (upd M i (.pointer none)) (upd P i uc) hi).trans (congrArg some hD))) ?_
 refine FD 7 8 Tryz.underlying30 sz3 ?_
 refine ta 8 rfl (PV.load1 (v := (.int .i64 0)) rfl Tryz.underlying3 rfl rfl (fun _ h => h.2.1) (OpT.at_mask _ rfl)) ?_
 refine FD 9 9 Tryz.underlying30 sz3 ?_
 refine ta 10 rfl (PV.load1 (v := (.int .i64 (torn))) rfl Tryz.underlying3 rfl rfl (fun _ h => h.2.1) (OpT.at_torn _ rfl)) ?_
 refine FD 11 10 Tryz.underlying30 sz3 ?_
 refine ta 12 rfl (PV.load1 (v := (.int .i64 0)) rfl Tryz.underlying3 rfl rfl (fun _ h => h.2.1) (OpT.at_cut _ rfl)) ?_
 refine TD.all [13] (by kernel_rfl) rfl ?_
 refine AllT.cons rfl ?_ ?_
 refine CR nm45 (crashL_does d 0 torn 0 recs) (SM [6]) fun vR HR hR => ?_
 obtain rfl := hR
 refine TL.nil ?_
 refine E2 6 1 ?_
 refine TD.done (by kernel_rfl) ?_
 refine TE.blockEnd ?_
 refine TE.next J4 ?_
 refine sr fun _ J19 => ?_
 refine PS ?_
 refine nx J19 ?_
 refine TC.ret ?_
 refine WK [1, 0, 3] ?_
 refine TE.ret1 rfl rfl ?_
 exact ⟨uc, huc, rfl, rfl⟩
 exact AllT.nil
 exact AllT.nil
 exact AllT.nil
 exact AllT.nil
theorem startZ_does (c n i : Nat) (D M P : Nat → Value) (hi : i < 5) (d : Nat) (hD : D i = .pointer (some ⟨d, 0, none⟩)) (hM : M i = .pointer none) :
    Leg.Does Tryz.prog 46 #[(.pointer (some ⟨c, 0, none⟩)), (.int .i64 (((i : Nat) : Int)))] (fun _ => True) [blkA c (clC n D M P) 80, dkL d ([])] (Ret (fun v H => ∃ r lg, v = .int .i64 0 ∧ H = [blkA c (clC n D (upd M i (.pointer (some ⟨r, 0, none⟩))) P) 80, dkL d [], blkA r (RepT.cells (newRep ((i : Nat) : Int) lg)) 102, lgL lg d []])) := by
 refine Leg.Does.body (n := 34) Tryz.func46 rfl rfl rfl (fun w0 F hF => ?_)
 refine sr fun _ J1 => ?_
 refine PS ?_
 refine nx J1 ?_
 refine TC.seq fun _ J2 => ?_
 refine sr fun _ J3 => ?_
 refine PS ?_
 refine PS ?_
 refine PS ?_
 refine FA 6 Tryz.underlying80 sz66 ?_
 refine tp (PV.indexArr (r := 6 + i) rfl Tryz.underlying66 sz38 rfl rfl (by omega) (by omega) (by omega)) ?_
 refine tp (PV.load1 (v := (.pointer none)) rfl Tryz.underlying38 rfl rfl (RO 0) ((cl_m n D M P hi).trans (congrArg some hM))) ?_
 refine tp (PV.nilPtrNotNil rfl Tryz.underlying38 rfl rfl) ?_
 refine nx J3 ?_
 refine CN ?_
 refine CX J2 ?_
 refine sr fun _ J4 => ?_
 refine PS ?_
 refine PS ?_
 refine PS ?_
 refine PS ?_
 refine FA 1 Tryz.underlying80 sz77 ?_
 refine tp (PV.indexArr (r := 1 + i) rfl Tryz.underlying77 sz76 rfl rfl (by omega) (by omega) (by omega)) ?_
 refine tp (PV.load1 (v := (.pointer (some ⟨d, 0, none⟩))) rfl Tryz.underlying76 rfl rfl (RO 0) ((cl_d n D M P hi).trans (congrArg some hD))) ?_
 refine CR nm38 (start0_does ((i : Nat) : Int) d) (SM [1]) fun vR HR hR => ?_
 obtain ⟨r, lg, rfl, rfl⟩ := hR
 refine PS ?_
 refine tp (PV.extract (vs := [(.pointer (some ⟨r, 0, none⟩)), (.int .i64 0)]) rfl rfl rfl) ?_
 refine tp (PV.extract (vs := [(.pointer (some ⟨r, 0, none⟩)), (.int .i64 0)]) rfl rfl rfl) ?_
 refine PS ?_
 refine PS ?_
 refine nx J4 ?_
 refine TC.seq fun _ J5 => ?_
 refine sr fun _ J6 => ?_
 refine PS ?_
 refine PS ?_
 refine nx J6 ?_
 refine CY ?_
 refine TC.region ?_
 refine PS ?_
 refine PS ?_
 refine PS ?_
 refine PS ?_
 refine FA 6 Tryz.underlying80 sz66 ?_
 refine tp (PV.indexArr (r := 6 + i) rfl Tryz.underlying66 sz38 rfl rfl (by omega) (by omega) (by omega)) ?_
 refine TL.store1 (i := 3) (Want.plain rfl) rfl rfl rfl rfl rfl sz38 rfl rfl (by rw [cl_len]; omega) (cl_setm n D M P (.pointer (some ⟨r, 0, none⟩)) hi) rfl ?_
 refine nx J5 (sr fun _ J7 => ?_)
 refine PS ?_
 refine PS ?_
 refine nx J7 ?_
 refine TC.ret ?_
 refine WK [3, 2, 0, 0] ?_
 refine TE.ret1 rfl rfl ?_
 exact ⟨r, lg, rfl, rfl⟩
theorem doStartZ_does (c n i : Nat) (D M P : Nat → Value) (hi : i < 5) (d : Nat) (hD : D i = .pointer (some ⟨d, 0, none⟩)) (hM : M i = .pointer none) :
    Leg.Does Tryz.prog 14 #[(.pointer (some ⟨c, 0, none⟩)), (.agg (ints (OpT.mk 11 ((i : Nat) : Int) 0 0 0 ChangeT.zero 0 0 0).flat).toArray)] (fun _ => True) [blkA c (clC n D M P) 80, dkL d ([])] (Ret (fun v H => ∃ r lg, v = .int .i64 0 ∧ H = [blkA c (clC n D (upd M i (.pointer (some ⟨r, 0, none⟩))) P) 80, dkL d [], blkA r (RepT.cells (newRep ((i : Nat) : Int) lg)) 102, lgL lg d []])) := by
 refine Leg.Does.body (n := 114) Tryz.func14 rfl rfl rfl (fun w0 F hF => ?_)
 refine sr fun _ J1 => ?_
 refine TL.box (Want.plain rfl) rfl rfl rfl rfl (fun b3 => ?_)
 change TL _ _ _ _ _ _ _ _ _ [blkA b3 (ints (OpT.mk 11 ((i : Nat) : Int) 0 0 0 ChangeT.zero 0 0 0).flat) 30, blkA c (clC n D M P) 80, dkL d ([])]
 refine PS ?_
 refine nx J1 ?_
 refine TC.seq fun _ J2 => ?_
 refine sr fun _ J3 => ?_
 refine PS ?_
 refine FA 1 Tryz.underlying30 sz3 ?_
 refine tp (PV.load1 (v := (.int .i64 (((i : Nat) : Int)))) rfl Tryz.underlying3 rfl rfl (RO 0) (OpT.at_at' _ rfl)) ?_
 refine CR nm39 (place1_does c i hi) (fun _ s => s) fun vR HR hR => ?_
 obtain ⟨rfl, rfl⟩ := hR
 refine tp (PV.not (r := false) rfl rfl rfl) ?_
 refine nx J3 ?_
 refine CN ?_
 refine CX J2 ?_
 refine TC.seq fun _ J4 => ?_
 refine sr fun _ J5 => ?_
 refine FA 0 Tryz.underlying30 sz3 ?_
 refine tp (PV.load1 (v := (.int .i64 11)) rfl Tryz.underlying3 rfl rfl (RO 0) (OpT.at_kind _ rfl)) ?_
 refine nx J5 ?_
 refine TC.block ?_
 refine TC.seq fun _ J6 => ?_
 refine sr fun _ J7 => ?_
 refine PS ?_
 refine PS ?_
 refine nx J7 ?_
 refine CN ?_
 refine sr fun _ J8 => ?_
 refine PS ?_
 refine PS ?_
 refine nx J8 ?_
 refine CN ?_
 refine sr fun _ J9 => ?_
 refine PS ?_
 refine PS ?_
 refine nx J9 ?_
 refine CN ?_
 refine sr fun _ J10 => ?_
 refine PS ?_
 refine PS ?_
 refine nx J10 ?_
 refine CN ?_
 refine TC.region ?_
 refine PS ?_
 refine PS ?_
 refine nx J6 ?_
 refine CN ?_
 refine TC.seq fun _ J11 => ?_
 refine sr fun _ J12 => ?_
 refine PS ?_
 refine PS ?_
 refine nx J12 ?_
 refine CN ?_
 refine sr fun _ J13 => ?_
 refine PS ?_
 refine PS ?_
 refine nx J13 ?_
 refine CN ?_
 refine TC.region ?_
 refine PS ?_
 refine PS ?_
 refine nx J11 ?_
 refine CN ?_
 refine sr fun _ J14 => ?_
 refine PS ?_
 refine PS ?_
 refine nx J14 ?_
 refine CN ?_
 refine sr fun _ J15 => ?_
 refine PS ?_
 refine PS ?_
 refine nx J15 ?_
 refine CN ?_
 refine sr fun _ J16 => ?_
 refine PS ?_
 refine PS ?_
 refine nx J16 ?_
 refine CN ?_
 refine sr fun _ J17 => ?_
 refine PS ?_
 refine PS ?_
 refine nx J17 ?_
 refine CY ?_
 refine sr fun _ J18 => ?_
 refine PS ?_
 refine FA 1 Tryz.underlying30 sz3 ?_
 refine tp (PV.load1 (v := (.int .i64 (((i : Nat) : Int)))) rfl Tryz.underlying3 rfl rfl (RO 0) (OpT.at_at' _ rfl)) ?_
 refine CR nm46 (startZ_does c n i D M P hi d hD hM) (SM [1, 1]) fun vR HR hR => ?_
 obtain ⟨r, lg, rfl, rfl⟩ := hR
 refine PS ?_
 refine nx J18 ?_
 refine TC.ret ?_
 refine TE.blockRet ?_
 refine TE.passRet ?_
 refine WK [0, 0, 0, 0] ?_
 refine TE.ret1 rfl rfl ?_
 exact ⟨r, lg, rfl, rfl⟩
end Go.Proofs.YtobdfjdoilnfcaaGreat
end

section
namespace Api
open Go Leg Codec Dsk Wal

theorem v5_list (v : Vector Int 5) : v.toList = [v[0], v[1], v[2], v[3], v[4]] := by
  obtain ⟨⟨l⟩, h⟩ := v
  match l, h with
  | [a, b, c, d, e], _ => rfl
structure CellOk (c : CellT) : Prop where
  inn : 0 ≤ c.inn ∧ c.inn ≤ 1099511627776
  out : 0 ≤ c.out ∧ c.out ≤ 1099511627776
  given : (0 : Int) ≤ c.given[0] ∧ (0 : Int) ≤ c.given[1] ∧ (0 : Int) ≤ c.given[2] ∧ (0 : Int) ≤ c.given[3] ∧ (0 : Int) ≤ c.given[4]
  sum : c.given[0] + c.given[1] + c.given[2] + c.given[3] + c.given[4] ≤ 1099511627776
theorem CellOk.zero : CellOk .zero := ⟨by decide, by decide, by decide, by decide⟩
theorem okN_of {n : Int} (h : 0 ≤ n ∧ n ≤ 1099511627776) : okN n = true := decide_eq_true h
theorem CellOk.right {c : CellT} (h : CellOk c) : okC c = true := by
  obtain ⟨h1, h2, ⟨g0, g1, g2, g3, g4⟩, hs⟩ := h
  unfold okC
  rw [okN_of h1, okN_of h2, v5_list, Bool.true_and, Bool.true_and, decide_eq_true_iff]
  generalize c.given[0] = a at *
  generalize c.given[1] = b at *
  generalize c.given[2] = d at *
  generalize c.given[3] = e at *
  generalize c.given[4] = f at *
  rw [addE, if_pos (okN_of (by omega)), if_neg (by omega), addE, if_pos (okN_of (by omega)), if_neg (by omega), addE, if_pos (okN_of (by omega)), if_neg (by omega), addE, if_pos (okN_of (by omega)), if_neg (by omega), addE, if_pos (okN_of (by omega)), if_neg (by omega), addE]
theorem CellOk.sumG {c : CellT} (h : CellOk c) : sumG c = c.given[0] + c.given[1] + c.given[2] + c.given[3] + c.given[4] := by
  obtain ⟨h1, h2, ⟨g0, g1, g2, g3, g4⟩, hs⟩ := h
  unfold Api.sumG
  rw [v5_list]
  simp only [List.foldl_cons, List.foldl_nil]
  rw [w64_eq (n := (0 : Int) + c.given[0]) (by omega) (by omega), w64_eq (n := (0 : Int) + c.given[0] + c.given[1]) (by omega) (by omega), w64_eq (n := (0 : Int) + c.given[0] + c.given[1] + c.given[2]) (by omega) (by omega), w64_eq (n := (0 : Int) + c.given[0] + c.given[1] + c.given[2] + c.given[3]) (by omega) (by omega), w64_eq (by omega) (by omega)]
  omega
theorem CellOk.put {c : CellT} (h : CellOk c) {q : Nat} (hq : q < 5) {n : Int} (hn : 0 ≤ n) (hs : c.given[0] + c.given[1] + c.given[2] + c.given[3] + c.given[4] + n ≤ 1099511627776) : CellOk { c with given := c.given.set q (c.given[q] + n) hq } := by
  obtain ⟨h1, h2, ⟨g0, g1, g2, g3, g4⟩, _⟩ := h
  refine ⟨h1, h2, ?_, ?_⟩
  · match q, hq with
    | 0, _ | 1, _ | 2, _ | 3, _ | 4, _ => simp [Vector.getElem_set]; omega
  · match q, hq with
    | 0, _ | 1, _ | 2, _ | 3, _ | 4, _ => simp [Vector.getElem_set]; omega
structure OwnOk (y : RowT) (k : Nat) : Prop where
  ver : 0 ≤ y.version ∧ y.version ≤ k
  cells : ∀ (i : Nat) (h : i < 4), CellOk y.cells[i]
  heir : y.heir = RowT.zero.heir
  left : y.left = RowT.zero.left
theorem OwnOk.zero (k : Nat) : OwnOk .zero k := ⟨⟨by decide, by show (0 : Int) ≤ (k : Int); omega⟩, fun i h => by rw [cell_z i h]; exact .zero, rfl, rfl⟩
theorem OwnOk.more {y : RowT} {k m : Nat} (h : OwnOk y k) (hm : k ≤ m) : OwnOk y m := ⟨⟨h.ver.1, by have := h.ver.2; omega⟩, h.cells, h.heir, h.left⟩
theorem OwnOk.cellAt {y : RowT} {k : Nat} (h : OwnOk y k) (key : Int) : CellOk (cellAt y key) := by
  unfold Api.cellAt
  split
  · exact h.cells _ _
  · exact .zero
theorem OwnOk.moreR {y : RowT} {k : Nat} (h : OwnOk y k) (hk : k ≤ 1000000) {key n counts : Int} {c : CellT} (hc : counts ≤ 1099511627776 - n → CellOk c) : OwnOk (moreR y key n counts c).1 (k + 1) := by
  unfold Api.moreR
  split
  · exact .zero _
  · rename_i hn
    have hv := h.ver
    refine ⟨?_, fun i hi => ?_, ?_, ?_⟩
    · show 0 ≤ w64 (y.version + 1) ∧ w64 (y.version + 1) ≤ _
      rw [w64_eq (by omega) (by omega)]; omega
    · show CellOk (putCell y key c).cells[i]
      unfold putCell
      split
      · rename_i hkk
        show CellOk (y.cells.set key.toNat c (key_lt hkk))[i]
        rw [Vector.getElem_set]
        split
        · exact hc (by omega)
        · exact h.cells i hi
      · exact h.cells i hi
    · show (putCell y key c).heir = _
      unfold putCell; split <;> exact h.heir
    · show (putCell y key c).left = _
      unfold putCell; split <;> exact h.left
theorem askB_pos {key n : Int} (h : askB key n = true) : 1 ≤ n ∧ n ≤ 1099511627776 := by
  unfold askB at h
  rw [Bool.and_eq_true, Bool.and_eq_true] at h
  have h1 : 1 ≤ n := of_decide_eq_true h.1.2
  have h2 : 0 ≤ n ∧ n ≤ 1099511627776 := of_decide_eq_true h.2
  exact ⟨h1, h2.2⟩
theorem OwnOk.inc {y : RowT} {k : Nat} (h : OwnOk y k) (hk : k ≤ 1000000) (key n : Int) : OwnOk (rowInc y key n).1 (k + 1) := by
  unfold rowInc
  split
  · rename_i ha
    have hn := askB_pos ha
    have hc := h.cellAt key
    refine h.moreR hk fun hl => ⟨?_, hc.out, hc.given, hc.sum⟩
    have := hc.inn
    show 0 ≤ w64 _ ∧ w64 _ ≤ _
    rw [w64_eq (by omega) (by omega)]; omega
  · exact .zero _
theorem OwnOk.dec {y : RowT} {k : Nat} (h : OwnOk y k) (hk : k ≤ 1000000) (key n : Int) : OwnOk (rowDec y key n).1 (k + 1) := by
  unfold rowDec
  split
  · rename_i ha
    have hn := askB_pos ha
    have hc := h.cellAt key
    refine h.moreR hk fun hl => ⟨hc.inn, ?_, hc.given, hc.sum⟩
    have := hc.out
    show 0 ≤ w64 _ ∧ w64 _ ≤ _
    rw [w64_eq (by omega) (by omega)]; omega
  · exact .zero _
theorem OwnOk.give {y : RowT} {k : Nat} (h : OwnOk y k) (hk : k ≤ 1000000) (key n to' : Int) : OwnOk (rowGive y key n to').1 (k + 1) := by
  unfold rowGive
  split
  · rename_i ha
    rw [Bool.and_eq_true] at ha
    have hn := askB_pos ha.2
    have hc := h.cellAt key
    obtain ⟨q, hq, e⟩ : ∃ q : Nat, q < 5 ∧ to' = ((q : Nat) : Int) := by have h5 : 0 ≤ to' ∧ to' < 5 := of_decide_eq_true ha.1; exact ⟨to'.toNat, by omega, by omega⟩
    subst e
    refine h.moreR hk fun hl => ?_
    rw [hc.sumG] at hl
    rw [givenOf_at _ hq, giveTo, dif_pos ha.1]
    have hq2 : 0 ≤ (Api.cellAt y key).given[q] ∧ (Api.cellAt y key).given[q] ≤ (1099511627776 : Int) := by
      obtain ⟨h1, h2, ⟨g0, g1, g2, g3, g4⟩, hs⟩ := hc
      match q, hq with
      | 0, _ | 1, _ | 2, _ | 3, _ | 4, _ => exact ⟨by assumption, by omega⟩
    rw [w64_eq (by omega) (by omega)]
    exact hc.put hq (by omega) (by omega)
  · exact .zero _
theorem OwnOk.tame {y : RowT} {k : Nat} (h : OwnOk y k) (hk : k ≤ 1000000) : TameR y := ⟨⟨h.ver.1, by have := h.ver.2; omega⟩, fun i hi => TameC.of (h.cells i hi).right, fun i hi => by rw [show y.heir[i] = RowT.zero.heir[i] from by simp only [h.heir]]; exact tame_rzero.heir i hi,
  fun i k hi hk => by rw [show y.left[i][k] = RowT.zero.left[i][k] from by simp only [h.left]]; exact tame_rzero.left i k hi hk, fun i hi _ => by rw [show y.left[i] = RowT.zero.left[i] from by simp only [h.left]]; exact tame_rzero.none i hi (by match i, hi with | 0, _ | 1, _ | 2, _ | 3, _ | 4, _ => rfl)⟩
theorem right_rzero : rightR RowT.zero = true := by decide +kernel
theorem OwnOk.right {y : RowT} {k : Nat} (h : OwnOk y k) : rightR y = true := by
  have h0 := right_rzero
  unfold rightR at h0 ⊢
  rw [Bool.and_eq_true, Bool.and_eq_true] at h0 ⊢
  refine ⟨⟨decide_eq_true h.ver.1, decide_eq_true fun i hi => (h.cells i hi).right⟩, ?_⟩
  have := h0.2
  rw [decide_eq_true_iff] at this ⊢
  intro j hj
  have q := this j hj
  simp only [h.heir, h.left]
  exact q
theorem encHeirs_zero {y : RowT} (h : y.heir = RowT.zero.heir) : ∀ m i, (encHeirs y m i).length ≤ 10 * m
  | 0, _ => by simp [encHeirs]
  | m + 1, i => by
    have ih := encHeirs_zero h m (i + 1)
    simp only [encHeirs, List.length_append]
    by_cases hi : i < 5
    · have h0 : y.heir[i] = (0 : Int) := by
        have e : y.heir[i] = RowT.zero.heir[i] := by simp only [h]
        rw [e]
        match i, hi with
        | 0, _ | 1, _ | 2, _ | 3, _ | 4, _ => rfl
      rw [dif_pos hi, h0, if_neg (by decide), List.append_nil]
      have := encN_len 0
      omega
    · rw [dif_neg hi]; simp only [List.length_nil]; omega
theorem OwnOk.len {y : RowT} {k : Nat} (h : OwnOk y k) : piecesN (encR (rowRec y)).length ≤ 7 := by
  have h1 := encN_len y.version
  have h2 := encs_len (flats y.cells.toList)
  have h3 := encHeirs_zero h.heir 5 0
  have h4 := encs_len [(0 : Int)]
  rw [flats_length] at h2
  simp at h2
  have : (encR (rowRec y)).length ≤ 360 := by
    simp only [encR, rowRec, if_true, encRow, List.length_append, List.length_cons, List.length_nil] at *
    omega
  unfold piecesN
  split <;> omega
theorem OwnOk.plan {x : RepT} {k : Nat} (h : OwnOk x.own k) (hk : k ≤ 1000000) (o : OpT) : OwnOk (planF x o).1 (k + 1) := by
  unfold planF
  split
  · exact .zero _
  split
  · exact .zero _
  split
  · exact .zero _
  split
  · exact .zero _
  split
  · exact .zero _
  split
  · exact .zero _
  · show OwnOk (growOf x o).1 (k + 1)
    unfold growOf
    split
    · exact h.inc hk _ _
    split
    · exact h.dec hk _ _
    split
    · split
      · exact h.give hk _ _ _
      · exact .zero _
    · exact .zero _
end Api
end

section
namespace Api
open Go Leg Codec Dsk Wal

structure Lone (x : RepT) (lg : Nat) (id : Int) (k : Nat) : Prop where
  id : x.id = id
  view : x.view = firstV
  log : x.log = .pointer (some ⟨lg, 0, none⟩)
  own : OwnOk x.own k
theorem Lone.new (id : Int) (lg k : Nat) : Lone (newRep id lg) lg id k := ⟨rfl, rfl, rfl, OwnOk.zero k⟩
variable {x : RepT} {lg k : Nat} {id : Int}
theorem Lone.more (h : Lone x lg id k) {m : Nat} (hm : k ≤ m) : Lone x lg id m := ⟨h.id, h.view, h.log, h.own.more hm⟩
theorem Lone.book (h : Lone x lg id k) (b : BookT) : Lone { x with book := b } lg id k := ⟨h.id, h.view, h.log, h.own⟩
theorem Lone.kept (h : Lone x lg id k) (w ver : Int) : Lone (keptS x w ver) lg id k := by
  obtain ⟨h1, h2, h3, h4, _⟩ := keptS_own x w ver
  exact ⟨h2.trans h.id, h3.trans h.view, h4.trans h.log, by rw [h1]; exact h.own⟩
theorem Lone.client (h : Lone x lg id k) (hk : k ≤ 1000000) (o : OpT) : Lone (clientX x o) lg id (k + 1) := by
  unfold clientX
  split
  · exact ⟨h.id, h.view, h.log, h.own.more (Nat.le_succ _)⟩
  · exact ⟨h.id, h.view, h.log, OwnOk.plan (x := opsF x) h.own hk o⟩
theorem Lone.alone (h : Lone x lg id k) : Alone x := alone_first h.view
theorem Lone.wf (h : Lone x lg id k) (hk : k ≤ 1000000) : WF x.own.flat := (h.own.tame hk).wf
theorem Lone.room (h : Lone x lg id k) (hk : k ≤ 1000000) (o : OpT) : piecesN (encR (rowRec (cN x o).1)).length ≤ 7 := (OwnOk.plan (x := opsF x) h.own hk o).len
theorem tellL_len (x : RepT) : (tellL x).length ≤ 2 := by
  unfold tellL
  rw [List.length_map]
  refine Nat.le_trans (List.length_filter_le _ _) ?_
  unfold witL
  split <;> simp
end Api
namespace Api
open Go Leg Codec Dsk Wal
end Api
namespace Api
open Go Leg Codec Dsk Wal
end Api
end

section
namespace Api
open Go Leg Codec Dsk Wal
def rowW (n : Int) : RowT := { RowT.zero with version := 1, cells := RowT.zero.cells.set 0 { CellT.zero with inn := n } }
structure AM where
  up : Bool
  has : Bool
  know : Bool
  inc : Bool
  busy : Bool
  k1 : Bool
  k2 : Bool
def AM.new : AM := ⟨true, false, false, false, false, false, false⟩
def AM.down : AM := ⟨false, false, false, false, false, false, false⟩
structure AS where
  ms : List AM
  W : List (List Nat)
def AS.new : AS := ⟨List.replicate 5 .new, List.replicate 25 []⟩
def AS.at' (a : AS) (i : Nat) : AM := a.ms.getD i .down
def keptW (q : Nat) (m : AM) : Int := (if m.k1 then 2 ^ ((q + 1) % 5) else 0) + (if m.k2 then 2 ^ ((q + 2) % 5) else 0)
def xW (q : Nat) (n : Int) (i : Nat) (m : AM) (lg : Nat) (vr : Value) : RepT :=
  { newRep ((i : Nat) : Int) lg with own := if m.inc then rowW n else RowT.zero, mirror := if m.has then mirPut MirT.zero ((q : Nat) : Int) (rowW n) else MirT.zero, book := if m.know then putRow BookT.zero ((q : Nat) : Int) (rowW n) else BookT.zero, busy := m.busy, kept := keptW q m, waits := if m.busy then 1 else 0, ops := if m.inc then 1 else 0, replies := vr }
def rcW (q : Nat) (n : Int) (m : AM) : List RecT := (if m.inc then [rowRec (rowW n)] else []) ++ (if m.has then [mirRec ((q : Nat) : Int) (rowW n)] else [])
def rsW (m : AM) : List ReplyT := if m.inc && !m.busy then [⟨1, 0, 0⟩] else []
def mW (q : Nat) (n : Int) (k : Nat) : MsgT := if k = 0 then { MsgT.zero with kind := 0, whose := ((q : Nat) : Int), row := rowW n } else if k = 1 then keptMsg 1 else newsMsg ((q : Nat) : Int) (rowW n)
def saidW (q : Nat) (n : Int) (l : List (Nat × Nat)) : List SaidT := l.map fun p => ⟨((p.1 : Nat) : Int), mW q n p.2⟩
def newsQ (q : Nat) : List (Nat × Nat) := ((List.range 5).filter fun i => !decide (i = q)).map fun i => (i, 2)
def tickQ (q : Nat) (m : AM) : List (Nat × Nat) := (if m.busy then (if m.k1 then [] else [((q + 1) % 5, 0)]) ++ (if m.k2 then [] else [((q + 2) % 5, 0)]) else []) ++ (if m.know then newsQ q else [])
def AM.idle (m : AM) : Bool := !(m.inc || m.busy || m.k1 || m.k2)
def putQ (W : List (List Nat)) (f : Nat) (p : Nat × Nat) : List (List Nat) := if f = p.1 then W else W.set (f * 5 + p.1) (if (W.getD (f * 5 + p.1) []).length < 8 then W.getD (f * 5 + p.1) [] ++ [p.2] else W.getD (f * 5 + p.1) [])
def sendQ (W : List (List Nat)) (f : Nat) (l : List (Nat × Nat)) : List (List Nat) := l.foldl (fun W p => putQ W f p) W
def okA (a : AS) : Bool := decide (a.ms.length = 5) && decide (a.W.length = 25)
def tickA (q : Nat) (a : AS) (i : Nat) : Option AS :=
  if okA a = false then none else if (a.at' i).up then (if i = q then (if (a.at' i).has || ((a.at' i).busy && !(a.at' i).inc) then none else some { a with W := sendQ a.W i (tickQ q (a.at' i)) }) else if (a.at' i).idle then some a else none) else some a
def keptA (q f : Nat) (m : AM) : AM :=
  if m.busy then
    (if (m.k1 || decide (f = (q + 1) % 5)) && (m.k2 || decide (f = (q + 2) % 5)) then { m with k1 := true, k2 := true, busy := false, know := true }
     else { m with k1 := m.k1 || decide (f = (q + 1) % 5), k2 := m.k2 || decide (f = (q + 2) % 5) })
  else m
def keptQ (q f : Nat) (m : AM) : List (Nat × Nat) := if m.busy && ((m.k1 || decide (f = (q + 1) % 5)) && (m.k2 || decide (f = (q + 2) % 5))) then newsQ q else []
def stepA (q : Nat) (a : AS) (i j : Nat) : Option AS :=
  if okA a = false then none else match a.W.getD (i * 5 + j) [] with
  | [] => some a
  | k :: t =>
    if (a.at' j).up then
      (if k = 0 then (if i = q && !decide (j = q) && (a.at' j).idle then some ⟨a.ms.set j { a.at' j with has := true }, putQ (a.W.set (i * 5 + j) t) j (q, 1)⟩ else none)
       else if k = 1 then (if j = q && (decide (i = (q + 1) % 5) || decide (i = (q + 2) % 5)) && (a.at' j).inc && !(a.at' j).has then some ⟨a.ms.set j (keptA q i (a.at' j)), sendQ (a.W.set (i * 5 + j) t) j (keptQ q i (a.at' j))⟩ else none)
       else (if k = 2 && i = q && !decide (j = q) && (a.at' j).idle then some ⟨a.ms.set j { a.at' j with know := true }, a.W.set (i * 5 + j) t⟩ else none))
    else some { a with W := a.W.set (i * 5 + j) t }
def incA (q : Nat) (a : AS) : Option AS :=
  if okA a && (a.at' q).up && (a.at' q).idle && !(a.at' q).has && !(a.at' q).know then some ⟨a.ms.set q { AM.new with inc := true, busy := true }, sendQ a.W q [((q + 1) % 5, 0), ((q + 2) % 5, 0)]⟩ else none
def crashA (a : AS) (i : Nat) : Option AS := if okA a && (a.at' i).up && (a.at' i).idle && !(a.at' i).has && !(a.at' i).know then some { a with ms := a.ms.set i .down } else none
def startA (a : AS) (i : Nat) : Option AS := if okA a && !(a.at' i).up && (a.at' i).idle && !(a.at' i).has && !(a.at' i).know then some { a with ms := a.ms.set i .new } else none
section
variable {n : Int} (h1 : 1 ≤ n) (h2 : n ≤ 1024)
include h1 h2
theorem rowW_inc : rowInc RowT.zero 0 n = (rowW n, 0) := by
  have e1 : askB 0 n = true := by
    unfold askB
    rw [show keyB 0 = true from rfl, Bool.true_and, decide_eq_true h1, show okN n = true from decide_eq_true ⟨by omega, by omega⟩]; rfl
  unfold rowInc moreR
  rw [if_pos e1, if_neg (by rw [show (cellAt RowT.zero 0).inn = 0 from rfl]; omega)]
  rw [show (cellAt RowT.zero 0).inn = 0 from rfl, Int.zero_add, w64_eq (n := n) (by omega) (by omega)]
  rfl
theorem rowW_ok : OwnOk (rowW n) 1 := by
  have := (OwnOk.zero 0).inc (by decide) 0 n
  rw [rowW_inc h1 h2] at this
  exact this
theorem rowW_right : rightR (rowW n) = true := (rowW_ok h1 h2).right
theorem rowW_tame : TameR (rowW n) := (rowW_ok h1 h2).tame (by decide)
end
end Api
end

section
namespace Api
open Go Leg Codec Dsk Wal
section
variable {n : Int} {q i lg : Nat} {vr : Value} {m : AM}
theorem idle_all (h : m.idle = true) : m.inc = false ∧ m.busy = false ∧ m.k1 = false ∧ m.k2 = false := by
  obtain ⟨a, b, c, d, e, f, g⟩ := m
  cases d <;> cases e <;> cases f <;> cases g <;> first | exact ⟨rfl, rfl, rfl, rfl⟩ | exact nomatch h
theorem tellW (hq : q < 3) (hi : m.inc = true) : tellL (xW q n q m lg vr) = saidW q n ((if m.k1 then [] else [((q + 1) % 5, 0)]) ++ (if m.k2 then [] else [((q + 2) % 5, 0)])) := by
  obtain ⟨a, b, c, d, e, f, g⟩ := m
  cases hi
  match q, hq with
  | 0, _ | 1, _ | 2, _ => cases f <;> cases g <;> (show _ = _; kernel_rfl)
theorem newsW (hq : q < 3) : newsL ((q : Nat) : Int) (rowW n) = saidW q n (newsQ q) := by
  match q, hq with
  | 0, _ | 1, _ | 2, _ => show _ = _; kernel_rfl
theorem bookW (hq : q < 3) (lg : Nat) (vr : Value) (i : Nat) : bookRow (xW q n i m lg vr).book ((q : Nat) : Int) = if m.know then rowW n else RowT.zero := by
  obtain ⟨a, b, c, d, e, f, g⟩ := m
  match q, hq with
  | 0, _ | 1, _ | 2, _ => cases c <;> (show _ = _; kernel_rfl)
theorem bookW0 (hi : i < 5) (h : i ≠ q) (hq : q < 3) : (bookRow (xW q n i m lg vr).book ((i : Nat) : Int)).version = 0 := by
  obtain ⟨a, b, c, d, e, f, g⟩ := m
  match q, hq, i, hi with
  | 0, _, 0, _ | 1, _, 1, _ | 2, _, 2, _ => exact absurd rfl h
  | 0, _, 1, _ | 0, _, 2, _ | 0, _, 3, _ | 0, _, 4, _ | 1, _, 0, _ | 1, _, 2, _ | 1, _, 3, _ | 1, _, 4, _ | 2, _, 0, _ | 2, _, 1, _ | 2, _, 3, _ | 2, _, 4, _ => cases c <;> (show _ = _; kernel_rfl)
theorem rowBW (hq : q < 3) (i : Nat) (m : AM) (lg : Nat) (vr : Value) : rowB (xW q n i m lg vr) ((q : Nat) : Int) ((q : Nat) : Int) = true := by
  obtain ⟨a, b, c, d, e, f, g⟩ := m
  match q, hq with
  | 0, _ | 1, _ | 2, _ => cases b <;> (show _ = _; kernel_rfl)
theorem takesW (hq : q < 3) (hr : rightR (rowW n) = true) (i : Nat) (m : AM) (lg : Nat) (vr : Value) : mirTakes (xW q n i m lg vr).mirror ((q : Nat) : Int) (rowW n) = !m.has := by
  unfold mirTakes
  rw [hr]
  obtain ⟨a, b, c, d, e, f, g⟩ := m
  match q, hq with
  | 0, _ | 1, _ | 2, _ => cases b <;> (show _ = _; kernel_rfl)
theorem rowXW (hq : q < 3) (hr : rightR (rowW n) = true) : rowX (xW q n i m lg vr) ((q : Nat) : Int) ((q : Nat) : Int) (rowW n) = xW q n i { m with has := true } lg vr := by
  unfold rowX takeB mirKeep
  rw [rowBW hq, takesW hq hr]
  obtain ⟨a, b, c, d, e, f, g⟩ := m
  cases b <;> rfl
theorem rowCW (hq : q < 3) (hr : rightR (rowW n) = true) (hi : m.idle = true) : rowC (xW q n i m lg vr) ((q : Nat) : Int) ((q : Nat) : Int) (rowW n) ((rcW q n m).map encR) = (rcW q n { m with has := true }).map encR := by
  unfold rowC takeB
  rw [rowBW hq, takesW hq hr]
  obtain ⟨a, b, c, d, e, f, g⟩ := m
  obtain ⟨rfl, rfl, rfl, rfl⟩ := idle_all hi
  cases b <;> rfl
theorem rowOW (hq : q < 3) (hr : rightR (rowW n) = true) : rowO (xW q n i m lg vr) ((q : Nat) : Int) ((q : Nat) : Int) (rowW n) = saidW q n [(q, 1)] := by
  unfold rowO
  rw [rowBW hq, rowXW hq hr, if_pos rfl]
  have : (mirRow (xW q n i { m with has := true } lg vr).mirror ((q : Nat) : Int)).version = 1 := by
    match q, hq with
    | 0, _ | 1, _ | 2, _ => show _ = _; kernel_rfl
  rw [this]
  rfl
theorem mergeW (hq : q < 3) (hr : rightR (rowW n) = true) (i : Nat) (m : AM) (lg : Nat) (vr : Value) : (bookMerge (xW q n i m lg vr).book ((q : Nat) : Int) (rowW n)).1 = putRow BookT.zero ((q : Nat) : Int) (rowW n) := by
  unfold bookMerge
  rw [hr, bookW hq]
  obtain ⟨a, b, c, d, e, f, g⟩ := m
  match q, hq with
  | 0, _ | 1, _ | 2, _ => cases c <;> (show _ = _; kernel_rfl)
theorem newsXW (hq : q < 3) (hr : rightR (rowW n) = true) : { xW q n i m lg vr with book := (bookMerge (xW q n i m lg vr).book ((q : Nat) : Int) (rowW n)).1 } = xW q n i { m with know := true } lg vr := by
  rw [mergeW hq hr]
  rfl
def witQ (q f : Nat) : Bool := decide (f = (q + 1) % 5) || decide (f = (q + 2) % 5)
theorem keptBW (hq : q < 3) {f : Nat} (hf : witQ q f = true) (hi : m.inc = true) : keptB (xW q n q m lg vr) ((f : Nat) : Int) 1 = m.busy := by
  have hf' : f = (q + 1) % 5 ∨ f = (q + 2) % 5 := by unfold witQ at hf; simpa using hf
  obtain ⟨a, b, c, d, e, f, g⟩ := m
  cases hi
  match q, hq with
  | 0, _ | 1, _ | 2, _ => rcases hf' with rfl | rfl <;> cases e <;> (show _ = _; kernel_rfl)
theorem keptXW (hq : q < 3) {f : Nat} (hf : witQ q f = true) : keptX (xW q n q m lg vr) ((f : Nat) : Int) = xW q n q { m with k1 := m.k1 || decide (f = (q + 1) % 5), k2 := m.k2 || decide (f = (q + 2) % 5) } lg vr := by
  have hf' : f = (q + 1) % 5 ∨ f = (q + 2) % 5 := by unfold witQ at hf; simpa using hf
  obtain ⟨a, b, c, d, e, f, g⟩ := m
  match q, hq with
  | 0, _ | 1, _ | 2, _ => rcases hf' with rfl | rfl <;> cases f <;> cases g <;> (show _ = _; kernel_rfl)
theorem fullW (hq : q < 3) : fullB (xW q n q m lg vr) = (m.k1 && m.k2) := by
  obtain ⟨a, b, c, d, e, f, g⟩ := m
  match q, hq with
  | 0, _ | 1, _ | 2, _ => cases f <;> cases g <;> (show _ = _; kernel_rfl)
theorem countW (hq : q < 3) (hr : rightR (rowW n) = true) (hi : m.inc = true) (hb : m.busy = true) : countF (xW q n q m lg vr) = xW q n q { m with busy := false, know := true } lg vr := by
  unfold countF
  rw [show (xW q n q m lg vr).own = rowW n from if_pos hi, show (xW q n q m lg vr).id = ((q : Nat) : Int) from rfl, mergeW hq hr]
  obtain ⟨a, b, c, d, e, f, g⟩ := m
  cases hi; cases hb
  rfl
theorem keptSW (hq : q < 3) {f : Nat} (hf : witQ q f = true) (hr : rightR (rowW n) = true) (hi : m.inc = true) : keptS (xW q n q m lg vr) ((f : Nat) : Int) 1 = xW q n q (keptA q f m) lg vr := by
  unfold keptS keptA
  rw [keptBW hq hf hi, keptXW hq hf, fullW hq]
  cases hb : m.busy
  · rfl
  · rw [if_pos rfl, if_pos rfl]
    show (if (m.k1 || _) && (m.k2 || _) then _ else _) = _
    cases hk : (m.k1 || decide (f = (q + 1) % 5)) && (m.k2 || decide (f = (q + 2) % 5))
    · rfl
    · rw [if_pos rfl, if_pos rfl]
      rw [Bool.and_eq_true] at hk
      rw [hk.1, hk.2]
      exact countW (m := ⟨m.up, m.has, m.know, m.inc, true, true, true⟩) hq hr hi rfl
theorem keptRW (hq : q < 3) {f : Nat} (hf : witQ q f = true) (hi : m.inc = true) : keptR (xW q n q m lg vr) ((f : Nat) : Int) 1 (rsW m) = rsW (keptA q f m) := by
  unfold keptR keptA
  rw [keptBW hq hf hi, keptXW hq hf, fullW hq]
  obtain ⟨a, b, c, d, e, k1, k2⟩ := m
  cases hi
  cases e
  · rfl
  · show (if true && ((k1 || _) && (k2 || _)) then _ else _) = rsW (if true then if (k1 || _) && (k2 || _) then _ else _ else _)
    cases hk : (k1 || decide (f = (q + 1) % 5)) && (k2 || decide (f = (q + 2) % 5)) <;> rfl
theorem keptOW (hq : q < 3) {f : Nat} (hf : witQ q f = true) (hi : m.inc = true) : keptO (xW q n q m lg vr) ((f : Nat) : Int) 1 = saidW q n (keptQ q f m) := by
  unfold keptO keptQ
  rw [keptBW hq hf hi, keptXW hq hf, fullW hq]
  show (if m.busy && ((m.k1 || _) && (m.k2 || _)) then _ else _) = _
  split
  · rw [show (xW q n q m lg vr).own = rowW n from if_pos hi]
    exact newsW hq
  · rfl
abbrev opW (q : Nat) (n : Int) : OpT := OpT.mk 0 ((q : Nat) : Int) 0 0 n ChangeT.zero 0 0 0
theorem freshW (hi : m.idle = true) (hh : m.has = false) (hk : m.know = false) : xW q n i m lg vr = { newRep ((i : Nat) : Int) lg with replies := vr } := by
  obtain ⟨a, b, c, d, e, f, g⟩ := m
  obtain ⟨rfl, rfl, rfl, rfl⟩ := idle_all hi
  cases hh; cases hk
  rfl
theorem cNW (hq : q < 3) (hr : rowInc RowT.zero 0 n = (rowW n, 0)) : cN { newRep ((q : Nat) : Int) lg with replies := vr } (opW q n) = (rowW n, 0, 0) := by
  have hg : growOf (opsF { newRep ((q : Nat) : Int) lg with replies := vr }) (opW q n) = (rowW n, 0) := hr
  unfold cN planF
  rw [hg]
  match q, hq with
  | 0, _ | 1, _ | 2, _ => show _ = _; kernel_rfl
def incM : AM := { AM.new with inc := true, busy := true }
theorem clientXW (hq : q < 3) (hr : rowInc RowT.zero 0 n = (rowW n, 0)) : clientX { newRep ((q : Nat) : Int) lg with replies := vr } (opW q n) = xW q n q incM lg vr := by
  unfold clientX doneB
  rw [cNW hq hr]
  rfl
theorem clientCW (hq : q < 3) (hr : rowInc RowT.zero 0 n = (rowW n, 0)) : clientC { newRep ((q : Nat) : Int) lg with replies := vr } (opW q n) [] = (rcW q n incM).map encR := by
  unfold clientC doneB
  rw [cNW hq hr]
  rfl
theorem clientRW (hq : q < 3) (hr : rowInc RowT.zero 0 n = (rowW n, 0)) : clientR { newRep ((q : Nat) : Int) lg with replies := vr } (opW q n) [] = rsW incM := by
  unfold clientR doneB
  rw [cNW hq hr]
  rfl
theorem clientOW (hq : q < 3) (hr : rowInc RowT.zero 0 n = (rowW n, 0)) : clientO { newRep ((q : Nat) : Int) lg with replies := vr } (opW q n) = saidW q n [((q + 1) % 5, 0), ((q + 2) % 5, 0)] := by
  unfold clientO doneB
  rw [cNW hq hr]
  exact tellW (m := incM) (n := n) (lg := lg) (vr := vr) hq rfl
end
/-! ### Messages -/
section
variable {n : Int} (h1 : 1 ≤ n) (h2 : n ≤ 1024) {q : Nat}
include h1 h2
theorem mW_wf (k : Nat) : WF (mW q n k).row.flat := by
  have ht := (rowW_tame h1 h2).wf
  unfold mW
  split
  · exact ht
  split
  · exact tame_rzero.wf
  · exact ht
variable (hq : q < 3)
include hq
theorem mW_dec (k : Nat) : decM (encM (mW q n k)) = (mW q n k, 0) := by
  have ht := rowW_tame h1 h2
  have hr := rowW_right h1 h2
  have hw : (0 : Int) ≤ ((q : Nat) : Int) ∧ ((q : Nat) : Int) < 5 := ⟨by omega, by omega⟩
  unfold mW
  split
  · have h := decM_enc (m := { MsgT.zero with kind := 0, whose := ((q : Nat) : Int), row := rowW n }) ⟨⟨show (0 : Int) ≤ 0 by decide, show (0 : Int) < 10 by decide⟩, hw, ht, nm0, nm0, okB0, okB0, okC0, okV0⟩ hr
    exact h
  split
  · have h := decM_enc (m := keptMsg 1) ⟨⟨show (0 : Int) ≤ 1 by decide, show (1 : Int) < 10 by decide⟩, ⟨show (0 : Int) ≤ 0 by decide, show (0 : Int) < 5 by decide⟩, tame_rzero, ⟨by decide, by decide⟩, nm0, okB0, okB0, okC0, okV0⟩ rfl
    exact h
  · have h := decM_enc (m := newsMsg ((q : Nat) : Int) (rowW n)) ⟨⟨show (0 : Int) ≤ 2 by decide, show (2 : Int) < 10 by decide⟩, hw, ht, nm0, nm0, okB0, okB0, okC0, okV0⟩ hr
    exact h
end
theorem encs_pos (a : Int) (l : List Int) (r : List UInt8) : 0 < (encs (a :: l) ++ r).length := by
  have := encU_pos (a % 18446744073709551616).toNat
  simp only [encs, List.flatMap_cons, List.length_append, encN]
  omega
theorem mW_pos (q : Nat) (n : Int) (k : Nat) : 0 < (encM (mW q n k)).length := by
  unfold mW
  split
  · exact encs_pos _ _ _
  split
  · have := encs_pos (1 : Int) [1] []
    rwa [List.append_nil] at this
  · exact encs_pos _ _ _
end Api
end

section
namespace Go.Proofs.YtobdfjdoilnfcaaGreat

open Go Leg Codec Api Dsk Wal

set_option linter.unusedSimpArgs false
set_option linter.unusedVariables false

set_option maxRecDepth 100000

set_option maxHeartbeats 8000000

theorem range_open {f : Nat → HP} {k i : Nat} (hi : i < k) {H : List HP} {h : Hl} (s : sep (sep ((List.range k).map f) :: H) h) : sep (f i :: sep (((List.range k).map f).eraseIdx i) :: H) h := by
  have s1 : sep ((List.range k).map f ++ H) h := (sep_append _ _).2 s
  have e : ((List.range k).map f).getD i (fun _ => True) = f i := by simp [List.getD_eq_getElem?_getD, hi]
  have p := perm_get (fun _ => True) ((List.range k).map f) i (by simpa using hi)
  rw [e] at p
  exact star_mono (sep_perm (p.append_right H) s1) (fun _ a => a) fun _ b => (sep_append _ _).1 b
theorem range_shut {f g : Nat → HP} {k i : Nat} (hi : i < k) (hg : ∀ j, j ≠ i → g j = f j) {H : List HP} {h : Hl} (s : sep (g i :: sep (((List.range k).map f).eraseIdx i) :: H) h) : sep (sep ((List.range k).map g) :: H) h := by
  have e0 : ((List.range k).map g).eraseIdx i = ((List.range k).map f).eraseIdx i := by
    refine List.ext_getElem? fun j => ?_
    rw [List.getElem?_eraseIdx, List.getElem?_eraseIdx]
    have : ∀ m, m ≠ i → ((List.range k).map g)[m]? = ((List.range k).map f)[m]? := fun m hm => by
      rw [List.getElem?_map, List.getElem?_map]
      by_cases hk : m < k
      · simp [hk, hg m hm]
      · simp [hk]
    split
    · exact this j (by omega)
    · exact this (j + 1) (by omega)
  have e : ((List.range k).map g).getD i (fun _ => True) = g i := by simp [List.getD_eq_getElem?_getD, hi]
  have p := perm_get (fun _ => True) ((List.range k).map g) i (by simpa using hi)
  rw [e, e0] at p
  have s2 : sep ((g i :: ((List.range k).map f).eraseIdx i) ++ H) h := star_mono s (fun _ a => a) fun _ b => (sep_append _ _).2 b
  exact (sep_append _ _).1 (sep_perm (p.symm.append_right H) s2)
theorem own_none (e size : Nat) {H : List HP} {h : Hl} (s : sep H h) : sep (own (.slice none 0 0) 0 [] e size :: H) h := ⟨em, h, Dj.em' h, (em_jn h).symm, ⟨by simp, .inl ⟨rfl, rfl, rfl⟩⟩, s⟩
theorem true_piece {H : List HP} {h : Hl} (s : sep H h) : sep ((fun _ => True) :: H) h := ⟨em, h, Dj.em' h, (em_jn h).symm, trivial, s⟩
structure CG where
  n : Nat
  d : Nat → Nat
  r : Nat → Nat
  p : Nat → Value
def frE (q : Nat) (n : Int) (k e : Nat) : List UInt8 := frameB ((k / 5 : Nat) : Int) ((k % 5 : Nat) : Int) (encM (mW q n e))
def frW (q : Nat) (n : Int) (W : List (List Nat)) : List (List (List UInt8)) := (List.range 25).map fun k => (W.getD k []).map (frE q n k)
theorem frW_len (q : Nat) (n : Int) (W : List (List Nat)) : (frW q n W).length = 25 := by simp [frW]
theorem frW_at (q : Nat) (n : Int) (W : List (List Nat)) {k : Nat} (h : k < 25) : (frW q n W).getD k [] = (W.getD k []).map (frE q n k) := by simp [frW, h, List.getD_eq_getElem?_getD]
theorem frW_set (q : Nat) (n : Int) (W : List (List Nat)) {k : Nat} (h : k < 25) (hW : W.length = 25) (l : List Nat) : (frW q n W).set k (l.map (frE q n k)) = frW q n (W.set k l) := by
  refine List.ext_getElem? fun j => ?_
  by_cases hj : j = k
  · subst hj
    rw [List.getElem?_set_self (by rw [frW_len]; exact h)]
    simp [frW, h, List.getD_eq_getElem?_getD, List.getElem?_set_self (show j < W.length by omega)]
  · rw [List.getElem?_set_ne (fun e => hj e.symm)]
    unfold frW
    rw [List.getElem?_map, List.getElem?_map]
    by_cases hk : j < 25
    · simp [hk, List.getD_eq_getElem?_getD, List.getElem?_set_ne (fun e => hj e.symm)]
    · simp [hk]
theorem wayK_nat (f t : Nat) : wayK ((f : Nat) : Int) ((t : Nat) : Int) = f * 5 + t := rfl
theorem machN_nat {f : Nat} (h : f < 5) : machN ((f : Nat) : Int) = true := decide_eq_true ⟨by omega, by omega⟩
theorem valid_nat {f t : Nat} (hf : f < 5) (ht : t < 5) : validB ((f : Nat) : Int) ((t : Nat) : Int) = !decide (f = t) := by
  unfold validB
  rw [machN_nat hf, machN_nat ht]
  by_cases h : f = t
  · subst h; simp
  · rw [decide_eq_false h, decide_eq_false (fun e => h (by omega))]; rfl
theorem frE_way (q : Nat) (n : Int) {f t : Nat} (ht : t < 5) (e : Nat) : frE q n (f * 5 + t) e = frameB ((f : Nat) : Int) ((t : Nat) : Int) (encM (mW q n e)) := by
  unfold frE
  rw [show (f * 5 + t) / 5 = f by omega, show (f * 5 + t) % 5 = t by omega]
theorem frW_put (q : Nat) (n : Int) {W : List (List Nat)} (hW : W.length = 25) {f t : Nat} (hf : f < 5) (ht : t < 5) (e : Nat) : netPut (frW q n W) ((f : Nat) : Int) ((t : Nat) : Int) (frameB ((f : Nat) : Int) ((t : Nat) : Int) (encM (mW q n e))) = frW q n (putQ W f (t, e)) := by
  unfold netPut putQ
  rw [valid_nat hf ht, wayK_nat]
  by_cases h : f = t
  · rw [if_neg (by simp [h]), if_pos h]
  · rw [if_pos (by simp [h]), if_neg h, frW_at q n W (show f * 5 + t < 25 by omega), ← frE_way q n ht]
    show (frW q n W).set _ (putBox _ _) = frW q n (W.set (f * 5 + t) (if (W.getD (f * 5 + t) []).length < 8 then W.getD (f * 5 + t) [] ++ [e] else W.getD (f * 5 + t) []))
    rw [← frW_set q n W (by omega) hW]
    unfold putBox
    rw [List.length_map]
    split
    · rw [List.map_append]; rfl
    · rfl
theorem putQ_len (W : List (List Nat)) (f : Nat) (p : Nat × Nat) : (putQ W f p).length = W.length := by unfold putQ; split <;> simp
theorem frW_send (q : Nat) (n : Int) {f : Nat} (hf : f < 5) : ∀ (l : List (Nat × Nat)) {W : List (List Nat)}, W.length = 25 → (∀ p ∈ l, p.1 < 5) → sendAll (frW q n W) f (saidW q n l) = frW q n (sendQ W f l)
  | [], _, _, _ => rfl
  | p :: l, W, hW, hp => by
    have ih := frW_send q n hf l (W := putQ W f p) (by rw [putQ_len]; exact hW) (fun x hx => hp x (List.mem_cons_of_mem _ hx))
    have h1 := frW_put q n hW hf (hp p (List.mem_cons_self ..)) p.2
    show sendAll (netPut (frW q n W) _ _ _) f (saidW q n l) = _
    rw [show netPut (frW q n W) ((f : Nat) : Int) ((p.1 : Nat) : Int) (frameB ((f : Nat) : Int) ((p.1 : Nat) : Int) (encM (mW q n p.2))) = frW q n (putQ W f p) from h1]
    exact ih
abbrev dV (g : CG) : Nat → Value := fun i => .pointer (some ⟨g.d i, 0, none⟩)
def mV (a : AS) (r : Nat → Nat) : Nat → Value := fun i => if (a.at' i).up then .pointer (some ⟨r i, 0, none⟩) else .pointer none
abbrev rcB (q : Nat) (n : Int) (m : AM) : List (List UInt8) := (rcW q n m).map encR
abbrev ownR (v : Value) (l : List ReplyT) : HP := own v l.length (ints (List.flatMap ReplyT.flat l)) 37 3
abbrev runU (q : Nat) (n : Int) (i : Nat) (m : AM) (d r : Nat) (g : Nat × Value) : List HP := [blkA r (RepT.cells (xW q n i m g.1 g.2)) 102, lgL g.1 d (rcB q n m), ownR g.2 (rsW m)]
def runP (q : Nat) (n : Int) (i : Nat) (m : AM) (d r : Nat) : HP := if m.up then pack (runU q n i m d r) else fun _ => True
abbrev machU (q : Nat) (n : Int) (i : Nat) (m : AM) (d r : Nat) (p : Value) : List HP := [dkL d (rcB q n m), ownR p [], runP q n i m d r]
def machP (q : Nat) (n : Int) (i : Nat) (m : AM) (d r : Nat) (p : Value) : HP := sep (machU q n i m d r p)
abbrev cluL (q : Nat) (n : Int) (c : Nat) (a : AS) (g : CG) : List HP := [blkA c (clC g.n (dV g) (mV a g.r) g.p) 80, netP 120 167 5 g.n (frW q n a.W), sep ((List.range 5).map fun i => machP q n i (a.at' i) (g.d i) (g.r i) (g.p i))]
def cluP (q : Nat) (n : Int) (c : Nat) (a : AS) : HP := pack (cluL q n c a)
section
variable {f : FuncId} {args : Array Value} {Q : Value → Prop} {q : Nat} {n : Int} {c i : Nat} {a a' : AS}
theorem clu_gen (hi : i < 5) (hne : ∀ j, j ≠ i → a'.at' j = a.at' j)
    (core : ∀ g : CG, Leg.Does Tryz.prog f args (fun _ => True) (blkA c (clC g.n (dV g) (mV a g.r) g.p) 80 :: netP 120 167 5 g.n (frW q n a.W) :: machU q n i (a.at' i) (g.d i) (g.r i) (g.p i))
      (Ret fun v H => Q v ∧ ∃ g' : CG, g'.n = g.n ∧ (∀ j, j ≠ i → g'.d j = g.d j ∧ g'.r j = g.r j ∧ g'.p j = g.p j) ∧ H = blkA c (clC g.n (dV g') (mV a' g'.r) g'.p) 80 :: netP 120 167 5 g.n (frW q n a'.W) :: machU q n i (a'.at' i) (g'.d i) (g'.r i) (g'.p i))) :
    Leg.Does Tryz.prog f args (fun _ => True) [cluP q n c a] (Ret fun v H => Q v ∧ H = [cluP q n c a']) := by
  refine Leg.Does.ex (A' := fun g : CG => (blkA c (clC g.n (dV g) (mV a g.r) g.p) 80 :: netP 120 167 5 g.n (frW q n a.W) :: machU q n i (a.at' i) (g.d i) (g.r i) (g.p i)) ++ [sep (((List.range 5).map fun i => machP q n i (a.at' i) (g.d i) (g.r i) (g.p i)).eraseIdx i)]) (fun h s => ?_) fun g => ?_
  · obtain ⟨g, s⟩ := sep_open s
    have s2 := range_open (f := fun i => machP q n i (a.at' i) (g.d i) (g.r i) (g.p i)) hi (sep_selR [2, 0, 0] rfl s)
    have s3 := (sep_append (machU q n i (a.at' i) (g.d i) (g.r i) (g.p i)) _).2 s2
    exact ⟨g, sep_selR [4, 4, 0, 0, 0, 0] rfl s3⟩
  · refine Leg.Does.withinR (core g) (fun _ _ _ _ => trivial) (fun h s => s) fun v H hp => ?_
    obtain ⟨hQ, g', hn, hg, rfl⟩ := hp
    refine ⟨[cluP q n c a'], fun h s => ?_, hQ, rfl⟩
    have s1 := sep_selR [2, 2, 2, 2, 0, 0] rfl s
    have s2 := (sep_append (machU q n i (a'.at' i) (g'.d i) (g'.r i) (g'.p i)) _).1 s1
    have s3 := range_shut (f := fun i => machP q n i (a.at' i) (g.d i) (g.r i) (g.p i)) (g := fun i => machP q n i (a'.at' i) (g'.d i) (g'.r i) (g'.p i)) hi (fun j hj => by
      obtain ⟨h1, h2, h3⟩ := hg j hj
      rw [hne j hj, h1, h2, h3]) s2
    refine sep_close (p := cluL q n c a') g' ?_
    rw [← hn] at s3
    exact sep_selR [1, 1, 0] rfl s3
theorem clu_up (hi : i < 5) (hu : (a.at' i).up = true) (hu' : (a'.at' i).up = true) (hne : ∀ j, j ≠ i → a'.at' j = a.at' j)
    (core : ∀ (g : CG) (lg : Nat) (vr : Value), mV a g.r i = .pointer (some ⟨g.r i, 0, none⟩) → Leg.Does Tryz.prog f args (fun _ => True) (blkA c (clC g.n (dV g) (mV a g.r) g.p) 80 :: netP 120 167 5 g.n (frW q n a.W) :: dkL (g.d i) (rcB q n (a.at' i)) :: runU q n i (a.at' i) (g.d i) (g.r i) (lg, vr))
      (Ret fun v H => Q v ∧ ∃ vr', H = blkA c (clC g.n (dV g) (mV a g.r) g.p) 80 :: netP 120 167 5 g.n (frW q n a'.W) :: dkL (g.d i) (rcB q n (a'.at' i)) :: runU q n i (a'.at' i) (g.d i) (g.r i) (lg, vr'))) :
    Leg.Does Tryz.prog f args (fun _ => True) [cluP q n c a] (Ret fun v H => Q v ∧ H = [cluP q n c a']) := by
  have hm : ∀ r, mV a' r = mV a r := fun r => funext fun j => by
    unfold mV
    by_cases hj : j = i
    · subst hj; rw [if_pos hu, if_pos hu']
    · rw [hne j hj]
  refine clu_gen hi hne fun g => ?_
  have e1 : runP q n i (a.at' i) (g.d i) (g.r i) = pack (runU q n i (a.at' i) (g.d i) (g.r i)) := if_pos hu
  have e2 : runP q n i (a'.at' i) (g.d i) (g.r i) = pack (runU q n i (a'.at' i) (g.d i) (g.r i)) := if_pos hu'
  refine Leg.Does.ex (A' := fun x : Nat × Value => (blkA c (clC g.n (dV g) (mV a g.r) g.p) 80 :: netP 120 167 5 g.n (frW q n a.W) :: dkL (g.d i) (rcB q n (a.at' i)) :: runU q n i (a.at' i) (g.d i) (g.r i) x) ++ [ownR (g.p i) []]) (fun h s => ?_) fun ⟨lg, vr⟩ => ?_
  · unfold machU at s
    rw [e1] at s
    obtain ⟨x, s⟩ := sep_open (sep_selR [4, 0, 0, 0, 0] rfl s)
    exact ⟨x, sep_selR [3, 3, 3, 0, 0, 0, 0] rfl s⟩
  · refine Leg.Does.withinR (core g lg vr (if_pos hu)) (fun _ _ _ _ => trivial) (fun h s => s) fun v H hp => ?_
    obtain ⟨hQ, vr', rfl⟩ := hp
    refine ⟨_, fun h s => ?_, hQ, g, rfl, fun _ _ => ⟨rfl, rfl, rfl⟩, rfl⟩
    unfold machU
    rw [e2, hm]
    have s1 := sep_close (p := runU q n i (a'.at' i) (g.d i) (g.r i)) (H := [blkA c (clC g.n (dV g) (mV a g.r) g.p) 80, netP 120 167 5 g.n (frW q n a'.W), dkL (g.d i) (rcB q n (a'.at' i)), ownR (g.p i) []]) (lg, vr') (sep_selR [3, 3, 3, 0, 0, 0, 0] rfl s)
    exact sep_selR [1, 1, 1, 1, 0] rfl s1
theorem clu_net (hm : a'.ms = a.ms) (core : ∀ g : CG, Leg.Does Tryz.prog f args (fun _ => True) [blkA c (clC g.n (dV g) (mV a g.r) g.p) 80, netP 120 167 5 g.n (frW q n a.W)] (Ret fun v H => Q v ∧ H = [blkA c (clC g.n (dV g) (mV a g.r) g.p) 80, netP 120 167 5 g.n (frW q n a'.W)])) :
    Leg.Does Tryz.prog f args (fun _ => True) [cluP q n c a] (Ret fun v H => Q v ∧ H = [cluP q n c a']) := by
  obtain ⟨ms, W'⟩ := a'
  obtain rfl : ms = a.ms := hm
  refine Leg.Does.ex (A' := fun g : CG => [blkA c (clC g.n (dV g) (mV a g.r) g.p) 80, netP 120 167 5 g.n (frW q n a.W)] ++ [sep ((List.range 5).map fun i => machP q n i (a.at' i) (g.d i) (g.r i) (g.p i))]) (fun h s => sep_open s) fun g => ?_
  refine Leg.Does.withinR (core g) (fun _ _ _ _ => trivial) (fun h s => s) fun v H hp => ?_
  obtain ⟨hQ, rfl⟩ := hp
  exact ⟨[cluP q n c ⟨a.ms, W'⟩], fun h s => sep_close (p := cluL q n c ⟨a.ms, W'⟩) g s, hQ, rfl⟩
end
theorem okA_len {a : AS} (h : okA a = true) : a.ms.length = 5 ∧ a.W.length = 25 := by
  unfold okA at h
  rw [Bool.and_eq_true] at h
  exact ⟨of_decide_eq_true h.1, of_decide_eq_true h.2⟩
theorem at_set {a : AS} {W : List (List Nat)} {i : Nat} {m : AM} (h : i < a.ms.length) : (AS.mk (a.ms.set i m) W).at' i = m := by
  unfold AS.at'
  rw [List.getD_eq_getElem?_getD, List.getElem?_set_self h]; rfl
theorem at_ne {a : AS} {W : List (List Nat)} {i j : Nat} {m : AM} (h : j ≠ i) : (AS.mk (a.ms.set i m) W).at' j = a.at' j := by
  unfold AS.at'
  rw [List.getD_eq_getElem?_getD, List.getElem?_set_ne (fun e => h e.symm), List.getD_eq_getElem?_getD]
theorem machB_nat {i : Nat} (h : i < 5) : machB ((i : Nat) : Int) = true := decide_eq_true ⟨by omega, by omega⟩
/-! ### Ticks -/
theorem tickO_own {q : Nat} {n : Int} {m : AM} {lg : Nat} {vr : Value} (hq : q < 3) (hb : (m.busy && !m.inc) = false) : tickO (xW q n q m lg vr) = saidW q n (tickQ q m) := by
  have hm : memb firstV ((q : Nat) : Int) = true := by
    match q, hq with
    | 0, _ | 1, _ | 2, _ => rfl
  have e1 : (if (xW q n q m lg vr).busy then tellL (xW q n q m lg vr) else []) = saidW q n (if m.busy then (if m.k1 then [] else [((q + 1) % 5, 0)]) ++ (if m.k2 then [] else [((q + 2) % 5, 0)]) else []) := by
    show (if m.busy then _ else _) = _
    cases h : m.busy
    · rfl
    · rw [if_pos rfl, if_pos rfl]
      rw [h] at hb
      exact tellW hq (by simpa using hb)
  have e2 : (if memb firstV (xW q n q m lg vr).id ∧ 0 < (bookRow (xW q n q m lg vr).book (xW q n q m lg vr).id).version then newsL (xW q n q m lg vr).id (bookRow (xW q n q m lg vr).book (xW q n q m lg vr).id) else []) = saidW q n (if m.know then newsQ q else []) := by
    rw [show (xW q n q m lg vr).id = ((q : Nat) : Int) from rfl, bookW hq]
    cases h : m.know
    · exact if_neg fun q' => absurd (show (0 : Int) < 0 from q'.2) (by decide)
    · rw [if_pos rfl, if_pos rfl, if_pos ⟨hm, show (0 : Int) < 1 by decide⟩]
      exact newsW hq
  unfold tickO tickQ
  rw [e1, e2]
  exact (List.map_append).symm
theorem tickO_idle {q i : Nat} {n : Int} {m : AM} {lg : Nat} {vr : Value} (hq : q < 3) (hi : i < 5) (hne : i ≠ q) (h : m.idle = true) : tickO (xW q n i m lg vr) = [] := by
  unfold tickO
  rw [show (xW q n i m lg vr).busy = false from (idle_all h).2.1, show (xW q n i m lg vr).id = ((i : Nat) : Int) from rfl, bookW0 hi hne hq]
  rw [if_neg (show ¬ (false = true) by decide), if_neg (fun e => absurd e.2 (by decide))]
  rfl
theorem tickQ_lt (q : Nat) (m : AM) : ∀ p ∈ tickQ q m, p.1 < 5 := by
  have h1 : ∀ p ∈ newsQ q, p.1 < 5 := fun p hp => by
    simp only [newsQ, List.mem_map, List.mem_filter, List.mem_range] at hp
    obtain ⟨j, ⟨hj, _⟩, rfl⟩ := hp
    exact hj
  intro p hp
  unfold tickQ at hp
  rw [List.mem_append] at hp
  rcases hp with hp | hp
  · split at hp
    · rw [List.mem_append] at hp
      rcases hp with hp | hp
      · split at hp
        · cases hp
        · rw [List.mem_singleton] at hp; rw [hp]; exact Nat.mod_lt _ (by decide)
      · split at hp
        · cases hp
        · rw [List.mem_singleton] at hp; rw [hp]; exact Nat.mod_lt _ (by decide)
    · cases hp
  · split at hp
    · exact h1 p hp
    · cases hp
theorem newsQ_lt (q : Nat) : ∀ p ∈ newsQ q, p.1 < 5 := fun p hp => by
  simp only [newsQ, List.mem_map, List.mem_filter, List.mem_range] at hp
  obtain ⟨j, ⟨hj, _⟩, rfl⟩ := hp
  exact hj
theorem tick_does {q : Nat} {n : Int} {c i : Nat} {a a' : AS} (hq : q < 3) (hi : i < 5) (h : tickA q a i = some a') : Leg.Does Tryz.prog 14 #[(.pointer (some ⟨c, 0, none⟩)), (.agg (ints (OpT.mk 8 ((i : Nat) : Int) 0 0 0 ChangeT.zero 0 0 0).flat).toArray)] (fun _ => True) [cluP q n c a] (Ret fun v H => (∃ e : Int, v = .int .i64 e) ∧ H = [cluP q n c a']) := by
  unfold tickA at h
  split at h
  · cases h
  rename_i hok
  obtain ⟨hms, hW⟩ := okA_len (by simpa using hok)
  split at h
  · rename_i hu
    have go : ∀ W', (∀ lg vr, sendAll (frW q n a.W) i (tickO (xW q n i (a.at' i) lg vr)) = frW q n W') → Leg.Does Tryz.prog 14 #[(.pointer (some ⟨c, 0, none⟩)), (.agg (ints (OpT.mk 8 ((i : Nat) : Int) 0 0 0 ChangeT.zero 0 0 0).flat).toArray)] (fun _ => True) [cluP q n c a] (Ret fun v H => (∃ e : Int, v = .int .i64 e) ∧ H = [cluP q n c { a with W := W' }]) := fun W' hW' => by
      refine clu_up (a' := { a with W := W' }) hi hu hu (fun _ _ => rfl) fun g lg vr hM => ?_
      refine Leg.Does.withinR (B := [lgL lg (g.d i) (rcB q n (a.at' i)), ownR vr (rsW (a.at' i))]) (doTick1_does c g.n i (dV g) (mV a g.r) g.p hi (g.d i) (g.r i) (rcB q n (a.at' i)) rfl hM (frW q n a.W) (frW_len ..) (xW q n i (a.at' i) lg vr) rfl rfl (machB_nat hi)) (fun _ _ _ _ => trivial) (fun h s => sep_selR [0, 1, 0, 0, 0, 0] rfl s) fun v H hp => ?_
      obtain ⟨rfl, rfl⟩ := hp
      rw [hW']
      exact ⟨_, fun h s => sep_selR [0, 1, 0, 0, 0, 0] rfl s, ⟨0, rfl⟩, vr, rfl⟩
    split at h
    · rename_i hiq
      subst hiq
      split at h
      · cases h
      · rename_i hb
        obtain rfl := Option.some.inj h
        have hb' : ((a.at' i).busy && !(a.at' i).inc) = false := by
          cases hx : (a.at' i).has <;> cases hy : ((a.at' i).busy && !(a.at' i).inc) <;> simp_all
        exact go _ fun lg vr => by rw [tickO_own hq hb']; exact frW_send i n hi _ hW (tickQ_lt i _)
    · rename_i hiq
      split at h
      · rename_i hid
        obtain rfl := Option.some.inj h
        exact go a.W fun lg vr => by rw [tickO_idle hq hi hiq hid]; rfl
      · cases h
  · rename_i hu
    obtain rfl := Option.some.inj h
    refine clu_net rfl fun g => ?_
    refine Leg.Does.withinR (B := [netP 120 167 5 g.n (frW q n a.W)]) (doTick0_does c g.n i (dV g) (mV a g.r) g.p hi (if_neg hu)) (fun _ _ _ _ => trivial) (fun h s => s) fun v H hp => ?_
    obtain ⟨rfl, rfl⟩ := hp
    exact ⟨_, fun h s => s, ⟨4, rfl⟩, rfl⟩


end Go.Proofs.YtobdfjdoilnfcaaGreat
end

section
namespace Go.Proofs.YtobdfjdoilnfcaaGreat

open Go Leg Codec Api Dsk Wal

set_option linter.unusedSimpArgs false
set_option linter.unusedVariables false

set_option maxRecDepth 100000

set_option maxHeartbeats 8000000

theorem keptA_up (q f : Nat) (m : AM) : (keptA q f m).up = m.up ∧ (keptA q f m).inc = m.inc ∧ (keptA q f m).has = m.has := by
  unfold keptA
  split
  · split <;> exact ⟨rfl, rfl, rfl⟩
  · exact ⟨rfl, rfl, rfl⟩
theorem rcB_same {q : Nat} {n : Int} {m m' : AM} (h1 : m'.inc = m.inc) (h2 : m'.has = m.has) : rcB q n m' = rcB q n m := by
  unfold rcB rcW
  rw [h1, h2]
theorem rcB_room {q : Nat} {n : Int} {m : AM} (h : m.idle = true) : sizeS (rcB q n m) + 34 ≤ 2048 := by
  have e0 : sizeS ([] : List (List UInt8)) = 0 := rfl
  have e1 : sizeS [encR (mirRec ((q : Nat) : Int) (rowW n))] ≤ 34 := by
    have := sizeS_add [] (encR (mirRec ((q : Nat) : Int) (rowW n)))
    rw [List.nil_append, e0] at this
    have := pieces34 (mirRec_len ((q : Nat) : Int) (rowW n))
    omega
  unfold rcB rcW
  rw [(idle_all h).1]
  cases m.has
  · show sizeS [] + 34 ≤ 2048
    omega
  · show sizeS [encR (mirRec ((q : Nat) : Int) (rowW n))] + 34 ≤ 2048
    omega
theorem keptQ_lt (q f : Nat) (m : AM) : ∀ p ∈ keptQ q f m, p.1 < 5 := by
  intro p hp
  unfold keptQ at hp
  split at hp
  · exact newsQ_lt q p hp
  · cases hp
section
variable {n : Int} (h1 : 1 ≤ n) (h2 : n ≤ 1024) {q c : Nat} {a a' : AS}
include h1 h2
theorem way_step {i j : Nat} (hq : q < 3) (hi : i < 5) (hj : j < 5) (hij : i ≠ j) (h : stepA q a i j = some a') : Leg.Does Tryz.prog 42 #[(.pointer (some ⟨c, 0, none⟩)), (.agg (ints (OpT.mk 5 ((i : Nat) : Int) ((j : Nat) : Int) 0 0 ChangeT.zero 0 0 0).flat).toArray)] (fun _ => True) [cluP q n c a] (Ret fun v H => (∃ e : Int, v = .int .i64 e) ∧ H = [cluP q n c a']) := by
  have hr := rowW_right h1 h2
  have hv : validB ((i : Nat) : Int) ((j : Nat) : Int) = true := by rw [valid_nat hi hj, decide_eq_false hij]; rfl
  unfold stepA at h
  split at h
  · cases h
  rename_i hok
  obtain ⟨hms, hW⟩ := okA_len (by simpa using hok)
  split at h
  · rename_i hk
    obtain rfl := Option.some.inj h
    refine clu_net rfl fun g => ?_
    refine Leg.Does.fold (wayLost c g.n i j (dV g) (mV a g.r) g.p hi hj hv (frW q n a.W) (frW_len ..) (by rw [wayK_nat, frW_at q n a.W (by omega), hk]; rfl)) fun e H hp => ?_
    cases e with
    | returned v => obtain ⟨rfl, rfl⟩ := hp; exact ⟨_, fun _ s => s, ⟨10, rfl⟩, rfl⟩
    | panicked c => exact hp.elim
    | outgrown => exact hp.elim
  · rename_i k t hk
    have hfk : (frW q n a.W).getD (wayK ((i : Nat) : Int) ((j : Nat) : Int)) [] = frameB ((i : Nat) : Int) ((j : Nat) : Int) (encM (mW q n k)) :: t.map (frE q n (i * 5 + j)) := by
      rw [wayK_nat, frW_at q n a.W (by omega), hk, List.map_cons, frE_way q n hj]
    have hset : (frW q n a.W).set (wayK ((i : Nat) : Int) ((j : Nat) : Int)) (t.map (frE q n (i * 5 + j))) = frW q n (a.W.set (i * 5 + j) t) := frW_set q n a.W (k := i * 5 + j) (by omega) hW t
    have hb : (encM (mW q n k)).length ≤ 100000 := Nat.le_trans (encM_len _) (by decide)
    have h0 := mW_pos q n k
    have hdec := mW_dec h1 h2 hq k
    have hwf := mW_wf h1 h2 (q := q) k
    have hW2 : (a.W.set (i * 5 + j) t).length = 25 := by rw [List.length_set]; exact hW
    split at h
    · rename_i hu
      split at h
      · rename_i hk0
        subst hk0
        split at h
        · rename_i hc
          rw [Bool.and_eq_true, Bool.and_eq_true] at hc
          obtain ⟨⟨hiq, hjq⟩, hid⟩ := hc
          obtain rfl : i = q := of_decide_eq_true hiq
          have hjq' : j ≠ i := by simpa using hjq
          obtain rfl := Option.some.inj h
          refine clu_up hj hu (by rw [at_set (by omega)]; exact hu) (fun _ hx => at_ne hx) fun g lg vr hM => ?_
          rw [at_set (by omega)]
          refine Leg.Does.withinR (B := [ownR vr (rsW (a.at' j))]) (wayTake0 c g.n i j (dV g) (mV a g.r) g.p hi hj hv (frW i n a.W) (frW_len ..) _ _ hfk h0 hb (g.d j) (g.r j) (rcB i n (a.at' j)) rfl hM (mW i n 0) hdec (xW i n j (a.at' j) lg vr) lg rfl rfl (rcB_room hid) hwf (fun e => hij (by have : ((i : Nat) : Int) = ((j : Nat) : Int) := e; omega))) (fun _ _ _ _ => trivial) (fun h s => s) fun v H hp => ?_
          obtain ⟨rfl, rfl⟩ := hp
          have e1 : rowX (xW i n j (a.at' j) lg vr) ((i : Nat) : Int) (mW i n 0).whose (mW i n 0).row = xW i n j { a.at' j with has := true } lg vr := rowXW hq hr
          have e2 : rowC (xW i n j (a.at' j) lg vr) ((i : Nat) : Int) (mW i n 0).whose (mW i n 0).row (rcB i n (a.at' j)) = rcB i n { a.at' j with has := true } := rowCW hq hr hid
          have e3 : rowO (xW i n j (a.at' j) lg vr) ((i : Nat) : Int) (mW i n 0).whose (mW i n 0).row = saidW i n [(i, 1)] := rowOW hq hr
          have e4 : sendAll (frW i n (a.W.set (i * 5 + j) t)) j (saidW i n [(i, 1)]) = frW i n (putQ (a.W.set (i * 5 + j) t) j (i, 1)) := frW_send i n hj [(i, 1)] hW2 (fun p hp => by rw [List.mem_singleton] at hp; rw [hp]; exact hi)
          rw [e1, e2, e3, hset, e4]
          exact ⟨_, fun h s => sep_selR [0, 1, 0, 0, 0, 0] rfl s, ⟨0, rfl⟩, vr, rfl⟩
        · cases h
      · split at h
        · rename_i hk1
          subst hk1
          split at h
          · rename_i hc
            rw [Bool.and_eq_true, Bool.and_eq_true, Bool.and_eq_true] at hc
            obtain ⟨⟨⟨hjq, hwi⟩, hinc⟩, hhas⟩ := hc
            obtain rfl : j = q := of_decide_eq_true hjq
            obtain rfl := Option.some.inj h
            obtain ⟨ku, ki, kh⟩ := keptA_up j i (a.at' j)
            refine clu_up hj hu (by rw [at_set (by omega), ku]; exact hu) (fun _ hx => at_ne hx) fun g lg vr hM => ?_
            rw [at_set (by omega)]
            refine Leg.Does.withinR (B := [lgL lg (g.d j) (rcB j n (a.at' j))]) (wayTake1 c g.n i j (dV g) (mV a g.r) g.p hi hj hv (frW j n a.W) (frW_len ..) _ _ hfk h0 hb (g.d j) (g.r j) (rcB j n (a.at' j)) rfl hM (mW j n 1) hdec (xW j n j (a.at' j) lg vr) (rsW (a.at' j)) rfl (machB_nat hj) (by
              rw [show (xW j n j (a.at' j) lg vr).own = rowW n from if_pos hinc]; exact (rowW_tame h1 h2).wf) (alone_first rfl) (by unfold rsW; split <;> decide)) (fun _ _ _ _ => trivial) (fun h s => sep_selR [0, 0, 0, 0, 1, 0] rfl s) fun v H hp => ?_
            obtain ⟨rfl, v', _, rfl⟩ := hp
            have e1 : ({ keptS (xW j n j (a.at' j) lg vr) ((i : Nat) : Int) (mW j n 1).version with replies := v' } : RepT) = xW j n j (keptA j i (a.at' j)) lg v' := by
              rw [show keptS (xW j n j (a.at' j) lg vr) ((i : Nat) : Int) (mW j n 1).version = xW j n j (keptA j i (a.at' j)) lg vr from keptSW hq hwi hr hinc]
              rfl
            have e2 : keptR (xW j n j (a.at' j) lg vr) ((i : Nat) : Int) (mW j n 1).version (rsW (a.at' j)) = rsW (keptA j i (a.at' j)) := keptRW hq hwi hinc
            have e3 : keptO (xW j n j (a.at' j) lg vr) ((i : Nat) : Int) (mW j n 1).version = saidW j n (keptQ j i (a.at' j)) := keptOW hq hwi hinc
            rw [e1, e2, e3, hset, frW_send j n hj _ hW2 (keptQ_lt j i (a.at' j)), ← rcB_same (q := j) (n := n) ki kh]
            exact ⟨_, fun h s => sep_selR [0, 1, 0, 0, 1, 0] rfl s, ⟨0, rfl⟩, v', rfl⟩
          · cases h
        · split at h
          · rename_i hk0 hk1 hc
            rw [Bool.and_eq_true, Bool.and_eq_true, Bool.and_eq_true] at hc
            obtain ⟨⟨⟨hk2, hiq⟩, hjq⟩, hid⟩ := hc
            obtain rfl : k = 2 := of_decide_eq_true hk2
            obtain rfl : i = q := of_decide_eq_true hiq
            obtain rfl := Option.some.inj h
            refine clu_up hj hu (by rw [at_set (by omega)]; exact hu) (fun _ hx => at_ne hx) fun g lg vr hM => ?_
            rw [at_set (by omega)]
            refine Leg.Does.withinR (B := [lgL lg (g.d j) (rcB i n (a.at' j)), ownR vr (rsW (a.at' j))]) (wayTake2 c g.n i j (dV g) (mV a g.r) g.p hi hj hv (frW i n a.W) (frW_len ..) _ _ hfk h0 hb (g.d j) (g.r j) (rcB i n (a.at' j)) rfl hM (mW i n 2) hdec (xW i n j (a.at' j) lg vr) rfl hwf) (fun _ _ _ _ => trivial) (fun h s => s) fun v H hp => ?_
            obtain ⟨rfl, rfl⟩ := hp
            have e1 : ({ xW i n j (a.at' j) lg vr with book := (bookMerge (xW i n j (a.at' j) lg vr).book (mW i n 2).whose (mW i n 2).row).1 } : RepT) = xW i n j { a.at' j with know := true } lg vr := newsXW hq hr
            rw [e1, hset]
            exact ⟨_, fun h s => sep_selR [0, 1, 0, 0, 0, 0] rfl s, ⟨0, rfl⟩, vr, rfl⟩
          · cases h
    · rename_i hu
      obtain rfl := Option.some.inj h
      refine clu_net rfl fun g => ?_
      refine Leg.Does.fold (wayDown c g.n i j (dV g) (mV a g.r) g.p hi hj hv (frW q n a.W) (frW_len ..) _ _ hfk h0 hb (if_neg hu)) fun e H hp => ?_
      cases e with
      | returned v => obtain ⟨rfl, rfl⟩ := hp; rw [hset]; exact ⟨_, fun _ s => s, ⟨0, rfl⟩, rfl⟩
      | panicked c => exact hp.elim
      | outgrown => exact hp.elim
theorem step_does {i j : Nat} (hq : q < 3) (hi : i < 5) (hj : j < 5) (hij : i ≠ j) (h : stepA q a i j = some a') : Leg.Does Tryz.prog 14 #[(.pointer (some ⟨c, 0, none⟩)), (.agg (ints (OpT.mk 5 ((i : Nat) : Int) ((j : Nat) : Int) 0 0 ChangeT.zero 0 0 0).flat).toArray)] (fun _ => True) [cluP q n c a] (Ret fun v H => (∃ e : Int, v = .int .i64 e) ∧ H = [cluP q n c a']) := by
  refine Leg.Does.fold (doStep_does c i j hi (cluP q n c a) (fun _ X => X = cluP q n c a') (Leg.Does.fold (way_step h1 h2 hq hi hj hij h) fun e H hp => ?_)) fun e H hp => ?_
  · cases e with
    | returned v => obtain ⟨⟨e, rfl⟩, rfl⟩ := hp; exact ⟨_, fun _ s => s, e, _, rfl, rfl, rfl⟩
    | panicked c => exact hp.elim
    | outgrown => exact hp.elim
  · cases e with
    | returned v => obtain ⟨e, X, rfl, rfl, rfl⟩ := hp; exact ⟨_, fun _ s => s, ⟨e, rfl⟩, rfl⟩
    | panicked c => exact hp.elim
    | outgrown => exact hp.elim
theorem inc_does (hq : q < 3) (h : incA q a = some a') : Leg.Does Tryz.prog 14 #[(.pointer (some ⟨c, 0, none⟩)), (.agg (ints (OpT.mk 0 ((q : Nat) : Int) 0 0 n ChangeT.zero 0 0 0).flat).toArray)] (fun _ => True) [cluP q n c a] (Ret fun v H => v = .int .i64 0 ∧ H = [cluP q n c a']) := by
  have hr := rowW_inc h1 h2
  unfold incA at h
  split at h
  · rename_i hc
    rw [Bool.and_eq_true, Bool.and_eq_true, Bool.and_eq_true, Bool.and_eq_true] at hc
    obtain ⟨⟨⟨⟨hok, hu⟩, hid⟩, hhas⟩, hknow⟩ := hc
    obtain ⟨hms, hW⟩ := okA_len hok
    have hhas' : (a.at' q).has = false := by simpa using hhas
    have hknow' : (a.at' q).know = false := by simpa using hknow
    obtain rfl := Option.some.inj h
    have hq5 : q < 5 := by omega
    have er : rcB q n (a.at' q) = [] := by unfold rcB rcW; rw [(idle_all hid).1, hhas']; rfl
    have es : rsW (a.at' q) = [] := by unfold rsW; rw [(idle_all hid).1]; rfl
    refine clu_up hq5 hu (by rw [at_set (by omega)]; rfl) (fun _ hx => at_ne hx) fun g lg vr hM => ?_
    rw [at_set (by omega)]
    unfold runU
    rw [er, es, freshW hid hhas' hknow']
    refine Leg.Does.withinR (B := []) (doInc_does c g.n q (dV g) (mV a g.r) g.p hq5 (g.d q) (g.r q) [] rfl hM (frW q n a.W) (frW_len ..) n lg { newRep ((q : Nat) : Int) lg with replies := vr } [] rfl (fun _ _ => by
      have := (OwnOk.plan (x := opsF { newRep ((q : Nat) : Int) lg with replies := vr }) (k := 0) (OwnOk.zero 0) (by decide) (opW q n)).len
      exact Nat.le_trans (Nat.add_le_add_left this _) (by decide)) (by decide) (machB_nat hq5) (fun _ => show (0 : Int) ≠ 4 by decide)) (fun _ _ _ _ => trivial) (fun h s => sep_selR [0, 1, 0, 0, 0, 0] rfl s) fun v H hp => ?_
    obtain ⟨rfl, v', _, rfl⟩ := hp
    rw [clientXW hq hr, clientCW hq hr, clientRW hq hr, clientOW hq hr, cNW hq hr, frW_send q n hq5 _ hW (fun p hp => by
      rcases List.mem_cons.1 hp with rfl | hp
      · exact Nat.mod_lt _ (by decide)
      · rw [List.mem_singleton] at hp; rw [hp]; exact Nat.mod_lt _ (by decide))]
    exact ⟨_, fun h s => sep_selR [0, 1, 0, 0, 0, 0] rfl s, rfl, v', rfl⟩
  · cases h
end
section
variable {n : Int} {q c : Nat} {a a' : AS}
theorem crash_does {i : Nat} (hi : i < 5) (h : crashA a i = some a') : Leg.Does Tryz.prog 14 #[(.pointer (some ⟨c, 0, none⟩)), (.agg (ints (OpT.mk 10 ((i : Nat) : Int) 0 0 0 ChangeT.zero 0 (-1) 0).flat).toArray)] (fun _ => True) [cluP q n c a] (Ret fun v H => (∃ e : Int, v = .int .i64 e) ∧ H = [cluP q n c a']) := by
  unfold crashA at h
  split at h
  · rename_i hc
    rw [Bool.and_eq_true, Bool.and_eq_true, Bool.and_eq_true, Bool.and_eq_true] at hc
    obtain ⟨⟨⟨⟨hok, hu⟩, hid⟩, hhas⟩, hknow⟩ := hc
    obtain ⟨hms, hW⟩ := okA_len hok
    have hhas' : (a.at' i).has = false := by simpa using hhas
    obtain rfl := Option.some.inj h
    have er : rcB q n (a.at' i) = [] := by unfold rcB rcW; rw [(idle_all hid).1, hhas']; rfl
    have es : rsW (a.at' i) = [] := by unfold rsW; rw [(idle_all hid).1]; rfl
    refine clu_gen hi (fun _ hx => at_ne hx) fun g => ?_
    rw [at_set (by omega)]
    have e1 : runP q n i (a.at' i) (g.d i) (g.r i) = pack (runU q n i (a.at' i) (g.d i) (g.r i)) := if_pos hu
    refine Leg.Does.ex (A' := fun x : Nat × Value => blkA c (clC g.n (dV g) (mV a g.r) g.p) 80 :: netP 120 167 5 g.n (frW q n a.W) :: dkL (g.d i) [] :: ownR (g.p i) [] :: [blkA (g.r i) (RepT.cells (xW q n i (a.at' i) x.1 x.2)) 102, lgL x.1 (g.d i) [], ownR x.2 []]) (fun h s => ?_) fun ⟨lg, vr⟩ => ?_
    · unfold machU at s
      rw [e1] at s
      obtain ⟨x, s⟩ := sep_open (sep_selR [4, 0, 0, 0, 0] rfl s)
      unfold runU at s
      rw [er, es] at s
      exact ⟨x, sep_selR [3, 3, 3, 3, 0, 0, 0] rfl s⟩
    · refine Leg.Does.withinR (B := [netP 120 167 5 g.n (frW q n a.W)]) (doCrash_does c g.n i (dV g) (mV a g.r) g.p hi (g.d i) (g.r i) [] rfl (if_pos hu) [] [] (by decide) (by decide) (xW q n i (a.at' i) lg vr) (-1)) (fun _ _ _ _ => trivial) (fun h s => sep_keep [0, 1, 1, 1, 2, 0] rfl s) fun v H hp => ?_
      obtain ⟨u, _, rfl, rfl⟩ := hp
      refine ⟨_, fun h s => ?_, ⟨0, rfl⟩, { g with p := upd g.p i u }, rfl, fun j hj => ⟨rfl, rfl, upd_ne g.p u hj⟩, rfl⟩
      have em : mV { a with ms := a.ms.set i .down } g.r = upd (mV a g.r) i (.pointer none) := funext fun j => by
        unfold mV upd
        by_cases hj : j = i
        · subst hj; rw [at_set (by omega), if_pos rfl]; rfl
        · rw [at_ne hj, if_neg hj]
      show sep (blkA c (clC g.n (dV g) (mV { a with ms := a.ms.set i .down } g.r) (upd g.p i u)) 80 :: netP 120 167 5 g.n (frW q n a.W) :: dkL (g.d i) [] :: ownR (upd g.p i u i) [] :: [fun _ => True]) h
      rw [em, upd_same]
      exact sep_selR [1, 3, 1, 1, 0] rfl (true_piece (sep_selR [0, 0, 0, 0] rfl s))
  · cases h
theorem start_again {i : Nat} (hi : i < 5) (h : startA a i = some a') : Leg.Does Tryz.prog 14 #[(.pointer (some ⟨c, 0, none⟩)), (.agg (ints (OpT.mk 11 ((i : Nat) : Int) 0 0 0 ChangeT.zero 0 0 0).flat).toArray)] (fun _ => True) [cluP q n c a] (Ret fun v H => (∃ e : Int, v = .int .i64 e) ∧ H = [cluP q n c a']) := by
  unfold startA at h
  split at h
  · rename_i hc
    rw [Bool.and_eq_true, Bool.and_eq_true, Bool.and_eq_true, Bool.and_eq_true] at hc
    obtain ⟨⟨⟨⟨hok, hu⟩, hid⟩, hhas⟩, hknow⟩ := hc
    obtain ⟨hms, hW⟩ := okA_len hok
    have hhas' : (a.at' i).has = false := by simpa using hhas
    have hu' : ¬ (a.at' i).up = true := by simpa using hu
    obtain rfl := Option.some.inj h
    have er : rcB q n (a.at' i) = [] := by unfold rcB rcW; rw [(idle_all hid).1, hhas']; rfl
    refine clu_gen hi (fun _ hx => at_ne hx) fun g => ?_
    rw [at_set (by omega)]
    unfold machU
    rw [er]
    refine Leg.Does.withinR (B := [netP 120 167 5 g.n (frW q n a.W), ownR (g.p i) []]) (doStartZ_does c g.n i (dV g) (mV a g.r) g.p hi (g.d i) rfl (if_neg hu')) (fun _ _ _ _ => trivial) (fun h s => sep_keep [0, 1, 0, 0] rfl s) fun v H hp => ?_
    obtain ⟨r, lg, rfl, rfl⟩ := hp
    refine ⟨_, fun h s => ?_, ⟨0, rfl⟩, { g with r := upd g.r i r }, rfl, fun j hj => ⟨rfl, upd_ne g.r r hj, rfl⟩, rfl⟩
    have em : mV { a with ms := a.ms.set i .new } (upd g.r i r) = upd (mV a g.r) i (.pointer (some ⟨r, 0, none⟩)) := funext fun j => by
      unfold mV
      by_cases hj : j = i
      · subst hj; rw [at_set (by omega), upd_same, upd_same]; rfl
      · rw [at_ne hj, upd_ne _ _ hj, upd_ne _ _ hj]
    show sep (blkA c (clC g.n (dV g) (mV { a with ms := a.ms.set i .new } (upd g.r i r)) g.p) 80 :: netP 120 167 5 g.n (frW q n a.W) :: dkL (g.d i) [] :: ownR (g.p i) [] :: [pack (runU q n i .new (g.d i) (upd g.r i r i))]) h
    rw [em, upd_same]
    have s1 := own_none 37 3 (sep_selR [2, 2, 0, 1, 0, 0] rfl s)
    have s2 := sep_close (p := runU q n i .new (g.d i) r) (H := [blkA c (clC g.n (dV g) (upd (mV a g.r) i (.pointer (some ⟨r, 0, none⟩))) g.p) 80, netP 120 167 5 g.n (frW q n a.W), dkL (g.d i) [], ownR (g.p i) []]) (lg, .slice none 0 0) (sep_selR [1, 1, 0, 0, 0, 0, 0] rfl s1)
    exact sep_selR [1, 1, 1, 1, 0] rfl s2
  · cases h
end


end Go.Proofs.YtobdfjdoilnfcaaGreat
end

section
namespace Api
open Go Leg Codec Dsk Wal
def ticksN (q : Nat) : Nat → Nat → AS → Option AS
  | 0, _, a => some a
  | k + 1, i, a => match tickA q a i with
    | none => none
    | some b => ticksN q k (i + 1) b
def wayA (q : Nat) (a : AS) (i j : Nat) : Option AS := if i = j then some a else stepA q a i j
def rowsN (q i : Nat) : Nat → Nat → AS → Option AS
  | 0, _, a => some a
  | k + 1, j, a => match wayA q a i j with
    | none => none
    | some b => rowsN q i k (j + 1) b
def sweepN (q : Nat) : Nat → Nat → AS → Option AS
  | 0, _, a => some a
  | k + 1, i, a => match rowsN q i 5 0 a with
    | none => none
    | some b => sweepN q k (i + 1) b
def lenW (W : List (List Nat)) (k : Nat) : Nat := ((List.range k).map fun q => if q % 6 = 0 then 0 else (W.getD q []).length).sum
def okL (a : AS) : Bool := a.W.all fun l => decide (l.length ≤ 8)
def sweepsN (q : Nat) : Nat → AS → Option AS
  | 0, a => some a
  | k + 1, a => if okL a = false then none else if lenW a.W 25 = 0 then some a else match sweepN q 5 0 a with
    | none => none
    | some b => sweepsN q k b
def roundA (q : Nat) (a : AS) : Option AS := match ticksN q 5 0 a with
  | none => none
  | some b => sweepsN q 400 b
def settleA (q : Nat) : Nat → AS → Option AS
  | 0, a => some a
  | k + 1, a => match roundA q a with
    | none => none
    | some b => settleA q k b
section
variable {q i k j m : Nat} {a fin : AS}
theorem ticksN_step (hi : i < 5) (h : ticksN q (5 - i) i a = some fin) : ∃ b, tickA q a i = some b ∧ ticksN q (5 - (i + 1)) (i + 1) b = some fin := by
  rw [show 5 - i = (5 - (i + 1)) + 1 by omega] at h
  unfold ticksN at h
  split at h
  · cases h
  · exact ⟨_, by assumption, h⟩
theorem ticksN_last (hi : ¬ i < 5) (h : ticksN q (5 - i) i a = some fin) : a = fin := by
  rw [show 5 - i = 0 by omega] at h
  exact Option.some.inj h
theorem rowsN_step (hj : j < 5) (h : rowsN q i (5 - j) j a = some fin) : ∃ b, wayA q a i j = some b ∧ rowsN q i (5 - (j + 1)) (j + 1) b = some fin := by
  rw [show 5 - j = (5 - (j + 1)) + 1 by omega] at h
  unfold rowsN at h
  split at h
  · cases h
  · exact ⟨_, by assumption, h⟩
theorem rowsN_last (hi : ¬ j < 5) (h : rowsN q i (5 - j) j a = some fin) : a = fin := by
  rw [show 5 - j = 0 by omega] at h
  exact Option.some.inj h
theorem wayA_same (hij : i = j) (h : wayA q a i j = some fin) : a = fin := by
  unfold wayA at h
  rw [if_pos hij] at h
  exact Option.some.inj h
theorem wayA_step (hij : i ≠ j) (h : wayA q a i j = some fin) : stepA q a i j = some fin := by
  unfold wayA at h
  rwa [if_neg hij] at h
theorem sweepN_step (hi : i < 5) (h : sweepN q (5 - i) i a = some fin) : ∃ b, rowsN q i (5 - 0) 0 a = some b ∧ sweepN q (5 - (i + 1)) (i + 1) b = some fin := by
  rw [show 5 - i = (5 - (i + 1)) + 1 by omega] at h
  unfold sweepN at h
  split at h
  · cases h
  · exact ⟨_, by assumption, h⟩
theorem sweepN_last (hi : ¬ i < 5) (h : sweepN q (5 - i) i a = some fin) : a = fin := by
  rw [show 5 - i = 0 by omega] at h
  exact Option.some.inj h
theorem sweepsN_step (hk : k < 400) (h : sweepsN q (400 - k) a = some fin) : okL a = true ∧ (lenW a.W 25 = 0 → a = fin) ∧ (¬ lenW a.W 25 = 0 → ∃ b, sweepN q (5 - 0) 0 a = some b ∧ sweepsN q (400 - (k + 1)) b = some fin) := by
  rw [show 400 - k = (400 - (k + 1)) + 1 by omega] at h
  unfold sweepsN at h
  split at h
  · cases h
  · rename_i ho
    refine ⟨by simpa using ho, ?_⟩
    split at h
    · rename_i h0
      exact ⟨fun _ => Option.some.inj h, fun q => absurd h0 q⟩
    · rename_i h0
      refine ⟨fun q => absurd q h0, fun _ => ?_⟩
      split at h
      · cases h
      · exact ⟨_, by assumption, h⟩
theorem sweepsN_last (hi : ¬ k < 400) (h : sweepsN q (400 - k) a = some fin) : a = fin := by
  rw [show 400 - k = 0 by omega] at h
  exact Option.some.inj h
theorem settleA_step (hm : m < k) (h : settleA q (k - m) a = some fin) : ∃ b1 b2, ticksN q (5 - 0) 0 a = some b1 ∧ sweepsN q (400 - 0) b1 = some b2 ∧ settleA q (k - (m + 1)) b2 = some fin := by
  rw [show k - m = (k - (m + 1)) + 1 by omega] at h
  unfold settleA at h
  split at h
  · cases h
  · rename_i b hb
    unfold roundA at hb
    split at hb
    · cases hb
    · exact ⟨_, _, by assumption, hb, h⟩
theorem settleA_last (hm : ¬ m < k) (h : settleA q (k - m) a = some fin) : a = fin := by
  rw [show k - m = 0 by omega] at h
  exact Option.some.inj h
end
theorem lenW_succ (W : List (List Nat)) (k : Nat) : lenW W (k + 1) = lenW W k + (if k % 6 = 0 then 0 else (W.getD k []).length) := by simp [lenW, List.range_succ]
theorem okL_at {a : AS} (h : okL a = true) (k : Nat) : (a.W.getD k []).length ≤ 8 := by
  rw [List.getD_eq_getElem?_getD]
  cases e : a.W[k]? with
  | none => exact Nat.zero_le _
  | some l =>
    have := List.all_eq_true.1 h l (List.mem_of_getElem? e)
    exact of_decide_eq_true this
theorem lenW_le {a : AS} (h : okL a = true) : ∀ k, lenW a.W k ≤ 8 * k
  | 0 => Nat.le_refl _
  | k + 1 => by
    have h1 := lenW_le h k
    have h2 := okL_at h k
    rw [lenW_succ]
    split <;> omega
end Api
end

section
namespace Go.Proofs.YtobdfjdoilnfcaaGreat

open Go Leg Codec Api Dsk Wal

set_option linter.unusedSimpArgs false
set_option linter.unusedVariables false

set_option maxRecDepth 100000

set_option maxHeartbeats 8000000

theorem sweep_does {n : Int} (h1 : 1 ≤ n) (h2 : n ≤ 1024) {q c : Nat} (hq : q < 3) {a fin : AS} (h : sweepN q (5 - 0) 0 a = some fin) :
    Leg.Does Tryz.prog 50 #[(.pointer (some ⟨c, 0, none⟩))] (fun _ => True) [cluP q n c (a)] (Ret (fun _ H => H = [cluP q n c fin])) := by
 refine Leg.Does.body (n := 20) Tryz.func50 rfl rfl rfl (fun w0 F hF => ?_)
 refine sr fun _ J1 => ?_
 refine PS ?_
 refine nx J1 ?_
 refine TC.block ?_
 refine TC.loop (α := (Nat) × (AS)) (fun ⟨i, b⟩ => i ≤ 5 ∧ sweepN q (5 - i) i b = some fin) (fun ⟨i, b⟩ => [(0, (.pointer (some ⟨c, 0, none⟩))), (4, (.int .i64 (((i : Nat) : Int))))]) (fun ⟨i, b⟩ => [cluP q n c (b)]) (fun ⟨i, b⟩ => 5 - i) (0, a)
     ⟨Nat.zero_le _, h⟩ (Sub.r (Sub.cons rfl (by congr 1) (Sub.nil _)))
     (fun _ s => s) (fun ⟨i, b⟩ hinv => ?_)
 obtain ⟨hi, hs⟩ := hinv
 refine sr fun _ J2 => ?_
 refine PS ?_
 refine TL.dec (fun h5 => ?_) (fun h5 => ?_)
 obtain ⟨b3, hr0, hs2⟩ := sweepN_step (by omega) hs
 refine nx J2 ?_
 refine TC.seq fun _ J3 => ?_
 refine CY ?_
 refine CX J3 ?_
 refine TC.seq fun _ J4 => ?_
 refine TC.block ?_
 refine sr fun _ J5 => ?_
 refine PS ?_
 refine PS ?_
 refine nx J5 (sr fun _ J6 => ?_)
 refine PS ?_
 refine nx J6 ?_
 refine TC.block ?_
 refine TC.loop (α := (Nat) × (AS)) (fun ⟨j, b2⟩ => j ≤ 5 ∧ rowsN q i (5 - j) j b2 = some b3) (fun ⟨j, b2⟩ => [(0, (.pointer (some ⟨c, 0, none⟩))), (2, (.int .i64 (((i : Nat) : Int)))), (4, (.int .i64 (((i : Nat) : Int)))), (7, (.int .i64 (((j : Nat) : Int))))]) (fun ⟨j, b2⟩ => [cluP q n c (b2)]) (fun ⟨j, b2⟩ => 5 - j) (0, b)
     ⟨Nat.zero_le _, hr0⟩ (Sub.r (Sub.r (Sub.r (Sub.cons rfl (by congr 1) (Sub.nil _)))))
     (fun _ s => s) (fun ⟨j, b2⟩ hinv => ?_)
 obtain ⟨hj, hr⟩ := hinv
 refine sr fun _ J7 => ?_
 refine PS ?_
 refine TL.dec (fun h8 => ?_) (fun h8 => ?_)
 obtain ⟨b4, hw, hr2⟩ := rowsN_step (by omega) hr
 refine nx J7 ?_
 refine TC.seq fun _ J8 => ?_
 refine CY ?_
 refine CX J8 ?_
 refine TC.seq fun _ J9 => ?_
 refine TC.block ?_
 refine sr fun _ J10 => ?_
 refine PS ?_
 refine PS ?_
 refine nx J10 (sr fun _ J11 => ?_)
 refine PS ?_
 refine PS ?_
 refine PS ?_
 refine TL.dec (fun h12 => ?_) (fun h12 => ?_)
 have hij : i ≠ j := by omega
 refine nx J11 ?_
 refine CY ?_
 refine TC.region ?_
 refine PS ?_
 refine PS ?_
 refine PS ?_
 refine tp (PV.buildSegs (cs := ints (OpT.mk 5 ((i : Nat) : Int) ((j : Nat) : Int) 0 0 ChangeT.zero 0 0 0).flat) (segs := [[Value.int .i64 0], [Value.int .i64 0], [Value.int .i64 0], [Value.int .i64 0], [Value.int .i64 0], ints ChangeT.zero.flat, [Value.int .i64 0], [Value.int .i64 0], [Value.int .i64 0]]) (res := [[Value.int .i64 5], [Value.int .i64 ((i : Nat) : Int)], [Value.int .i64 ((j : Nat) : Int)], [Value.int .i64 0], [Value.int .i64 0], ints ChangeT.zero.flat, [Value.int .i64 0], [Value.int .i64 0], [Value.int .i64 0]]) (parts := [(0, [Value.int .i64 5]), (1, [Value.int .i64 ((i : Nat) : Int)]), (2, [Value.int .i64 ((j : Nat) : Int)])]) rfl rfl Tryz.underlying30 (by kernel_rfl) (by kernel_rfl) rfl (putSegs_step rfl ((rfl : [Value.int .i64 5].length = 1).trans (rfl : [Value.int .i64 0].length = 1).symm) (putSegs_step rfl ((rfl : [Value.int .i64 ((i : Nat) : Int)].length = 1).trans (rfl : [Value.int .i64 0].length = 1).symm) (putSegs_step rfl ((rfl : [Value.int .i64 ((j : Nat) : Int)].length = 1).trans (rfl : [Value.int .i64 0].length = 1).symm) putSegs_nil))) (OpT.eq (OpT.mk 5 ((i : Nat) : Int) ((j : Nat) : Int) 0 0 ChangeT.zero 0 0 0)).symm) ?_
 refine CR nm14 (step_does h1 h2 hq (by omega) (by omega) hij (wayA_step hij hw)) (fun _ s => s) fun vR HR hR => ?_
 obtain ⟨⟨e, rfl⟩, rfl⟩ := hR
 refine TL.nil ?_
 refine TE.blockEnd ?_
 refine TE.next J9 ?_
 refine TC.region ?_
 refine tp (PV.add rfl rfl rfl (wrap_i64 (by omega) (by omega))) ?_
 refine PS ?_
 refine TL.nil ?_
 exact TE.round ((j + 1, b4) : (Nat) × (AS)) ⟨by omega, hr2⟩ (by show 5 - (j + 1) < 5 - j; omega)
   (Sub.r (Sub.r (Sub.r (Sub.cons rfl (by simp) (Sub.nil _)))))
   (fun _ s => s)
 obtain rfl := wayA_same (by omega) hw
 refine nx J11 ?_
 refine CN ?_
 refine TC.skip ?_
 refine TE.blockEnd ?_
 refine TE.next J9 ?_
 refine TC.region ?_
 refine tp (PV.add rfl rfl rfl (wrap_i64 (by omega) (by omega))) ?_
 refine PS ?_
 refine TL.nil ?_
 exact TE.round ((j + 1, b2) : (Nat) × (AS)) ⟨by omega, hr2⟩ (by show 5 - (j + 1) < 5 - j; omega)
   (Sub.r (Sub.r (Sub.r (Sub.cons rfl (by simp) (Sub.nil _)))))
   (fun _ s => s)
 refine nx J7 ?_
 refine TC.seq fun _ J12 => ?_
 refine CN ?_
 refine TC.exit ?_
 refine TE.pass ?_
 refine TE.pass ?_
 refine TE.hit ?_
 refine TE.blockEnd ?_
 refine TE.next J4 ?_
 refine TC.region ?_
 refine tp (PV.add rfl rfl rfl (wrap_i64 (by omega) (by omega))) ?_
 refine PS ?_
 refine TL.nil ?_
 exact TE.round ((i + 1, b2) : (Nat) × (AS)) ⟨by omega, by rw [rowsN_last (by omega) hr]; exact hs2⟩ (by show 5 - (i + 1) < 5 - i; omega)
   (Sub.r (Sub.cons rfl (by simp) (Sub.nil _)))
   (fun _ s => s)
 refine nx J2 ?_
 refine TC.seq fun _ J13 => ?_
 refine CN ?_
 refine TC.exit ?_
 refine TE.pass ?_
 refine TE.pass ?_
 refine TE.hit ?_
 refine TE.weak (H' := [cluP q n c fin]) (Sub.refl _) (fun _ s => by rw [← sweepN_last (by omega) hs]; exact s) ?_
 refine TE.end0 rfl ?_
 exact rfl
end Go.Proofs.YtobdfjdoilnfcaaGreat
end

section
namespace Go.Proofs.YtobdfjdoilnfcaaGreat

open Go Leg Codec Api Dsk Wal

set_option linter.unusedSimpArgs false
set_option linter.unusedVariables false

set_option maxRecDepth 100000

set_option maxHeartbeats 8000000

theorem lenTo_frW (q : Nat) (n : Int) (W : List (List Nat)) : ∀ k, k ≤ 25 → lenTo (frW q n W) k = lenW W k
  | 0, _ => rfl
  | k + 1, h => by
    rw [lenTo_succ, lenW_succ, lenTo_frW q n W k (by omega), frW_at q n W (by omega), List.length_map]
theorem len_small {q : Nat} {n : Int} {d : AS} (h : okL d = true) : ∀ k, k < 25 → lenTo (frW q n d.W) k + ((frW q n d.W).getD k []).length ≤ 1000000000 := fun k hk => by
  rw [lenTo_frW q n d.W k (by omega), frW_at q n d.W hk, List.length_map]
  have h1 := lenW_le h k
  have h2 := okL_at h k
  omega

theorem settle_does {n : Int} (h1 : 1 ≤ n) (h2 : n ≤ 1024) {q c : Nat} (hq : q < 3) {a fin : AS} (rounds : Nat) (hrd : rounds ≤ 1000) (h : settleA q (rounds - 0) a = some fin) :
    Leg.Does Tryz.prog 22 #[(.pointer (some ⟨c, 0, none⟩)), (.int .i64 (((rounds : Nat) : Int)))] (fun _ => True) [cluP q n c (a)] (Ret (fun _ H => H = [cluP q n c fin])) := by
 refine Leg.Does.body (n := 36) Tryz.func22 rfl rfl rfl (fun w0 F hF => ?_)
 refine TC.seq fun _ J1 => ?_
 refine sr fun _ J2 => ?_
 refine PS ?_
 refine tp (PV.ptrNil rfl Tryz.underlying25 rfl rfl) ?_
 refine nx J2 ?_
 refine CN ?_
 refine CX J1 ?_
 refine sr fun _ J3 => ?_
 refine PS ?_
 refine nx J3 ?_
 refine TC.block ?_
 refine TC.loop (α := (Nat) × (AS)) (fun ⟨m, b⟩ => m ≤ rounds ∧ settleA q (rounds - m) b = some fin) (fun ⟨m, b⟩ => [(0, (.pointer (some ⟨c, 0, none⟩))), (1, (.int .i64 (((rounds : Nat) : Int)))), (4, (.int .i64 (((m : Nat) : Int))))]) (fun ⟨m, b⟩ => [cluP q n c (b)]) (fun ⟨m, b⟩ => rounds - m) (0, a)
     ⟨Nat.zero_le _, h⟩ (Sub.r (Sub.r (Sub.cons rfl (by congr 1) (Sub.nil _))))
     (fun _ s => s) (fun ⟨m, b⟩ hinv => ?_)
 obtain ⟨hm, hs⟩ := hinv
 refine TC.seq fun _ J4 => ?_
 refine sr fun _ J5 => ?_
 refine PS ?_
 refine PS ?_
 refine PS ?_
 refine TL.dec (fun h11 => ?_) (fun h11 => ?_)
 obtain ⟨b1, b2, ht1, hw1, hs2⟩ := settleA_step (by omega) hs
 refine nx J5 ?_
 refine CY ?_
 refine CX J4 ?_
 refine TC.seq fun _ J6 => ?_
 refine TC.block ?_
 refine TC.seq fun _ J7 => ?_
 refine sr fun _ J8 => ?_
 refine PS ?_
 refine nx J8 ?_
 refine TC.block ?_
 refine TC.loop (α := (Nat) × (AS)) (fun ⟨i, d⟩ => i ≤ 5 ∧ ticksN q (5 - i) i d = some b1) (fun ⟨i, d⟩ => [(0, (.pointer (some ⟨c, 0, none⟩))), (1, (.int .i64 (((rounds : Nat) : Int)))), (4, (.int .i64 (((m : Nat) : Int)))), (14, (.int .i64 (((i : Nat) : Int))))]) (fun ⟨i, d⟩ => [cluP q n c (d)]) (fun ⟨i, d⟩ => 5 - i) (0, b)
     ⟨Nat.zero_le _, ht1⟩ (Sub.r (Sub.r (Sub.r (Sub.cons rfl (by congr 1) (Sub.nil _)))))
     (fun _ s => s) (fun ⟨i, d⟩ hinv => ?_)
 obtain ⟨hi, ht0⟩ := hinv
 refine sr fun _ J9 => ?_
 refine PS ?_
 refine TL.dec (fun h15 => ?_) (fun h15 => ?_)
 obtain ⟨d2, ht, ht2⟩ := ticksN_step (by omega) ht0
 refine nx J9 ?_
 refine TC.seq fun _ J10 => ?_
 refine CY ?_
 refine CX J10 ?_
 refine TC.seq fun _ J11 => ?_
 refine TC.block ?_
 refine sr fun _ J12 => ?_
 refine PS ?_
 refine PS ?_
 refine nx J12 ?_
 refine TC.region ?_
 refine PS ?_
 refine PS ?_
 refine tp (PV.buildSegs (cs := ints (OpT.mk 8 ((i : Nat) : Int) 0 0 0 ChangeT.zero 0 0 0).flat) (segs := [[Value.int .i64 0], [Value.int .i64 0], [Value.int .i64 0], [Value.int .i64 0], [Value.int .i64 0], ints ChangeT.zero.flat, [Value.int .i64 0], [Value.int .i64 0], [Value.int .i64 0]]) (res := [[Value.int .i64 8], [Value.int .i64 ((i : Nat) : Int)], [Value.int .i64 0], [Value.int .i64 0], [Value.int .i64 0], ints ChangeT.zero.flat, [Value.int .i64 0], [Value.int .i64 0], [Value.int .i64 0]]) (parts := [(0, [Value.int .i64 8]), (1, [Value.int .i64 ((i : Nat) : Int)])]) rfl rfl Tryz.underlying30 (by kernel_rfl) (by kernel_rfl) rfl (putSegs_step rfl ((rfl : [Value.int .i64 8].length = 1).trans (rfl : [Value.int .i64 0].length = 1).symm) (putSegs_step rfl ((rfl : [Value.int .i64 ((i : Nat) : Int)].length = 1).trans (rfl : [Value.int .i64 0].length = 1).symm) putSegs_nil)) (OpT.eq (OpT.mk 8 ((i : Nat) : Int) 0 0 0 ChangeT.zero 0 0 0)).symm) ?_
 refine CR nm14 (tick_does hq (by omega) ht) (fun _ s => s) fun vR HR hR => ?_
 obtain ⟨⟨e, rfl⟩, rfl⟩ := hR
 refine TL.nil ?_
 refine TE.blockEnd ?_
 refine TE.next J11 ?_
 refine TC.region ?_
 refine tp (PV.add rfl rfl rfl (wrap_i64 (by omega) (by omega))) ?_
 refine PS ?_
 refine TL.nil ?_
 exact TE.round ((i + 1, d2) : (Nat) × (AS)) ⟨by omega, ht2⟩ (by show 5 - (i + 1) < 5 - i; omega)
   (Sub.r (Sub.r (Sub.r (Sub.cons rfl (by simp) (Sub.nil _)))))
   (fun _ s => s)
 refine nx J9 ?_
 refine TC.seq fun _ J13 => ?_
 refine CN ?_
 refine TC.exit ?_
 refine TE.pass ?_
 refine TE.pass ?_
 refine TE.hit ?_
 refine TE.next J7 ?_
 refine sr fun _ J14 => ?_
 refine PS ?_
 refine nx J14 ?_
 refine TC.block ?_
 refine TC.loop (α := (Nat) × (AS)) (fun ⟨k, d⟩ => k ≤ 400 ∧ sweepsN q (400 - k) d = some b2) (fun ⟨k, d⟩ => [(0, (.pointer (some ⟨c, 0, none⟩))), (1, (.int .i64 (((rounds : Nat) : Int)))), (4, (.int .i64 (((m : Nat) : Int)))), (6, (.int .i64 (((k : Nat) : Int))))]) (fun ⟨k, d⟩ => [cluP q n c (d)]) (fun ⟨k, d⟩ => 400 - k) (0, d)
     ⟨Nat.zero_le _, by rw [ticksN_last (by omega) ht0]; exact hw1⟩ (Sub.r (Sub.r (Sub.r (Sub.cons rfl (by congr 1) (Sub.nil _)))))
     (fun _ s => s) (fun ⟨k, d⟩ hinv => ?_)
 obtain ⟨hk, hw0⟩ := hinv
 refine TC.seq fun _ J15 => ?_
 refine sr fun _ J16 => ?_
 refine PS ?_
 refine PS ?_
 refine TL.dec (fun h23 => ?_) (fun h23 => ?_)
 obtain ⟨hol, hz, hnz⟩ := sweepsN_step (by omega) hw0
 refine PS ?_
 refine PS ?_
 refine PS ?_
 refine FA 0 Tryz.underlying80 sz74 ?_
 refine TL.ex (H' := fun g : CG => [blkA c (clC g.n (dV g) (mV d g.r) g.p) 80, netP 120 167 5 g.n (frW q n d.W), sep ((List.range 5).map fun i => machP q n i (d.at' i) (g.d i) (g.r i) (g.p i))]) (fun _ s => sep_open s) (fun g => ?_)
 refine tq (PV.load1 (v := (.pointer (some ⟨g.n, 0, none⟩))) rfl Tryz.underlying74 rfl rfl (RO 0) (cl_n g.n (dV g) (mV d g.r) g.p)) ?_
 refine CR nm49 (netLen_does g.n (frW q n d.W) (len_small hol)) (SM [1]) fun vR HR hR => ?_
 obtain ⟨rfl, rfl⟩ := hR
 change TL _ _ _ _ _ _ _ _ _ [netP 120 167 5 g.n (frW q n d.W), blkA c (clC g.n (dV g) (mV d g.r) g.p) 80, sep ((List.range 5).map fun i => machP q n i (d.at' i) (g.d i) (g.r i) (g.p i))]
 refine TL.mono (H' := [cluP q n c (d)]) (fun _ s => sep_close (p := cluL q n c d) (H := []) g (sep_selR [1, 0, 0] rfl s)) ?_
 refine PS ?_
 refine TL.dec (fun h30 => ?_) (fun h30 => ?_)
 rw [lenTo_frW q n d.W 25 (Nat.le_refl _)] at h30
 obtain ⟨d2, hw, hw2⟩ := hnz (by omega)
 refine PS ?_
 refine nx J16 ?_
 refine CY ?_
 refine CX J15 ?_
 refine TC.seq fun _ J17 => ?_
 refine TC.block ?_
 refine TC.region ?_
 refine PS ?_
 refine CR nm50 (sweep_does h1 h2 hq hw) (fun _ s => s) fun vR HR hR => ?_
 obtain rfl := hR
 refine TL.nil ?_
 refine TE.blockEnd ?_
 refine TE.next J17 ?_
 refine TC.region ?_
 refine PS ?_
 refine tp (PV.add rfl rfl rfl (wrap_i64 (by omega) (by omega))) ?_
 refine PS ?_
 refine TL.nil ?_
 exact TE.round ((k + 1, d2) : (Nat) × (AS)) ⟨by omega, hw2⟩ (by show 400 - (k + 1) < 400 - k; omega)
   (Sub.r (Sub.r (Sub.r (Sub.cons rfl (by simp) (Sub.nil _)))))
   (fun _ s => s)
 rw [lenTo_frW q n d.W 25 (Nat.le_refl _)] at h30
 have hd := hz (by omega)
 refine PS ?_
 refine nx J16 ?_
 refine CN ?_
 refine TC.exit ?_
 refine TE.pass ?_
 refine TE.pass ?_
 refine TE.hit ?_
 refine TE.blockEnd ?_
 refine TE.next J6 ?_
 refine TC.region ?_
 refine PS ?_
 refine tp (PV.add rfl rfl rfl (wrap_i64 (by omega) (by omega))) ?_
 refine PS ?_
 refine TL.nil ?_
 exact TE.round ((m + 1, d) : (Nat) × (AS)) ⟨by omega, by rw [hd]; exact hs2⟩ (by show rounds - (m + 1) < rounds - m; omega)
   (Sub.r (Sub.r (Sub.cons rfl (by simp) (Sub.nil _))))
   (fun _ s => s)
 have hd := sweepsN_last (by omega) hw0
 refine PS ?_
 refine UF ?_
 refine UF ?_
 refine UF ?_
 refine UF ?_
 refine UF ?_
 refine UF ?_
 refine PS ?_
 refine nx J16 ?_
 refine CN ?_
 refine TC.exit ?_
 refine TE.pass ?_
 refine TE.pass ?_
 refine TE.hit ?_
 refine TE.blockEnd ?_
 refine TE.next J6 ?_
 refine TC.region ?_
 refine PS ?_
 refine tp (PV.add rfl rfl rfl (wrap_i64 (by omega) (by omega))) ?_
 refine PS ?_
 refine TL.nil ?_
 exact TE.round ((m + 1, d) : (Nat) × (AS)) ⟨by omega, by rw [hd]; exact hs2⟩ (by show rounds - (m + 1) < rounds - m; omega)
   (Sub.r (Sub.r (Sub.cons rfl (by simp) (Sub.nil _))))
   (fun _ s => s)
 refine nx J5 ?_
 refine CN ?_
 refine TC.exit ?_
 refine TE.pass ?_
 refine TE.pass ?_
 refine TE.hit ?_
 refine TE.weak (H' := [cluP q n c fin]) (Sub.refl _) (fun _ s => by rw [← settleA_last (by omega) hs]; exact s) ?_
 refine TE.end0 rfl ?_
 exact rfl
end Go.Proofs.YtobdfjdoilnfcaaGreat
end

section
namespace Go.Proofs.YtobdfjdoilnfcaaGreat

open Go Leg Codec Api Dsk Wal

set_option linter.unusedSimpArgs false
set_option linter.unusedVariables false

set_option maxRecDepth 100000

set_option maxHeartbeats 8000000

theorem dkNew_does : Leg.Does Tryz.prog 37 #[] (fun _ => True) [] (Ret (fun r' H => ∃ d, r' = .pointer (some ⟨d, 0, none⟩) ∧ H = [dkL d []])) :=
  Leg.Does.fold dk_new fun e H hp => by
    cases e with
    | returned v =>
      obtain ⟨d, rfl, rfl⟩ := hp
      exact ⟨[dkL d []], fun _ s => sep_close (p := fun D : { D : DS // LogD D [] ∧ D.dn = false ∧ D.ar = false } => [dk d D.1]) (H := []) ⟨DS.new, LogD.new, rfl, rfl⟩ s, d, rfl, rfl⟩
    | panicked c => exact hp.elim
    | outgrown => exact hp.elim
def dI (i : Nat) (d : Nat → Nat) : Nat → Value := fun j => if j < i then .pointer (some ⟨d j, 0, none⟩) else .pointer none
def noP : Nat → Value := fun _ => .slice none 0 0
theorem dI_upd (i : Nat) (d : Nat → Nat) (x : Nat) : upd (dI i d) i (.pointer (some ⟨x, 0, none⟩)) = dI (i + 1) (upd d i x) := funext fun j => by
  unfold dI upd
  by_cases hj : j = i
  · subst hj; simp
  · rw [if_neg hj, if_neg hj]
    show (if j < i then _ else _) = _
    by_cases h : j < i
    · rw [if_pos h, if_pos (by omega)]
    · rw [if_neg h, if_neg (by omega)]
theorem clC_congr {n : Nat} {D M P D' M' P' : Nat → Value} (h1 : ∀ i, i < 5 → D i = D' i) (h2 : ∀ i, i < 5 → M i = M' i) (h3 : ∀ i, i < 5 → P i = P' i) : clC n D M P = clC n D' M' P' := by
  unfold clC
  rw [List.map_congr_left (fun i hi => h1 i (List.mem_range.1 hi)), List.map_congr_left (fun i hi => h2 i (List.mem_range.1 hi)), List.map_congr_left (fun i hi => h3 i (List.mem_range.1 hi))]
theorem range_add {f g : Nat → HP} {i : Nat} (hg : ∀ j, j < i → g j = f j) {H : List HP} {h : Hl} (s : sep (g i :: sep ((List.range i).map f) :: H) h) : sep (sep ((List.range (i + 1)).map g) :: H) h := by
  have e : (List.range (i + 1)).map g = (List.range i).map f ++ [g i] := by
    rw [List.range_succ, List.map_append, List.map_congr_left (fun j hj => hg j (List.mem_range.1 hj))]; rfl
  rw [e]
  obtain ⟨h1, h2, d, rfl, a, b⟩ := s
  have s2 : sep ((g i :: (List.range i).map f) ++ H) (jn h1 h2) := ⟨h1, h2, d, rfl, a, (sep_append _ _).2 b⟩
  exact (sep_append _ _).1 (sep_perm ((List.perm_append_comm (l₁ := [g i])).append_right H) s2)
abbrev newM (q : Nat) (k : Int) (d r : Nat → Nat) (j : Nat) : HP := machP q k j .new (d j) (r j) (.slice none 0 0)
theorem new_add {q : Nat} {k : Int} {d r : Nat → Nat} {i x y lg : Nat} {X Y : HP} {h : Hl} (s : sep [blkA y (RepT.cells (newRep ((i : Nat) : Int) lg)) 102, lgL lg x [], dkL x [], X, Y, sep ((List.range i).map (newM q k d r))] h) : sep [X, Y, sep ((List.range (i + 1)).map (newM q k (upd d i x) (upd r i y)))] h := by
  have s1 := own_none 37 3 s
  have s2 := sep_close (p := runU q k i .new x y) (H := [dkL x [], X, Y, sep ((List.range i).map (newM q k d r))]) (lg, .slice none 0 0) (sep_selR [1, 1, 0, 0, 0, 0, 0] rfl s1)
  have s3 := own_none 37 3 s2
  have s4 := (sep_append (machU q k i .new x y (.slice none 0 0)) [sep ((List.range i).map (newM q k d r)), X, Y]).1 (sep_selR [2, 0, 0, 2, 0, 0] rfl s3)
  have e : newM q k (upd d i x) (upd r i y) i = sep (machU q k i .new x y (.slice none 0 0)) := by
    unfold newM machP
    rw [upd_same, upd_same]
  have s5 := range_add (i := i) (f := newM q k d r) (g := newM q k (upd d i x) (upd r i y)) (H := [X, Y]) (fun j hj => by unfold newM; rw [upd_ne d x (show j ≠ i by omega), upd_ne r y (show j ≠ i by omega)]) (by rw [e]; exact s4)
  exact sep_selR [1, 1, 0] rfl s5
theorem new_all {q : Nat} {k : Int} {c n : Nat} {d r : Nat → Nat} {h : Hl} (s : sep [blkA c (clC n (dI 5 d) (dI 5 r) noP) 80, netP 120 167 5 n (List.replicate 25 []), sep ((List.range 5).map (newM q k d r))] h) : sep [cluP q k c .new] h := by
  have e1 : clC n (dV ⟨n, d, r, noP⟩) (mV .new r) noP = clC n (dI 5 d) (dI 5 r) noP := clC_congr (fun i hi => by unfold dI; rw [if_pos hi]) (fun i hi => by
    unfold dI mV
    rw [if_pos hi]
    match i, hi with
    | 0, _ | 1, _ | 2, _ | 3, _ | 4, _ => rfl) (fun _ _ => rfl)
  have e2 : (List.range 5).map (fun i => machP q k i (AS.new.at' i) (d i) (r i) (noP i)) = (List.range 5).map (newM q k d r) := List.map_congr_left fun i hi => by
    rw [List.mem_range] at hi
    match i, hi with
    | 0, _ | 1, _ | 2, _ | 3, _ | 4, _ => rfl
  have e3 : frW q k AS.new.W = List.replicate 25 [] := rfl
  refine sep_close (p := cluL q k c .new) (H := []) ⟨n, d, r, noP⟩ ?_
  unfold cluL
  rw [e1, e2, e3]
  exact s


theorem cluNew_does (q : Nat) (k : Int) :
    Leg.Does Tryz.prog 11 #[] (fun _ => True) [] (Ret (fun v H => ∃ c, v = .pointer (some ⟨c, 0, none⟩) ∧ H = [cluP q k c .new])) := by
 refine Leg.Does.body (n := 33) Tryz.func11 rfl rfl rfl (fun w0 F hF => ?_)
 refine sr fun _ J1 => ?_
 refine PS ?_
 refine nx J1 (sr fun _ J2 => ?_)
 refine CR nm36 (netNew_does) (fun _ s => s) fun vR HR hR => ?_
 obtain ⟨n, rfl, rfl⟩ := hR
 refine tp (PV.build (cells := #[(.pointer (some ⟨n, 0, none⟩)), (.pointer none), (.pointer none), (.pointer none), (.pointer none), (.pointer none), (.pointer none), (.pointer none), (.pointer none), (.pointer none), (.pointer none), (.slice none 0 0), (.slice none 0 0), (.slice none 0 0), (.slice none 0 0), (.slice none 0 0)]) rfl rfl (by as_aux_lemma => kernel_rfl)) ?_
 refine TL.box (Want.plain rfl) rfl rfl rfl rfl (fun b5 => ?_)
 refine PS ?_
 refine nx J2 ?_
 refine TC.seq fun _ J3 => ?_
 refine sr fun _ J4 => ?_
 refine PS ?_
 refine nx J4 ?_
 refine TC.block ?_
 refine TC.loop (α := (Nat) × (Nat → Nat) × (Nat → Nat)) (fun ⟨i, d, r⟩ => i ≤ 5) (fun ⟨i, d, r⟩ => [(0, (.pointer none)), (1, (.pointer (some ⟨b5, 0, none⟩))), (6, (.int .i64 (((i : Nat) : Int))))]) (fun ⟨i, d, r⟩ => [blkA b5 (clC n (dI i d) (dI i r) noP) 80, netP 120 167 5 n (List.replicate 25 []), sep ((List.range i).map (newM q k d r))]) (fun ⟨i, d, r⟩ => 5 - i) (0, fun _ => 0, fun _ => 0)
     (Nat.zero_le _) (Sub.r (Sub.r (Sub.cons rfl (by congr 1) (Sub.nil _))))
     (fun _ s => sep_selR [1, 1, 0] rfl (true_piece s)) (fun ⟨i, d, r⟩ hinv => ?_)
 obtain hi := hinv
 refine sr fun _ J5 => ?_
 refine PS ?_
 refine TL.dec (fun h7 => ?_) (fun h7 => ?_)
 have hlt : i < 5 := by omega
 refine nx J5 ?_
 refine TC.seq fun _ J6 => ?_
 refine CY ?_
 refine CX J6 ?_
 refine TC.seq fun _ J7 => ?_
 refine TC.block ?_
 refine sr fun _ J8 => ?_
 refine PS ?_
 refine PS ?_
 refine nx J8 ?_
 refine TC.seq fun _ J9 => ?_
 refine D0 mixedD ?_
 refine PD 0 ?_
 refine PD 1 ?_
 refine PD 3 ?_
 refine FD 4 1 Tryz.underlying80 sz77 ?_
 refine TD.all [2] (by kernel_rfl) rfl ?_
 refine AllT.cons rfl ?_ ?_
 refine CR nm37 (dkNew_does) (fun _ s => s) fun vR HR hR => ?_
 obtain ⟨dn, rfl, rfl⟩ := hR
 refine TL.nil ?_
 refine E0 ?_
 refine ta 5 rfl (PV.indexArr (r := 1 + i) rfl Tryz.underlying77 sz76 rfl rfl (by omega) (by omega) (by omega)) ?_
 refine TD.all [6] (by kernel_rfl) rfl ?_
 refine AllT.cons rfl ?_ ?_
 refine TL.store1 (i := 1) (Want.plain rfl) rfl rfl rfl rfl rfl sz76 rfl rfl (by rw [cl_len]; omega) (cl_setd n (dI i d) (dI i r) noP (.pointer (some ⟨dn, 0, none⟩)) hlt) rfl ?_
 refine TL.nil ?_
 refine E0 ?_
 refine TD.done (by kernel_rfl) ?_
 refine TE.next J9 ?_
 refine D0 mixedD ?_
 refine PD 0 ?_
 refine PD 1 ?_
 refine PD 2 ?_
 refine PD 3 ?_
 refine PD 4 ?_
 refine PD 5 ?_
 refine FD 6 1 Tryz.underlying80 sz77 ?_
 refine ta 7 rfl (PV.indexArr (r := 1 + i) rfl Tryz.underlying77 sz76 rfl rfl (by omega) (by omega) (by omega)) ?_
 refine PD 13 ?_
 refine FD 14 6 Tryz.underlying80 sz66 ?_
 refine TD.all [8] (by kernel_rfl) rfl ?_
 refine AllT.cons rfl ?_ ?_
 refine tp (PV.load1 (v := (.pointer (some ⟨dn, 0, none⟩))) rfl Tryz.underlying76 rfl rfl (RO 1) ((cl_d n (upd (dI i d) i (.pointer (some ⟨dn, 0, none⟩))) (dI i r) noP hlt).trans (congrArg some (upd_same (dI i d) i _)))) ?_
 refine TL.nil ?_
 refine E0 ?_
 refine TD.all [9] (by kernel_rfl) rfl ?_
 refine AllT.cons rfl ?_ ?_
 refine CR nm38 (start0_does ((i : Nat) : Int) dn) (fun _ s => s) fun vR HR hR => ?_
 obtain ⟨rn, lg, rfl, rfl⟩ := hR
 refine TL.nil ?_
 refine E0 ?_
 refine PD 10 ?_
 refine ta 11 rfl (PV.extract (vs := [(.pointer (some ⟨rn, 0, none⟩)), (.int .i64 0)]) rfl rfl rfl) ?_
 refine ta 12 rfl (PV.extract (vs := [(.pointer (some ⟨rn, 0, none⟩)), (.int .i64 0)]) rfl rfl rfl) ?_
 refine ta 15 rfl (PV.indexArr (r := 6 + i) rfl Tryz.underlying66 sz38 rfl rfl (by omega) (by omega) (by omega)) ?_
 refine TD.all [16] (by kernel_rfl) rfl ?_
 refine AllT.cons rfl ?_ ?_
 refine TL.store1 (i := 3) (Want.plain rfl) rfl rfl rfl rfl rfl sz38 rfl rfl (by rw [cl_len]; omega) (cl_setm n (upd (dI i d) i (.pointer (some ⟨dn, 0, none⟩))) (dI i r) noP (.pointer (some ⟨rn, 0, none⟩)) hlt) rfl ?_
 refine TL.nil ?_
 refine E0 ?_
 refine TD.done (by kernel_rfl) ?_
 refine TE.blockEnd ?_
 refine TE.next J7 ?_
 refine TC.region ?_
 refine tp (PV.add rfl rfl rfl (wrap_i64 (by omega) (by omega))) ?_
 refine PS ?_
 refine TL.nil ?_
 exact TE.round ((i + 1, upd d i dn, upd r i rn) : (Nat) × (Nat → Nat) × (Nat → Nat)) (by omega) (by show 5 - (i + 1) < 5 - i; omega)
   (Sub.r (Sub.r (Sub.cons rfl (by simp) (Sub.nil _))))
   (fun _ s => by
    show sep [blkA b5 (clC n (dI (i + 1) (upd d i dn)) (dI (i + 1) (upd r i rn)) noP) 80, _, _] _
    rw [← dI_upd, ← dI_upd]
    exact new_add (sep_selR [0, 0, 0, 0, 0, 0] rfl s))
 exact AllT.nil
 exact AllT.nil
 exact AllT.nil
 exact AllT.nil
 exact AllT.nil
 refine nx J5 ?_
 refine TC.seq fun _ J10 => ?_
 refine CN ?_
 refine TC.exit ?_
 refine TE.pass ?_
 refine TE.pass ?_
 refine TE.hit ?_
 refine TE.next J3 ?_
 refine sr fun _ J11 => ?_
 refine PS ?_
 refine PS ?_
 refine nx J11 ?_
 refine TC.ret ?_
 refine TE.weak (H' := [cluP q k b5 .new]) (Sub.refl _) (fun _ s => by have h5 : i = 5 := (by omega); subst h5; exact new_all s) ?_
 refine TE.ret1 rfl rfl ?_
 exact ⟨b5, rfl, rfl⟩
end Go.Proofs.YtobdfjdoilnfcaaGreat
end

section
namespace Api
open Go Leg Codec Dsk Wal
def cellW (n : Int) : CellT := { CellT.zero with inn := n }
theorem cellW_at {q : Nat} (hq : q < 3) (n : Int) {i : Nat} (hi : i < 5) : bookCell (putRow BookT.zero ((q : Nat) : Int) (rowW n)) ((i : Nat) : Int) 0 = if i = q then cellW n else .zero := by
  match q, hq, i, hi with
  | 0, _, 0, _ | 0, _, 1, _ | 0, _, 2, _ | 0, _, 3, _ | 0, _, 4, _ | 1, _, 0, _ | 1, _, 1, _ | 1, _, 2, _ | 1, _, 3, _ | 1, _, 4, _ | 2, _, 0, _ | 2, _, 1, _ | 2, _, 2, _ | 2, _, 3, _ | 2, _, 4, _ => show _ = _; kernel_rfl
theorem valueW {q : Nat} (hq : q < 3) {n : Int} (h1 : 1 ≤ n) (h2 : n ≤ 1024) (i : Nat) (m : AM) (lg : Nat) (vr : Value) : bookValue (xW q n i m lg vr).book 0 = if m.know then n else 0 := by
  cases h : m.know
  · rw [show (xW q n i m lg vr).book = BookT.zero from if_neg (by rw [h]; decide)]
    show _ = _
    kernel_rfl
  · rw [show (xW q n i m lg vr).book = putRow BookT.zero ((q : Nat) : Int) (rowW n) from if_pos h]
    unfold bookValue
    rw [valueTo_succ, valueTo_succ, valueTo_succ, valueTo_succ, valueTo_succ, show valueTo (putRow BookT.zero ((q : Nat) : Int) (rowW n)) 0 0 = 0 from rfl]
    rw [cellW_at hq n (show 0 < 5 by decide), cellW_at hq n (show 1 < 5 by decide), cellW_at hq n (show 2 < 5 by decide), cellW_at hq n (show 3 < 5 by decide), cellW_at hq n (show 4 < 5 by decide)]
    have e0 : w64 (CellT.zero.inn - CellT.zero.out) = 0 := by show _ = _; kernel_rfl
    have e1 : w64 ((cellW n).inn - (cellW n).out) = n := by
      show w64 (n - 0) = n
      rw [w64_eq (by omega) (by omega)]; omega
    have e2 : w64 0 = 0 := by show _ = _; kernel_rfl
    have e3 : w64 n = n := w64_eq (by omega) (by omega)
    match q, hq with
    | 0, _ => simp [e0, e1, e2, e3]
    | 1, _ => simp [e0, e1, e2, e3]
    | 2, _ => simp [e0, e1, e2, e3]
def witA (q w : Nat) : Option AS := match crashA .new w with
  | none => none
  | some a => match incA q a with
    | none => none
    | some b => settleA q 4 b
def witB (q w : Nat) (a : AS) : Option AS := match startA a w with
  | none => none
  | some b => settleA q 3 b
def waitsM (m : AM) : Bool := m.up && m.inc && m.busy && !m.know
def doneM (m : AM) : Bool := m.up && m.inc && !m.busy && m.know
theorem waitsM_is {m : AM} (h : waitsM m = true) : m.up = true ∧ m.busy = true ∧ m.know = false ∧ rsW m = [] := by
  obtain ⟨a, b, c, d, e, f, g⟩ := m
  cases a <;> cases c <;> cases d <;> cases e <;> first | exact ⟨rfl, rfl, rfl, rfl⟩ | exact nomatch h
theorem doneM_is {m : AM} (h : doneM m = true) : m.up = true ∧ m.busy = false ∧ m.know = true ∧ rsW m = [⟨1, 0, 0⟩] := by
  obtain ⟨a, b, c, d, e, f, g⟩ := m
  cases a <;> cases c <;> cases d <;> cases e <;> first | exact ⟨rfl, rfl, rfl, rfl⟩ | exact nomatch h
def okW (q w : Nat) : Bool := match witA q w with
  | none => false
  | some a => waitsM (a.at' q) && (match witB q w a with
    | none => false
    | some b => doneM (b.at' q))
theorem okW_all : ∀ q : Fin 3, okW q.val ((q.val + 1) % 5) = true ∧ okW q.val ((q.val + 2) % 5) = true := by decide +kernel
theorem okW_run {q w : Nat} (h : okW q w = true) : ∃ a b c d e, crashA .new w = some a ∧ incA q a = some b ∧ settleA q (4 - 0) b = some c ∧ waitsM (c.at' q) = true ∧ startA c w = some d ∧ settleA q (3 - 0) d = some e ∧ doneM (e.at' q) = true := by
  unfold okW at h
  split at h
  · cases h
  · rename_i c hc
    rw [Bool.and_eq_true] at h
    obtain ⟨h1, h⟩ := h
    split at h
    · cases h
    · rename_i e he
      unfold witA at hc
      split at hc
      · cases hc
      · rename_i a ha
        split at hc
        · cases hc
        · rename_i b hb
          unfold witB at he
          split at he
          · cases he
          · rename_i d hd
            exact ⟨a, b, c, d, e, ha, hb, hc, h1, hd, he, h⟩
def okF : Bool := match incA 0 .new with
  | none => false
  | some a => match settleA 0 3 a with
    | none => false
    | some b => (b.at' 2).up && (b.at' 2).know && (b.at' 4).up
theorem okF_all : okF = true := by decide +kernel
theorem okF_run : ∃ a b, incA 0 .new = some a ∧ settleA 0 (3 - 0) a = some b ∧ (b.at' 2).up = true ∧ (b.at' 2).know = true ∧ (b.at' 4).up = true := by
  have h := okF_all
  unfold okF at h
  split at h
  · cases h
  · rename_i a ha
    split at h
    · cases h
    · rename_i b hb
      rw [Bool.and_eq_true, Bool.and_eq_true] at h
      exact ⟨a, b, ha, hb, h.1.1, h.1.2, h.2⟩
end Api
end

section
namespace Go.Proofs.YtobdfjdoilnfcaaGreat

open Go Leg Codec Api Dsk Wal

set_option linter.unusedSimpArgs false
set_option linter.unusedVariables false

set_option maxRecDepth 100000

set_option maxHeartbeats 8000000

theorem perm_mid {α : Type} (A B C : List α) : ((A ++ B) ++ C).Perm ((A ++ C) ++ B) := by
  rw [List.append_assoc, List.append_assoc]
  exact List.Perm.append_left _ List.perm_append_comm
abbrev seeL (q : Nat) (n : Int) (c : Nat) (a : AS) (i : Nat) (g : CG) (x : Nat × Value) : List HP := [blkA c (clC g.n (dV g) (mV a g.r) g.p) 80, netP 120 167 5 g.n (frW q n a.W), dkL (g.d i) (rcB q n (a.at' i)), ownR (g.p i) []] ++ runU q n i (a.at' i) (g.d i) (g.r i) x
def cluS (q : Nat) (n : Int) (c : Nat) (a : AS) (g : CG) : HP := sep (cluL q n c a g)
section
variable {f : FuncId} {args : Array Value} {q : Nat} {n : Int} {c i : Nat} {a : AS} {g : CG}
theorem see_open (hi : i < 5) (hu : (a.at' i).up = true) {h : Hl} (s : sep [cluS q n c a g] h) : ∃ x, sep (seeL q n c a i g x ++ [sep (((List.range 5).map fun i => machP q n i (a.at' i) (g.d i) (g.r i) (g.p i)).eraseIdx i)]) h := by
  have s0 : sep (cluL q n c a g ++ []) h := (sep_append _ _).2 s
  have s2 := range_open (f := fun i => machP q n i (a.at' i) (g.d i) (g.r i) (g.p i)) hi (sep_selR [2, 0, 0] rfl s0)
  have s3 := (sep_append (machU q n i (a.at' i) (g.d i) (g.r i) (g.p i)) _).2 s2
  have e1 : runP q n i (a.at' i) (g.d i) (g.r i) = pack (runU q n i (a.at' i) (g.d i) (g.r i)) := if_pos hu
  unfold machU at s3
  rw [e1] at s3
  obtain ⟨x, s4⟩ := sep_open (sep_selR [2, 0, 0, 0, 0, 0] rfl s3)
  exact ⟨x, sep_selR [6, 6, 3, 3, 0, 0, 0, 0] rfl s4⟩
theorem see_shut (hi : i < 5) (hu : (a.at' i).up = true) {x : Nat × Value} {h : Hl} (s : sep (seeL q n c a i g x ++ [sep (((List.range 5).map fun i => machP q n i (a.at' i) (g.d i) (g.r i) (g.p i)).eraseIdx i)]) h) : sep [cluS q n c a g] h := by
  have e1 : runP q n i (a.at' i) (g.d i) (g.r i) = pack (runU q n i (a.at' i) (g.d i) (g.r i)) := if_pos hu
  have s1 := sep_close (p := runU q n i (a.at' i) (g.d i) (g.r i)) (H := [dkL (g.d i) (rcB q n (a.at' i)), ownR (g.p i) [], sep (((List.range 5).map fun i => machP q n i (a.at' i) (g.d i) (g.r i) (g.p i)).eraseIdx i), blkA c (clC g.n (dV g) (mV a g.r) g.p) 80, netP 120 167 5 g.n (frW q n a.W)]) x (sep_selR [4, 4, 4, 2, 2, 2, 0, 0] rfl s)
  rw [← e1] at s1
  have s2 := (sep_append (machU q n i (a.at' i) (g.d i) (g.r i) (g.p i)) _).1 (sep_selR [1, 1, 0, 0, 0, 0] rfl s1)
  have s3 := range_shut (f := fun i => machP q n i (a.at' i) (g.d i) (g.r i) (g.p i)) (g := fun i => machP q n i (a.at' i) (g.d i) (g.r i) (g.p i)) hi (fun _ _ => rfl) s2
  exact (sep_append (cluL q n c a g) []).1 (sep_selR [1, 1, 0] rfl s3)
theorem clu_see {Q : Value → List HP → Prop} (hi : i < 5) (hu : (a.at' i).up = true) (core : ∀ x, Leg.Does Tryz.prog f args (fun _ => True) (seeL q n c a i g x) (Ret fun v H => ∃ X, Q v X ∧ H = seeL q n c a i g x ++ X)) :
    Leg.Does Tryz.prog f args (fun _ => True) [cluS q n c a g] (Ret fun v H => ∃ X, Q v X ∧ H = cluS q n c a g :: X) := by
  refine Leg.Does.ex (A' := fun x => seeL q n c a i g x ++ [sep (((List.range 5).map fun i => machP q n i (a.at' i) (g.d i) (g.r i) (g.p i)).eraseIdx i)]) (fun h s => see_open hi hu s) fun x => ?_
  refine Leg.Does.withinR (core x) (fun _ _ _ _ => trivial) (fun h s => s) fun v H hp => ?_
  obtain ⟨X, hQ, rfl⟩ := hp
  refine ⟨_, fun h s => ?_, X, hQ, rfl⟩
  have p := perm_mid (seeL q n c a i g x) X [sep (((List.range 5).map fun i => machP q n i (a.at' i) (g.d i) (g.r i) (g.p i)).eraseIdx i)]
  have s1 := (sep_append _ X).1 (sep_perm p s)
  exact (sep_append [cluS q n c a g] X).2 (star_mono s1 (fun h t => see_shut hi hu t) fun _ t => t)
theorem clu_known {h : Hl} (s : sep [cluP q n c a] h) : ∃ g, sep [cluS q n c a g] h := by
  obtain ⟨g, s⟩ := sep_open s
  exact ⟨g, (sep_append (cluL q n c a g) []).1 s⟩
theorem clu_forget {H : List HP} {h : Hl} (s : sep (cluS q n c a g :: H) h) : sep (cluP q n c a :: H) h := star_mono s (fun _ t => ⟨g, t⟩) fun _ t => t
theorem machine_clu (hi : i < 5) (hu : (a.at' i).up = true) : Leg.Does Tryz.prog 15 #[.pointer (some ⟨c, 0, none⟩), .int .i64 ((i : Nat) : Int)] (fun _ => True) [cluP q n c a] (Ret fun v H => ∃ g : CG, v = .pointer (some ⟨g.r i, 0, none⟩) ∧ H = [cluS q n c a g]) :=
  Leg.Does.ex (A' := fun g => [cluS q n c a g]) (fun h s => clu_known s) fun g => Leg.Does.fold (clu_see (Q := fun v X => v = .pointer (some ⟨g.r i, 0, none⟩) ∧ X = []) hi hu fun x => by
    refine Leg.Does.withinR (A := [blkA c (clC g.n (dV g) (mV a g.r) g.p) 80, dkL (g.d i) (rcB q n (a.at' i))]) (B := [netP 120 167 5 g.n (frW q n a.W), ownR (g.p i) []] ++ runU q n i (a.at' i) (g.d i) (g.r i) x) (machine1_does c g.n i (dV g) (mV a g.r) g.p hi (g.d i) (g.r i) (rcB q n (a.at' i)) rfl (if_pos hu)) (fun _ _ _ _ => trivial) (fun h s => sep_selR [0, 1, 0, 0, 0, 0, 0] rfl s) fun v H hp => ?_
    obtain ⟨rfl, rfl⟩ := hp
    exact ⟨_, fun h s => sep_selR [0, 1, 0, 0, 0, 0, 0] rfl s, [], ⟨rfl, rfl⟩, rfl⟩) fun e H hp => by
  cases e with
  | returned v => obtain ⟨X, ⟨rfl, rfl⟩, rfl⟩ := hp; exact ⟨_, fun _ s => s, g, rfl, rfl⟩
  | panicked c => exact hp.elim
  | outgrown => exact hp.elim
theorem up_clu (hi : i < 5) (hu : (a.at' i).up = true) : Leg.Does Tryz.prog 13 #[.pointer (some ⟨c, 0, none⟩), .int .i64 ((i : Nat) : Int)] (fun _ => True) [cluP q n c a] (Ret fun v H => v = .bool true ∧ H = [cluP q n c a]) :=
  Leg.Does.ex (A' := fun g => [cluS q n c a g]) (fun h s => clu_known s) fun g => Leg.Does.fold (clu_see (Q := fun v X => v = .bool true ∧ X = []) hi hu fun x => by
    refine Leg.Does.withinR (A := [blkA c (clC g.n (dV g) (mV a g.r) g.p) 80, dkL (g.d i) (rcB q n (a.at' i))]) (B := [netP 120 167 5 g.n (frW q n a.W), ownR (g.p i) []] ++ runU q n i (a.at' i) (g.d i) (g.r i) x) (up1_does c g.n i (dV g) (mV a g.r) g.p hi (g.d i) (g.r i) (rcB q n (a.at' i)) rfl (if_pos hu)) (fun _ _ _ _ => trivial) (fun h s => sep_selR [0, 1, 0, 0, 0, 0, 0] rfl s) fun v H hp => ?_
    obtain ⟨rfl, rfl⟩ := hp
    exact ⟨_, fun h s => sep_selR [0, 1, 0, 0, 0, 0, 0] rfl s, [], ⟨rfl, rfl⟩, rfl⟩) fun e H hp => by
  cases e with
  | returned v => obtain ⟨X, ⟨rfl, rfl⟩, rfl⟩ := hp; exact ⟨_, fun _ s => clu_forget s, rfl, rfl⟩
  | panicked c => exact hp.elim
  | outgrown => exact hp.elim
theorem replies_clu (hi : i < 5) (hu : (a.at' i).up = true) : Leg.Does Tryz.prog 12 #[.pointer (some ⟨c, 0, none⟩), .int .i64 ((i : Nat) : Int)] (fun _ => True) [cluP q n c a] (Ret fun v H => ∃ u, v = u ∧ H = [cluP q n c a, ownR u (rsW (a.at' i))]) :=
  Leg.Does.ex (A' := fun g => [cluS q n c a g]) (fun h s => clu_known s) fun g => Leg.Does.fold (clu_see (Q := fun v X => X = [ownR v (rsW (a.at' i))]) hi hu fun x => by
    refine Leg.Does.withinR (B := [netP 120 167 5 g.n (frW q n a.W), dkL (g.d i) (rcB q n (a.at' i)), lgL x.1 (g.d i) (rcB q n (a.at' i))]) (replies1_does c g.n i (dV g) (mV a g.r) g.p hi (g.r i) (if_pos hu) [] (rsW (a.at' i)) (by decide) (by unfold rsW; split <;> decide) (xW q n i (a.at' i) x.1 x.2)) (fun _ _ _ _ => trivial) (fun h s => sep_selR [0, 2, 2, 3, 0, 0, 0] rfl s) fun v H hp => ?_
    obtain ⟨u, _, rfl, rfl⟩ := hp
    exact ⟨_, fun h s => sep_selR [0, 4, 4, 0, 0, 2, 0, 0] rfl s, [ownR v (rsW (a.at' i))], rfl, rfl⟩) fun e H hp => by
  cases e with
  | returned v => obtain ⟨X, rfl, rfl⟩ := hp; exact ⟨_, fun _ s => clu_forget s, v, rfl, rfl⟩
  | panicked c => exact hp.elim
  | outgrown => exact hp.elim
theorem value_clu (h1 : 1 ≤ n) (h2 : n ≤ 1024) (hq : q < 3) (hi : i < 5) (hu : (a.at' i).up = true) : Leg.Does Tryz.prog 23 #[.pointer (some ⟨g.r i, 0, none⟩), .int .i64 0] (fun _ => True) [cluS q n c a g] (Ret fun v H => v = .int .i64 (if (a.at' i).know then n else 0) ∧ H = [cluP q n c a]) :=
  Leg.Does.fold (clu_see (Q := fun v X => v = .int .i64 (if (a.at' i).know then n else 0) ∧ X = []) hi hu fun x => by
    refine Leg.Does.withinR (A := [blkA (g.r i) (RepT.cells (xW q n i (a.at' i) x.1 x.2)) 102]) (B := [blkA c (clC g.n (dV g) (mV a g.r) g.p) 80, netP 120 167 5 g.n (frW q n a.W), dkL (g.d i) (rcB q n (a.at' i)), ownR (g.p i) [], lgL x.1 (g.d i) (rcB q n (a.at' i)), ownR x.2 (rsW (a.at' i))]) (rValue_does (g.r i) (xW q n i (a.at' i) x.1 x.2) 0) (fun _ _ _ _ => trivial) (fun h s => sep_selR [4, 0, 0, 0, 0, 0, 0] rfl s) fun v H hp => ?_
    obtain ⟨rfl, rfl⟩ := hp
    exact ⟨_, fun h s => sep_selR [1, 1, 1, 1, 0, 0, 0] rfl s, [], ⟨by rw [valueW hq h1 h2], rfl⟩, rfl⟩) fun e H hp => by
  cases e with
  | returned v => obtain ⟨X, ⟨rfl, rfl⟩, rfl⟩ := hp; exact ⟨_, fun _ s => clu_forget s, rfl, rfl⟩
  | panicked c => exact hp.elim
  | outgrown => exact hp.elim
theorem busy_clu (hi : i < 5) (hu : (a.at' i).up = true) : Leg.Does Tryz.prog 24 #[.pointer (some ⟨g.r i, 0, none⟩)] (fun _ => True) [cluS q n c a g] (Ret fun v H => v = .bool (a.at' i).busy ∧ H = [cluP q n c a]) :=
  Leg.Does.fold (clu_see (Q := fun v X => v = .bool (a.at' i).busy ∧ X = []) hi hu fun x => by
    refine Leg.Does.withinR (A := [blkA (g.r i) (RepT.cells (xW q n i (a.at' i) x.1 x.2)) 102]) (B := [blkA c (clC g.n (dV g) (mV a g.r) g.p) 80, netP 120 167 5 g.n (frW q n a.W), dkL (g.d i) (rcB q n (a.at' i)), ownR (g.p i) [], lgL x.1 (g.d i) (rcB q n (a.at' i)), ownR x.2 (rsW (a.at' i))]) (rBusy_does (g.r i) (xW q n i (a.at' i) x.1 x.2)) (fun _ _ _ _ => trivial) (fun h s => sep_selR [4, 0, 0, 0, 0, 0, 0] rfl s) fun v H hp => ?_
    obtain ⟨rfl, rfl⟩ := hp
    exact ⟨_, fun h s => sep_selR [1, 1, 1, 1, 0, 0, 0] rfl s, [], ⟨rfl, rfl⟩, rfl⟩) fun e H hp => by
  cases e with
  | returned v => obtain ⟨X, ⟨rfl, rfl⟩, rfl⟩ := hp; exact ⟨_, fun _ s => clu_forget s, rfl, rfl⟩
  | panicked c => exact hp.elim
  | outgrown => exact hp.elim
end


end Go.Proofs.YtobdfjdoilnfcaaGreat
end

section
namespace Go.Proofs.YtobdfjdoilnfcaaGreat

open Go Leg Codec Api Dsk Wal

set_option linter.unusedSimpArgs false
set_option linter.unusedVariables false

set_option maxRecDepth 100000

set_option maxHeartbeats 8000000

theorem fit17_does  :
    Leg.Does Tryz.prog 9 #[] (fun _ => True) [] (Ret (fun r' H => r' = .bool true ∧ H = [])) := by
 refine Leg.Does.body (n := 38) Tryz.func9 rfl rfl rfl (fun w0 F hF => ?_)
 obtain ⟨a, b, ha, hb, hu2, hk2, hu4⟩ := okF_run
 refine sr fun _ J1 => ?_
 refine PS ?_
 refine nx J1 (sr fun _ J2 => ?_)
 refine CR nm11 (cluNew_does 0 5) (fun _ s => s) fun vR HR hR => ?_
 obtain ⟨c, rfl, rfl⟩ := hR
 refine PS ?_
 refine nx J2 ?_
 refine TC.seq fun _ J3 => ?_
 refine sr fun _ J4 => ?_
 refine PS ?_
 refine tp (PV.ptrNil rfl Tryz.underlying25 rfl rfl) ?_
 refine nx J4 ?_
 refine CN ?_
 refine CX J3 ?_
 refine sr fun _ J5 => ?_
 refine PS ?_
 refine tp (PV.buildSegs (cs := ints (OpT.mk 0 0 0 0 5 ChangeT.zero 0 0 0).flat) (segs := [[Value.int .i64 0], [Value.int .i64 0], [Value.int .i64 0], [Value.int .i64 0], [Value.int .i64 0], ints ChangeT.zero.flat, [Value.int .i64 0], [Value.int .i64 0], [Value.int .i64 0]]) (res := [[Value.int .i64 0], [Value.int .i64 0], [Value.int .i64 0], [Value.int .i64 0], [Value.int .i64 5], ints ChangeT.zero.flat, [Value.int .i64 0], [Value.int .i64 0], [Value.int .i64 0]]) (parts := [(0, [Value.int .i64 0]), (4, [Value.int .i64 5])]) rfl rfl Tryz.underlying30 (by kernel_rfl) (by kernel_rfl) rfl (putSegs_step rfl ((rfl : [Value.int .i64 0].length = 1).trans (rfl : [Value.int .i64 0].length = 1).symm) (putSegs_step rfl ((rfl : [Value.int .i64 5].length = 1).trans (rfl : [Value.int .i64 0].length = 1).symm) putSegs_nil)) (OpT.eq (OpT.mk 0 0 0 0 5 ChangeT.zero 0 0 0)).symm) ?_
 refine CR nm14 (inc_does (by decide) (by decide) (by decide) ha) (fun _ s => s) fun vR HR hR => ?_
 obtain ⟨rfl, rfl⟩ := hR
 refine PS ?_
 refine nx J5 (sr fun _ J6 => ?_)
 refine PS ?_
 refine CR nm22 (settle_does (by decide) (by decide) (by decide) 3 (by decide) hb) (fun _ s => s) fun vR HR hR => ?_
 obtain rfl := hR
 refine nx J6 (sr fun _ J7 => ?_)
 refine PS ?_
 refine CR nm15 (machine_clu (i := 2) (by decide) hu2) (fun _ s => s) fun vR HR hR => ?_
 obtain ⟨g, rfl, rfl⟩ := hR
 refine PS ?_
 refine nx J7 (sr fun _ J8 => ?_)
 refine PS ?_
 refine PS ?_
 refine PS ?_
 refine PS ?_
 refine tq (PV.ptrNotNil rfl Tryz.underlying38 rfl rfl) ?_
 refine PS ?_
 refine PS ?_
 refine PS ?_
 refine CR nm23 (value_clu (i := 2) (by decide) (by decide) (by decide) (by decide) hu2) (fun _ s => s) fun vR HR hR => ?_
 obtain ⟨hv, rfl⟩ := hR
 rw [hk2, if_pos rfl] at hv
 subst hv
 refine PS ?_
 refine PS ?_
 refine PS ?_
 refine PS ?_
 refine CR nm13 (up_clu (i := 4) (by decide) hu4) (fun _ s => s) fun vR HR hR => ?_
 obtain ⟨rfl, rfl⟩ := hR
 refine PS ?_
 refine PS ?_
 refine CQ nm35 (frame_does 0 1 (.slice none 0 0) [] (by decide)) (fun _ s => s) (fun _ _ _ => Or.inl (Or.inl ⟨rfl, rfl⟩)) fun vR HR hR => ?_
 obtain ⟨_, rfl, rfl⟩ := hR
 revert vR
 intro uf
 refine TL.ownLen 0 rfl rfl (fun hluf _ => ?_)
 rw [frameB_len] at hluf
 refine tq (PV.lenV rfl Tryz.underlying72 rfl hluf) ?_
 refine PS ?_
 refine PS ?_
 refine PS ?_
 refine CR nm17 (first_does ) (fun _ s => s) fun vR HR hR => ?_
 obtain ⟨rfl, rfl⟩ := hR
 refine CR nm19 (viewRight_does firstV Rng.first) (fun _ s => s) fun vR HR hR => ?_
 obtain ⟨rfl, rfl⟩ := hR
 refine PS ?_
 refine PS ?_
 refine nx J8 ?_
 refine TC.ret ?_
 refine WK [] ?_
 refine TE.ret1 rfl rfl ?_
 exact ⟨rfl, rfl⟩
end Go.Proofs.YtobdfjdoilnfcaaGreat
end

section
namespace Go.Proofs.YtobdfjdoilnfcaaGreat

open Go Leg Codec Api Dsk Wal

set_option linter.unusedSimpArgs false
set_option linter.unusedVariables false

set_option maxRecDepth 100000

set_option maxHeartbeats 8000000

theorem witness0_does (at' which n' k : Int) (q : Nat) (hq : q < 3) (h1 : 1 ≤ k) (h2 : k ≤ 1024) (hqe : (at' % 256).tmod 3 = ((q : Nat) : Int)) (hke : n' % 1024 + 1 = k) (hj : which % 2 = 0) :
    Leg.Does Tryz.prog 5 #[(.int .i64 (at')), (.int .i64 (which)), (.int .i64 (n'))] (fun _ => True) [] (Ret (fun r' H => r' = .bool true ∧ H = [])) := by
 refine Leg.Does.body (n := 90) Tryz.func5 rfl rfl rfl (fun w0 F hF => ?_)
 obtain ⟨w, hw5, hwe, hok⟩ : ∃ w : Nat, w < 5 ∧ (((q : Nat) : Int) + 1) % 5 = ((w : Nat) : Int) ∧ okW q w = true := ⟨(q + 1) % 5, Nat.mod_lt _ (by decide), by omega, (okW_all ⟨q, hq⟩).1⟩
 obtain ⟨a, b, c, d, e, ra, rb, rc, hmc, rd, re, hme⟩ := okW_run hok
 have hq5 : q < 5 := by omega
 obtain ⟨huc, hbc, hkc, hrc⟩ := waitsM_is hmc
 obtain ⟨hue, hbe, hkE, hre⟩ := doneM_is hme
 have hone : ([⟨1, 0, 0⟩] : List ReplyT).length = 1 := rfl
 refine sr fun _ J1 => ?_
 refine PS ?_
 refine nx J1 ?_
 refine TC.seq fun _ J2 => ?_
 refine sr fun _ J3 => ?_
 refine CR nm9 (fit17_does) (fun _ s => s) fun vR HR hR => ?_
 obtain ⟨rfl, rfl⟩ := hR
 refine tp (PV.not (r := false) rfl rfl rfl) ?_
 refine nx J3 ?_
 refine CN ?_
 refine CX J2 ?_
 refine sr fun _ J4 => ?_
 refine PS ?_
 refine tp (PV.and (r := (at' % 256)) rfl rfl rfl (mask (k := 8) (by decide) _)) ?_
 refine tp (PV.rem (r := ((q : Nat) : Int)) rfl rfl rfl (by omega) hqe) ?_
 refine PS ?_
 refine tp (PV.and (r := (n' % 1024)) rfl rfl rfl (mask (k := 10) (by decide) _)) ?_
 refine tp (PV.add (r := k) rfl rfl rfl ((wrap_i64 (by omega) (by omega)).trans hke)) ?_
 refine PS ?_
 refine PS ?_
 refine nx J4 (sr fun _ J5 => ?_)
 refine PS ?_
 refine CR nm21 (wit2_does ((q : Nat) : Int) (machB_nat hq5)) (fun _ s => s) fun vR HR hR => ?_
 obtain ⟨_, rfl, rfl⟩ := hR
 revert vR
 intro uw
 refine TL.ownLen 0 rfl rfl (fun hluw _ => ?_)
 refine TL.ownAt 0 rfl rfl (by omega) (fun gw capw hvw hcapw => ?_)
 refine PS ?_
 refine tp (PV.and (r := 0) rfl rfl rfl ((mask (k := 1) (by decide) _).trans hj)) ?_
 refine tp (PV.indexSlV (r := 0) hvw rfl Tryz.underlying50 sz3 rfl rfl (by omega) (by omega) rfl) ?_
 refine tp (PV.load1X (v := (.int .i64 (((w : Nat) : Int)))) rfl Tryz.underlying3 rfl rfl (RdX.own 0 rfl hvw rfl) (congrArg (fun z : Int => some (Value.int .i64 z)) hwe)) ?_
 refine PS ?_
 refine nx J5 (sr fun _ J6 => ?_)
 refine CR nm11 (cluNew_does q k) (fun _ s => s) fun vR HR hR => ?_
 obtain ⟨x, rfl, rfl⟩ := hR
 refine PS ?_
 refine nx J6 (sr fun _ J7 => ?_)
 refine PS ?_
 refine PS ?_
 refine tp (PV.buildSegs (cs := ints (OpT.mk 10 ((w : Nat) : Int) 0 0 0 ChangeT.zero 0 (-1) 0).flat) (segs := [[Value.int .i64 0], [Value.int .i64 0], [Value.int .i64 0], [Value.int .i64 0], [Value.int .i64 0], ints ChangeT.zero.flat, [Value.int .i64 0], [Value.int .i64 0], [Value.int .i64 0]]) (res := [[Value.int .i64 10], [Value.int .i64 ((w : Nat) : Int)], [Value.int .i64 0], [Value.int .i64 0], [Value.int .i64 0], ints ChangeT.zero.flat, [Value.int .i64 0], [Value.int .i64 (-1)], [Value.int .i64 0]]) (parts := [(0, [Value.int .i64 10]), (1, [Value.int .i64 ((w : Nat) : Int)]), (7, [Value.int .i64 (-1)])]) rfl rfl Tryz.underlying30 (by kernel_rfl) (by kernel_rfl) rfl (putSegs_step rfl ((rfl : [Value.int .i64 10].length = 1).trans (rfl : [Value.int .i64 0].length = 1).symm) (putSegs_step rfl ((rfl : [Value.int .i64 ((w : Nat) : Int)].length = 1).trans (rfl : [Value.int .i64 0].length = 1).symm) (putSegs_step rfl ((rfl : [Value.int .i64 (-1)].length = 1).trans (rfl : [Value.int .i64 0].length = 1).symm) putSegs_nil))) (OpT.eq (OpT.mk 10 ((w : Nat) : Int) 0 0 0 ChangeT.zero 0 (-1) 0)).symm) ?_
 refine CR nm14 (crash_does hw5 ra) (fun _ s => s) fun vR HR hR => ?_
 obtain ⟨⟨ea, rfl⟩, rfl⟩ := hR
 refine nx J7 ?_
 refine TC.seq fun _ J8 => ?_
 refine sr fun _ J9 => ?_
 refine PS ?_
 refine PS ?_
 refine PS ?_
 refine tp (PV.buildSegs (cs := ints (OpT.mk 0 ((q : Nat) : Int) 0 0 k ChangeT.zero 0 0 0).flat) (segs := [[Value.int .i64 0], [Value.int .i64 0], [Value.int .i64 0], [Value.int .i64 0], [Value.int .i64 0], ints ChangeT.zero.flat, [Value.int .i64 0], [Value.int .i64 0], [Value.int .i64 0]]) (res := [[Value.int .i64 0], [Value.int .i64 ((q : Nat) : Int)], [Value.int .i64 0], [Value.int .i64 0], [Value.int .i64 k], ints ChangeT.zero.flat, [Value.int .i64 0], [Value.int .i64 0], [Value.int .i64 0]]) (parts := [(0, [Value.int .i64 0]), (1, [Value.int .i64 ((q : Nat) : Int)]), (4, [Value.int .i64 k])]) rfl rfl Tryz.underlying30 (by kernel_rfl) (by kernel_rfl) rfl (putSegs_step rfl ((rfl : [Value.int .i64 0].length = 1).trans (rfl : [Value.int .i64 0].length = 1).symm) (putSegs_step rfl ((rfl : [Value.int .i64 ((q : Nat) : Int)].length = 1).trans (rfl : [Value.int .i64 0].length = 1).symm) (putSegs_step rfl ((rfl : [Value.int .i64 k].length = 1).trans (rfl : [Value.int .i64 0].length = 1).symm) putSegs_nil))) (OpT.eq (OpT.mk 0 ((q : Nat) : Int) 0 0 k ChangeT.zero 0 0 0)).symm) ?_
 refine CR nm14 (inc_does h1 h2 hq rb) (fun _ s => s) fun vR HR hR => ?_
 obtain ⟨rfl, rfl⟩ := hR
 refine PS ?_
 refine nx J9 ?_
 refine CN ?_
 refine CX J8 ?_
 refine sr fun _ J10 => ?_
 refine PS ?_
 refine CR nm22 (settle_does h1 h2 hq 4 (by decide) rc) (fun _ s => s) fun vR HR hR => ?_
 obtain rfl := hR
 refine nx J10 ?_
 refine TC.seq fun _ J11 => ?_
 refine sr fun _ J12 => ?_
 refine PS ?_
 refine PS ?_
 refine CR nm12 (replies_clu hq5 huc) (fun _ s => s) fun vR HR hR => ?_
 obtain ⟨_, rfl, hH⟩ := hR
 revert vR
 intro u1 hH
 rw [hrc] at hH
 subst hH
 refine TL.ownLen 1 rfl rfl (fun hlu1 _ => ?_)
 refine tp (PV.lenV rfl Tryz.underlying31 rfl hlu1) ?_
 refine PS ?_
 refine PS ?_
 refine PS ?_
 refine PS ?_
 refine CR nm15 (machine_clu hq5 huc) (fun _ s => s) fun vR HR hR => ?_
 obtain ⟨g2, rfl, rfl⟩ := hR
 refine CR nm23 (value_clu h1 h2 hq hq5 huc) (fun _ s => s) fun vR HR hR => ?_
 obtain ⟨hv, rfl⟩ := hR
 rw [hkc, if_neg (by decide)] at hv
 subst hv
 refine PS ?_
 refine PS ?_
 refine PS ?_
 refine PS ?_
 refine PS ?_
 refine CR nm15 (machine_clu hq5 huc) (fun _ s => s) fun vR HR hR => ?_
 obtain ⟨g3, rfl, rfl⟩ := hR
 refine CR nm24 (busy_clu hq5 huc) (fun _ s => s) fun vR HR hR => ?_
 obtain ⟨hv, rfl⟩ := hR
 rw [hbc] at hv
 subst hv
 refine tq (PV.not (r := false) rfl rfl rfl) ?_
 refine PS ?_
 refine nx J12 ?_
 refine CN ?_
 refine CX J11 ?_
 refine sr fun _ J13 => ?_
 refine PS ?_
 refine PS ?_
 refine tp (PV.buildSegs (cs := ints (OpT.mk 11 ((w : Nat) : Int) 0 0 0 ChangeT.zero 0 0 0).flat) (segs := [[Value.int .i64 0], [Value.int .i64 0], [Value.int .i64 0], [Value.int .i64 0], [Value.int .i64 0], ints ChangeT.zero.flat, [Value.int .i64 0], [Value.int .i64 0], [Value.int .i64 0]]) (res := [[Value.int .i64 11], [Value.int .i64 ((w : Nat) : Int)], [Value.int .i64 0], [Value.int .i64 0], [Value.int .i64 0], ints ChangeT.zero.flat, [Value.int .i64 0], [Value.int .i64 0], [Value.int .i64 0]]) (parts := [(0, [Value.int .i64 11]), (1, [Value.int .i64 ((w : Nat) : Int)])]) rfl rfl Tryz.underlying30 (by kernel_rfl) (by kernel_rfl) rfl (putSegs_step rfl ((rfl : [Value.int .i64 11].length = 1).trans (rfl : [Value.int .i64 0].length = 1).symm) (putSegs_step rfl ((rfl : [Value.int .i64 ((w : Nat) : Int)].length = 1).trans (rfl : [Value.int .i64 0].length = 1).symm) putSegs_nil)) (OpT.eq (OpT.mk 11 ((w : Nat) : Int) 0 0 0 ChangeT.zero 0 0 0)).symm) ?_
 refine CR nm14 (start_again hw5 rd) (fun _ s => s) fun vR HR hR => ?_
 obtain ⟨⟨ed, rfl⟩, rfl⟩ := hR
 refine nx J13 (sr fun _ J14 => ?_)
 refine PS ?_
 refine CR nm22 (settle_does h1 h2 hq 3 (by decide) re) (fun _ s => s) fun vR HR hR => ?_
 obtain rfl := hR
 refine nx J14 (sr fun _ J15 => ?_)
 refine PS ?_
 refine PS ?_
 refine CR nm12 (replies_clu hq5 hue) (fun _ s => s) fun vR HR hR => ?_
 obtain ⟨_, rfl, hH⟩ := hR
 revert vR
 intro u4 hH
 rw [hre] at hH
 subst hH
 refine TL.ownLen 1 rfl rfl (fun hlu4 _ => ?_)
 refine TL.ownAt 1 rfl rfl (by decide) (fun gu4 capu4 hvu4 hcu4 => ?_)
 refine tp (PV.lenV rfl Tryz.underlying31 rfl hlu4) ?_
 refine PS ?_
 refine PS ?_
 refine PS ?_
 refine PS ?_
 refine CR nm12 (replies_clu hq5 hue) (fun _ s => s) fun vR HR hR => ?_
 obtain ⟨_, rfl, hH⟩ := hR
 revert vR
 intro u5 hH
 rw [hre] at hH
 subst hH
 refine TL.ownLen 1 rfl rfl (fun hlu5 _ => ?_)
 refine TL.ownAt 1 rfl rfl (by decide) (fun gu5 capu5 hvu5 hcu5 => ?_)
 refine tq (PV.indexSlV (r := 0) hvu5 rfl Tryz.underlying31 sz37 rfl rfl (by omega) (by omega) rfl) ?_
 refine FA 1 Tryz.underlying37 sz34 ?_
 refine tq (PV.load1X (v := (.int .i64 0)) rfl Tryz.underlying34 rfl rfl (RdX.own 1 rfl hvu5 rfl) rfl) ?_
 refine PS ?_
 refine PS ?_
 refine PS ?_
 refine PS ?_
 refine PS ?_
 refine CR nm15 (machine_clu hq5 hue) (fun _ s => s) fun vR HR hR => ?_
 obtain ⟨g6, rfl, rfl⟩ := hR
 refine CR nm23 (value_clu h1 h2 hq hq5 hue) (fun _ s => s) fun vR HR hR => ?_
 obtain ⟨hv, rfl⟩ := hR
 rw [hkE, if_pos rfl] at hv
 subst hv
 refine PS ?_
 refine PS ?_
 refine TL.dec (fun h81 => ?_) (fun h81 => ?_)
 refine PS ?_
 refine PS ?_
 refine PS ?_
 refine PS ?_
 refine CR nm15 (machine_clu hq5 hue) (fun _ s => s) fun vR HR hR => ?_
 obtain ⟨g7, rfl, rfl⟩ := hR
 refine CR nm24 (busy_clu hq5 hue) (fun _ s => s) fun vR HR hR => ?_
 obtain ⟨hv, rfl⟩ := hR
 rw [hbe] at hv
 subst hv
 refine tq (PV.not (r := true) rfl rfl rfl) ?_
 refine PS ?_
 refine PS ?_
 refine nx J15 ?_
 refine TC.ret ?_
 refine WK [] ?_
 refine TE.ret1 rfl rfl ?_
 exact ⟨rfl, rfl⟩
 · exact absurd rfl h81
theorem witness1_does (at' which n' k : Int) (q : Nat) (hq : q < 3) (h1 : 1 ≤ k) (h2 : k ≤ 1024) (hqe : (at' % 256).tmod 3 = ((q : Nat) : Int)) (hke : n' % 1024 + 1 = k) (hj : which % 2 = 1) :
    Leg.Does Tryz.prog 5 #[(.int .i64 (at')), (.int .i64 (which)), (.int .i64 (n'))] (fun _ => True) [] (Ret (fun r' H => r' = .bool true ∧ H = [])) := by
 refine Leg.Does.body (n := 90) Tryz.func5 rfl rfl rfl (fun w0 F hF => ?_)
 obtain ⟨w, hw5, hwe, hok⟩ : ∃ w : Nat, w < 5 ∧ (((q : Nat) : Int) + 2) % 5 = ((w : Nat) : Int) ∧ okW q w = true := ⟨(q + 2) % 5, Nat.mod_lt _ (by decide), by omega, (okW_all ⟨q, hq⟩).2⟩
 obtain ⟨a, b, c, d, e, ra, rb, rc, hmc, rd, re, hme⟩ := okW_run hok
 have hq5 : q < 5 := by omega
 obtain ⟨huc, hbc, hkc, hrc⟩ := waitsM_is hmc
 obtain ⟨hue, hbe, hkE, hre⟩ := doneM_is hme
 have hone : ([⟨1, 0, 0⟩] : List ReplyT).length = 1 := rfl
 refine sr fun _ J1 => ?_
 refine PS ?_
 refine nx J1 ?_
 refine TC.seq fun _ J2 => ?_
 refine sr fun _ J3 => ?_
 refine CR nm9 (fit17_does) (fun _ s => s) fun vR HR hR => ?_
 obtain ⟨rfl, rfl⟩ := hR
 refine tp (PV.not (r := false) rfl rfl rfl) ?_
 refine nx J3 ?_
 refine CN ?_
 refine CX J2 ?_
 refine sr fun _ J4 => ?_
 refine PS ?_
 refine tp (PV.and (r := (at' % 256)) rfl rfl rfl (mask (k := 8) (by decide) _)) ?_
 refine tp (PV.rem (r := ((q : Nat) : Int)) rfl rfl rfl (by omega) hqe) ?_
 refine PS ?_
 refine tp (PV.and (r := (n' % 1024)) rfl rfl rfl (mask (k := 10) (by decide) _)) ?_
 refine tp (PV.add (r := k) rfl rfl rfl ((wrap_i64 (by omega) (by omega)).trans hke)) ?_
 refine PS ?_
 refine PS ?_
 refine nx J4 (sr fun _ J5 => ?_)
 refine PS ?_
 refine CR nm21 (wit2_does ((q : Nat) : Int) (machB_nat hq5)) (fun _ s => s) fun vR HR hR => ?_
 obtain ⟨_, rfl, rfl⟩ := hR
 revert vR
 intro uw
 refine TL.ownLen 0 rfl rfl (fun hluw _ => ?_)
 refine TL.ownAt 0 rfl rfl (by omega) (fun gw capw hvw hcapw => ?_)
 refine PS ?_
 refine tp (PV.and (r := 1) rfl rfl rfl ((mask (k := 1) (by decide) _).trans hj)) ?_
 refine tp (PV.indexSlV (r := 1) hvw rfl Tryz.underlying50 sz3 rfl rfl (by omega) (by omega) rfl) ?_
 refine tp (PV.load1X (v := (.int .i64 (((w : Nat) : Int)))) rfl Tryz.underlying3 rfl rfl (RdX.own 0 rfl hvw rfl) (congrArg (fun z : Int => some (Value.int .i64 z)) hwe)) ?_
 refine PS ?_
 refine nx J5 (sr fun _ J6 => ?_)
 refine CR nm11 (cluNew_does q k) (fun _ s => s) fun vR HR hR => ?_
 obtain ⟨x, rfl, rfl⟩ := hR
 refine PS ?_
 refine nx J6 (sr fun _ J7 => ?_)
 refine PS ?_
 refine PS ?_
 refine tp (PV.buildSegs (cs := ints (OpT.mk 10 ((w : Nat) : Int) 0 0 0 ChangeT.zero 0 (-1) 0).flat) (segs := [[Value.int .i64 0], [Value.int .i64 0], [Value.int .i64 0], [Value.int .i64 0], [Value.int .i64 0], ints ChangeT.zero.flat, [Value.int .i64 0], [Value.int .i64 0], [Value.int .i64 0]]) (res := [[Value.int .i64 10], [Value.int .i64 ((w : Nat) : Int)], [Value.int .i64 0], [Value.int .i64 0], [Value.int .i64 0], ints ChangeT.zero.flat, [Value.int .i64 0], [Value.int .i64 (-1)], [Value.int .i64 0]]) (parts := [(0, [Value.int .i64 10]), (1, [Value.int .i64 ((w : Nat) : Int)]), (7, [Value.int .i64 (-1)])]) rfl rfl Tryz.underlying30 (by kernel_rfl) (by kernel_rfl) rfl (putSegs_step rfl ((rfl : [Value.int .i64 10].length = 1).trans (rfl : [Value.int .i64 0].length = 1).symm) (putSegs_step rfl ((rfl : [Value.int .i64 ((w : Nat) : Int)].length = 1).trans (rfl : [Value.int .i64 0].length = 1).symm) (putSegs_step rfl ((rfl : [Value.int .i64 (-1)].length = 1).trans (rfl : [Value.int .i64 0].length = 1).symm) putSegs_nil))) (OpT.eq (OpT.mk 10 ((w : Nat) : Int) 0 0 0 ChangeT.zero 0 (-1) 0)).symm) ?_
 refine CR nm14 (crash_does hw5 ra) (fun _ s => s) fun vR HR hR => ?_
 obtain ⟨⟨ea, rfl⟩, rfl⟩ := hR
 refine nx J7 ?_
 refine TC.seq fun _ J8 => ?_
 refine sr fun _ J9 => ?_
 refine PS ?_
 refine PS ?_
 refine PS ?_
 refine tp (PV.buildSegs (cs := ints (OpT.mk 0 ((q : Nat) : Int) 0 0 k ChangeT.zero 0 0 0).flat) (segs := [[Value.int .i64 0], [Value.int .i64 0], [Value.int .i64 0], [Value.int .i64 0], [Value.int .i64 0], ints ChangeT.zero.flat, [Value.int .i64 0], [Value.int .i64 0], [Value.int .i64 0]]) (res := [[Value.int .i64 0], [Value.int .i64 ((q : Nat) : Int)], [Value.int .i64 0], [Value.int .i64 0], [Value.int .i64 k], ints ChangeT.zero.flat, [Value.int .i64 0], [Value.int .i64 0], [Value.int .i64 0]]) (parts := [(0, [Value.int .i64 0]), (1, [Value.int .i64 ((q : Nat) : Int)]), (4, [Value.int .i64 k])]) rfl rfl Tryz.underlying30 (by kernel_rfl) (by kernel_rfl) rfl (putSegs_step rfl ((rfl : [Value.int .i64 0].length = 1).trans (rfl : [Value.int .i64 0].length = 1).symm) (putSegs_step rfl ((rfl : [Value.int .i64 ((q : Nat) : Int)].length = 1).trans (rfl : [Value.int .i64 0].length = 1).symm) (putSegs_step rfl ((rfl : [Value.int .i64 k].length = 1).trans (rfl : [Value.int .i64 0].length = 1).symm) putSegs_nil))) (OpT.eq (OpT.mk 0 ((q : Nat) : Int) 0 0 k ChangeT.zero 0 0 0)).symm) ?_
 refine CR nm14 (inc_does h1 h2 hq rb) (fun _ s => s) fun vR HR hR => ?_
 obtain ⟨rfl, rfl⟩ := hR
 refine PS ?_
 refine nx J9 ?_
 refine CN ?_
 refine CX J8 ?_
 refine sr fun _ J10 => ?_
 refine PS ?_
 refine CR nm22 (settle_does h1 h2 hq 4 (by decide) rc) (fun _ s => s) fun vR HR hR => ?_
 obtain rfl := hR
 refine nx J10 ?_
 refine TC.seq fun _ J11 => ?_
 refine sr fun _ J12 => ?_
 refine PS ?_
 refine PS ?_
 refine CR nm12 (replies_clu hq5 huc) (fun _ s => s) fun vR HR hR => ?_
 obtain ⟨_, rfl, hH⟩ := hR
 revert vR
 intro u1 hH
 rw [hrc] at hH
 subst hH
 refine TL.ownLen 1 rfl rfl (fun hlu1 _ => ?_)
 refine tp (PV.lenV rfl Tryz.underlying31 rfl hlu1) ?_
 refine PS ?_
 refine PS ?_
 refine PS ?_
 refine PS ?_
 refine CR nm15 (machine_clu hq5 huc) (fun _ s => s) fun vR HR hR => ?_
 obtain ⟨g2, rfl, rfl⟩ := hR
 refine CR nm23 (value_clu h1 h2 hq hq5 huc) (fun _ s => s) fun vR HR hR => ?_
 obtain ⟨hv, rfl⟩ := hR
 rw [hkc, if_neg (by decide)] at hv
 subst hv
 refine PS ?_
 refine PS ?_
 refine PS ?_
 refine PS ?_
 refine PS ?_
 refine CR nm15 (machine_clu hq5 huc) (fun _ s => s) fun vR HR hR => ?_
 obtain ⟨g3, rfl, rfl⟩ := hR
 refine CR nm24 (busy_clu hq5 huc) (fun _ s => s) fun vR HR hR => ?_
 obtain ⟨hv, rfl⟩ := hR
 rw [hbc] at hv
 subst hv
 refine tq (PV.not (r := false) rfl rfl rfl) ?_
 refine PS ?_
 refine nx J12 ?_
 refine CN ?_
 refine CX J11 ?_
 refine sr fun _ J13 => ?_
 refine PS ?_
 refine PS ?_
 refine tp (PV.buildSegs (cs := ints (OpT.mk 11 ((w : Nat) : Int) 0 0 0 ChangeT.zero 0 0 0).flat) (segs := [[Value.int .i64 0], [Value.int .i64 0], [Value.int .i64 0], [Value.int .i64 0], [Value.int .i64 0], ints ChangeT.zero.flat, [Value.int .i64 0], [Value.int .i64 0], [Value.int .i64 0]]) (res := [[Value.int .i64 11], [Value.int .i64 ((w : Nat) : Int)], [Value.int .i64 0], [Value.int .i64 0], [Value.int .i64 0], ints ChangeT.zero.flat, [Value.int .i64 0], [Value.int .i64 0], [Value.int .i64 0]]) (parts := [(0, [Value.int .i64 11]), (1, [Value.int .i64 ((w : Nat) : Int)])]) rfl rfl Tryz.underlying30 (by kernel_rfl) (by kernel_rfl) rfl (putSegs_step rfl ((rfl : [Value.int .i64 11].length = 1).trans (rfl : [Value.int .i64 0].length = 1).symm) (putSegs_step rfl ((rfl : [Value.int .i64 ((w : Nat) : Int)].length = 1).trans (rfl : [Value.int .i64 0].length = 1).symm) putSegs_nil)) (OpT.eq (OpT.mk 11 ((w : Nat) : Int) 0 0 0 ChangeT.zero 0 0 0)).symm) ?_
 refine CR nm14 (start_again hw5 rd) (fun _ s => s) fun vR HR hR => ?_
 obtain ⟨⟨ed, rfl⟩, rfl⟩ := hR
 refine nx J13 (sr fun _ J14 => ?_)
 refine PS ?_
 refine CR nm22 (settle_does h1 h2 hq 3 (by decide) re) (fun _ s => s) fun vR HR hR => ?_
 obtain rfl := hR
 refine nx J14 (sr fun _ J15 => ?_)
 refine PS ?_
 refine PS ?_
 refine CR nm12 (replies_clu hq5 hue) (fun _ s => s) fun vR HR hR => ?_
 obtain ⟨_, rfl, hH⟩ := hR
 revert vR
 intro u4 hH
 rw [hre] at hH
 subst hH
 refine TL.ownLen 1 rfl rfl (fun hlu4 _ => ?_)
 refine TL.ownAt 1 rfl rfl (by decide) (fun gu4 capu4 hvu4 hcu4 => ?_)
 refine tp (PV.lenV rfl Tryz.underlying31 rfl hlu4) ?_
 refine PS ?_
 refine PS ?_
 refine PS ?_
 refine PS ?_
 refine CR nm12 (replies_clu hq5 hue) (fun _ s => s) fun vR HR hR => ?_
 obtain ⟨_, rfl, hH⟩ := hR
 revert vR
 intro u5 hH
 rw [hre] at hH
 subst hH
 refine TL.ownLen 1 rfl rfl (fun hlu5 _ => ?_)
 refine TL.ownAt 1 rfl rfl (by decide) (fun gu5 capu5 hvu5 hcu5 => ?_)
 refine tq (PV.indexSlV (r := 0) hvu5 rfl Tryz.underlying31 sz37 rfl rfl (by omega) (by omega) rfl) ?_
 refine FA 1 Tryz.underlying37 sz34 ?_
 refine tq (PV.load1X (v := (.int .i64 0)) rfl Tryz.underlying34 rfl rfl (RdX.own 1 rfl hvu5 rfl) rfl) ?_
 refine PS ?_
 refine PS ?_
 refine PS ?_
 refine PS ?_
 refine PS ?_
 refine CR nm15 (machine_clu hq5 hue) (fun _ s => s) fun vR HR hR => ?_
 obtain ⟨g6, rfl, rfl⟩ := hR
 refine CR nm23 (value_clu h1 h2 hq hq5 hue) (fun _ s => s) fun vR HR hR => ?_
 obtain ⟨hv, rfl⟩ := hR
 rw [hkE, if_pos rfl] at hv
 subst hv
 refine PS ?_
 refine PS ?_
 refine TL.dec (fun h81 => ?_) (fun h81 => ?_)
 refine PS ?_
 refine PS ?_
 refine PS ?_
 refine PS ?_
 refine CR nm15 (machine_clu hq5 hue) (fun _ s => s) fun vR HR hR => ?_
 obtain ⟨g7, rfl, rfl⟩ := hR
 refine CR nm24 (busy_clu hq5 hue) (fun _ s => s) fun vR HR hR => ?_
 obtain ⟨hv, rfl⟩ := hR
 rw [hbe] at hv
 subst hv
 refine tq (PV.not (r := true) rfl rfl rfl) ?_
 refine PS ?_
 refine PS ?_
 refine nx J15 ?_
 refine TC.ret ?_
 refine WK [] ?_
 refine TE.ret1 rfl rfl ?_
 exact ⟨rfl, rfl⟩
 · exact absurd rfl h81
theorem clusterWitness_does (at' which n' : Int) : Leg.Does Tryz.prog 5 #[.int .i64 at', .int .i64 which, .int .i64 n'] (fun _ => True) [] (Ret (fun r' H => r' = .bool true ∧ H = [])) := by
  have h0 : 0 ≤ at' % 256 := Int.emod_nonneg _ (by decide)
  obtain ⟨q, hq, hqe⟩ : ∃ q : Nat, q < 3 ∧ (at' % 256).tmod 3 = ((q : Nat) : Int) := by
    rw [Int.tmod_eq_emod_of_nonneg h0]
    exact ⟨(at' % 256 % 3).toNat, by omega, by omega⟩
  rcases (show which % 2 = 0 ∨ which % 2 = 1 by omega) with hj | hj
  · exact witness0_does at' which n' (n' % 1024 + 1) q hq (by omega) (by omega) hqe rfl hj
  · exact witness1_does at' which n' (n' % 1024 + 1) q hq (by omega) (by omega) hqe rfl hj

end Go.Proofs.YtobdfjdoilnfcaaGreat
end
