/-
  Joined texts: what a statement's proof reaches.
-/
import Derived.Test.YtfceaphohlbnbaaGreatPMirrors4
set_option maxHeartbeats 8000000
section
namespace Go.Proofs.YtfceaphohlbnbaaGreat

open Go Leg Codec Api Dsk Wal

set_option linter.unusedSimpArgs false
set_option linter.unusedVariables false

set_option maxRecDepth 100000

set_option maxHeartbeats 8000000

abbrev outP (ob : Nat) (l : List SaidT) : HP := pack (fun vs : Value => [blkA ob [vs] 32, own vs l.length (ints (l.flatMap SaidT.flat)) 84 193])
theorem SaidT.flat_length (x : SaidT) : x.flat.length = 193 := ints_len (SaidT.len x)
theorem me (b : Nat) : IsMethod Tryz.prog 34 (.pointer (some ⟨b, 0, none⟩)) "Send" 152 := fun w => by kernel_rfl
theorem in84 : (Tryz.prog.info? 84).map (fun i => (i.zero, i.size, i.bytes)) = some (some (.agg (ints SaidT.zero.flat).toArray), 193, 1544) := by kernel_rfl

theorem send0_does (ob : Nat) (vs : Value) (l : List SaidT) (to' : Int) (m : MsgT) (hl : l.length ≤ 1000000) :
    Does Tryz.prog 152 #[(.pointer (some ⟨ob, 0, none⟩)), (.int .i64 (to')), (.agg (ints m.flat).toArray)] (fun _ => True) [blkA ob [vs] 32, own vs ((l).length) (ints (List.flatMap SaidT.flat (l))) 84 193] (Ret (fun _ H => ∃ v', H = [blkA ob [v'] 32, own v' (l ++ [SaidT.mk to' m]).length (ints (List.flatMap SaidT.flat (l ++ [SaidT.mk to' m]))) 84 193])) := by
 refine Does.body (vs := [(.pointer (some ⟨ob, 0, none⟩)), (.int .i64 (to')), (.agg (ints m.flat).toArray)]) (n := 18) Tryz.func152 rfl rfl rfl (fun w0 F hF => ?_)
 refine sr fun _ J1 => ?_
 refine TL.ownLen 1 rfl rfl (fun _ hvs => ?_)
 refine TL.box (Want.plain rfl) rfl rfl rfl rfl (fun b5 => ?_)
 change TL _ _ _ _ _ _ _ _ _ [blkA b5 (ints m.flat) 54, blkA ob [vs] 32, own vs ((l).length) (ints (List.flatMap SaidT.flat (l))) 84 193]
 refine nx J1 ?_
 refine TC.draw (fun w => Frm F w ∧ w.heap[b5]? = some (.cells (ints m.flat).toArray 54 (0, 0)) ∧ True) mixed rfl (fun _ s => ⟨Frm.of s, s.block 0 (lb rfl) rfl, trivial⟩) ?_
 refine ta 0 rfl (PV.move rfl rfl) ?_
 refine ta 1 rfl (PV.move rfl rfl) ?_
 refine ta 2 rfl (PV.nilCheck rfl rfl) ?_
 refine ta 3 rfl (PV.fieldAddr (r := 0) rfl Tryz.underlying32 rfl sz30 rfl rfl) ?_
 refine ta 5 rfl (PV.move rfl rfl) ?_
 refine ta 6 rfl (PV.loadN (vs := ints m.flat) rfl Tryz.underlying54 rfl sz54 rfl (fun _ h => h.2.1) (MsgT.len m) (whole (MsgT.len m))) ?_
 refine ta 7 rfl (PV.buildSegs (cs := ints (SaidT.mk to' m).flat) (segs := [[Value.int .i64 0], ints MsgT.zero.flat]) (res := [[Value.int .i64 to'], ints m.flat]) (parts := [(0, [Value.int .i64 to']), (1, ints m.flat)]) rfl rfl Tryz.underlying84 (by kernel_rfl) (by kernel_rfl) rfl (putSegs_step rfl ((rfl : [Value.int .i64 to'].length = 1).trans (rfl : [Value.int .i64 0].length = 1).symm) (putSegs_step rfl ((MsgT.len m).trans (MsgT.len MsgT.zero).symm) putSegs_nil)) (SaidT.eq (SaidT.mk to' m)).symm) ?_
 refine TD.all [4, 8] (by kernel_rfl) rfl ?_
 refine AllT.cons rfl ?_ ?_
 refine tp (PV.load1 (v := vs) rfl Tryz.underlying30 rfl rfl (Rd.own 1 rfl rfl) rfl) ?_
 refine TL.nil ?_
 refine TE.draw (fun _ s => ⟨Frm.of s, s.block 0 (lb rfl) rfl, trivial⟩) ?_
 refine TD.all [8] (by kernel_rfl) rfl ?_
 refine AllT.cons rfl ?_ ?_
 refine TL.buildSlice (cells := (ints (SaidT.mk to' m).flat).toArray) (Want.plain rfl) rfl rfl rfl Tryz.underlying30 in84 rfl rfl rfl (fill_at (SaidT.len (SaidT.mk to' m)) (by simp)) (fun b14 => ?_)
 change TL _ _ _ _ _ _ _ _ _ [blkA b14 (ints (SaidT.mk to' m).flat) 84, blkA b5 (ints m.flat) 54, blkA ob [vs] 32, own vs ((l).length) (ints (List.flatMap SaidT.flat (l))) 84 193]
 refine TL.nil ?_
 refine TE.draw (fun _ s => ⟨Frm.of s, s.block 1 (lb rfl) rfl, trivial⟩) ?_
 refine TD.all [9] (by kernel_rfl) rfl ?_
 refine AllT.cons rfl ?_ ?_
 refine TL.append (k := 3) (news := ints (SaidT.mk to' m).flat) (nn' := (l ++ [SaidT.mk to' m]).length) (xs' := ints (List.flatMap SaidT.flat (l ++ [SaidT.mk to' m]))) (Want.plain rfl) rfl rfl rfl Tryz.underlying30 in84 rfl rfl rfl rfl rfl rfl (fun _ _ => Src.rd (SaidT.len _) (Rd.own 0 rfl rfl) (by rw [List.drop_zero, List.take_length])) (ints_one _) (by simp only [maxLen]; omega) (by omega) (by simp) (by simp [ints]) (fun v15 ov15 => ?_)
 change TL _ _ _ _ _ _ _ _ _ [blkA b14 (ints (SaidT.mk to' m).flat) 84, blkA b5 (ints m.flat) 54, blkA ob [vs] 32, own v15 ((l ++ [SaidT.mk to' m]).length) (ints (List.flatMap SaidT.flat (l ++ [SaidT.mk to' m]))) 84 193]
 refine TL.nil ?_
 refine TE.draw (fun _ s => ⟨Frm.of s, s.block 1 (lb rfl) rfl, trivial⟩) ?_
 refine ta 10 rfl (PV.nilCheck rfl rfl) ?_
 refine ta 11 rfl (PV.fieldAddr (r := 0) rfl Tryz.underlying32 rfl sz30 rfl rfl) ?_
 refine TD.all [12] (by kernel_rfl) rfl ?_
 refine AllT.cons rfl ?_ ?_
 refine TL.store1 (i := 2) (H' := [blkA b14 (ints (SaidT.mk to' m).flat) 84, blkA b5 (ints m.flat) 54, blkA ob [v15] 32, own v15 ((l ++ [SaidT.mk to' m]).length) (ints (List.flatMap SaidT.flat (l ++ [SaidT.mk to' m]))) 84 193]) (Want.plain rfl) rfl rfl rfl rfl ov15 sz30 rfl rfl (lb rfl) rfl rfl ?_
 refine TL.nil ?_
 refine TE.draw (fun _ s => ⟨Frm.of s, s.block 1 (lb rfl) rfl, trivial⟩) ?_
 refine TD.done (by kernel_rfl) ?_
 refine TE.weak (Sub.refl _) (fun _ s => sep_keep [2, 2] rfl s) ?_
 refine TE.end0 rfl ?_
 exact ⟨_, rfl⟩
 exact AllT.nil
 exact AllT.nil
 exact AllT.nil
 refine AllT.cons rfl ?_ ?_
 refine TL.buildSlice (cells := (ints (SaidT.mk to' m).flat).toArray) (Want.plain rfl) rfl rfl rfl Tryz.underlying30 in84 rfl rfl rfl (fill_at (SaidT.len (SaidT.mk to' m)) (by simp)) (fun b14 => ?_)
 change TL _ _ _ _ _ _ _ _ _ [blkA b14 (ints (SaidT.mk to' m).flat) 84, blkA b5 (ints m.flat) 54, blkA ob [vs] 32, own vs ((l).length) (ints (List.flatMap SaidT.flat (l))) 84 193]
 refine TL.nil ?_
 refine TE.draw (fun _ s => ⟨Frm.of s, s.block 1 (lb rfl) rfl, trivial⟩) ?_
 refine TD.all [4] (by kernel_rfl) rfl ?_
 refine AllT.cons rfl ?_ ?_
 refine tp (PV.load1 (v := vs) rfl Tryz.underlying30 rfl rfl (Rd.own 2 rfl rfl) rfl) ?_
 refine TL.nil ?_
 refine TE.draw (fun _ s => ⟨Frm.of s, s.block 1 (lb rfl) rfl, trivial⟩) ?_
 refine TD.all [9] (by kernel_rfl) rfl ?_
 refine AllT.cons rfl ?_ ?_
 refine TL.append (k := 3) (news := ints (SaidT.mk to' m).flat) (nn' := (l ++ [SaidT.mk to' m]).length) (xs' := ints (List.flatMap SaidT.flat (l ++ [SaidT.mk to' m]))) (Want.plain rfl) rfl rfl rfl Tryz.underlying30 in84 rfl rfl rfl rfl rfl rfl (fun _ _ => Src.rd (SaidT.len _) (Rd.own 0 rfl rfl) (by rw [List.drop_zero, List.take_length])) (ints_one _) (by simp only [maxLen]; omega) (by omega) (by simp) (by simp [ints]) (fun v15 ov15 => ?_)
 change TL _ _ _ _ _ _ _ _ _ [blkA b14 (ints (SaidT.mk to' m).flat) 84, blkA b5 (ints m.flat) 54, blkA ob [vs] 32, own v15 ((l ++ [SaidT.mk to' m]).length) (ints (List.flatMap SaidT.flat (l ++ [SaidT.mk to' m]))) 84 193]
 refine TL.nil ?_
 refine TE.draw (fun _ s => ⟨Frm.of s, s.block 1 (lb rfl) rfl, trivial⟩) ?_
 refine ta 10 rfl (PV.nilCheck rfl rfl) ?_
 refine ta 11 rfl (PV.fieldAddr (r := 0) rfl Tryz.underlying32 rfl sz30 rfl rfl) ?_
 refine TD.all [12] (by kernel_rfl) rfl ?_
 refine AllT.cons rfl ?_ ?_
 refine TL.store1 (i := 2) (H' := [blkA b14 (ints (SaidT.mk to' m).flat) 84, blkA b5 (ints m.flat) 54, blkA ob [v15] 32, own v15 ((l ++ [SaidT.mk to' m]).length) (ints (List.flatMap SaidT.flat (l ++ [SaidT.mk to' m]))) 84 193]) (Want.plain rfl) rfl rfl rfl rfl ov15 sz30 rfl rfl (lb rfl) rfl rfl ?_
 refine TL.nil ?_
 refine TE.draw (fun _ s => ⟨Frm.of s, s.block 1 (lb rfl) rfl, trivial⟩) ?_
 refine TD.done (by kernel_rfl) ?_
 refine TE.weak (Sub.refl _) (fun _ s => sep_keep [2, 2] rfl s) ?_
 refine TE.end0 rfl ?_
 exact ⟨_, rfl⟩
 exact AllT.nil
 exact AllT.nil
 exact AllT.nil
 exact AllT.nil
theorem sendO_does (ob : Nat) (l : List SaidT) (to' : Int) (m : MsgT) (hl : l.length ≤ 1000000) : Does Tryz.prog 152 #[.pointer (some ⟨ob, 0, none⟩), .int .i64 to', .agg (ints m.flat).toArray] (fun _ => True) [outP ob l] (Ret (fun _ H => H = [outP ob (l ++ [SaidT.mk to' m])])) :=
  Does.fold (Does.pack (B := []) fun vs => send0_does ob vs l to' m hl) fun e H hp => by
    cases e with
    | returned v => obtain ⟨v', rfl⟩ := hp; exact ⟨_, fun _ s => sep_close (H := []) v' s, rfl⟩
    | panicked c => exact hp.elim
    | outgrown => exact hp.elim

theorem send_does (r ob : Nat) (x : RepT) (to' : Int) (m : MsgT) (l : List SaidT) (hl : l.length ≤ 1000000) (hto : to' ≠ x.id) :
    Does Tryz.prog 79 #[(.pointer (some ⟨r, 0, none⟩)), (.iface 34 (.pointer (some ⟨ob, 0, none⟩))), (.int .i64 (to')), (.agg (ints m.flat).toArray)] (fun _ => True) [blkA r (RepT.cells x) 104, outP ob (l)] (Ret (fun _ H => H = [blkA r (RepT.cells x) 104, outP ob (l ++ [SaidT.mk to' m])])) := by
 refine Does.body (vs := [(.pointer (some ⟨r, 0, none⟩)), (.iface 34 (.pointer (some ⟨ob, 0, none⟩))), (.int .i64 (to')), (.agg (ints m.flat).toArray)]) (n := 28) Tryz.func79 rfl rfl rfl (fun w0 F hF => ?_)
 refine sr fun _ J1 => ?_
 refine TL.box (Want.plain rfl) rfl rfl rfl rfl (fun b7 => ?_)
 change TL _ _ _ _ _ _ _ _ _ [blkA b7 (ints m.flat) 54, blkA r (RepT.cells x) 104, outP ob (l)]
 refine nx J1 ?_
 refine TC.seq fun _ J2 => ?_
 refine sr fun _ J3 => ?_
 refine mv ?_
 refine mv ?_
 refine tp (PV.nilCheck rfl rfl) ?_
 refine tp (PV.fieldAddr (r := 0) rfl Tryz.underlying104 rfl sz3 rfl rfl) ?_
 refine tp (PV.load1 (v := (.int .i64 (x.id))) rfl Tryz.underlying3 rfl rfl (Rd.own 1 rfl rfl) (RepT.at_id x rfl)) ?_
 refine tp (PV.eql rfl rfl rfl) ?_
 refine TL.dec (fun h13 => ?_) (fun h13 => ?_)
 · exact absurd h13 hto
 refine nx J3 ?_
 refine TC.no rfl ?_
 refine TC.skip ?_
 refine TE.next J2 ?_
 refine sr fun _ J4 => ?_
 refine mv ?_
 refine tp (PV.ifaceNotNil rfl Tryz.underlying117 rfl) ?_
 refine nx J4 ?_
 refine TC.yes rfl ?_
 refine TC.region ?_
 refine mv ?_
 refine mv ?_
 refine tp (PV.loadN (vs := ints m.flat) rfl Tryz.underlying54 rfl sz54 rfl (Rd.own 0 rfl rfl) (MsgT.len m) (whole (MsgT.len m))) ?_
 refine TL.callI (A := [outP ob (l)]) (B := [blkA b7 (ints m.flat) 54, blkA r (RepT.cells x) 104]) (Want.plain rfl) rfl rfl rfl rfl (me ob) nm152 rfl (sendO_does ob (l) to' m hl) (fun _ s => sep_selR [2] rfl s) (fun _ _ _ => trivial) (fun vR HR hR => ?_)
 obtain rfl := hR
 change TL _ _ _ _ _ _ _ _ _ [outP ob (l ++ [SaidT.mk to' m]), blkA b7 (ints m.flat) 54, blkA r (RepT.cells x) 104]
 refine TL.nil ?_
 refine TE.weak (Sub.refl _) (fun _ s => sep_keep [2, 0] rfl s) ?_
 refine TE.end0 rfl ?_
 exact rfl
theorem wit2_does (who : Int) (hm : machB who = true) : Does Tryz.prog 49 #[.int .i64 who] (fun _ => True) [] (Ret (fun r' H => ∃ u, r' = u ∧ H = [own u 2 [.int .i64 ((who + 1) % 5), .int .i64 ((who + 2) % 5)] 3 1])) := by
  have := witnesses_does who
  rw [show witL who = [(who + 1) % 5, (who + 2) % 5] by rw [witL, if_pos hm]] at this
  exact this

theorem tellRow_does (r ob : Nat) (x : RepT) (l : List SaidT) (hl : l.length ≤ 900000) (hid : machB x.id = true) :
    Does Tryz.prog 58 #[(.pointer (some ⟨r, 0, none⟩)), (.iface 34 (.pointer (some ⟨ob, 0, none⟩)))] (fun _ => True) [blkA r (RepT.cells x) 104, outP ob (l)] (Ret (fun _ H => H = [blkA r (RepT.cells x) 104, outP ob (l ++ tellL x)])) := by
 refine Does.body (vs := [(.pointer (some ⟨r, 0, none⟩)), (.iface 34 (.pointer (some ⟨ob, 0, none⟩)))]) (n := 40) Tryz.func58 rfl rfl rfl (fun w0 F hF => ?_)
 have hid2 : 0 ≤ x.id ∧ x.id < 5 := of_decide_eq_true hid
 refine TC.seq fun _ J1 => ?_
 refine TC.draw (fun w => Frm F w ∧ w.heap[r]? = some (.cells (RepT.cells x).toArray 104 (0, 0)) ∧ True) mixed rfl (fun _ s => ⟨Frm.of s, s.block 0 (lb rfl) rfl, trivial⟩) ?_
 refine ta 0 rfl (PV.move rfl rfl) ?_
 refine ta 1 rfl (PV.nilCheck rfl rfl) ?_
 refine ta 2 rfl (PV.fieldAddr (r := 0) rfl Tryz.underlying104 rfl sz3 rfl rfl) ?_
 refine ta 3 rfl (PV.load1 (v := (.int .i64 (x.id))) rfl Tryz.underlying3 rfl rfl (fun _ h => h.2.1) (RepT.at_id x rfl)) ?_
 refine ta 4 rfl (PV.move rfl rfl) ?_
 refine ta 5 rfl (PV.nilCheck rfl rfl) ?_
 refine ta 6 rfl (PV.fieldAddr (r := 9) rfl Tryz.underlying104 rfl sz48 rfl rfl) ?_
 refine ta 7 rfl (PV.loadN (vs := ints x.own.flat) rfl Tryz.underlying48 rfl sz48 rfl (fun _ h => h.2.1) (RowT.len x.own) (RepT.sub_own x 0 rfl (by decide) (whole (RowT.len x.own)))) ?_
 refine ta 8 rfl (PV.buildSegs (cs := ints (MsgT.mk 0 x.id x.own 0 0 BallotT.zero BallotT.zero ChangeT.zero ViewT.zero).flat) (segs := [[Value.int .i64 0], [Value.int .i64 0], ints RowT.zero.flat, [Value.int .i64 0], [Value.int .i64 0], ints BallotT.zero.flat, ints BallotT.zero.flat, ints ChangeT.zero.flat, ints ViewT.zero.flat]) (res := [[Value.int .i64 0], [Value.int .i64 x.id], ints x.own.flat, [Value.int .i64 0], [Value.int .i64 0], ints BallotT.zero.flat, ints BallotT.zero.flat, ints ChangeT.zero.flat, ints ViewT.zero.flat]) (parts := [(0, [Value.int .i64 0]), (1, [Value.int .i64 x.id]), (2, ints x.own.flat)]) rfl rfl Tryz.underlying54 (by kernel_rfl) (by kernel_rfl) rfl (putSegs_step rfl ((rfl : [Value.int .i64 0].length = 1).trans (rfl : [Value.int .i64 0].length = 1).symm) (putSegs_step rfl ((rfl : [Value.int .i64 x.id].length = 1).trans (rfl : [Value.int .i64 0].length = 1).symm) (putSegs_step rfl ((RowT.len x.own).trans (RowT.len RowT.zero).symm) putSegs_nil))) (MsgT.eq (MsgT.mk 0 x.id x.own 0 0 BallotT.zero BallotT.zero ChangeT.zero ViewT.zero)).symm) ?_
 refine TD.all [9] (by kernel_rfl) rfl ?_
 refine AllT.cons rfl ?_ ?_
 refine TL.alloc (Want.plain rfl) rfl rfl rfl z54 (fun b4 => ?_)
 change TL _ _ _ _ _ _ _ _ _ [blkA b4 (ints MsgT.zero.flat) 54, blkA r (RepT.cells x) 104, outP ob (l)]
 refine TL.nil ?_
 refine TE.draw (fun _ s => ⟨Frm.of s, s.block 1 (lb rfl) rfl, trivial⟩) ?_
 refine TD.all [10] (by kernel_rfl) rfl ?_
 refine AllT.cons rfl ?_ ?_
 refine TL.store (vs := ints (MsgT.mk 0 x.id x.own 0 0 BallotT.zero BallotT.zero ChangeT.zero ViewT.zero).flat) (i := 0) (H' := [blkA b4 (ints (MsgT.mk 0 x.id x.own 0 0 BallotT.zero BallotT.zero ChangeT.zero ViewT.zero).flat) 54, blkA r (RepT.cells x) 104, outP ob (l)]) (Want.plain rfl) rfl rfl rfl rfl rfl (by rw [(MsgT.len (MsgT.mk 0 x.id x.own 0 0 BallotT.zero BallotT.zero ChangeT.zero ViewT.zero))]; exact sz54) (ints_one _) rfl rfl (by have h0 := (MsgT.len MsgT.zero); have h1 := (MsgT.len (MsgT.mk 0 x.id x.own 0 0 BallotT.zero BallotT.zero ChangeT.zero ViewT.zero)); omega) (wwhole ((MsgT.len MsgT.zero).trans (MsgT.len (MsgT.mk 0 x.id x.own 0 0 BallotT.zero BallotT.zero ChangeT.zero ViewT.zero)).symm)) rfl ?_
 refine TL.nil ?_
 refine TE.draw (fun _ s => ⟨Frm.of s, s.block 1 (lb rfl) rfl, trivial⟩) ?_
 refine TD.done (by kernel_rfl) ?_
 refine TE.next J1 ?_
 clear J1
 refine sr fun _ J2 => ?_
 refine mv ?_
 refine tp (PV.nilCheck rfl rfl) ?_
 refine tp (PV.fieldAddr (r := 0) rfl Tryz.underlying104 rfl sz3 rfl rfl) ?_
 refine tp (PV.load1 (v := (.int .i64 (x.id))) rfl Tryz.underlying3 rfl rfl (Rd.own 1 rfl rfl) (RepT.at_id x rfl)) ?_
 refine TL.callR (A := []) (Want.plain rfl) rfl rfl rfl nm49 rfl (wit2_does x.id hid) (fun _ s => s) (fun _ _ _ => trivial) (fun vR HR hR => ?_)
 obtain ⟨_, rfl, rfl⟩ := hR
 revert vR
 intro uw
 change TL _ _ _ _ _ _ _ _ _ [own uw (2) ([.int .i64 ((x.id + 1) % 5), .int .i64 ((x.id + 2) % 5)]) 3 1, blkA b4 (ints (MsgT.mk 0 x.id x.own 0 0 BallotT.zero BallotT.zero ChangeT.zero ViewT.zero).flat) 54, blkA r (RepT.cells x) 104, outP ob (l)]
 refine TL.ownLen 0 rfl rfl (fun hluw _ => ?_)
 refine TL.ownAt 0 rfl rfl (by omega) (fun gw capw hvw hcapw => ?_)
 refine tp (PV.lenV rfl Tryz.underlying74 rfl hluw) ?_
 refine mv ?_
 refine nx J2 ?_
 clear J2
 refine TC.block ?_
 refine TC.unroll 2 ?_
 refine sr fun _ J3 => ?_
 refine tp (PV.lss rfl rfl rfl) ?_
 refine nx J3 ?_
 clear J3
 refine TC.seq fun _ J4 => ?_
 refine TC.yes rfl ?_
 refine TC.skip ?_
 refine TE.next J4 ?_
 clear J4
 refine TC.seq fun _ J5 => ?_
 refine TC.block ?_
 refine sr fun _ J6 => ?_
 refine tp (PV.indexSlV (r := 0) hvw rfl Tryz.underlying74 sz3 rfl rfl (by omega) (by omega) rfl) ?_
 refine tp (PV.load1X (v := (.int .i64 (((x.id + 1) % 5)))) rfl Tryz.underlying3 rfl rfl (RdX.own 0 rfl hvw rfl) rfl) ?_
 refine sg' ?_
 refine nx J6 ?_
 clear J6
 refine sr fun _ J7 => ?_
 refine mv ?_
 refine tp (PV.nilCheck rfl rfl) ?_
 refine tp (PV.fieldAddr (r := 1939) rfl Tryz.underlying104 rfl sz3 rfl rfl) ?_
 refine tp (PV.load1 (v := (.int .i64 (x.kept))) rfl Tryz.underlying3 rfl rfl (Rd.own 2 rfl rfl) (RepT.at_kept x rfl)) ?_
 refine mv ?_
 refine tp (PV.shr (r := (x.kept.fdiv (2 ^ min (((x.id + 1) % 5)).toNat IntKind.i64.bits))) rfl rfl rfl (by omega) rfl) ?_
 refine tp (PV.and (r := ((x.kept.fdiv (2 ^ min (((x.id + 1) % 5)).toNat IntKind.i64.bits)) % 2)) rfl rfl rfl (mask (k := 1) (by decide) _)) ?_
 refine tp (PV.eql rfl rfl rfl) ?_
 refine TL.dec (fun h33 => ?_) (fun h33 => ?_)
 refine nx J7 ?_
 clear J7
 refine TC.yes rfl ?_
 refine TC.region ?_
 refine mv ?_
 refine mv ?_
 refine mv ?_
 refine tp (PV.loadN (vs := ints (MsgT.mk 0 x.id x.own 0 0 BallotT.zero BallotT.zero ChangeT.zero ViewT.zero).flat) rfl Tryz.underlying54 rfl sz54 rfl (Rd.own 1 rfl rfl) (MsgT.len (MsgT.mk 0 x.id x.own 0 0 BallotT.zero BallotT.zero ChangeT.zero ViewT.zero)) (whole (MsgT.len (MsgT.mk 0 x.id x.own 0 0 BallotT.zero BallotT.zero ChangeT.zero ViewT.zero)))) ?_
 refine TL.callR (A := [blkA r (RepT.cells x) 104, outP ob (l)]) (Want.plain rfl) rfl rfl rfl nm79 rfl (send_does r ob x ((x.id + 1) % 5) (MsgT.mk 0 x.id x.own 0 0 BallotT.zero BallotT.zero ChangeT.zero ViewT.zero) (l) (by first | omega | (simp only [List.length_append, List.length_cons, List.length_nil]; omega)) (by omega)) (fun _ s => sep_selR [2, 2] rfl s) (fun _ _ _ => trivial) (fun vR HR hR => ?_)
 obtain rfl := hR
 change TL _ _ _ _ _ _ _ _ _ [blkA r (RepT.cells x) 104, outP ob (l ++ [SaidT.mk ((x.id + 1) % 5) (MsgT.mk 0 x.id x.own 0 0 BallotT.zero BallotT.zero ChangeT.zero ViewT.zero)]), own uw (2) ([.int .i64 ((x.id + 1) % 5), .int .i64 ((x.id + 2) % 5)]) 3 1, blkA b4 (ints (MsgT.mk 0 x.id x.own 0 0 BallotT.zero BallotT.zero ChangeT.zero ViewT.zero).flat) 54]
 refine TL.nil ?_
 refine TE.blockEnd ?_
 refine TE.next J5 ?_
 clear J5
 refine TC.region ?_
 refine tp (PV.add (r := 1) rfl rfl rfl (by decide)) ?_
 refine mv ?_
 refine TL.nil ?_
 refine TE.again ?_
 refine sr fun _ J8 => ?_
 refine tp (PV.lss rfl rfl rfl) ?_
 refine nx J8 ?_
 clear J8
 refine TC.seq fun _ J9 => ?_
 refine TC.yes rfl ?_
 refine TC.skip ?_
 refine TE.next J9 ?_
 clear J9
 refine TC.seq fun _ J10 => ?_
 refine TC.block ?_
 refine sr fun _ J11 => ?_
 refine tp (PV.indexSlV (r := 1) hvw rfl Tryz.underlying74 sz3 rfl rfl (by omega) (by omega) rfl) ?_
 refine tp (PV.load1X (v := (.int .i64 (((x.id + 2) % 5)))) rfl Tryz.underlying3 rfl rfl (RdX.own 2 rfl hvw rfl) rfl) ?_
 refine sg' ?_
 refine nx J11 ?_
 clear J11
 refine sr fun _ J12 => ?_
 refine mv ?_
 refine tp (PV.nilCheck rfl rfl) ?_
 refine tp (PV.fieldAddr (r := 1939) rfl Tryz.underlying104 rfl sz3 rfl rfl) ?_
 refine tp (PV.load1 (v := (.int .i64 (x.kept))) rfl Tryz.underlying3 rfl rfl (Rd.own 0 rfl rfl) (RepT.at_kept x rfl)) ?_
 refine mv ?_
 refine tp (PV.shr (r := (x.kept.fdiv (2 ^ min (((x.id + 2) % 5)).toNat IntKind.i64.bits))) rfl rfl rfl (by omega) rfl) ?_
 refine tp (PV.and (r := ((x.kept.fdiv (2 ^ min (((x.id + 2) % 5)).toNat IntKind.i64.bits)) % 2)) rfl rfl rfl (mask (k := 1) (by decide) _)) ?_
 refine tp (PV.eql rfl rfl rfl) ?_
 refine TL.dec (fun h33 => ?_) (fun h33 => ?_)
 refine nx J12 ?_
 clear J12
 refine TC.yes rfl ?_
 refine TC.region ?_
 refine mv ?_
 refine mv ?_
 refine mv ?_
 refine tp (PV.loadN (vs := ints (MsgT.mk 0 x.id x.own 0 0 BallotT.zero BallotT.zero ChangeT.zero ViewT.zero).flat) rfl Tryz.underlying54 rfl sz54 rfl (Rd.own 3 rfl rfl) (MsgT.len (MsgT.mk 0 x.id x.own 0 0 BallotT.zero BallotT.zero ChangeT.zero ViewT.zero)) (whole (MsgT.len (MsgT.mk 0 x.id x.own 0 0 BallotT.zero BallotT.zero ChangeT.zero ViewT.zero)))) ?_
 refine TL.callR (A := [blkA r (RepT.cells x) 104, outP ob (l ++ [SaidT.mk ((x.id + 1) % 5) (MsgT.mk 0 x.id x.own 0 0 BallotT.zero BallotT.zero ChangeT.zero ViewT.zero)])]) (Want.plain rfl) rfl rfl rfl nm79 rfl (send_does r ob x ((x.id + 2) % 5) (MsgT.mk 0 x.id x.own 0 0 BallotT.zero BallotT.zero ChangeT.zero ViewT.zero) (l ++ [SaidT.mk ((x.id + 1) % 5) (MsgT.mk 0 x.id x.own 0 0 BallotT.zero BallotT.zero ChangeT.zero ViewT.zero)]) (by first | omega | (simp only [List.length_append, List.length_cons, List.length_nil]; omega)) (by omega)) (fun _ s => s) (fun _ _ _ => trivial) (fun vR HR hR => ?_)
 obtain rfl := hR
 change TL _ _ _ _ _ _ _ _ _ [blkA r (RepT.cells x) 104, outP ob (l ++ [SaidT.mk ((x.id + 1) % 5) (MsgT.mk 0 x.id x.own 0 0 BallotT.zero BallotT.zero ChangeT.zero ViewT.zero)] ++ [SaidT.mk ((x.id + 2) % 5) (MsgT.mk 0 x.id x.own 0 0 BallotT.zero BallotT.zero ChangeT.zero ViewT.zero)]), own uw (2) ([.int .i64 ((x.id + 1) % 5), .int .i64 ((x.id + 2) % 5)]) 3 1, blkA b4 (ints (MsgT.mk 0 x.id x.own 0 0 BallotT.zero BallotT.zero ChangeT.zero ViewT.zero).flat) 54]
 refine TL.nil ?_
 refine TE.blockEnd ?_
 refine TE.next J10 ?_
 clear J10
 refine TC.region ?_
 refine tp (PV.add (r := 2) rfl rfl rfl (by decide)) ?_
 refine mv ?_
 refine TL.nil ?_
 refine TE.again ?_
 refine sr fun _ J13 => ?_
 refine tp (PV.lss rfl rfl rfl) ?_
 refine nx J13 ?_
 clear J13
 refine TC.seq fun _ J14 => ?_
 refine TC.no rfl ?_
 refine TC.exit ?_
 refine TE.pass ?_
 clear J14
 refine TE.pass ?_
 refine TE.hit ?_
 refine TE.weak (Sub.refl _) (fun _ s => sep_keep [0, 0] rfl s) ?_
 refine TE.end0 rfl ?_
 exact congrArg (fun q => [blkA r (RepT.cells x) 104, outP ob q]) (show l ++ [SaidT.mk ((x.id + 1) % 5) (MsgT.mk 0 x.id x.own 0 0 BallotT.zero BallotT.zero ChangeT.zero ViewT.zero)] ++ [SaidT.mk ((x.id + 2) % 5) (MsgT.mk 0 x.id x.own 0 0 BallotT.zero BallotT.zero ChangeT.zero ViewT.zero)] = l ++ tellL x by rw [tellL, witL, if_pos hid]; simp [bit0, rowMsg, MsgT.zero, *])
 refine nx J12 ?_
 clear J12
 refine TC.no rfl ?_
 refine TC.skip ?_
 refine TE.blockEnd ?_
 refine TE.next J10 ?_
 clear J10
 refine TC.region ?_
 refine tp (PV.add (r := 2) rfl rfl rfl (by decide)) ?_
 refine mv ?_
 refine TL.nil ?_
 refine TE.again ?_
 refine sr fun _ J15 => ?_
 refine tp (PV.lss rfl rfl rfl) ?_
 refine nx J15 ?_
 clear J15
 refine TC.seq fun _ J16 => ?_
 refine TC.no rfl ?_
 refine TC.exit ?_
 refine TE.pass ?_
 clear J16
 refine TE.pass ?_
 refine TE.hit ?_
 refine TE.weak (Sub.refl _) (fun _ s => sep_keep [0, 0] rfl s) ?_
 refine TE.end0 rfl ?_
 exact congrArg (fun q => [blkA r (RepT.cells x) 104, outP ob q]) (show l ++ [SaidT.mk ((x.id + 1) % 5) (MsgT.mk 0 x.id x.own 0 0 BallotT.zero BallotT.zero ChangeT.zero ViewT.zero)] = l ++ tellL x by rw [tellL, witL, if_pos hid]; simp [bit0, rowMsg, MsgT.zero, *])
 refine nx J7 ?_
 clear J7
 refine TC.no rfl ?_
 refine TC.skip ?_
 refine TE.blockEnd ?_
 refine TE.next J5 ?_
 clear J5
 refine TC.region ?_
 refine tp (PV.add (r := 1) rfl rfl rfl (by decide)) ?_
 refine mv ?_
 refine TL.nil ?_
 refine TE.again ?_
 refine sr fun _ J17 => ?_
 refine tp (PV.lss rfl rfl rfl) ?_
 refine nx J17 ?_
 clear J17
 refine TC.seq fun _ J18 => ?_
 refine TC.yes rfl ?_
 refine TC.skip ?_
 refine TE.next J18 ?_
 clear J18
 refine TC.seq fun _ J19 => ?_
 refine TC.block ?_
 refine sr fun _ J20 => ?_
 refine tp (PV.indexSlV (r := 1) hvw rfl Tryz.underlying74 sz3 rfl rfl (by omega) (by omega) rfl) ?_
 refine tp (PV.load1X (v := (.int .i64 (((x.id + 2) % 5)))) rfl Tryz.underlying3 rfl rfl (RdX.own 0 rfl hvw rfl) rfl) ?_
 refine sg' ?_
 refine nx J20 ?_
 clear J20
 refine sr fun _ J21 => ?_
 refine mv ?_
 refine tp (PV.nilCheck rfl rfl) ?_
 refine tp (PV.fieldAddr (r := 1939) rfl Tryz.underlying104 rfl sz3 rfl rfl) ?_
 refine tp (PV.load1 (v := (.int .i64 (x.kept))) rfl Tryz.underlying3 rfl rfl (Rd.own 2 rfl rfl) (RepT.at_kept x rfl)) ?_
 refine mv ?_
 refine tp (PV.shr (r := (x.kept.fdiv (2 ^ min (((x.id + 2) % 5)).toNat IntKind.i64.bits))) rfl rfl rfl (by omega) rfl) ?_
 refine tp (PV.and (r := ((x.kept.fdiv (2 ^ min (((x.id + 2) % 5)).toNat IntKind.i64.bits)) % 2)) rfl rfl rfl (mask (k := 1) (by decide) _)) ?_
 refine tp (PV.eql rfl rfl rfl) ?_
 refine TL.dec (fun h33 => ?_) (fun h33 => ?_)
 refine nx J21 ?_
 clear J21
 refine TC.yes rfl ?_
 refine TC.region ?_
 refine mv ?_
 refine mv ?_
 refine mv ?_
 refine tp (PV.loadN (vs := ints (MsgT.mk 0 x.id x.own 0 0 BallotT.zero BallotT.zero ChangeT.zero ViewT.zero).flat) rfl Tryz.underlying54 rfl sz54 rfl (Rd.own 1 rfl rfl) (MsgT.len (MsgT.mk 0 x.id x.own 0 0 BallotT.zero BallotT.zero ChangeT.zero ViewT.zero)) (whole (MsgT.len (MsgT.mk 0 x.id x.own 0 0 BallotT.zero BallotT.zero ChangeT.zero ViewT.zero)))) ?_
 refine TL.callR (A := [blkA r (RepT.cells x) 104, outP ob (l)]) (Want.plain rfl) rfl rfl rfl nm79 rfl (send_does r ob x ((x.id + 2) % 5) (MsgT.mk 0 x.id x.own 0 0 BallotT.zero BallotT.zero ChangeT.zero ViewT.zero) (l) (by first | omega | (simp only [List.length_append, List.length_cons, List.length_nil]; omega)) (by omega)) (fun _ s => sep_selR [2, 2] rfl s) (fun _ _ _ => trivial) (fun vR HR hR => ?_)
 obtain rfl := hR
 change TL _ _ _ _ _ _ _ _ _ [blkA r (RepT.cells x) 104, outP ob (l ++ [SaidT.mk ((x.id + 2) % 5) (MsgT.mk 0 x.id x.own 0 0 BallotT.zero BallotT.zero ChangeT.zero ViewT.zero)]), own uw (2) ([.int .i64 ((x.id + 1) % 5), .int .i64 ((x.id + 2) % 5)]) 3 1, blkA b4 (ints (MsgT.mk 0 x.id x.own 0 0 BallotT.zero BallotT.zero ChangeT.zero ViewT.zero).flat) 54]
 refine TL.nil ?_
 refine TE.blockEnd ?_
 refine TE.next J19 ?_
 clear J19
 refine TC.region ?_
 refine tp (PV.add (r := 2) rfl rfl rfl (by decide)) ?_
 refine mv ?_
 refine TL.nil ?_
 refine TE.again ?_
 refine sr fun _ J22 => ?_
 refine tp (PV.lss rfl rfl rfl) ?_
 refine nx J22 ?_
 clear J22
 refine TC.seq fun _ J23 => ?_
 refine TC.no rfl ?_
 refine TC.exit ?_
 refine TE.pass ?_
 clear J23
 refine TE.pass ?_
 refine TE.hit ?_
 refine TE.weak (Sub.refl _) (fun _ s => sep_keep [0, 0] rfl s) ?_
 refine TE.end0 rfl ?_
 exact congrArg (fun q => [blkA r (RepT.cells x) 104, outP ob q]) (show l ++ [SaidT.mk ((x.id + 2) % 5) (MsgT.mk 0 x.id x.own 0 0 BallotT.zero BallotT.zero ChangeT.zero ViewT.zero)] = l ++ tellL x by rw [tellL, witL, if_pos hid]; simp [bit0, rowMsg, MsgT.zero, *])
 refine nx J21 ?_
 clear J21
 refine TC.no rfl ?_
 refine TC.skip ?_
 refine TE.blockEnd ?_
 refine TE.next J19 ?_
 clear J19
 refine TC.region ?_
 refine tp (PV.add (r := 2) rfl rfl rfl (by decide)) ?_
 refine mv ?_
 refine TL.nil ?_
 refine TE.again ?_
 refine sr fun _ J24 => ?_
 refine tp (PV.lss rfl rfl rfl) ?_
 refine nx J24 ?_
 clear J24
 refine TC.seq fun _ J25 => ?_
 refine TC.no rfl ?_
 refine TC.exit ?_
 refine TE.pass ?_
 clear J25
 refine TE.pass ?_
 refine TE.hit ?_
 refine TE.weak (Sub.refl _) (fun _ s => sep_keep [2, 2] rfl s) ?_
 refine TE.end0 rfl ?_
 exact congrArg (fun q => [blkA r (RepT.cells x) 104, outP ob q]) (show l = l ++ tellL x by rw [tellL, witL, if_pos hid]; simp [bit0, rowMsg, MsgT.zero, *])
 exact AllT.nil
 exact AllT.nil
theorem tellNews_does (r ob : Nat) (x : RepT) (y : RowT) (l : List SaidT) (hl : l.length ≤ 900000) :
    Does Tryz.prog 63 #[(.pointer (some ⟨r, 0, none⟩)), (.iface 34 (.pointer (some ⟨ob, 0, none⟩))), (.agg (ints y.flat).toArray)] (fun _ => True) [blkA r (RepT.cells x) 104, outP ob (l)] (Ret (fun _ H => H = [blkA r (RepT.cells x) 104, outP ob (l ++ newsL x.id y)])) := by
 refine Does.body (vs := [(.pointer (some ⟨r, 0, none⟩)), (.iface 34 (.pointer (some ⟨ob, 0, none⟩))), (.agg (ints y.flat).toArray)]) (n := 27) Tryz.func63 rfl rfl rfl (fun w0 F hF => ?_)
 refine sr fun _ J1 => ?_
 refine TL.box (Want.plain rfl) rfl rfl rfl rfl (fun b5 => ?_)
 change TL _ _ _ _ _ _ _ _ _ [blkA b5 (ints y.flat) 48, blkA r (RepT.cells x) 104, outP ob (l)]
 refine nx J1 ?_
 refine sr fun _ J2 => ?_
 refine mv ?_
 refine nx J2 ?_
 refine TC.block ?_
 refine TC.loop (α := (Nat)) (fun k => k ≤ 5) (fun k => [(0, (.pointer (some ⟨r, 0, none⟩))), (1, (.iface 34 (.pointer (some ⟨ob, 0, none⟩)))), (5, (.pointer (some ⟨b5, 0, none⟩))), (7, (.int .i64 (((k : Nat) : Int))))]) (fun k => [blkA b5 (ints y.flat) 48, blkA r (RepT.cells x) 104, outP ob (l ++ newsTo x.id y k)]) (fun k => 5 - k) 0
     (Nat.zero_le _) (Sub.r (Sub.r (Sub.r (Sub.cons rfl (by congr 1) (Sub.nil _)))))
     (fun _ s => by simpa [newsTo] using s) (fun k hinv => ?_)
 obtain hk := hinv
 have hnl : (newsTo x.id y k).length ≤ k := by unfold newsTo; rw [List.length_map]; exact Nat.le_trans (List.length_filter_le _ _) (by simp)
 refine sr fun _ J3 => ?_
 refine tp (PV.lss rfl rfl rfl) ?_
 refine TL.dec (fun h8 => ?_) (fun h8 => ?_)
 refine nx J3 ?_
 refine TC.seq fun _ J4 => ?_
 refine TC.yes rfl ?_
 refine TC.skip ?_
 refine TE.next J4 ?_
 refine TC.seq fun _ J5 => ?_
 refine TC.block ?_
 refine sr fun _ J6 => ?_
 refine mv ?_
 refine sg' ?_
 refine nx J6 ?_
 refine sr fun _ J7 => ?_
 refine mv ?_
 refine mv ?_
 refine tp (PV.nilCheck rfl rfl) ?_
 refine tp (PV.fieldAddr (r := 0) rfl Tryz.underlying104 rfl sz3 rfl rfl) ?_
 refine tp (PV.load1 (v := (.int .i64 (x.id))) rfl Tryz.underlying3 rfl rfl (Rd.own 1 rfl rfl) (RepT.at_id x rfl)) ?_
 refine tp (PV.neq rfl rfl rfl) ?_
 refine TL.dec (fun h15 => ?_) (fun h15 => ?_)
 refine nx J7 ?_
 refine TC.yes rfl ?_
 refine TC.draw (fun w => Frm F w ∧ w.heap[r]? = some (.cells (RepT.cells x).toArray 104 (0, 0)) ∧ w.heap[b5]? = some (.cells (ints y.flat).toArray 48 (0, 0)) ∧ True) mixed rfl (fun _ s => ⟨Frm.of s, s.block 1 (lb rfl) rfl, s.block 0 (lb rfl) rfl, trivial⟩) ?_
 refine ta 0 rfl (PV.move rfl rfl) ?_
 refine ta 1 rfl (PV.move rfl rfl) ?_
 refine ta 2 rfl (PV.move rfl rfl) ?_
 refine ta 3 rfl (PV.move rfl rfl) ?_
 refine ta 4 rfl (PV.nilCheck rfl rfl) ?_
 refine ta 5 rfl (PV.fieldAddr (r := 0) rfl Tryz.underlying104 rfl sz3 rfl rfl) ?_
 refine ta 6 rfl (PV.load1 (v := (.int .i64 (x.id))) rfl Tryz.underlying3 rfl rfl (fun _ h => h.2.1) (RepT.at_id x rfl)) ?_
 refine ta 7 rfl (PV.loadN (vs := ints y.flat) rfl Tryz.underlying48 rfl sz48 rfl (fun _ h => h.2.2.1) (RowT.len y) (whole (RowT.len y))) ?_
 refine ta 8 rfl (PV.buildSegs (cs := ints (MsgT.mk 2 x.id y 0 0 BallotT.zero BallotT.zero ChangeT.zero ViewT.zero).flat) (segs := [[Value.int .i64 0], [Value.int .i64 0], ints RowT.zero.flat, [Value.int .i64 0], [Value.int .i64 0], ints BallotT.zero.flat, ints BallotT.zero.flat, ints ChangeT.zero.flat, ints ViewT.zero.flat]) (res := [[Value.int .i64 2], [Value.int .i64 x.id], ints y.flat, [Value.int .i64 0], [Value.int .i64 0], ints BallotT.zero.flat, ints BallotT.zero.flat, ints ChangeT.zero.flat, ints ViewT.zero.flat]) (parts := [(0, [Value.int .i64 2]), (1, [Value.int .i64 x.id]), (2, ints y.flat)]) rfl rfl Tryz.underlying54 (by kernel_rfl) (by kernel_rfl) rfl (putSegs_step rfl ((rfl : [Value.int .i64 2].length = 1).trans (rfl : [Value.int .i64 0].length = 1).symm) (putSegs_step rfl ((rfl : [Value.int .i64 x.id].length = 1).trans (rfl : [Value.int .i64 0].length = 1).symm) (putSegs_step rfl ((RowT.len y).trans (RowT.len RowT.zero).symm) putSegs_nil))) (MsgT.eq (MsgT.mk 2 x.id y 0 0 BallotT.zero BallotT.zero ChangeT.zero ViewT.zero)).symm) ?_
 refine TD.all [9] (by kernel_rfl) rfl ?_
 refine AllT.cons rfl ?_ ?_
 refine TL.callR (A := [blkA r (RepT.cells x) 104, outP ob (l ++ newsTo x.id y k)]) (Want.plain rfl) rfl rfl rfl nm79 rfl (send_does r ob x ((k : Nat) : Int) (MsgT.mk 2 x.id y 0 0 BallotT.zero BallotT.zero ChangeT.zero ViewT.zero) (l ++ newsTo x.id y k) (by simp only [List.length_append]; omega) h15) (fun _ s => sep_selR [1, 1] rfl s) (fun _ _ _ => trivial) (fun vR HR hR => ?_)
 obtain rfl := hR
 change TL _ _ _ _ _ _ _ _ _ [blkA r (RepT.cells x) 104, outP ob (l ++ newsTo x.id y k ++ [SaidT.mk ((k : Nat) : Int) (MsgT.mk 2 x.id y 0 0 BallotT.zero BallotT.zero ChangeT.zero ViewT.zero)]), blkA b5 (ints y.flat) 48]
 refine TL.nil ?_
 refine TE.draw (fun _ s => ⟨Frm.of s, s.block 0 (lb rfl) rfl, s.block 2 (lb rfl) rfl, trivial⟩) ?_
 refine TD.done (by kernel_rfl) ?_
 refine TE.blockEnd ?_
 refine TE.next J5 ?_
 refine TC.region ?_
 refine tp (PV.add rfl rfl rfl (wrap_i64 (by omega) (by omega))) ?_
 refine mv ?_
 refine TL.nil ?_
 exact TE.round ((k + 1) : (Nat)) (by omega) (by show 5 - (k + 1) < 5 - k; omega)
   (Sub.r (Sub.r (Sub.r (Sub.cons rfl (by simp) (Sub.nil _)))))
   (fun _ s => by
      show sep [blkA b5 (ints y.flat) 48, blkA r (RepT.cells x) 104, outP ob (l ++ newsTo x.id y (k + 1))] _
      rw [newsTo_succ, if_neg h15]
      rw [← List.append_assoc]
      exact sep_keep [2, 0, 0] rfl s)
 exact AllT.nil
 refine nx J7 ?_
 refine TC.no rfl ?_
 refine TC.skip ?_
 refine TE.blockEnd ?_
 refine TE.next J5 ?_
 refine TC.region ?_
 refine tp (PV.add rfl rfl rfl (wrap_i64 (by omega) (by omega))) ?_
 refine mv ?_
 refine TL.nil ?_
 exact TE.round ((k + 1) : (Nat)) (by omega) (by show 5 - (k + 1) < 5 - k; omega)
   (Sub.r (Sub.r (Sub.r (Sub.cons rfl (by simp) (Sub.nil _)))))
   (fun _ s => by
      show sep [blkA b5 (ints y.flat) 48, blkA r (RepT.cells x) 104, outP ob (l ++ newsTo x.id y (k + 1))] _
      rw [newsTo_succ, if_pos (by omega)]
      rw [List.append_nil]
      exact sep_keep [0, 0, 0] rfl s)
 refine nx J3 ?_
 refine TC.seq fun _ J8 => ?_
 refine TC.no rfl ?_
 refine TC.exit ?_
 refine TE.pass ?_
 refine TE.pass ?_
 refine TE.hit ?_
 refine TE.weak (Sub.refl _) (fun _ s => sep_keep [1, 1] rfl s) ?_
 refine TE.end0 rfl ?_
 obtain rfl : k = 5 := by omega
 exact rfl
theorem due0_does (r : Nat) (x : RepT) (hal : Alone x) :
    Does Tryz.prog 88 #[(.pointer (some ⟨r, 0, none⟩))] (fun _ => True) [blkA r (RepT.cells x) 104] (Ret (fun r' H => r' = .slice none 0 0 ∧ H = [blkA r (RepT.cells x) 104])) := by
 refine Does.body (vs := [(.pointer (some ⟨r, 0, none⟩))]) (n := 44) Tryz.func88 rfl rfl rfl (fun w0 F hF => ?_)
 refine sr fun _ J1 => ?_
 refine sg' ?_
 refine nx J1 ?_
 refine sr fun _ J2 => ?_
 refine sg' ?_
 refine nx J2 ?_
 refine TC.seq fun _ J3 => ?_
 refine sr fun _ J4 => ?_
 refine mv ?_
 refine nx J4 ?_
 refine TC.block ?_
 refine TC.loop (α := (Nat)) (fun k => k ≤ 5) (fun k => [(0, (.pointer (some ⟨r, 0, none⟩))), (2, (.slice none 0 0)), (3, (.slice none 0 0)), (7, (.int .i64 (((k : Nat) : Int))))]) (fun k => [blkA r (RepT.cells x) 104]) (fun k => 5 - k) 0
     (Nat.zero_le _) (Sub.r (Sub.r (Sub.r (Sub.cons rfl (by congr 1) (Sub.nil _)))))
     (fun _ s => s) (fun k hinv => ?_)
 obtain hk := hinv
 refine sr fun _ J5 => ?_
 refine tp (PV.lss rfl rfl rfl) ?_
 refine TL.dec (fun h8 => ?_) (fun h8 => ?_)
 refine nx J5 ?_
 refine TC.seq fun _ J6 => ?_
 refine TC.yes rfl ?_
 refine TC.skip ?_
 refine TE.next J6 ?_
 refine TC.seq fun _ J7 => ?_
 refine TC.block ?_
 refine sr fun _ J8 => ?_
 refine mv ?_
 refine sg' ?_
 refine nx J8 ?_
 refine sr fun _ J9 => ?_
 refine mv ?_
 refine tp (PV.nilCheck rfl rfl) ?_
 refine tp (PV.fieldAddr (r := 2) rfl Tryz.underlying104 rfl sz52 rfl rfl) ?_
 refine tp (PV.loadN (vs := ints x.view.flat) rfl Tryz.underlying52 rfl sz52 rfl (Rd.own 0 rfl rfl) (ViewT.len x.view) (RepT.sub_view x 0 rfl (by decide) (whole (ViewT.len x.view)))) ?_
 refine mv ?_
 refine TL.callR (A := []) (Want.plain rfl) rfl rfl rfl nm54 rfl (heir_does x.view ((k : Nat) : Int) hal.1) (fun _ s => s) (fun _ _ _ => trivial) (fun vR HR hR => ?_)
 obtain ⟨rfl, rfl⟩ := hR
 change TL _ _ _ _ _ _ _ _ _ [blkA r (RepT.cells x) 104]
 refine mv ?_
 refine tp (PV.extract (vs := [(.int .i64 (((heirV x.view ((k : Nat) : Int)).getD 0))), (.bool ((heirV x.view ((k : Nat) : Int)).isSome))]) rfl rfl rfl) ?_
 refine tp (PV.extract (vs := [(.int .i64 (((heirV x.view ((k : Nat) : Int)).getD 0))), (.bool ((heirV x.view ((k : Nat) : Int)).isSome))]) rfl rfl rfl) ?_
 refine TL.decB (fun h18 => ?_) (fun h18 => ?_)
 refine sg' ?_
 refine sg' ?_
 refine nx J9 ?_
 refine sr fun _ J10 => ?_
 refine mv ?_
 refine mv ?_
 refine tq (PV.move rfl rfl) ?_
 refine tq (PV.move rfl rfl) ?_
 refine tq (PV.nilCheck rfl rfl) ?_
 refine tq (PV.fieldAddr (r := 0) rfl Tryz.underlying104 rfl sz3 rfl rfl) ?_
 refine tq (PV.load1 (v := (.int .i64 (x.id))) rfl Tryz.underlying3 rfl rfl (Rd.own 0 rfl rfl) (RepT.at_id x rfl)) ?_
 refine tq (PV.eql rfl rfl rfl) ?_
 refine TL.dec (fun h26 => ?_) (fun h26 => ?_)
 · exact absurd (by cases hq : heirV x.view ((k : Nat) : Int) with | none => rw [hq] at h18; cases h18 | some z => rw [hq] at h26; rw [← h26]; rfl) (hal.2 k (by omega))
 refine tp (PV.pick rfl rfl rfl) ?_
 refine mv ?_
 refine TL.unmet (b := false) rfl rfl rfl rfl (lb rfl) ?_
 refine TL.unmet (b := false) rfl rfl rfl rfl (lb rfl) ?_
 refine TL.unmet (b := false) rfl rfl rfl rfl (lb rfl) ?_
 refine TL.unmet (b := false) rfl rfl rfl rfl (lb rfl) ?_
 refine TL.unmet (b := false) rfl rfl rfl rfl (lb rfl) ?_
 refine TL.unmet (b := false) rfl rfl rfl rfl (lb rfl) ?_
 refine TL.unmet (b := false) rfl rfl rfl rfl (lb rfl) ?_
 refine TL.unmet (b := false) rfl rfl rfl rfl (lb rfl) ?_
 refine tp (PV.pick rfl rfl rfl) ?_
 refine nx J10 ?_
 refine TC.no rfl ?_
 refine TC.skip ?_
 refine TE.blockEnd ?_
 refine TE.next J7 ?_
 refine TC.region ?_
 refine tp (PV.add rfl rfl rfl (wrap_i64 (by omega) (by omega))) ?_
 refine mv ?_
 refine TL.nil ?_
 exact TE.round ((k + 1) : (Nat)) (by omega) (by show 5 - (k + 1) < 5 - k; omega)
   (Sub.r (Sub.r (Sub.r (Sub.cons rfl (by simp) (Sub.nil _)))))
   (fun _ s => s)
 refine sg' ?_
 refine sg' ?_
 refine nx J9 ?_
 refine sr fun _ J11 => ?_
 refine mv ?_
 refine mv ?_
 refine TL.unmet (b := false) rfl rfl rfl rfl (lb rfl) ?_
 refine TL.unmet (b := false) rfl rfl rfl rfl (lb rfl) ?_
 refine TL.unmet (b := false) rfl rfl rfl rfl (lb rfl) ?_
 refine TL.unmet (b := false) rfl rfl rfl rfl (lb rfl) ?_
 refine TL.unmet (b := false) rfl rfl rfl rfl (lb rfl) ?_
 refine TL.unmet (b := false) rfl rfl rfl rfl (lb rfl) ?_
 refine tp (PV.pick rfl rfl rfl) ?_
 refine mv ?_
 refine TL.unmet (b := false) rfl rfl rfl rfl (lb rfl) ?_
 refine TL.unmet (b := false) rfl rfl rfl rfl (lb rfl) ?_
 refine TL.unmet (b := false) rfl rfl rfl rfl (lb rfl) ?_
 refine TL.unmet (b := false) rfl rfl rfl rfl (lb rfl) ?_
 refine TL.unmet (b := false) rfl rfl rfl rfl (lb rfl) ?_
 refine TL.unmet (b := false) rfl rfl rfl rfl (lb rfl) ?_
 refine TL.unmet (b := false) rfl rfl rfl rfl (lb rfl) ?_
 refine TL.unmet (b := false) rfl rfl rfl rfl (lb rfl) ?_
 refine tp (PV.pick rfl rfl rfl) ?_
 refine nx J11 ?_
 refine TC.no rfl ?_
 refine TC.skip ?_
 refine TE.blockEnd ?_
 refine TE.next J7 ?_
 refine TC.region ?_
 refine tp (PV.add rfl rfl rfl (wrap_i64 (by omega) (by omega))) ?_
 refine mv ?_
 refine TL.nil ?_
 exact TE.round ((k + 1) : (Nat)) (by omega) (by show 5 - (k + 1) < 5 - k; omega)
   (Sub.r (Sub.r (Sub.r (Sub.cons rfl (by simp) (Sub.nil _)))))
   (fun _ s => s)
 refine nx J5 ?_
 refine TC.seq fun _ J12 => ?_
 refine TC.no rfl ?_
 refine TC.exit ?_
 refine TE.pass ?_
 refine TE.pass ?_
 refine TE.hit ?_
 refine TE.next J3 ?_
 refine sr fun _ J13 => ?_
 refine mv ?_
 refine sg' ?_
 refine nx J13 ?_
 refine TC.ret ?_
 refine TE.weak (Sub.refl _) (fun _ s => sep_keep [0] rfl s) ?_
 refine TE.ret1 rfl rfl ?_
 exact ⟨rfl, rfl⟩
theorem comeInto0_does (r ob : Nat) (x : RepT) (l : List SaidT) (hal : Alone x) :
    Does Tryz.prog 59 #[(.pointer (some ⟨r, 0, none⟩)), (.iface 34 (.pointer (some ⟨ob, 0, none⟩)))] (fun _ => True) [blkA r (RepT.cells x) 104, outP ob (l)] (Ret (fun _ H => H = [blkA r (RepT.cells x) 104, outP ob l])) := by
 refine Does.body (vs := [(.pointer (some ⟨r, 0, none⟩)), (.iface 34 (.pointer (some ⟨ob, 0, none⟩)))]) (n := 80) Tryz.func59 rfl rfl rfl (fun w0 F hF => ?_)
 refine sr fun _ J1 => ?_
 refine mv ?_
 refine TL.callR (A := [blkA r (RepT.cells x) 104]) (Want.plain rfl) rfl rfl rfl nm88 rfl (due0_does r x hal) (fun _ s => s) (fun _ _ _ => trivial) (fun vR HR hR => ?_)
 obtain ⟨rfl, rfl⟩ := hR
 change TL _ _ _ _ _ _ _ _ _ [blkA r (RepT.cells x) 104, outP ob (l)]
 refine sg' ?_
 refine nx J1 ?_
 refine TC.seq fun _ J2 => ?_
 refine sr fun _ J3 => ?_
 refine mv ?_
 refine tp (PV.nilCheck rfl rfl) ?_
 refine tp (PV.fieldAddr (r := 1938) rfl Tryz.underlying104 rfl sz4 rfl rfl) ?_
 refine tp (PV.load1 (v := (.bool (x.busy))) rfl Tryz.underlying4 rfl rfl (Rd.own 0 rfl rfl) (RepT.at_busy x rfl)) ?_
 refine TL.decB (fun h19 => ?_) (fun h19 => ?_)
 refine mv ?_
 refine TL.unmet (b := true) rfl rfl rfl rfl (lb rfl) ?_
 refine TL.unmet (b := true) rfl rfl rfl rfl (lb rfl) ?_
 refine TL.unmet (b := true) rfl rfl rfl rfl (lb rfl) ?_
 refine tp (PV.pick rfl rfl rfl) ?_
 refine nx J3 ?_
 refine TC.yes rfl ?_
 refine TC.ret ?_
 refine TE.passRet ?_
 refine TE.weak (Sub.refl _) (fun _ s => sep_keep [0, 0] rfl s) ?_
 refine TE.ret0 rfl ?_
 exact rfl
 refine mv ?_
 refine tq (PV.move rfl rfl) ?_
 refine tq (PV.lenSl rfl Tryz.underlying74 rfl) ?_
 refine tq (PV.eql rfl rfl rfl) ?_
 refine tp (PV.pick rfl rfl rfl) ?_
 refine nx J3 ?_
 refine TC.yes rfl ?_
 refine TC.ret ?_
 refine TE.passRet ?_
 refine TE.weak (Sub.refl _) (fun _ s => sep_keep [0, 0] rfl s) ?_
 refine TE.ret0 rfl ?_
 exact rfl
theorem claim0_does (r ob : Nat) (x : RepT) (l : List SaidT) (hal : Alone x) :
    Does Tryz.prog 60 #[(.pointer (some ⟨r, 0, none⟩)), (.iface 34 (.pointer (some ⟨ob, 0, none⟩)))] (fun _ => True) [blkA r (RepT.cells x) 104, outP ob (l)] (Ret (fun _ H => H = [blkA r (RepT.cells x) 104, outP ob l])) := by
 refine Does.body (vs := [(.pointer (some ⟨r, 0, none⟩)), (.iface 34 (.pointer (some ⟨ob, 0, none⟩)))]) (n := 39) Tryz.func60 rfl rfl rfl (fun w0 F hF => ?_)
 refine sr fun _ J1 => ?_
 refine mv ?_
 refine TL.callR (A := [blkA r (RepT.cells x) 104]) (Want.plain rfl) rfl rfl rfl nm88 rfl (due0_does r x hal) (fun _ s => s) (fun _ _ _ => trivial) (fun vR HR hR => ?_)
 obtain ⟨rfl, rfl⟩ := hR
 change TL _ _ _ _ _ _ _ _ _ [blkA r (RepT.cells x) 104, outP ob (l)]
 refine tp (PV.lenSl rfl Tryz.underlying74 rfl) ?_
 refine mv ?_
 refine nx J1 ?_
 refine TC.block ?_
 refine TC.unroll 1 ?_
 refine sr fun _ J2 => ?_
 refine tp (PV.lss rfl rfl rfl) ?_
 refine nx J2 ?_
 refine TC.seq fun _ J3 => ?_
 refine TC.no rfl ?_
 refine TC.exit ?_
 refine TE.pass ?_
 refine TE.pass ?_
 refine TE.hit ?_
 refine TE.weak (Sub.refl _) (fun _ s => sep_keep [0, 0] rfl s) ?_
 refine TE.end0 rfl ?_
 exact rfl
end Go.Proofs.YtfceaphohlbnbaaGreat
end

section
namespace Wal
open Go Leg Codec Api Dsk

/-! ### What a disk reads -/
theorem sget_lay (s ws : Secs) (j : Int) : ∀ k, sget (layN s ws k) j = readN s ws j k
  | 0 => rfl
  | k + 1 => by
    rw [layN, readN, sget_put, sget_lay s ws j k]
    by_cases h : j = (wat ws k).1
    · rw [if_pos h, if_pos h.symm]
    · rw [if_neg h, if_neg (fun q => h q.symm)]
theorem wat_left {ws x : Secs} {k : Nat} (h : k < ws.length) : wat (ws ++ x) k = wat ws k := by simp [wat, List.getD_eq_getElem?_getD, List.getElem?_append_left h]
theorem readN_left {s ws x : Secs} {j : Int} : ∀ k, k ≤ ws.length → readN s (ws ++ x) j k = readN s ws j k
  | 0, _ => rfl
  | k + 1, h => by rw [readN, readN, wat_left (by omega), readN_left k (by omega)]
theorem readN_add (s ws : Secs) (p : Int × Sec) (j : Int) : readN s (ws ++ [p]) j (ws ++ [p]).length = if j = p.1 then p.2 else readN s ws j ws.length := by
  rw [List.length_append, List.length_cons, List.length_nil, Nat.zero_add, readN, readN_left _ (Nat.le_refl _)]
  have : wat (ws ++ [p]) ws.length = p := by simp [wat, List.getD_eq_getElem?_getD]
  rw [this]
  by_cases h : j = p.1
  · rw [if_pos h, if_pos h.symm]
  · rw [if_neg h, if_neg (fun q => h q.symm)]
def putD (D : DS) (at' : Int) (bs : List UInt8) : DS := { D with ws := D.ws ++ [(at', padS bs)], lf := if D.ar = true then D.lf - 1 else D.lf, dn := false }
theorem write_putD {D : DS} {at' : Int} {bs : List UInt8} (h1 : 0 ≤ at' ∧ at' < 2048) (h2 : bs.length ≤ 64) (h3 : D.dn = false) (h4 : D.ar = false ∨ 0 < D.lf) : D.write at' bs = (0, putD D at' bs) := by
  rw [DS.write, if_neg (by omega), if_neg]
  · rfl
  · rintro (h | ⟨h, h5⟩)
    · rw [h3] at h; cases h
    · rcases h4 with h4 | h4
      · rw [h4] at h; cases h
      · omega
theorem write_down {D : DS} {at' : Int} {bs : List UInt8} (h1 : 0 ≤ at' ∧ at' < 2048) (h2 : bs.length ≤ 64) (h4 : D.ar = true ∧ D.lf = 0) : D.write at' bs = (4, { D with dn := true }) := by
  rw [DS.write, if_neg (by omega), if_pos (.inr h4)]
theorem putD_read (D : DS) (at' : Int) (bs : List UInt8) (j : Int) : (putD D at' bs).read j = if j = at' then padS bs else D.read j := readN_add _ _ _ _
theorem putD_ok {D : DS} (h : D.Ok) {at' : Int} {bs : List UInt8} (h2 : bs.length ≤ 64) (h4 : D.ar = false ∨ 0 < D.lf) : (putD D at' bs).Ok := by
  refine ⟨h.s, h.ws.add _ (padS_len h2), ?_⟩
  have := h.lf
  show 0 ≤ (if D.ar = true then D.lf - 1 else D.lf) ∧ (if D.ar = true then D.lf - 1 else D.lf) ≤ 9223372036854775807
  split
  · rename_i h5
    rcases h4 with h4 | h4
    · rw [h4] at h5; cases h5
    · omega
  · exact this
theorem putD_in {D : DS} (h : Wal.DS.In D) {at' : Int} {bs : List UInt8} (h1 : 0 ≤ at' ∧ at' < 2048) : Wal.DS.In (putD D at' bs) := ⟨h.1, fun p hp => by
  rcases List.mem_append.1 hp with hp | hp
  · exact h.2 p hp
  · simp only [List.mem_singleton] at hp; subst hp; exact h1⟩
theorem In.put {s : Secs} (h : In s) {k : Int} {v : Sec} (h1 : 0 ≤ k ∧ k < 2048) : In (sput s k v) := by
  induction s with
  | nil => intro p hp; simp only [sput, List.mem_singleton] at hp; subst hp; exact h1
  | cons p s ih =>
    obtain ⟨a, b⟩ := p
    intro q hq
    simp only [sput] at hq
    split at hq
    · rcases List.mem_cons.1 hq with rfl | hq
      · exact h (a, b) (by simp)
      · exact h q (by simp [hq])
    · rcases List.mem_cons.1 hq with rfl | hq
      · exact h (a, b) (by simp)
      · exact ih (fun q hq => h q (by simp [hq])) q hq
theorem In.lay {s ws : Secs} (h : In s) (hw : In ws) : ∀ k, k ≤ ws.length → In (layN s ws k)
  | 0, _ => h
  | k + 1, hk => by
    have := hw (wat ws k) (by rw [wat_eq (by omega)]; exact List.getElem_mem _)
    exact (In.lay h hw k (by omega)).put this
theorem In.nil : In [] := fun _ h => absurd h (by simp)
structure Calm (D : DS) : Prop where
  ok : D.Ok
  inn : Wal.DS.In D
  ar : D.ar = false
  dn : D.dn = false
theorem Calm.new : Calm DS.new := ⟨DS.new_ok, ⟨In.nil, In.nil⟩, rfl, rfl⟩
theorem sync_read {D : DS} (h : D.dn = false) (j : Int) : D.sync.2.read j = D.read j := by
  unfold DS.sync
  rw [if_neg (by simp [h])]
  exact sget_lay _ _ _ _
theorem sync_zero {D : DS} (h : D.dn = false) : D.sync.1 = 0 ∧ D.sync.2.ws = [] ∧ D.sync.2.dn = false ∧ D.sync.2.ar = D.ar ∧ D.sync.2.lf = D.lf := by
  unfold DS.sync
  rw [if_neg (by simp [h])]
  exact ⟨rfl, rfl, h, rfl, rfl⟩
theorem sync_in {D : DS} (h : Wal.DS.In D) : Wal.DS.In D.sync.2 := by
  unfold DS.sync
  split
  · exact h
  · exact ⟨h.1.lay h.2 _ (Nat.le_refl _), In.nil⟩
theorem Calm.sync {D : DS} (h : Calm D) : Calm D.sync.2 := by
  obtain ⟨_, _, h3, h4, _⟩ := sync_zero h.dn
  exact ⟨DS.sync_ok h.ok, sync_in h.inn, h4.trans h.ar, h3⟩
theorem Calm.put {D : DS} (h : Calm D) {at' : Int} {bs : List UInt8} (h1 : 0 ≤ at' ∧ at' < 2048) (h2 : bs.length ≤ 64) : Calm (putD D at' bs) := ⟨putD_ok h.ok h2 (.inl h.ar), putD_in h.inn h1, h.ar, rfl⟩
theorem padS_nil : padS [] = zs := rfl

/-! ### Wiping -/
theorem wipe_spec : ∀ (n : Nat) (at' : Int) (D : DS), Calm D → 0 ≤ at' → at' + n ≤ 2048 → ∃ D', wipeP n at' D = (0, D') ∧ Calm D' ∧ ∀ j, D'.read j = if at' ≤ j ∧ j < at' + n then zs else D.read j
  | 0, at', D, h, _, _ => ⟨D, rfl, h, fun j => by rw [if_neg (by omega)]⟩
  | n + 1, at', D, h, h0, h1 => by
    by_cases hz : D.read at' = zs
    · obtain ⟨D', e, c, r⟩ := wipe_spec n (at' + 1) D h (by omega) (by omega)
      refine ⟨D', by rw [wipeP, if_pos hz, e], c, fun j => ?_⟩
      rw [r j]
      by_cases q : j = at'
      · subst q; rw [if_neg (by omega), if_pos (by omega), hz]
      · by_cases q2 : at' + 1 ≤ j ∧ j < at' + 1 + n
        · rw [if_pos q2, if_pos (by omega)]
        · rw [if_neg q2, if_neg (by omega)]
    · have hw := write_putD (D := D) (at' := at') (bs := []) (by omega) (by simp) h.dn (.inl h.ar)
      obtain ⟨D', e, c, r⟩ := wipe_spec n (at' + 1) (putD D at' []) (h.put (by omega) (by simp)) (by omega) (by omega)
      refine ⟨D', by rw [wipeP, if_neg hz, hw, if_pos rfl, e], c, fun j => ?_⟩
      rw [r j, putD_read, padS_nil]
      by_cases q : j = at'
      · subst q; rw [if_neg (by omega), if_pos rfl, if_pos (by omega)]
      · rw [if_neg q]
        by_cases q2 : at' + 1 ≤ j ∧ j < at' + 1 + n
        · rw [if_pos q2, if_pos (by omega)]
        · rw [if_neg q2, if_neg (by omega)]
theorem scan_used {D : DS} (h : Calm D) : 0 ≤ (scanP D.read fuel0 0 0).2 ∧ (scanP D.read fuel0 0 0).2 ≤ 2048 ∧ ((scanP D.read fuel0 0 0).1.length : Int) ≤ (scanP D.read fuel0 0 0).2 := by
  have key : ∀ f rs used, Scan D f rs used → ∃ rs' used', scanP D.read fuel0 0 0 = (rs', used') ∧ 0 ≤ used' ∧ used' ≤ 2048 ∧ (rs'.length : Int) ≤ used' := by
    intro f
    induction f with
    | zero =>
      intro rs used hs
      cases hst : standsP D.read ((rs.length : Int) + 1) used with
      | none => exact ⟨rs, used, hs.stop hst, hs.2.1, hs.2.2.1, hs.2.2.2.2⟩
      | some p => obtain ⟨b, all⟩ := p; obtain ⟨f', e, _⟩ := Scan.next h.inn h.ok hs hst; omega
    | succ f ih =>
      intro rs used hs
      cases hst : standsP D.read ((rs.length : Int) + 1) used with
      | none => exact ⟨rs, used, hs.stop hst, hs.2.1, hs.2.2.1, hs.2.2.2.2⟩
      | some p =>
        obtain ⟨b, all⟩ := p
        obtain ⟨f', e, hs'⟩ := Scan.next h.inn h.ok hs hst
        obtain rfl : f = f' := by omega
        exact ih _ _ hs'
  obtain ⟨rs, used, e, h1, h2, h3⟩ := key _ _ _ (Scan.start D)
  rw [e]; exact ⟨h1, h2, h3⟩
theorem open_calm {D : DS} (h : Calm D) : ∃ D', openP D = ⟨0, (scanP D.read fuel0 0 0).1, (scanP D.read fuel0 0 0).2, D'⟩ ∧ Calm D' ∧ D'.ws = [] ∧ ∀ j, D'.read j = if (scanP D.read fuel0 0 0).2 ≤ j ∧ j < 2048 then zs else D.read j := by
  obtain ⟨h1, h2, _⟩ := scan_used h
  generalize hr : scanP D.read fuel0 0 0 = r at *
  obtain ⟨rs, used⟩ := r
  simp only at h1 h2 ⊢
  obtain ⟨D', e, c, rd⟩ := wipe_spec (2048 - used).toNat used D h h1 (by omega)
  obtain ⟨s1, s2, _⟩ := sync_zero c.dn
  refine ⟨D'.sync.2, open_ok hr e s1, c.sync, s2, fun j => ?_⟩
  rw [sync_read c.dn, rd j]
  by_cases q : used ≤ j ∧ j < 2048
  · rw [if_pos q, if_pos (by omega)]
  · rw [if_neg q, if_neg (by omega)]

/-! ### Records laid -/
def flatS : Nat → List (List UInt8) → List Sec
  | _, [] => []
  | n, b :: ls => sectorsP ((n + 1 : Nat) : Int) b ++ flatS (n + 1) ls
def sizeS (ls : List (List UInt8)) : Nat := (flatS 0 ls).length
theorem flatS_append : ∀ (a : List (List UInt8)) (n : Nat) (b : List (List UInt8)), flatS n (a ++ b) = flatS n a ++ flatS (n + a.length) b
  | [], n, b => by simp [flatS]
  | x :: a, n, b => by
    simp only [List.cons_append, flatS, flatS_append a (n + 1) b, List.append_assoc, List.length_cons]
    rw [show n + 1 + a.length = n + (a.length + 1) by omega]
theorem flatS_len : ∀ (ls : List (List UInt8)) (n m : Nat), (flatS n ls).length = (flatS m ls).length
  | [], _, _ => rfl
  | b :: ls, n, m => by simp only [flatS, List.length_append, sectorsP_len, flatS_len ls (n + 1) (m + 1)]
theorem sizeS_add (ls : List (List UInt8)) (b : List UInt8) : sizeS (ls ++ [b]) = sizeS ls + piecesN b.length := by
  simp [sizeS, flatS_append, flatS, sectorsP_len]
theorem sizeS_ge : ∀ ls : List (List UInt8), ls.length ≤ sizeS ls
  | [] => Nat.le_refl _
  | b :: ls => by
    have h1 := sizeS_ge ls
    have h2 := piecesN_pos b.length
    have h3 := flatS_len ls 1 0
    simp only [sizeS, flatS, List.length_append, sectorsP_len, List.length_cons, h3] at *
    omega
theorem sectorsP_get {number : Int} {b : List UInt8} {k : Nat} (h : k < (sectorsP number b).length) : (sectorsP number b)[k] = sectP number k (piecesN b.length) (partP b k) := by simp [sectorsP]
theorem sectorsP_sec (number : Int) (b : List UInt8) : ∀ s ∈ sectorsP number b, s.length = 64 := fun s hs => by
  obtain ⟨i, _, rfl⟩ := List.mem_map.1 hs
  exact sectP_len (partP_len b i)
theorem piece_sect {number : Int} {b : List UInt8} {k : Nat} (h : k < (sectorsP number b).length) (h0 : 0 ≤ number) (h1 : number < 4294967296) (hb : b.length ≤ 3000) : pieceP (sectorsP number b)[k] number k = some (partP b k, ((piecesN b.length : Nat) : Int)) := by
  rw [sectorsP_get h]
  rw [sectorsP_len] at h
  exact pieceP_sect (partP_len b k) h0 h1 h (by have := piecesN_le hb; omega)
theorem more_sect {rd : Int → Sec} {number at' : Int} {b : List UInt8} (h0 : 0 ≤ number) (h1 : number < 4294967296) (hb : b.length ≤ 3000) : ∀ k, k ≤ piecesN b.length → (∀ j (h : j < (sectorsP number b).length), j < k → rd (at' + j) = (sectorsP number b)[j]) →
    moreP rd number at' ((piecesN b.length : Nat) : Int) k = some ((List.range k).map (partP b)).flatten
  | 0, _, _ => rfl
  | k + 1, hk, h => by
    have ih := more_sect h0 h1 hb k (by omega) (fun j hj hj2 => h j hj (by omega))
    have hl : k < (sectorsP number b).length := by rw [sectorsP_len]; omega
    rw [moreP_go ih (by rw [h k hl (by omega)]; exact piece_sect hl h0 h1 hb)]
    simp [List.range_succ]
theorem stands_sect {rd : Int → Sec} {number at' : Int} {b : List UInt8} (h0 : 0 ≤ number) (h1 : number < 4294967296) (hb : b.length ≤ 3000) (h : ∀ j (h : j < (sectorsP number b).length), rd (at' + j) = (sectorsP number b)[j]) : standsP rd number at' = some (b, ((piecesN b.length : Nat) : Int)) := by
  have hl : 0 < (sectorsP number b).length := by rw [sectorsP_len]; exact piecesN_pos _
  have hp : pieceP (rd at') number 0 = some (partP b 0, ((piecesN b.length : Nat) : Int)) := by
    have e := h 0 hl
    rw [show at' + ((0 : Nat) : Int) = at' by omega] at e
    rw [e]; exact piece_sect hl h0 h1 hb
  refine standsP_some hp ?_
  rw [Int.toNat_natCast, more_sect h0 h1 hb _ (Nat.le_refl _) (fun j hj _ => h j hj), parts_all b _ (piecesN_cover _)]
def Shows (rd : Int → Sec) (at' : Int) (l : List Sec) : Prop := ∀ j (h : j < l.length), rd (at' + j) = l[j]
theorem Shows.left {rd : Int → Sec} {at' : Int} {a b : List Sec} (h : Shows rd at' (a ++ b)) : Shows rd at' a := fun j hj => by
  rw [h j (by rw [List.length_append]; omega), List.getElem_append_left hj]
theorem Shows.right {rd : Int → Sec} {at' : Int} {a b : List Sec} (h : Shows rd at' (a ++ b)) : Shows rd (at' + a.length) b := fun j hj => by
  have := h (a.length + j) (by rw [List.length_append]; omega)
  rw [show at' + ((a.length + j : Nat) : Int) = at' + a.length + j by omega] at this
  rw [this, List.getElem_append_right (by omega)]
  congr 1; omega
theorem scan_log {rd : Int → Sec} : ∀ (ls : List (List UInt8)) (n : Nat) (at' : Int) (f : Nat), (∀ b ∈ ls, b.length ≤ 3000) → n + ls.length < 4294967296 → Shows rd at' (flatS n ls) →
    scanP rd (ls.length + f) n at' = (ls ++ (scanP rd f ((n + ls.length : Nat) : Int) (at' + (flatS n ls).length)).1, (scanP rd f ((n + ls.length : Nat) : Int) (at' + (flatS n ls).length)).2)
  | [], n, at', f, _, _, _ => by simp [flatS]
  | b :: ls, n, at', f, hl, hn, h => by
    simp only [flatS] at h ⊢
    simp only [List.length_cons] at hn ⊢
    have hs := stands_sect (rd := rd) (number := ((n + 1 : Nat) : Int)) (at' := at') (by omega) (by omega) (hl b (by simp)) h.left
    have ih := scan_log (rd := rd) ls (n + 1) (at' + (sectorsP ((n + 1 : Nat) : Int) b).length) f (fun x hx => hl x (by simp [hx])) (by omega) h.right
    rw [sectorsP_len] at ih
    rw [show ls.length + 1 + f = (ls.length + f) + 1 by omega, scan_go (b := b) (all := ((piecesN b.length : Nat) : Int)) (by rw [← hs]; congr 1)]
    rw [show ((n : Nat) : Int) + 1 = ((n + 1 : Nat) : Int) by omega, ih]
    rw [List.length_append, sectorsP_len, show n + 1 + ls.length = n + (ls.length + 1) by omega, show at' + ((piecesN b.length + (flatS (n + 1) ls).length : Nat) : Int) = at' + ((piecesN b.length : Nat) : Int) + (((flatS (n + 1) ls).length : Nat) : Int) by omega]
    simp
structure LogD (D : DS) (ls : List (List UInt8)) : Prop where
  ok : D.Ok
  inn : Wal.DS.In D
  ws : D.ws = []
  short : ∀ b ∈ ls, b.length ≤ 3000
  room : sizeS ls ≤ 2048
  shows : Shows D.read 0 (flatS 0 ls)
  zero : ∀ j, ((sizeS ls : Nat) : Int) ≤ j → D.read j = zs
theorem LogD.len {D : DS} {ls : List (List UInt8)} (h : LogD D ls) : ls.length ≤ 2048 := by have := sizeS_ge ls; have := h.room; omega
theorem stands_zs {rd : Int → Sec} {number at' : Int} (h : (rd at').getD 63 0 ≠ 1) : standsP rd number at' = none := standsP_none1 (pieceP_end h)
theorem zs_end : zs.getD 63 0 ≠ 1 := by decide
theorem LogD.scan {D : DS} {ls : List (List UInt8)} (h : LogD D ls) : scanP D.read fuel0 0 0 = (ls, ((sizeS ls : Nat) : Int)) := by
  have hl := h.len
  obtain ⟨f, hf⟩ : ∃ f, fuel0 = ls.length + f := ⟨fuel0 - ls.length, by rw [fuel0_eq]; omega⟩
  have := scan_log (rd := D.read) ls 0 0 f h.short (by omega) h.shows
  rw [← hf] at this
  rw [show ((0 : Nat) : Int) = 0 from rfl] at this
  have hz := h.zero _ (Int.le_refl _)
  simp only [sizeS] at hz
  rw [this, Int.zero_add, scan_stop (stands_zs (by rw [hz]; exact zs_end))]
  simp [sizeS]
theorem LogD.new : LogD DS.new [] := ⟨DS.new_ok, ⟨In.nil, In.nil⟩, rfl, fun _ h => absurd h (by simp), by decide, fun j h => absurd h (by simp [flatS]), fun j _ => rfl⟩
theorem LogD.open {D : DS} {ls : List (List UInt8)} (h : LogD D ls) (ha : D.ar = false) (hd : D.dn = false) : ∃ D', openP D = ⟨0, ls, ((sizeS ls : Nat) : Int), D'⟩ ∧ LogD D' ls ∧ D'.ar = false ∧ D'.dn = false := by
  obtain ⟨D', e, c, hw, hr⟩ := open_calm (D := D) ⟨h.ok, h.inn, ha, hd⟩
  rw [h.scan] at e hr
  have hrd : ∀ j, D'.read j = D.read j := fun j => by
    rw [hr j]
    split
    · rename_i q; rw [h.zero j q.1]
    · rfl
  exact ⟨D', e, ⟨c.ok, c.inn, hw, h.short, h.room, fun j hj => by rw [hrd]; exact h.shows j hj, fun j hj => by rw [hrd]; exact h.zero j hj⟩, c.ar, c.dn⟩
/-! ### Put -/
def wsec : Int → List Sec → Secs
  | _, [] => []
  | at', s :: ss => (at', s) :: wsec (at' + 1) ss
theorem wsec_len : ∀ (ss : List Sec) (at' : Int), (wsec at' ss).length = ss.length
  | [], _ => rfl
  | s :: ss, at' => by simp [wsec, wsec_len ss]
theorem wat_wsec : ∀ (ss : List Sec) (at' : Int) (k : Nat) (h : k < ss.length), wat (wsec at' ss) k = (at' + k, ss[k])
  | s :: ss, at', 0, _ => by simp [wsec, wat]
  | s :: ss, at', k + 1, h => by
    have ih := wat_wsec ss (at' + 1) k (by simpa using h)
    simp only [wat, wsec, List.getD_cons_succ] at ih ⊢
    rw [ih]
    simp only [List.getElem_cons_succ, Prod.mk.injEq, and_true]
    omega
theorem padS_full {s : Sec} (h : s.length = 64) : padS s = s := by simp [padS, h]
theorem writes_spec : ∀ (ss : List Sec) (at' : Int) (D : DS), D.Ok → Wal.DS.In D → D.dn = false → 0 ≤ at' → at' + ss.length ≤ 2048 → (∀ s ∈ ss, s.length = 64) →
    ∃ (m : Nat) (D' : DS), m ≤ ss.length ∧ writesP ss at' D = ((if m = ss.length then 0 else 4), D') ∧ D'.Ok ∧ Wal.DS.In D' ∧ D'.s = D.s ∧ D'.ws = D.ws ++ wsec at' (ss.take m) ∧ D'.dn = decide (m < ss.length) ∧ D'.ar = D.ar ∧ (D.ar = false → m = ss.length)
  | [], at', D, h, hi, hd, _, _, _ => ⟨0, D, Nat.le_refl _, rfl, h, hi, rfl, by simp [wsec], by simp [hd], rfl, fun _ => rfl⟩
  | s :: ss, at', D, h, hi, hd, h0, h1, hs => by
    simp only [List.length_cons] at h1
    have hs1 := hs s (by simp)
    by_cases hc : D.ar = true ∧ D.lf = 0
    · have hw := write_down (D := D) (at' := at') (bs := s) (by omega) (by omega) hc
      refine ⟨0, { D with dn := true }, Nat.zero_le _, ?_, ⟨h.s, h.ws, h.lf⟩, hi, rfl, by simp [wsec], by simp, rfl, fun q => by rw [q] at hc; cases hc.1⟩
      rw [writesP, hw]; simp
    · have h4 : D.ar = false ∨ 0 < D.lf := by
        have := h.lf
        cases q : D.ar
        · exact .inl rfl
        · right
          have : D.lf ≠ 0 := fun e => hc ⟨q, e⟩
          omega
      have hw := write_putD (D := D) (at' := at') (bs := s) (by omega) (by omega) hd h4
      obtain ⟨m, D', a1, a2, a3, a4, a5, a6, a7, a8, a9⟩ := writes_spec ss (at' + 1) (putD D at' s) (putD_ok h (by omega) h4) (putD_in hi (by omega)) rfl (by omega) (by omega) (fun x hx => hs x (by simp [hx]))
      refine ⟨m + 1, D', by simp; omega, ?_, a3, a4, a5.trans rfl, ?_, by rw [a7]; simp, a8.trans rfl, fun q => by rw [a9 q]; rfl⟩
      · rw [writesP, hw]
        simp only [if_true, a2, List.length_cons, Nat.add_right_cancel_iff]
      · rw [a6]
        simp only [putD, List.take_succ_cons, wsec, padS_full hs1, List.append_assoc, List.cons_append, List.nil_append]
theorem Shows.append {rd : Int → Sec} {at' : Int} {a b : List Sec} (h : Shows rd at' a) (g : Shows rd (at' + a.length) b) : Shows rd at' (a ++ b) := fun j hj => by
  by_cases q : j < a.length
  · rw [List.getElem_append_left q]; exact h j q
  · rw [List.getElem_append_right (by omega), ← g (j - a.length) (by rw [List.length_append] at hj; omega)]
    congr 1; omega
theorem read_wsec (s : Secs) (l : List Sec) (at' j : Int) : ∀ k, k ≤ l.length → readN s (wsec at' l) j k = if at' ≤ j ∧ j < at' + k then l.getD (j - at').toNat zs else sget s j
  | 0, _ => by rw [if_neg (by omega)]; rfl
  | k + 1, hk => by
    rw [readN, wat_wsec l at' k (by omega), read_wsec s l at' j k (by omega)]
    by_cases q : at' + k = j
    · rw [if_pos q, if_pos (by omega), show (j - at').toNat = k by omega]
      simp [List.getD_eq_getElem?_getD, show k < l.length by omega]
    · rw [if_neg q]
      by_cases q2 : at' ≤ j ∧ j < at' + k
      · rw [if_pos q2, if_pos (by omega)]
      · rw [if_neg q2, if_neg (by omega)]
structure Half (D : DS) (ls : List (List UInt8)) (bs : List UInt8) : Prop where
  ok : D.Ok
  inn : Wal.DS.In D
  short : ∀ b ∈ ls, b.length ≤ 3000
  short' : bs.length ≤ 3000
  room : sizeS ls + piecesN bs.length ≤ 2048
  shows : Shows (sget D.s) 0 (flatS 0 ls)
  zero : ∀ j, ((sizeS ls : Nat) : Int) ≤ j → sget D.s j = zs
  ws : ∃ m, m ≤ piecesN bs.length ∧ D.ws = wsec ((sizeS ls : Nat) : Int) ((sectorsP ((ls.length + 1 : Nat) : Int) bs).take m)
theorem LogD.rds {D : DS} {ls : List (List UInt8)} (h : LogD D ls) (j : Int) : D.read j = sget D.s j := by rw [DS.read, h.ws]; rfl
theorem put_spec {D : DS} {ls : List (List UInt8)} {bs : List UInt8} (h : LogD D ls) (hd : D.dn = false) (hb : bs.length ≤ 3000) :
    (2048 < sizeS ls + piecesN bs.length ∧ putL D ls.length ((sizeS ls : Nat) : Int) bs = ⟨3, ls.length, ((sizeS ls : Nat) : Int), D⟩) ∨
    (sizeS ls + piecesN bs.length ≤ 2048 ∧ ∃ D', putL D ls.length ((sizeS ls : Nat) : Int) bs = ⟨0, ls.length + 1, ((sizeS (ls ++ [bs]) : Nat) : Int), D'⟩ ∧ LogD D' (ls ++ [bs]) ∧ D'.dn = false ∧ D'.ar = D.ar) ∨
    (D.ar = true ∧ ∃ D', putL D ls.length ((sizeS ls : Nat) : Int) bs = ⟨4, ls.length, ((sizeS ls : Nat) : Int), D'⟩ ∧ Half D' ls bs) := by
  have hl := h.len
  have hp := piecesN_le hb
  by_cases hr : 2048 < sizeS ls + piecesN bs.length
  · exact .inl ⟨hr, put_full (by omega) (by omega)⟩
  · right
    have hss : (sectorsP ((ls.length + 1 : Nat) : Int) bs).length = piecesN bs.length := sectorsP_len _ _
    obtain ⟨m, D', a1, a2, a3, a4, a5, a6, a7, a8, a9⟩ := writes_spec (sectorsP ((ls.length + 1 : Nat) : Int) bs) ((sizeS ls : Nat) : Int) D h.ok h.inn hd (by omega) (by rw [hss]; omega) (sectorsP_sec _ _)
    rw [hss] at a1 a2 a7 a9
    rw [h.ws, List.nil_append] at a6
    by_cases hm : m = piecesN bs.length
    · left
      subst hm
      rw [if_pos rfl] at a2
      have hdn : D'.dn = false := by rw [a7]; simp
      obtain ⟨s1, s2, s3, s4, s5⟩ := sync_zero hdn
      rw [List.take_of_length_le (by rw [hss]; exact Nat.le_refl _)] at a6
      have hrd : ∀ j, D'.sync.2.read j = if ((sizeS ls : Nat) : Int) ≤ j ∧ j < ((sizeS ls : Nat) : Int) + piecesN bs.length then (sectorsP ((ls.length + 1 : Nat) : Int) bs).getD (j - ((sizeS ls : Nat) : Int)).toNat zs else D.read j := fun j => by
        rw [sync_read hdn, DS.read, a6, wsec_len, read_wsec _ _ _ _ _ (Nat.le_refl _), hss, a5, h.rds]
      have hsz := sizeS_add ls bs
      refine ⟨by omega, D'.sync.2, ?_, ⟨DS.sync_ok a3, sync_in a4, s2, fun b hb' => ?_, by omega, ?_, fun j hj => ?_⟩, s3, s4.trans a8⟩
      · rw [put_ok (by omega) (by omega) a2 s1, hsz]
        simp only [PutR.mk.injEq, true_and, and_true]
        omega
      · rcases List.mem_append.1 hb' with hb' | hb'
        · exact h.short b hb'
        · simp only [List.mem_singleton] at hb'; subst hb'; exact hb
      · rw [flatS_append]
        refine Shows.append (fun j hj => ?_) fun j hj => ?_
        · rw [hrd, if_neg (by simp only [sizeS]; omega)]; exact h.shows j hj
        · simp only [flatS, List.append_nil, Nat.zero_add] at hj ⊢
          rw [hrd, if_pos (by simp only [sizeS]; rw [hss] at hj; omega), show (0 + (((flatS 0 ls).length : Nat) : Int) + (j : Int) - ((sizeS ls : Nat) : Int)).toNat = j by simp only [sizeS]; omega]
          rw [List.getD_eq_getElem?_getD, List.getElem?_eq_getElem hj]; rfl
      · rw [hrd, if_neg (by omega)]
        exact h.zero j (by omega)
    · right
      have har : D.ar = true := by
        cases q : D.ar
        · exact absurd (a9 q) hm
        · rfl
      rw [if_neg hm] at a2
      refine ⟨har, D', put_fail1 (by omega) (by omega) a2 (by decide), ⟨a3, a4, h.short, hb, by omega, fun j hj => ?_, fun j hj => ?_, m, a1, a6⟩⟩
      · rw [a5, ← h.rds]; exact h.shows j hj
      · rw [a5, ← h.rds]; exact h.zero j hj
end Wal
end

section
namespace Go.Proofs.YtfceaphohlbnbaaGreat

open Go Leg Codec Api

set_option maxRecDepth 100000

theorem wnum_cells (wb b off cap : Nat) (v : Value) (bs : List UInt8) (l : List Int) (cs : List Value) (T : TypeId) (z : Nat × Nat) (hlen : bs.length + 10 * l.length ≤ 140737488355328) (hb : ∀ j, j < l.length → cs[off + j]? = some (.int .i64 (l.getD j 0))) :
    Does Tryz.prog 124 #[(.pointer (some ⟨wb, 0, none⟩)), (.slice (some ⟨b, off, none⟩) (l.length) (cap))] (fun F => F b = some (.cells cs.toArray T z)) [blkA wb [v] 200, ownB v (bs) 5] (WPost 200 5 wb (bs ++ encs l)) := by
 refine Does.body (vs := [(.pointer (some ⟨wb, 0, none⟩)), (.slice (some ⟨b, off, none⟩) (l.length) (cap))]) (n := 45) Tryz.func124 rfl rfl rfl (fun w0 F hF => ?_)
 refine sr fun _ J1 => ?_
 refine sg' ?_
 refine nx J1 ?_
 refine TC.seq fun _ J2 => ?_
 refine sr fun _ J3 => ?_
 refine mv ?_
 refine tp (PV.lenSl rfl Tryz.underlying74 rfl) ?_
 refine mv ?_
 refine nx J3 ?_
 refine TC.block ?_
 refine TC.loop (α := (Nat) × (Value) × (List UInt8)) (fun ⟨k, u, laid⟩ => k ≤ l.length ∧ laid ++ encs (l.drop k) = bs ++ encs l) (fun ⟨k, u, laid⟩ => [(0, (.pointer (some ⟨wb, 0, none⟩))), (4, (.pointer none)), (8, (.slice (some ⟨b, off, none⟩) (l.length) (cap))), (9, (.int .i64 (((l.length : Nat) : Int)))), (10, (.int .i64 ((k : Nat))))]) (fun ⟨k, u, laid⟩ => [blkA wb [u] 200, ownB u (laid) 5]) (fun ⟨k, u, laid⟩ => l.length - k) (0, v, bs)
     ⟨by omega, rfl⟩ (Sub.r (Sub.r (Sub.r (Sub.r (Sub.cons rfl (by congr 1) (Sub.nil _))))))
     (fun _ s => s) (fun ⟨k, u, laid⟩ hinv => ?_)
 obtain ⟨hk, hL⟩ := hinv
 refine sr fun _ J4 => ?_
 refine tp (PV.lss rfl rfl rfl) ?_
 refine TL.dec (fun h11 => ?_) (fun h11 => ?_)
 refine nx J4 ?_
 refine TC.seq fun _ J5 => ?_
 refine TC.yes rfl ?_
 refine TC.skip ?_
 refine TE.next J5 ?_
 refine TC.seq fun _ J6 => ?_
 refine TC.block ?_
 refine sr fun _ J7 => ?_
 refine tp (PV.indexSl (r := off + k) rfl Tryz.underlying74 sz3 rfl rfl (by first | omega | decide) (by first | omega | decide) (by omega)) ?_
 refine tp (PV.load1 (v := (.int .i64 ((l.getD k 0)))) rfl Tryz.underlying3 rfl rfl (Rd.ro hF) (hb k (by omega))) ?_
 refine sg' ?_
 refine nx J7 ?_
 refine sr fun _ J8 => ?_
 refine mv ?_
 refine tp (PV.convI (r := ((((l.getD k 0 % 18446744073709551616).toNat : Nat)) : Int)) rfl Tryz.underlying3 Tryz.underlying210 rfl (wrap_u64_nat _)) ?_
 refine sg' ?_
 refine nx J8 ?_
 refine TC.seq fun _ J9 => ?_
 refine TC.block ?_
 refine TC.loop (α := (Nat) × (Value) × (List UInt8)) (fun ⟨m, u2, laid2⟩ => laid2 ++ (encU m ++ encs (l.drop (k + 1))) = bs ++ encs l) (fun ⟨m, u2, laid2⟩ => [(0, (.pointer (some ⟨wb, 0, none⟩))), (4, (.pointer none)), (7, (.int .u64 ((m : Nat)))), (8, (.slice (some ⟨b, off, none⟩) (l.length) (cap))), (9, (.int .i64 (((l.length : Nat) : Int)))), (10, (.int .i64 ((k : Nat))))]) (fun ⟨m, u2, laid2⟩ => [blkA wb [u2] 200, ownB u2 (laid2) 5]) (fun ⟨m, u2, laid2⟩ => m) ((l.getD k 0 % 18446744073709551616).toNat, u, laid)
     (by rw [← hL, encs_drop (l := l) (k := k) (by omega)]; rfl) (Sub.r (Sub.r (Sub.cons rfl (by congr 1) (Sub.r (Sub.r (Sub.r (Sub.nil _)))))))
     (fun _ s => s) (fun ⟨m, u2, laid2⟩ hinv => ?_)
 have hM := hinv
 refine TC.seq fun _ J10 => ?_
 refine sr fun _ J11 => ?_
 refine mv ?_
 refine tp (PV.geq rfl rfl rfl) ?_
 refine TL.dec (fun h17 => ?_) (fun h17 => ?_)
 refine nx J11 ?_
 refine TC.yes rfl ?_
 refine TC.skip ?_
 refine TE.next J10 ?_
 refine TC.block ?_
 refine sr fun _ J12 => ?_
 refine mv ?_
 refine mv ?_
 refine tp (PV.nilCheck rfl rfl) ?_
 refine tp (PV.fieldAddr (r := 0) rfl Tryz.underlying200 rfl sz106 rfl rfl) ?_
 refine tp (PV.load1 (v := u2) rfl Tryz.underlying106 rfl rfl (Rd.own 0 rfl rfl) rfl) ?_
 refine mv ?_
 refine tp (PV.convI (r := (IntKind.u8.wrap ((m : Nat) : Int))) rfl Tryz.underlying210 Tryz.underlying5 rfl rfl) ?_
 refine tp (PV.or (r := (((UInt8.ofNat (m % 128 + 128)).toNat : Nat) : Int)) rfl rfl rfl (or128 m)) ?_
 refine TL.buildSlice (cells := #[(.int .u8 ((((UInt8.ofNat (m % 128 + 128)).toNat : Nat) : Int)))]) (Want.plain rfl) rfl rfl rfl Tryz.underlying106 in5 rfl rfl rfl (by as_aux_lemma => kernel_rfl) (fun b26 => ?_)
 change TL _ _ _ _ _ _ _ _ _ [blkA b26 [(.int .u8 ((((UInt8.ofNat (m % 128 + 128)).toNat : Nat) : Int)))] 5, blkA wb [u2] 200, ownB u2 (laid2) 5]
 refine TL.append (k := 2) (news := u8s ([(UInt8.ofNat (m % 128 + 128))])) (nn' := (laid2 ++ [(UInt8.ofNat (m % 128 + 128))] : List UInt8).length) (xs' := u8s (laid2 ++ [(UInt8.ofNat (m % 128 + 128))])) (Want.plain rfl) rfl rfl rfl Tryz.underlying106 in5 rfl rfl rfl rfl rfl rfl (fun _ _ => Src.rd rfl (Rd.own 0 rfl rfl) rfl) (u8s_one [(UInt8.ofNat (m % 128 + 128))]) (by have := congrArg List.length hM; have := encs_len l; have := encU_pos m; simp only [List.length_append, maxLen] at *; omega) (by have := congrArg List.length hM; have := encs_len l; have := encU_pos m; simp only [List.length_append] at *; omega) (by simp) (u8s_append _ _).symm (fun v27 ov27 => ?_)
 change TL _ _ _ _ _ _ _ _ _ [blkA b26 [(.int .u8 ((((UInt8.ofNat (m % 128 + 128)).toNat : Nat) : Int)))] 5, blkA wb [u2] 200, ownB v27 (laid2 ++ [(UInt8.ofNat (m % 128 + 128))]) 5]
 refine tp (PV.nilCheck rfl rfl) ?_
 refine tp (PV.fieldAddr (r := 0) rfl Tryz.underlying200 rfl sz106 rfl rfl) ?_
 refine TL.store1 (i := 1) (H' := [blkA b26 [(.int .u8 ((((UInt8.ofNat (m % 128 + 128)).toNat : Nat) : Int)))] 5, blkA wb [v27] 200, ownB v27 (laid2 ++ [(UInt8.ofNat (m % 128 + 128))]) 5]) (Want.plain rfl) rfl rfl rfl rfl ov27 sz106 rfl rfl (lb rfl) rfl rfl ?_
 refine nx J12 ?_
 refine TC.region ?_
 refine mv ?_
 refine tp (PV.shr (r := ((m / 128 : Nat) : Int)) rfl rfl rfl (by omega) (shr7 m)) ?_
 refine sg' ?_
 refine TL.nil ?_
 refine TE.blockEnd ?_
 exact TE.round ((m / 128, v27, laid2 ++ [(UInt8.ofNat (m % 128 + 128))]) : (Nat) × (Value) × (List UInt8)) (by rw [← hM, encU_hi (by omega)]; simp) (by show m / 128 < m; omega)
   (Sub.r (Sub.r (Sub.r (Sub.r (Sub.r (Sub.r (Sub.nil _)))))))
   (fun _ s => sep_keep [1, 1] rfl s)
 refine nx J11 ?_
 refine TC.no rfl ?_
 refine TC.exit ?_
 refine TE.pass ?_
 refine TE.pass ?_
 refine TE.hit ?_
 refine TE.next J9 ?_
 refine TC.region ?_
 refine mv ?_
 refine mv ?_
 refine tp (PV.nilCheck rfl rfl) ?_
 refine tp (PV.fieldAddr (r := 0) rfl Tryz.underlying200 rfl sz106 rfl rfl) ?_
 refine tp (PV.load1 (v := u2) rfl Tryz.underlying106 rfl rfl (Rd.own 0 rfl rfl) rfl) ?_
 refine mv ?_
 refine tp (PV.convI (r := (((UInt8.ofNat m).toNat : Nat) : Int)) rfl Tryz.underlying210 Tryz.underlying5 rfl (byte_lo (by omega))) ?_
 refine TL.buildSlice (cells := #[(.int .u8 ((((UInt8.ofNat m).toNat : Nat) : Int)))]) (Want.plain rfl) rfl rfl rfl Tryz.underlying106 in5 rfl rfl rfl (by as_aux_lemma => kernel_rfl) (fun b39 => ?_)
 change TL _ _ _ _ _ _ _ _ _ [blkA b39 [(.int .u8 ((((UInt8.ofNat m).toNat : Nat) : Int)))] 5, blkA wb [u2] 200, ownB u2 (laid2) 5]
 refine TL.append (k := 2) (news := u8s ([(UInt8.ofNat m)])) (nn' := (laid2 ++ [(UInt8.ofNat m)] : List UInt8).length) (xs' := u8s (laid2 ++ [(UInt8.ofNat m)])) (Want.plain rfl) rfl rfl rfl Tryz.underlying106 in5 rfl rfl rfl rfl rfl rfl (fun _ _ => Src.rd rfl (Rd.own 0 rfl rfl) rfl) (u8s_one [(UInt8.ofNat m)]) (by have := congrArg List.length hM; have := encs_len l; have := encU_pos m; simp only [List.length_append, maxLen] at *; omega) (by have := congrArg List.length hM; have := encs_len l; have := encU_pos m; simp only [List.length_append] at *; omega) (by simp) (u8s_append _ _).symm (fun v40 ov40 => ?_)
 change TL _ _ _ _ _ _ _ _ _ [blkA b39 [(.int .u8 ((((UInt8.ofNat m).toNat : Nat) : Int)))] 5, blkA wb [u2] 200, ownB v40 (laid2 ++ [(UInt8.ofNat m)]) 5]
 refine tp (PV.nilCheck rfl rfl) ?_
 refine tp (PV.fieldAddr (r := 0) rfl Tryz.underlying200 rfl sz106 rfl rfl) ?_
 refine TL.store1 (i := 1) (H' := [blkA b39 [(.int .u8 ((((UInt8.ofNat m).toNat : Nat) : Int)))] 5, blkA wb [v40] 200, ownB v40 (laid2 ++ [(UInt8.ofNat m)]) 5]) (Want.plain rfl) rfl rfl rfl rfl ov40 sz106 rfl rfl (lb rfl) rfl rfl ?_
 refine TL.nil ?_
 refine TE.blockEnd ?_
 refine TE.next J6 ?_
 refine TC.region ?_
 refine tp (PV.add rfl rfl rfl (wrap_i64 (by omega) (by omega))) ?_
 refine mv ?_
 refine TL.nil ?_
 exact TE.round ((k + 1, v40, laid2 ++ [(UInt8.ofNat m)]) : (Nat) × (Value) × (List UInt8)) ⟨by omega, by rw [← hM, encU_lo (by omega)]; simp⟩ (by show _ - _ < _ - _; omega)
   (Sub.r (Sub.r (Sub.r (Sub.r (Sub.r (Sub.nil _))))))
   (fun _ s => sep_keep [1, 1] rfl s)
 refine nx J4 ?_
 refine TC.seq fun _ J13 => ?_
 refine TC.no rfl ?_
 refine TC.exit ?_
 refine TE.pass ?_
 refine TE.pass ?_
 refine TE.hit ?_
 refine TE.next J2 ?_
 refine sr fun _ J14 => ?_
 refine mv ?_
 refine sg' ?_
 refine nx J14 ?_
 refine TC.ret ?_
 refine TE.weak (Sub.refl _) (fun _ s => sep_keep [0, 0] rfl s) ?_
 refine TE.ret1 rfl rfl ?_
 obtain rfl : laid = bs ++ encs l := by rw [← hL, List.drop_eq_nil_of_le (by omega)]; simp [encs]
 exact ⟨u, rfl, rfl⟩
theorem wnum_nil (wb : Nat) (v : Value) (bs : List UInt8) :
    Does Tryz.prog 124 #[(.pointer (some ⟨wb, 0, none⟩)), (.slice none 0 0)] (fun _ => True) [blkA wb [v] 200, ownB v (bs) 5] (WPost 200 5 wb (bs ++ encs [])) := by
 refine Does.body (vs := [(.pointer (some ⟨wb, 0, none⟩)), (.slice none 0 0)]) (n := 45) Tryz.func124 rfl rfl rfl (fun w0 F hF => ?_)
 refine sr fun _ J1 => ?_
 refine sg' ?_
 refine nx J1 ?_
 refine TC.seq fun _ J2 => ?_
 refine sr fun _ J3 => ?_
 refine mv ?_
 refine tp (PV.lenSl rfl Tryz.underlying74 rfl) ?_
 refine mv ?_
 refine nx J3 ?_
 refine TC.block ?_
 refine TC.loop (α := Unit) (fun _u => True) (fun _u => [(0, (.pointer (some ⟨wb, 0, none⟩))), (4, (.pointer none)), (8, (.slice none 0 0)), (9, (.int .i64 0)), (10, (.int .i64 0))]) (fun _u => [blkA wb [v] 200, ownB v (bs) 5]) (fun _u => 0) ()
     trivial (Sub.r (Sub.r (Sub.r (Sub.r (Sub.r (Sub.nil _))))))
     (fun _ s => s) (fun _u hinv => ?_)
 obtain _ := hinv
 refine sr fun _ J4 => ?_
 refine tp (PV.lss rfl rfl rfl) ?_
 refine nx J4 ?_
 refine TC.seq fun _ J5 => ?_
 refine TC.no rfl ?_
 refine TC.exit ?_
 refine TE.pass ?_
 refine TE.pass ?_
 refine TE.hit ?_
 refine TE.next J2 ?_
 refine sr fun _ J6 => ?_
 refine mv ?_
 refine sg' ?_
 refine nx J6 ?_
 refine TC.ret ?_
 refine TE.ret1 rfl rfl ?_
 exact ⟨v, rfl, by rw [encs_nil, List.append_nil]⟩
theorem wnum_does (wb : Nat) (v : Value) (bs : List UInt8) (x : Value) (l : List Int) (hlen : bs.length + 10 * l.length ≤ 140737488355328) : Does Tryz.prog 124 #[(.pointer (some ⟨wb, 0, none⟩)), x] (IsN x l) [blkA wb [v] 200, ownB v bs 5] (WPost 200 5 wb (bs ++ encs l)) := by
  refine Does.of fun F hF => ?_
  rcases id hF with ⟨rfl, rfl⟩ | ⟨b, off, cap, cs, T, z, rfl, h3, h4⟩
  · exact ⟨_, trivial, wnum_nil wb v bs⟩
  · exact ⟨_, h3, wnum_cells wb b off cap v bs l cs T z hlen h4⟩

theorem wbytes_does (wb : Nat) (v : Value) (bs : List UInt8) (hlen : bs.length ≤ 140737488355328) :
    Does Tryz.prog 129 #[(.pointer (some ⟨wb, 0, none⟩))] (fun _ => True) [blkA wb [v] 200, ownB v (bs) 5] (Ret (fun x H => ∃ u, x = u ∧ H = [blkA wb [v] 200, ownB v bs 5, ownB u bs 5])) := by
 refine Does.body (vs := [(.pointer (some ⟨wb, 0, none⟩))]) (n := 9) Tryz.func129 rfl rfl rfl (fun w0 F hF => ?_)
 refine sr fun _ J1 => ?_
 refine sg' ?_
 refine nx J1 ?_
 refine sr fun _ J2 => ?_
 refine TL.buildSlice0 (Want.plain rfl) rfl rfl rfl Tryz.underlying106 sz5 (fun v3 => ?_)
 change TL _ _ _ _ _ _ _ _ _ [ownB v3 ([]) 5, blkA wb [v] 200, ownB v (bs) 5]
 refine mv ?_
 refine tp (PV.nilCheck rfl rfl) ?_
 refine tp (PV.fieldAddr (r := 0) rfl Tryz.underlying200 rfl sz106 rfl rfl) ?_
 refine tp (PV.load1 (v := v) rfl Tryz.underlying106 rfl rfl (Rd.own 1 rfl rfl) rfl) ?_
 refine TL.append (k := 0) (news := u8s (bs)) (nn' := (bs : List UInt8).length) (xs' := u8s (bs)) (Want.plain rfl) rfl rfl rfl Tryz.underlying106 in5 rfl rfl rfl rfl rfl rfl (fun _ s => Src.own 2 rfl rfl s) (u8s_one _) (by simp only [maxLen, List.length_cons, List.length_nil]; omega) (by simp only [List.length_cons, List.length_nil]; omega) (by simp) (List.nil_append _) (fun v8 ov8 => ?_)
 change TL _ _ _ _ _ _ _ _ _ [ownB v8 (bs) 5, blkA wb [v] 200, ownB v (bs) 5]
 refine sg' ?_
 refine nx J2 ?_
 refine TC.ret ?_
 refine TE.weak (Sub.refl _) (fun _ s => sep_keep [1, 1, 0] rfl s) ?_
 refine TE.ret1 rfl rfl ?_
 exact ⟨v8, rfl, rfl⟩
theorem wview_cells (wb : Nat) (v : Value) (bs : List UInt8) (a0 a1 g0 g1 g2 g3 g4 : Int) (hlen : bs.length + 70 ≤ 140737488355328) :
    Does Tryz.prog 128 #[(.pointer (some ⟨wb, 0, none⟩)), (.agg #[(.int .i64 (a0)), (.int .i64 (a1)), (.int .i64 (g0)), (.int .i64 (g1)), (.int .i64 (g2)), (.int .i64 (g3)), (.int .i64 (g4))])] (fun _ => True) [blkA wb [v] 200, ownB v (bs) 5] (WPost 200 5 wb (bs ++ encs [a0, a1, g0, g1, g2, g3, g4])) := by
 refine Does.body (vs := [(.pointer (some ⟨wb, 0, none⟩)), (.agg #[(.int .i64 (a0)), (.int .i64 (a1)), (.int .i64 (g0)), (.int .i64 (g1)), (.int .i64 (g2)), (.int .i64 (g3)), (.int .i64 (g4))])]) (n := 15) Tryz.func128 rfl rfl rfl (fun w0 F hF => ?_)
 refine sr fun _ J1 => ?_
 refine TL.box (Want.plain rfl) rfl rfl rfl rfl (fun b3 => ?_)
 change TL _ _ _ _ _ _ _ _ _ [blkA b3 [(.int .i64 (a0)), (.int .i64 (a1)), (.int .i64 (g0)), (.int .i64 (g1)), (.int .i64 (g2)), (.int .i64 (g3)), (.int .i64 (g4))] 52, blkA wb [v] 200, ownB v (bs) 5]
 refine sg' ?_
 refine nx J1 ?_
 refine TC.seq fun _ J2 => ?_
 refine TC.draw (fun w => Frm F w ∧ w.heap[b3]? = some (.cells ([(.int .i64 (a0)), (.int .i64 (a1)), (.int .i64 (g0)), (.int .i64 (g1)), (.int .i64 (g2)), (.int .i64 (g3)), (.int .i64 (g4))]).toArray 52 (0, 0)) ∧ True) mixed rfl (fun _ s => ⟨Frm.of s, s.block 0 (lb rfl) rfl, trivial⟩) ?_
 refine ta 0 rfl (PV.move rfl rfl) ?_
 refine ta 1 rfl (PV.fieldAddr (r := 0) rfl Tryz.underlying52 rfl sz3 rfl rfl) ?_
 refine ta 2 rfl (PV.load1 (v := (.int .i64 (a0))) rfl Tryz.underlying3 rfl rfl (fun _ h => h.2.1) rfl) ?_
 refine ta 3 rfl (PV.fieldAddr (r := 1) rfl Tryz.underlying52 rfl sz3 rfl rfl) ?_
 refine ta 4 rfl (PV.load1 (v := (.int .i64 (a1))) rfl Tryz.underlying3 rfl rfl (fun _ h => h.2.1) rfl) ?_
 refine ta 7 rfl (PV.fieldAddr (r := 2) rfl Tryz.underlying52 rfl sz42 rfl rfl) ?_
 refine ta 8 rfl (PV.sliceArr rfl Tryz.underlying42 sz3 rfl) ?_
 refine TD.all [5] (by kernel_rfl) rfl ?_
 refine AllT.cons rfl ?_ ?_
 refine TL.buildSlice (cells := #[(.int .i64 (a0)), (.int .i64 (a1))]) (Want.plain rfl) rfl rfl rfl Tryz.underlying74 in3 rfl rfl rfl (by as_aux_lemma => kernel_rfl) (fun b10 => ?_)
 change TL _ _ _ _ _ _ _ _ _ [blkA b10 [(.int .i64 (a0)), (.int .i64 (a1))] 3, blkA b3 [(.int .i64 (a0)), (.int .i64 (a1)), (.int .i64 (g0)), (.int .i64 (g1)), (.int .i64 (g2)), (.int .i64 (g3)), (.int .i64 (g4))] 52, blkA wb [v] 200, ownB v (bs) 5]
 refine TL.nil ?_
 refine TE.draw (fun _ s => ⟨Frm.of s, s.block 1 (lb rfl) rfl, trivial⟩) ?_
 refine TD.all [6] (by kernel_rfl) rfl ?_
 refine AllT.cons rfl ?_ ?_
 refine TL.callR (A := [blkA wb [v] 200, ownB v (bs) 5]) (Want.plain rfl) rfl rfl rfl nm124 rfl (wnum_does wb v (bs) (.slice (some ⟨b10, 0, none⟩) (2) (2)) [a0, a1] (by simp only [List.length_append, List.length_cons, List.length_nil, Vector.length_toList]; first | omega | (have := encs_len [a0, a1]; simp only [List.length_cons, List.length_nil] at this; omega))) (fun _ s => sep_selR [2, 2] rfl s) (isN_piece 0 rfl rfl rfl rfl) (fun vR HR hR => ?_)
 obtain ⟨u1, rfl, rfl⟩ := hR
 change TL _ _ _ _ _ _ _ _ _ [blkA wb [u1] 200, ownB u1 (bs ++ encs [a0, a1]) 5, blkA b10 [(.int .i64 (a0)), (.int .i64 (a1))] 3, blkA b3 [(.int .i64 (a0)), (.int .i64 (a1)), (.int .i64 (g0)), (.int .i64 (g1)), (.int .i64 (g2)), (.int .i64 (g3)), (.int .i64 (g4))] 52]
 refine TL.nil ?_
 refine TE.draw (fun _ s => ⟨Frm.of s, s.block 3 (lb rfl) rfl, trivial⟩) ?_
 refine TD.all [9] (by kernel_rfl) rfl ?_
 refine AllT.cons rfl ?_ ?_
 refine TL.callR (A := [blkA wb [u1] 200, ownB u1 (bs ++ encs [a0, a1]) 5]) (Want.plain rfl) rfl rfl rfl nm124 rfl (wnum_does wb u1 (bs ++ encs [a0, a1]) (.slice (some ⟨b3, 2, none⟩) (5) (5)) [g0, g1, g2, g3, g4] (by simp only [List.length_append, List.length_cons, List.length_nil, Vector.length_toList]; first | omega | (have := encs_len [a0, a1]; simp only [List.length_cons, List.length_nil] at this; omega))) (fun _ s => s) (isN_piece 1 rfl rfl rfl rfl) (fun vR HR hR => ?_)
 obtain ⟨u2, rfl, rfl⟩ := hR
 change TL _ _ _ _ _ _ _ _ _ [blkA wb [u2] 200, ownB u2 (bs ++ encs [a0, a1] ++ encs [g0, g1, g2, g3, g4]) 5, blkA b10 [(.int .i64 (a0)), (.int .i64 (a1))] 3, blkA b3 [(.int .i64 (a0)), (.int .i64 (a1)), (.int .i64 (g0)), (.int .i64 (g1)), (.int .i64 (g2)), (.int .i64 (g3)), (.int .i64 (g4))] 52]
 refine TL.nil ?_
 refine TE.draw (fun _ s => ⟨Frm.of s, s.block 3 (lb rfl) rfl, trivial⟩) ?_
 refine ta 10 rfl (PV.assign rfl rfl) ?_
 refine TD.done (by kernel_rfl) ?_
 refine TE.next J2 ?_
 refine TC.ret ?_
 refine TE.weak (Sub.refl _) (fun _ s => sep_keep [0, 0] rfl s) ?_
 refine TE.ret1 rfl rfl ?_
 exact ⟨_, rfl, by rw [List.append_assoc, ← encs_append]; rfl⟩
 exact AllT.nil
 exact AllT.nil
 exact AllT.nil
theorem wchange_cells (wb : Nat) (v : Value) (bs : List UInt8) (a0 a1 a2 : Int) (hlen : bs.length + 30 ≤ 140737488355328) :
    Does Tryz.prog 127 #[(.pointer (some ⟨wb, 0, none⟩)), (.agg #[(.int .i64 (a0)), (.int .i64 (a1)), (.int .i64 (a2))])] (fun _ => True) [blkA wb [v] 200, ownB v (bs) 5] (WPost 200 5 wb (bs ++ encs [a0, a1, a2])) := by
 refine Does.body (vs := [(.pointer (some ⟨wb, 0, none⟩)), (.agg #[(.int .i64 (a0)), (.int .i64 (a1)), (.int .i64 (a2))])]) (n := 14) Tryz.func127 rfl rfl rfl (fun w0 F hF => ?_)
 refine sr fun _ J1 => ?_
 refine TL.box (Want.plain rfl) rfl rfl rfl rfl (fun b3 => ?_)
 change TL _ _ _ _ _ _ _ _ _ [blkA b3 [(.int .i64 (a0)), (.int .i64 (a1)), (.int .i64 (a2))] 36, blkA wb [v] 200, ownB v (bs) 5]
 refine sg' ?_
 refine nx J1 ?_
 refine sr fun _ J2 => ?_
 refine mv ?_
 refine tp (PV.fieldAddr (r := 0) rfl Tryz.underlying36 rfl sz3 rfl rfl) ?_
 refine tp (PV.load1 (v := (.int .i64 (a0))) rfl Tryz.underlying3 rfl rfl (Rd.own 0 rfl rfl) rfl) ?_
 refine tp (PV.fieldAddr (r := 1) rfl Tryz.underlying36 rfl sz3 rfl rfl) ?_
 refine tp (PV.load1 (v := (.int .i64 (a1))) rfl Tryz.underlying3 rfl rfl (Rd.own 0 rfl rfl) rfl) ?_
 refine tp (PV.fieldAddr (r := 2) rfl Tryz.underlying36 rfl sz3 rfl rfl) ?_
 refine tp (PV.load1 (v := (.int .i64 (a2))) rfl Tryz.underlying3 rfl rfl (Rd.own 0 rfl rfl) rfl) ?_
 refine TL.buildSlice (cells := #[(.int .i64 (a0)), (.int .i64 (a1)), (.int .i64 (a2))]) (Want.plain rfl) rfl rfl rfl Tryz.underlying74 in3 rfl rfl rfl (by as_aux_lemma => kernel_rfl) (fun b12 => ?_)
 change TL _ _ _ _ _ _ _ _ _ [blkA b12 [(.int .i64 (a0)), (.int .i64 (a1)), (.int .i64 (a2))] 3, blkA b3 [(.int .i64 (a0)), (.int .i64 (a1)), (.int .i64 (a2))] 36, blkA wb [v] 200, ownB v (bs) 5]
 refine TL.callR (A := [blkA wb [v] 200, ownB v (bs) 5]) (Want.plain rfl) rfl rfl rfl nm124 rfl (wnum_does wb v (bs) (.slice (some ⟨b12, 0, none⟩) (3) (3)) [a0, a1, a2] (by simp only [List.length_append, List.length_cons, List.length_nil, Vector.length_toList]; first | omega | (have := encs_len [a0, a1]; simp only [List.length_cons, List.length_nil] at this; omega))) (fun _ s => sep_selR [2, 2] rfl s) (isN_piece 0 rfl rfl rfl rfl) (fun vR HR hR => ?_)
 obtain ⟨u1, rfl, rfl⟩ := hR
 change TL _ _ _ _ _ _ _ _ _ [blkA wb [u1] 200, ownB u1 (bs ++ encs [a0, a1, a2]) 5, blkA b12 [(.int .i64 (a0)), (.int .i64 (a1)), (.int .i64 (a2))] 3, blkA b3 [(.int .i64 (a0)), (.int .i64 (a1)), (.int .i64 (a2))] 36]
 refine sg' ?_
 refine nx J2 ?_
 refine TC.ret ?_
 refine TE.weak (Sub.refl _) (fun _ s => sep_keep [0, 0] rfl s) ?_
 refine TE.ret1 rfl rfl ?_
 exact ⟨_, rfl, rfl⟩
theorem wballot_cells (wb : Nat) (v : Value) (bs : List UInt8) (a0 a1 : Int) (hlen : bs.length + 20 ≤ 140737488355328) :
    Does Tryz.prog 126 #[(.pointer (some ⟨wb, 0, none⟩)), (.agg #[(.int .i64 (a0)), (.int .i64 (a1))])] (fun _ => True) [blkA wb [v] 200, ownB v (bs) 5] (WPost 200 5 wb (bs ++ encs [a0, a1])) := by
 refine Does.body (vs := [(.pointer (some ⟨wb, 0, none⟩)), (.agg #[(.int .i64 (a0)), (.int .i64 (a1))])]) (n := 12) Tryz.func126 rfl rfl rfl (fun w0 F hF => ?_)
 refine sr fun _ J1 => ?_
 refine TL.box (Want.plain rfl) rfl rfl rfl rfl (fun b3 => ?_)
 change TL _ _ _ _ _ _ _ _ _ [blkA b3 [(.int .i64 (a0)), (.int .i64 (a1))] 50, blkA wb [v] 200, ownB v (bs) 5]
 refine sg' ?_
 refine nx J1 ?_
 refine sr fun _ J2 => ?_
 refine mv ?_
 refine tp (PV.fieldAddr (r := 0) rfl Tryz.underlying50 rfl sz3 rfl rfl) ?_
 refine tp (PV.load1 (v := (.int .i64 (a0))) rfl Tryz.underlying3 rfl rfl (Rd.own 0 rfl rfl) rfl) ?_
 refine tp (PV.fieldAddr (r := 1) rfl Tryz.underlying50 rfl sz3 rfl rfl) ?_
 refine tp (PV.load1 (v := (.int .i64 (a1))) rfl Tryz.underlying3 rfl rfl (Rd.own 0 rfl rfl) rfl) ?_
 refine TL.buildSlice (cells := #[(.int .i64 (a0)), (.int .i64 (a1))]) (Want.plain rfl) rfl rfl rfl Tryz.underlying74 in3 rfl rfl rfl (by as_aux_lemma => kernel_rfl) (fun b10 => ?_)
 change TL _ _ _ _ _ _ _ _ _ [blkA b10 [(.int .i64 (a0)), (.int .i64 (a1))] 3, blkA b3 [(.int .i64 (a0)), (.int .i64 (a1))] 50, blkA wb [v] 200, ownB v (bs) 5]
 refine TL.callR (A := [blkA wb [v] 200, ownB v (bs) 5]) (Want.plain rfl) rfl rfl rfl nm124 rfl (wnum_does wb v (bs) (.slice (some ⟨b10, 0, none⟩) (2) (2)) [a0, a1] (by simp only [List.length_append, List.length_cons, List.length_nil, Vector.length_toList]; first | omega | (have := encs_len [a0, a1]; simp only [List.length_cons, List.length_nil] at this; omega))) (fun _ s => sep_selR [2, 2] rfl s) (isN_piece 0 rfl rfl rfl rfl) (fun vR HR hR => ?_)
 obtain ⟨u1, rfl, rfl⟩ := hR
 change TL _ _ _ _ _ _ _ _ _ [blkA wb [u1] 200, ownB u1 (bs ++ encs [a0, a1]) 5, blkA b10 [(.int .i64 (a0)), (.int .i64 (a1))] 3, blkA b3 [(.int .i64 (a0)), (.int .i64 (a1))] 50]
 refine sg' ?_
 refine nx J2 ?_
 refine TC.ret ?_
 refine TE.weak (Sub.refl _) (fun _ s => sep_keep [0, 0] rfl s) ?_
 refine TE.ret1 rfl rfl ?_
 exact ⟨_, rfl, rfl⟩
theorem wcell_cells (wb : Nat) (v : Value) (bs : List UInt8) (a0 a1 g0 g1 g2 g3 g4 : Int) (hlen : bs.length + 70 ≤ 140737488355328) :
    Does Tryz.prog 133 #[(.pointer (some ⟨wb, 0, none⟩)), (.agg #[(.int .i64 (a0)), (.int .i64 (a1)), (.int .i64 (g0)), (.int .i64 (g1)), (.int .i64 (g2)), (.int .i64 (g3)), (.int .i64 (g4))])] (fun _ => True) [blkA wb [v] 200, ownB v (bs) 5] (Ret (fun x H => ∃ v', x = .tuple #[] ∧ H = [blkA wb [v'] 200, ownB v' (bs ++ encs [a0, a1, g0, g1, g2, g3, g4]) 5])) := by
 refine Does.body (vs := [(.pointer (some ⟨wb, 0, none⟩)), (.agg #[(.int .i64 (a0)), (.int .i64 (a1)), (.int .i64 (g0)), (.int .i64 (g1)), (.int .i64 (g2)), (.int .i64 (g3)), (.int .i64 (g4))])]) (n := 14) Tryz.func133 rfl rfl rfl (fun w0 F hF => ?_)
 refine sr fun _ J1 => ?_
 refine TL.box (Want.plain rfl) rfl rfl rfl rfl (fun b3 => ?_)
 change TL _ _ _ _ _ _ _ _ _ [blkA b3 [(.int .i64 (a0)), (.int .i64 (a1)), (.int .i64 (g0)), (.int .i64 (g1)), (.int .i64 (g2)), (.int .i64 (g3)), (.int .i64 (g4))] 44, blkA wb [v] 200, ownB v (bs) 5]
 refine nx J1 ?_
 refine TC.draw (fun w => Frm F w ∧ w.heap[b3]? = some (.cells ([(.int .i64 (a0)), (.int .i64 (a1)), (.int .i64 (g0)), (.int .i64 (g1)), (.int .i64 (g2)), (.int .i64 (g3)), (.int .i64 (g4))]).toArray 44 (0, 0)) ∧ True) mixed rfl (fun _ s => ⟨Frm.of s, s.block 0 (lb rfl) rfl, trivial⟩) ?_
 refine ta 0 rfl (PV.move rfl rfl) ?_
 refine ta 1 rfl (PV.fieldAddr (r := 0) rfl Tryz.underlying44 rfl sz3 rfl rfl) ?_
 refine ta 2 rfl (PV.load1 (v := (.int .i64 (a0))) rfl Tryz.underlying3 rfl rfl (fun _ h => h.2.1) rfl) ?_
 refine ta 3 rfl (PV.fieldAddr (r := 1) rfl Tryz.underlying44 rfl sz3 rfl rfl) ?_
 refine ta 4 rfl (PV.load1 (v := (.int .i64 (a1))) rfl Tryz.underlying3 rfl rfl (fun _ h => h.2.1) rfl) ?_
 refine ta 7 rfl (PV.fieldAddr (r := 2) rfl Tryz.underlying44 rfl sz42 rfl rfl) ?_
 refine ta 8 rfl (PV.sliceArr rfl Tryz.underlying42 sz3 rfl) ?_
 refine TD.all [5] (by kernel_rfl) rfl ?_
 refine AllT.cons rfl ?_ ?_
 refine TL.buildSlice (cells := #[(.int .i64 (a0)), (.int .i64 (a1))]) (Want.plain rfl) rfl rfl rfl Tryz.underlying74 in3 rfl rfl rfl (by as_aux_lemma => kernel_rfl) (fun b9 => ?_)
 change TL _ _ _ _ _ _ _ _ _ [blkA b9 [(.int .i64 (a0)), (.int .i64 (a1))] 3, blkA b3 [(.int .i64 (a0)), (.int .i64 (a1)), (.int .i64 (g0)), (.int .i64 (g1)), (.int .i64 (g2)), (.int .i64 (g3)), (.int .i64 (g4))] 44, blkA wb [v] 200, ownB v (bs) 5]
 refine TL.nil ?_
 refine TE.draw (fun _ s => ⟨Frm.of s, s.block 1 (lb rfl) rfl, trivial⟩) ?_
 refine TD.all [6] (by kernel_rfl) rfl ?_
 refine AllT.cons rfl ?_ ?_
 refine TL.callR (A := [blkA wb [v] 200, ownB v (bs) 5]) (Want.plain rfl) rfl rfl rfl nm124 rfl (wnum_does wb v (bs) (.slice (some ⟨b9, 0, none⟩) (2) (2)) [a0, a1] (by simp only [List.length_append, List.length_cons, List.length_nil, Vector.length_toList]; first | omega | (have := encs_len [a0, a1]; simp only [List.length_cons, List.length_nil] at this; omega))) (fun _ s => sep_selR [2, 2] rfl s) (isN_piece 0 rfl rfl rfl rfl) (fun vR HR hR => ?_)
 obtain ⟨u1, rfl, rfl⟩ := hR
 change TL _ _ _ _ _ _ _ _ _ [blkA wb [u1] 200, ownB u1 (bs ++ encs [a0, a1]) 5, blkA b9 [(.int .i64 (a0)), (.int .i64 (a1))] 3, blkA b3 [(.int .i64 (a0)), (.int .i64 (a1)), (.int .i64 (g0)), (.int .i64 (g1)), (.int .i64 (g2)), (.int .i64 (g3)), (.int .i64 (g4))] 44]
 refine TL.nil ?_
 refine TE.draw (fun _ s => ⟨Frm.of s, s.block 3 (lb rfl) rfl, trivial⟩) ?_
 refine TD.all [9] (by kernel_rfl) rfl ?_
 refine AllT.cons rfl ?_ ?_
 refine TL.callR (A := [blkA wb [u1] 200, ownB u1 (bs ++ encs [a0, a1]) 5]) (Want.plain rfl) rfl rfl rfl nm124 rfl (wnum_does wb u1 (bs ++ encs [a0, a1]) (.slice (some ⟨b3, 2, none⟩) (5) (5)) [g0, g1, g2, g3, g4] (by simp only [List.length_append, List.length_cons, List.length_nil, Vector.length_toList]; first | omega | (have := encs_len [a0, a1]; simp only [List.length_cons, List.length_nil] at this; omega))) (fun _ s => s) (isN_piece 1 rfl rfl rfl rfl) (fun vR HR hR => ?_)
 obtain ⟨u2, rfl, rfl⟩ := hR
 change TL _ _ _ _ _ _ _ _ _ [blkA wb [u2] 200, ownB u2 (bs ++ encs [a0, a1] ++ encs [g0, g1, g2, g3, g4]) 5, blkA b9 [(.int .i64 (a0)), (.int .i64 (a1))] 3, blkA b3 [(.int .i64 (a0)), (.int .i64 (a1)), (.int .i64 (g0)), (.int .i64 (g1)), (.int .i64 (g2)), (.int .i64 (g3)), (.int .i64 (g4))] 44]
 refine TL.nil ?_
 refine TE.draw (fun _ s => ⟨Frm.of s, s.block 3 (lb rfl) rfl, trivial⟩) ?_
 refine TD.done (by kernel_rfl) ?_
 refine TE.weak (Sub.refl _) (fun _ s => sep_keep [0, 0] rfl s) ?_
 refine TE.end0 rfl ?_
 exact ⟨_, rfl, by rw [List.append_assoc, ← encs_append]; rfl⟩
 exact AllT.nil
 exact AllT.nil
 exact AllT.nil
theorem wcell_does (wb : Nat) (v : Value) (bs : List UInt8) (c : CellT) (hlen : bs.length + 70 ≤ 140737488355328) : Does Tryz.prog 133 #[(.pointer (some ⟨wb, 0, none⟩)), c.val] (fun _ => True) [blkA wb [v] 200, ownB v bs 5] (Ret (fun x H => ∃ v', x = .tuple #[] ∧ H = [blkA wb [v'] 200, ownB v' (bs ++ encs c.flat) 5])) := by
  obtain ⟨i, o, g⟩ := c
  exact vec5 (p := fun g => Does Tryz.prog 133 #[(.pointer (some ⟨wb, 0, none⟩)), CellT.val ⟨i, o, g⟩] (fun _ => True) [blkA wb [v] 200, ownB v bs 5] (Ret (fun x H => ∃ v', x = .tuple #[] ∧ H = [blkA wb [v'] 200, ownB v' (bs ++ encs (CellT.flat ⟨i, o, g⟩)) 5]))) (fun a b c d e => wcell_cells wb v bs i o a b c d e hlen) g

theorem wview_does (wb : Nat) (v : Value) (bs : List UInt8) (x : ViewT) (hlen : bs.length + 70 ≤ 140737488355328) : Does Tryz.prog 128 #[(.pointer (some ⟨wb, 0, none⟩)), x.val] (fun _ => True) [blkA wb [v] 200, ownB v bs 5] (WPost 200 5 wb (bs ++ encs x.flat)) := by
  obtain ⟨i, o, g⟩ := x
  exact vec5 (p := fun g => Does Tryz.prog 128 #[(.pointer (some ⟨wb, 0, none⟩)), ViewT.val ⟨i, o, g⟩] (fun _ => True) [blkA wb [v] 200, ownB v bs 5] (WPost 200 5 wb (bs ++ encs (ViewT.flat ⟨i, o, g⟩)))) (fun a b c d e => wview_cells wb v bs i o a b c d e hlen) g

theorem wchange_does (wb : Nat) (v : Value) (bs : List UInt8) (x : ChangeT) (hlen : bs.length + 30 ≤ 140737488355328) : Does Tryz.prog 127 #[(.pointer (some ⟨wb, 0, none⟩)), x.val] (fun _ => True) [blkA wb [v] 200, ownB v bs 5] (WPost 200 5 wb (bs ++ encs x.flat)) := wchange_cells wb v bs x.kind x.who x.heir (by omega)

theorem wballot_does (wb : Nat) (v : Value) (bs : List UInt8) (x : BallotT) (hlen : bs.length + 30 ≤ 140737488355328) : Does Tryz.prog 126 #[(.pointer (some ⟨wb, 0, none⟩)), x.val] (fun _ => True) [blkA wb [v] 200, ownB v bs 5] (WPost 200 5 wb (bs ++ encs x.flat)) := wballot_cells wb v bs x.round x.who (by omega)

theorem wrow_does (wb : Nat) (v : Value) (bs : List UInt8) (x : RowT) (hlen : bs.length + 2000 ≤ 140737488355328) :
    Does Tryz.prog 125 #[(.pointer (some ⟨wb, 0, none⟩)), (.agg (ints x.flat).toArray)] (fun _ => True) [blkA wb [v] 200, ownB v (bs) 5] (WPost 200 5 wb (bs ++ encRow x)) := by
 refine Does.body (vs := [(.pointer (some ⟨wb, 0, none⟩)), (.agg (ints x.flat).toArray)]) (n := 50) Tryz.func125 rfl rfl rfl (fun w0 F hF => ?_)
 refine sr fun _ J1 => ?_
 refine TL.box (Want.plain rfl) rfl rfl rfl rfl (fun b3 => ?_)
 change TL _ _ _ _ _ _ _ _ _ [blkA b3 (ints x.flat) 48, blkA wb [v] 200, ownB v (bs) 5]
 refine sg' ?_
 refine nx J1 ?_
 refine sr fun _ J2 => ?_
 refine mv ?_
 refine tp (PV.fieldAddr (r := 0) rfl Tryz.underlying48 rfl sz3 rfl rfl) ?_
 refine tp (PV.load1 (v := (.int .i64 (x.version))) rfl Tryz.underlying3 rfl rfl (Rd.own 0 rfl rfl) (RowT.get_version _)) ?_
 refine TL.buildSlice (cells := #[(.int .i64 (x.version))]) (Want.plain rfl) rfl rfl rfl Tryz.underlying74 in3 rfl rfl rfl (by as_aux_lemma => kernel_rfl) (fun b14 => ?_)
 change TL _ _ _ _ _ _ _ _ _ [blkA b14 [(.int .i64 (x.version))] 3, blkA b3 (ints x.flat) 48, blkA wb [v] 200, ownB v (bs) 5]
 refine TL.callR (A := [blkA wb [v] 200, ownB v (bs) 5]) (Want.plain rfl) rfl rfl rfl nm124 rfl (wnum_does wb v (bs) (.slice (some ⟨b14, 0, none⟩) (1) (1)) [x.version] (by have := congrArg List.length (Eq.refl bs); have := encRow_len x; simp only [List.length_append, List.length_cons, List.length_nil] at *; omega)) (fun _ s => sep_selR [2, 2] rfl s) (isN_piece 0 rfl rfl rfl rfl) (fun vR HR hR => ?_)
 obtain ⟨u1, rfl, rfl⟩ := hR
 change TL _ _ _ _ _ _ _ _ _ [blkA wb [u1] 200, ownB u1 (bs ++ encs [x.version]) 5, blkA b14 [(.int .i64 (x.version))] 3, blkA b3 (ints x.flat) 48]
 refine nx J2 ?_
 refine TC.seq fun _ J3 => ?_
 refine sr fun _ J4 => ?_
 refine tp (PV.fieldAddr (r := 1) rfl Tryz.underlying48 rfl sz45 rfl rfl) ?_
 refine tp (PV.loadN (vs := ints (flats x.cells.toList)) rfl Tryz.underlying45 rfl sz45 rfl (Rd.own 3 rfl rfl) (by rw [ints_length, flats_length]; simp) (RowT.get_cells _)) ?_
 refine mv ?_
 refine nx J4 ?_
 refine TC.block ?_
 refine TC.loop (α := (Nat) × (Value) × (List UInt8)) (fun ⟨k, u, laid⟩ => k ≤ 4 ∧ laid ++ (encs (flats (x.cells.toList.drop k)) ++ encHeirs x 5 0) = bs ++ encRow x) (fun ⟨k, u, laid⟩ => [(0, (.pointer (some ⟨wb, 0, none⟩))), (3, (.pointer (some ⟨b3, 0, none⟩))), (4, (.pointer none)), (17, (.agg (ints (flats x.cells.toList)).toArray)), (18, (.int .i64 ((k : Nat))))]) (fun ⟨k, u, laid⟩ => [blkA b3 (ints x.flat) 48, blkA wb [u] 200, ownB u (laid) 5]) (fun ⟨k, u, laid⟩ => 4 - k) (0, u1, bs ++ encs [x.version])
     ⟨by omega, by simp [encRow, encs]⟩ (Sub.r (Sub.r (Sub.r (Sub.r (Sub.cons rfl (by congr 1) (Sub.nil _))))))
     (fun _ s => sep_keep [3, 0, 0] rfl s) (fun ⟨k, u, laid⟩ hinv => ?_)
 obtain ⟨hk, hL⟩ := hinv
 have hE := hL
 rw [show encs (flats (x.cells.toList.drop k)) = encs (flats (x.cells.toList.drop k)) from rfl] at hE
 refine sr fun _ J5 => ?_
 refine tp (PV.lss rfl rfl rfl) ?_
 refine TL.dec (fun h19 => ?_) (fun h19 => ?_)
 refine nx J5 ?_
 refine TC.seq fun _ J6 => ?_
 refine TC.yes rfl ?_
 refine TC.skip ?_
 refine TE.next J6 ?_
 refine TC.seq fun _ J7 => ?_
 refine TC.block ?_
 refine sr fun _ J8 => ?_
 refine tp (PV.indexN (cs := ints (flats (x.cells.toList))) (r := k * 7) rfl Tryz.underlying45 Tryz.underlying44 rfl sz44 rfl rfl (by omega) (by omega) (by omega) (flats_get (by simp; omega))) ?_
 refine TL.alloc (Want.plain rfl) rfl rfl rfl z44 (fun b6 => ?_)
 change TL _ _ _ _ _ _ _ _ _ [blkA b6 [(.int .i64 0), (.int .i64 0), (.int .i64 0), (.int .i64 0), (.int .i64 0), (.int .i64 0), (.int .i64 0)] 44, blkA b3 (ints x.flat) 48, blkA wb [u] 200, ownB u (laid) 5]
 refine TL.store (vs := ints ((x.cells.toList)[k]'(by simp; omega)).flat) (cs' := ints ((x.cells.toList)[k]'(by simp; omega)).flat) (i := 0) (H' := [blkA b6 (ints ((x.cells.toList)[k]'(by simp; omega)).flat) 44, blkA b3 (ints x.flat) 48, blkA wb [u] 200, ownB u (laid) 5]) (Want.plain rfl) rfl rfl rfl rfl rfl (by rw [CellT.len]; exact sz44) (ints_one _) rfl rfl (by rw [CellT.len]; exact Nat.le_refl _) (wr_whole (by rw [CellT.len]; rfl)) rfl ?_
 refine nx J8 ?_
 refine TC.region ?_
 refine mv ?_
 refine tp (PV.loadN (vs := ints ((x.cells.toList)[k]'(by simp; omega)).flat) rfl Tryz.underlying44 rfl sz44 rfl (Rd.own 0 rfl rfl) (CellT.len _) (by rw [List.drop_zero, List.take_of_length_le (by rw [CellT.len]; decide)])) ?_
 refine TL.callR (A := [blkA wb [u] 200, ownB u (laid) 5]) (Want.plain rfl) rfl rfl rfl nm133 rfl (wcell_does wb u (laid) ((x.cells.toList)[k]'(by simp; omega)) (by have := congrArg List.length hE; have := encRow_len x; have := encs_len ((x.cells.toList)[k]'(by simp; omega)).flat; rw [CellT.flat_length] at this; simp only [List.length_append] at *; omega)) (fun _ s => sep_selR [2, 2] rfl s) (fun _ _ _ => trivial) (fun vR HR hR => ?_)
 obtain ⟨u2, rfl, rfl⟩ := hR
 change TL _ _ _ _ _ _ _ _ _ [blkA wb [u2] 200, ownB u2 (laid ++ encs ((x.cells.toList)[k]'(by simp; omega)).flat) 5, blkA b6 (ints ((x.cells.toList)[k]'(by simp; omega)).flat) 44, blkA b3 (ints x.flat) 48]
 refine TL.nil ?_
 refine TE.blockEnd ?_
 refine TE.next J7 ?_
 refine TC.region ?_
 refine tp (PV.add rfl rfl rfl (wrap_i64 (by omega) (by omega))) ?_
 refine mv ?_
 refine TL.nil ?_
 exact TE.round ((k + 1, u2, laid ++ encs ((x.cells.toList)[k]'(by simp; omega)).flat) : (Nat) × (Value) × (List UInt8)) ⟨by omega, by rw [← hL, flats_drop (l := x.cells.toList) (k := k) (by simp; omega)]; simp⟩ (by show _ - _ < _ - _; omega)
   (Sub.r (Sub.r (Sub.r (Sub.r (Sub.r (Sub.nil _))))))
   (fun _ s => sep_keep [3, 0, 0] rfl s)
 refine nx J5 ?_
 refine TC.seq fun _ J9 => ?_
 refine TC.no rfl ?_
 refine TC.exit ?_
 refine TE.pass ?_
 refine TE.pass ?_
 refine TE.hit ?_
 refine TE.next J3 ?_
 refine TC.seq fun _ J10 => ?_
 refine sr fun _ J11 => ?_
 refine tp (PV.fieldAddr (r := 29) rfl Tryz.underlying48 rfl sz42 rfl rfl) ?_
 refine tp (PV.loadN (vs := ints x.heir.toList) rfl Tryz.underlying42 rfl sz42 rfl (Rd.own 0 rfl rfl) (by rw [ints_length]; simp) (RowT.get_heirs _)) ?_
 refine mv ?_
 refine nx J11 ?_
 refine TC.block ?_
 refine TC.loop (α := (Nat) × (Value) × (List UInt8)) (fun ⟨i, u, laid⟩ => i ≤ 5 ∧ laid ++ encHeirs x (5 - i) i = bs ++ encRow x) (fun ⟨i, u, laid⟩ => [(0, (.pointer (some ⟨wb, 0, none⟩))), (3, (.pointer (some ⟨b3, 0, none⟩))), (4, (.pointer none)), (26, (.agg (ints x.heir.toList).toArray)), (27, (.int .i64 ((i : Nat))))]) (fun ⟨i, u, laid⟩ => [blkA b3 (ints x.flat) 48, blkA wb [u] 200, ownB u (laid) 5]) (fun ⟨i, u, laid⟩ => 5 - i) (0, u, laid)
     ⟨by omega, by rw [← hL, List.drop_eq_nil_of_le (by simp; omega)]; simp [flats, encs]⟩ (Sub.r (Sub.r (Sub.r (Sub.r (Sub.cons rfl (by congr 1) (Sub.nil _))))))
     (fun _ s => sep_keep [0, 0, 0] rfl s) (fun ⟨i, u, laid⟩ hinv => ?_)
 obtain ⟨hi, hL⟩ := hinv
 have hE := hL
 refine sr fun _ J12 => ?_
 refine tp (PV.lss rfl rfl rfl) ?_
 refine TL.dec (fun h28 => ?_) (fun h28 => ?_)
 refine nx J12 ?_
 refine TC.seq fun _ J13 => ?_
 refine TC.yes rfl ?_
 refine TC.skip ?_
 refine TE.next J13 ?_
 refine TC.seq fun _ J14 => ?_
 refine TC.block ?_
 refine sr fun _ J15 => ?_
 refine mv ?_
 refine tp (PV.index1 (cs := ints x.heir.toList) (v := .int .i64 (x.heir[i]'(by omega))) (r := i) rfl Tryz.underlying42 Tryz.underlying3 rfl sz3 rfl rfl (by omega) (by omega) (by omega) (by rw [ints_get _ _ (by simp; omega)]; simp [List.getD_eq_getElem?_getD, show i < 5 by omega])) ?_
 refine sg' ?_
 refine sg' ?_
 refine nx J15 ?_
 refine sr fun _ J16 => ?_
 refine mv ?_
 refine mv ?_
 refine TL.buildSlice (cells := #[(.int .i64 (x.heir[i]'(by omega)))]) (Want.plain rfl) rfl rfl rfl Tryz.underlying74 in3 rfl rfl rfl (by as_aux_lemma => kernel_rfl) (fun b33 => ?_)
 change TL _ _ _ _ _ _ _ _ _ [blkA b33 [(.int .i64 (x.heir[i]'(by omega)))] 3, blkA b3 (ints x.flat) 48, blkA wb [u] 200, ownB u (laid) 5]
 refine TL.callR (A := [blkA wb [u] 200, ownB u (laid) 5]) (Want.plain rfl) rfl rfl rfl nm124 rfl (wnum_does wb u (laid) (.slice (some ⟨b33, 0, none⟩) (1) (1)) [x.heir[i]'(by omega)] (by have := congrArg List.length hE; have := encRow_len x; simp only [List.length_append, List.length_cons, List.length_nil] at *; omega)) (fun _ s => sep_selR [2, 2] rfl s) (isN_piece 0 rfl rfl rfl rfl) (fun vR HR hR => ?_)
 obtain ⟨u2, rfl, rfl⟩ := hR
 change TL _ _ _ _ _ _ _ _ _ [blkA wb [u2] 200, ownB u2 (laid ++ encs [x.heir[i]'(by omega)]) 5, blkA b33 [(.int .i64 (x.heir[i]'(by omega)))] 3, blkA b3 (ints x.flat) 48]
 refine nx J16 ?_
 refine sr fun _ J17 => ?_
 refine mv ?_
 refine tp (PV.gtr rfl rfl rfl) ?_
 refine TL.dec (fun h36 => ?_) (fun h36 => ?_)
 refine nx J17 ?_
 refine TC.yes rfl ?_
 refine sr fun _ J18 => ?_
 refine mv ?_
 refine tp (PV.fieldAddr (r := 34) rfl Tryz.underlying48 rfl sz46 rfl rfl) ?_
 refine tp (PV.indexArr (r := 34 + i * 28) rfl Tryz.underlying46 sz45 rfl rfl (by omega) (by omega) (by omega)) ?_
 refine tp (PV.loadN (vs := ints (flats (x.left[i]'(by omega)).toList)) rfl Tryz.underlying45 rfl sz45 rfl (Rd.own 3 rfl rfl) (by rw [ints_length, flats_length]; simp) (RowT.get_left _ i (by omega))) ?_
 refine mv ?_
 refine nx J18 ?_
 refine TC.block ?_
 refine TC.loop (α := (Nat) × (Value) × (List UInt8)) (fun ⟨k, u3, laid3⟩ => k ≤ 4 ∧ laid3 ++ (encs (flats ((x.left[i]'(by omega)).toList.drop k)) ++ encHeirs x (5 - (i + 1)) (i + 1)) = bs ++ encRow x) (fun ⟨k, u3, laid3⟩ => [(0, (.pointer (some ⟨wb, 0, none⟩))), (3, (.pointer (some ⟨b3, 0, none⟩))), (4, (.pointer none)), (26, (.agg (ints x.heir.toList).toArray)), (27, (.int .i64 ((i : Nat)))), (40, (.agg (ints (flats (x.left[i]'(by omega)).toList)).toArray)), (41, (.int .i64 ((k : Nat))))]) (fun ⟨k, u3, laid3⟩ => [blkA b3 (ints x.flat) 48, blkA wb [u3] 200, ownB u3 (laid3) 5]) (fun ⟨k, u3, laid3⟩ => 4 - k) (0, u2, laid ++ encs [x.heir[i]'(by omega)])
     ⟨by omega, by rw [← hL, encHeirs_step (i := i) (by omega), if_pos h36]; simp [encs]⟩ (Sub.r (Sub.r (Sub.r (Sub.r (Sub.r (Sub.r (Sub.cons rfl (by congr 1) (Sub.nil _))))))))
     (fun _ s => sep_keep [3, 0, 0] rfl s) (fun ⟨k, u3, laid3⟩ hinv => ?_)
 obtain ⟨hk, hM⟩ := hinv
 have hE := hM
 refine sr fun _ J19 => ?_
 refine tp (PV.lss rfl rfl rfl) ?_
 refine TL.dec (fun h42 => ?_) (fun h42 => ?_)
 refine nx J19 ?_
 refine TC.seq fun _ J20 => ?_
 refine TC.yes rfl ?_
 refine TC.skip ?_
 refine TE.next J20 ?_
 refine TC.seq fun _ J21 => ?_
 refine TC.block ?_
 refine sr fun _ J22 => ?_
 refine tp (PV.indexN (cs := ints (flats ((x.left[i]'(by omega)).toList))) (r := k * 7) rfl Tryz.underlying45 Tryz.underlying44 rfl sz44 rfl rfl (by omega) (by omega) (by omega) (flats_get (by simp; omega))) ?_
 refine TL.alloc (Want.plain rfl) rfl rfl rfl z44 (fun b10 => ?_)
 change TL _ _ _ _ _ _ _ _ _ [blkA b10 [(.int .i64 0), (.int .i64 0), (.int .i64 0), (.int .i64 0), (.int .i64 0), (.int .i64 0), (.int .i64 0)] 44, blkA b3 (ints x.flat) 48, blkA wb [u3] 200, ownB u3 (laid3) 5]
 refine TL.store (vs := ints (((x.left[i]'(by omega)).toList)[k]'(by simp; omega)).flat) (cs' := ints (((x.left[i]'(by omega)).toList)[k]'(by simp; omega)).flat) (i := 0) (H' := [blkA b10 (ints (((x.left[i]'(by omega)).toList)[k]'(by simp; omega)).flat) 44, blkA b3 (ints x.flat) 48, blkA wb [u3] 200, ownB u3 (laid3) 5]) (Want.plain rfl) rfl rfl rfl rfl rfl (by rw [CellT.len]; exact sz44) (ints_one _) rfl rfl (by rw [CellT.len]; exact Nat.le_refl _) (wr_whole (by rw [CellT.len]; rfl)) rfl ?_
 refine nx J22 ?_
 refine TC.region ?_
 refine mv ?_
 refine tp (PV.loadN (vs := ints (((x.left[i]'(by omega)).toList)[k]'(by simp; omega)).flat) rfl Tryz.underlying44 rfl sz44 rfl (Rd.own 0 rfl rfl) (CellT.len _) (by rw [List.drop_zero, List.take_of_length_le (by rw [CellT.len]; decide)])) ?_
 refine TL.callR (A := [blkA wb [u3] 200, ownB u3 (laid3) 5]) (Want.plain rfl) rfl rfl rfl nm133 rfl (wcell_does wb u3 (laid3) (((x.left[i]'(by omega)).toList)[k]'(by simp; omega)) (by have := congrArg List.length hE; have := encRow_len x; have := encs_len (((x.left[i]'(by omega)).toList)[k]'(by simp; omega)).flat; rw [CellT.flat_length] at this; simp only [List.length_append] at *; omega)) (fun _ s => sep_selR [2, 2] rfl s) (fun _ _ _ => trivial) (fun vR HR hR => ?_)
 obtain ⟨u3, rfl, rfl⟩ := hR
 change TL _ _ _ _ _ _ _ _ _ [blkA wb [u3] 200, ownB u3 (laid3 ++ encs (((x.left[i]'(by omega)).toList)[k]'(by simp; omega)).flat) 5, blkA b10 (ints (((x.left[i]'(by omega)).toList)[k]'(by simp; omega)).flat) 44, blkA b3 (ints x.flat) 48]
 refine TL.nil ?_
 refine TE.blockEnd ?_
 refine TE.next J21 ?_
 refine TC.region ?_
 refine tp (PV.add rfl rfl rfl (wrap_i64 (by omega) (by omega))) ?_
 refine mv ?_
 refine TL.nil ?_
 exact TE.round ((k + 1, u3, laid3 ++ encs (((x.left[i]'(by omega)).toList)[k]'(by simp; omega)).flat) : (Nat) × (Value) × (List UInt8)) ⟨by omega, by rw [← hM, flats_drop (l := (x.left[i]'(by omega)).toList) (k := k) (by simp; omega)]; simp⟩ (by show _ - _ < _ - _; omega)
   (Sub.r (Sub.r (Sub.r (Sub.r (Sub.r (Sub.r (Sub.r (Sub.nil _))))))))
   (fun _ s => sep_keep [3, 0, 0] rfl s)
 refine nx J19 ?_
 refine TC.seq fun _ J23 => ?_
 refine TC.no rfl ?_
 refine TC.exit ?_
 refine TE.pass ?_
 refine TE.pass ?_
 refine TE.hit ?_
 refine TE.blockEnd ?_
 refine TE.next J14 ?_
 refine TC.region ?_
 refine tp (PV.add rfl rfl rfl (wrap_i64 (by omega) (by omega))) ?_
 refine mv ?_
 refine TL.nil ?_
 exact TE.round ((i + 1, u3, laid3) : (Nat) × (Value) × (List UInt8)) ⟨by omega, by rw [← hM, List.drop_eq_nil_of_le (by simp; omega)]; simp [flats, encs]⟩ (by show _ - _ < _ - _; omega)
   (Sub.r (Sub.r (Sub.r (Sub.r (Sub.r (Sub.nil _))))))
   (fun _ s => sep_keep [0, 0, 0] rfl s)
 refine nx J17 ?_
 refine TC.no rfl ?_
 refine TC.skip ?_
 refine TE.blockEnd ?_
 refine TE.next J14 ?_
 refine TC.region ?_
 refine tp (PV.add rfl rfl rfl (wrap_i64 (by omega) (by omega))) ?_
 refine mv ?_
 refine TL.nil ?_
 exact TE.round ((i + 1, u2, laid ++ encs [x.heir[i]'(by omega)]) : (Nat) × (Value) × (List UInt8)) ⟨by omega, by rw [← hL, encHeirs_step (i := i) (by omega), if_neg h36]; simp [encs]⟩ (by show _ - _ < _ - _; omega)
   (Sub.r (Sub.r (Sub.r (Sub.r (Sub.r (Sub.nil _))))))
   (fun _ s => sep_keep [3, 0, 0] rfl s)
 refine nx J12 ?_
 refine TC.seq fun _ J24 => ?_
 refine TC.no rfl ?_
 refine TC.exit ?_
 refine TE.pass ?_
 refine TE.pass ?_
 refine TE.hit ?_
 refine TE.next J10 ?_
 refine sr fun _ J25 => ?_
 refine mv ?_
 refine sg' ?_
 refine nx J25 ?_
 refine TC.ret ?_
 refine TE.weak (Sub.refl _) (fun _ s => sep_keep [1, 1] rfl s) ?_
 refine TE.ret1 rfl rfl ?_
 obtain rfl : laid = bs ++ encRow x := by rw [← hL, show 5 - i = 0 by omega]; simp [encHeirs]
 exact ⟨u, rfl, rfl⟩
end Go.Proofs.YtfceaphohlbnbaaGreat
end

section
namespace Go.Proofs.YtfceaphohlbnbaaGreat

open Go Leg Codec Api

set_option linter.unusedSimpArgs false
set_option linter.unusedVariables false

set_option maxRecDepth 100000

set_option maxHeartbeats 8000000

theorem record_does (m : RecT) :
    Does Tryz.prog 113 #[(.agg (ints m.flat).toArray)] (fun _ => True) [] (Ret (fun r' H => ∃ u, r' = u ∧ H = [ownB u (encR m) 5])) := by
 refine Does.body (vs := [(.agg (ints m.flat).toArray)]) (n := 77) Tryz.func113 rfl rfl rfl (fun w0 F hF => ?_)
 refine sr fun _ J1 => ?_
 refine TL.box (Want.plain rfl) rfl rfl rfl rfl (fun b1 => ?_)
 change TL _ _ _ _ _ _ _ _ _ [blkA b1 (ints m.flat) 108]
 refine sg' ?_
 refine nx J1 ?_
 clear J1
 refine sr fun _ J2 => ?_
 refine TL.alloc (Want.plain rfl) rfl rfl rfl z200 (fun b4 => ?_)
 change TL _ _ _ _ _ _ _ _ _ [blkA b4 [(.slice none 0 0)] 200, blkA b1 (ints m.flat) 108]
 refine TL.ownNil 5 (fun on => ?_)
 clear on
 refine sg' ?_
 refine nx J2 ?_
 clear J2
 refine TC.seq fun _ J3 => ?_
 refine sr fun _ J4 => ?_
 refine tp (PV.fieldAddr (r := 0) rfl Tryz.underlying108 rfl sz3 rfl rfl) ?_
 refine tp (PV.load1 (v := (.int .i64 (m.kind))) rfl Tryz.underlying3 rfl rfl (Rd.own 2 rfl rfl) (RecT.at_kind m rfl)) ?_
 refine nx J4 ?_
 clear J4
 refine TC.block ?_
 refine sr fun _ J5 => ?_
 refine tp (PV.eql rfl rfl rfl) ?_
 refine TL.dec (fun h8 => ?_) (fun h8 => ?_)
 refine sg' ?_
 refine nx J5 ?_
 clear J5
 refine TC.yes rfl ?_
 refine TC.draw (fun w => Frm F w ∧ w.heap[b1]? = some (.cells (ints m.flat).toArray 108 (0, 0)) ∧ True) mixed rfl (fun _ s => ⟨Frm.of s, s.block 2 (lb rfl) rfl, trivial⟩) ?_
 refine ta 0 rfl (PV.move rfl rfl) ?_
 refine ta 1 rfl (PV.fieldAddr (r := 0) rfl Tryz.underlying108 rfl sz3 rfl rfl) ?_
 refine ta 2 rfl (PV.load1 (v := (.int .i64 (m.kind))) rfl Tryz.underlying3 rfl rfl (fun _ h => h.2.1) (RecT.at_kind m rfl)) ?_
 refine ta 5 rfl (PV.fieldAddr (r := 2) rfl Tryz.underlying108 rfl sz48 rfl rfl) ?_
 refine ta 6 rfl (PV.loadN (vs := ints m.row.flat) rfl Tryz.underlying48 rfl sz48 rfl (fun _ h => h.2.1) (RowT.len m.row) (RecT.sub_row m 0 rfl (by decide) (whole (RowT.len m.row)))) ?_
 refine TD.all [3] (by kernel_rfl) rfl ?_
 refine AllT.cons rfl ?_ ?_
 refine TL.buildSlice (cells := #[(.int .i64 (m.kind))]) (Want.plain rfl) rfl rfl rfl Tryz.underlying74 in3 rfl rfl rfl (by as_aux_lemma => kernel_rfl) (fun b12 => ?_)
 change TL _ _ _ _ _ _ _ _ _ [blkA b12 [(.int .i64 (m.kind))] 3, ownB (.slice none 0 0) ([]) 5, blkA b4 [(.slice none 0 0)] 200, blkA b1 (ints m.flat) 108]
 refine TL.nil ?_
 refine TE.draw (fun _ s => ⟨Frm.of s, s.block 3 (lb rfl) rfl, trivial⟩) ?_
 refine TD.all [4] (by kernel_rfl) rfl ?_
 refine AllT.cons rfl ?_ ?_
 refine TL.callR (A := [blkA b4 [(.slice none 0 0)] 200, ownB (.slice none 0 0) ([]) 5]) (Want.plain rfl) rfl rfl rfl nm124 rfl (wnum_does b4 (.slice none 0 0) ([]) (.slice (some ⟨b12, 0, none⟩) (1) (1)) [m.kind] (by simp)) (fun _ s => sep_selR [2, 1] rfl s) (isN_piece 0 rfl rfl rfl rfl) (fun vR HR hR => ?_)
 obtain ⟨u1, rfl, rfl⟩ := hR
 change TL _ _ _ _ _ _ _ _ _ [blkA b4 [u1] 200, ownB u1 (encs [m.kind]) 5, blkA b12 [(.int .i64 (m.kind))] 3, blkA b1 (ints m.flat) 108]
 refine TL.nil ?_
 refine TE.draw (fun _ s => ⟨Frm.of s, s.block 3 (lb rfl) rfl, trivial⟩) ?_
 refine TD.all [7] (by kernel_rfl) rfl ?_
 refine AllT.cons rfl ?_ ?_
 refine TL.callR (A := [blkA b4 [u1] 200, ownB u1 (encs [m.kind]) 5]) (Want.plain rfl) rfl rfl rfl nm125 rfl (wrow_does b4 u1 (encs [m.kind]) m.row (by (have := encs_len [m.kind]); simp only [BallotT.flat, ViewT.flat, ChangeT.flat, List.length_cons, List.length_nil, Vector.length_toList, List.length_append] at *; omega)) (fun _ s => s) (fun _ _ _ => trivial) (fun vR HR hR => ?_)
 obtain ⟨u2, rfl, rfl⟩ := hR
 change TL _ _ _ _ _ _ _ _ _ [blkA b4 [u2] 200, ownB u2 (encs [m.kind] ++ encRow m.row) 5, blkA b12 [(.int .i64 (m.kind))] 3, blkA b1 (ints m.flat) 108]
 refine TL.nil ?_
 refine TE.draw (fun _ s => ⟨Frm.of s, s.block 3 (lb rfl) rfl, trivial⟩) ?_
 refine TD.done (by kernel_rfl) ?_
 refine TE.blockEnd ?_
 refine TE.next J3 ?_
 clear J3
 refine sr fun _ J6 => ?_
 refine mv ?_
 refine TL.callR (A := [blkA b4 [u2] 200, ownB u2 (encs [m.kind] ++ encRow m.row) 5]) (Want.plain rfl) rfl rfl rfl nm129 rfl (wbytes_does b4 u2 (encs [m.kind] ++ encRow m.row) (by (have := encs_len [m.kind]); (have := encRow_len m.row); simp only [BallotT.flat, ViewT.flat, ChangeT.flat, List.length_cons, List.length_nil, Vector.length_toList, List.length_append] at *; omega)) (fun _ s => s) (fun _ _ _ => trivial) (fun vR HR hR => ?_)
 obtain ⟨_, rfl, rfl⟩ := hR
 revert vR
 intro u3
 change TL _ _ _ _ _ _ _ _ _ [blkA b4 [u2] 200, ownB u2 (encs [m.kind] ++ encRow m.row) 5, ownB u3 (encs [m.kind] ++ encRow m.row) 5, blkA b12 [(.int .i64 (m.kind))] 3, blkA b1 (ints m.flat) 108]
 refine sg' ?_
 refine nx J6 ?_
 clear J6
 refine TC.ret ?_
 refine TE.weak (Sub.refl _) (fun _ s => sep_keep [2] rfl s) ?_
 refine TE.ret1 rfl rfl ?_
 exact ⟨_, rfl, congrArg (fun b => [ownB u3 b 5]) (show (encs [m.kind] ++ encRow m.row) = encR m by simp [encR, kRow, kAsk, encs, *])⟩
 exact AllT.nil
 exact AllT.nil
 exact AllT.nil
 refine sg' ?_
 refine nx J5 ?_
 clear J5
 refine TC.no rfl ?_
 refine sr fun _ J7 => ?_
 refine tp (PV.eql rfl rfl rfl) ?_
 refine TL.dec (fun h18 => ?_) (fun h18 => ?_)
 refine sg' ?_
 refine nx J7 ?_
 clear J7
 refine TC.yes rfl ?_
 refine TC.draw (fun w => Frm F w ∧ w.heap[b1]? = some (.cells (ints m.flat).toArray 108 (0, 0)) ∧ True) mixed rfl (fun _ s => ⟨Frm.of s, s.block 2 (lb rfl) rfl, trivial⟩) ?_
 refine ta 0 rfl (PV.move rfl rfl) ?_
 refine ta 1 rfl (PV.fieldAddr (r := 0) rfl Tryz.underlying108 rfl sz3 rfl rfl) ?_
 refine ta 2 rfl (PV.load1 (v := (.int .i64 (m.kind))) rfl Tryz.underlying3 rfl rfl (fun _ h => h.2.1) (RecT.at_kind m rfl)) ?_
 refine ta 3 rfl (PV.fieldAddr (r := 1) rfl Tryz.underlying108 rfl sz3 rfl rfl) ?_
 refine ta 4 rfl (PV.load1 (v := (.int .i64 (m.whose))) rfl Tryz.underlying3 rfl rfl (fun _ h => h.2.1) (RecT.at_whose m rfl)) ?_
 refine ta 7 rfl (PV.fieldAddr (r := 2) rfl Tryz.underlying108 rfl sz48 rfl rfl) ?_
 refine ta 8 rfl (PV.loadN (vs := ints m.row.flat) rfl Tryz.underlying48 rfl sz48 rfl (fun _ h => h.2.1) (RowT.len m.row) (RecT.sub_row m 0 rfl (by decide) (whole (RowT.len m.row)))) ?_
 refine TD.all [5] (by kernel_rfl) rfl ?_
 refine AllT.cons rfl ?_ ?_
 refine TL.buildSlice (cells := #[(.int .i64 (m.kind)), (.int .i64 (m.whose))]) (Want.plain rfl) rfl rfl rfl Tryz.underlying74 in3 rfl rfl rfl (by as_aux_lemma => kernel_rfl) (fun b24 => ?_)
 change TL _ _ _ _ _ _ _ _ _ [blkA b24 [(.int .i64 (m.kind)), (.int .i64 (m.whose))] 3, ownB (.slice none 0 0) ([]) 5, blkA b4 [(.slice none 0 0)] 200, blkA b1 (ints m.flat) 108]
 refine TL.nil ?_
 refine TE.draw (fun _ s => ⟨Frm.of s, s.block 3 (lb rfl) rfl, trivial⟩) ?_
 refine TD.all [6] (by kernel_rfl) rfl ?_
 refine AllT.cons rfl ?_ ?_
 refine TL.callR (A := [blkA b4 [(.slice none 0 0)] 200, ownB (.slice none 0 0) ([]) 5]) (Want.plain rfl) rfl rfl rfl nm124 rfl (wnum_does b4 (.slice none 0 0) ([]) (.slice (some ⟨b24, 0, none⟩) (2) (2)) [m.kind, m.whose] (by simp)) (fun _ s => sep_selR [2, 1] rfl s) (isN_piece 0 rfl rfl rfl rfl) (fun vR HR hR => ?_)
 obtain ⟨u1, rfl, rfl⟩ := hR
 change TL _ _ _ _ _ _ _ _ _ [blkA b4 [u1] 200, ownB u1 (encs [m.kind, m.whose]) 5, blkA b24 [(.int .i64 (m.kind)), (.int .i64 (m.whose))] 3, blkA b1 (ints m.flat) 108]
 refine TL.nil ?_
 refine TE.draw (fun _ s => ⟨Frm.of s, s.block 3 (lb rfl) rfl, trivial⟩) ?_
 refine TD.all [9] (by kernel_rfl) rfl ?_
 refine AllT.cons rfl ?_ ?_
 refine TL.callR (A := [blkA b4 [u1] 200, ownB u1 (encs [m.kind, m.whose]) 5]) (Want.plain rfl) rfl rfl rfl nm125 rfl (wrow_does b4 u1 (encs [m.kind, m.whose]) m.row (by (have := encs_len [m.kind, m.whose]); simp only [BallotT.flat, ViewT.flat, ChangeT.flat, List.length_cons, List.length_nil, Vector.length_toList, List.length_append] at *; omega)) (fun _ s => s) (fun _ _ _ => trivial) (fun vR HR hR => ?_)
 obtain ⟨u2, rfl, rfl⟩ := hR
 change TL _ _ _ _ _ _ _ _ _ [blkA b4 [u2] 200, ownB u2 (encs [m.kind, m.whose] ++ encRow m.row) 5, blkA b24 [(.int .i64 (m.kind)), (.int .i64 (m.whose))] 3, blkA b1 (ints m.flat) 108]
 refine TL.nil ?_
 refine TE.draw (fun _ s => ⟨Frm.of s, s.block 3 (lb rfl) rfl, trivial⟩) ?_
 refine TD.done (by kernel_rfl) ?_
 refine TE.blockEnd ?_
 refine TE.next J3 ?_
 clear J3
 refine sr fun _ J8 => ?_
 refine mv ?_
 refine TL.callR (A := [blkA b4 [u2] 200, ownB u2 (encs [m.kind, m.whose] ++ encRow m.row) 5]) (Want.plain rfl) rfl rfl rfl nm129 rfl (wbytes_does b4 u2 (encs [m.kind, m.whose] ++ encRow m.row) (by (have := encs_len [m.kind, m.whose]); (have := encRow_len m.row); simp only [BallotT.flat, ViewT.flat, ChangeT.flat, List.length_cons, List.length_nil, Vector.length_toList, List.length_append] at *; omega)) (fun _ s => s) (fun _ _ _ => trivial) (fun vR HR hR => ?_)
 obtain ⟨_, rfl, rfl⟩ := hR
 revert vR
 intro u3
 change TL _ _ _ _ _ _ _ _ _ [blkA b4 [u2] 200, ownB u2 (encs [m.kind, m.whose] ++ encRow m.row) 5, ownB u3 (encs [m.kind, m.whose] ++ encRow m.row) 5, blkA b24 [(.int .i64 (m.kind)), (.int .i64 (m.whose))] 3, blkA b1 (ints m.flat) 108]
 refine sg' ?_
 refine nx J8 ?_
 clear J8
 refine TC.ret ?_
 refine TE.weak (Sub.refl _) (fun _ s => sep_keep [2] rfl s) ?_
 refine TE.ret1 rfl rfl ?_
 exact ⟨_, rfl, congrArg (fun b => [ownB u3 b 5]) (show (encs [m.kind, m.whose] ++ encRow m.row) = encR m by simp [encR, kRow, kAsk, encs, *])⟩
 exact AllT.nil
 exact AllT.nil
 exact AllT.nil
 refine sg' ?_
 refine nx J7 ?_
 clear J7
 refine TC.no rfl ?_
 refine sr fun _ J9 => ?_
 refine tp (PV.eql rfl rfl rfl) ?_
 refine TL.dec (fun h30 => ?_) (fun h30 => ?_)
 refine sg' ?_
 refine nx J9 ?_
 clear J9
 refine TC.yes rfl ?_
 refine TC.region ?_
 refine mv ?_
 refine tp (PV.fieldAddr (r := 0) rfl Tryz.underlying108 rfl sz3 rfl rfl) ?_
 refine tp (PV.load1 (v := (.int .i64 (m.kind))) rfl Tryz.underlying3 rfl rfl (Rd.own 2 rfl rfl) (RecT.at_kind m rfl)) ?_
 refine tp (PV.fieldAddr (r := 1) rfl Tryz.underlying108 rfl sz3 rfl rfl) ?_
 refine tp (PV.load1 (v := (.int .i64 (m.whose))) rfl Tryz.underlying3 rfl rfl (Rd.own 2 rfl rfl) (RecT.at_whose m rfl)) ?_
 refine TL.buildSlice (cells := #[(.int .i64 (m.kind)), (.int .i64 (m.whose))]) (Want.plain rfl) rfl rfl rfl Tryz.underlying74 in3 rfl rfl rfl (by as_aux_lemma => kernel_rfl) (fun b36 => ?_)
 change TL _ _ _ _ _ _ _ _ _ [blkA b36 [(.int .i64 (m.kind)), (.int .i64 (m.whose))] 3, ownB (.slice none 0 0) ([]) 5, blkA b4 [(.slice none 0 0)] 200, blkA b1 (ints m.flat) 108]
 refine TL.callR (A := [blkA b4 [(.slice none 0 0)] 200, ownB (.slice none 0 0) ([]) 5]) (Want.plain rfl) rfl rfl rfl nm124 rfl (wnum_does b4 (.slice none 0 0) ([]) (.slice (some ⟨b36, 0, none⟩) (2) (2)) [m.kind, m.whose] (by simp)) (fun _ s => sep_selR [2, 1] rfl s) (isN_piece 0 rfl rfl rfl rfl) (fun vR HR hR => ?_)
 obtain ⟨u1, rfl, rfl⟩ := hR
 change TL _ _ _ _ _ _ _ _ _ [blkA b4 [u1] 200, ownB u1 (encs [m.kind, m.whose]) 5, blkA b36 [(.int .i64 (m.kind)), (.int .i64 (m.whose))] 3, blkA b1 (ints m.flat) 108]
 refine TL.nil ?_
 refine TE.blockEnd ?_
 refine TE.next J3 ?_
 clear J3
 refine sr fun _ J10 => ?_
 refine mv ?_
 refine TL.callR (A := [blkA b4 [u1] 200, ownB u1 (encs [m.kind, m.whose]) 5]) (Want.plain rfl) rfl rfl rfl nm129 rfl (wbytes_does b4 u1 (encs [m.kind, m.whose]) (by (have := encs_len [m.kind, m.whose]); simp only [BallotT.flat, ViewT.flat, ChangeT.flat, List.length_cons, List.length_nil, Vector.length_toList, List.length_append] at *; omega)) (fun _ s => s) (fun _ _ _ => trivial) (fun vR HR hR => ?_)
 obtain ⟨_, rfl, rfl⟩ := hR
 revert vR
 intro u2
 change TL _ _ _ _ _ _ _ _ _ [blkA b4 [u1] 200, ownB u1 (encs [m.kind, m.whose]) 5, ownB u2 (encs [m.kind, m.whose]) 5, blkA b36 [(.int .i64 (m.kind)), (.int .i64 (m.whose))] 3, blkA b1 (ints m.flat) 108]
 refine sg' ?_
 refine nx J10 ?_
 clear J10
 refine TC.ret ?_
 refine TE.weak (Sub.refl _) (fun _ s => sep_keep [2] rfl s) ?_
 refine TE.ret1 rfl rfl ?_
 exact ⟨_, rfl, congrArg (fun b => [ownB u2 b 5]) (show (encs [m.kind, m.whose]) = encR m by simp [encR, kRow, kAsk, encs, *])⟩
 refine sg' ?_
 refine nx J9 ?_
 clear J9
 refine TC.no rfl ?_
 refine sr fun _ J11 => ?_
 refine tp (PV.eql rfl rfl rfl) ?_
 refine TL.dec (fun h39 => ?_) (fun h39 => ?_)
 refine sg' ?_
 refine nx J11 ?_
 clear J11
 refine TC.yes rfl ?_
 refine TC.draw (fun w => Frm F w ∧ w.heap[b1]? = some (.cells (ints m.flat).toArray 108 (0, 0)) ∧ True) mixed rfl (fun _ s => ⟨Frm.of s, s.block 2 (lb rfl) rfl, trivial⟩) ?_
 refine ta 0 rfl (PV.move rfl rfl) ?_
 refine ta 1 rfl (PV.fieldAddr (r := 0) rfl Tryz.underlying108 rfl sz3 rfl rfl) ?_
 refine ta 2 rfl (PV.load1 (v := (.int .i64 (m.kind))) rfl Tryz.underlying3 rfl rfl (fun _ h => h.2.1) (RecT.at_kind m rfl)) ?_
 refine ta 3 rfl (PV.fieldAddr (r := 176) rfl Tryz.underlying108 rfl sz3 rfl rfl) ?_
 refine ta 4 rfl (PV.load1 (v := (.int .i64 (m.epoch))) rfl Tryz.underlying3 rfl rfl (fun _ h => h.2.1) (RecT.at_epoch m rfl)) ?_
 refine ta 7 rfl (PV.fieldAddr (r := 177) rfl Tryz.underlying108 rfl sz50 rfl rfl) ?_
 refine ta 8 rfl (PV.loadN (vs := ints m.ballot.flat) rfl Tryz.underlying50 rfl sz50 rfl (fun _ h => h.2.1) (BallotT.len m.ballot) (RecT.sub_ballot m 0 rfl (by decide) (whole (BallotT.len m.ballot)))) ?_
 refine TD.all [5] (by kernel_rfl) rfl ?_
 refine AllT.cons rfl ?_ ?_
 refine TL.buildSlice (cells := #[(.int .i64 (m.kind)), (.int .i64 (m.epoch))]) (Want.plain rfl) rfl rfl rfl Tryz.underlying74 in3 rfl rfl rfl (by as_aux_lemma => kernel_rfl) (fun b45 => ?_)
 change TL _ _ _ _ _ _ _ _ _ [blkA b45 [(.int .i64 (m.kind)), (.int .i64 (m.epoch))] 3, ownB (.slice none 0 0) ([]) 5, blkA b4 [(.slice none 0 0)] 200, blkA b1 (ints m.flat) 108]
 refine TL.nil ?_
 refine TE.draw (fun _ s => ⟨Frm.of s, s.block 3 (lb rfl) rfl, trivial⟩) ?_
 refine TD.all [6] (by kernel_rfl) rfl ?_
 refine AllT.cons rfl ?_ ?_
 refine TL.callR (A := [blkA b4 [(.slice none 0 0)] 200, ownB (.slice none 0 0) ([]) 5]) (Want.plain rfl) rfl rfl rfl nm124 rfl (wnum_does b4 (.slice none 0 0) ([]) (.slice (some ⟨b45, 0, none⟩) (2) (2)) [m.kind, m.epoch] (by simp)) (fun _ s => sep_selR [2, 1] rfl s) (isN_piece 0 rfl rfl rfl rfl) (fun vR HR hR => ?_)
 obtain ⟨u1, rfl, rfl⟩ := hR
 change TL _ _ _ _ _ _ _ _ _ [blkA b4 [u1] 200, ownB u1 (encs [m.kind, m.epoch]) 5, blkA b45 [(.int .i64 (m.kind)), (.int .i64 (m.epoch))] 3, blkA b1 (ints m.flat) 108]
 refine TL.nil ?_
 refine TE.draw (fun _ s => ⟨Frm.of s, s.block 3 (lb rfl) rfl, trivial⟩) ?_
 refine TD.all [9] (by kernel_rfl) rfl ?_
 refine AllT.cons rfl ?_ ?_
 refine TL.callR (A := [blkA b4 [u1] 200, ownB u1 (encs [m.kind, m.epoch]) 5]) (Want.plain rfl) rfl rfl rfl nm126 rfl (wballot_does b4 u1 (encs [m.kind, m.epoch]) m.ballot (by (have := encs_len [m.kind, m.epoch]); simp only [BallotT.flat, ViewT.flat, ChangeT.flat, List.length_cons, List.length_nil, Vector.length_toList, List.length_append] at *; omega)) (fun _ s => s) (fun _ _ _ => trivial) (fun vR HR hR => ?_)
 obtain ⟨u2, rfl, rfl⟩ := hR
 change TL _ _ _ _ _ _ _ _ _ [blkA b4 [u2] 200, ownB u2 (encs [m.kind, m.epoch] ++ encs m.ballot.flat) 5, blkA b45 [(.int .i64 (m.kind)), (.int .i64 (m.epoch))] 3, blkA b1 (ints m.flat) 108]
 refine TL.nil ?_
 refine TE.draw (fun _ s => ⟨Frm.of s, s.block 3 (lb rfl) rfl, trivial⟩) ?_
 refine TD.done (by kernel_rfl) ?_
 refine TE.blockEnd ?_
 refine TE.next J3 ?_
 clear J3
 refine sr fun _ J12 => ?_
 refine mv ?_
 refine TL.callR (A := [blkA b4 [u2] 200, ownB u2 (encs [m.kind, m.epoch] ++ encs m.ballot.flat) 5]) (Want.plain rfl) rfl rfl rfl nm129 rfl (wbytes_does b4 u2 (encs [m.kind, m.epoch] ++ encs m.ballot.flat) (by (have := encs_len [m.kind, m.epoch]); (have := encs_len (m.ballot.flat)); simp only [BallotT.flat, ViewT.flat, ChangeT.flat, List.length_cons, List.length_nil, Vector.length_toList, List.length_append] at *; omega)) (fun _ s => s) (fun _ _ _ => trivial) (fun vR HR hR => ?_)
 obtain ⟨_, rfl, rfl⟩ := hR
 revert vR
 intro u3
 change TL _ _ _ _ _ _ _ _ _ [blkA b4 [u2] 200, ownB u2 (encs [m.kind, m.epoch] ++ encs m.ballot.flat) 5, ownB u3 (encs [m.kind, m.epoch] ++ encs m.ballot.flat) 5, blkA b45 [(.int .i64 (m.kind)), (.int .i64 (m.epoch))] 3, blkA b1 (ints m.flat) 108]
 refine sg' ?_
 refine nx J12 ?_
 clear J12
 refine TC.ret ?_
 refine TE.weak (Sub.refl _) (fun _ s => sep_keep [2] rfl s) ?_
 refine TE.ret1 rfl rfl ?_
 exact ⟨_, rfl, congrArg (fun b => [ownB u3 b 5]) (show (encs [m.kind, m.epoch] ++ encs m.ballot.flat) = encR m by simp [encR, kRow, kAsk, encs, *])⟩
 exact AllT.nil
 exact AllT.nil
 exact AllT.nil
 refine sg' ?_
 refine nx J11 ?_
 clear J11
 refine TC.no rfl ?_
 refine sr fun _ J13 => ?_
 refine tp (PV.eql rfl rfl rfl) ?_
 refine TL.dec (fun h51 => ?_) (fun h51 => ?_)
 refine sg' ?_
 refine nx J13 ?_
 clear J13
 refine TC.yes rfl ?_
 refine TC.draw (fun w => Frm F w ∧ w.heap[b1]? = some (.cells (ints m.flat).toArray 108 (0, 0)) ∧ True) mixed rfl (fun _ s => ⟨Frm.of s, s.block 2 (lb rfl) rfl, trivial⟩) ?_
 refine ta 0 rfl (PV.move rfl rfl) ?_
 refine ta 1 rfl (PV.fieldAddr (r := 0) rfl Tryz.underlying108 rfl sz3 rfl rfl) ?_
 refine ta 2 rfl (PV.load1 (v := (.int .i64 (m.kind))) rfl Tryz.underlying3 rfl rfl (fun _ h => h.2.1) (RecT.at_kind m rfl)) ?_
 refine ta 3 rfl (PV.fieldAddr (r := 176) rfl Tryz.underlying108 rfl sz3 rfl rfl) ?_
 refine ta 4 rfl (PV.load1 (v := (.int .i64 (m.epoch))) rfl Tryz.underlying3 rfl rfl (fun _ h => h.2.1) (RecT.at_epoch m rfl)) ?_
 refine ta 7 rfl (PV.fieldAddr (r := 177) rfl Tryz.underlying108 rfl sz50 rfl rfl) ?_
 refine ta 8 rfl (PV.loadN (vs := ints m.ballot.flat) rfl Tryz.underlying50 rfl sz50 rfl (fun _ h => h.2.1) (BallotT.len m.ballot) (RecT.sub_ballot m 0 rfl (by decide) (whole (BallotT.len m.ballot)))) ?_
 refine ta 10 rfl (PV.fieldAddr (r := 179) rfl Tryz.underlying108 rfl sz36 rfl rfl) ?_
 refine ta 11 rfl (PV.loadN (vs := ints m.change.flat) rfl Tryz.underlying36 rfl sz36 rfl (fun _ h => h.2.1) (ChangeT.len m.change) (RecT.sub_change m 0 rfl (by decide) (whole (ChangeT.len m.change)))) ?_
 refine TD.all [5] (by kernel_rfl) rfl ?_
 refine AllT.cons rfl ?_ ?_
 refine TL.buildSlice (cells := #[(.int .i64 (m.kind)), (.int .i64 (m.epoch))]) (Want.plain rfl) rfl rfl rfl Tryz.underlying74 in3 rfl rfl rfl (by as_aux_lemma => kernel_rfl) (fun b57 => ?_)
 change TL _ _ _ _ _ _ _ _ _ [blkA b57 [(.int .i64 (m.kind)), (.int .i64 (m.epoch))] 3, ownB (.slice none 0 0) ([]) 5, blkA b4 [(.slice none 0 0)] 200, blkA b1 (ints m.flat) 108]
 refine TL.nil ?_
 refine TE.draw (fun _ s => ⟨Frm.of s, s.block 3 (lb rfl) rfl, trivial⟩) ?_
 refine TD.all [6] (by kernel_rfl) rfl ?_
 refine AllT.cons rfl ?_ ?_
 refine TL.callR (A := [blkA b4 [(.slice none 0 0)] 200, ownB (.slice none 0 0) ([]) 5]) (Want.plain rfl) rfl rfl rfl nm124 rfl (wnum_does b4 (.slice none 0 0) ([]) (.slice (some ⟨b57, 0, none⟩) (2) (2)) [m.kind, m.epoch] (by simp)) (fun _ s => sep_selR [2, 1] rfl s) (isN_piece 0 rfl rfl rfl rfl) (fun vR HR hR => ?_)
 obtain ⟨u1, rfl, rfl⟩ := hR
 change TL _ _ _ _ _ _ _ _ _ [blkA b4 [u1] 200, ownB u1 (encs [m.kind, m.epoch]) 5, blkA b57 [(.int .i64 (m.kind)), (.int .i64 (m.epoch))] 3, blkA b1 (ints m.flat) 108]
 refine TL.nil ?_
 refine TE.draw (fun _ s => ⟨Frm.of s, s.block 3 (lb rfl) rfl, trivial⟩) ?_
 refine TD.all [9] (by kernel_rfl) rfl ?_
 refine AllT.cons rfl ?_ ?_
 refine TL.callR (A := [blkA b4 [u1] 200, ownB u1 (encs [m.kind, m.epoch]) 5]) (Want.plain rfl) rfl rfl rfl nm126 rfl (wballot_does b4 u1 (encs [m.kind, m.epoch]) m.ballot (by (have := encs_len [m.kind, m.epoch]); simp only [BallotT.flat, ViewT.flat, ChangeT.flat, List.length_cons, List.length_nil, Vector.length_toList, List.length_append] at *; omega)) (fun _ s => s) (fun _ _ _ => trivial) (fun vR HR hR => ?_)
 obtain ⟨u2, rfl, rfl⟩ := hR
 change TL _ _ _ _ _ _ _ _ _ [blkA b4 [u2] 200, ownB u2 (encs [m.kind, m.epoch] ++ encs m.ballot.flat) 5, blkA b57 [(.int .i64 (m.kind)), (.int .i64 (m.epoch))] 3, blkA b1 (ints m.flat) 108]
 refine TL.nil ?_
 refine TE.draw (fun _ s => ⟨Frm.of s, s.block 3 (lb rfl) rfl, trivial⟩) ?_
 refine TD.all [12] (by kernel_rfl) rfl ?_
 refine AllT.cons rfl ?_ ?_
 refine TL.callR (A := [blkA b4 [u2] 200, ownB u2 (encs [m.kind, m.epoch] ++ encs m.ballot.flat) 5]) (Want.plain rfl) rfl rfl rfl nm127 rfl (wchange_does b4 u2 (encs [m.kind, m.epoch] ++ encs m.ballot.flat) m.change (by (have := encs_len [m.kind, m.epoch]); (have := encs_len (m.ballot.flat)); simp only [BallotT.flat, ViewT.flat, ChangeT.flat, List.length_cons, List.length_nil, Vector.length_toList, List.length_append] at *; omega)) (fun _ s => s) (fun _ _ _ => trivial) (fun vR HR hR => ?_)
 obtain ⟨u3, rfl, rfl⟩ := hR
 change TL _ _ _ _ _ _ _ _ _ [blkA b4 [u3] 200, ownB u3 (encs [m.kind, m.epoch] ++ encs m.ballot.flat ++ encs m.change.flat) 5, blkA b57 [(.int .i64 (m.kind)), (.int .i64 (m.epoch))] 3, blkA b1 (ints m.flat) 108]
 refine TL.nil ?_
 refine TE.draw (fun _ s => ⟨Frm.of s, s.block 3 (lb rfl) rfl, trivial⟩) ?_
 refine TD.done (by kernel_rfl) ?_
 refine TE.blockEnd ?_
 refine TE.next J3 ?_
 clear J3
 refine sr fun _ J14 => ?_
 refine mv ?_
 refine TL.callR (A := [blkA b4 [u3] 200, ownB u3 (encs [m.kind, m.epoch] ++ encs m.ballot.flat ++ encs m.change.flat) 5]) (Want.plain rfl) rfl rfl rfl nm129 rfl (wbytes_does b4 u3 (encs [m.kind, m.epoch] ++ encs m.ballot.flat ++ encs m.change.flat) (by (have := encs_len [m.kind, m.epoch]); (have := encs_len (m.ballot.flat)); (have := encs_len (m.change.flat)); simp only [BallotT.flat, ViewT.flat, ChangeT.flat, List.length_cons, List.length_nil, Vector.length_toList, List.length_append] at *; omega)) (fun _ s => s) (fun _ _ _ => trivial) (fun vR HR hR => ?_)
 obtain ⟨_, rfl, rfl⟩ := hR
 revert vR
 intro u4
 change TL _ _ _ _ _ _ _ _ _ [blkA b4 [u3] 200, ownB u3 (encs [m.kind, m.epoch] ++ encs m.ballot.flat ++ encs m.change.flat) 5, ownB u4 (encs [m.kind, m.epoch] ++ encs m.ballot.flat ++ encs m.change.flat) 5, blkA b57 [(.int .i64 (m.kind)), (.int .i64 (m.epoch))] 3, blkA b1 (ints m.flat) 108]
 refine sg' ?_
 refine nx J14 ?_
 clear J14
 refine TC.ret ?_
 refine TE.weak (Sub.refl _) (fun _ s => sep_keep [2] rfl s) ?_
 refine TE.ret1 rfl rfl ?_
 exact ⟨_, rfl, congrArg (fun b => [ownB u4 b 5]) (show (encs [m.kind, m.epoch] ++ encs m.ballot.flat ++ encs m.change.flat) = encR m by simp [encR, kRow, kAsk, encs, *])⟩
 exact AllT.nil
 exact AllT.nil
 exact AllT.nil
 exact AllT.nil
 refine sg' ?_
 refine nx J13 ?_
 clear J13
 refine TC.no rfl ?_
 refine sr fun _ J15 => ?_
 refine tp (PV.eql rfl rfl rfl) ?_
 refine TL.dec (fun h66 => ?_) (fun h66 => ?_)
 refine sg' ?_
 refine nx J15 ?_
 clear J15
 refine TC.yes rfl ?_
 refine TC.draw (fun w => Frm F w ∧ w.heap[b1]? = some (.cells (ints m.flat).toArray 108 (0, 0)) ∧ True) mixed rfl (fun _ s => ⟨Frm.of s, s.block 2 (lb rfl) rfl, trivial⟩) ?_
 refine ta 0 rfl (PV.move rfl rfl) ?_
 refine ta 1 rfl (PV.fieldAddr (r := 0) rfl Tryz.underlying108 rfl sz3 rfl rfl) ?_
 refine ta 2 rfl (PV.load1 (v := (.int .i64 (m.kind))) rfl Tryz.underlying3 rfl rfl (fun _ h => h.2.1) (RecT.at_kind m rfl)) ?_
 refine ta 5 rfl (PV.fieldAddr (r := 182) rfl Tryz.underlying108 rfl sz52 rfl rfl) ?_
 refine ta 6 rfl (PV.loadN (vs := ints m.view.flat) rfl Tryz.underlying52 rfl sz52 rfl (fun _ h => h.2.1) (ViewT.len m.view) (RecT.sub_view m 0 rfl (by decide) (whole (ViewT.len m.view)))) ?_
 refine TD.all [3] (by kernel_rfl) rfl ?_
 refine AllT.cons rfl ?_ ?_
 refine TL.buildSlice (cells := #[(.int .i64 (m.kind))]) (Want.plain rfl) rfl rfl rfl Tryz.underlying74 in3 rfl rfl rfl (by as_aux_lemma => kernel_rfl) (fun b70 => ?_)
 change TL _ _ _ _ _ _ _ _ _ [blkA b70 [(.int .i64 (m.kind))] 3, ownB (.slice none 0 0) ([]) 5, blkA b4 [(.slice none 0 0)] 200, blkA b1 (ints m.flat) 108]
 refine TL.nil ?_
 refine TE.draw (fun _ s => ⟨Frm.of s, s.block 3 (lb rfl) rfl, trivial⟩) ?_
 refine TD.all [4] (by kernel_rfl) rfl ?_
 refine AllT.cons rfl ?_ ?_
 refine TL.callR (A := [blkA b4 [(.slice none 0 0)] 200, ownB (.slice none 0 0) ([]) 5]) (Want.plain rfl) rfl rfl rfl nm124 rfl (wnum_does b4 (.slice none 0 0) ([]) (.slice (some ⟨b70, 0, none⟩) (1) (1)) [m.kind] (by simp)) (fun _ s => sep_selR [2, 1] rfl s) (isN_piece 0 rfl rfl rfl rfl) (fun vR HR hR => ?_)
 obtain ⟨u1, rfl, rfl⟩ := hR
 change TL _ _ _ _ _ _ _ _ _ [blkA b4 [u1] 200, ownB u1 (encs [m.kind]) 5, blkA b70 [(.int .i64 (m.kind))] 3, blkA b1 (ints m.flat) 108]
 refine TL.nil ?_
 refine TE.draw (fun _ s => ⟨Frm.of s, s.block 3 (lb rfl) rfl, trivial⟩) ?_
 refine TD.all [7] (by kernel_rfl) rfl ?_
 refine AllT.cons rfl ?_ ?_
 refine TL.callR (A := [blkA b4 [u1] 200, ownB u1 (encs [m.kind]) 5]) (Want.plain rfl) rfl rfl rfl nm128 rfl (wview_does b4 u1 (encs [m.kind]) m.view (by (have := encs_len [m.kind]); simp only [BallotT.flat, ViewT.flat, ChangeT.flat, List.length_cons, List.length_nil, Vector.length_toList, List.length_append] at *; omega)) (fun _ s => s) (fun _ _ _ => trivial) (fun vR HR hR => ?_)
 obtain ⟨u2, rfl, rfl⟩ := hR
 change TL _ _ _ _ _ _ _ _ _ [blkA b4 [u2] 200, ownB u2 (encs [m.kind] ++ encs m.view.flat) 5, blkA b70 [(.int .i64 (m.kind))] 3, blkA b1 (ints m.flat) 108]
 refine TL.nil ?_
 refine TE.draw (fun _ s => ⟨Frm.of s, s.block 3 (lb rfl) rfl, trivial⟩) ?_
 refine TD.done (by kernel_rfl) ?_
 refine TE.blockEnd ?_
 refine TE.next J3 ?_
 clear J3
 refine sr fun _ J16 => ?_
 refine mv ?_
 refine TL.callR (A := [blkA b4 [u2] 200, ownB u2 (encs [m.kind] ++ encs m.view.flat) 5]) (Want.plain rfl) rfl rfl rfl nm129 rfl (wbytes_does b4 u2 (encs [m.kind] ++ encs m.view.flat) (by (have := encs_len [m.kind]); (have := encs_len (m.view.flat)); simp only [BallotT.flat, ViewT.flat, ChangeT.flat, List.length_cons, List.length_nil, Vector.length_toList, List.length_append] at *; omega)) (fun _ s => s) (fun _ _ _ => trivial) (fun vR HR hR => ?_)
 obtain ⟨_, rfl, rfl⟩ := hR
 revert vR
 intro u3
 change TL _ _ _ _ _ _ _ _ _ [blkA b4 [u2] 200, ownB u2 (encs [m.kind] ++ encs m.view.flat) 5, ownB u3 (encs [m.kind] ++ encs m.view.flat) 5, blkA b70 [(.int .i64 (m.kind))] 3, blkA b1 (ints m.flat) 108]
 refine sg' ?_
 refine nx J16 ?_
 clear J16
 refine TC.ret ?_
 refine TE.weak (Sub.refl _) (fun _ s => sep_keep [2] rfl s) ?_
 refine TE.ret1 rfl rfl ?_
 exact ⟨_, rfl, congrArg (fun b => [ownB u3 b 5]) (show (encs [m.kind] ++ encs m.view.flat) = encR m by simp [encR, kRow, kAsk, encs, *])⟩
 exact AllT.nil
 exact AllT.nil
 exact AllT.nil
 refine sg' ?_
 refine nx J15 ?_
 clear J15
 refine TC.no rfl ?_
 refine TC.skip ?_
 refine TE.blockEnd ?_
 refine TE.next J3 ?_
 clear J3
 refine sr fun _ J17 => ?_
 refine mv ?_
 refine TL.callR (A := [blkA b4 [(.slice none 0 0)] 200, ownB (.slice none 0 0) ([]) 5]) (Want.plain rfl) rfl rfl rfl nm129 rfl (wbytes_does b4 (.slice none 0 0) ([]) (by simp)) (fun _ s => sep_selR [1, 0] rfl s) (fun _ _ _ => trivial) (fun vR HR hR => ?_)
 obtain ⟨_, rfl, rfl⟩ := hR
 revert vR
 intro u1
 change TL _ _ _ _ _ _ _ _ _ [blkA b4 [(.slice none 0 0)] 200, ownB (.slice none 0 0) ([]) 5, ownB u1 ([]) 5, blkA b1 (ints m.flat) 108]
 refine sg' ?_
 refine nx J17 ?_
 clear J17
 refine TC.ret ?_
 refine TE.weak (Sub.refl _) (fun _ s => sep_keep [2] rfl s) ?_
 refine TE.ret1 rfl rfl ?_
 exact ⟨_, rfl, congrArg (fun b => [ownB u1 b 5]) (show ([] : List UInt8) = encR m by simp [encR, kRow, kAsk, encs, *])⟩
end Go.Proofs.YtfceaphohlbnbaaGreat
end

section
namespace Go.Proofs.YtfceaphohlbnbaaGreat

open Go Leg Codec Api Dsk Wal

set_option linter.unusedSimpArgs false
set_option linter.unusedVariables false

set_option maxRecDepth 100000

set_option maxHeartbeats 8000000

abbrev dkL (d : Nat) (recs : List (List UInt8)) : HP := pack (fun D : { D : DS // LogD D recs ∧ D.dn = false ∧ D.ar = false } => [dk d D.1])
abbrev lgL (lg d : Nat) (recs : List (List UInt8)) : HP := lgP lg d (((recs).length : Nat) : Int) ((sizeS (recs) : Nat) : Int)
theorem ReplyT.flat_length (x : ReplyT) : x.flat.length = 3 := rfl
theorem logPut_does (lg d : Nat) (x : Value) (bs : List UInt8) (recs : List (List UInt8)) (hroom : sizeS recs + piecesN bs.length ≤ 2048) (hlen : bs.length ≤ 3000) : Does Tryz.prog 112 #[.pointer (some ⟨lg, 0, none⟩), x] (IsW x bs) [lgL lg d recs, dkL d recs] (Ret (fun v H => v = .int .i64 0 ∧ H = [lgL lg d (recs ++ [bs]), dkL d (recs ++ [bs])])) := by
  refine Does.ex (A' := fun D : { D : DS // LogD D recs ∧ D.dn = false ∧ D.ar = false } => [lgL lg d recs, dk d D.1]) (fun h s => ?_) fun ⟨D, hD, hd, ha⟩ => ?_
  · obtain ⟨D, s'⟩ := sep_open (sep_perm (List.Perm.swap _ _ _) s)
    exact ⟨D, sep_perm (List.Perm.swap _ _ _) s'⟩
  · have hro := hD.room
    refine Does.fold (walPut_does lg d recs.length ((sizeS recs : Nat) : Int) x bs D hD.ok (by rw [hD.ws]; simp) (by omega) (by have := hD.len; omega)) fun e H hp => ?_
    cases e with
    | returned v =>
      obtain ⟨h1, h2⟩ := hp
      rcases put_spec (bs := bs) hD hd hlen with ⟨h, _⟩ | ⟨_, D', e1, h3, h4, h5⟩ | ⟨h, _⟩
      · omega
      · rw [e1] at h1 h2
        refine ⟨[lgL lg d (recs ++ [bs]), dkL d (recs ++ [bs])], fun g s => ?_, h1, rfl⟩
        rw [h2] at s
        have s2 := sep_close (p := fun D : { D : DS // LogD D (recs ++ [bs]) ∧ D.dn = false ∧ D.ar = false } => [dk d D.1]) ⟨D', h3, h4, h5.trans ha⟩ (sep_perm (List.Perm.swap _ _ _) s)
        have s3 := sep_perm (List.Perm.swap _ _ _) s2
        show sep [lgP lg d (((recs ++ [bs]).length : Nat) : Int) ((sizeS (recs ++ [bs]) : Nat) : Int), dkL d (recs ++ [bs])] g
        rw [List.length_append]
        exact s3
      · rw [ha] at h; cases h
    | panicked c => exact hp.elim
    | outgrown => exact hp.elim

theorem put_does (r lg d : Nat) (x : RepT) (m : RecT) (recs : List (List UInt8)) (hlog : x.log = .pointer (some ⟨lg, 0, none⟩)) (hroom : sizeS recs + piecesN (encR m).length ≤ 2048) (hlen : (encR m).length ≤ 3000) :
    Does Tryz.prog 78 #[(.pointer (some ⟨r, 0, none⟩)), (.agg (ints m.flat).toArray)] (fun _ => True) [blkA r (RepT.cells x) 104, lgP lg d (((recs).length : Nat) : Int) ((sizeS (recs) : Nat) : Int), dkL d (recs)] (Ret (fun r' H => r' = .int .i64 0 ∧ H = [blkA r (RepT.cells x) 104, lgL lg d (recs ++ [encR m]), dkL d (recs ++ [encR m])])) := by
 refine Does.body (vs := [(.pointer (some ⟨r, 0, none⟩)), (.agg (ints m.flat).toArray)]) (n := 12) Tryz.func78 rfl rfl rfl (fun w0 F hF => ?_)
 refine sr fun _ J1 => ?_
 refine TL.box (Want.plain rfl) rfl rfl rfl rfl (fun b3 => ?_)
 change TL _ _ _ _ _ _ _ _ _ [blkA b3 (ints m.flat) 108, blkA r (RepT.cells x) 104, lgP lg d (((recs).length : Nat) : Int) ((sizeS (recs) : Nat) : Int), dkL d (recs)]
 refine sg' ?_
 refine nx J1 ?_
 refine TC.seq fun _ J2 => ?_
 refine TC.draw (fun w => Frm F w ∧ w.heap[r]? = some (.cells (RepT.cells x).toArray 104 (0, 0)) ∧ w.heap[b3]? = some (.cells (ints m.flat).toArray 108 (0, 0)) ∧ True) mixed rfl (fun _ s => ⟨Frm.of s, s.block 1 (lb rfl) rfl, s.block 0 (lb rfl) rfl, trivial⟩) ?_
 refine ta 0 rfl (PV.move rfl rfl) ?_
 refine ta 1 rfl (PV.nilCheck rfl rfl) ?_
 refine ta 2 rfl (PV.fieldAddr (r := 1) rfl Tryz.underlying104 rfl sz96 rfl rfl) ?_
 refine ta 3 rfl (PV.load1 (v := (.pointer (some ⟨lg, 0, none⟩))) rfl Tryz.underlying96 rfl rfl (fun _ h => h.2.1) ((RepT.at_log x rfl).trans (congrArg some hlog))) ?_
 refine ta 4 rfl (PV.loadN (vs := ints m.flat) rfl Tryz.underlying108 rfl sz108 rfl (fun _ h => h.2.2.1) (RecT.len m) (whole (RecT.len m))) ?_
 refine TD.all [5] (by kernel_rfl) rfl ?_
 refine AllT.cons rfl ?_ ?_
 refine TL.callR (A := []) (Want.plain rfl) rfl rfl rfl nm113 rfl (record_does m) (fun _ s => s) (fun _ _ _ => trivial) (fun vR HR hR => ?_)
 obtain ⟨_, rfl, rfl⟩ := hR
 revert vR
 intro ue
 change TL _ _ _ _ _ _ _ _ _ [ownB ue (encR m) 5, blkA b3 (ints m.flat) 108, blkA r (RepT.cells x) 104, lgP lg d (((recs).length : Nat) : Int) ((sizeS (recs) : Nat) : Int), dkL d (recs)]
 refine TL.nil ?_
 refine TE.draw (fun _ s => ⟨Frm.of s, s.block 2 (lb rfl) rfl, s.block 1 (lb rfl) rfl, trivial⟩) ?_
 refine TD.all [6] (by kernel_rfl) rfl ?_
 refine AllT.cons rfl ?_ ?_
 refine TL.callR (A := [lgP lg d (((recs).length : Nat) : Int) ((sizeS (recs) : Nat) : Int), dkL d (recs)]) (Want.plain rfl) rfl rfl rfl nm112 rfl (logPut_does lg d ue (encR m) (recs) hroom hlen) (fun _ s => sep_selR [3, 3] rfl s) (fun g d s => IsB.w (isB_own 0 rfl rfl g d s)) (fun vR HR hR => ?_)
 obtain ⟨rfl, rfl⟩ := hR
 change TL _ _ _ _ _ _ _ _ _ [lgP lg d (((recs ++ [encR m]).length : Nat) : Int) ((sizeS (recs ++ [encR m]) : Nat) : Int), dkL d (recs ++ [encR m]), ownB ue (encR m) 5, blkA b3 (ints m.flat) 108, blkA r (RepT.cells x) 104]
 refine TL.nil ?_
 refine TE.draw (fun _ s => ⟨Frm.of s, s.block 4 (lb rfl) rfl, s.block 3 (lb rfl) rfl, trivial⟩) ?_
 refine ta 7 rfl (PV.assign rfl rfl) ?_
 refine TD.done (by kernel_rfl) ?_
 refine TE.next J2 ?_
 refine TC.ret ?_
 refine TE.weak (Sub.refl _) (fun _ s => sep_keep [4, 0, 0] rfl s) ?_
 refine TE.ret1 rfl rfl ?_
 exact ⟨rfl, rfl⟩
 exact AllT.nil
 exact AllT.nil
theorem reply_does (r : Nat) (x : RepT) (op err val : Int) (rs : List ReplyT) (hrs : rs.length ≤ 1000000) :
    Does Tryz.prog 41 #[(.pointer (some ⟨r, 0, none⟩)), (.int .i64 (op)), (.int .i64 (err)), (.int .i64 (val))] (fun _ => True) [blkA r (RepT.cells x) 104, own x.replies ((rs).length) (ints (List.flatMap ReplyT.flat (rs))) 92 3] (Ret (fun _ H => ∃ v', v'.oneCell' = true ∧ H = [blkA r (RepT.cells { x with replies := v' }) 104, own v' (rs ++ [ReplyT.mk op err val]).length (ints (List.flatMap ReplyT.flat (rs ++ [ReplyT.mk op err val]))) 92 3])) := by
 refine Does.body (vs := [(.pointer (some ⟨r, 0, none⟩)), (.int .i64 (op)), (.int .i64 (err)), (.int .i64 (val))]) (n := 21) Tryz.func41 rfl rfl rfl (fun w0 F hF => ?_)
 refine TC.region ?_
 refine mv ?_
 refine mv ?_
 refine tp (PV.nilCheck rfl rfl) ?_
 refine tp (PV.fieldAddr (r := 1942) rfl Tryz.underlying104 rfl sz55 rfl rfl) ?_
 refine tp (PV.load1 (v := x.replies) rfl Tryz.underlying55 rfl rfl (Rd.own 0 rfl rfl) (RepT.at_replies x rfl)) ?_
 refine mv ?_
 refine mv ?_
 refine mv ?_
 refine tp (PV.buildSegs (cs := ints (ReplyT.mk op err val).flat) (segs := [[Value.int .i64 0], [Value.int .i64 0], [Value.int .i64 0]]) (res := [[Value.int .i64 op], [Value.int .i64 err], [Value.int .i64 val]]) (parts := [(0, [Value.int .i64 op]), (1, [Value.int .i64 err]), (2, [Value.int .i64 val])]) rfl rfl Tryz.underlying92 (by kernel_rfl) (by kernel_rfl) rfl (putSegs_step rfl ((rfl : [Value.int .i64 op].length = 1).trans (rfl : [Value.int .i64 0].length = 1).symm) (putSegs_step rfl ((rfl : [Value.int .i64 err].length = 1).trans (rfl : [Value.int .i64 0].length = 1).symm) (putSegs_step rfl ((rfl : [Value.int .i64 val].length = 1).trans (rfl : [Value.int .i64 0].length = 1).symm) putSegs_nil))) (ReplyT.eq (ReplyT.mk op err val)).symm) ?_
 refine TL.buildSlice (cells := (ints (ReplyT.mk op err val).flat).toArray) (Want.plain rfl) rfl rfl rfl Tryz.underlying55 in92 rfl rfl rfl (fill_at (ReplyT.len (ReplyT.mk op err val)) (by simp)) (fun b17 => ?_)
 change TL _ _ _ _ _ _ _ _ _ [blkA b17 (ints (ReplyT.mk op err val).flat) 92, blkA r (RepT.cells x) 104, own x.replies ((rs).length) (ints (List.flatMap ReplyT.flat (rs))) 92 3]
 refine TL.append (k := 2) (news := ints (ReplyT.mk op err val).flat) (nn' := (rs ++ [ReplyT.mk op err val]).length) (xs' := ints (List.flatMap ReplyT.flat (rs ++ [ReplyT.mk op err val]))) (Want.plain rfl) rfl rfl rfl Tryz.underlying55 in92 rfl rfl rfl rfl rfl rfl (fun _ _ => Src.rd (ReplyT.len _) (Rd.own 0 rfl rfl) (by rw [List.drop_zero, List.take_length])) (ints_one _) (by simp only [maxLen]; omega) (by omega) (by simp) (by simp [ints]) (fun v18 ov18 => ?_)
 change TL _ _ _ _ _ _ _ _ _ [blkA b17 (ints (ReplyT.mk op err val).flat) 92, blkA r (RepT.cells x) 104, own v18 ((rs ++ [ReplyT.mk op err val]).length) (ints (List.flatMap ReplyT.flat (rs ++ [ReplyT.mk op err val]))) 92 3]
 refine tp (PV.nilCheck rfl rfl) ?_
 refine tp (PV.fieldAddr (r := 1942) rfl Tryz.underlying104 rfl sz55 rfl rfl) ?_
 refine TL.store1 (i := 1) (H' := [blkA b17 (ints (ReplyT.mk op err val).flat) 92, blkA r (RepT.cells (RepT.mk x.id x.log x.view x.own x.mirror x.acc x.round x.vote x.book x.busy x.kept x.waits x.ops v18 x.told x.last)) 104, own v18 ((rs ++ [ReplyT.mk op err val]).length) (ints (List.flatMap ReplyT.flat (rs ++ [ReplyT.mk op err val]))) 92 3]) (Want.plain rfl) rfl rfl rfl rfl ov18 sz55 rfl rfl (by have h0 := (RepT.len x); omega) (RepT.set_replies x rfl _) rfl ?_
 refine TL.nil ?_
 refine TE.weak (Sub.refl _) (fun _ s => sep_keep [1, 1] rfl s) ?_
 refine TE.end0 rfl ?_
 exact ⟨_, ov18, rfl⟩
theorem rValue_does (r : Nat) (x : RepT) (key : Int) :
    Does Tryz.prog 16 #[(.pointer (some ⟨r, 0, none⟩)), (.int .i64 (key))] (fun _ => True) [blkA r (RepT.cells x) 104] (Ret (fun r' H => r' = .int .i64 (bookValue x.book key) ∧ H = [blkA r (RepT.cells x) 104])) := by
 refine Does.body (vs := [(.pointer (some ⟨r, 0, none⟩)), (.int .i64 (key))]) (n := 10) Tryz.func16 rfl rfl rfl (fun w0 F hF => ?_)
 refine sr fun _ J1 => ?_
 refine sg' ?_
 refine nx J1 ?_
 refine sr fun _ J2 => ?_
 refine mv ?_
 refine tp (PV.nilCheck rfl rfl) ?_
 refine tp (PV.fieldAddr (r := 1068) rfl Tryz.underlying104 rfl sz71 rfl rfl) ?_
 refine mv ?_
 refine TL.callR (A := [blkA r (RepT.cells x) 104]) (Want.plain rfl) rfl rfl rfl nm22 rfl (bookValue_does r 1068 104 (fun u => RepT.cells { x with book := u }) (RepT.arnd_book x) x.book key) (fun _ s => s) (fun _ _ _ => trivial) (fun vR HR hR => ?_)
 obtain ⟨rfl, rfl⟩ := hR
 change TL _ _ _ _ _ _ _ _ _ [blkA r (RepT.cells x) 104]
 refine sg' ?_
 refine nx J2 ?_
 refine TC.ret ?_
 refine TE.weak (Sub.refl _) (fun _ s => sep_keep [0] rfl s) ?_
 refine TE.ret1 rfl rfl ?_
 exact ⟨rfl, rfl⟩
theorem rOwn_does (r : Nat) (x : RepT) :
    Does Tryz.prog 18 #[(.pointer (some ⟨r, 0, none⟩))] (fun _ => True) [blkA r (RepT.cells x) 104] (Ret (fun r' H => r' = .agg (ints x.own.flat).toArray ∧ H = [blkA r (RepT.cells x) 104])) := by
 refine Does.body (vs := [(.pointer (some ⟨r, 0, none⟩))]) (n := 7) Tryz.func18 rfl rfl rfl (fun w0 F hF => ?_)
 refine sr fun _ J1 => ?_
 refine TL.alloc (Want.plain rfl) rfl rfl rfl z48 (fun b2 => ?_)
 change TL _ _ _ _ _ _ _ _ _ [blkA b2 (ints RowT.zero.flat) 48, blkA r (RepT.cells x) 104]
 refine nx J1 ?_
 refine sr fun _ J2 => ?_
 refine mv ?_
 refine tp (PV.nilCheck rfl rfl) ?_
 refine tp (PV.fieldAddr (r := 9) rfl Tryz.underlying104 rfl sz48 rfl rfl) ?_
 refine tp (PV.loadN (vs := ints x.own.flat) rfl Tryz.underlying48 rfl sz48 rfl (Rd.own 1 rfl rfl) (RowT.len x.own) (RepT.sub_own x 0 rfl (by decide) (whole (RowT.len x.own)))) ?_
 refine TL.store (vs := ints x.own.flat) (i := 0) (H' := [blkA b2 (ints x.own.flat) 48, blkA r (RepT.cells x) 104]) (Want.plain rfl) rfl rfl rfl rfl rfl (by rw [(RowT.len x.own)]; exact sz48) (ints_one _) rfl rfl (by have h0 := (RowT.len RowT.zero); have h1 := (RowT.len x.own); omega) (wwhole ((RowT.len RowT.zero).trans (RowT.len x.own).symm)) rfl ?_
 refine nx J2 ?_
 refine TC.ret ?_
 refine TE.retC (H' := [blkA r (RepT.cells x) 104]) rfl rfl Tryz.underlying48 rfl sz48 (Rd.own 0 rfl rfl) (RowT.len x.own) (fun _ s => sep_keep [1] rfl s) ?_
 exact ⟨rfl, rfl⟩
theorem rView_does (r : Nat) (x : RepT) :
    Does Tryz.prog 27 #[(.pointer (some ⟨r, 0, none⟩))] (fun _ => True) [blkA r (RepT.cells x) 104] (Ret (fun r' H => r' = .agg (ints x.view.flat).toArray ∧ H = [blkA r (RepT.cells x) 104])) := by
 refine Does.body (vs := [(.pointer (some ⟨r, 0, none⟩))]) (n := 7) Tryz.func27 rfl rfl rfl (fun w0 F hF => ?_)
 refine sr fun _ J1 => ?_
 refine TL.alloc (Want.plain rfl) rfl rfl rfl z52 (fun b2 => ?_)
 change TL _ _ _ _ _ _ _ _ _ [blkA b2 (ints ViewT.zero.flat) 52, blkA r (RepT.cells x) 104]
 refine nx J1 ?_
 refine sr fun _ J2 => ?_
 refine mv ?_
 refine tp (PV.nilCheck rfl rfl) ?_
 refine tp (PV.fieldAddr (r := 2) rfl Tryz.underlying104 rfl sz52 rfl rfl) ?_
 refine tp (PV.loadN (vs := ints x.view.flat) rfl Tryz.underlying52 rfl sz52 rfl (Rd.own 1 rfl rfl) (ViewT.len x.view) (RepT.sub_view x 0 rfl (by decide) (whole (ViewT.len x.view)))) ?_
 refine TL.store (vs := ints x.view.flat) (i := 0) (H' := [blkA b2 (ints x.view.flat) 52, blkA r (RepT.cells x) 104]) (Want.plain rfl) rfl rfl rfl rfl rfl (by rw [(ViewT.len x.view)]; exact sz52) (ints_one _) rfl rfl (by have h0 := (ViewT.len ViewT.zero); have h1 := (ViewT.len x.view); omega) (wwhole ((ViewT.len ViewT.zero).trans (ViewT.len x.view).symm)) rfl ?_
 refine nx J2 ?_
 refine TC.ret ?_
 refine TE.retC (H' := [blkA r (RepT.cells x) 104]) rfl rfl Tryz.underlying52 rfl sz52 (Rd.own 0 rfl rfl) (ViewT.len x.view) (fun _ s => sep_keep [1] rfl s) ?_
 exact ⟨rfl, rfl⟩
theorem rBusy_does (r : Nat) (x : RepT) :
    Does Tryz.prog 14 #[(.pointer (some ⟨r, 0, none⟩))] (fun _ => True) [blkA r (RepT.cells x) 104] (Ret (fun r' H => r' = .bool x.busy ∧ H = [blkA r (RepT.cells x) 104])) := by
 refine Does.body (vs := [(.pointer (some ⟨r, 0, none⟩))]) (n := 7) Tryz.func14 rfl rfl rfl (fun w0 F hF => ?_)
 refine sr fun _ J1 => ?_
 refine sg' ?_
 refine nx J1 ?_
 refine sr fun _ J2 => ?_
 refine mv ?_
 refine tp (PV.nilCheck rfl rfl) ?_
 refine tp (PV.fieldAddr (r := 1938) rfl Tryz.underlying104 rfl sz4 rfl rfl) ?_
 refine tp (PV.load1 (v := (.bool (x.busy))) rfl Tryz.underlying4 rfl rfl (Rd.own 0 rfl rfl) (RepT.at_busy x rfl)) ?_
 refine sg' ?_
 refine nx J2 ?_
 refine TC.ret ?_
 refine TE.weak (Sub.refl _) (fun _ s => sep_keep [0] rfl s) ?_
 refine TE.ret1 rfl rfl ?_
 exact ⟨rfl, rfl⟩
theorem rMirrored_does (r : Nat) (x : RepT) (who : Int) :
    Does Tryz.prog 29 #[(.pointer (some ⟨r, 0, none⟩)), (.int .i64 (who))] (fun _ => True) [blkA r (RepT.cells x) 104] (Ret (fun r' H => r' = .tuple #[.agg (ints (mirRow x.mirror who).flat).toArray, .bool (mirSealed x.mirror who)] ∧ H = [blkA r (RepT.cells x) 104])) := by
 refine Does.body (vs := [(.pointer (some ⟨r, 0, none⟩)), (.int .i64 (who))]) (n := 16) Tryz.func29 rfl rfl rfl (fun w0 F hF => ?_)
 refine sr fun _ J1 => ?_
 refine TL.alloc (Want.plain rfl) rfl rfl rfl z48 (fun b4 => ?_)
 change TL _ _ _ _ _ _ _ _ _ [blkA b4 (ints RowT.zero.flat) 48, blkA r (RepT.cells x) 104]
 refine sg' ?_
 refine nx J1 ?_
 refine TC.seq fun _ J2 => ?_
 refine TC.draw (fun w => Frm F w ∧ True) mixed rfl (fun _ s => ⟨Frm.of s, trivial⟩) ?_
 refine ta 0 rfl (PV.move rfl rfl) ?_
 refine ta 1 rfl (PV.nilCheck rfl rfl) ?_
 refine ta 2 rfl (PV.fieldAddr (r := 183) rfl Tryz.underlying104 rfl sz77 rfl rfl) ?_
 refine ta 3 rfl (PV.move rfl rfl) ?_
 refine ta 5 rfl (PV.move rfl rfl) ?_
 refine ta 6 rfl (PV.nilCheck rfl rfl) ?_
 refine ta 7 rfl (PV.fieldAddr (r := 183) rfl Tryz.underlying104 rfl sz77 rfl rfl) ?_
 refine ta 8 rfl (PV.move rfl rfl) ?_
 refine TD.all [4] (by kernel_rfl) rfl ?_
 refine AllT.cons rfl ?_ ?_
 refine TL.callR (A := [blkA r (RepT.cells x) 104]) (Want.plain rfl) rfl rfl rfl nm26 rfl (mirRow_does r 183 104 (fun u => RepT.cells { x with mirror := u }) (RepT.arnd_mirror x) x.mirror who) (fun _ s => sep_selR [1] rfl s) (fun _ _ _ => trivial) (fun vR HR hR => ?_)
 obtain ⟨rfl, rfl⟩ := hR
 change TL _ _ _ _ _ _ _ _ _ [blkA r (RepT.cells x) 104, blkA b4 (ints RowT.zero.flat) 48]
 refine TL.nil ?_
 refine TE.draw (fun _ s => ⟨Frm.of s, trivial⟩) ?_
 refine TD.all [9] (by kernel_rfl) rfl ?_
 refine AllT.cons rfl ?_ ?_
 refine TL.callR (A := [blkA r (RepT.cells x) 104]) (Want.plain rfl) rfl rfl rfl nm30 rfl (mirSealed_does r 183 104 (fun u => RepT.cells { x with mirror := u }) (RepT.arnd_mirror x) x.mirror who) (fun _ s => s) (fun _ _ _ => trivial) (fun vR HR hR => ?_)
 obtain ⟨rfl, rfl⟩ := hR
 change TL _ _ _ _ _ _ _ _ _ [blkA r (RepT.cells x) 104, blkA b4 (ints RowT.zero.flat) 48]
 refine TL.nil ?_
 refine TE.draw (fun _ s => ⟨Frm.of s, trivial⟩) ?_
 refine TD.all [10] (by kernel_rfl) rfl ?_
 refine AllT.cons rfl ?_ ?_
 refine TL.store (vs := ints (mirRow x.mirror who).flat) (i := 1) (H' := [blkA r (RepT.cells x) 104, blkA b4 (ints (mirRow x.mirror who).flat) 48]) (Want.plain rfl) rfl rfl rfl rfl rfl (by rw [(RowT.len (mirRow x.mirror who))]; exact sz48) (ints_one _) rfl rfl (by have h0 := (RowT.len RowT.zero); have h1 := (RowT.len (mirRow x.mirror who)); omega) (wwhole ((RowT.len RowT.zero).trans (RowT.len (mirRow x.mirror who)).symm)) rfl ?_
 refine TL.nil ?_
 refine TE.draw (fun _ s => ⟨Frm.of s, trivial⟩) ?_
 refine ta 11 rfl (PV.assign rfl rfl) ?_
 refine TD.done (by kernel_rfl) ?_
 refine TE.next J2 ?_
 refine TC.ret ?_
 refine TE.retCT (H' := [blkA r (RepT.cells x) 104]) rfl rfl rfl Tryz.underlying48 rfl sz48 (Rd.own 1 rfl rfl) (RowT.len (mirRow x.mirror who)) (fun _ s => sep_keep [0] rfl s) ?_
 exact ⟨rfl, rfl⟩
 exact AllT.nil
 exact AllT.nil
 exact AllT.nil
end Go.Proofs.YtfceaphohlbnbaaGreat
end

section
namespace Go.Proofs.YtfceaphohlbnbaaGreat

open Go Leg Codec Api Dsk Wal

set_option linter.unusedSimpArgs false
set_option linter.unusedVariables false

set_option maxRecDepth 100000

set_option maxHeartbeats 8000000

theorem grow_does (r ob lg d : Nat) (x : RepT) (y : RowT) (op : Int) (recs : List (List UInt8)) (l : List SaidT) (hlog : x.log = .pointer (some ⟨lg, 0, none⟩)) (hroom : sizeS recs + piecesN (encR (rowRec y)).length ≤ 2048) (hl : l.length ≤ 900000) (hid : machB x.id = true) :
    Does Tryz.prog 42 #[(.pointer (some ⟨r, 0, none⟩)), (.iface 34 (.pointer (some ⟨ob, 0, none⟩))), (.agg (ints y.flat).toArray), (.int .i64 (op))] (fun _ => True) [blkA r (RepT.cells x) 104, lgP lg d (((recs).length : Nat) : Int) ((sizeS (recs) : Nat) : Int), dkL d (recs), outP ob (l)] (Ret (fun r' H => r' = .int .i64 0 ∧ H = [blkA r (RepT.cells (growF x y op)) 104, lgL lg d (recs ++ [encR (rowRec y)]), dkL d (recs ++ [encR (rowRec y)]), outP ob (l ++ tellL (growF x y op))])) := by
 refine Does.body (vs := [(.pointer (some ⟨r, 0, none⟩)), (.iface 34 (.pointer (some ⟨ob, 0, none⟩))), (.agg (ints y.flat).toArray), (.int .i64 (op))]) (n := 34) Tryz.func42 rfl rfl rfl (fun w0 F hF => ?_)
 refine sr fun _ J1 => ?_
 refine TL.box (Want.plain rfl) rfl rfl rfl rfl (fun b6 => ?_)
 change TL _ _ _ _ _ _ _ _ _ [blkA b6 (ints y.flat) 48, blkA r (RepT.cells x) 104, lgP lg d (((recs).length : Nat) : Int) ((sizeS (recs) : Nat) : Int), dkL d (recs), outP ob (l)]
 refine sg' ?_
 refine nx J1 ?_
 refine TC.seq fun _ J2 => ?_
 refine sr fun _ J3 => ?_
 refine mv ?_
 refine tp (PV.loadN (vs := ints y.flat) rfl Tryz.underlying48 rfl sz48 rfl (Rd.own 0 rfl rfl) (RowT.len y) (whole (RowT.len y))) ?_
 refine tp (PV.buildSegs (cs := ints (RecT.mk 0 0 y 0 BallotT.zero ChangeT.zero ViewT.zero).flat) (segs := [[Value.int .i64 0], [Value.int .i64 0], ints RowT.zero.flat, [Value.int .i64 0], ints BallotT.zero.flat, ints ChangeT.zero.flat, ints ViewT.zero.flat]) (res := [[Value.int .i64 0], [Value.int .i64 0], ints y.flat, [Value.int .i64 0], ints BallotT.zero.flat, ints ChangeT.zero.flat, ints ViewT.zero.flat]) (parts := [(0, [Value.int .i64 0]), (2, ints y.flat)]) rfl rfl Tryz.underlying108 (by kernel_rfl) (by kernel_rfl) rfl (putSegs_step rfl ((rfl : [Value.int .i64 0].length = 1).trans (rfl : [Value.int .i64 0].length = 1).symm) (putSegs_step rfl ((RowT.len y).trans (RowT.len RowT.zero).symm) putSegs_nil)) (RecT.eq (RecT.mk 0 0 y 0 BallotT.zero ChangeT.zero ViewT.zero)).symm) ?_
 refine TL.callR (A := [blkA r (RepT.cells x) 104, lgP lg d (((recs).length : Nat) : Int) ((sizeS (recs) : Nat) : Int), dkL d (recs)]) (Want.plain rfl) rfl rfl rfl nm78 rfl (put_does r lg d x (RecT.mk 0 0 y 0 BallotT.zero ChangeT.zero ViewT.zero) (recs) hlog hroom (Nat.le_trans (rowRec_len y) (by decide))) (fun _ s => sep_selR [1, 1, 1] rfl s) (fun _ _ _ => trivial) (fun vR HR hR => ?_)
 obtain ⟨rfl, rfl⟩ := hR
 change TL _ _ _ _ _ _ _ _ _ [blkA r (RepT.cells x) 104, lgP lg d (((recs ++ [encR (RecT.mk 0 0 y 0 BallotT.zero ChangeT.zero ViewT.zero)]).length : Nat) : Int) ((sizeS (recs ++ [encR (RecT.mk 0 0 y 0 BallotT.zero ChangeT.zero ViewT.zero)]) : Nat) : Int), dkL d (recs ++ [encR (RecT.mk 0 0 y 0 BallotT.zero ChangeT.zero ViewT.zero)]), blkA b6 (ints y.flat) 48, outP ob (l)]
 refine sg' ?_
 refine nx J3 ?_
 refine sr fun _ J4 => ?_
 refine mv ?_
 refine tp (PV.neq rfl rfl rfl) ?_
 refine nx J4 ?_
 refine TC.no rfl ?_
 refine TC.skip ?_
 refine TE.next J2 ?_
 refine sr fun _ J5 => ?_
 refine mv ?_
 refine mv ?_
 refine mv ?_
 refine mv ?_
 refine tp (PV.loadN (vs := ints y.flat) rfl Tryz.underlying48 rfl sz48 rfl (Rd.own 3 rfl rfl) (RowT.len y) (whole (RowT.len y))) ?_
 refine mv ?_
 refine tp (PV.nilCheck rfl rfl) ?_
 refine tp (PV.fieldAddr (r := 9) rfl Tryz.underlying104 rfl sz48 rfl rfl) ?_
 refine TL.store (vs := ints y.flat) (i := 0) (H' := [blkA r (RepT.cells (RepT.mk x.id x.log x.view y x.mirror x.acc x.round x.vote x.book x.busy x.kept x.waits x.ops x.replies x.told x.last)) 104, lgP lg d (((recs ++ [encR (RecT.mk 0 0 y 0 BallotT.zero ChangeT.zero ViewT.zero)]).length : Nat) : Int) ((sizeS (recs ++ [encR (RecT.mk 0 0 y 0 BallotT.zero ChangeT.zero ViewT.zero)]) : Nat) : Int), dkL d (recs ++ [encR (RecT.mk 0 0 y 0 BallotT.zero ChangeT.zero ViewT.zero)]), blkA b6 (ints y.flat) 48, outP ob (l)]) (Want.plain rfl) rfl rfl rfl rfl rfl (by rw [(RowT.len y)]; exact sz48) (ints_one _) rfl rfl (by have h0 := (RepT.len x); have h1 := (RowT.len y); omega) (RepT.wr_own_ x 0 rfl (by have h1 := (RowT.len y); omega) (wwhole ((RowT.len x.own).trans (RowT.len y).symm))) rfl ?_
 refine tp (PV.nilCheck rfl rfl) ?_
 refine tp (PV.fieldAddr (r := 1938) rfl Tryz.underlying104 rfl sz4 rfl rfl) ?_
 refine TL.store1 (i := 0) (H' := [blkA r (RepT.cells (RepT.mk x.id x.log x.view y x.mirror x.acc x.round x.vote x.book true x.kept x.waits x.ops x.replies x.told x.last)) 104, lgP lg d (((recs ++ [encR (RecT.mk 0 0 y 0 BallotT.zero ChangeT.zero ViewT.zero)]).length : Nat) : Int) ((sizeS (recs ++ [encR (RecT.mk 0 0 y 0 BallotT.zero ChangeT.zero ViewT.zero)]) : Nat) : Int), dkL d (recs ++ [encR (RecT.mk 0 0 y 0 BallotT.zero ChangeT.zero ViewT.zero)]), blkA b6 (ints y.flat) 48, outP ob (l)]) (Want.plain rfl) rfl rfl rfl rfl rfl sz4 rfl rfl (by have h0 := (RepT.len (RepT.mk x.id x.log x.view y x.mirror x.acc x.round x.vote x.book x.busy x.kept x.waits x.ops x.replies x.told x.last)); omega) (RepT.set_busy (RepT.mk x.id x.log x.view y x.mirror x.acc x.round x.vote x.book x.busy x.kept x.waits x.ops x.replies x.told x.last) rfl _) rfl ?_
 refine tp (PV.nilCheck rfl rfl) ?_
 refine tp (PV.fieldAddr (r := 1939) rfl Tryz.underlying104 rfl sz3 rfl rfl) ?_
 refine TL.store1 (i := 0) (H' := [blkA r (RepT.cells (RepT.mk x.id x.log x.view y x.mirror x.acc x.round x.vote x.book true 0 x.waits x.ops x.replies x.told x.last)) 104, lgP lg d (((recs ++ [encR (RecT.mk 0 0 y 0 BallotT.zero ChangeT.zero ViewT.zero)]).length : Nat) : Int) ((sizeS (recs ++ [encR (RecT.mk 0 0 y 0 BallotT.zero ChangeT.zero ViewT.zero)]) : Nat) : Int), dkL d (recs ++ [encR (RecT.mk 0 0 y 0 BallotT.zero ChangeT.zero ViewT.zero)]), blkA b6 (ints y.flat) 48, outP ob (l)]) (Want.plain rfl) rfl rfl rfl rfl rfl sz3 rfl rfl (by have h0 := (RepT.len (RepT.mk x.id x.log x.view y x.mirror x.acc x.round x.vote x.book true x.kept x.waits x.ops x.replies x.told x.last)); omega) (RepT.set_kept (RepT.mk x.id x.log x.view y x.mirror x.acc x.round x.vote x.book true x.kept x.waits x.ops x.replies x.told x.last) rfl _) rfl ?_
 refine tp (PV.nilCheck rfl rfl) ?_
 refine tp (PV.fieldAddr (r := 1940) rfl Tryz.underlying104 rfl sz3 rfl rfl) ?_
 refine TL.store1 (i := 0) (H' := [blkA r (RepT.cells (RepT.mk x.id x.log x.view y x.mirror x.acc x.round x.vote x.book true 0 op x.ops x.replies x.told x.last)) 104, lgP lg d (((recs ++ [encR (RecT.mk 0 0 y 0 BallotT.zero ChangeT.zero ViewT.zero)]).length : Nat) : Int) ((sizeS (recs ++ [encR (RecT.mk 0 0 y 0 BallotT.zero ChangeT.zero ViewT.zero)]) : Nat) : Int), dkL d (recs ++ [encR (RecT.mk 0 0 y 0 BallotT.zero ChangeT.zero ViewT.zero)]), blkA b6 (ints y.flat) 48, outP ob (l)]) (Want.plain rfl) rfl rfl rfl rfl rfl sz3 rfl rfl (by have h0 := (RepT.len (RepT.mk x.id x.log x.view y x.mirror x.acc x.round x.vote x.book true 0 x.waits x.ops x.replies x.told x.last)); omega) (RepT.set_waits (RepT.mk x.id x.log x.view y x.mirror x.acc x.round x.vote x.book true 0 x.waits x.ops x.replies x.told x.last) rfl _) rfl ?_
 refine nx J5 ?_
 refine sr fun _ J6 => ?_
 refine mv ?_
 refine mv ?_
 refine TL.callR (A := [blkA r (RepT.cells (RepT.mk x.id x.log x.view y x.mirror x.acc x.round x.vote x.book true 0 op x.ops x.replies x.told x.last)) 104, outP ob (l)]) (Want.plain rfl) rfl rfl rfl nm58 rfl (tellRow_does r ob (RepT.mk x.id x.log x.view y x.mirror x.acc x.round x.vote x.book true 0 op x.ops x.replies x.told x.last) (l) hl hid) (fun _ s => sep_selR [0, 3] rfl s) (fun _ _ _ => trivial) (fun vR HR hR => ?_)
 obtain rfl := hR
 change TL _ _ _ _ _ _ _ _ _ [blkA r (RepT.cells (RepT.mk x.id x.log x.view y x.mirror x.acc x.round x.vote x.book true 0 op x.ops x.replies x.told x.last)) 104, outP ob (l ++ tellL (RepT.mk x.id x.log x.view y x.mirror x.acc x.round x.vote x.book true 0 op x.ops x.replies x.told x.last)), lgP lg d (((recs ++ [encR (RecT.mk 0 0 y 0 BallotT.zero ChangeT.zero ViewT.zero)]).length : Nat) : Int) ((sizeS (recs ++ [encR (RecT.mk 0 0 y 0 BallotT.zero ChangeT.zero ViewT.zero)]) : Nat) : Int), dkL d (recs ++ [encR (RecT.mk 0 0 y 0 BallotT.zero ChangeT.zero ViewT.zero)]), blkA b6 (ints y.flat) 48]
 refine nx J6 ?_
 refine sr fun _ J7 => ?_
 refine sg' ?_
 refine nx J7 ?_
 refine TC.ret ?_
 refine TE.weak (Sub.refl _) (fun _ s => sep_keep [0, 1, 1, 0] rfl s) ?_
 refine TE.ret1 rfl rfl ?_
 exact ⟨rfl, rfl⟩
theorem plan_does (r : Nat) (x : RepT) (o : OpT) :
    Does Tryz.prog 40 #[(.pointer (some ⟨r, 0, none⟩)), (.agg (ints o.flat).toArray)] (fun _ => True) [blkA r (RepT.cells x) 104] (Ret (fun r' H => r' = .tuple #[.agg (ints (planF x o).1.flat).toArray, .int .i64 (planF x o).2.1, .int .i64 (planF x o).2.2] ∧ H = [blkA r (RepT.cells x) 104])) := by
 refine Does.body (vs := [(.pointer (some ⟨r, 0, none⟩)), (.agg (ints o.flat).toArray)]) (n := 121) Tryz.func40 rfl rfl rfl (fun w0 F hF => ?_)
 refine sr fun _ J1 => ?_
 refine TL.box (Want.plain rfl) rfl rfl rfl rfl (fun b3 => ?_)
 change TL _ _ _ _ _ _ _ _ _ [blkA b3 (ints o.flat) 38, blkA r (RepT.cells x) 104]
 refine TL.alloc (Want.plain rfl) rfl rfl rfl z48 (fun b4 => ?_)
 change TL _ _ _ _ _ _ _ _ _ [blkA b4 (ints RowT.zero.flat) 48, blkA b3 (ints o.flat) 38, blkA r (RepT.cells x) 104]
 refine sg' ?_
 refine sg' ?_
 refine nx J1 ?_
 clear J1
 refine TC.seq fun _ J2 => ?_
 refine TC.seq fun _ J3 => ?_
 refine TC.draw (fun w => Frm F w ∧ w.heap[r]? = some (.cells (RepT.cells x).toArray 104 (0, 0)) ∧ True) mixed rfl (fun _ s => ⟨Frm.of s, s.block 2 (lb rfl) rfl, trivial⟩) ?_
 refine ta 0 rfl (PV.move rfl rfl) ?_
 refine ta 1 rfl (PV.nilCheck rfl rfl) ?_
 refine ta 2 rfl (PV.fieldAddr (r := 2) rfl Tryz.underlying104 rfl sz52 rfl rfl) ?_
 refine ta 3 rfl (PV.loadN (vs := ints x.view.flat) rfl Tryz.underlying52 rfl sz52 rfl (fun _ h => h.2.1) (ViewT.len x.view) (RepT.sub_view x 0 rfl (by decide) (whole (ViewT.len x.view)))) ?_
 refine ta 4 rfl (PV.move rfl rfl) ?_
 refine ta 5 rfl (PV.nilCheck rfl rfl) ?_
 refine ta 6 rfl (PV.fieldAddr (r := 0) rfl Tryz.underlying104 rfl sz3 rfl rfl) ?_
 refine ta 7 rfl (PV.load1 (v := (.int .i64 (x.id))) rfl Tryz.underlying3 rfl rfl (fun _ h => h.2.1) (RepT.at_id x rfl)) ?_
 refine TD.all [8] (by kernel_rfl) rfl ?_
 refine AllT.cons rfl ?_ ?_
 refine TL.callR (A := []) (Want.plain rfl) rfl rfl rfl nm38 rfl (member_does x.view x.id) (fun _ s => s) (fun _ _ _ => trivial) (fun vR HR hR => ?_)
 obtain ⟨rfl, rfl⟩ := hR
 change TL _ _ _ _ _ _ _ _ _ [blkA b4 (ints RowT.zero.flat) 48, blkA b3 (ints o.flat) 38, blkA r (RepT.cells x) 104]
 refine TL.decB (fun h17 => ?_) (fun h17 => ?_)
 refine TL.nil ?_
 refine TE.draw (fun _ s => ⟨Frm.of s, s.block 2 (lb rfl) rfl, trivial⟩) ?_
 refine ta 9 rfl (PV.not (r := false) rfl rfl rfl) ?_
 refine TD.done (by kernel_rfl) ?_
 refine TE.next J3 ?_
 clear J3
 refine TC.no rfl ?_
 refine TC.skip ?_
 refine TE.next J2 ?_
 clear J2
 refine TC.seq fun _ J4 => ?_
 refine sr fun _ J5 => ?_
 refine tp (PV.fieldAddr (r := 3) rfl Tryz.underlying38 rfl sz3 rfl rfl) ?_
 refine tp (PV.load1 (v := (.int .i64 (o.key))) rfl Tryz.underlying3 rfl rfl (Rd.own 1 rfl rfl) (OpT.at_key o rfl)) ?_
 refine tp (PV.lss rfl rfl rfl) ?_
 refine TL.dec (fun h22 => ?_) (fun h22 => ?_)
 have hkb : keyB o.key = false := decide_eq_false (by omega)
 refine mv ?_
 refine TL.unmet (b := true) rfl rfl rfl rfl (lb rfl) ?_
 refine TL.unmet (b := true) rfl rfl rfl rfl (lb rfl) ?_
 refine TL.unmet (b := true) rfl rfl rfl rfl (lb rfl) ?_
 refine tp (PV.pick rfl rfl rfl) ?_
 refine nx J5 ?_
 clear J5
 refine TC.yes rfl ?_
 refine sr fun _ J6 => ?_
 refine tp (PV.build (cells := (ints RowT.zero.flat).toArray) rfl rfl (by as_aux_lemma => kernel_rfl)) ?_
 refine TL.store (vs := ints RowT.zero.flat) (i := 0) (H' := [blkA b4 (ints RowT.zero.flat) 48, blkA b3 (ints o.flat) 38, blkA r (RepT.cells x) 104]) (Want.plain rfl) rfl rfl rfl rfl rfl (by rw [(RowT.len RowT.zero)]; exact sz48) (ints_one _) rfl rfl (by have h0 := (RowT.len RowT.zero); have h1 := (RowT.len RowT.zero); omega) (wwhole ((RowT.len RowT.zero).trans (RowT.len RowT.zero).symm)) rfl ?_
 refine sg' ?_
 refine sg' ?_
 refine nx J6 ?_
 clear J6
 refine TC.ret ?_
 refine TE.passRet ?_
 clear J4
 refine TE.retCTT (H' := [blkA r (RepT.cells x) 104]) rfl rfl rfl rfl Tryz.underlying48 rfl sz48 (Rd.own 0 rfl rfl) (RowT.len RowT.zero) (fun _ s => sep_keep [2] rfl s) ?_
 exact ⟨by simp [planF, growOf, *], rfl⟩
 refine mv ?_
 refine tq (PV.fieldAddr (r := 3) rfl Tryz.underlying38 rfl sz3 rfl rfl) ?_
 refine tq (PV.load1 (v := (.int .i64 (o.key))) rfl Tryz.underlying3 rfl rfl (Rd.own 1 rfl rfl) (OpT.at_key o rfl)) ?_
 refine tq (PV.geq rfl rfl rfl) ?_
 refine TL.dec (fun h26 => ?_) (fun h26 => ?_)
 have hkb : keyB o.key = false := decide_eq_false (by omega)
 refine tp (PV.pick rfl rfl rfl) ?_
 refine nx J5 ?_
 clear J5
 refine TC.yes rfl ?_
 refine sr fun _ J7 => ?_
 refine tp (PV.build (cells := (ints RowT.zero.flat).toArray) rfl rfl (by as_aux_lemma => kernel_rfl)) ?_
 refine TL.store (vs := ints RowT.zero.flat) (i := 0) (H' := [blkA b4 (ints RowT.zero.flat) 48, blkA b3 (ints o.flat) 38, blkA r (RepT.cells x) 104]) (Want.plain rfl) rfl rfl rfl rfl rfl (by rw [(RowT.len RowT.zero)]; exact sz48) (ints_one _) rfl rfl (by have h0 := (RowT.len RowT.zero); have h1 := (RowT.len RowT.zero); omega) (wwhole ((RowT.len RowT.zero).trans (RowT.len RowT.zero).symm)) rfl ?_
 refine sg' ?_
 refine sg' ?_
 refine nx J7 ?_
 clear J7
 refine TC.ret ?_
 refine TE.passRet ?_
 clear J4
 refine TE.retCTT (H' := [blkA r (RepT.cells x) 104]) rfl rfl rfl rfl Tryz.underlying48 rfl sz48 (Rd.own 0 rfl rfl) (RowT.len RowT.zero) (fun _ s => sep_keep [2] rfl s) ?_
 exact ⟨by simp [planF, growOf, *], rfl⟩
 have hkb : keyB o.key = true := decide_eq_true (by omega)
 refine tp (PV.pick rfl rfl rfl) ?_
 refine nx J5 ?_
 clear J5
 refine TC.no rfl ?_
 refine TC.skip ?_
 refine TE.next J4 ?_
 clear J4
 refine TC.seq fun _ J8 => ?_
 refine sr fun _ J9 => ?_
 refine tp (PV.fieldAddr (r := 0) rfl Tryz.underlying38 rfl sz3 rfl rfl) ?_
 refine tp (PV.load1 (v := (.int .i64 (o.kind))) rfl Tryz.underlying3 rfl rfl (Rd.own 1 rfl rfl) (OpT.at_kind o rfl)) ?_
 refine tp (PV.eql rfl rfl rfl) ?_
 refine TL.dec (fun h31 => ?_) (fun h31 => ?_)
 refine nx J9 ?_
 clear J9
 refine TC.yes rfl ?_
 refine TC.seq fun _ J10 => ?_
 refine TC.draw (fun w => Frm F w ∧ w.heap[b3]? = some (.cells (ints o.flat).toArray 38 (0, 0)) ∧ True) mixed rfl (fun _ s => ⟨Frm.of s, s.block 1 (lb rfl) rfl, trivial⟩) ?_
 refine ta 0 rfl (PV.build (cells := (ints RowT.zero.flat).toArray) rfl rfl (by as_aux_lemma => kernel_rfl)) ?_
 refine ta 1 rfl (PV.move rfl rfl) ?_
 refine ta 2 rfl (PV.nilCheck rfl rfl) ?_
 refine ta 3 rfl (PV.fieldAddr (r := 1068) rfl Tryz.underlying104 rfl sz71 rfl rfl) ?_
 refine ta 4 rfl (PV.fieldAddr (r := 3) rfl Tryz.underlying38 rfl sz3 rfl rfl) ?_
 refine ta 5 rfl (PV.load1 (v := (.int .i64 (o.key))) rfl Tryz.underlying3 rfl rfl (fun _ h => h.2.1) (OpT.at_key o rfl)) ?_
 refine TD.all [6] (by kernel_rfl) rfl ?_
 refine AllT.cons rfl ?_ ?_
 refine TL.callR (A := [blkA r (RepT.cells x) 104]) (Want.plain rfl) rfl rfl rfl nm22 rfl (bookValue_does r 1068 104 (fun u => RepT.cells { x with book := u }) (RepT.arnd_book x) x.book o.key) (fun _ s => sep_selR [2] rfl s) (fun _ _ _ => trivial) (fun vR HR hR => ?_)
 obtain ⟨rfl, rfl⟩ := hR
 change TL _ _ _ _ _ _ _ _ _ [blkA r (RepT.cells x) 104, blkA b4 (ints RowT.zero.flat) 48, blkA b3 (ints o.flat) 38]
 refine TL.nil ?_
 refine TE.draw (fun _ s => ⟨Frm.of s, s.block 2 (lb rfl) rfl, trivial⟩) ?_
 refine TD.all [7] (by kernel_rfl) rfl ?_
 refine AllT.cons rfl ?_ ?_
 refine TL.store (vs := ints RowT.zero.flat) (i := 1) (H' := [blkA r (RepT.cells x) 104, blkA b4 (ints RowT.zero.flat) 48, blkA b3 (ints o.flat) 38]) (Want.plain rfl) rfl rfl rfl rfl rfl (by rw [(RowT.len RowT.zero)]; exact sz48) (ints_one _) rfl rfl (by have h0 := (RowT.len RowT.zero); have h1 := (RowT.len RowT.zero); omega) (wwhole ((RowT.len RowT.zero).trans (RowT.len RowT.zero).symm)) rfl ?_
 refine TL.nil ?_
 refine TE.draw (fun _ s => ⟨Frm.of s, s.block 2 (lb rfl) rfl, trivial⟩) ?_
 refine ta 8 rfl (PV.assign rfl rfl) ?_
 refine ta 9 rfl (PV.assign rfl rfl) ?_
 refine TD.done (by kernel_rfl) ?_
 refine TE.next J10 ?_
 clear J10
 refine TC.ret ?_
 refine TE.passRet ?_
 clear J8
 refine TE.retCTT (H' := [blkA r (RepT.cells x) 104]) rfl rfl rfl rfl Tryz.underlying48 rfl sz48 (Rd.own 1 rfl rfl) (RowT.len RowT.zero) (fun _ s => sep_keep [0] rfl s) ?_
 exact ⟨by simp [planF, growOf, *], rfl⟩
 exact AllT.nil
 exact AllT.nil
 refine nx J9 ?_
 clear J9
 refine TC.no rfl ?_
 refine TC.skip ?_
 refine TE.next J8 ?_
 clear J8
 refine TC.seq fun _ J11 => ?_
 refine sr fun _ J12 => ?_
 refine mv ?_
 refine tp (PV.nilCheck rfl rfl) ?_
 refine tp (PV.fieldAddr (r := 1938) rfl Tryz.underlying104 rfl sz4 rfl rfl) ?_
 refine tp (PV.load1 (v := (.bool (x.busy))) rfl Tryz.underlying4 rfl rfl (Rd.own 2 rfl rfl) (RepT.at_busy x rfl)) ?_
 refine TL.decB (fun h42 => ?_) (fun h42 => ?_)
 refine nx J12 ?_
 clear J12
 refine TC.yes rfl ?_
 refine sr fun _ J13 => ?_
 refine tp (PV.build (cells := (ints RowT.zero.flat).toArray) rfl rfl (by as_aux_lemma => kernel_rfl)) ?_
 refine TL.store (vs := ints RowT.zero.flat) (i := 0) (H' := [blkA b4 (ints RowT.zero.flat) 48, blkA b3 (ints o.flat) 38, blkA r (RepT.cells x) 104]) (Want.plain rfl) rfl rfl rfl rfl rfl (by rw [(RowT.len RowT.zero)]; exact sz48) (ints_one _) rfl rfl (by have h0 := (RowT.len RowT.zero); have h1 := (RowT.len RowT.zero); omega) (wwhole ((RowT.len RowT.zero).trans (RowT.len RowT.zero).symm)) rfl ?_
 refine sg' ?_
 refine sg' ?_
 refine nx J13 ?_
 clear J13
 refine TC.ret ?_
 refine TE.passRet ?_
 clear J11
 refine TE.retCTT (H' := [blkA r (RepT.cells x) 104]) rfl rfl rfl rfl Tryz.underlying48 rfl sz48 (Rd.own 0 rfl rfl) (RowT.len RowT.zero) (fun _ s => sep_keep [2] rfl s) ?_
 exact ⟨by simp [planF, growOf, *], rfl⟩
 refine nx J12 ?_
 clear J12
 refine TC.no rfl ?_
 refine TC.skip ?_
 refine TE.next J11 ?_
 clear J11
 refine sr fun _ J14 => ?_
 refine TL.alloc (Want.plain rfl) rfl rfl rfl z48 (fun b7 => ?_)
 change TL _ _ _ _ _ _ _ _ _ [blkA b7 (ints RowT.zero.flat) 48, blkA b4 (ints RowT.zero.flat) 48, blkA b3 (ints o.flat) 38, blkA r (RepT.cells x) 104]
 refine nx J14 ?_
 clear J14
 refine sr fun _ J15 => ?_
 refine sg' ?_
 refine nx J15 ?_
 clear J15
 refine TC.seq fun _ J16 => ?_
 refine sr fun _ J17 => ?_
 refine tp (PV.fieldAddr (r := 0) rfl Tryz.underlying38 rfl sz3 rfl rfl) ?_
 refine tp (PV.load1 (v := (.int .i64 (o.kind))) rfl Tryz.underlying3 rfl rfl (Rd.own 2 rfl rfl) (OpT.at_kind o rfl)) ?_
 refine nx J17 ?_
 clear J17
 refine TC.block ?_
 refine sr fun _ J18 => ?_
 refine tp (PV.eql rfl rfl rfl) ?_
 refine TL.dec (fun h47 => ?_) (fun h47 => ?_)
 refine sg' ?_
 refine nx J18 ?_
 clear J18
 refine TC.yes rfl ?_
 refine TC.draw (fun w => Frm F w ∧ w.heap[r]? = some (.cells (RepT.cells x).toArray 104 (0, 0)) ∧ w.heap[b3]? = some (.cells (ints o.flat).toArray 38 (0, 0)) ∧ True) mixed rfl (fun _ s => ⟨Frm.of s, s.block 3 (lb rfl) rfl, s.block 2 (lb rfl) rfl, trivial⟩) ?_
 refine ta 0 rfl (PV.move rfl rfl) ?_
 refine ta 1 rfl (PV.nilCheck rfl rfl) ?_
 refine ta 2 rfl (PV.fieldAddr (r := 9) rfl Tryz.underlying104 rfl sz48 rfl rfl) ?_
 refine ta 3 rfl (PV.loadN (vs := ints x.own.flat) rfl Tryz.underlying48 rfl sz48 rfl (fun _ h => h.2.1) (RowT.len x.own) (RepT.sub_own x 0 rfl (by decide) (whole (RowT.len x.own)))) ?_
 refine ta 4 rfl (PV.fieldAddr (r := 3) rfl Tryz.underlying38 rfl sz3 rfl rfl) ?_
 refine ta 5 rfl (PV.load1 (v := (.int .i64 (o.key))) rfl Tryz.underlying3 rfl rfl (fun _ h => h.2.2.1) (OpT.at_key o rfl)) ?_
 refine ta 6 rfl (PV.fieldAddr (r := 4) rfl Tryz.underlying38 rfl sz3 rfl rfl) ?_
 refine ta 7 rfl (PV.load1 (v := (.int .i64 (o.n))) rfl Tryz.underlying3 rfl rfl (fun _ h => h.2.2.1) (OpT.at_n o rfl)) ?_
 refine TD.all [8] (by kernel_rfl) rfl ?_
 refine AllT.cons rfl ?_ ?_
 refine TL.callR (A := []) (Want.plain rfl) rfl rfl rfl nm75 rfl (rowInc_does x.own o.key o.n) (fun _ s => s) (fun _ _ _ => trivial) (fun vR HR hR => ?_)
 obtain ⟨rfl, rfl⟩ := hR
 change TL _ _ _ _ _ _ _ _ _ [blkA b7 (ints RowT.zero.flat) 48, blkA b4 (ints RowT.zero.flat) 48, blkA b3 (ints o.flat) 38, blkA r (RepT.cells x) 104]
 refine TL.nil ?_
 refine TE.draw (fun _ s => ⟨Frm.of s, s.block 3 (lb rfl) rfl, s.block 2 (lb rfl) rfl, trivial⟩) ?_
 refine ta 9 rfl (PV.move rfl rfl) ?_
 refine ta 10 rfl (PV.extract (vs := [(.agg (ints ((rowInc x.own o.key o.n).1).flat).toArray), (.int .i64 ((rowInc x.own o.key o.n).2))]) rfl rfl rfl) ?_
 refine ta 11 rfl (PV.extract (vs := [(.agg (ints ((rowInc x.own o.key o.n).1).flat).toArray), (.int .i64 ((rowInc x.own o.key o.n).2))]) rfl rfl rfl) ?_
 refine TD.all [12] (by kernel_rfl) rfl ?_
 refine AllT.cons rfl ?_ ?_
 refine TL.store (vs := ints ((rowInc x.own o.key o.n).1).flat) (i := 0) (H' := [blkA b7 (ints ((rowInc x.own o.key o.n).1).flat) 48, blkA b4 (ints RowT.zero.flat) 48, blkA b3 (ints o.flat) 38, blkA r (RepT.cells x) 104]) (Want.plain rfl) rfl rfl rfl rfl rfl (by rw [(RowT.len ((rowInc x.own o.key o.n).1))]; exact sz48) (ints_one _) rfl rfl (by have h0 := (RowT.len RowT.zero); have h1 := (RowT.len ((rowInc x.own o.key o.n).1)); omega) (wwhole ((RowT.len RowT.zero).trans (RowT.len ((rowInc x.own o.key o.n).1)).symm)) rfl ?_
 refine TL.nil ?_
 refine TE.draw (fun _ s => ⟨Frm.of s, s.block 3 (lb rfl) rfl, s.block 2 (lb rfl) rfl, trivial⟩) ?_
 refine ta 13 rfl (PV.assign rfl rfl) ?_
 refine TD.done (by kernel_rfl) ?_
 refine TE.blockEnd ?_
 refine TE.next J16 ?_
 clear J16
 refine TC.seq fun _ J19 => ?_
 refine sr fun _ J20 => ?_
 refine mv ?_
 refine tp (PV.neq rfl rfl rfl) ?_
 refine TL.dec (fun h98 => ?_) (fun h98 => ?_)
 refine nx J20 ?_
 clear J20
 refine TC.yes rfl ?_
 refine sr fun _ J21 => ?_
 refine tp (PV.build (cells := (ints RowT.zero.flat).toArray) rfl rfl (by as_aux_lemma => kernel_rfl)) ?_
 refine mv ?_
 refine TL.store (vs := ints RowT.zero.flat) (i := 1) (H' := [blkA b7 (ints ((rowInc x.own o.key o.n).1).flat) 48, blkA b4 (ints RowT.zero.flat) 48, blkA b3 (ints o.flat) 38, blkA r (RepT.cells x) 104]) (Want.plain rfl) rfl rfl rfl rfl rfl (by rw [(RowT.len RowT.zero)]; exact sz48) (ints_one _) rfl rfl (by have h0 := (RowT.len RowT.zero); have h1 := (RowT.len RowT.zero); omega) (wwhole ((RowT.len RowT.zero).trans (RowT.len RowT.zero).symm)) rfl ?_
 refine sg' ?_
 refine sg' ?_
 refine nx J21 ?_
 clear J21
 refine TC.ret ?_
 refine TE.passRet ?_
 clear J19
 refine TE.retCTT (H' := [blkA r (RepT.cells x) 104]) rfl rfl rfl rfl Tryz.underlying48 rfl sz48 (Rd.own 1 rfl rfl) (RowT.len RowT.zero) (fun _ s => sep_keep [3] rfl s) ?_
 exact ⟨by simp [planF, growOf, *], rfl⟩
 refine nx J20 ?_
 clear J20
 refine TC.no rfl ?_
 refine TC.skip ?_
 refine TE.next J19 ?_
 clear J19
 refine TC.seq fun _ J22 => ?_
 refine TC.seq fun _ J23 => ?_
 refine TC.draw (fun w => Frm F w ∧ w.heap[b3]? = some (.cells (ints o.flat).toArray 38 (0, 0)) ∧ w.heap[r]? = some (.cells (RepT.cells x).toArray 104 (0, 0)) ∧ True) mixed rfl (fun _ s => ⟨Frm.of s, s.block 2 (lb rfl) rfl, s.block 3 (lb rfl) rfl, trivial⟩) ?_
 refine ta 0 rfl (PV.fieldAddr (r := 0) rfl Tryz.underlying38 rfl sz3 rfl rfl) ?_
 refine ta 1 rfl (PV.load1 (v := (.int .i64 (o.kind))) rfl Tryz.underlying3 rfl rfl (fun _ h => h.2.1) (OpT.at_kind o rfl)) ?_
 refine ta 2 rfl (PV.neq rfl rfl rfl) ?_
 refine TD.dec (fun h103 => ?_) (fun h103 => ?_)
 · exact absurd h47 h103
 refine ta 3 rfl (PV.move rfl rfl) ?_
 refine TD.takeNot (i := 4) (b := false) rfl (by kernel_rfl) (by kernel_rfl) (by kernel_rfl) (fun _ _ _ _ h => h) rfl rfl rfl rfl rfl ?_
 refine TD.takeNot (i := 5) (b := false) rfl (by kernel_rfl) (by kernel_rfl) (by kernel_rfl) (fun _ _ _ _ h => h) rfl rfl rfl rfl rfl ?_
 refine TD.takeNot (i := 6) (b := false) rfl (by kernel_rfl) (by kernel_rfl) (by kernel_rfl) (fun _ _ _ _ h => h) rfl rfl rfl rfl rfl ?_
 refine TD.takeNot (i := 7) (b := false) rfl (by kernel_rfl) (by kernel_rfl) (by kernel_rfl) (fun _ _ _ _ h => h) rfl rfl rfl rfl rfl ?_
 refine TD.takeNot (i := 8) (b := false) rfl (by kernel_rfl) (by kernel_rfl) (by kernel_rfl) (fun _ _ _ _ h => h) rfl rfl rfl rfl rfl ?_
 refine TD.takeNot (i := 9) (b := false) rfl (by kernel_rfl) (by kernel_rfl) (by kernel_rfl) (fun _ _ _ _ h => h) rfl rfl rfl rfl rfl ?_
 refine TD.takeNot (i := 10) (b := false) rfl (by kernel_rfl) (by kernel_rfl) (by kernel_rfl) (fun _ _ _ _ h => h) rfl rfl rfl rfl rfl ?_
 refine TD.takeNot (i := 11) (b := false) rfl (by kernel_rfl) (by kernel_rfl) (by kernel_rfl) (fun _ _ _ _ h => h) rfl rfl rfl rfl rfl ?_
 refine TD.takeNot (i := 12) (b := false) rfl (by kernel_rfl) (by kernel_rfl) (by kernel_rfl) (fun _ _ _ _ h => h) rfl rfl rfl rfl rfl ?_
 refine TD.takeNot (i := 13) (b := false) rfl (by kernel_rfl) (by kernel_rfl) (by kernel_rfl) (fun _ _ _ _ h => h) rfl rfl rfl rfl rfl ?_
 refine TD.takeNot (i := 14) (b := false) rfl (by kernel_rfl) (by kernel_rfl) (by kernel_rfl) (fun _ _ _ _ h => h) rfl rfl rfl rfl rfl ?_
 refine TD.takeNot (i := 15) (b := false) rfl (by kernel_rfl) (by kernel_rfl) (by kernel_rfl) (fun _ _ _ _ h => h) rfl rfl rfl rfl rfl ?_
 refine TD.takeNot (i := 16) (b := false) rfl (by kernel_rfl) (by kernel_rfl) (by kernel_rfl) (fun _ _ _ _ h => h) rfl rfl rfl rfl rfl ?_
 refine ta 17 rfl (PV.pick rfl rfl rfl) ?_
 refine TD.done (by kernel_rfl) ?_
 refine TE.next J23 ?_
 clear J23
 refine TC.no rfl ?_
 refine TC.skip ?_
 refine TE.next J22 ?_
 clear J22
 refine sr fun _ J24 => ?_
 refine tp (PV.loadN (vs := ints ((rowInc x.own o.key o.n).1).flat) rfl Tryz.underlying48 rfl sz48 rfl (Rd.own 0 rfl rfl) (RowT.len ((rowInc x.own o.key o.n).1)) (whole (RowT.len ((rowInc x.own o.key o.n).1)))) ?_
 refine TL.store (vs := ints ((rowInc x.own o.key o.n).1).flat) (i := 1) (H' := [blkA b7 (ints ((rowInc x.own o.key o.n).1).flat) 48, blkA b4 (ints ((rowInc x.own o.key o.n).1).flat) 48, blkA b3 (ints o.flat) 38, blkA r (RepT.cells x) 104]) (Want.plain rfl) rfl rfl rfl rfl rfl (by rw [(RowT.len ((rowInc x.own o.key o.n).1))]; exact sz48) (ints_one _) rfl rfl (by have h0 := (RowT.len RowT.zero); have h1 := (RowT.len ((rowInc x.own o.key o.n).1)); omega) (wwhole ((RowT.len RowT.zero).trans (RowT.len ((rowInc x.own o.key o.n).1)).symm)) rfl ?_
 refine sg' ?_
 refine sg' ?_
 refine nx J24 ?_
 clear J24
 refine TC.ret ?_
 refine TE.retCTT (H' := [blkA r (RepT.cells x) 104]) rfl rfl rfl rfl Tryz.underlying48 rfl sz48 (Rd.own 1 rfl rfl) (RowT.len ((rowInc x.own o.key o.n).1)) (fun _ s => sep_keep [3] rfl s) ?_
 exact ⟨by simp [planF, growOf, *], rfl⟩
 exact AllT.nil
 exact AllT.nil
 refine sg' ?_
 refine nx J18 ?_
 clear J18
 refine TC.no rfl ?_
 refine sr fun _ J25 => ?_
 refine tp (PV.eql rfl rfl rfl) ?_
 refine TL.dec (fun h61 => ?_) (fun h61 => ?_)
 refine sg' ?_
 refine nx J25 ?_
 clear J25
 refine TC.yes rfl ?_
 refine TC.draw (fun w => Frm F w ∧ w.heap[r]? = some (.cells (RepT.cells x).toArray 104 (0, 0)) ∧ w.heap[b3]? = some (.cells (ints o.flat).toArray 38 (0, 0)) ∧ True) mixed rfl (fun _ s => ⟨Frm.of s, s.block 3 (lb rfl) rfl, s.block 2 (lb rfl) rfl, trivial⟩) ?_
 refine ta 0 rfl (PV.move rfl rfl) ?_
 refine ta 1 rfl (PV.nilCheck rfl rfl) ?_
 refine ta 2 rfl (PV.fieldAddr (r := 9) rfl Tryz.underlying104 rfl sz48 rfl rfl) ?_
 refine ta 3 rfl (PV.loadN (vs := ints x.own.flat) rfl Tryz.underlying48 rfl sz48 rfl (fun _ h => h.2.1) (RowT.len x.own) (RepT.sub_own x 0 rfl (by decide) (whole (RowT.len x.own)))) ?_
 refine ta 4 rfl (PV.fieldAddr (r := 3) rfl Tryz.underlying38 rfl sz3 rfl rfl) ?_
 refine ta 5 rfl (PV.load1 (v := (.int .i64 (o.key))) rfl Tryz.underlying3 rfl rfl (fun _ h => h.2.2.1) (OpT.at_key o rfl)) ?_
 refine ta 6 rfl (PV.fieldAddr (r := 4) rfl Tryz.underlying38 rfl sz3 rfl rfl) ?_
 refine ta 7 rfl (PV.load1 (v := (.int .i64 (o.n))) rfl Tryz.underlying3 rfl rfl (fun _ h => h.2.2.1) (OpT.at_n o rfl)) ?_
 refine TD.all [8] (by kernel_rfl) rfl ?_
 refine AllT.cons rfl ?_ ?_
 refine TL.callR (A := []) (Want.plain rfl) rfl rfl rfl nm76 rfl (rowDec_does x.own o.key o.n) (fun _ s => s) (fun _ _ _ => trivial) (fun vR HR hR => ?_)
 obtain ⟨rfl, rfl⟩ := hR
 change TL _ _ _ _ _ _ _ _ _ [blkA b7 (ints RowT.zero.flat) 48, blkA b4 (ints RowT.zero.flat) 48, blkA b3 (ints o.flat) 38, blkA r (RepT.cells x) 104]
 refine TL.nil ?_
 refine TE.draw (fun _ s => ⟨Frm.of s, s.block 3 (lb rfl) rfl, s.block 2 (lb rfl) rfl, trivial⟩) ?_
 refine ta 9 rfl (PV.move rfl rfl) ?_
 refine ta 10 rfl (PV.extract (vs := [(.agg (ints ((rowDec x.own o.key o.n).1).flat).toArray), (.int .i64 ((rowDec x.own o.key o.n).2))]) rfl rfl rfl) ?_
 refine ta 11 rfl (PV.extract (vs := [(.agg (ints ((rowDec x.own o.key o.n).1).flat).toArray), (.int .i64 ((rowDec x.own o.key o.n).2))]) rfl rfl rfl) ?_
 refine TD.all [12] (by kernel_rfl) rfl ?_
 refine AllT.cons rfl ?_ ?_
 refine TL.store (vs := ints ((rowDec x.own o.key o.n).1).flat) (i := 0) (H' := [blkA b7 (ints ((rowDec x.own o.key o.n).1).flat) 48, blkA b4 (ints RowT.zero.flat) 48, blkA b3 (ints o.flat) 38, blkA r (RepT.cells x) 104]) (Want.plain rfl) rfl rfl rfl rfl rfl (by rw [(RowT.len ((rowDec x.own o.key o.n).1))]; exact sz48) (ints_one _) rfl rfl (by have h0 := (RowT.len RowT.zero); have h1 := (RowT.len ((rowDec x.own o.key o.n).1)); omega) (wwhole ((RowT.len RowT.zero).trans (RowT.len ((rowDec x.own o.key o.n).1)).symm)) rfl ?_
 refine TL.nil ?_
 refine TE.draw (fun _ s => ⟨Frm.of s, s.block 3 (lb rfl) rfl, s.block 2 (lb rfl) rfl, trivial⟩) ?_
 refine ta 13 rfl (PV.assign rfl rfl) ?_
 refine TD.done (by kernel_rfl) ?_
 refine TE.blockEnd ?_
 refine TE.next J16 ?_
 clear J16
 refine TC.seq fun _ J26 => ?_
 refine sr fun _ J27 => ?_
 refine mv ?_
 refine tp (PV.neq rfl rfl rfl) ?_
 refine TL.dec (fun h98 => ?_) (fun h98 => ?_)
 refine nx J27 ?_
 clear J27
 refine TC.yes rfl ?_
 refine sr fun _ J28 => ?_
 refine tp (PV.build (cells := (ints RowT.zero.flat).toArray) rfl rfl (by as_aux_lemma => kernel_rfl)) ?_
 refine mv ?_
 refine TL.store (vs := ints RowT.zero.flat) (i := 1) (H' := [blkA b7 (ints ((rowDec x.own o.key o.n).1).flat) 48, blkA b4 (ints RowT.zero.flat) 48, blkA b3 (ints o.flat) 38, blkA r (RepT.cells x) 104]) (Want.plain rfl) rfl rfl rfl rfl rfl (by rw [(RowT.len RowT.zero)]; exact sz48) (ints_one _) rfl rfl (by have h0 := (RowT.len RowT.zero); have h1 := (RowT.len RowT.zero); omega) (wwhole ((RowT.len RowT.zero).trans (RowT.len RowT.zero).symm)) rfl ?_
 refine sg' ?_
 refine sg' ?_
 refine nx J28 ?_
 clear J28
 refine TC.ret ?_
 refine TE.passRet ?_
 clear J26
 refine TE.retCTT (H' := [blkA r (RepT.cells x) 104]) rfl rfl rfl rfl Tryz.underlying48 rfl sz48 (Rd.own 1 rfl rfl) (RowT.len RowT.zero) (fun _ s => sep_keep [3] rfl s) ?_
 exact ⟨by simp [planF, growOf, *], rfl⟩
 refine nx J27 ?_
 clear J27
 refine TC.no rfl ?_
 refine TC.skip ?_
 refine TE.next J26 ?_
 clear J26
 refine TC.seq fun _ J29 => ?_
 refine TC.seq fun _ J30 => ?_
 refine TC.draw (fun w => Frm F w ∧ w.heap[b3]? = some (.cells (ints o.flat).toArray 38 (0, 0)) ∧ w.heap[r]? = some (.cells (RepT.cells x).toArray 104 (0, 0)) ∧ True) mixed rfl (fun _ s => ⟨Frm.of s, s.block 2 (lb rfl) rfl, s.block 3 (lb rfl) rfl, trivial⟩) ?_
 refine ta 0 rfl (PV.fieldAddr (r := 0) rfl Tryz.underlying38 rfl sz3 rfl rfl) ?_
 refine ta 1 rfl (PV.load1 (v := (.int .i64 (o.kind))) rfl Tryz.underlying3 rfl rfl (fun _ h => h.2.1) (OpT.at_kind o rfl)) ?_
 refine ta 2 rfl (PV.neq rfl rfl rfl) ?_
 refine TD.dec (fun h103 => ?_) (fun h103 => ?_)
 refine ta 3 rfl (PV.move rfl rfl) ?_
 refine tb 4 rfl (PV.move rfl rfl) ?_
 refine tb 5 rfl (PV.nilCheck rfl rfl) ?_
 refine tb 6 rfl (PV.fieldAddr (r := 1068) rfl Tryz.underlying104 rfl sz71 rfl rfl) ?_
 refine tb 7 rfl (PV.move rfl rfl) ?_
 refine tb 8 rfl (PV.nilCheck rfl rfl) ?_
 refine tb 9 rfl (PV.fieldAddr (r := 0) rfl Tryz.underlying104 rfl sz3 rfl rfl) ?_
 refine tb 10 rfl (PV.load1 (v := (.int .i64 (x.id))) rfl Tryz.underlying3 rfl rfl (fun _ h => h.2.2.1) (RepT.at_id x rfl)) ?_
 refine tb 11 rfl (PV.fieldAddr (r := 3) rfl Tryz.underlying38 rfl sz3 rfl rfl) ?_
 refine tb 12 rfl (PV.load1 (v := (.int .i64 (o.key))) rfl Tryz.underlying3 rfl rfl (fun _ h => h.2.1) (OpT.at_key o rfl)) ?_
 refine tb 14 rfl (PV.fieldAddr (r := 4) rfl Tryz.underlying38 rfl sz3 rfl rfl) ?_
 refine tb 15 rfl (PV.load1 (v := (.int .i64 (o.n))) rfl Tryz.underlying3 rfl rfl (fun _ h => h.2.1) (OpT.at_n o rfl)) ?_
 refine TD.all [13] (by kernel_rfl) rfl ?_
 refine AllT.cons rfl ?_ ?_
 refine TL.callR (A := [blkA r (RepT.cells x) 104]) (Want.met rfl rfl rfl) rfl rfl rfl nm21 rfl (bookRights_does r 1068 104 (fun u => RepT.cells { x with book := u }) (RepT.arnd_book x) x.book x.id o.key) (fun _ s => sep_selR [3] rfl s) (fun _ _ _ => trivial) (fun vR HR hR => ?_)
 obtain ⟨rfl, rfl⟩ := hR
 change TL _ _ _ _ _ _ _ _ _ [blkA r (RepT.cells x) 104, blkA b7 (ints ((rowDec x.own o.key o.n).1).flat) 48, blkA b4 (ints RowT.zero.flat) 48, blkA b3 (ints o.flat) 38]
 refine TL.nil ?_
 refine TE.draw (fun _ s => ⟨Frm.of s, s.block 3 (lb rfl) rfl, s.block 0 (lb rfl) rfl, trivial⟩) ?_
 refine tb 16 rfl (PV.lss rfl rfl rfl) ?_
 refine TD.dec (fun h117 => ?_) (fun h117 => ?_)
 refine ta 17 rfl (PV.pick rfl rfl rfl) ?_
 refine TD.done (by kernel_rfl) ?_
 refine TE.next J30 ?_
 clear J30
 refine TC.yes rfl ?_
 refine sr fun _ J31 => ?_
 refine tp (PV.build (cells := (ints RowT.zero.flat).toArray) rfl rfl (by as_aux_lemma => kernel_rfl)) ?_
 refine TL.store (vs := ints RowT.zero.flat) (i := 2) (H' := [blkA r (RepT.cells x) 104, blkA b7 (ints ((rowDec x.own o.key o.n).1).flat) 48, blkA b4 (ints RowT.zero.flat) 48, blkA b3 (ints o.flat) 38]) (Want.plain rfl) rfl rfl rfl rfl rfl (by rw [(RowT.len RowT.zero)]; exact sz48) (ints_one _) rfl rfl (by have h0 := (RowT.len RowT.zero); have h1 := (RowT.len RowT.zero); omega) (wwhole ((RowT.len RowT.zero).trans (RowT.len RowT.zero).symm)) rfl ?_
 refine sg' ?_
 refine sg' ?_
 refine nx J31 ?_
 clear J31
 refine TC.ret ?_
 refine TE.passRet ?_
 clear J29
 refine TE.retCTT (H' := [blkA r (RepT.cells x) 104]) rfl rfl rfl rfl Tryz.underlying48 rfl sz48 (Rd.own 2 rfl rfl) (RowT.len RowT.zero) (fun _ s => sep_keep [0] rfl s) ?_
 exact ⟨by simp [planF, growOf, *], rfl⟩
 refine ta 17 rfl (PV.pick rfl rfl rfl) ?_
 refine TD.done (by kernel_rfl) ?_
 refine TE.next J30 ?_
 clear J30
 refine TC.no rfl ?_
 refine TC.skip ?_
 refine TE.next J29 ?_
 clear J29
 refine sr fun _ J32 => ?_
 refine tp (PV.loadN (vs := ints ((rowDec x.own o.key o.n).1).flat) rfl Tryz.underlying48 rfl sz48 rfl (Rd.own 1 rfl rfl) (RowT.len ((rowDec x.own o.key o.n).1)) (whole (RowT.len ((rowDec x.own o.key o.n).1)))) ?_
 refine TL.store (vs := ints ((rowDec x.own o.key o.n).1).flat) (i := 2) (H' := [blkA r (RepT.cells x) 104, blkA b7 (ints ((rowDec x.own o.key o.n).1).flat) 48, blkA b4 (ints ((rowDec x.own o.key o.n).1).flat) 48, blkA b3 (ints o.flat) 38]) (Want.plain rfl) rfl rfl rfl rfl rfl (by rw [(RowT.len ((rowDec x.own o.key o.n).1))]; exact sz48) (ints_one _) rfl rfl (by have h0 := (RowT.len RowT.zero); have h1 := (RowT.len ((rowDec x.own o.key o.n).1)); omega) (wwhole ((RowT.len RowT.zero).trans (RowT.len ((rowDec x.own o.key o.n).1)).symm)) rfl ?_
 refine sg' ?_
 refine sg' ?_
 refine nx J32 ?_
 clear J32
 refine TC.ret ?_
 refine TE.retCTT (H' := [blkA r (RepT.cells x) 104]) rfl rfl rfl rfl Tryz.underlying48 rfl sz48 (Rd.own 2 rfl rfl) (RowT.len ((rowDec x.own o.key o.n).1)) (fun _ s => sep_keep [0] rfl s) ?_
 exact ⟨by simp [planF, growOf, *], rfl⟩
 exact AllT.nil
 · exact absurd h47 h103
 exact AllT.nil
 exact AllT.nil
 refine sg' ?_
 refine nx J25 ?_
 clear J25
 refine TC.no rfl ?_
 refine sr fun _ J33 => ?_
 refine tp (PV.eql rfl rfl rfl) ?_
 refine TL.dec (fun h75 => ?_) (fun h75 => ?_)
 refine sg' ?_
 refine nx J33 ?_
 clear J33
 refine TC.yes rfl ?_
 refine TC.seq fun _ J34 => ?_
 refine TC.draw (fun w => Frm F w ∧ w.heap[b3]? = some (.cells (ints o.flat).toArray 38 (0, 0)) ∧ w.heap[r]? = some (.cells (RepT.cells x).toArray 104 (0, 0)) ∧ True) mixed rfl (fun _ s => ⟨Frm.of s, s.block 2 (lb rfl) rfl, s.block 3 (lb rfl) rfl, trivial⟩) ?_
 refine ta 0 rfl (PV.fieldAddr (r := 2) rfl Tryz.underlying38 rfl sz3 rfl rfl) ?_
 refine ta 1 rfl (PV.load1 (v := (.int .i64 (o.to'))) rfl Tryz.underlying3 rfl rfl (fun _ h => h.2.1) (OpT.at_to' o rfl)) ?_
 refine ta 2 rfl (PV.move rfl rfl) ?_
 refine ta 3 rfl (PV.nilCheck rfl rfl) ?_
 refine ta 4 rfl (PV.fieldAddr (r := 0) rfl Tryz.underlying104 rfl sz3 rfl rfl) ?_
 refine ta 5 rfl (PV.load1 (v := (.int .i64 (x.id))) rfl Tryz.underlying3 rfl rfl (fun _ h => h.2.2.1) (RepT.at_id x rfl)) ?_
 refine ta 6 rfl (PV.neq rfl rfl rfl) ?_
 refine TD.dec (fun h82 => ?_) (fun h82 => ?_)
 refine TD.done (by kernel_rfl) ?_
 refine TE.next J34 ?_
 clear J34
 refine TC.yes rfl ?_
 refine TC.draw (fun w => Frm F w ∧ w.heap[r]? = some (.cells (RepT.cells x).toArray 104 (0, 0)) ∧ w.heap[b3]? = some (.cells (ints o.flat).toArray 38 (0, 0)) ∧ True) mixed rfl (fun _ s => ⟨Frm.of s, s.block 3 (lb rfl) rfl, s.block 2 (lb rfl) rfl, trivial⟩) ?_
 refine ta 0 rfl (PV.move rfl rfl) ?_
 refine ta 1 rfl (PV.nilCheck rfl rfl) ?_
 refine ta 2 rfl (PV.fieldAddr (r := 9) rfl Tryz.underlying104 rfl sz48 rfl rfl) ?_
 refine ta 3 rfl (PV.loadN (vs := ints x.own.flat) rfl Tryz.underlying48 rfl sz48 rfl (fun _ h => h.2.1) (RowT.len x.own) (RepT.sub_own x 0 rfl (by decide) (whole (RowT.len x.own)))) ?_
 refine ta 4 rfl (PV.fieldAddr (r := 3) rfl Tryz.underlying38 rfl sz3 rfl rfl) ?_
 refine ta 5 rfl (PV.load1 (v := (.int .i64 (o.key))) rfl Tryz.underlying3 rfl rfl (fun _ h => h.2.2.1) (OpT.at_key o rfl)) ?_
 refine ta 6 rfl (PV.fieldAddr (r := 4) rfl Tryz.underlying38 rfl sz3 rfl rfl) ?_
 refine ta 7 rfl (PV.load1 (v := (.int .i64 (o.n))) rfl Tryz.underlying3 rfl rfl (fun _ h => h.2.2.1) (OpT.at_n o rfl)) ?_
 refine ta 8 rfl (PV.fieldAddr (r := 2) rfl Tryz.underlying38 rfl sz3 rfl rfl) ?_
 refine ta 9 rfl (PV.load1 (v := (.int .i64 (o.to'))) rfl Tryz.underlying3 rfl rfl (fun _ h => h.2.2.1) (OpT.at_to' o rfl)) ?_
 refine TD.all [10] (by kernel_rfl) rfl ?_
 refine AllT.cons rfl ?_ ?_
 refine TL.callR (A := []) (Want.plain rfl) rfl rfl rfl nm77 rfl (rowGive_does x.own o.key o.n o.to') (fun _ s => s) (fun _ _ _ => trivial) (fun vR HR hR => ?_)
 obtain ⟨rfl, rfl⟩ := hR
 change TL _ _ _ _ _ _ _ _ _ [blkA b7 (ints RowT.zero.flat) 48, blkA b4 (ints RowT.zero.flat) 48, blkA b3 (ints o.flat) 38, blkA r (RepT.cells x) 104]
 refine TL.nil ?_
 refine TE.draw (fun _ s => ⟨Frm.of s, s.block 3 (lb rfl) rfl, s.block 2 (lb rfl) rfl, trivial⟩) ?_
 refine ta 11 rfl (PV.move rfl rfl) ?_
 refine ta 12 rfl (PV.extract (vs := [(.agg (ints ((rowGive x.own o.key o.n o.to').1).flat).toArray), (.int .i64 ((rowGive x.own o.key o.n o.to').2))]) rfl rfl rfl) ?_
 refine ta 13 rfl (PV.extract (vs := [(.agg (ints ((rowGive x.own o.key o.n o.to').1).flat).toArray), (.int .i64 ((rowGive x.own o.key o.n o.to').2))]) rfl rfl rfl) ?_
 refine TD.all [14] (by kernel_rfl) rfl ?_
 refine AllT.cons rfl ?_ ?_
 refine TL.store (vs := ints ((rowGive x.own o.key o.n o.to').1).flat) (i := 0) (H' := [blkA b7 (ints ((rowGive x.own o.key o.n o.to').1).flat) 48, blkA b4 (ints RowT.zero.flat) 48, blkA b3 (ints o.flat) 38, blkA r (RepT.cells x) 104]) (Want.plain rfl) rfl rfl rfl rfl rfl (by rw [(RowT.len ((rowGive x.own o.key o.n o.to').1))]; exact sz48) (ints_one _) rfl rfl (by have h0 := (RowT.len RowT.zero); have h1 := (RowT.len ((rowGive x.own o.key o.n o.to').1)); omega) (wwhole ((RowT.len RowT.zero).trans (RowT.len ((rowGive x.own o.key o.n o.to').1)).symm)) rfl ?_
 refine TL.nil ?_
 refine TE.draw (fun _ s => ⟨Frm.of s, s.block 3 (lb rfl) rfl, s.block 2 (lb rfl) rfl, trivial⟩) ?_
 refine ta 15 rfl (PV.assign rfl rfl) ?_
 refine TD.done (by kernel_rfl) ?_
 refine TE.blockEnd ?_
 refine TE.next J16 ?_
 clear J16
 refine TC.seq fun _ J35 => ?_
 refine sr fun _ J36 => ?_
 refine mv ?_
 refine tp (PV.neq rfl rfl rfl) ?_
 refine TL.dec (fun h98 => ?_) (fun h98 => ?_)
 refine nx J36 ?_
 clear J36
 refine TC.yes rfl ?_
 refine sr fun _ J37 => ?_
 refine tp (PV.build (cells := (ints RowT.zero.flat).toArray) rfl rfl (by as_aux_lemma => kernel_rfl)) ?_
 refine mv ?_
 refine TL.store (vs := ints RowT.zero.flat) (i := 1) (H' := [blkA b7 (ints ((rowGive x.own o.key o.n o.to').1).flat) 48, blkA b4 (ints RowT.zero.flat) 48, blkA b3 (ints o.flat) 38, blkA r (RepT.cells x) 104]) (Want.plain rfl) rfl rfl rfl rfl rfl (by rw [(RowT.len RowT.zero)]; exact sz48) (ints_one _) rfl rfl (by have h0 := (RowT.len RowT.zero); have h1 := (RowT.len RowT.zero); omega) (wwhole ((RowT.len RowT.zero).trans (RowT.len RowT.zero).symm)) rfl ?_
 refine sg' ?_
 refine sg' ?_
 refine nx J37 ?_
 clear J37
 refine TC.ret ?_
 refine TE.passRet ?_
 clear J35
 refine TE.retCTT (H' := [blkA r (RepT.cells x) 104]) rfl rfl rfl rfl Tryz.underlying48 rfl sz48 (Rd.own 1 rfl rfl) (RowT.len RowT.zero) (fun _ s => sep_keep [3] rfl s) ?_
 exact ⟨by simp [planF, growOf, *], rfl⟩
 refine nx J36 ?_
 clear J36
 refine TC.no rfl ?_
 refine TC.skip ?_
 refine TE.next J35 ?_
 clear J35
 refine TC.seq fun _ J38 => ?_
 refine TC.seq fun _ J39 => ?_
 refine TC.draw (fun w => Frm F w ∧ w.heap[b3]? = some (.cells (ints o.flat).toArray 38 (0, 0)) ∧ w.heap[r]? = some (.cells (RepT.cells x).toArray 104 (0, 0)) ∧ True) mixed rfl (fun _ s => ⟨Frm.of s, s.block 2 (lb rfl) rfl, s.block 3 (lb rfl) rfl, trivial⟩) ?_
 refine ta 0 rfl (PV.fieldAddr (r := 0) rfl Tryz.underlying38 rfl sz3 rfl rfl) ?_
 refine ta 1 rfl (PV.load1 (v := (.int .i64 (o.kind))) rfl Tryz.underlying3 rfl rfl (fun _ h => h.2.1) (OpT.at_kind o rfl)) ?_
 refine ta 2 rfl (PV.neq rfl rfl rfl) ?_
 refine TD.dec (fun h103 => ?_) (fun h103 => ?_)
 refine ta 3 rfl (PV.move rfl rfl) ?_
 refine tb 4 rfl (PV.move rfl rfl) ?_
 refine tb 5 rfl (PV.nilCheck rfl rfl) ?_
 refine tb 6 rfl (PV.fieldAddr (r := 1068) rfl Tryz.underlying104 rfl sz71 rfl rfl) ?_
 refine tb 7 rfl (PV.move rfl rfl) ?_
 refine tb 8 rfl (PV.nilCheck rfl rfl) ?_
 refine tb 9 rfl (PV.fieldAddr (r := 0) rfl Tryz.underlying104 rfl sz3 rfl rfl) ?_
 refine tb 10 rfl (PV.load1 (v := (.int .i64 (x.id))) rfl Tryz.underlying3 rfl rfl (fun _ h => h.2.2.1) (RepT.at_id x rfl)) ?_
 refine tb 11 rfl (PV.fieldAddr (r := 3) rfl Tryz.underlying38 rfl sz3 rfl rfl) ?_
 refine tb 12 rfl (PV.load1 (v := (.int .i64 (o.key))) rfl Tryz.underlying3 rfl rfl (fun _ h => h.2.1) (OpT.at_key o rfl)) ?_
 refine tb 14 rfl (PV.fieldAddr (r := 4) rfl Tryz.underlying38 rfl sz3 rfl rfl) ?_
 refine tb 15 rfl (PV.load1 (v := (.int .i64 (o.n))) rfl Tryz.underlying3 rfl rfl (fun _ h => h.2.1) (OpT.at_n o rfl)) ?_
 refine TD.all [13] (by kernel_rfl) rfl ?_
 refine AllT.cons rfl ?_ ?_
 refine TL.callR (A := [blkA r (RepT.cells x) 104]) (Want.met rfl rfl rfl) rfl rfl rfl nm21 rfl (bookRights_does r 1068 104 (fun u => RepT.cells { x with book := u }) (RepT.arnd_book x) x.book x.id o.key) (fun _ s => sep_selR [3] rfl s) (fun _ _ _ => trivial) (fun vR HR hR => ?_)
 obtain ⟨rfl, rfl⟩ := hR
 change TL _ _ _ _ _ _ _ _ _ [blkA r (RepT.cells x) 104, blkA b7 (ints ((rowGive x.own o.key o.n o.to').1).flat) 48, blkA b4 (ints RowT.zero.flat) 48, blkA b3 (ints o.flat) 38]
 refine TL.nil ?_
 refine TE.draw (fun _ s => ⟨Frm.of s, s.block 3 (lb rfl) rfl, s.block 0 (lb rfl) rfl, trivial⟩) ?_
 refine tb 16 rfl (PV.lss rfl rfl rfl) ?_
 refine TD.dec (fun h117 => ?_) (fun h117 => ?_)
 refine ta 17 rfl (PV.pick rfl rfl rfl) ?_
 refine TD.done (by kernel_rfl) ?_
 refine TE.next J39 ?_
 clear J39
 refine TC.yes rfl ?_
 refine sr fun _ J40 => ?_
 refine tp (PV.build (cells := (ints RowT.zero.flat).toArray) rfl rfl (by as_aux_lemma => kernel_rfl)) ?_
 refine TL.store (vs := ints RowT.zero.flat) (i := 2) (H' := [blkA r (RepT.cells x) 104, blkA b7 (ints ((rowGive x.own o.key o.n o.to').1).flat) 48, blkA b4 (ints RowT.zero.flat) 48, blkA b3 (ints o.flat) 38]) (Want.plain rfl) rfl rfl rfl rfl rfl (by rw [(RowT.len RowT.zero)]; exact sz48) (ints_one _) rfl rfl (by have h0 := (RowT.len RowT.zero); have h1 := (RowT.len RowT.zero); omega) (wwhole ((RowT.len RowT.zero).trans (RowT.len RowT.zero).symm)) rfl ?_
 refine sg' ?_
 refine sg' ?_
 refine nx J40 ?_
 clear J40
 refine TC.ret ?_
 refine TE.passRet ?_
 clear J38
 refine TE.retCTT (H' := [blkA r (RepT.cells x) 104]) rfl rfl rfl rfl Tryz.underlying48 rfl sz48 (Rd.own 2 rfl rfl) (RowT.len RowT.zero) (fun _ s => sep_keep [0] rfl s) ?_
 exact ⟨by simp [planF, growOf, *], rfl⟩
 refine ta 17 rfl (PV.pick rfl rfl rfl) ?_
 refine TD.done (by kernel_rfl) ?_
 refine TE.next J39 ?_
 clear J39
 refine TC.no rfl ?_
 refine TC.skip ?_
 refine TE.next J38 ?_
 clear J38
 refine sr fun _ J41 => ?_
 refine tp (PV.loadN (vs := ints ((rowGive x.own o.key o.n o.to').1).flat) rfl Tryz.underlying48 rfl sz48 rfl (Rd.own 1 rfl rfl) (RowT.len ((rowGive x.own o.key o.n o.to').1)) (whole (RowT.len ((rowGive x.own o.key o.n o.to').1)))) ?_
 refine TL.store (vs := ints ((rowGive x.own o.key o.n o.to').1).flat) (i := 2) (H' := [blkA r (RepT.cells x) 104, blkA b7 (ints ((rowGive x.own o.key o.n o.to').1).flat) 48, blkA b4 (ints ((rowGive x.own o.key o.n o.to').1).flat) 48, blkA b3 (ints o.flat) 38]) (Want.plain rfl) rfl rfl rfl rfl rfl (by rw [(RowT.len ((rowGive x.own o.key o.n o.to').1))]; exact sz48) (ints_one _) rfl rfl (by have h0 := (RowT.len RowT.zero); have h1 := (RowT.len ((rowGive x.own o.key o.n o.to').1)); omega) (wwhole ((RowT.len RowT.zero).trans (RowT.len ((rowGive x.own o.key o.n o.to').1)).symm)) rfl ?_
 refine sg' ?_
 refine sg' ?_
 refine nx J41 ?_
 clear J41
 refine TC.ret ?_
 refine TE.retCTT (H' := [blkA r (RepT.cells x) 104]) rfl rfl rfl rfl Tryz.underlying48 rfl sz48 (Rd.own 2 rfl rfl) (RowT.len ((rowGive x.own o.key o.n o.to').1)) (fun _ s => sep_keep [0] rfl s) ?_
 exact ⟨by simp [planF, growOf, *], rfl⟩
 exact AllT.nil
 · exact absurd h47 h103
 exact AllT.nil
 exact AllT.nil
 refine TD.done (by kernel_rfl) ?_
 refine TE.next J34 ?_
 clear J34
 refine TC.no rfl ?_
 refine TC.skip ?_
 refine TE.blockEnd ?_
 refine TE.next J16 ?_
 clear J16
 refine TC.seq fun _ J42 => ?_
 refine sr fun _ J43 => ?_
 refine mv ?_
 refine tp (PV.neq rfl rfl rfl) ?_
 refine nx J43 ?_
 clear J43
 refine TC.yes rfl ?_
 refine sr fun _ J44 => ?_
 refine tp (PV.build (cells := (ints RowT.zero.flat).toArray) rfl rfl (by as_aux_lemma => kernel_rfl)) ?_
 refine mv ?_
 refine TL.store (vs := ints RowT.zero.flat) (i := 1) (H' := [blkA b7 (ints RowT.zero.flat) 48, blkA b4 (ints RowT.zero.flat) 48, blkA b3 (ints o.flat) 38, blkA r (RepT.cells x) 104]) (Want.plain rfl) rfl rfl rfl rfl rfl (by rw [(RowT.len RowT.zero)]; exact sz48) (ints_one _) rfl rfl (by have h0 := (RowT.len RowT.zero); have h1 := (RowT.len RowT.zero); omega) (wwhole ((RowT.len RowT.zero).trans (RowT.len RowT.zero).symm)) rfl ?_
 refine sg' ?_
 refine sg' ?_
 refine nx J44 ?_
 clear J44
 refine TC.ret ?_
 refine TE.passRet ?_
 clear J42
 refine TE.retCTT (H' := [blkA r (RepT.cells x) 104]) rfl rfl rfl rfl Tryz.underlying48 rfl sz48 (Rd.own 1 rfl rfl) (RowT.len RowT.zero) (fun _ s => sep_keep [3] rfl s) ?_
 exact ⟨by simp [planF, growOf, *], rfl⟩
 refine sg' ?_
 refine nx J33 ?_
 clear J33
 refine TC.no rfl ?_
 refine TC.skip ?_
 refine TE.blockEnd ?_
 refine TE.next J16 ?_
 clear J16
 refine TC.seq fun _ J45 => ?_
 refine sr fun _ J46 => ?_
 refine mv ?_
 refine tp (PV.neq rfl rfl rfl) ?_
 refine nx J46 ?_
 clear J46
 refine TC.yes rfl ?_
 refine sr fun _ J47 => ?_
 refine tp (PV.build (cells := (ints RowT.zero.flat).toArray) rfl rfl (by as_aux_lemma => kernel_rfl)) ?_
 refine mv ?_
 refine TL.store (vs := ints RowT.zero.flat) (i := 1) (H' := [blkA b7 (ints RowT.zero.flat) 48, blkA b4 (ints RowT.zero.flat) 48, blkA b3 (ints o.flat) 38, blkA r (RepT.cells x) 104]) (Want.plain rfl) rfl rfl rfl rfl rfl (by rw [(RowT.len RowT.zero)]; exact sz48) (ints_one _) rfl rfl (by have h0 := (RowT.len RowT.zero); have h1 := (RowT.len RowT.zero); omega) (wwhole ((RowT.len RowT.zero).trans (RowT.len RowT.zero).symm)) rfl ?_
 refine sg' ?_
 refine sg' ?_
 refine nx J47 ?_
 clear J47
 refine TC.ret ?_
 refine TE.passRet ?_
 clear J45
 refine TE.retCTT (H' := [blkA r (RepT.cells x) 104]) rfl rfl rfl rfl Tryz.underlying48 rfl sz48 (Rd.own 1 rfl rfl) (RowT.len RowT.zero) (fun _ s => sep_keep [3] rfl s) ?_
 exact ⟨by simp [planF, growOf, *], rfl⟩
 refine TL.nil ?_
 refine TE.draw (fun _ s => ⟨Frm.of s, s.block 2 (lb rfl) rfl, trivial⟩) ?_
 refine ta 9 rfl (PV.not (r := true) rfl rfl rfl) ?_
 refine TD.done (by kernel_rfl) ?_
 refine TE.next J3 ?_
 clear J3
 refine TC.yes rfl ?_
 refine sr fun _ J48 => ?_
 refine tp (PV.build (cells := (ints RowT.zero.flat).toArray) rfl rfl (by as_aux_lemma => kernel_rfl)) ?_
 refine TL.store (vs := ints RowT.zero.flat) (i := 0) (H' := [blkA b4 (ints RowT.zero.flat) 48, blkA b3 (ints o.flat) 38, blkA r (RepT.cells x) 104]) (Want.plain rfl) rfl rfl rfl rfl rfl (by rw [(RowT.len RowT.zero)]; exact sz48) (ints_one _) rfl rfl (by have h0 := (RowT.len RowT.zero); have h1 := (RowT.len RowT.zero); omega) (wwhole ((RowT.len RowT.zero).trans (RowT.len RowT.zero).symm)) rfl ?_
 refine sg' ?_
 refine sg' ?_
 refine nx J48 ?_
 clear J48
 refine TC.ret ?_
 refine TE.passRet ?_
 clear J2
 refine TE.retCTT (H' := [blkA r (RepT.cells x) 104]) rfl rfl rfl rfl Tryz.underlying48 rfl sz48 (Rd.own 0 rfl rfl) (RowT.len RowT.zero) (fun _ s => sep_keep [2] rfl s) ?_
 exact ⟨by simp [planF, growOf, *], rfl⟩
 exact AllT.nil
theorem client_does (r ob lg d : Nat) (x : RepT) (o : OpT) (recs : List (List UInt8)) (rs : List ReplyT) (l : List SaidT) (hlog : x.log = .pointer (some ⟨lg, 0, none⟩)) (hroom : (cN x o).2.2 = 0 → ¬ o.kind = 3 → sizeS recs + piecesN (encR (rowRec (cN x o).1)).length ≤ 2048) (hl : l.length ≤ 900000) (hrs : rs.length ≤ 1000000) (hid : machB x.id = true) (hkind : memb x.view x.id = true → o.kind ≠ 4) :
    Does Tryz.prog 12 #[(.pointer (some ⟨r, 0, none⟩)), (.iface 34 (.pointer (some ⟨ob, 0, none⟩))), (.agg (ints o.flat).toArray)] (fun _ => True) [blkA r (RepT.cells x) 104, lgP lg d (((recs).length : Nat) : Int) ((sizeS (recs) : Nat) : Int), dkL d (recs), own x.replies ((rs).length) (ints (List.flatMap ReplyT.flat (rs))) 92 3, outP ob (l)] (Ret (fun r' H => r' = .int .i64 (cN x o).2.2 ∧ ∃ v', v'.oneCell' = true ∧ H = [blkA r (RepT.cells { clientX x o with replies := v' }) 104, lgL lg d (clientC x o recs), dkL d (clientC x o recs), own v' (clientR x o rs).length (ints (List.flatMap ReplyT.flat (clientR x o rs))) 92 3, outP ob (l ++ clientO x o)])) := by
 refine Does.body (vs := [(.pointer (some ⟨r, 0, none⟩)), (.iface 34 (.pointer (some ⟨ob, 0, none⟩))), (.agg (ints o.flat).toArray)]) (n := 74) Tryz.func12 rfl rfl rfl (fun w0 F hF => ?_)
 refine sr fun _ J1 => ?_
 refine TL.ownLen 3 rfl rfl (fun _ hone => ?_)
 refine TL.box (Want.plain rfl) rfl rfl rfl rfl (fun b5 => ?_)
 change TL _ _ _ _ _ _ _ _ _ [blkA b5 (ints o.flat) 38, blkA r (RepT.cells x) 104, lgP lg d (((recs).length : Nat) : Int) ((sizeS (recs) : Nat) : Int), dkL d (recs), own x.replies ((rs).length) (ints (List.flatMap ReplyT.flat (rs))) 92 3, outP ob (l)]
 refine sg' ?_
 refine nx J1 ?_
 refine sr fun _ J2 => ?_
 refine mv ?_
 refine tp (PV.nilCheck rfl rfl) ?_
 refine tp (PV.fieldAddr (r := 1941) rfl Tryz.underlying104 rfl sz3 rfl rfl) ?_
 refine tp (PV.load1 (v := (.int .i64 (x.ops))) rfl Tryz.underlying3 rfl rfl (Rd.own 1 rfl rfl) (RepT.at_ops x rfl)) ?_
 refine tp (PV.add (r := (w64 (x.ops + 1))) rfl rfl rfl rfl) ?_
 refine tp (PV.nilCheck rfl rfl) ?_
 refine tp (PV.fieldAddr (r := 1941) rfl Tryz.underlying104 rfl sz3 rfl rfl) ?_
 refine TL.store1 (i := 1) (H' := [blkA b5 (ints o.flat) 38, blkA r (RepT.cells (RepT.mk x.id x.log x.view x.own x.mirror x.acc x.round x.vote x.book x.busy x.kept x.waits (w64 (x.ops + 1)) x.replies x.told x.last)) 104, lgP lg d (((recs).length : Nat) : Int) ((sizeS (recs) : Nat) : Int), dkL d (recs), own x.replies ((rs).length) (ints (List.flatMap ReplyT.flat (rs))) 92 3, outP ob (l)]) (Want.plain rfl) rfl rfl rfl rfl rfl sz3 rfl rfl (by have h0 := (RepT.len x); omega) (RepT.set_ops x rfl _) rfl ?_
 refine nx J2 ?_
 refine sr fun _ J3 => ?_
 refine mv ?_
 refine tp (PV.nilCheck rfl rfl) ?_
 refine tp (PV.fieldAddr (r := 1941) rfl Tryz.underlying104 rfl sz3 rfl rfl) ?_
 refine tp (PV.load1 (v := (.int .i64 ((w64 (x.ops + 1))))) rfl Tryz.underlying3 rfl rfl (Rd.own 1 rfl rfl) (RepT.at_ops (RepT.mk x.id x.log x.view x.own x.mirror x.acc x.round x.vote x.book x.busy x.kept x.waits (w64 (x.ops + 1)) x.replies x.told x.last) rfl)) ?_
 refine sg' ?_
 refine nx J3 ?_
 refine TC.seq fun _ J4 => ?_
 refine TC.seq fun _ J5 => ?_
 refine TC.draw (fun w => Frm F w ∧ w.heap[r]? = some (.cells (RepT.cells (RepT.mk x.id x.log x.view x.own x.mirror x.acc x.round x.vote x.book x.busy x.kept x.waits (w64 (x.ops + 1)) x.replies x.told x.last)).toArray 104 (0, 0)) ∧ w.heap[b5]? = some (.cells (ints o.flat).toArray 38 (0, 0)) ∧ True) mixed rfl (fun _ s => ⟨Frm.of s, s.block 1 (lb rfl) rfl, s.block 0 (lb rfl) rfl, trivial⟩) ?_
 refine ta 0 rfl (PV.move rfl rfl) ?_
 refine ta 1 rfl (PV.nilCheck rfl rfl) ?_
 refine ta 2 rfl (PV.fieldAddr (r := 2) rfl Tryz.underlying104 rfl sz52 rfl rfl) ?_
 refine ta 3 rfl (PV.loadN (vs := ints x.view.flat) rfl Tryz.underlying52 rfl sz52 rfl (fun _ h => h.2.1) (ViewT.len x.view) (RepT.sub_view (RepT.mk x.id x.log x.view x.own x.mirror x.acc x.round x.vote x.book x.busy x.kept x.waits (w64 (x.ops + 1)) x.replies x.told x.last) 0 rfl (by decide) (whole (ViewT.len x.view)))) ?_
 refine ta 4 rfl (PV.move rfl rfl) ?_
 refine ta 5 rfl (PV.nilCheck rfl rfl) ?_
 refine ta 6 rfl (PV.fieldAddr (r := 0) rfl Tryz.underlying104 rfl sz3 rfl rfl) ?_
 refine ta 7 rfl (PV.load1 (v := (.int .i64 (x.id))) rfl Tryz.underlying3 rfl rfl (fun _ h => h.2.1) (RepT.at_id (RepT.mk x.id x.log x.view x.own x.mirror x.acc x.round x.vote x.book x.busy x.kept x.waits (w64 (x.ops + 1)) x.replies x.told x.last) rfl)) ?_
 refine TD.all [8] (by kernel_rfl) rfl ?_
 refine AllT.cons rfl ?_ ?_
 refine TL.callR (A := []) (Want.plain rfl) rfl rfl rfl nm38 rfl (member_does x.view x.id) (fun _ s => s) (fun _ _ _ => trivial) (fun vR HR hR => ?_)
 obtain ⟨rfl, rfl⟩ := hR
 change TL _ _ _ _ _ _ _ _ _ [blkA b5 (ints o.flat) 38, blkA r (RepT.cells (RepT.mk x.id x.log x.view x.own x.mirror x.acc x.round x.vote x.book x.busy x.kept x.waits (w64 (x.ops + 1)) x.replies x.told x.last)) 104, lgP lg d (((recs).length : Nat) : Int) ((sizeS (recs) : Nat) : Int), dkL d (recs), own x.replies ((rs).length) (ints (List.flatMap ReplyT.flat (rs))) 92 3, outP ob (l)]
 refine TL.decB (fun h30 => ?_) (fun h30 => ?_)
 refine TL.nil ?_
 refine TE.draw (fun _ s => ⟨Frm.of s, s.block 1 (lb rfl) rfl, s.block 0 (lb rfl) rfl, trivial⟩) ?_
 refine ta 9 rfl (PV.move rfl rfl) ?_
 refine tb 10 rfl (PV.fieldAddr (r := 0) rfl Tryz.underlying38 rfl sz3 rfl rfl) ?_
 refine tb 11 rfl (PV.load1 (v := (.int .i64 (o.kind))) rfl Tryz.underlying3 rfl rfl (fun _ h => h.2.2.1) (OpT.at_kind o rfl)) ?_
 refine tb 12 rfl (PV.eql rfl rfl rfl) ?_
 refine TD.dec (fun h34 => ?_) (fun h34 => ?_)
 · exact absurd h34 (hkind h30)
 refine ta 13 rfl (PV.pick rfl rfl rfl) ?_
 refine TD.done (by kernel_rfl) ?_
 refine TE.next J5 ?_
 refine TC.no rfl ?_
 refine TC.skip ?_
 refine TE.next J4 ?_
 refine sr fun _ J6 => ?_
 refine mv ?_
 refine tp (PV.loadN (vs := ints o.flat) rfl Tryz.underlying38 rfl sz38 rfl (Rd.own 0 rfl rfl) (OpT.len o) (whole (OpT.len o))) ?_
 refine TL.callR (A := [blkA r (RepT.cells (RepT.mk x.id x.log x.view x.own x.mirror x.acc x.round x.vote x.book x.busy x.kept x.waits (w64 (x.ops + 1)) x.replies x.told x.last)) 104]) (Want.plain rfl) rfl rfl rfl nm40 rfl (plan_does r (RepT.mk x.id x.log x.view x.own x.mirror x.acc x.round x.vote x.book x.busy x.kept x.waits (w64 (x.ops + 1)) x.replies x.told x.last) o) (fun _ s => sep_selR [1] rfl s) (fun _ _ _ => trivial) (fun vR HR hR => ?_)
 obtain ⟨rfl, rfl⟩ := hR
 change TL _ _ _ _ _ _ _ _ _ [blkA r (RepT.cells (RepT.mk x.id x.log x.view x.own x.mirror x.acc x.round x.vote x.book x.busy x.kept x.waits (w64 (x.ops + 1)) x.replies x.told x.last)) 104, blkA b5 (ints o.flat) 38, lgP lg d (((recs).length : Nat) : Int) ((sizeS (recs) : Nat) : Int), dkL d (recs), own x.replies ((rs).length) (ints (List.flatMap ReplyT.flat (rs))) 92 3, outP ob (l)]
 refine mv ?_
 refine tp (PV.extract (vs := [(.agg (ints ((planF (opsF x) o).1).flat).toArray), (.int .i64 ((planF (opsF x) o).2.1)), (.int .i64 ((planF (opsF x) o).2.2))]) rfl rfl rfl) ?_
 refine tp (PV.extract (vs := [(.agg (ints ((planF (opsF x) o).1).flat).toArray), (.int .i64 ((planF (opsF x) o).2.1)), (.int .i64 ((planF (opsF x) o).2.2))]) rfl rfl rfl) ?_
 refine tp (PV.extract (vs := [(.agg (ints ((planF (opsF x) o).1).flat).toArray), (.int .i64 ((planF (opsF x) o).2.1)), (.int .i64 ((planF (opsF x) o).2.2))]) rfl rfl rfl) ?_
 refine TL.alloc (Want.plain rfl) rfl rfl rfl z48 (fun b8 => ?_)
 change TL _ _ _ _ _ _ _ _ _ [blkA b8 (ints RowT.zero.flat) 48, blkA r (RepT.cells (RepT.mk x.id x.log x.view x.own x.mirror x.acc x.round x.vote x.book x.busy x.kept x.waits (w64 (x.ops + 1)) x.replies x.told x.last)) 104, blkA b5 (ints o.flat) 38, lgP lg d (((recs).length : Nat) : Int) ((sizeS (recs) : Nat) : Int), dkL d (recs), own x.replies ((rs).length) (ints (List.flatMap ReplyT.flat (rs))) 92 3, outP ob (l)]
 refine TL.store (vs := ints ((planF (opsF x) o).1).flat) (i := 0) (H' := [blkA b8 (ints ((planF (opsF x) o).1).flat) 48, blkA r (RepT.cells (RepT.mk x.id x.log x.view x.own x.mirror x.acc x.round x.vote x.book x.busy x.kept x.waits (w64 (x.ops + 1)) x.replies x.told x.last)) 104, blkA b5 (ints o.flat) 38, lgP lg d (((recs).length : Nat) : Int) ((sizeS (recs) : Nat) : Int), dkL d (recs), own x.replies ((rs).length) (ints (List.flatMap ReplyT.flat (rs))) 92 3, outP ob (l)]) (Want.plain rfl) rfl rfl rfl rfl rfl (by rw [(RowT.len ((planF (opsF x) o).1))]; exact sz48) (ints_one _) rfl rfl (by have h0 := (RowT.len RowT.zero); have h1 := (RowT.len ((planF (opsF x) o).1)); omega) (wwhole ((RowT.len RowT.zero).trans (RowT.len ((planF (opsF x) o).1)).symm)) rfl ?_
 refine sg' ?_
 refine sg' ?_
 refine nx J6 ?_
 refine TC.seq fun _ J7 => ?_
 refine sr fun _ J8 => ?_
 refine mv ?_
 refine tp (PV.neq rfl rfl rfl) ?_
 refine TL.dec (fun h50 => ?_) (fun h50 => ?_)
 refine mv ?_
 refine TL.unmet (b := true) rfl rfl rfl rfl (lb rfl) ?_
 refine TL.unmet (b := true) rfl rfl rfl rfl (lb rfl) ?_
 refine TL.unmet (b := true) rfl rfl rfl rfl (lb rfl) ?_
 refine tp (PV.pick rfl rfl rfl) ?_
 refine nx J8 ?_
 refine TC.yes rfl ?_
 refine sr fun _ J9 => ?_
 refine mv ?_
 refine mv ?_
 refine mv ?_
 refine mv ?_
 refine TL.callR (A := [blkA r (RepT.cells (RepT.mk x.id x.log x.view x.own x.mirror x.acc x.round x.vote x.book x.busy x.kept x.waits (w64 (x.ops + 1)) x.replies x.told x.last)) 104, own x.replies ((rs).length) (ints (List.flatMap ReplyT.flat (rs))) 92 3]) (Want.plain rfl) rfl rfl rfl nm41 rfl (reply_does r (RepT.mk x.id x.log x.view x.own x.mirror x.acc x.round x.vote x.book x.busy x.kept x.waits (w64 (x.ops + 1)) x.replies x.told x.last) (w64 (x.ops + 1)) ((planF (opsF x) o).2.2) ((planF (opsF x) o).2.1) (rs) hrs) (fun _ s => sep_selR [1, 4] rfl s) (fun _ _ _ => trivial) (fun vR HR hR => ?_)
 obtain ⟨vr1, hovr1, rfl⟩ := hR
 change TL _ _ _ _ _ _ _ _ _ [blkA r (RepT.cells (RepT.mk x.id x.log x.view x.own x.mirror x.acc x.round x.vote x.book x.busy x.kept x.waits (w64 (x.ops + 1)) vr1 x.told x.last)) 104, own vr1 ((rs ++ [ReplyT.mk (w64 (x.ops + 1)) ((planF (opsF x) o).2.2) ((planF (opsF x) o).2.1)]).length) (ints (List.flatMap ReplyT.flat (rs ++ [ReplyT.mk (w64 (x.ops + 1)) ((planF (opsF x) o).2.2) ((planF (opsF x) o).2.1)]))) 92 3, blkA b8 (ints ((planF (opsF x) o).1).flat) 48, blkA b5 (ints o.flat) 38, lgP lg d (((recs).length : Nat) : Int) ((sizeS (recs) : Nat) : Int), dkL d (recs), outP ob (l)]
 refine nx J9 ?_
 refine sr fun _ J10 => ?_
 refine mv ?_
 refine sg' ?_
 refine nx J10 ?_
 refine TC.ret ?_
 refine TE.passRet ?_
 refine TE.weak (Sub.refl _) (fun _ s => sep_keep [0, 3, 3, 0, 2] rfl s) ?_
 refine TE.ret1 rfl rfl ?_
 have e : doneB x o = true := decide_eq_true (.inl h50)
 simp only [clientX, clientC, clientR, clientO, e, Bool.false_eq_true, ↓reduceIte, List.append_nil]
 exact ⟨rfl, _, hovr1, rfl⟩
 refine mv ?_
 refine tq (PV.fieldAddr (r := 0) rfl Tryz.underlying38 rfl sz3 rfl rfl) ?_
 refine tq (PV.load1 (v := (.int .i64 (o.kind))) rfl Tryz.underlying3 rfl rfl (Rd.own 2 rfl rfl) (OpT.at_kind o rfl)) ?_
 refine tq (PV.eql rfl rfl rfl) ?_
 refine TL.dec (fun h54 => ?_) (fun h54 => ?_)
 refine tp (PV.pick rfl rfl rfl) ?_
 refine nx J8 ?_
 refine TC.yes rfl ?_
 refine sr fun _ J11 => ?_
 refine mv ?_
 refine mv ?_
 refine mv ?_
 refine mv ?_
 refine TL.callR (A := [blkA r (RepT.cells (RepT.mk x.id x.log x.view x.own x.mirror x.acc x.round x.vote x.book x.busy x.kept x.waits (w64 (x.ops + 1)) x.replies x.told x.last)) 104, own x.replies ((rs).length) (ints (List.flatMap ReplyT.flat (rs))) 92 3]) (Want.plain rfl) rfl rfl rfl nm41 rfl (reply_does r (RepT.mk x.id x.log x.view x.own x.mirror x.acc x.round x.vote x.book x.busy x.kept x.waits (w64 (x.ops + 1)) x.replies x.told x.last) (w64 (x.ops + 1)) ((planF (opsF x) o).2.2) ((planF (opsF x) o).2.1) (rs) hrs) (fun _ s => sep_selR [1, 4] rfl s) (fun _ _ _ => trivial) (fun vR HR hR => ?_)
 obtain ⟨vr1, hovr1, rfl⟩ := hR
 change TL _ _ _ _ _ _ _ _ _ [blkA r (RepT.cells (RepT.mk x.id x.log x.view x.own x.mirror x.acc x.round x.vote x.book x.busy x.kept x.waits (w64 (x.ops + 1)) vr1 x.told x.last)) 104, own vr1 ((rs ++ [ReplyT.mk (w64 (x.ops + 1)) ((planF (opsF x) o).2.2) ((planF (opsF x) o).2.1)]).length) (ints (List.flatMap ReplyT.flat (rs ++ [ReplyT.mk (w64 (x.ops + 1)) ((planF (opsF x) o).2.2) ((planF (opsF x) o).2.1)]))) 92 3, blkA b8 (ints ((planF (opsF x) o).1).flat) 48, blkA b5 (ints o.flat) 38, lgP lg d (((recs).length : Nat) : Int) ((sizeS (recs) : Nat) : Int), dkL d (recs), outP ob (l)]
 refine nx J11 ?_
 refine sr fun _ J12 => ?_
 refine mv ?_
 refine sg' ?_
 refine nx J12 ?_
 refine TC.ret ?_
 refine TE.passRet ?_
 refine TE.weak (Sub.refl _) (fun _ s => sep_keep [0, 3, 3, 0, 2] rfl s) ?_
 refine TE.ret1 rfl rfl ?_
 have e : doneB x o = true := decide_eq_true (.inr h54)
 simp only [clientX, clientC, clientR, clientO, e, Bool.false_eq_true, ↓reduceIte, List.append_nil]
 exact ⟨rfl, _, hovr1, rfl⟩
 refine tp (PV.pick rfl rfl rfl) ?_
 refine nx J8 ?_
 refine TC.no rfl ?_
 refine TC.skip ?_
 refine TE.next J7 ?_
 refine TC.seq fun _ J13 => ?_
 refine sr fun _ J14 => ?_
 refine mv ?_
 refine mv ?_
 refine tp (PV.loadN (vs := ints ((planF (opsF x) o).1).flat) rfl Tryz.underlying48 rfl sz48 rfl (Rd.own 0 rfl rfl) (RowT.len ((planF (opsF x) o).1)) (whole (RowT.len ((planF (opsF x) o).1)))) ?_
 refine mv ?_
 refine TL.callR (A := [blkA r (RepT.cells (RepT.mk x.id x.log x.view x.own x.mirror x.acc x.round x.vote x.book x.busy x.kept x.waits (w64 (x.ops + 1)) x.replies x.told x.last)) 104, lgP lg d (((recs).length : Nat) : Int) ((sizeS (recs) : Nat) : Int), dkL d (recs), outP ob (l)]) (Want.plain rfl) rfl rfl rfl nm42 rfl (grow_does r ob lg d (RepT.mk x.id x.log x.view x.own x.mirror x.acc x.round x.vote x.book x.busy x.kept x.waits (w64 (x.ops + 1)) x.replies x.told x.last) ((planF (opsF x) o).1) (w64 (x.ops + 1)) (recs) (l) hlog (hroom (show (planF (opsF x) o).2.2 = 0 by omega) h54) hl hid) (fun _ s => sep_selR [1, 2, 2, 3] rfl s) (fun _ _ _ => trivial) (fun vR HR hR => ?_)
 obtain ⟨rfl, rfl⟩ := hR
 change TL _ _ _ _ _ _ _ _ _ [blkA r (RepT.cells (growF (opsF x) ((planF (opsF x) o).1) (opsF x).ops)) 104, lgP lg d (((recs ++ [encR (rowRec ((planF (opsF x) o).1))]).length : Nat) : Int) ((sizeS (recs ++ [encR (rowRec ((planF (opsF x) o).1))]) : Nat) : Int), dkL d (recs ++ [encR (rowRec ((planF (opsF x) o).1))]), outP ob (l ++ tellL (growF (opsF x) ((planF (opsF x) o).1) (opsF x).ops)), blkA b8 (ints ((planF (opsF x) o).1).flat) 48, blkA b5 (ints o.flat) 38, own x.replies ((rs).length) (ints (List.flatMap ReplyT.flat (rs))) 92 3]
 refine sg' ?_
 refine nx J14 ?_
 refine sr fun _ J15 => ?_
 refine mv ?_
 refine tp (PV.neq rfl rfl rfl) ?_
 refine nx J15 ?_
 refine TC.no rfl ?_
 refine TC.skip ?_
 refine TE.next J13 ?_
 refine sr fun _ J16 => ?_
 refine mv ?_
 refine sg' ?_
 refine nx J16 ?_
 refine TC.ret ?_
 refine TE.weak (Sub.refl _) (fun _ s => sep_keep [0, 0, 0, 3, 0] rfl s) ?_
 refine TE.ret1 rfl rfl ?_
 have e0 : (cN x o).2.2 = 0 := by show (planF (opsF x) o).2.2 = 0; omega
 have e : doneB x o = false := decide_eq_false (fun h => by rcases h with h | h; exact h e0; exact h54 h)
 simp only [clientX, clientC, clientR, clientO, e, Bool.false_eq_true, ↓reduceIte, List.append_nil]
 exact ⟨by rw [e0], _, hone, rfl⟩
 refine TL.nil ?_
 refine TE.draw (fun _ s => ⟨Frm.of s, s.block 1 (lb rfl) rfl, s.block 0 (lb rfl) rfl, trivial⟩) ?_
 refine ta 9 rfl (PV.move rfl rfl) ?_
 refine TD.takeNot (i := 10) (b := false) rfl (by kernel_rfl) (by kernel_rfl) (by kernel_rfl) (fun _ _ _ _ h => h) rfl rfl rfl rfl rfl ?_
 refine TD.takeNot (i := 11) (b := false) rfl (by kernel_rfl) (by kernel_rfl) (by kernel_rfl) (fun _ _ _ _ h => h) rfl rfl rfl rfl rfl ?_
 refine TD.takeNot (i := 12) (b := false) rfl (by kernel_rfl) (by kernel_rfl) (by kernel_rfl) (fun _ _ _ _ h => h) rfl rfl rfl rfl rfl ?_
 refine ta 13 rfl (PV.pick rfl rfl rfl) ?_
 refine TD.done (by kernel_rfl) ?_
 refine TE.next J5 ?_
 refine TC.no rfl ?_
 refine TC.skip ?_
 refine TE.next J4 ?_
 refine sr fun _ J17 => ?_
 refine mv ?_
 refine tp (PV.loadN (vs := ints o.flat) rfl Tryz.underlying38 rfl sz38 rfl (Rd.own 0 rfl rfl) (OpT.len o) (whole (OpT.len o))) ?_
 refine TL.callR (A := [blkA r (RepT.cells (RepT.mk x.id x.log x.view x.own x.mirror x.acc x.round x.vote x.book x.busy x.kept x.waits (w64 (x.ops + 1)) x.replies x.told x.last)) 104]) (Want.plain rfl) rfl rfl rfl nm40 rfl (plan_does r (RepT.mk x.id x.log x.view x.own x.mirror x.acc x.round x.vote x.book x.busy x.kept x.waits (w64 (x.ops + 1)) x.replies x.told x.last) o) (fun _ s => sep_selR [1] rfl s) (fun _ _ _ => trivial) (fun vR HR hR => ?_)
 obtain ⟨rfl, rfl⟩ := hR
 change TL _ _ _ _ _ _ _ _ _ [blkA r (RepT.cells (RepT.mk x.id x.log x.view x.own x.mirror x.acc x.round x.vote x.book x.busy x.kept x.waits (w64 (x.ops + 1)) x.replies x.told x.last)) 104, blkA b5 (ints o.flat) 38, lgP lg d (((recs).length : Nat) : Int) ((sizeS (recs) : Nat) : Int), dkL d (recs), own x.replies ((rs).length) (ints (List.flatMap ReplyT.flat (rs))) 92 3, outP ob (l)]
 refine mv ?_
 refine tp (PV.extract (vs := [(.agg (ints ((planF (opsF x) o).1).flat).toArray), (.int .i64 ((planF (opsF x) o).2.1)), (.int .i64 ((planF (opsF x) o).2.2))]) rfl rfl rfl) ?_
 refine tp (PV.extract (vs := [(.agg (ints ((planF (opsF x) o).1).flat).toArray), (.int .i64 ((planF (opsF x) o).2.1)), (.int .i64 ((planF (opsF x) o).2.2))]) rfl rfl rfl) ?_
 refine tp (PV.extract (vs := [(.agg (ints ((planF (opsF x) o).1).flat).toArray), (.int .i64 ((planF (opsF x) o).2.1)), (.int .i64 ((planF (opsF x) o).2.2))]) rfl rfl rfl) ?_
 refine TL.alloc (Want.plain rfl) rfl rfl rfl z48 (fun b8 => ?_)
 change TL _ _ _ _ _ _ _ _ _ [blkA b8 (ints RowT.zero.flat) 48, blkA r (RepT.cells (RepT.mk x.id x.log x.view x.own x.mirror x.acc x.round x.vote x.book x.busy x.kept x.waits (w64 (x.ops + 1)) x.replies x.told x.last)) 104, blkA b5 (ints o.flat) 38, lgP lg d (((recs).length : Nat) : Int) ((sizeS (recs) : Nat) : Int), dkL d (recs), own x.replies ((rs).length) (ints (List.flatMap ReplyT.flat (rs))) 92 3, outP ob (l)]
 refine TL.store (vs := ints ((planF (opsF x) o).1).flat) (i := 0) (H' := [blkA b8 (ints ((planF (opsF x) o).1).flat) 48, blkA r (RepT.cells (RepT.mk x.id x.log x.view x.own x.mirror x.acc x.round x.vote x.book x.busy x.kept x.waits (w64 (x.ops + 1)) x.replies x.told x.last)) 104, blkA b5 (ints o.flat) 38, lgP lg d (((recs).length : Nat) : Int) ((sizeS (recs) : Nat) : Int), dkL d (recs), own x.replies ((rs).length) (ints (List.flatMap ReplyT.flat (rs))) 92 3, outP ob (l)]) (Want.plain rfl) rfl rfl rfl rfl rfl (by rw [(RowT.len ((planF (opsF x) o).1))]; exact sz48) (ints_one _) rfl rfl (by have h0 := (RowT.len RowT.zero); have h1 := (RowT.len ((planF (opsF x) o).1)); omega) (wwhole ((RowT.len RowT.zero).trans (RowT.len ((planF (opsF x) o).1)).symm)) rfl ?_
 refine sg' ?_
 refine sg' ?_
 refine nx J17 ?_
 refine TC.seq fun _ J18 => ?_
 refine sr fun _ J19 => ?_
 refine mv ?_
 refine tp (PV.neq rfl rfl rfl) ?_
 refine TL.dec (fun h50 => ?_) (fun h50 => ?_)
 refine mv ?_
 refine TL.unmet (b := true) rfl rfl rfl rfl (lb rfl) ?_
 refine TL.unmet (b := true) rfl rfl rfl rfl (lb rfl) ?_
 refine TL.unmet (b := true) rfl rfl rfl rfl (lb rfl) ?_
 refine tp (PV.pick rfl rfl rfl) ?_
 refine nx J19 ?_
 refine TC.yes rfl ?_
 refine sr fun _ J20 => ?_
 refine mv ?_
 refine mv ?_
 refine mv ?_
 refine mv ?_
 refine TL.callR (A := [blkA r (RepT.cells (RepT.mk x.id x.log x.view x.own x.mirror x.acc x.round x.vote x.book x.busy x.kept x.waits (w64 (x.ops + 1)) x.replies x.told x.last)) 104, own x.replies ((rs).length) (ints (List.flatMap ReplyT.flat (rs))) 92 3]) (Want.plain rfl) rfl rfl rfl nm41 rfl (reply_does r (RepT.mk x.id x.log x.view x.own x.mirror x.acc x.round x.vote x.book x.busy x.kept x.waits (w64 (x.ops + 1)) x.replies x.told x.last) (w64 (x.ops + 1)) ((planF (opsF x) o).2.2) ((planF (opsF x) o).2.1) (rs) hrs) (fun _ s => sep_selR [1, 4] rfl s) (fun _ _ _ => trivial) (fun vR HR hR => ?_)
 obtain ⟨vr1, hovr1, rfl⟩ := hR
 change TL _ _ _ _ _ _ _ _ _ [blkA r (RepT.cells (RepT.mk x.id x.log x.view x.own x.mirror x.acc x.round x.vote x.book x.busy x.kept x.waits (w64 (x.ops + 1)) vr1 x.told x.last)) 104, own vr1 ((rs ++ [ReplyT.mk (w64 (x.ops + 1)) ((planF (opsF x) o).2.2) ((planF (opsF x) o).2.1)]).length) (ints (List.flatMap ReplyT.flat (rs ++ [ReplyT.mk (w64 (x.ops + 1)) ((planF (opsF x) o).2.2) ((planF (opsF x) o).2.1)]))) 92 3, blkA b8 (ints ((planF (opsF x) o).1).flat) 48, blkA b5 (ints o.flat) 38, lgP lg d (((recs).length : Nat) : Int) ((sizeS (recs) : Nat) : Int), dkL d (recs), outP ob (l)]
 refine nx J20 ?_
 refine sr fun _ J21 => ?_
 refine mv ?_
 refine sg' ?_
 refine nx J21 ?_
 refine TC.ret ?_
 refine TE.passRet ?_
 refine TE.weak (Sub.refl _) (fun _ s => sep_keep [0, 3, 3, 0, 2] rfl s) ?_
 refine TE.ret1 rfl rfl ?_
 have e : doneB x o = true := decide_eq_true (.inl h50)
 simp only [clientX, clientC, clientR, clientO, e, Bool.false_eq_true, ↓reduceIte, List.append_nil]
 exact ⟨rfl, _, hovr1, rfl⟩
 refine mv ?_
 refine tq (PV.fieldAddr (r := 0) rfl Tryz.underlying38 rfl sz3 rfl rfl) ?_
 refine tq (PV.load1 (v := (.int .i64 (o.kind))) rfl Tryz.underlying3 rfl rfl (Rd.own 2 rfl rfl) (OpT.at_kind o rfl)) ?_
 refine tq (PV.eql rfl rfl rfl) ?_
 refine TL.dec (fun h54 => ?_) (fun h54 => ?_)
 refine tp (PV.pick rfl rfl rfl) ?_
 refine nx J19 ?_
 refine TC.yes rfl ?_
 refine sr fun _ J22 => ?_
 refine mv ?_
 refine mv ?_
 refine mv ?_
 refine mv ?_
 refine TL.callR (A := [blkA r (RepT.cells (RepT.mk x.id x.log x.view x.own x.mirror x.acc x.round x.vote x.book x.busy x.kept x.waits (w64 (x.ops + 1)) x.replies x.told x.last)) 104, own x.replies ((rs).length) (ints (List.flatMap ReplyT.flat (rs))) 92 3]) (Want.plain rfl) rfl rfl rfl nm41 rfl (reply_does r (RepT.mk x.id x.log x.view x.own x.mirror x.acc x.round x.vote x.book x.busy x.kept x.waits (w64 (x.ops + 1)) x.replies x.told x.last) (w64 (x.ops + 1)) ((planF (opsF x) o).2.2) ((planF (opsF x) o).2.1) (rs) hrs) (fun _ s => sep_selR [1, 4] rfl s) (fun _ _ _ => trivial) (fun vR HR hR => ?_)
 obtain ⟨vr1, hovr1, rfl⟩ := hR
 change TL _ _ _ _ _ _ _ _ _ [blkA r (RepT.cells (RepT.mk x.id x.log x.view x.own x.mirror x.acc x.round x.vote x.book x.busy x.kept x.waits (w64 (x.ops + 1)) vr1 x.told x.last)) 104, own vr1 ((rs ++ [ReplyT.mk (w64 (x.ops + 1)) ((planF (opsF x) o).2.2) ((planF (opsF x) o).2.1)]).length) (ints (List.flatMap ReplyT.flat (rs ++ [ReplyT.mk (w64 (x.ops + 1)) ((planF (opsF x) o).2.2) ((planF (opsF x) o).2.1)]))) 92 3, blkA b8 (ints ((planF (opsF x) o).1).flat) 48, blkA b5 (ints o.flat) 38, lgP lg d (((recs).length : Nat) : Int) ((sizeS (recs) : Nat) : Int), dkL d (recs), outP ob (l)]
 refine nx J22 ?_
 refine sr fun _ J23 => ?_
 refine mv ?_
 refine sg' ?_
 refine nx J23 ?_
 refine TC.ret ?_
 refine TE.passRet ?_
 refine TE.weak (Sub.refl _) (fun _ s => sep_keep [0, 3, 3, 0, 2] rfl s) ?_
 refine TE.ret1 rfl rfl ?_
 have e : doneB x o = true := decide_eq_true (.inr h54)
 simp only [clientX, clientC, clientR, clientO, e, Bool.false_eq_true, ↓reduceIte, List.append_nil]
 exact ⟨rfl, _, hovr1, rfl⟩
 refine tp (PV.pick rfl rfl rfl) ?_
 refine nx J19 ?_
 refine TC.no rfl ?_
 refine TC.skip ?_
 refine TE.next J18 ?_
 refine TC.seq fun _ J24 => ?_
 refine sr fun _ J25 => ?_
 refine mv ?_
 refine mv ?_
 refine tp (PV.loadN (vs := ints ((planF (opsF x) o).1).flat) rfl Tryz.underlying48 rfl sz48 rfl (Rd.own 0 rfl rfl) (RowT.len ((planF (opsF x) o).1)) (whole (RowT.len ((planF (opsF x) o).1)))) ?_
 refine mv ?_
 refine TL.callR (A := [blkA r (RepT.cells (RepT.mk x.id x.log x.view x.own x.mirror x.acc x.round x.vote x.book x.busy x.kept x.waits (w64 (x.ops + 1)) x.replies x.told x.last)) 104, lgP lg d (((recs).length : Nat) : Int) ((sizeS (recs) : Nat) : Int), dkL d (recs), outP ob (l)]) (Want.plain rfl) rfl rfl rfl nm42 rfl (grow_does r ob lg d (RepT.mk x.id x.log x.view x.own x.mirror x.acc x.round x.vote x.book x.busy x.kept x.waits (w64 (x.ops + 1)) x.replies x.told x.last) ((planF (opsF x) o).1) (w64 (x.ops + 1)) (recs) (l) hlog (hroom (show (planF (opsF x) o).2.2 = 0 by omega) h54) hl hid) (fun _ s => sep_selR [1, 2, 2, 3] rfl s) (fun _ _ _ => trivial) (fun vR HR hR => ?_)
 obtain ⟨rfl, rfl⟩ := hR
 change TL _ _ _ _ _ _ _ _ _ [blkA r (RepT.cells (growF (opsF x) ((planF (opsF x) o).1) (opsF x).ops)) 104, lgP lg d (((recs ++ [encR (rowRec ((planF (opsF x) o).1))]).length : Nat) : Int) ((sizeS (recs ++ [encR (rowRec ((planF (opsF x) o).1))]) : Nat) : Int), dkL d (recs ++ [encR (rowRec ((planF (opsF x) o).1))]), outP ob (l ++ tellL (growF (opsF x) ((planF (opsF x) o).1) (opsF x).ops)), blkA b8 (ints ((planF (opsF x) o).1).flat) 48, blkA b5 (ints o.flat) 38, own x.replies ((rs).length) (ints (List.flatMap ReplyT.flat (rs))) 92 3]
 refine sg' ?_
 refine nx J25 ?_
 refine sr fun _ J26 => ?_
 refine mv ?_
 refine tp (PV.neq rfl rfl rfl) ?_
 refine nx J26 ?_
 refine TC.no rfl ?_
 refine TC.skip ?_
 refine TE.next J24 ?_
 refine sr fun _ J27 => ?_
 refine mv ?_
 refine sg' ?_
 refine nx J27 ?_
 refine TC.ret ?_
 refine TE.weak (Sub.refl _) (fun _ s => sep_keep [0, 0, 0, 3, 0] rfl s) ?_
 refine TE.ret1 rfl rfl ?_
 have e0 : (cN x o).2.2 = 0 := by show (planF (opsF x) o).2.2 = 0; omega
 have e : doneB x o = false := decide_eq_false (fun h => by rcases h with h | h; exact h e0; exact h54 h)
 simp only [clientX, clientC, clientR, clientO, e, Bool.false_eq_true, ↓reduceIte, List.append_nil]
 exact ⟨by rw [e0], _, hone, rfl⟩
 exact AllT.nil
end Go.Proofs.YtfceaphohlbnbaaGreat
end
