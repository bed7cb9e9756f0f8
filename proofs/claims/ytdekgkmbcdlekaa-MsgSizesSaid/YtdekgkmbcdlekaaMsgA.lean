/-
  Package msg: what is read, walked.
-/

import Derived.Test.YtdekgkmbcdlekaaRowA
import Derived.Test.YtdekgkmbcdlekaaMsgQ
import Derived.Test.YtdekgkmbcdlekaaCodecE

namespace Go.Proofs.Ytdekgkmbcdlekaa

open Go Leg Codec Api

set_option linter.unusedSimpArgs false
set_option linter.unusedVariables false

set_option maxRecDepth 100000

set_option maxHeartbeats 8000000

theorem readMsg_does (rb : Nat) (v : Value) (bs : List UInt8) :
    Does Try.prog 32 #[(.pointer (some ⟨rb, 0, none⟩))] (IsB v bs) [blkA rb [v] 99] (RdPost 99 giveUp (fun mb : MsgT × Bool => .tuple #[.agg (ints mb.1.flat).toArray, .bool mb.2]) readMsgP v bs rb) := by
  refine Does.body (vs := [(.pointer (some ⟨rb, 0, none⟩))]) (n := 85) Try.func32 rfl rfl rfl (fun w0 F hF => ?_)
  refine TC.seq (fun K1 hK1 => ?_)
  refine TC.region ?_
  refine TL.alloc (Want.plain rfl) rfl rfl rfl z44 (fun b2 => ?_)
  change TL _ _ _ _ _ _ _ _ _ [blkA b2 (ints MsgT.zero.flat) 44, blkA rb [v] 99]
  refine TL.v (Want.plain rfl) rfl rfl (PV.assign rfl rfl) ?_
  refine TL.nil ?_
  refine TE.next hK1 ?_
  clear hK1
  refine TC.seq (fun K2 hK2 => ?_)
  refine TC.region ?_
  refine TL.v (Want.plain rfl) rfl rfl (PV.move rfl rfl) ?_
  refine TL.callP (A := [blkA rb [v] 99]) (B := [blkA b2 (ints MsgT.zero.flat) 44]) (Want.plain rfl) rfl rfl rfl nm47 rfl (small_does rb v bs (10)) (fun _ s => sep_selR [1] rfl s) (fun _ d _ => (hF).more d) (fun cP HP hP => ?_) (fun vR HR hR => ?_)
  · skip
    obtain ⟨vP, rfl, rfl, hpP⟩ := hP
    change TE _ _ _ _ _ _ _ [blkA rb [vP] 99, blkA b2 (ints MsgT.zero.flat) 44]
    refine TE.passPanic ?_
    clear hK2
    refine TE.weak (Sub.refl _) (fun _ s => sep_keep [0] rfl s) ?_
    refine TE.panicked ?_
    exact ⟨_, rfl, rfl, by simp [readMsgP, kRow, kAsk, pb_none hpP, *]⟩
  obtain ⟨a1, r1, v1, rfl, rfl, hp1, ht1⟩ := hR
  change TL _ _ _ _ _ _ _ _ _ [blkA rb [v1] 99, blkA b2 (ints MsgT.zero.flat) 44]
  have hf1 := ht1 _ hF
  refine TL.v (Want.plain rfl) rfl rfl (PV.buildSegs (cs := ints (MsgT.mk a1 0 RowT.zero 0 0 BallotT.zero BallotT.zero ChangeT.zero ViewT.zero).flat) (segs := [[Value.int .i64 0], [Value.int .i64 0], ints RowT.zero.flat, [Value.int .i64 0], [Value.int .i64 0], ints BallotT.zero.flat, ints BallotT.zero.flat, ints ChangeT.zero.flat, ints ViewT.zero.flat]) (res := [[Value.int .i64 a1], [Value.int .i64 0], ints RowT.zero.flat, [Value.int .i64 0], [Value.int .i64 0], ints BallotT.zero.flat, ints BallotT.zero.flat, ints ChangeT.zero.flat, ints ViewT.zero.flat]) (parts := [(0, [Value.int .i64 a1])]) rfl rfl Try.underlying44 (by kernel_rfl) (by kernel_rfl) rfl (putSegs_step rfl ((rfl : [Value.int .i64 a1].length = 1).trans (rfl : [Value.int .i64 0].length = 1).symm) putSegs_nil) (MsgT.eq (MsgT.mk a1 0 RowT.zero 0 0 BallotT.zero BallotT.zero ChangeT.zero ViewT.zero)).symm) ?_
  refine TL.alloc (Want.plain rfl) rfl rfl rfl z44 (fun b4 => ?_)
  change TL _ _ _ _ _ _ _ _ _ [blkA b4 (ints MsgT.zero.flat) 44, blkA rb [v1] 99, blkA b2 (ints MsgT.zero.flat) 44]
  refine TL.store (vs := ints (MsgT.mk a1 0 RowT.zero 0 0 BallotT.zero BallotT.zero ChangeT.zero ViewT.zero).flat) (i := 0) (H' := [blkA b4 (ints (MsgT.mk a1 0 RowT.zero 0 0 BallotT.zero BallotT.zero ChangeT.zero ViewT.zero).flat) 44, blkA rb [v1] 99, blkA b2 (ints MsgT.zero.flat) 44]) (Want.plain rfl) rfl rfl rfl rfl rfl (by rw [(MsgT.len (MsgT.mk a1 0 RowT.zero 0 0 BallotT.zero BallotT.zero ChangeT.zero ViewT.zero))]; exact sz44) (ints_one _) rfl rfl (by have h0 := (MsgT.len MsgT.zero); have h1 := (MsgT.len (MsgT.mk a1 0 RowT.zero 0 0 BallotT.zero BallotT.zero ChangeT.zero ViewT.zero)); omega) (wwhole ((MsgT.len MsgT.zero).trans (MsgT.len (MsgT.mk a1 0 RowT.zero 0 0 BallotT.zero BallotT.zero ChangeT.zero ViewT.zero)).symm)) rfl ?_
  refine TL.nil ?_
  refine TE.next hK2 ?_
  clear hK2
  refine TC.seq (fun K3 hK3 => ?_)
  refine TC.seq (fun K4 hK4 => ?_)
  refine TC.region ?_
  refine TL.v (Want.plain rfl) rfl rfl (PV.fieldAddr (r := 0) rfl Try.underlying44 rfl sz3 rfl rfl) ?_
  refine TL.v (Want.plain rfl) rfl rfl (PV.load1 (v := (.int .i64 (a1))) rfl Try.underlying3 rfl rfl (Rd.own 0 rfl rfl) (MsgT.at_kind (MsgT.mk a1 0 RowT.zero 0 0 BallotT.zero BallotT.zero ChangeT.zero ViewT.zero) rfl)) ?_
  refine TL.nil ?_
  refine TE.next hK4 ?_
  clear hK4
  refine TC.block ?_
  refine TC.seq (fun K5 hK5 => ?_)
  refine TC.seq (fun K6 hK6 => ?_)
  refine TC.region ?_
  refine TL.v (Want.plain rfl) rfl rfl (PV.eql rfl rfl rfl) ?_
  refine TL.v (Want.plain rfl) rfl rfl (PV.assign rfl rfl) ?_
  refine TL.dec (fun h10 => ?_) (fun h10 => ?_)
  · skip
    refine TL.nil ?_
    refine TE.next hK6 ?_
    clear hK6
    refine TC.yes rfl ?_
    refine TC.skip ?_
    refine TE.next hK5 ?_
    clear hK5
    refine TC.yes rfl ?_
    refine TC.seq (fun K7 hK7 => ?_)
    refine TC.region ?_
    refine TL.v (Want.plain rfl) rfl rfl (PV.move rfl rfl) ?_
    refine TL.callP (A := [blkA rb [v1] 99]) (B := [blkA b4 (ints (MsgT.mk a1 0 RowT.zero 0 0 BallotT.zero BallotT.zero ChangeT.zero ViewT.zero).flat) 44, blkA b2 (ints MsgT.zero.flat) 44]) (Want.plain rfl) rfl rfl rfl nm47 rfl (small_does rb v1 r1 (5)) (fun _ s => sep_selR [1] rfl s) (fun _ d _ => (hf1).more d) (fun cP HP hP => ?_) (fun vR HR hR => ?_)
    · skip
      obtain ⟨vP, rfl, rfl, hpP⟩ := hP
      change TE _ _ _ _ _ _ _ [blkA rb [vP] 99, blkA b4 (ints (MsgT.mk a1 0 RowT.zero 0 0 BallotT.zero BallotT.zero ChangeT.zero ViewT.zero).flat) 44, blkA b2 (ints MsgT.zero.flat) 44]
      refine TE.passPanic ?_
      clear hK7
      refine TE.blockPanic ?_
      refine TE.passPanic ?_
      clear hK3
      refine TE.weak (Sub.refl _) (fun _ s => sep_keep [0] rfl s) ?_
      refine TE.panicked ?_
      exact ⟨_, rfl, rfl, by simp [readMsgP, kRow, kAsk, pb_some hp1, pb_none hpP, h10, *]⟩
    obtain ⟨a2, r2, v2, rfl, rfl, hp2, ht2⟩ := hR
    change TL _ _ _ _ _ _ _ _ _ [blkA rb [v2] 99, blkA b4 (ints (MsgT.mk a1 0 RowT.zero 0 0 BallotT.zero BallotT.zero ChangeT.zero ViewT.zero).flat) 44, blkA b2 (ints MsgT.zero.flat) 44]
    have hf2 := ht2 _ hf1
    refine TL.v (Want.plain rfl) rfl rfl (PV.fieldAddr (r := 1) rfl Try.underlying44 rfl sz3 rfl rfl) ?_
    refine TL.store1 (i := 1) (H' := [blkA rb [v2] 99, blkA b4 (ints (MsgT.mk a1 a2 RowT.zero 0 0 BallotT.zero BallotT.zero ChangeT.zero ViewT.zero).flat) 44, blkA b2 (ints MsgT.zero.flat) 44]) (Want.plain rfl) rfl rfl rfl rfl rfl sz3 rfl rfl (by have h0 := (MsgT.len (MsgT.mk a1 0 RowT.zero 0 0 BallotT.zero BallotT.zero ChangeT.zero ViewT.zero)); omega) (MsgT.set_whose (MsgT.mk a1 0 RowT.zero 0 0 BallotT.zero BallotT.zero ChangeT.zero ViewT.zero) rfl _) rfl ?_
    refine TL.nil ?_
    refine TE.next hK7 ?_
    clear hK7
    refine TC.seq (fun K8 hK8 => ?_)
    refine TC.region ?_
    refine TL.v (Want.plain rfl) rfl rfl (PV.move rfl rfl) ?_
    refine TL.callP (A := [blkA rb [v2] 99]) (B := [blkA b4 (ints (MsgT.mk a1 a2 RowT.zero 0 0 BallotT.zero BallotT.zero ChangeT.zero ViewT.zero).flat) 44, blkA b2 (ints MsgT.zero.flat) 44]) (Want.plain rfl) rfl rfl rfl nm48 rfl (rrow_does rb v2 r2 ) (fun _ s => s) (fun _ d _ => (hf2).more d) (fun cP HP hP => ?_) (fun vR HR hR => ?_)
    · skip
      obtain ⟨vP, rfl, rfl, hpP⟩ := hP
      change TE _ _ _ _ _ _ _ [blkA rb [vP] 99, blkA b4 (ints (MsgT.mk a1 a2 RowT.zero 0 0 BallotT.zero BallotT.zero ChangeT.zero ViewT.zero).flat) 44, blkA b2 (ints MsgT.zero.flat) 44]
      refine TE.passPanic ?_
      clear hK8
      refine TE.blockPanic ?_
      refine TE.passPanic ?_
      clear hK3
      refine TE.weak (Sub.refl _) (fun _ s => sep_keep [0] rfl s) ?_
      refine TE.panicked ?_
      exact ⟨_, rfl, rfl, by simp [readMsgP, kRow, kAsk, pb_some hp1, pb_some hp2, pb_none hpP, h10, *]⟩
    obtain ⟨a3, r3, v3, rfl, rfl, hp3, ht3⟩ := hR
    change TL _ _ _ _ _ _ _ _ _ [blkA rb [v3] 99, blkA b4 (ints (MsgT.mk a1 a2 RowT.zero 0 0 BallotT.zero BallotT.zero ChangeT.zero ViewT.zero).flat) 44, blkA b2 (ints MsgT.zero.flat) 44]
    have hf3 := ht3 _ hf2
    refine TL.v (Want.plain rfl) rfl rfl (PV.fieldAddr (r := 2) rfl Try.underlying44 rfl sz38 rfl rfl) ?_
    refine TL.store (vs := ints a3.flat) (i := 1) (H' := [blkA rb [v3] 99, blkA b4 (ints (MsgT.mk a1 a2 a3 0 0 BallotT.zero BallotT.zero ChangeT.zero ViewT.zero).flat) 44, blkA b2 (ints MsgT.zero.flat) 44]) (Want.plain rfl) rfl rfl rfl rfl rfl (by rw [(RowT.len a3)]; exact sz38) (ints_one _) rfl rfl (by have h0 := (MsgT.len (MsgT.mk a1 a2 RowT.zero 0 0 BallotT.zero BallotT.zero ChangeT.zero ViewT.zero)); have h1 := (RowT.len a3); omega) (MsgT.wr_row_ (MsgT.mk a1 a2 RowT.zero 0 0 BallotT.zero BallotT.zero ChangeT.zero ViewT.zero) 0 rfl (by have h1 := (RowT.len a3); omega) (wwhole ((RowT.len RowT.zero).trans (RowT.len a3).symm))) rfl ?_
    refine TL.nil ?_
    refine TE.next hK8 ?_
    clear hK8
    refine TC.seq (fun K9 hK9 => ?_)
    refine TC.draw (fun w => Frm F w ∧ w.heap[b4]? = some (.cells (ints (MsgT.mk a1 a2 a3 0 0 BallotT.zero BallotT.zero ChangeT.zero ViewT.zero).flat).toArray 44 (0, 0)) ∧ True) mixed rfl (fun _ s => ⟨Frm.of s, s.block 1 (lb rfl) rfl, trivial⟩) ?_
    refine TD.take (i := 0) rfl (by kernel_rfl) (by kernel_rfl) (by kernel_rfl) (fun _ _ _ _ h => h) (Want.plain rfl) rfl rfl (PV.loadN (vs := ints (MsgT.mk a1 a2 a3 0 0 BallotT.zero BallotT.zero ChangeT.zero ViewT.zero).flat) rfl Try.underlying44 rfl sz44 rfl (fun _ h => h.2.1) (MsgT.len (MsgT.mk a1 a2 a3 0 0 BallotT.zero BallotT.zero ChangeT.zero ViewT.zero)) (whole (MsgT.len (MsgT.mk a1 a2 a3 0 0 BallotT.zero BallotT.zero ChangeT.zero ViewT.zero)))) ?_
    refine TD.take (i := 1) rfl (by kernel_rfl) (by kernel_rfl) (by kernel_rfl) (fun _ _ _ _ h => h) (Want.plain rfl) rfl rfl (PV.fieldAddr (r := 2) rfl Try.underlying44 rfl sz38 rfl rfl) ?_
    refine TD.take (i := 2) rfl (by kernel_rfl) (by kernel_rfl) (by kernel_rfl) (fun _ _ _ _ h => h) (Want.plain rfl) rfl rfl (PV.loadN (vs := ints a3.flat) rfl Try.underlying38 rfl sz38 rfl (fun _ h => h.2.1) (RowT.len a3) (MsgT.sub_row (MsgT.mk a1 a2 a3 0 0 BallotT.zero BallotT.zero ChangeT.zero ViewT.zero) 0 rfl (by decide) (whole (RowT.len a3)))) ?_
    refine TD.all [3] (by kernel_rfl) rfl ?_
    refine AllT.cons rfl ?_ ?_
    · skip
      refine TL.callR (A := []) (B := [blkA rb [v3] 99, blkA b4 (ints (MsgT.mk a1 a2 a3 0 0 BallotT.zero BallotT.zero ChangeT.zero ViewT.zero).flat) 44, blkA b2 (ints MsgT.zero.flat) 44]) (Want.plain rfl) rfl rfl rfl nm21 rfl (rowRight_does a3 (row_wf hp3)) (fun _ s => s) (fun _ _ _ => trivial) (fun vR HR hR => ?_)
      obtain ⟨rfl, rfl⟩ := hR
      change TL _ _ _ _ _ _ _ _ _ [blkA rb [v3] 99, blkA b4 (ints (MsgT.mk a1 a2 a3 0 0 BallotT.zero BallotT.zero ChangeT.zero ViewT.zero).flat) 44, blkA b2 (ints MsgT.zero.flat) 44]
      refine TL.nil ?_
      refine TE.draw (fun _ s => ⟨Frm.of s, s.block 1 (lb rfl) rfl, trivial⟩) ?_
      refine TD.all [4] (by kernel_rfl) rfl ?_
      refine AllT.cons rfl ?_ ?_
      · skip
        refine TL.store (vs := ints (MsgT.mk a1 a2 a3 0 0 BallotT.zero BallotT.zero ChangeT.zero ViewT.zero).flat) (i := 2) (H' := [blkA rb [v3] 99, blkA b4 (ints (MsgT.mk a1 a2 a3 0 0 BallotT.zero BallotT.zero ChangeT.zero ViewT.zero).flat) 44, blkA b2 (ints (MsgT.mk a1 a2 a3 0 0 BallotT.zero BallotT.zero ChangeT.zero ViewT.zero).flat) 44]) (Want.plain rfl) rfl rfl rfl rfl rfl (by rw [(MsgT.len (MsgT.mk a1 a2 a3 0 0 BallotT.zero BallotT.zero ChangeT.zero ViewT.zero))]; exact sz44) (ints_one _) rfl rfl (by have h0 := (MsgT.len MsgT.zero); have h1 := (MsgT.len (MsgT.mk a1 a2 a3 0 0 BallotT.zero BallotT.zero ChangeT.zero ViewT.zero)); omega) (wwhole ((MsgT.len MsgT.zero).trans (MsgT.len (MsgT.mk a1 a2 a3 0 0 BallotT.zero BallotT.zero ChangeT.zero ViewT.zero)).symm)) rfl ?_
        refine TL.nil ?_
        refine TE.draw (fun _ s => ⟨Frm.of s, s.block 1 (lb rfl) rfl, trivial⟩) ?_
        refine TD.take (i := 5) rfl (by kernel_rfl) (by kernel_rfl) (by kernel_rfl) (fun _ _ _ _ h => h) (Want.plain rfl) rfl rfl (PV.assign rfl rfl) ?_
        refine TD.done (by kernel_rfl) ?_
        refine TE.next hK9 ?_
        clear hK9
        refine TC.ret ?_
        refine TE.blockRet ?_
        refine TE.passRet ?_
        clear hK3
        refine TE.retCT (H' := [blkA rb [v3] 99]) rfl rfl rfl Try.underlying44 rfl sz44 (Rd.own 2 rfl rfl) (MsgT.len (MsgT.mk a1 a2 a3 0 0 BallotT.zero BallotT.zero ChangeT.zero ViewT.zero)) (fun _ s => sep_keep [0] rfl s) ?_
        exact ⟨((MsgT.mk a1 a2 a3 0 0 BallotT.zero BallotT.zero ChangeT.zero ViewT.zero), (rightR a3)), _, _, rfl, rfl, by simp [readMsgP, kRow, kAsk, pr, pb_some hp1, pb_some hp2, pb_some hp3, h10, MsgT.zero, RecT.zero, *], (ht1.trans (ht2.trans ht3))⟩
      exact AllT.nil
    exact AllT.nil
  · skip
    refine TL.nil ?_
    refine TE.next hK6 ?_
    clear hK6
    refine TC.no rfl ?_
    refine TC.seq (fun K10 hK10 => ?_)
    refine TC.region ?_
    refine TL.v (Want.plain rfl) rfl rfl (PV.eql rfl rfl rfl) ?_
    refine TL.v (Want.plain rfl) rfl rfl (PV.assign rfl rfl) ?_
    refine TL.dec (fun h10 => ?_) (fun h10 => ?_)
    · skip
      refine TL.nil ?_
      refine TE.next hK10 ?_
      clear hK10
      refine TC.yes rfl ?_
      refine TC.skip ?_
      refine TE.next hK5 ?_
      clear hK5
      refine TC.yes rfl ?_
      refine TC.seq (fun K11 hK11 => ?_)
      refine TC.region ?_
      refine TL.v (Want.plain rfl) rfl rfl (PV.move rfl rfl) ?_
      refine TL.callP (A := [blkA rb [v1] 99]) (B := [blkA b4 (ints (MsgT.mk a1 0 RowT.zero 0 0 BallotT.zero BallotT.zero ChangeT.zero ViewT.zero).flat) 44, blkA b2 (ints MsgT.zero.flat) 44]) (Want.plain rfl) rfl rfl rfl nm47 rfl (small_does rb v1 r1 (5)) (fun _ s => sep_selR [1] rfl s) (fun _ d _ => (hf1).more d) (fun cP HP hP => ?_) (fun vR HR hR => ?_)
      · skip
        obtain ⟨vP, rfl, rfl, hpP⟩ := hP
        change TE _ _ _ _ _ _ _ [blkA rb [vP] 99, blkA b4 (ints (MsgT.mk a1 0 RowT.zero 0 0 BallotT.zero BallotT.zero ChangeT.zero ViewT.zero).flat) 44, blkA b2 (ints MsgT.zero.flat) 44]
        refine TE.passPanic ?_
        clear hK11
        refine TE.blockPanic ?_
        refine TE.passPanic ?_
        clear hK3
        refine TE.weak (Sub.refl _) (fun _ s => sep_keep [0] rfl s) ?_
        refine TE.panicked ?_
        exact ⟨_, rfl, rfl, by simp [readMsgP, kRow, kAsk, pb_some hp1, pb_none hpP, h10, h10, *]⟩
      obtain ⟨a2, r2, v2, rfl, rfl, hp2, ht2⟩ := hR
      change TL _ _ _ _ _ _ _ _ _ [blkA rb [v2] 99, blkA b4 (ints (MsgT.mk a1 0 RowT.zero 0 0 BallotT.zero BallotT.zero ChangeT.zero ViewT.zero).flat) 44, blkA b2 (ints MsgT.zero.flat) 44]
      have hf2 := ht2 _ hf1
      refine TL.v (Want.plain rfl) rfl rfl (PV.fieldAddr (r := 1) rfl Try.underlying44 rfl sz3 rfl rfl) ?_
      refine TL.store1 (i := 1) (H' := [blkA rb [v2] 99, blkA b4 (ints (MsgT.mk a1 a2 RowT.zero 0 0 BallotT.zero BallotT.zero ChangeT.zero ViewT.zero).flat) 44, blkA b2 (ints MsgT.zero.flat) 44]) (Want.plain rfl) rfl rfl rfl rfl rfl sz3 rfl rfl (by have h0 := (MsgT.len (MsgT.mk a1 0 RowT.zero 0 0 BallotT.zero BallotT.zero ChangeT.zero ViewT.zero)); omega) (MsgT.set_whose (MsgT.mk a1 0 RowT.zero 0 0 BallotT.zero BallotT.zero ChangeT.zero ViewT.zero) rfl _) rfl ?_
      refine TL.nil ?_
      refine TE.next hK11 ?_
      clear hK11
      refine TC.seq (fun K12 hK12 => ?_)
      refine TC.region ?_
      refine TL.v (Want.plain rfl) rfl rfl (PV.move rfl rfl) ?_
      refine TL.callP (A := [blkA rb [v2] 99]) (B := [blkA b4 (ints (MsgT.mk a1 a2 RowT.zero 0 0 BallotT.zero BallotT.zero ChangeT.zero ViewT.zero).flat) 44, blkA b2 (ints MsgT.zero.flat) 44]) (Want.plain rfl) rfl rfl rfl nm48 rfl (rrow_does rb v2 r2 ) (fun _ s => s) (fun _ d _ => (hf2).more d) (fun cP HP hP => ?_) (fun vR HR hR => ?_)
      · skip
        obtain ⟨vP, rfl, rfl, hpP⟩ := hP
        change TE _ _ _ _ _ _ _ [blkA rb [vP] 99, blkA b4 (ints (MsgT.mk a1 a2 RowT.zero 0 0 BallotT.zero BallotT.zero ChangeT.zero ViewT.zero).flat) 44, blkA b2 (ints MsgT.zero.flat) 44]
        refine TE.passPanic ?_
        clear hK12
        refine TE.blockPanic ?_
        refine TE.passPanic ?_
        clear hK3
        refine TE.weak (Sub.refl _) (fun _ s => sep_keep [0] rfl s) ?_
        refine TE.panicked ?_
        exact ⟨_, rfl, rfl, by simp [readMsgP, kRow, kAsk, pb_some hp1, pb_some hp2, pb_none hpP, h10, h10, *]⟩
      obtain ⟨a3, r3, v3, rfl, rfl, hp3, ht3⟩ := hR
      change TL _ _ _ _ _ _ _ _ _ [blkA rb [v3] 99, blkA b4 (ints (MsgT.mk a1 a2 RowT.zero 0 0 BallotT.zero BallotT.zero ChangeT.zero ViewT.zero).flat) 44, blkA b2 (ints MsgT.zero.flat) 44]
      have hf3 := ht3 _ hf2
      refine TL.v (Want.plain rfl) rfl rfl (PV.fieldAddr (r := 2) rfl Try.underlying44 rfl sz38 rfl rfl) ?_
      refine TL.store (vs := ints a3.flat) (i := 1) (H' := [blkA rb [v3] 99, blkA b4 (ints (MsgT.mk a1 a2 a3 0 0 BallotT.zero BallotT.zero ChangeT.zero ViewT.zero).flat) 44, blkA b2 (ints MsgT.zero.flat) 44]) (Want.plain rfl) rfl rfl rfl rfl rfl (by rw [(RowT.len a3)]; exact sz38) (ints_one _) rfl rfl (by have h0 := (MsgT.len (MsgT.mk a1 a2 RowT.zero 0 0 BallotT.zero BallotT.zero ChangeT.zero ViewT.zero)); have h1 := (RowT.len a3); omega) (MsgT.wr_row_ (MsgT.mk a1 a2 RowT.zero 0 0 BallotT.zero BallotT.zero ChangeT.zero ViewT.zero) 0 rfl (by have h1 := (RowT.len a3); omega) (wwhole ((RowT.len RowT.zero).trans (RowT.len a3).symm))) rfl ?_
      refine TL.nil ?_
      refine TE.next hK12 ?_
      clear hK12
      refine TC.seq (fun K13 hK13 => ?_)
      refine TC.draw (fun w => Frm F w ∧ w.heap[b4]? = some (.cells (ints (MsgT.mk a1 a2 a3 0 0 BallotT.zero BallotT.zero ChangeT.zero ViewT.zero).flat).toArray 44 (0, 0)) ∧ True) mixed rfl (fun _ s => ⟨Frm.of s, s.block 1 (lb rfl) rfl, trivial⟩) ?_
      refine TD.take (i := 0) rfl (by kernel_rfl) (by kernel_rfl) (by kernel_rfl) (fun _ _ _ _ h => h) (Want.plain rfl) rfl rfl (PV.loadN (vs := ints (MsgT.mk a1 a2 a3 0 0 BallotT.zero BallotT.zero ChangeT.zero ViewT.zero).flat) rfl Try.underlying44 rfl sz44 rfl (fun _ h => h.2.1) (MsgT.len (MsgT.mk a1 a2 a3 0 0 BallotT.zero BallotT.zero ChangeT.zero ViewT.zero)) (whole (MsgT.len (MsgT.mk a1 a2 a3 0 0 BallotT.zero BallotT.zero ChangeT.zero ViewT.zero)))) ?_
      refine TD.take (i := 1) rfl (by kernel_rfl) (by kernel_rfl) (by kernel_rfl) (fun _ _ _ _ h => h) (Want.plain rfl) rfl rfl (PV.fieldAddr (r := 2) rfl Try.underlying44 rfl sz38 rfl rfl) ?_
      refine TD.take (i := 2) rfl (by kernel_rfl) (by kernel_rfl) (by kernel_rfl) (fun _ _ _ _ h => h) (Want.plain rfl) rfl rfl (PV.loadN (vs := ints a3.flat) rfl Try.underlying38 rfl sz38 rfl (fun _ h => h.2.1) (RowT.len a3) (MsgT.sub_row (MsgT.mk a1 a2 a3 0 0 BallotT.zero BallotT.zero ChangeT.zero ViewT.zero) 0 rfl (by decide) (whole (RowT.len a3)))) ?_
      refine TD.all [3] (by kernel_rfl) rfl ?_
      refine AllT.cons rfl ?_ ?_
      · skip
        refine TL.callR (A := []) (B := [blkA rb [v3] 99, blkA b4 (ints (MsgT.mk a1 a2 a3 0 0 BallotT.zero BallotT.zero ChangeT.zero ViewT.zero).flat) 44, blkA b2 (ints MsgT.zero.flat) 44]) (Want.plain rfl) rfl rfl rfl nm21 rfl (rowRight_does a3 (row_wf hp3)) (fun _ s => s) (fun _ _ _ => trivial) (fun vR HR hR => ?_)
        obtain ⟨rfl, rfl⟩ := hR
        change TL _ _ _ _ _ _ _ _ _ [blkA rb [v3] 99, blkA b4 (ints (MsgT.mk a1 a2 a3 0 0 BallotT.zero BallotT.zero ChangeT.zero ViewT.zero).flat) 44, blkA b2 (ints MsgT.zero.flat) 44]
        refine TL.nil ?_
        refine TE.draw (fun _ s => ⟨Frm.of s, s.block 1 (lb rfl) rfl, trivial⟩) ?_
        refine TD.all [4] (by kernel_rfl) rfl ?_
        refine AllT.cons rfl ?_ ?_
        · skip
          refine TL.store (vs := ints (MsgT.mk a1 a2 a3 0 0 BallotT.zero BallotT.zero ChangeT.zero ViewT.zero).flat) (i := 2) (H' := [blkA rb [v3] 99, blkA b4 (ints (MsgT.mk a1 a2 a3 0 0 BallotT.zero BallotT.zero ChangeT.zero ViewT.zero).flat) 44, blkA b2 (ints (MsgT.mk a1 a2 a3 0 0 BallotT.zero BallotT.zero ChangeT.zero ViewT.zero).flat) 44]) (Want.plain rfl) rfl rfl rfl rfl rfl (by rw [(MsgT.len (MsgT.mk a1 a2 a3 0 0 BallotT.zero BallotT.zero ChangeT.zero ViewT.zero))]; exact sz44) (ints_one _) rfl rfl (by have h0 := (MsgT.len MsgT.zero); have h1 := (MsgT.len (MsgT.mk a1 a2 a3 0 0 BallotT.zero BallotT.zero ChangeT.zero ViewT.zero)); omega) (wwhole ((MsgT.len MsgT.zero).trans (MsgT.len (MsgT.mk a1 a2 a3 0 0 BallotT.zero BallotT.zero ChangeT.zero ViewT.zero)).symm)) rfl ?_
          refine TL.nil ?_
          refine TE.draw (fun _ s => ⟨Frm.of s, s.block 1 (lb rfl) rfl, trivial⟩) ?_
          refine TD.take (i := 5) rfl (by kernel_rfl) (by kernel_rfl) (by kernel_rfl) (fun _ _ _ _ h => h) (Want.plain rfl) rfl rfl (PV.assign rfl rfl) ?_
          refine TD.done (by kernel_rfl) ?_
          refine TE.next hK13 ?_
          clear hK13
          refine TC.ret ?_
          refine TE.blockRet ?_
          refine TE.passRet ?_
          clear hK3
          refine TE.retCT (H' := [blkA rb [v3] 99]) rfl rfl rfl Try.underlying44 rfl sz44 (Rd.own 2 rfl rfl) (MsgT.len (MsgT.mk a1 a2 a3 0 0 BallotT.zero BallotT.zero ChangeT.zero ViewT.zero)) (fun _ s => sep_keep [0] rfl s) ?_
          exact ⟨((MsgT.mk a1 a2 a3 0 0 BallotT.zero BallotT.zero ChangeT.zero ViewT.zero), (rightR a3)), _, _, rfl, rfl, by simp [readMsgP, kRow, kAsk, pr, pb_some hp1, pb_some hp2, pb_some hp3, h10, h10, MsgT.zero, RecT.zero, *], (ht1.trans (ht2.trans ht3))⟩
        exact AllT.nil
      exact AllT.nil
    · skip
      refine TL.nil ?_
      refine TE.next hK10 ?_
      clear hK10
      refine TC.no rfl ?_
      refine TC.region ?_
      refine TL.v (Want.plain rfl) rfl rfl (PV.eql rfl rfl rfl) ?_
      refine TL.dec (fun h13 => ?_) (fun h13 => ?_)
      · skip
        refine TL.v (Want.plain rfl) rfl rfl (PV.assign rfl rfl) ?_
        refine TL.nil ?_
        refine TE.next hK5 ?_
        clear hK5
        refine TC.yes rfl ?_
        refine TC.seq (fun K14 hK14 => ?_)
        refine TC.region ?_
        refine TL.v (Want.plain rfl) rfl rfl (PV.move rfl rfl) ?_
        refine TL.callP (A := [blkA rb [v1] 99]) (B := [blkA b4 (ints (MsgT.mk a1 0 RowT.zero 0 0 BallotT.zero BallotT.zero ChangeT.zero ViewT.zero).flat) 44, blkA b2 (ints MsgT.zero.flat) 44]) (Want.plain rfl) rfl rfl rfl nm47 rfl (small_does rb v1 r1 (5)) (fun _ s => sep_selR [1] rfl s) (fun _ d _ => (hf1).more d) (fun cP HP hP => ?_) (fun vR HR hR => ?_)
        · skip
          obtain ⟨vP, rfl, rfl, hpP⟩ := hP
          change TE _ _ _ _ _ _ _ [blkA rb [vP] 99, blkA b4 (ints (MsgT.mk a1 0 RowT.zero 0 0 BallotT.zero BallotT.zero ChangeT.zero ViewT.zero).flat) 44, blkA b2 (ints MsgT.zero.flat) 44]
          refine TE.passPanic ?_
          clear hK14
          refine TE.blockPanic ?_
          refine TE.passPanic ?_
          clear hK3
          refine TE.weak (Sub.refl _) (fun _ s => sep_keep [0] rfl s) ?_
          refine TE.panicked ?_
          exact ⟨_, rfl, rfl, by simp [readMsgP, kRow, kAsk, pb_some hp1, pb_none hpP, h10, h10, h13, *]⟩
        obtain ⟨a2, r2, v2, rfl, rfl, hp2, ht2⟩ := hR
        change TL _ _ _ _ _ _ _ _ _ [blkA rb [v2] 99, blkA b4 (ints (MsgT.mk a1 0 RowT.zero 0 0 BallotT.zero BallotT.zero ChangeT.zero ViewT.zero).flat) 44, blkA b2 (ints MsgT.zero.flat) 44]
        have hf2 := ht2 _ hf1
        refine TL.v (Want.plain rfl) rfl rfl (PV.fieldAddr (r := 1) rfl Try.underlying44 rfl sz3 rfl rfl) ?_
        refine TL.store1 (i := 1) (H' := [blkA rb [v2] 99, blkA b4 (ints (MsgT.mk a1 a2 RowT.zero 0 0 BallotT.zero BallotT.zero ChangeT.zero ViewT.zero).flat) 44, blkA b2 (ints MsgT.zero.flat) 44]) (Want.plain rfl) rfl rfl rfl rfl rfl sz3 rfl rfl (by have h0 := (MsgT.len (MsgT.mk a1 0 RowT.zero 0 0 BallotT.zero BallotT.zero ChangeT.zero ViewT.zero)); omega) (MsgT.set_whose (MsgT.mk a1 0 RowT.zero 0 0 BallotT.zero BallotT.zero ChangeT.zero ViewT.zero) rfl _) rfl ?_
        refine TL.nil ?_
        refine TE.next hK14 ?_
        clear hK14
        refine TC.seq (fun K15 hK15 => ?_)
        refine TC.region ?_
        refine TL.v (Want.plain rfl) rfl rfl (PV.move rfl rfl) ?_
        refine TL.callP (A := [blkA rb [v2] 99]) (B := [blkA b4 (ints (MsgT.mk a1 a2 RowT.zero 0 0 BallotT.zero BallotT.zero ChangeT.zero ViewT.zero).flat) 44, blkA b2 (ints MsgT.zero.flat) 44]) (Want.plain rfl) rfl rfl rfl nm48 rfl (rrow_does rb v2 r2 ) (fun _ s => s) (fun _ d _ => (hf2).more d) (fun cP HP hP => ?_) (fun vR HR hR => ?_)
        · skip
          obtain ⟨vP, rfl, rfl, hpP⟩ := hP
          change TE _ _ _ _ _ _ _ [blkA rb [vP] 99, blkA b4 (ints (MsgT.mk a1 a2 RowT.zero 0 0 BallotT.zero BallotT.zero ChangeT.zero ViewT.zero).flat) 44, blkA b2 (ints MsgT.zero.flat) 44]
          refine TE.passPanic ?_
          clear hK15
          refine TE.blockPanic ?_
          refine TE.passPanic ?_
          clear hK3
          refine TE.weak (Sub.refl _) (fun _ s => sep_keep [0] rfl s) ?_
          refine TE.panicked ?_
          exact ⟨_, rfl, rfl, by simp [readMsgP, kRow, kAsk, pb_some hp1, pb_some hp2, pb_none hpP, h10, h10, h13, *]⟩
        obtain ⟨a3, r3, v3, rfl, rfl, hp3, ht3⟩ := hR
        change TL _ _ _ _ _ _ _ _ _ [blkA rb [v3] 99, blkA b4 (ints (MsgT.mk a1 a2 RowT.zero 0 0 BallotT.zero BallotT.zero ChangeT.zero ViewT.zero).flat) 44, blkA b2 (ints MsgT.zero.flat) 44]
        have hf3 := ht3 _ hf2
        refine TL.v (Want.plain rfl) rfl rfl (PV.fieldAddr (r := 2) rfl Try.underlying44 rfl sz38 rfl rfl) ?_
        refine TL.store (vs := ints a3.flat) (i := 1) (H' := [blkA rb [v3] 99, blkA b4 (ints (MsgT.mk a1 a2 a3 0 0 BallotT.zero BallotT.zero ChangeT.zero ViewT.zero).flat) 44, blkA b2 (ints MsgT.zero.flat) 44]) (Want.plain rfl) rfl rfl rfl rfl rfl (by rw [(RowT.len a3)]; exact sz38) (ints_one _) rfl rfl (by have h0 := (MsgT.len (MsgT.mk a1 a2 RowT.zero 0 0 BallotT.zero BallotT.zero ChangeT.zero ViewT.zero)); have h1 := (RowT.len a3); omega) (MsgT.wr_row_ (MsgT.mk a1 a2 RowT.zero 0 0 BallotT.zero BallotT.zero ChangeT.zero ViewT.zero) 0 rfl (by have h1 := (RowT.len a3); omega) (wwhole ((RowT.len RowT.zero).trans (RowT.len a3).symm))) rfl ?_
        refine TL.nil ?_
        refine TE.next hK15 ?_
        clear hK15
        refine TC.seq (fun K16 hK16 => ?_)
        refine TC.draw (fun w => Frm F w ∧ w.heap[b4]? = some (.cells (ints (MsgT.mk a1 a2 a3 0 0 BallotT.zero BallotT.zero ChangeT.zero ViewT.zero).flat).toArray 44 (0, 0)) ∧ True) mixed rfl (fun _ s => ⟨Frm.of s, s.block 1 (lb rfl) rfl, trivial⟩) ?_
        refine TD.take (i := 0) rfl (by kernel_rfl) (by kernel_rfl) (by kernel_rfl) (fun _ _ _ _ h => h) (Want.plain rfl) rfl rfl (PV.loadN (vs := ints (MsgT.mk a1 a2 a3 0 0 BallotT.zero BallotT.zero ChangeT.zero ViewT.zero).flat) rfl Try.underlying44 rfl sz44 rfl (fun _ h => h.2.1) (MsgT.len (MsgT.mk a1 a2 a3 0 0 BallotT.zero BallotT.zero ChangeT.zero ViewT.zero)) (whole (MsgT.len (MsgT.mk a1 a2 a3 0 0 BallotT.zero BallotT.zero ChangeT.zero ViewT.zero)))) ?_
        refine TD.take (i := 1) rfl (by kernel_rfl) (by kernel_rfl) (by kernel_rfl) (fun _ _ _ _ h => h) (Want.plain rfl) rfl rfl (PV.fieldAddr (r := 2) rfl Try.underlying44 rfl sz38 rfl rfl) ?_
        refine TD.take (i := 2) rfl (by kernel_rfl) (by kernel_rfl) (by kernel_rfl) (fun _ _ _ _ h => h) (Want.plain rfl) rfl rfl (PV.loadN (vs := ints a3.flat) rfl Try.underlying38 rfl sz38 rfl (fun _ h => h.2.1) (RowT.len a3) (MsgT.sub_row (MsgT.mk a1 a2 a3 0 0 BallotT.zero BallotT.zero ChangeT.zero ViewT.zero) 0 rfl (by decide) (whole (RowT.len a3)))) ?_
        refine TD.all [3] (by kernel_rfl) rfl ?_
        refine AllT.cons rfl ?_ ?_
        · skip
          refine TL.callR (A := []) (B := [blkA rb [v3] 99, blkA b4 (ints (MsgT.mk a1 a2 a3 0 0 BallotT.zero BallotT.zero ChangeT.zero ViewT.zero).flat) 44, blkA b2 (ints MsgT.zero.flat) 44]) (Want.plain rfl) rfl rfl rfl nm21 rfl (rowRight_does a3 (row_wf hp3)) (fun _ s => s) (fun _ _ _ => trivial) (fun vR HR hR => ?_)
          obtain ⟨rfl, rfl⟩ := hR
          change TL _ _ _ _ _ _ _ _ _ [blkA rb [v3] 99, blkA b4 (ints (MsgT.mk a1 a2 a3 0 0 BallotT.zero BallotT.zero ChangeT.zero ViewT.zero).flat) 44, blkA b2 (ints MsgT.zero.flat) 44]
          refine TL.nil ?_
          refine TE.draw (fun _ s => ⟨Frm.of s, s.block 1 (lb rfl) rfl, trivial⟩) ?_
          refine TD.all [4] (by kernel_rfl) rfl ?_
          refine AllT.cons rfl ?_ ?_
          · skip
            refine TL.store (vs := ints (MsgT.mk a1 a2 a3 0 0 BallotT.zero BallotT.zero ChangeT.zero ViewT.zero).flat) (i := 2) (H' := [blkA rb [v3] 99, blkA b4 (ints (MsgT.mk a1 a2 a3 0 0 BallotT.zero BallotT.zero ChangeT.zero ViewT.zero).flat) 44, blkA b2 (ints (MsgT.mk a1 a2 a3 0 0 BallotT.zero BallotT.zero ChangeT.zero ViewT.zero).flat) 44]) (Want.plain rfl) rfl rfl rfl rfl rfl (by rw [(MsgT.len (MsgT.mk a1 a2 a3 0 0 BallotT.zero BallotT.zero ChangeT.zero ViewT.zero))]; exact sz44) (ints_one _) rfl rfl (by have h0 := (MsgT.len MsgT.zero); have h1 := (MsgT.len (MsgT.mk a1 a2 a3 0 0 BallotT.zero BallotT.zero ChangeT.zero ViewT.zero)); omega) (wwhole ((MsgT.len MsgT.zero).trans (MsgT.len (MsgT.mk a1 a2 a3 0 0 BallotT.zero BallotT.zero ChangeT.zero ViewT.zero)).symm)) rfl ?_
            refine TL.nil ?_
            refine TE.draw (fun _ s => ⟨Frm.of s, s.block 1 (lb rfl) rfl, trivial⟩) ?_
            refine TD.take (i := 5) rfl (by kernel_rfl) (by kernel_rfl) (by kernel_rfl) (fun _ _ _ _ h => h) (Want.plain rfl) rfl rfl (PV.assign rfl rfl) ?_
            refine TD.done (by kernel_rfl) ?_
            refine TE.next hK16 ?_
            clear hK16
            refine TC.ret ?_
            refine TE.blockRet ?_
            refine TE.passRet ?_
            clear hK3
            refine TE.retCT (H' := [blkA rb [v3] 99]) rfl rfl rfl Try.underlying44 rfl sz44 (Rd.own 2 rfl rfl) (MsgT.len (MsgT.mk a1 a2 a3 0 0 BallotT.zero BallotT.zero ChangeT.zero ViewT.zero)) (fun _ s => sep_keep [0] rfl s) ?_
            exact ⟨((MsgT.mk a1 a2 a3 0 0 BallotT.zero BallotT.zero ChangeT.zero ViewT.zero), (rightR a3)), _, _, rfl, rfl, by simp [readMsgP, kRow, kAsk, pr, pb_some hp1, pb_some hp2, pb_some hp3, h10, h10, h13, MsgT.zero, RecT.zero, *], (ht1.trans (ht2.trans ht3))⟩
          exact AllT.nil
        exact AllT.nil
      · skip
        refine TL.v (Want.plain rfl) rfl rfl (PV.assign rfl rfl) ?_
        refine TL.nil ?_
        refine TE.next hK5 ?_
        clear hK5
        refine TC.no rfl ?_
        refine TC.seq (fun K17 hK17 => ?_)
        refine TC.region ?_
        refine TL.v (Want.plain rfl) rfl rfl (PV.eql rfl rfl rfl) ?_
        refine TL.dec (fun h25 => ?_) (fun h25 => ?_)
        · skip
          refine TL.v (Want.plain rfl) rfl rfl (PV.assign rfl rfl) ?_
          refine TL.nil ?_
          refine TE.next hK17 ?_
          clear hK17
          refine TC.yes rfl ?_
          refine TC.region ?_
          refine TL.v (Want.plain rfl) rfl rfl (PV.move rfl rfl) ?_
          refine TL.callP (A := [blkA rb [v1] 99]) (B := [blkA b4 (ints (MsgT.mk a1 0 RowT.zero 0 0 BallotT.zero BallotT.zero ChangeT.zero ViewT.zero).flat) 44, blkA b2 (ints MsgT.zero.flat) 44]) (Want.plain rfl) rfl rfl rfl nm49 rfl (num_does rb v1 r1 ) (fun _ s => sep_selR [1] rfl s) (fun _ d _ => (hf1).more d) (fun cP HP hP => ?_) (fun vR HR hR => ?_)
          · skip
            obtain ⟨vP, rfl, rfl, hpP⟩ := hP
            change TE _ _ _ _ _ _ _ [blkA rb [vP] 99, blkA b4 (ints (MsgT.mk a1 0 RowT.zero 0 0 BallotT.zero BallotT.zero ChangeT.zero ViewT.zero).flat) 44, blkA b2 (ints MsgT.zero.flat) 44]
            refine TE.blockPanic ?_
            refine TE.passPanic ?_
            clear hK3
            refine TE.weak (Sub.refl _) (fun _ s => sep_keep [0] rfl s) ?_
            refine TE.panicked ?_
            exact ⟨_, rfl, rfl, by simp [readMsgP, kRow, kAsk, pb_some hp1, pb_none hpP, h10, h10, h13, h25, *]⟩
          obtain ⟨a2, r2, v2, rfl, rfl, hp2, ht2⟩ := hR
          change TL _ _ _ _ _ _ _ _ _ [blkA rb [v2] 99, blkA b4 (ints (MsgT.mk a1 0 RowT.zero 0 0 BallotT.zero BallotT.zero ChangeT.zero ViewT.zero).flat) 44, blkA b2 (ints MsgT.zero.flat) 44]
          have hf2 := ht2 _ hf1
          refine TL.v (Want.plain rfl) rfl rfl (PV.fieldAddr (r := 176) rfl Try.underlying44 rfl sz3 rfl rfl) ?_
          refine TL.store1 (i := 1) (H' := [blkA rb [v2] 99, blkA b4 (ints (MsgT.mk a1 0 RowT.zero a2 0 BallotT.zero BallotT.zero ChangeT.zero ViewT.zero).flat) 44, blkA b2 (ints MsgT.zero.flat) 44]) (Want.plain rfl) rfl rfl rfl rfl rfl sz3 rfl rfl (by have h0 := (MsgT.len (MsgT.mk a1 0 RowT.zero 0 0 BallotT.zero BallotT.zero ChangeT.zero ViewT.zero)); omega) (MsgT.set_version (MsgT.mk a1 0 RowT.zero 0 0 BallotT.zero BallotT.zero ChangeT.zero ViewT.zero) rfl _) rfl ?_
          refine TL.nil ?_
          refine TE.blockEnd ?_
          refine TE.next hK3 ?_
          clear hK3
          refine TC.seq (fun K18 hK18 => ?_)
          refine TC.region ?_
          refine TL.v (Want.plain rfl) rfl rfl (PV.loadN (vs := ints (MsgT.mk a1 0 RowT.zero a2 0 BallotT.zero BallotT.zero ChangeT.zero ViewT.zero).flat) rfl Try.underlying44 rfl sz44 rfl (Rd.own 1 rfl rfl) (MsgT.len (MsgT.mk a1 0 RowT.zero a2 0 BallotT.zero BallotT.zero ChangeT.zero ViewT.zero)) (whole (MsgT.len (MsgT.mk a1 0 RowT.zero a2 0 BallotT.zero BallotT.zero ChangeT.zero ViewT.zero)))) ?_
          refine TL.store (vs := ints (MsgT.mk a1 0 RowT.zero a2 0 BallotT.zero BallotT.zero ChangeT.zero ViewT.zero).flat) (i := 2) (H' := [blkA rb [v2] 99, blkA b4 (ints (MsgT.mk a1 0 RowT.zero a2 0 BallotT.zero BallotT.zero ChangeT.zero ViewT.zero).flat) 44, blkA b2 (ints (MsgT.mk a1 0 RowT.zero a2 0 BallotT.zero BallotT.zero ChangeT.zero ViewT.zero).flat) 44]) (Want.plain rfl) rfl rfl rfl rfl rfl (by rw [(MsgT.len (MsgT.mk a1 0 RowT.zero a2 0 BallotT.zero BallotT.zero ChangeT.zero ViewT.zero))]; exact sz44) (ints_one _) rfl rfl (by have h0 := (MsgT.len MsgT.zero); have h1 := (MsgT.len (MsgT.mk a1 0 RowT.zero a2 0 BallotT.zero BallotT.zero ChangeT.zero ViewT.zero)); omega) (wwhole ((MsgT.len MsgT.zero).trans (MsgT.len (MsgT.mk a1 0 RowT.zero a2 0 BallotT.zero BallotT.zero ChangeT.zero ViewT.zero)).symm)) rfl ?_
          refine TL.v (Want.plain rfl) rfl rfl (PV.assign rfl rfl) ?_
          refine TL.nil ?_
          refine TE.next hK18 ?_
          clear hK18
          refine TC.ret ?_
          refine TE.retCT (H' := [blkA rb [v2] 99]) rfl rfl rfl Try.underlying44 rfl sz44 (Rd.own 2 rfl rfl) (MsgT.len (MsgT.mk a1 0 RowT.zero a2 0 BallotT.zero BallotT.zero ChangeT.zero ViewT.zero)) (fun _ s => sep_keep [0] rfl s) ?_
          exact ⟨((MsgT.mk a1 0 RowT.zero a2 0 BallotT.zero BallotT.zero ChangeT.zero ViewT.zero), true), _, _, rfl, rfl, by simp [readMsgP, kRow, kAsk, pr, pb_some hp1, pb_some hp2, h10, h10, h13, h25, MsgT.zero, RecT.zero, *], (ht1.trans ht2)⟩
        · skip
          refine TL.v (Want.plain rfl) rfl rfl (PV.assign rfl rfl) ?_
          refine TL.nil ?_
          refine TE.next hK17 ?_
          clear hK17
          refine TC.no rfl ?_
          refine TC.seq (fun K19 hK19 => ?_)
          refine TC.seq (fun K20 hK20 => ?_)
          refine TC.region ?_
          refine TL.v (Want.plain rfl) rfl rfl (PV.eql rfl rfl rfl) ?_
          refine TL.v (Want.plain rfl) rfl rfl (PV.assign rfl rfl) ?_
          refine TL.dec (fun h29 => ?_) (fun h29 => ?_)
          · skip
            refine TL.nil ?_
            refine TE.next hK20 ?_
            clear hK20
            refine TC.yes rfl ?_
            refine TC.skip ?_
            refine TE.next hK19 ?_
            clear hK19
            refine TC.yes rfl ?_
            refine TC.seq (fun K21 hK21 => ?_)
            refine TC.region ?_
            refine TL.v (Want.plain rfl) rfl rfl (PV.move rfl rfl) ?_
            refine TL.callP (A := [blkA rb [v1] 99]) (B := [blkA b4 (ints (MsgT.mk a1 0 RowT.zero 0 0 BallotT.zero BallotT.zero ChangeT.zero ViewT.zero).flat) 44, blkA b2 (ints MsgT.zero.flat) 44]) (Want.plain rfl) rfl rfl rfl nm49 rfl (num_does rb v1 r1 ) (fun _ s => sep_selR [1] rfl s) (fun _ d _ => (hf1).more d) (fun cP HP hP => ?_) (fun vR HR hR => ?_)
            · skip
              obtain ⟨vP, rfl, rfl, hpP⟩ := hP
              change TE _ _ _ _ _ _ _ [blkA rb [vP] 99, blkA b4 (ints (MsgT.mk a1 0 RowT.zero 0 0 BallotT.zero BallotT.zero ChangeT.zero ViewT.zero).flat) 44, blkA b2 (ints MsgT.zero.flat) 44]
              refine TE.passPanic ?_
              clear hK21
              refine TE.blockPanic ?_
              refine TE.passPanic ?_
              clear hK3
              refine TE.weak (Sub.refl _) (fun _ s => sep_keep [0] rfl s) ?_
              refine TE.panicked ?_
              exact ⟨_, rfl, rfl, by simp [readMsgP, kRow, kAsk, pb_some hp1, pb_none hpP, h10, h10, h13, h25, h29, *]⟩
            obtain ⟨a2, r2, v2, rfl, rfl, hp2, ht2⟩ := hR
            change TL _ _ _ _ _ _ _ _ _ [blkA rb [v2] 99, blkA b4 (ints (MsgT.mk a1 0 RowT.zero 0 0 BallotT.zero BallotT.zero ChangeT.zero ViewT.zero).flat) 44, blkA b2 (ints MsgT.zero.flat) 44]
            have hf2 := ht2 _ hf1
            refine TL.v (Want.plain rfl) rfl rfl (PV.fieldAddr (r := 177) rfl Try.underlying44 rfl sz3 rfl rfl) ?_
            refine TL.store1 (i := 1) (H' := [blkA rb [v2] 99, blkA b4 (ints (MsgT.mk a1 0 RowT.zero 0 a2 BallotT.zero BallotT.zero ChangeT.zero ViewT.zero).flat) 44, blkA b2 (ints MsgT.zero.flat) 44]) (Want.plain rfl) rfl rfl rfl rfl rfl sz3 rfl rfl (by have h0 := (MsgT.len (MsgT.mk a1 0 RowT.zero 0 0 BallotT.zero BallotT.zero ChangeT.zero ViewT.zero)); omega) (MsgT.set_epoch (MsgT.mk a1 0 RowT.zero 0 0 BallotT.zero BallotT.zero ChangeT.zero ViewT.zero) rfl _) rfl ?_
            refine TL.nil ?_
            refine TE.next hK21 ?_
            clear hK21
            refine TC.region ?_
            refine TL.v (Want.plain rfl) rfl rfl (PV.move rfl rfl) ?_
            refine TL.callP (A := [blkA rb [v2] 99]) (B := [blkA b4 (ints (MsgT.mk a1 0 RowT.zero 0 a2 BallotT.zero BallotT.zero ChangeT.zero ViewT.zero).flat) 44, blkA b2 (ints MsgT.zero.flat) 44]) (Want.plain rfl) rfl rfl rfl nm50 rfl (rballot_does rb v2 r2 ) (fun _ s => s) (fun _ d _ => (hf2).more d) (fun cP HP hP => ?_) (fun vR HR hR => ?_)
            · skip
              obtain ⟨vP, rfl, rfl, hpP⟩ := hP
              change TE _ _ _ _ _ _ _ [blkA rb [vP] 99, blkA b4 (ints (MsgT.mk a1 0 RowT.zero 0 a2 BallotT.zero BallotT.zero ChangeT.zero ViewT.zero).flat) 44, blkA b2 (ints MsgT.zero.flat) 44]
              refine TE.blockPanic ?_
              refine TE.passPanic ?_
              clear hK3
              refine TE.weak (Sub.refl _) (fun _ s => sep_keep [0] rfl s) ?_
              refine TE.panicked ?_
              exact ⟨_, rfl, rfl, by simp [readMsgP, kRow, kAsk, pb_some hp1, pb_some hp2, pb_none hpP, h10, h10, h13, h25, h29, *]⟩
            obtain ⟨a3, r3, v3, rfl, rfl, hp3, ht3⟩ := hR
            change TL _ _ _ _ _ _ _ _ _ [blkA rb [v3] 99, blkA b4 (ints (MsgT.mk a1 0 RowT.zero 0 a2 BallotT.zero BallotT.zero ChangeT.zero ViewT.zero).flat) 44, blkA b2 (ints MsgT.zero.flat) 44]
            have hf3 := ht3 _ hf2
            refine TL.v (Want.plain rfl) rfl rfl (PV.fieldAddr (r := 178) rfl Try.underlying44 rfl sz40 rfl rfl) ?_
            refine TL.store (vs := ints a3.flat) (i := 1) (H' := [blkA rb [v3] 99, blkA b4 (ints (MsgT.mk a1 0 RowT.zero 0 a2 a3 BallotT.zero ChangeT.zero ViewT.zero).flat) 44, blkA b2 (ints MsgT.zero.flat) 44]) (Want.plain rfl) rfl rfl rfl rfl rfl (by rw [(BallotT.len a3)]; exact sz40) (ints_one _) rfl rfl (by have h0 := (MsgT.len (MsgT.mk a1 0 RowT.zero 0 a2 BallotT.zero BallotT.zero ChangeT.zero ViewT.zero)); have h1 := (BallotT.len a3); omega) (MsgT.wr_ballot_ (MsgT.mk a1 0 RowT.zero 0 a2 BallotT.zero BallotT.zero ChangeT.zero ViewT.zero) 0 rfl (by have h1 := (BallotT.len a3); omega) (wwhole ((BallotT.len BallotT.zero).trans (BallotT.len a3).symm))) rfl ?_
            refine TL.nil ?_
            refine TE.blockEnd ?_
            refine TE.next hK3 ?_
            clear hK3
            refine TC.seq (fun K22 hK22 => ?_)
            refine TC.region ?_
            refine TL.v (Want.plain rfl) rfl rfl (PV.loadN (vs := ints (MsgT.mk a1 0 RowT.zero 0 a2 a3 BallotT.zero ChangeT.zero ViewT.zero).flat) rfl Try.underlying44 rfl sz44 rfl (Rd.own 1 rfl rfl) (MsgT.len (MsgT.mk a1 0 RowT.zero 0 a2 a3 BallotT.zero ChangeT.zero ViewT.zero)) (whole (MsgT.len (MsgT.mk a1 0 RowT.zero 0 a2 a3 BallotT.zero ChangeT.zero ViewT.zero)))) ?_
            refine TL.store (vs := ints (MsgT.mk a1 0 RowT.zero 0 a2 a3 BallotT.zero ChangeT.zero ViewT.zero).flat) (i := 2) (H' := [blkA rb [v3] 99, blkA b4 (ints (MsgT.mk a1 0 RowT.zero 0 a2 a3 BallotT.zero ChangeT.zero ViewT.zero).flat) 44, blkA b2 (ints (MsgT.mk a1 0 RowT.zero 0 a2 a3 BallotT.zero ChangeT.zero ViewT.zero).flat) 44]) (Want.plain rfl) rfl rfl rfl rfl rfl (by rw [(MsgT.len (MsgT.mk a1 0 RowT.zero 0 a2 a3 BallotT.zero ChangeT.zero ViewT.zero))]; exact sz44) (ints_one _) rfl rfl (by have h0 := (MsgT.len MsgT.zero); have h1 := (MsgT.len (MsgT.mk a1 0 RowT.zero 0 a2 a3 BallotT.zero ChangeT.zero ViewT.zero)); omega) (wwhole ((MsgT.len MsgT.zero).trans (MsgT.len (MsgT.mk a1 0 RowT.zero 0 a2 a3 BallotT.zero ChangeT.zero ViewT.zero)).symm)) rfl ?_
            refine TL.v (Want.plain rfl) rfl rfl (PV.assign rfl rfl) ?_
            refine TL.nil ?_
            refine TE.next hK22 ?_
            clear hK22
            refine TC.ret ?_
            refine TE.retCT (H' := [blkA rb [v3] 99]) rfl rfl rfl Try.underlying44 rfl sz44 (Rd.own 2 rfl rfl) (MsgT.len (MsgT.mk a1 0 RowT.zero 0 a2 a3 BallotT.zero ChangeT.zero ViewT.zero)) (fun _ s => sep_keep [0] rfl s) ?_
            exact ⟨((MsgT.mk a1 0 RowT.zero 0 a2 a3 BallotT.zero ChangeT.zero ViewT.zero), true), _, _, rfl, rfl, by simp [readMsgP, kRow, kAsk, pr, pb_some hp1, pb_some hp2, pb_some hp3, h10, h10, h13, h25, h29, MsgT.zero, RecT.zero, *], (ht1.trans (ht2.trans ht3))⟩
          · skip
            refine TL.nil ?_
            refine TE.next hK20 ?_
            clear hK20
            refine TC.no rfl ?_
            refine TC.region ?_
            refine TL.v (Want.plain rfl) rfl rfl (PV.eql rfl rfl rfl) ?_
            refine TL.dec (fun h31 => ?_) (fun h31 => ?_)
            · skip
              refine TL.v (Want.plain rfl) rfl rfl (PV.assign rfl rfl) ?_
              refine TL.nil ?_
              refine TE.next hK19 ?_
              clear hK19
              refine TC.yes rfl ?_
              refine TC.seq (fun K23 hK23 => ?_)
              refine TC.region ?_
              refine TL.v (Want.plain rfl) rfl rfl (PV.move rfl rfl) ?_
              refine TL.callP (A := [blkA rb [v1] 99]) (B := [blkA b4 (ints (MsgT.mk a1 0 RowT.zero 0 0 BallotT.zero BallotT.zero ChangeT.zero ViewT.zero).flat) 44, blkA b2 (ints MsgT.zero.flat) 44]) (Want.plain rfl) rfl rfl rfl nm49 rfl (num_does rb v1 r1 ) (fun _ s => sep_selR [1] rfl s) (fun _ d _ => (hf1).more d) (fun cP HP hP => ?_) (fun vR HR hR => ?_)
              · skip
                obtain ⟨vP, rfl, rfl, hpP⟩ := hP
                change TE _ _ _ _ _ _ _ [blkA rb [vP] 99, blkA b4 (ints (MsgT.mk a1 0 RowT.zero 0 0 BallotT.zero BallotT.zero ChangeT.zero ViewT.zero).flat) 44, blkA b2 (ints MsgT.zero.flat) 44]
                refine TE.passPanic ?_
                clear hK23
                refine TE.blockPanic ?_
                refine TE.passPanic ?_
                clear hK3
                refine TE.weak (Sub.refl _) (fun _ s => sep_keep [0] rfl s) ?_
                refine TE.panicked ?_
                exact ⟨_, rfl, rfl, by simp [readMsgP, kRow, kAsk, pb_some hp1, pb_none hpP, h10, h10, h13, h25, h29, h31, *]⟩
              obtain ⟨a2, r2, v2, rfl, rfl, hp2, ht2⟩ := hR
              change TL _ _ _ _ _ _ _ _ _ [blkA rb [v2] 99, blkA b4 (ints (MsgT.mk a1 0 RowT.zero 0 0 BallotT.zero BallotT.zero ChangeT.zero ViewT.zero).flat) 44, blkA b2 (ints MsgT.zero.flat) 44]
              have hf2 := ht2 _ hf1
              refine TL.v (Want.plain rfl) rfl rfl (PV.fieldAddr (r := 177) rfl Try.underlying44 rfl sz3 rfl rfl) ?_
              refine TL.store1 (i := 1) (H' := [blkA rb [v2] 99, blkA b4 (ints (MsgT.mk a1 0 RowT.zero 0 a2 BallotT.zero BallotT.zero ChangeT.zero ViewT.zero).flat) 44, blkA b2 (ints MsgT.zero.flat) 44]) (Want.plain rfl) rfl rfl rfl rfl rfl sz3 rfl rfl (by have h0 := (MsgT.len (MsgT.mk a1 0 RowT.zero 0 0 BallotT.zero BallotT.zero ChangeT.zero ViewT.zero)); omega) (MsgT.set_epoch (MsgT.mk a1 0 RowT.zero 0 0 BallotT.zero BallotT.zero ChangeT.zero ViewT.zero) rfl _) rfl ?_
              refine TL.nil ?_
              refine TE.next hK23 ?_
              clear hK23
              refine TC.region ?_
              refine TL.v (Want.plain rfl) rfl rfl (PV.move rfl rfl) ?_
              refine TL.callP (A := [blkA rb [v2] 99]) (B := [blkA b4 (ints (MsgT.mk a1 0 RowT.zero 0 a2 BallotT.zero BallotT.zero ChangeT.zero ViewT.zero).flat) 44, blkA b2 (ints MsgT.zero.flat) 44]) (Want.plain rfl) rfl rfl rfl nm50 rfl (rballot_does rb v2 r2 ) (fun _ s => s) (fun _ d _ => (hf2).more d) (fun cP HP hP => ?_) (fun vR HR hR => ?_)
              · skip
                obtain ⟨vP, rfl, rfl, hpP⟩ := hP
                change TE _ _ _ _ _ _ _ [blkA rb [vP] 99, blkA b4 (ints (MsgT.mk a1 0 RowT.zero 0 a2 BallotT.zero BallotT.zero ChangeT.zero ViewT.zero).flat) 44, blkA b2 (ints MsgT.zero.flat) 44]
                refine TE.blockPanic ?_
                refine TE.passPanic ?_
                clear hK3
                refine TE.weak (Sub.refl _) (fun _ s => sep_keep [0] rfl s) ?_
                refine TE.panicked ?_
                exact ⟨_, rfl, rfl, by simp [readMsgP, kRow, kAsk, pb_some hp1, pb_some hp2, pb_none hpP, h10, h10, h13, h25, h29, h31, *]⟩
              obtain ⟨a3, r3, v3, rfl, rfl, hp3, ht3⟩ := hR
              change TL _ _ _ _ _ _ _ _ _ [blkA rb [v3] 99, blkA b4 (ints (MsgT.mk a1 0 RowT.zero 0 a2 BallotT.zero BallotT.zero ChangeT.zero ViewT.zero).flat) 44, blkA b2 (ints MsgT.zero.flat) 44]
              have hf3 := ht3 _ hf2
              refine TL.v (Want.plain rfl) rfl rfl (PV.fieldAddr (r := 178) rfl Try.underlying44 rfl sz40 rfl rfl) ?_
              refine TL.store (vs := ints a3.flat) (i := 1) (H' := [blkA rb [v3] 99, blkA b4 (ints (MsgT.mk a1 0 RowT.zero 0 a2 a3 BallotT.zero ChangeT.zero ViewT.zero).flat) 44, blkA b2 (ints MsgT.zero.flat) 44]) (Want.plain rfl) rfl rfl rfl rfl rfl (by rw [(BallotT.len a3)]; exact sz40) (ints_one _) rfl rfl (by have h0 := (MsgT.len (MsgT.mk a1 0 RowT.zero 0 a2 BallotT.zero BallotT.zero ChangeT.zero ViewT.zero)); have h1 := (BallotT.len a3); omega) (MsgT.wr_ballot_ (MsgT.mk a1 0 RowT.zero 0 a2 BallotT.zero BallotT.zero ChangeT.zero ViewT.zero) 0 rfl (by have h1 := (BallotT.len a3); omega) (wwhole ((BallotT.len BallotT.zero).trans (BallotT.len a3).symm))) rfl ?_
              refine TL.nil ?_
              refine TE.blockEnd ?_
              refine TE.next hK3 ?_
              clear hK3
              refine TC.seq (fun K24 hK24 => ?_)
              refine TC.region ?_
              refine TL.v (Want.plain rfl) rfl rfl (PV.loadN (vs := ints (MsgT.mk a1 0 RowT.zero 0 a2 a3 BallotT.zero ChangeT.zero ViewT.zero).flat) rfl Try.underlying44 rfl sz44 rfl (Rd.own 1 rfl rfl) (MsgT.len (MsgT.mk a1 0 RowT.zero 0 a2 a3 BallotT.zero ChangeT.zero ViewT.zero)) (whole (MsgT.len (MsgT.mk a1 0 RowT.zero 0 a2 a3 BallotT.zero ChangeT.zero ViewT.zero)))) ?_
              refine TL.store (vs := ints (MsgT.mk a1 0 RowT.zero 0 a2 a3 BallotT.zero ChangeT.zero ViewT.zero).flat) (i := 2) (H' := [blkA rb [v3] 99, blkA b4 (ints (MsgT.mk a1 0 RowT.zero 0 a2 a3 BallotT.zero ChangeT.zero ViewT.zero).flat) 44, blkA b2 (ints (MsgT.mk a1 0 RowT.zero 0 a2 a3 BallotT.zero ChangeT.zero ViewT.zero).flat) 44]) (Want.plain rfl) rfl rfl rfl rfl rfl (by rw [(MsgT.len (MsgT.mk a1 0 RowT.zero 0 a2 a3 BallotT.zero ChangeT.zero ViewT.zero))]; exact sz44) (ints_one _) rfl rfl (by have h0 := (MsgT.len MsgT.zero); have h1 := (MsgT.len (MsgT.mk a1 0 RowT.zero 0 a2 a3 BallotT.zero ChangeT.zero ViewT.zero)); omega) (wwhole ((MsgT.len MsgT.zero).trans (MsgT.len (MsgT.mk a1 0 RowT.zero 0 a2 a3 BallotT.zero ChangeT.zero ViewT.zero)).symm)) rfl ?_
              refine TL.v (Want.plain rfl) rfl rfl (PV.assign rfl rfl) ?_
              refine TL.nil ?_
              refine TE.next hK24 ?_
              clear hK24
              refine TC.ret ?_
              refine TE.retCT (H' := [blkA rb [v3] 99]) rfl rfl rfl Try.underlying44 rfl sz44 (Rd.own 2 rfl rfl) (MsgT.len (MsgT.mk a1 0 RowT.zero 0 a2 a3 BallotT.zero ChangeT.zero ViewT.zero)) (fun _ s => sep_keep [0] rfl s) ?_
              exact ⟨((MsgT.mk a1 0 RowT.zero 0 a2 a3 BallotT.zero ChangeT.zero ViewT.zero), true), _, _, rfl, rfl, by simp [readMsgP, kRow, kAsk, pr, pb_some hp1, pb_some hp2, pb_some hp3, h10, h10, h13, h25, h29, h31, MsgT.zero, RecT.zero, *], (ht1.trans (ht2.trans ht3))⟩
            · skip
              refine TL.v (Want.plain rfl) rfl rfl (PV.assign rfl rfl) ?_
              refine TL.nil ?_
              refine TE.next hK19 ?_
              clear hK19
              refine TC.no rfl ?_
              refine TC.seq (fun K25 hK25 => ?_)
              refine TC.region ?_
              refine TL.v (Want.plain rfl) rfl rfl (PV.eql rfl rfl rfl) ?_
              refine TL.dec (fun h39 => ?_) (fun h39 => ?_)
              · skip
                refine TL.v (Want.plain rfl) rfl rfl (PV.assign rfl rfl) ?_
                refine TL.nil ?_
                refine TE.next hK25 ?_
                clear hK25
                refine TC.yes rfl ?_
                refine TC.seq (fun K26 hK26 => ?_)
                refine TC.region ?_
                refine TL.v (Want.plain rfl) rfl rfl (PV.move rfl rfl) ?_
                refine TL.callP (A := [blkA rb [v1] 99]) (B := [blkA b4 (ints (MsgT.mk a1 0 RowT.zero 0 0 BallotT.zero BallotT.zero ChangeT.zero ViewT.zero).flat) 44, blkA b2 (ints MsgT.zero.flat) 44]) (Want.plain rfl) rfl rfl rfl nm49 rfl (num_does rb v1 r1 ) (fun _ s => sep_selR [1] rfl s) (fun _ d _ => (hf1).more d) (fun cP HP hP => ?_) (fun vR HR hR => ?_)
                · skip
                  obtain ⟨vP, rfl, rfl, hpP⟩ := hP
                  change TE _ _ _ _ _ _ _ [blkA rb [vP] 99, blkA b4 (ints (MsgT.mk a1 0 RowT.zero 0 0 BallotT.zero BallotT.zero ChangeT.zero ViewT.zero).flat) 44, blkA b2 (ints MsgT.zero.flat) 44]
                  refine TE.passPanic ?_
                  clear hK26
                  refine TE.blockPanic ?_
                  refine TE.passPanic ?_
                  clear hK3
                  refine TE.weak (Sub.refl _) (fun _ s => sep_keep [0] rfl s) ?_
                  refine TE.panicked ?_
                  exact ⟨_, rfl, rfl, by simp [readMsgP, kRow, kAsk, pb_some hp1, pb_none hpP, h10, h10, h13, h25, h29, h31, h39, *]⟩
                obtain ⟨a2, r2, v2, rfl, rfl, hp2, ht2⟩ := hR
                change TL _ _ _ _ _ _ _ _ _ [blkA rb [v2] 99, blkA b4 (ints (MsgT.mk a1 0 RowT.zero 0 0 BallotT.zero BallotT.zero ChangeT.zero ViewT.zero).flat) 44, blkA b2 (ints MsgT.zero.flat) 44]
                have hf2 := ht2 _ hf1
                refine TL.v (Want.plain rfl) rfl rfl (PV.fieldAddr (r := 177) rfl Try.underlying44 rfl sz3 rfl rfl) ?_
                refine TL.store1 (i := 1) (H' := [blkA rb [v2] 99, blkA b4 (ints (MsgT.mk a1 0 RowT.zero 0 a2 BallotT.zero BallotT.zero ChangeT.zero ViewT.zero).flat) 44, blkA b2 (ints MsgT.zero.flat) 44]) (Want.plain rfl) rfl rfl rfl rfl rfl sz3 rfl rfl (by have h0 := (MsgT.len (MsgT.mk a1 0 RowT.zero 0 0 BallotT.zero BallotT.zero ChangeT.zero ViewT.zero)); omega) (MsgT.set_epoch (MsgT.mk a1 0 RowT.zero 0 0 BallotT.zero BallotT.zero ChangeT.zero ViewT.zero) rfl _) rfl ?_
                refine TL.nil ?_
                refine TE.next hK26 ?_
                clear hK26
                refine TC.seq (fun K27 hK27 => ?_)
                refine TC.region ?_
                refine TL.v (Want.plain rfl) rfl rfl (PV.move rfl rfl) ?_
                refine TL.callP (A := [blkA rb [v2] 99]) (B := [blkA b4 (ints (MsgT.mk a1 0 RowT.zero 0 a2 BallotT.zero BallotT.zero ChangeT.zero ViewT.zero).flat) 44, blkA b2 (ints MsgT.zero.flat) 44]) (Want.plain rfl) rfl rfl rfl nm50 rfl (rballot_does rb v2 r2 ) (fun _ s => s) (fun _ d _ => (hf2).more d) (fun cP HP hP => ?_) (fun vR HR hR => ?_)
                · skip
                  obtain ⟨vP, rfl, rfl, hpP⟩ := hP
                  change TE _ _ _ _ _ _ _ [blkA rb [vP] 99, blkA b4 (ints (MsgT.mk a1 0 RowT.zero 0 a2 BallotT.zero BallotT.zero ChangeT.zero ViewT.zero).flat) 44, blkA b2 (ints MsgT.zero.flat) 44]
                  refine TE.passPanic ?_
                  clear hK27
                  refine TE.blockPanic ?_
                  refine TE.passPanic ?_
                  clear hK3
                  refine TE.weak (Sub.refl _) (fun _ s => sep_keep [0] rfl s) ?_
                  refine TE.panicked ?_
                  exact ⟨_, rfl, rfl, by simp [readMsgP, kRow, kAsk, pb_some hp1, pb_some hp2, pb_none hpP, h10, h10, h13, h25, h29, h31, h39, *]⟩
                obtain ⟨a3, r3, v3, rfl, rfl, hp3, ht3⟩ := hR
                change TL _ _ _ _ _ _ _ _ _ [blkA rb [v3] 99, blkA b4 (ints (MsgT.mk a1 0 RowT.zero 0 a2 BallotT.zero BallotT.zero ChangeT.zero ViewT.zero).flat) 44, blkA b2 (ints MsgT.zero.flat) 44]
                have hf3 := ht3 _ hf2
                refine TL.v (Want.plain rfl) rfl rfl (PV.fieldAddr (r := 178) rfl Try.underlying44 rfl sz40 rfl rfl) ?_
                refine TL.store (vs := ints a3.flat) (i := 1) (H' := [blkA rb [v3] 99, blkA b4 (ints (MsgT.mk a1 0 RowT.zero 0 a2 a3 BallotT.zero ChangeT.zero ViewT.zero).flat) 44, blkA b2 (ints MsgT.zero.flat) 44]) (Want.plain rfl) rfl rfl rfl rfl rfl (by rw [(BallotT.len a3)]; exact sz40) (ints_one _) rfl rfl (by have h0 := (MsgT.len (MsgT.mk a1 0 RowT.zero 0 a2 BallotT.zero BallotT.zero ChangeT.zero ViewT.zero)); have h1 := (BallotT.len a3); omega) (MsgT.wr_ballot_ (MsgT.mk a1 0 RowT.zero 0 a2 BallotT.zero BallotT.zero ChangeT.zero ViewT.zero) 0 rfl (by have h1 := (BallotT.len a3); omega) (wwhole ((BallotT.len BallotT.zero).trans (BallotT.len a3).symm))) rfl ?_
                refine TL.nil ?_
                refine TE.next hK27 ?_
                clear hK27
                refine TC.seq (fun K28 hK28 => ?_)
                refine TC.region ?_
                refine TL.v (Want.plain rfl) rfl rfl (PV.move rfl rfl) ?_
                refine TL.callP (A := [blkA rb [v3] 99]) (B := [blkA b4 (ints (MsgT.mk a1 0 RowT.zero 0 a2 a3 BallotT.zero ChangeT.zero ViewT.zero).flat) 44, blkA b2 (ints MsgT.zero.flat) 44]) (Want.plain rfl) rfl rfl rfl nm50 rfl (rballot_does rb v3 r3 ) (fun _ s => s) (fun _ d _ => (hf3).more d) (fun cP HP hP => ?_) (fun vR HR hR => ?_)
                · skip
                  obtain ⟨vP, rfl, rfl, hpP⟩ := hP
                  change TE _ _ _ _ _ _ _ [blkA rb [vP] 99, blkA b4 (ints (MsgT.mk a1 0 RowT.zero 0 a2 a3 BallotT.zero ChangeT.zero ViewT.zero).flat) 44, blkA b2 (ints MsgT.zero.flat) 44]
                  refine TE.passPanic ?_
                  clear hK28
                  refine TE.blockPanic ?_
                  refine TE.passPanic ?_
                  clear hK3
                  refine TE.weak (Sub.refl _) (fun _ s => sep_keep [0] rfl s) ?_
                  refine TE.panicked ?_
                  exact ⟨_, rfl, rfl, by simp [readMsgP, kRow, kAsk, pb_some hp1, pb_some hp2, pb_some hp3, pb_none hpP, h10, h10, h13, h25, h29, h31, h39, *]⟩
                obtain ⟨a4, r4, v4, rfl, rfl, hp4, ht4⟩ := hR
                change TL _ _ _ _ _ _ _ _ _ [blkA rb [v4] 99, blkA b4 (ints (MsgT.mk a1 0 RowT.zero 0 a2 a3 BallotT.zero ChangeT.zero ViewT.zero).flat) 44, blkA b2 (ints MsgT.zero.flat) 44]
                have hf4 := ht4 _ hf3
                refine TL.v (Want.plain rfl) rfl rfl (PV.fieldAddr (r := 180) rfl Try.underlying44 rfl sz40 rfl rfl) ?_
                refine TL.store (vs := ints a4.flat) (i := 1) (H' := [blkA rb [v4] 99, blkA b4 (ints (MsgT.mk a1 0 RowT.zero 0 a2 a3 a4 ChangeT.zero ViewT.zero).flat) 44, blkA b2 (ints MsgT.zero.flat) 44]) (Want.plain rfl) rfl rfl rfl rfl rfl (by rw [(BallotT.len a4)]; exact sz40) (ints_one _) rfl rfl (by have h0 := (MsgT.len (MsgT.mk a1 0 RowT.zero 0 a2 a3 BallotT.zero ChangeT.zero ViewT.zero)); have h1 := (BallotT.len a4); omega) (MsgT.wr_had_ (MsgT.mk a1 0 RowT.zero 0 a2 a3 BallotT.zero ChangeT.zero ViewT.zero) 0 rfl (by have h1 := (BallotT.len a4); omega) (wwhole ((BallotT.len BallotT.zero).trans (BallotT.len a4).symm))) rfl ?_
                refine TL.nil ?_
                refine TE.next hK28 ?_
                clear hK28
                refine TC.region ?_
                refine TL.v (Want.plain rfl) rfl rfl (PV.move rfl rfl) ?_
                refine TL.callP (A := [blkA rb [v4] 99]) (B := [blkA b4 (ints (MsgT.mk a1 0 RowT.zero 0 a2 a3 a4 ChangeT.zero ViewT.zero).flat) 44, blkA b2 (ints MsgT.zero.flat) 44]) (Want.plain rfl) rfl rfl rfl nm51 rfl (rchange_does rb v4 r4 ) (fun _ s => s) (fun _ d _ => (hf4).more d) (fun cP HP hP => ?_) (fun vR HR hR => ?_)
                · skip
                  obtain ⟨vP, rfl, rfl, hpP⟩ := hP
                  change TE _ _ _ _ _ _ _ [blkA rb [vP] 99, blkA b4 (ints (MsgT.mk a1 0 RowT.zero 0 a2 a3 a4 ChangeT.zero ViewT.zero).flat) 44, blkA b2 (ints MsgT.zero.flat) 44]
                  refine TE.blockPanic ?_
                  refine TE.passPanic ?_
                  clear hK3
                  refine TE.weak (Sub.refl _) (fun _ s => sep_keep [0] rfl s) ?_
                  refine TE.panicked ?_
                  exact ⟨_, rfl, rfl, by simp [readMsgP, kRow, kAsk, pb_some hp1, pb_some hp2, pb_some hp3, pb_some hp4, pb_none hpP, h10, h10, h13, h25, h29, h31, h39, *]⟩
                obtain ⟨a5, r5, v5, rfl, rfl, hp5, ht5⟩ := hR
                change TL _ _ _ _ _ _ _ _ _ [blkA rb [v5] 99, blkA b4 (ints (MsgT.mk a1 0 RowT.zero 0 a2 a3 a4 ChangeT.zero ViewT.zero).flat) 44, blkA b2 (ints MsgT.zero.flat) 44]
                have hf5 := ht5 _ hf4
                refine TL.v (Want.plain rfl) rfl rfl (PV.fieldAddr (r := 182) rfl Try.underlying44 rfl sz42 rfl rfl) ?_
                refine TL.store (vs := ints a5.flat) (i := 1) (H' := [blkA rb [v5] 99, blkA b4 (ints (MsgT.mk a1 0 RowT.zero 0 a2 a3 a4 a5 ViewT.zero).flat) 44, blkA b2 (ints MsgT.zero.flat) 44]) (Want.plain rfl) rfl rfl rfl rfl rfl (by rw [(ChangeT.len a5)]; exact sz42) (ints_one _) rfl rfl (by have h0 := (MsgT.len (MsgT.mk a1 0 RowT.zero 0 a2 a3 a4 ChangeT.zero ViewT.zero)); have h1 := (ChangeT.len a5); omega) (MsgT.wr_change_ (MsgT.mk a1 0 RowT.zero 0 a2 a3 a4 ChangeT.zero ViewT.zero) 0 rfl (by have h1 := (ChangeT.len a5); omega) (wwhole ((ChangeT.len ChangeT.zero).trans (ChangeT.len a5).symm))) rfl ?_
                refine TL.nil ?_
                refine TE.blockEnd ?_
                refine TE.next hK3 ?_
                clear hK3
                refine TC.seq (fun K29 hK29 => ?_)
                refine TC.region ?_
                refine TL.v (Want.plain rfl) rfl rfl (PV.loadN (vs := ints (MsgT.mk a1 0 RowT.zero 0 a2 a3 a4 a5 ViewT.zero).flat) rfl Try.underlying44 rfl sz44 rfl (Rd.own 1 rfl rfl) (MsgT.len (MsgT.mk a1 0 RowT.zero 0 a2 a3 a4 a5 ViewT.zero)) (whole (MsgT.len (MsgT.mk a1 0 RowT.zero 0 a2 a3 a4 a5 ViewT.zero)))) ?_
                refine TL.store (vs := ints (MsgT.mk a1 0 RowT.zero 0 a2 a3 a4 a5 ViewT.zero).flat) (i := 2) (H' := [blkA rb [v5] 99, blkA b4 (ints (MsgT.mk a1 0 RowT.zero 0 a2 a3 a4 a5 ViewT.zero).flat) 44, blkA b2 (ints (MsgT.mk a1 0 RowT.zero 0 a2 a3 a4 a5 ViewT.zero).flat) 44]) (Want.plain rfl) rfl rfl rfl rfl rfl (by rw [(MsgT.len (MsgT.mk a1 0 RowT.zero 0 a2 a3 a4 a5 ViewT.zero))]; exact sz44) (ints_one _) rfl rfl (by have h0 := (MsgT.len MsgT.zero); have h1 := (MsgT.len (MsgT.mk a1 0 RowT.zero 0 a2 a3 a4 a5 ViewT.zero)); omega) (wwhole ((MsgT.len MsgT.zero).trans (MsgT.len (MsgT.mk a1 0 RowT.zero 0 a2 a3 a4 a5 ViewT.zero)).symm)) rfl ?_
                refine TL.v (Want.plain rfl) rfl rfl (PV.assign rfl rfl) ?_
                refine TL.nil ?_
                refine TE.next hK29 ?_
                clear hK29
                refine TC.ret ?_
                refine TE.retCT (H' := [blkA rb [v5] 99]) rfl rfl rfl Try.underlying44 rfl sz44 (Rd.own 2 rfl rfl) (MsgT.len (MsgT.mk a1 0 RowT.zero 0 a2 a3 a4 a5 ViewT.zero)) (fun _ s => sep_keep [0] rfl s) ?_
                exact ⟨((MsgT.mk a1 0 RowT.zero 0 a2 a3 a4 a5 ViewT.zero), true), _, _, rfl, rfl, by simp [readMsgP, kRow, kAsk, pr, pb_some hp1, pb_some hp2, pb_some hp3, pb_some hp4, pb_some hp5, h10, h10, h13, h25, h29, h31, h39, MsgT.zero, RecT.zero, *], (ht1.trans (ht2.trans (ht3.trans (ht4.trans ht5))))⟩
              · skip
                refine TL.v (Want.plain rfl) rfl rfl (PV.assign rfl rfl) ?_
                refine TL.nil ?_
                refine TE.next hK25 ?_
                clear hK25
                refine TC.no rfl ?_
                refine TC.seq (fun K30 hK30 => ?_)
                refine TC.region ?_
                refine TL.v (Want.plain rfl) rfl rfl (PV.eql rfl rfl rfl) ?_
                refine TL.dec (fun h53 => ?_) (fun h53 => ?_)
                · skip
                  refine TL.v (Want.plain rfl) rfl rfl (PV.assign rfl rfl) ?_
                  refine TL.nil ?_
                  refine TE.next hK30 ?_
                  clear hK30
                  refine TC.yes rfl ?_
                  refine TC.seq (fun K31 hK31 => ?_)
                  refine TC.region ?_
                  refine TL.v (Want.plain rfl) rfl rfl (PV.move rfl rfl) ?_
                  refine TL.callP (A := [blkA rb [v1] 99]) (B := [blkA b4 (ints (MsgT.mk a1 0 RowT.zero 0 0 BallotT.zero BallotT.zero ChangeT.zero ViewT.zero).flat) 44, blkA b2 (ints MsgT.zero.flat) 44]) (Want.plain rfl) rfl rfl rfl nm49 rfl (num_does rb v1 r1 ) (fun _ s => sep_selR [1] rfl s) (fun _ d _ => (hf1).more d) (fun cP HP hP => ?_) (fun vR HR hR => ?_)
                  · skip
                    obtain ⟨vP, rfl, rfl, hpP⟩ := hP
                    change TE _ _ _ _ _ _ _ [blkA rb [vP] 99, blkA b4 (ints (MsgT.mk a1 0 RowT.zero 0 0 BallotT.zero BallotT.zero ChangeT.zero ViewT.zero).flat) 44, blkA b2 (ints MsgT.zero.flat) 44]
                    refine TE.passPanic ?_
                    clear hK31
                    refine TE.blockPanic ?_
                    refine TE.passPanic ?_
                    clear hK3
                    refine TE.weak (Sub.refl _) (fun _ s => sep_keep [0] rfl s) ?_
                    refine TE.panicked ?_
                    exact ⟨_, rfl, rfl, by simp [readMsgP, kRow, kAsk, pb_some hp1, pb_none hpP, h10, h10, h13, h25, h29, h31, h39, h53, *]⟩
                  obtain ⟨a2, r2, v2, rfl, rfl, hp2, ht2⟩ := hR
                  change TL _ _ _ _ _ _ _ _ _ [blkA rb [v2] 99, blkA b4 (ints (MsgT.mk a1 0 RowT.zero 0 0 BallotT.zero BallotT.zero ChangeT.zero ViewT.zero).flat) 44, blkA b2 (ints MsgT.zero.flat) 44]
                  have hf2 := ht2 _ hf1
                  refine TL.v (Want.plain rfl) rfl rfl (PV.fieldAddr (r := 177) rfl Try.underlying44 rfl sz3 rfl rfl) ?_
                  refine TL.store1 (i := 1) (H' := [blkA rb [v2] 99, blkA b4 (ints (MsgT.mk a1 0 RowT.zero 0 a2 BallotT.zero BallotT.zero ChangeT.zero ViewT.zero).flat) 44, blkA b2 (ints MsgT.zero.flat) 44]) (Want.plain rfl) rfl rfl rfl rfl rfl sz3 rfl rfl (by have h0 := (MsgT.len (MsgT.mk a1 0 RowT.zero 0 0 BallotT.zero BallotT.zero ChangeT.zero ViewT.zero)); omega) (MsgT.set_epoch (MsgT.mk a1 0 RowT.zero 0 0 BallotT.zero BallotT.zero ChangeT.zero ViewT.zero) rfl _) rfl ?_
                  refine TL.nil ?_
                  refine TE.next hK31 ?_
                  clear hK31
                  refine TC.seq (fun K32 hK32 => ?_)
                  refine TC.region ?_
                  refine TL.v (Want.plain rfl) rfl rfl (PV.move rfl rfl) ?_
                  refine TL.callP (A := [blkA rb [v2] 99]) (B := [blkA b4 (ints (MsgT.mk a1 0 RowT.zero 0 a2 BallotT.zero BallotT.zero ChangeT.zero ViewT.zero).flat) 44, blkA b2 (ints MsgT.zero.flat) 44]) (Want.plain rfl) rfl rfl rfl nm50 rfl (rballot_does rb v2 r2 ) (fun _ s => s) (fun _ d _ => (hf2).more d) (fun cP HP hP => ?_) (fun vR HR hR => ?_)
                  · skip
                    obtain ⟨vP, rfl, rfl, hpP⟩ := hP
                    change TE _ _ _ _ _ _ _ [blkA rb [vP] 99, blkA b4 (ints (MsgT.mk a1 0 RowT.zero 0 a2 BallotT.zero BallotT.zero ChangeT.zero ViewT.zero).flat) 44, blkA b2 (ints MsgT.zero.flat) 44]
                    refine TE.passPanic ?_
                    clear hK32
                    refine TE.blockPanic ?_
                    refine TE.passPanic ?_
                    clear hK3
                    refine TE.weak (Sub.refl _) (fun _ s => sep_keep [0] rfl s) ?_
                    refine TE.panicked ?_
                    exact ⟨_, rfl, rfl, by simp [readMsgP, kRow, kAsk, pb_some hp1, pb_some hp2, pb_none hpP, h10, h10, h13, h25, h29, h31, h39, h53, *]⟩
                  obtain ⟨a3, r3, v3, rfl, rfl, hp3, ht3⟩ := hR
                  change TL _ _ _ _ _ _ _ _ _ [blkA rb [v3] 99, blkA b4 (ints (MsgT.mk a1 0 RowT.zero 0 a2 BallotT.zero BallotT.zero ChangeT.zero ViewT.zero).flat) 44, blkA b2 (ints MsgT.zero.flat) 44]
                  have hf3 := ht3 _ hf2
                  refine TL.v (Want.plain rfl) rfl rfl (PV.fieldAddr (r := 178) rfl Try.underlying44 rfl sz40 rfl rfl) ?_
                  refine TL.store (vs := ints a3.flat) (i := 1) (H' := [blkA rb [v3] 99, blkA b4 (ints (MsgT.mk a1 0 RowT.zero 0 a2 a3 BallotT.zero ChangeT.zero ViewT.zero).flat) 44, blkA b2 (ints MsgT.zero.flat) 44]) (Want.plain rfl) rfl rfl rfl rfl rfl (by rw [(BallotT.len a3)]; exact sz40) (ints_one _) rfl rfl (by have h0 := (MsgT.len (MsgT.mk a1 0 RowT.zero 0 a2 BallotT.zero BallotT.zero ChangeT.zero ViewT.zero)); have h1 := (BallotT.len a3); omega) (MsgT.wr_ballot_ (MsgT.mk a1 0 RowT.zero 0 a2 BallotT.zero BallotT.zero ChangeT.zero ViewT.zero) 0 rfl (by have h1 := (BallotT.len a3); omega) (wwhole ((BallotT.len BallotT.zero).trans (BallotT.len a3).symm))) rfl ?_
                  refine TL.nil ?_
                  refine TE.next hK32 ?_
                  clear hK32
                  refine TC.region ?_
                  refine TL.v (Want.plain rfl) rfl rfl (PV.move rfl rfl) ?_
                  refine TL.callP (A := [blkA rb [v3] 99]) (B := [blkA b4 (ints (MsgT.mk a1 0 RowT.zero 0 a2 a3 BallotT.zero ChangeT.zero ViewT.zero).flat) 44, blkA b2 (ints MsgT.zero.flat) 44]) (Want.plain rfl) rfl rfl rfl nm51 rfl (rchange_does rb v3 r3 ) (fun _ s => s) (fun _ d _ => (hf3).more d) (fun cP HP hP => ?_) (fun vR HR hR => ?_)
                  · skip
                    obtain ⟨vP, rfl, rfl, hpP⟩ := hP
                    change TE _ _ _ _ _ _ _ [blkA rb [vP] 99, blkA b4 (ints (MsgT.mk a1 0 RowT.zero 0 a2 a3 BallotT.zero ChangeT.zero ViewT.zero).flat) 44, blkA b2 (ints MsgT.zero.flat) 44]
                    refine TE.blockPanic ?_
                    refine TE.passPanic ?_
                    clear hK3
                    refine TE.weak (Sub.refl _) (fun _ s => sep_keep [0] rfl s) ?_
                    refine TE.panicked ?_
                    exact ⟨_, rfl, rfl, by simp [readMsgP, kRow, kAsk, pb_some hp1, pb_some hp2, pb_some hp3, pb_none hpP, h10, h10, h13, h25, h29, h31, h39, h53, *]⟩
                  obtain ⟨a4, r4, v4, rfl, rfl, hp4, ht4⟩ := hR
                  change TL _ _ _ _ _ _ _ _ _ [blkA rb [v4] 99, blkA b4 (ints (MsgT.mk a1 0 RowT.zero 0 a2 a3 BallotT.zero ChangeT.zero ViewT.zero).flat) 44, blkA b2 (ints MsgT.zero.flat) 44]
                  have hf4 := ht4 _ hf3
                  refine TL.v (Want.plain rfl) rfl rfl (PV.fieldAddr (r := 182) rfl Try.underlying44 rfl sz42 rfl rfl) ?_
                  refine TL.store (vs := ints a4.flat) (i := 1) (H' := [blkA rb [v4] 99, blkA b4 (ints (MsgT.mk a1 0 RowT.zero 0 a2 a3 BallotT.zero a4 ViewT.zero).flat) 44, blkA b2 (ints MsgT.zero.flat) 44]) (Want.plain rfl) rfl rfl rfl rfl rfl (by rw [(ChangeT.len a4)]; exact sz42) (ints_one _) rfl rfl (by have h0 := (MsgT.len (MsgT.mk a1 0 RowT.zero 0 a2 a3 BallotT.zero ChangeT.zero ViewT.zero)); have h1 := (ChangeT.len a4); omega) (MsgT.wr_change_ (MsgT.mk a1 0 RowT.zero 0 a2 a3 BallotT.zero ChangeT.zero ViewT.zero) 0 rfl (by have h1 := (ChangeT.len a4); omega) (wwhole ((ChangeT.len ChangeT.zero).trans (ChangeT.len a4).symm))) rfl ?_
                  refine TL.nil ?_
                  refine TE.blockEnd ?_
                  refine TE.next hK3 ?_
                  clear hK3
                  refine TC.seq (fun K33 hK33 => ?_)
                  refine TC.region ?_
                  refine TL.v (Want.plain rfl) rfl rfl (PV.loadN (vs := ints (MsgT.mk a1 0 RowT.zero 0 a2 a3 BallotT.zero a4 ViewT.zero).flat) rfl Try.underlying44 rfl sz44 rfl (Rd.own 1 rfl rfl) (MsgT.len (MsgT.mk a1 0 RowT.zero 0 a2 a3 BallotT.zero a4 ViewT.zero)) (whole (MsgT.len (MsgT.mk a1 0 RowT.zero 0 a2 a3 BallotT.zero a4 ViewT.zero)))) ?_
                  refine TL.store (vs := ints (MsgT.mk a1 0 RowT.zero 0 a2 a3 BallotT.zero a4 ViewT.zero).flat) (i := 2) (H' := [blkA rb [v4] 99, blkA b4 (ints (MsgT.mk a1 0 RowT.zero 0 a2 a3 BallotT.zero a4 ViewT.zero).flat) 44, blkA b2 (ints (MsgT.mk a1 0 RowT.zero 0 a2 a3 BallotT.zero a4 ViewT.zero).flat) 44]) (Want.plain rfl) rfl rfl rfl rfl rfl (by rw [(MsgT.len (MsgT.mk a1 0 RowT.zero 0 a2 a3 BallotT.zero a4 ViewT.zero))]; exact sz44) (ints_one _) rfl rfl (by have h0 := (MsgT.len MsgT.zero); have h1 := (MsgT.len (MsgT.mk a1 0 RowT.zero 0 a2 a3 BallotT.zero a4 ViewT.zero)); omega) (wwhole ((MsgT.len MsgT.zero).trans (MsgT.len (MsgT.mk a1 0 RowT.zero 0 a2 a3 BallotT.zero a4 ViewT.zero)).symm)) rfl ?_
                  refine TL.v (Want.plain rfl) rfl rfl (PV.assign rfl rfl) ?_
                  refine TL.nil ?_
                  refine TE.next hK33 ?_
                  clear hK33
                  refine TC.ret ?_
                  refine TE.retCT (H' := [blkA rb [v4] 99]) rfl rfl rfl Try.underlying44 rfl sz44 (Rd.own 2 rfl rfl) (MsgT.len (MsgT.mk a1 0 RowT.zero 0 a2 a3 BallotT.zero a4 ViewT.zero)) (fun _ s => sep_keep [0] rfl s) ?_
                  exact ⟨((MsgT.mk a1 0 RowT.zero 0 a2 a3 BallotT.zero a4 ViewT.zero), true), _, _, rfl, rfl, by simp [readMsgP, kRow, kAsk, pr, pb_some hp1, pb_some hp2, pb_some hp3, pb_some hp4, h10, h10, h13, h25, h29, h31, h39, h53, MsgT.zero, RecT.zero, *], (ht1.trans (ht2.trans (ht3.trans ht4)))⟩
                · skip
                  refine TL.v (Want.plain rfl) rfl rfl (PV.assign rfl rfl) ?_
                  refine TL.nil ?_
                  refine TE.next hK30 ?_
                  clear hK30
                  refine TC.no rfl ?_
                  refine TC.seq (fun K34 hK34 => ?_)
                  refine TC.region ?_
                  refine TL.v (Want.plain rfl) rfl rfl (PV.eql rfl rfl rfl) ?_
                  refine TL.dec (fun h64 => ?_) (fun h64 => ?_)
                  · skip
                    refine TL.v (Want.plain rfl) rfl rfl (PV.assign rfl rfl) ?_
                    refine TL.nil ?_
                    refine TE.next hK34 ?_
                    clear hK34
                    refine TC.yes rfl ?_
                    refine TC.seq (fun K35 hK35 => ?_)
                    refine TC.region ?_
                    refine TL.v (Want.plain rfl) rfl rfl (PV.move rfl rfl) ?_
                    refine TL.callP (A := [blkA rb [v1] 99]) (B := [blkA b4 (ints (MsgT.mk a1 0 RowT.zero 0 0 BallotT.zero BallotT.zero ChangeT.zero ViewT.zero).flat) 44, blkA b2 (ints MsgT.zero.flat) 44]) (Want.plain rfl) rfl rfl rfl nm52 rfl (rview_does rb v1 r1 ) (fun _ s => sep_selR [1] rfl s) (fun _ d _ => (hf1).more d) (fun cP HP hP => ?_) (fun vR HR hR => ?_)
                    · skip
                      obtain ⟨vP, rfl, rfl, hpP⟩ := hP
                      change TE _ _ _ _ _ _ _ [blkA rb [vP] 99, blkA b4 (ints (MsgT.mk a1 0 RowT.zero 0 0 BallotT.zero BallotT.zero ChangeT.zero ViewT.zero).flat) 44, blkA b2 (ints MsgT.zero.flat) 44]
                      refine TE.passPanic ?_
                      clear hK35
                      refine TE.blockPanic ?_
                      refine TE.passPanic ?_
                      clear hK3
                      refine TE.weak (Sub.refl _) (fun _ s => sep_keep [0] rfl s) ?_
                      refine TE.panicked ?_
                      exact ⟨_, rfl, rfl, by simp [readMsgP, kRow, kAsk, pb_some hp1, pb_none hpP, h10, h10, h13, h25, h29, h31, h39, h53, h64, *]⟩
                    obtain ⟨a2, r2, v2, rfl, rfl, hp2, ht2⟩ := hR
                    change TL _ _ _ _ _ _ _ _ _ [blkA rb [v2] 99, blkA b4 (ints (MsgT.mk a1 0 RowT.zero 0 0 BallotT.zero BallotT.zero ChangeT.zero ViewT.zero).flat) 44, blkA b2 (ints MsgT.zero.flat) 44]
                    have hf2 := ht2 _ hf1
                    refine TL.v (Want.plain rfl) rfl rfl (PV.fieldAddr (r := 185) rfl Try.underlying44 rfl sz25 rfl rfl) ?_
                    refine TL.store (vs := ints a2.flat) (i := 1) (H' := [blkA rb [v2] 99, blkA b4 (ints (MsgT.mk a1 0 RowT.zero 0 0 BallotT.zero BallotT.zero ChangeT.zero a2).flat) 44, blkA b2 (ints MsgT.zero.flat) 44]) (Want.plain rfl) rfl rfl rfl rfl rfl (by rw [(ViewT.len a2)]; exact sz25) (ints_one _) rfl rfl (by have h0 := (MsgT.len (MsgT.mk a1 0 RowT.zero 0 0 BallotT.zero BallotT.zero ChangeT.zero ViewT.zero)); have h1 := (ViewT.len a2); omega) (MsgT.wr_view_ (MsgT.mk a1 0 RowT.zero 0 0 BallotT.zero BallotT.zero ChangeT.zero ViewT.zero) 0 rfl (by have h1 := (ViewT.len a2); omega) (wwhole ((ViewT.len ViewT.zero).trans (ViewT.len a2).symm))) rfl ?_
                    refine TL.nil ?_
                    refine TE.next hK35 ?_
                    clear hK35
                    refine TC.seq (fun K36 hK36 => ?_)
                    refine TC.draw (fun w => Frm F w ∧ w.heap[b4]? = some (.cells (ints (MsgT.mk a1 0 RowT.zero 0 0 BallotT.zero BallotT.zero ChangeT.zero a2).flat).toArray 44 (0, 0)) ∧ True) mixed rfl (fun _ s => ⟨Frm.of s, s.block 1 (lb rfl) rfl, trivial⟩) ?_
                    refine TD.take (i := 0) rfl (by kernel_rfl) (by kernel_rfl) (by kernel_rfl) (fun _ _ _ _ h => h) (Want.plain rfl) rfl rfl (PV.loadN (vs := ints (MsgT.mk a1 0 RowT.zero 0 0 BallotT.zero BallotT.zero ChangeT.zero a2).flat) rfl Try.underlying44 rfl sz44 rfl (fun _ h => h.2.1) (MsgT.len (MsgT.mk a1 0 RowT.zero 0 0 BallotT.zero BallotT.zero ChangeT.zero a2)) (whole (MsgT.len (MsgT.mk a1 0 RowT.zero 0 0 BallotT.zero BallotT.zero ChangeT.zero a2)))) ?_
                    refine TD.take (i := 1) rfl (by kernel_rfl) (by kernel_rfl) (by kernel_rfl) (fun _ _ _ _ h => h) (Want.plain rfl) rfl rfl (PV.fieldAddr (r := 185) rfl Try.underlying44 rfl sz25 rfl rfl) ?_
                    refine TD.take (i := 2) rfl (by kernel_rfl) (by kernel_rfl) (by kernel_rfl) (fun _ _ _ _ h => h) (Want.plain rfl) rfl rfl (PV.loadN (vs := ints a2.flat) rfl Try.underlying25 rfl sz25 rfl (fun _ h => h.2.1) (ViewT.len a2) (MsgT.sub_view (MsgT.mk a1 0 RowT.zero 0 0 BallotT.zero BallotT.zero ChangeT.zero a2) 0 rfl (by decide) (whole (ViewT.len a2)))) ?_
                    refine TD.all [3] (by kernel_rfl) rfl ?_
                    refine AllT.cons rfl ?_ ?_
                    · skip
                      refine TL.callR (A := []) (B := [blkA rb [v2] 99, blkA b4 (ints (MsgT.mk a1 0 RowT.zero 0 0 BallotT.zero BallotT.zero ChangeT.zero a2).flat) 44, blkA b2 (ints MsgT.zero.flat) 44]) (Want.plain rfl) rfl rfl rfl nm16 rfl (viewRight_does a2 (view_rng hp2)) (fun _ s => s) (fun _ _ _ => trivial) (fun vR HR hR => ?_)
                      obtain ⟨rfl, rfl⟩ := hR
                      change TL _ _ _ _ _ _ _ _ _ [blkA rb [v2] 99, blkA b4 (ints (MsgT.mk a1 0 RowT.zero 0 0 BallotT.zero BallotT.zero ChangeT.zero a2).flat) 44, blkA b2 (ints MsgT.zero.flat) 44]
                      refine TL.nil ?_
                      refine TE.draw (fun _ s => ⟨Frm.of s, s.block 1 (lb rfl) rfl, trivial⟩) ?_
                      refine TD.all [4] (by kernel_rfl) rfl ?_
                      refine AllT.cons rfl ?_ ?_
                      · skip
                        refine TL.store (vs := ints (MsgT.mk a1 0 RowT.zero 0 0 BallotT.zero BallotT.zero ChangeT.zero a2).flat) (i := 2) (H' := [blkA rb [v2] 99, blkA b4 (ints (MsgT.mk a1 0 RowT.zero 0 0 BallotT.zero BallotT.zero ChangeT.zero a2).flat) 44, blkA b2 (ints (MsgT.mk a1 0 RowT.zero 0 0 BallotT.zero BallotT.zero ChangeT.zero a2).flat) 44]) (Want.plain rfl) rfl rfl rfl rfl rfl (by rw [(MsgT.len (MsgT.mk a1 0 RowT.zero 0 0 BallotT.zero BallotT.zero ChangeT.zero a2))]; exact sz44) (ints_one _) rfl rfl (by have h0 := (MsgT.len MsgT.zero); have h1 := (MsgT.len (MsgT.mk a1 0 RowT.zero 0 0 BallotT.zero BallotT.zero ChangeT.zero a2)); omega) (wwhole ((MsgT.len MsgT.zero).trans (MsgT.len (MsgT.mk a1 0 RowT.zero 0 0 BallotT.zero BallotT.zero ChangeT.zero a2)).symm)) rfl ?_
                        refine TL.nil ?_
                        refine TE.draw (fun _ s => ⟨Frm.of s, s.block 1 (lb rfl) rfl, trivial⟩) ?_
                        refine TD.take (i := 5) rfl (by kernel_rfl) (by kernel_rfl) (by kernel_rfl) (fun _ _ _ _ h => h) (Want.plain rfl) rfl rfl (PV.assign rfl rfl) ?_
                        refine TD.done (by kernel_rfl) ?_
                        refine TE.next hK36 ?_
                        clear hK36
                        refine TC.ret ?_
                        refine TE.blockRet ?_
                        refine TE.passRet ?_
                        clear hK3
                        refine TE.retCT (H' := [blkA rb [v2] 99]) rfl rfl rfl Try.underlying44 rfl sz44 (Rd.own 2 rfl rfl) (MsgT.len (MsgT.mk a1 0 RowT.zero 0 0 BallotT.zero BallotT.zero ChangeT.zero a2)) (fun _ s => sep_keep [0] rfl s) ?_
                        exact ⟨((MsgT.mk a1 0 RowT.zero 0 0 BallotT.zero BallotT.zero ChangeT.zero a2), (rightV a2)), _, _, rfl, rfl, by simp [readMsgP, kRow, kAsk, pr, pb_some hp1, pb_some hp2, h10, h10, h13, h25, h29, h31, h39, h53, h64, MsgT.zero, RecT.zero, *], (ht1.trans ht2)⟩
                      exact AllT.nil
                    exact AllT.nil
                  · skip
                    refine TL.v (Want.plain rfl) rfl rfl (PV.assign rfl rfl) ?_
                    refine TL.nil ?_
                    refine TE.next hK34 ?_
                    clear hK34
                    refine TC.no rfl ?_
                    refine TC.seq (fun K37 hK37 => ?_)
                    refine TC.region ?_
                    refine TL.v (Want.plain rfl) rfl rfl (PV.eql rfl rfl rfl) ?_
                    refine TL.dec (fun h73 => ?_) (fun h73 => ?_)
                    · skip
                      refine TL.v (Want.plain rfl) rfl rfl (PV.assign rfl rfl) ?_
                      refine TL.nil ?_
                      refine TE.next hK37 ?_
                      clear hK37
                      refine TC.yes rfl ?_
                      refine TC.seq (fun K38 hK38 => ?_)
                      refine TC.region ?_
                      refine TL.v (Want.plain rfl) rfl rfl (PV.move rfl rfl) ?_
                      refine TL.callP (A := [blkA rb [v1] 99]) (B := [blkA b4 (ints (MsgT.mk a1 0 RowT.zero 0 0 BallotT.zero BallotT.zero ChangeT.zero ViewT.zero).flat) 44, blkA b2 (ints MsgT.zero.flat) 44]) (Want.plain rfl) rfl rfl rfl nm47 rfl (small_does rb v1 r1 (5)) (fun _ s => sep_selR [1] rfl s) (fun _ d _ => (hf1).more d) (fun cP HP hP => ?_) (fun vR HR hR => ?_)
                      · skip
                        obtain ⟨vP, rfl, rfl, hpP⟩ := hP
                        change TE _ _ _ _ _ _ _ [blkA rb [vP] 99, blkA b4 (ints (MsgT.mk a1 0 RowT.zero 0 0 BallotT.zero BallotT.zero ChangeT.zero ViewT.zero).flat) 44, blkA b2 (ints MsgT.zero.flat) 44]
                        refine TE.passPanic ?_
                        clear hK38
                        refine TE.blockPanic ?_
                        refine TE.passPanic ?_
                        clear hK3
                        refine TE.weak (Sub.refl _) (fun _ s => sep_keep [0] rfl s) ?_
                        refine TE.panicked ?_
                        exact ⟨_, rfl, rfl, by simp [readMsgP, kRow, kAsk, pb_some hp1, pb_none hpP, h10, h10, h13, h25, h29, h31, h39, h53, h64, h73, *]⟩
                      obtain ⟨a2, r2, v2, rfl, rfl, hp2, ht2⟩ := hR
                      change TL _ _ _ _ _ _ _ _ _ [blkA rb [v2] 99, blkA b4 (ints (MsgT.mk a1 0 RowT.zero 0 0 BallotT.zero BallotT.zero ChangeT.zero ViewT.zero).flat) 44, blkA b2 (ints MsgT.zero.flat) 44]
                      have hf2 := ht2 _ hf1
                      refine TL.v (Want.plain rfl) rfl rfl (PV.fieldAddr (r := 1) rfl Try.underlying44 rfl sz3 rfl rfl) ?_
                      refine TL.store1 (i := 1) (H' := [blkA rb [v2] 99, blkA b4 (ints (MsgT.mk a1 a2 RowT.zero 0 0 BallotT.zero BallotT.zero ChangeT.zero ViewT.zero).flat) 44, blkA b2 (ints MsgT.zero.flat) 44]) (Want.plain rfl) rfl rfl rfl rfl rfl sz3 rfl rfl (by have h0 := (MsgT.len (MsgT.mk a1 0 RowT.zero 0 0 BallotT.zero BallotT.zero ChangeT.zero ViewT.zero)); omega) (MsgT.set_whose (MsgT.mk a1 0 RowT.zero 0 0 BallotT.zero BallotT.zero ChangeT.zero ViewT.zero) rfl _) rfl ?_
                      refine TL.nil ?_
                      refine TE.next hK38 ?_
                      clear hK38
                      refine TC.seq (fun K39 hK39 => ?_)
                      refine TC.region ?_
                      refine TL.v (Want.plain rfl) rfl rfl (PV.move rfl rfl) ?_
                      refine TL.callP (A := [blkA rb [v2] 99]) (B := [blkA b4 (ints (MsgT.mk a1 a2 RowT.zero 0 0 BallotT.zero BallotT.zero ChangeT.zero ViewT.zero).flat) 44, blkA b2 (ints MsgT.zero.flat) 44]) (Want.plain rfl) rfl rfl rfl nm52 rfl (rview_does rb v2 r2 ) (fun _ s => s) (fun _ d _ => (hf2).more d) (fun cP HP hP => ?_) (fun vR HR hR => ?_)
                      · skip
                        obtain ⟨vP, rfl, rfl, hpP⟩ := hP
                        change TE _ _ _ _ _ _ _ [blkA rb [vP] 99, blkA b4 (ints (MsgT.mk a1 a2 RowT.zero 0 0 BallotT.zero BallotT.zero ChangeT.zero ViewT.zero).flat) 44, blkA b2 (ints MsgT.zero.flat) 44]
                        refine TE.passPanic ?_
                        clear hK39
                        refine TE.blockPanic ?_
                        refine TE.passPanic ?_
                        clear hK3
                        refine TE.weak (Sub.refl _) (fun _ s => sep_keep [0] rfl s) ?_
                        refine TE.panicked ?_
                        exact ⟨_, rfl, rfl, by simp [readMsgP, kRow, kAsk, pb_some hp1, pb_some hp2, pb_none hpP, h10, h10, h13, h25, h29, h31, h39, h53, h64, h73, *]⟩
                      obtain ⟨a3, r3, v3, rfl, rfl, hp3, ht3⟩ := hR
                      change TL _ _ _ _ _ _ _ _ _ [blkA rb [v3] 99, blkA b4 (ints (MsgT.mk a1 a2 RowT.zero 0 0 BallotT.zero BallotT.zero ChangeT.zero ViewT.zero).flat) 44, blkA b2 (ints MsgT.zero.flat) 44]
                      have hf3 := ht3 _ hf2
                      refine TL.v (Want.plain rfl) rfl rfl (PV.fieldAddr (r := 185) rfl Try.underlying44 rfl sz25 rfl rfl) ?_
                      refine TL.store (vs := ints a3.flat) (i := 1) (H' := [blkA rb [v3] 99, blkA b4 (ints (MsgT.mk a1 a2 RowT.zero 0 0 BallotT.zero BallotT.zero ChangeT.zero a3).flat) 44, blkA b2 (ints MsgT.zero.flat) 44]) (Want.plain rfl) rfl rfl rfl rfl rfl (by rw [(ViewT.len a3)]; exact sz25) (ints_one _) rfl rfl (by have h0 := (MsgT.len (MsgT.mk a1 a2 RowT.zero 0 0 BallotT.zero BallotT.zero ChangeT.zero ViewT.zero)); have h1 := (ViewT.len a3); omega) (MsgT.wr_view_ (MsgT.mk a1 a2 RowT.zero 0 0 BallotT.zero BallotT.zero ChangeT.zero ViewT.zero) 0 rfl (by have h1 := (ViewT.len a3); omega) (wwhole ((ViewT.len ViewT.zero).trans (ViewT.len a3).symm))) rfl ?_
                      refine TL.nil ?_
                      refine TE.next hK39 ?_
                      clear hK39
                      refine TC.seq (fun K40 hK40 => ?_)
                      refine TC.draw (fun w => Frm F w ∧ w.heap[b4]? = some (.cells (ints (MsgT.mk a1 a2 RowT.zero 0 0 BallotT.zero BallotT.zero ChangeT.zero a3).flat).toArray 44 (0, 0)) ∧ True) mixed rfl (fun _ s => ⟨Frm.of s, s.block 1 (lb rfl) rfl, trivial⟩) ?_
                      refine TD.take (i := 0) rfl (by kernel_rfl) (by kernel_rfl) (by kernel_rfl) (fun _ _ _ _ h => h) (Want.plain rfl) rfl rfl (PV.loadN (vs := ints (MsgT.mk a1 a2 RowT.zero 0 0 BallotT.zero BallotT.zero ChangeT.zero a3).flat) rfl Try.underlying44 rfl sz44 rfl (fun _ h => h.2.1) (MsgT.len (MsgT.mk a1 a2 RowT.zero 0 0 BallotT.zero BallotT.zero ChangeT.zero a3)) (whole (MsgT.len (MsgT.mk a1 a2 RowT.zero 0 0 BallotT.zero BallotT.zero ChangeT.zero a3)))) ?_
                      refine TD.take (i := 1) rfl (by kernel_rfl) (by kernel_rfl) (by kernel_rfl) (fun _ _ _ _ h => h) (Want.plain rfl) rfl rfl (PV.fieldAddr (r := 185) rfl Try.underlying44 rfl sz25 rfl rfl) ?_
                      refine TD.take (i := 2) rfl (by kernel_rfl) (by kernel_rfl) (by kernel_rfl) (fun _ _ _ _ h => h) (Want.plain rfl) rfl rfl (PV.loadN (vs := ints a3.flat) rfl Try.underlying25 rfl sz25 rfl (fun _ h => h.2.1) (ViewT.len a3) (MsgT.sub_view (MsgT.mk a1 a2 RowT.zero 0 0 BallotT.zero BallotT.zero ChangeT.zero a3) 0 rfl (by decide) (whole (ViewT.len a3)))) ?_
                      refine TD.all [3] (by kernel_rfl) rfl ?_
                      refine AllT.cons rfl ?_ ?_
                      · skip
                        refine TL.callR (A := []) (B := [blkA rb [v3] 99, blkA b4 (ints (MsgT.mk a1 a2 RowT.zero 0 0 BallotT.zero BallotT.zero ChangeT.zero a3).flat) 44, blkA b2 (ints MsgT.zero.flat) 44]) (Want.plain rfl) rfl rfl rfl nm16 rfl (viewRight_does a3 (view_rng hp3)) (fun _ s => s) (fun _ _ _ => trivial) (fun vR HR hR => ?_)
                        obtain ⟨rfl, rfl⟩ := hR
                        change TL _ _ _ _ _ _ _ _ _ [blkA rb [v3] 99, blkA b4 (ints (MsgT.mk a1 a2 RowT.zero 0 0 BallotT.zero BallotT.zero ChangeT.zero a3).flat) 44, blkA b2 (ints MsgT.zero.flat) 44]
                        refine TL.nil ?_
                        refine TE.draw (fun _ s => ⟨Frm.of s, s.block 1 (lb rfl) rfl, trivial⟩) ?_
                        refine TD.all [4] (by kernel_rfl) rfl ?_
                        refine AllT.cons rfl ?_ ?_
                        · skip
                          refine TL.store (vs := ints (MsgT.mk a1 a2 RowT.zero 0 0 BallotT.zero BallotT.zero ChangeT.zero a3).flat) (i := 2) (H' := [blkA rb [v3] 99, blkA b4 (ints (MsgT.mk a1 a2 RowT.zero 0 0 BallotT.zero BallotT.zero ChangeT.zero a3).flat) 44, blkA b2 (ints (MsgT.mk a1 a2 RowT.zero 0 0 BallotT.zero BallotT.zero ChangeT.zero a3).flat) 44]) (Want.plain rfl) rfl rfl rfl rfl rfl (by rw [(MsgT.len (MsgT.mk a1 a2 RowT.zero 0 0 BallotT.zero BallotT.zero ChangeT.zero a3))]; exact sz44) (ints_one _) rfl rfl (by have h0 := (MsgT.len MsgT.zero); have h1 := (MsgT.len (MsgT.mk a1 a2 RowT.zero 0 0 BallotT.zero BallotT.zero ChangeT.zero a3)); omega) (wwhole ((MsgT.len MsgT.zero).trans (MsgT.len (MsgT.mk a1 a2 RowT.zero 0 0 BallotT.zero BallotT.zero ChangeT.zero a3)).symm)) rfl ?_
                          refine TL.nil ?_
                          refine TE.draw (fun _ s => ⟨Frm.of s, s.block 1 (lb rfl) rfl, trivial⟩) ?_
                          refine TD.take (i := 5) rfl (by kernel_rfl) (by kernel_rfl) (by kernel_rfl) (fun _ _ _ _ h => h) (Want.plain rfl) rfl rfl (PV.assign rfl rfl) ?_
                          refine TD.done (by kernel_rfl) ?_
                          refine TE.next hK40 ?_
                          clear hK40
                          refine TC.ret ?_
                          refine TE.blockRet ?_
                          refine TE.passRet ?_
                          clear hK3
                          refine TE.retCT (H' := [blkA rb [v3] 99]) rfl rfl rfl Try.underlying44 rfl sz44 (Rd.own 2 rfl rfl) (MsgT.len (MsgT.mk a1 a2 RowT.zero 0 0 BallotT.zero BallotT.zero ChangeT.zero a3)) (fun _ s => sep_keep [0] rfl s) ?_
                          exact ⟨((MsgT.mk a1 a2 RowT.zero 0 0 BallotT.zero BallotT.zero ChangeT.zero a3), (rightV a3)), _, _, rfl, rfl, by simp [readMsgP, kRow, kAsk, pr, pb_some hp1, pb_some hp2, pb_some hp3, h10, h10, h13, h25, h29, h31, h39, h53, h64, h73, MsgT.zero, RecT.zero, *], (ht1.trans (ht2.trans ht3))⟩
                        exact AllT.nil
                      exact AllT.nil
                    · skip
                      refine TL.v (Want.plain rfl) rfl rfl (PV.assign rfl rfl) ?_
                      refine TL.nil ?_
                      refine TE.next hK37 ?_
                      clear hK37
                      refine TC.no rfl ?_
                      refine TC.skip ?_
                      refine TE.blockEnd ?_
                      refine TE.next hK3 ?_
                      clear hK3
                      refine TC.seq (fun K41 hK41 => ?_)
                      refine TC.region ?_
                      refine TL.v (Want.plain rfl) rfl rfl (PV.loadN (vs := ints (MsgT.mk a1 0 RowT.zero 0 0 BallotT.zero BallotT.zero ChangeT.zero ViewT.zero).flat) rfl Try.underlying44 rfl sz44 rfl (Rd.own 0 rfl rfl) (MsgT.len (MsgT.mk a1 0 RowT.zero 0 0 BallotT.zero BallotT.zero ChangeT.zero ViewT.zero)) (whole (MsgT.len (MsgT.mk a1 0 RowT.zero 0 0 BallotT.zero BallotT.zero ChangeT.zero ViewT.zero)))) ?_
                      refine TL.store (vs := ints (MsgT.mk a1 0 RowT.zero 0 0 BallotT.zero BallotT.zero ChangeT.zero ViewT.zero).flat) (i := 2) (H' := [blkA b4 (ints (MsgT.mk a1 0 RowT.zero 0 0 BallotT.zero BallotT.zero ChangeT.zero ViewT.zero).flat) 44, blkA rb [v1] 99, blkA b2 (ints (MsgT.mk a1 0 RowT.zero 0 0 BallotT.zero BallotT.zero ChangeT.zero ViewT.zero).flat) 44]) (Want.plain rfl) rfl rfl rfl rfl rfl (by rw [(MsgT.len (MsgT.mk a1 0 RowT.zero 0 0 BallotT.zero BallotT.zero ChangeT.zero ViewT.zero))]; exact sz44) (ints_one _) rfl rfl (by have h0 := (MsgT.len MsgT.zero); have h1 := (MsgT.len (MsgT.mk a1 0 RowT.zero 0 0 BallotT.zero BallotT.zero ChangeT.zero ViewT.zero)); omega) (wwhole ((MsgT.len MsgT.zero).trans (MsgT.len (MsgT.mk a1 0 RowT.zero 0 0 BallotT.zero BallotT.zero ChangeT.zero ViewT.zero)).symm)) rfl ?_
                      refine TL.v (Want.plain rfl) rfl rfl (PV.assign rfl rfl) ?_
                      refine TL.nil ?_
                      refine TE.next hK41 ?_
                      clear hK41
                      refine TC.ret ?_
                      refine TE.retCT (H' := [blkA rb [v1] 99]) rfl rfl rfl Try.underlying44 rfl sz44 (Rd.own 2 rfl rfl) (MsgT.len (MsgT.mk a1 0 RowT.zero 0 0 BallotT.zero BallotT.zero ChangeT.zero ViewT.zero)) (fun _ s => sep_keep [1] rfl s) ?_
                      exact ⟨((MsgT.mk a1 0 RowT.zero 0 0 BallotT.zero BallotT.zero ChangeT.zero ViewT.zero), true), _, _, rfl, rfl, by simp [readMsgP, kRow, kAsk, pr, pb_some hp1, h10, h10, h13, h25, h29, h31, h39, h53, h64, h73, MsgT.zero, RecT.zero, *], ht1⟩


theorem readRec_does (rb : Nat) (v : Value) (bs : List UInt8) :
    Does Try.prog 40 #[(.pointer (some ⟨rb, 0, none⟩))] (IsB v bs) [blkA rb [v] 99] (RdPost 99 giveUp (fun mb : RecT × Bool => .tuple #[.agg (ints mb.1.flat).toArray, .bool mb.2]) readRecP v bs rb) := by
  refine Does.body (vs := [(.pointer (some ⟨rb, 0, none⟩))]) (n := 65) Try.func40 rfl rfl rfl (fun w0 F hF => ?_)
  refine TC.seq (fun K1 hK1 => ?_)
  refine TC.region ?_
  refine TL.alloc (Want.plain rfl) rfl rfl rfl z58 (fun b2 => ?_)
  change TL _ _ _ _ _ _ _ _ _ [blkA b2 (ints RecT.zero.flat) 58, blkA rb [v] 99]
  refine TL.v (Want.plain rfl) rfl rfl (PV.assign rfl rfl) ?_
  refine TL.nil ?_
  refine TE.next hK1 ?_
  clear hK1
  refine TC.seq (fun K2 hK2 => ?_)
  refine TC.region ?_
  refine TL.v (Want.plain rfl) rfl rfl (PV.move rfl rfl) ?_
  refine TL.callP (A := [blkA rb [v] 99]) (B := [blkA b2 (ints RecT.zero.flat) 58]) (Want.plain rfl) rfl rfl rfl nm47 rfl (small_does rb v bs (6)) (fun _ s => sep_selR [1] rfl s) (fun _ d _ => (hF).more d) (fun cP HP hP => ?_) (fun vR HR hR => ?_)
  · skip
    obtain ⟨vP, rfl, rfl, hpP⟩ := hP
    change TE _ _ _ _ _ _ _ [blkA rb [vP] 99, blkA b2 (ints RecT.zero.flat) 58]
    refine TE.passPanic ?_
    clear hK2
    refine TE.weak (Sub.refl _) (fun _ s => sep_keep [0] rfl s) ?_
    refine TE.panicked ?_
    exact ⟨_, rfl, rfl, by simp [readRecP, kRow, kAsk, pb_none hpP, *]⟩
  obtain ⟨a1, r1, v1, rfl, rfl, hp1, ht1⟩ := hR
  change TL _ _ _ _ _ _ _ _ _ [blkA rb [v1] 99, blkA b2 (ints RecT.zero.flat) 58]
  have hf1 := ht1 _ hF
  refine TL.v (Want.plain rfl) rfl rfl (PV.buildSegs (cs := ints (RecT.mk a1 0 RowT.zero 0 BallotT.zero ChangeT.zero ViewT.zero).flat) (segs := [[Value.int .i64 0], [Value.int .i64 0], ints RowT.zero.flat, [Value.int .i64 0], ints BallotT.zero.flat, ints ChangeT.zero.flat, ints ViewT.zero.flat]) (res := [[Value.int .i64 a1], [Value.int .i64 0], ints RowT.zero.flat, [Value.int .i64 0], ints BallotT.zero.flat, ints ChangeT.zero.flat, ints ViewT.zero.flat]) (parts := [(0, [Value.int .i64 a1])]) rfl rfl Try.underlying58 (by kernel_rfl) (by kernel_rfl) rfl (putSegs_step rfl ((rfl : [Value.int .i64 a1].length = 1).trans (rfl : [Value.int .i64 0].length = 1).symm) putSegs_nil) (RecT.eq (RecT.mk a1 0 RowT.zero 0 BallotT.zero ChangeT.zero ViewT.zero)).symm) ?_
  refine TL.alloc (Want.plain rfl) rfl rfl rfl z58 (fun b4 => ?_)
  change TL _ _ _ _ _ _ _ _ _ [blkA b4 (ints RecT.zero.flat) 58, blkA rb [v1] 99, blkA b2 (ints RecT.zero.flat) 58]
  refine TL.store (vs := ints (RecT.mk a1 0 RowT.zero 0 BallotT.zero ChangeT.zero ViewT.zero).flat) (i := 0) (H' := [blkA b4 (ints (RecT.mk a1 0 RowT.zero 0 BallotT.zero ChangeT.zero ViewT.zero).flat) 58, blkA rb [v1] 99, blkA b2 (ints RecT.zero.flat) 58]) (Want.plain rfl) rfl rfl rfl rfl rfl (by rw [(RecT.len (RecT.mk a1 0 RowT.zero 0 BallotT.zero ChangeT.zero ViewT.zero))]; exact sz58) (ints_one _) rfl rfl (by have h0 := (RecT.len RecT.zero); have h1 := (RecT.len (RecT.mk a1 0 RowT.zero 0 BallotT.zero ChangeT.zero ViewT.zero)); omega) (wwhole ((RecT.len RecT.zero).trans (RecT.len (RecT.mk a1 0 RowT.zero 0 BallotT.zero ChangeT.zero ViewT.zero)).symm)) rfl ?_
  refine TL.nil ?_
  refine TE.next hK2 ?_
  clear hK2
  refine TC.seq (fun K3 hK3 => ?_)
  refine TC.seq (fun K4 hK4 => ?_)
  refine TC.region ?_
  refine TL.v (Want.plain rfl) rfl rfl (PV.fieldAddr (r := 0) rfl Try.underlying58 rfl sz3 rfl rfl) ?_
  refine TL.v (Want.plain rfl) rfl rfl (PV.load1 (v := (.int .i64 (a1))) rfl Try.underlying3 rfl rfl (Rd.own 0 rfl rfl) (RecT.at_kind (RecT.mk a1 0 RowT.zero 0 BallotT.zero ChangeT.zero ViewT.zero) rfl)) ?_
  refine TL.nil ?_
  refine TE.next hK4 ?_
  clear hK4
  refine TC.block ?_
  refine TC.seq (fun K5 hK5 => ?_)
  refine TC.region ?_
  refine TL.v (Want.plain rfl) rfl rfl (PV.eql rfl rfl rfl) ?_
  refine TL.dec (fun h11 => ?_) (fun h11 => ?_)
  · skip
    refine TL.v (Want.plain rfl) rfl rfl (PV.assign rfl rfl) ?_
    refine TL.nil ?_
    refine TE.next hK5 ?_
    clear hK5
    refine TC.yes rfl ?_
    refine TC.seq (fun K6 hK6 => ?_)
    refine TC.region ?_
    refine TL.v (Want.plain rfl) rfl rfl (PV.move rfl rfl) ?_
    refine TL.callP (A := [blkA rb [v1] 99]) (B := [blkA b4 (ints (RecT.mk a1 0 RowT.zero 0 BallotT.zero ChangeT.zero ViewT.zero).flat) 58, blkA b2 (ints RecT.zero.flat) 58]) (Want.plain rfl) rfl rfl rfl nm48 rfl (rrow_does rb v1 r1 ) (fun _ s => sep_selR [1] rfl s) (fun _ d _ => (hf1).more d) (fun cP HP hP => ?_) (fun vR HR hR => ?_)
    · skip
      obtain ⟨vP, rfl, rfl, hpP⟩ := hP
      change TE _ _ _ _ _ _ _ [blkA rb [vP] 99, blkA b4 (ints (RecT.mk a1 0 RowT.zero 0 BallotT.zero ChangeT.zero ViewT.zero).flat) 58, blkA b2 (ints RecT.zero.flat) 58]
      refine TE.passPanic ?_
      clear hK6
      refine TE.blockPanic ?_
      refine TE.passPanic ?_
      clear hK3
      refine TE.weak (Sub.refl _) (fun _ s => sep_keep [0] rfl s) ?_
      refine TE.panicked ?_
      exact ⟨_, rfl, rfl, by simp [readRecP, kRow, kAsk, pb_some hp1, pb_none hpP, h11, *]⟩
    obtain ⟨a2, r2, v2, rfl, rfl, hp2, ht2⟩ := hR
    change TL _ _ _ _ _ _ _ _ _ [blkA rb [v2] 99, blkA b4 (ints (RecT.mk a1 0 RowT.zero 0 BallotT.zero ChangeT.zero ViewT.zero).flat) 58, blkA b2 (ints RecT.zero.flat) 58]
    have hf2 := ht2 _ hf1
    refine TL.v (Want.plain rfl) rfl rfl (PV.fieldAddr (r := 2) rfl Try.underlying58 rfl sz38 rfl rfl) ?_
    refine TL.store (vs := ints a2.flat) (i := 1) (H' := [blkA rb [v2] 99, blkA b4 (ints (RecT.mk a1 0 a2 0 BallotT.zero ChangeT.zero ViewT.zero).flat) 58, blkA b2 (ints RecT.zero.flat) 58]) (Want.plain rfl) rfl rfl rfl rfl rfl (by rw [(RowT.len a2)]; exact sz38) (ints_one _) rfl rfl (by have h0 := (RecT.len (RecT.mk a1 0 RowT.zero 0 BallotT.zero ChangeT.zero ViewT.zero)); have h1 := (RowT.len a2); omega) (RecT.wr_row_ (RecT.mk a1 0 RowT.zero 0 BallotT.zero ChangeT.zero ViewT.zero) 0 rfl (by have h1 := (RowT.len a2); omega) (wwhole ((RowT.len RowT.zero).trans (RowT.len a2).symm))) rfl ?_
    refine TL.nil ?_
    refine TE.next hK6 ?_
    clear hK6
    refine TC.seq (fun K7 hK7 => ?_)
    refine TC.draw (fun w => Frm F w ∧ w.heap[b4]? = some (.cells (ints (RecT.mk a1 0 a2 0 BallotT.zero ChangeT.zero ViewT.zero).flat).toArray 58 (0, 0)) ∧ True) mixed rfl (fun _ s => ⟨Frm.of s, s.block 1 (lb rfl) rfl, trivial⟩) ?_
    refine TD.take (i := 0) rfl (by kernel_rfl) (by kernel_rfl) (by kernel_rfl) (fun _ _ _ _ h => h) (Want.plain rfl) rfl rfl (PV.loadN (vs := ints (RecT.mk a1 0 a2 0 BallotT.zero ChangeT.zero ViewT.zero).flat) rfl Try.underlying58 rfl sz58 rfl (fun _ h => h.2.1) (RecT.len (RecT.mk a1 0 a2 0 BallotT.zero ChangeT.zero ViewT.zero)) (whole (RecT.len (RecT.mk a1 0 a2 0 BallotT.zero ChangeT.zero ViewT.zero)))) ?_
    refine TD.take (i := 1) rfl (by kernel_rfl) (by kernel_rfl) (by kernel_rfl) (fun _ _ _ _ h => h) (Want.plain rfl) rfl rfl (PV.fieldAddr (r := 2) rfl Try.underlying58 rfl sz38 rfl rfl) ?_
    refine TD.take (i := 2) rfl (by kernel_rfl) (by kernel_rfl) (by kernel_rfl) (fun _ _ _ _ h => h) (Want.plain rfl) rfl rfl (PV.loadN (vs := ints a2.flat) rfl Try.underlying38 rfl sz38 rfl (fun _ h => h.2.1) (RowT.len a2) (RecT.sub_row (RecT.mk a1 0 a2 0 BallotT.zero ChangeT.zero ViewT.zero) 0 rfl (by decide) (whole (RowT.len a2)))) ?_
    refine TD.all [3] (by kernel_rfl) rfl ?_
    refine AllT.cons rfl ?_ ?_
    · skip
      refine TL.callR (A := []) (B := [blkA rb [v2] 99, blkA b4 (ints (RecT.mk a1 0 a2 0 BallotT.zero ChangeT.zero ViewT.zero).flat) 58, blkA b2 (ints RecT.zero.flat) 58]) (Want.plain rfl) rfl rfl rfl nm21 rfl (rowRight_does a2 (row_wf hp2)) (fun _ s => s) (fun _ _ _ => trivial) (fun vR HR hR => ?_)
      obtain ⟨rfl, rfl⟩ := hR
      change TL _ _ _ _ _ _ _ _ _ [blkA rb [v2] 99, blkA b4 (ints (RecT.mk a1 0 a2 0 BallotT.zero ChangeT.zero ViewT.zero).flat) 58, blkA b2 (ints RecT.zero.flat) 58]
      refine TL.nil ?_
      refine TE.draw (fun _ s => ⟨Frm.of s, s.block 1 (lb rfl) rfl, trivial⟩) ?_
      refine TD.all [4] (by kernel_rfl) rfl ?_
      refine AllT.cons rfl ?_ ?_
      · skip
        refine TL.store (vs := ints (RecT.mk a1 0 a2 0 BallotT.zero ChangeT.zero ViewT.zero).flat) (i := 2) (H' := [blkA rb [v2] 99, blkA b4 (ints (RecT.mk a1 0 a2 0 BallotT.zero ChangeT.zero ViewT.zero).flat) 58, blkA b2 (ints (RecT.mk a1 0 a2 0 BallotT.zero ChangeT.zero ViewT.zero).flat) 58]) (Want.plain rfl) rfl rfl rfl rfl rfl (by rw [(RecT.len (RecT.mk a1 0 a2 0 BallotT.zero ChangeT.zero ViewT.zero))]; exact sz58) (ints_one _) rfl rfl (by have h0 := (RecT.len RecT.zero); have h1 := (RecT.len (RecT.mk a1 0 a2 0 BallotT.zero ChangeT.zero ViewT.zero)); omega) (wwhole ((RecT.len RecT.zero).trans (RecT.len (RecT.mk a1 0 a2 0 BallotT.zero ChangeT.zero ViewT.zero)).symm)) rfl ?_
        refine TL.nil ?_
        refine TE.draw (fun _ s => ⟨Frm.of s, s.block 1 (lb rfl) rfl, trivial⟩) ?_
        refine TD.take (i := 5) rfl (by kernel_rfl) (by kernel_rfl) (by kernel_rfl) (fun _ _ _ _ h => h) (Want.plain rfl) rfl rfl (PV.assign rfl rfl) ?_
        refine TD.done (by kernel_rfl) ?_
        refine TE.next hK7 ?_
        clear hK7
        refine TC.ret ?_
        refine TE.blockRet ?_
        refine TE.passRet ?_
        clear hK3
        refine TE.retCT (H' := [blkA rb [v2] 99]) rfl rfl rfl Try.underlying58 rfl sz58 (Rd.own 2 rfl rfl) (RecT.len (RecT.mk a1 0 a2 0 BallotT.zero ChangeT.zero ViewT.zero)) (fun _ s => sep_keep [0] rfl s) ?_
        exact ⟨((RecT.mk a1 0 a2 0 BallotT.zero ChangeT.zero ViewT.zero), (rightR a2)), _, _, rfl, rfl, by simp [readRecP, kRow, kAsk, pr, pb_some hp1, pb_some hp2, h11, MsgT.zero, RecT.zero, *], (ht1.trans ht2)⟩
      exact AllT.nil
    exact AllT.nil
  · skip
    refine TL.v (Want.plain rfl) rfl rfl (PV.assign rfl rfl) ?_
    refine TL.nil ?_
    refine TE.next hK5 ?_
    clear hK5
    refine TC.no rfl ?_
    refine TC.seq (fun K8 hK8 => ?_)
    refine TC.region ?_
    refine TL.v (Want.plain rfl) rfl rfl (PV.eql rfl rfl rfl) ?_
    refine TL.dec (fun h20 => ?_) (fun h20 => ?_)
    · skip
      refine TL.v (Want.plain rfl) rfl rfl (PV.assign rfl rfl) ?_
      refine TL.nil ?_
      refine TE.next hK8 ?_
      clear hK8
      refine TC.yes rfl ?_
      refine TC.seq (fun K9 hK9 => ?_)
      refine TC.region ?_
      refine TL.v (Want.plain rfl) rfl rfl (PV.move rfl rfl) ?_
      refine TL.callP (A := [blkA rb [v1] 99]) (B := [blkA b4 (ints (RecT.mk a1 0 RowT.zero 0 BallotT.zero ChangeT.zero ViewT.zero).flat) 58, blkA b2 (ints RecT.zero.flat) 58]) (Want.plain rfl) rfl rfl rfl nm47 rfl (small_does rb v1 r1 (5)) (fun _ s => sep_selR [1] rfl s) (fun _ d _ => (hf1).more d) (fun cP HP hP => ?_) (fun vR HR hR => ?_)
      · skip
        obtain ⟨vP, rfl, rfl, hpP⟩ := hP
        change TE _ _ _ _ _ _ _ [blkA rb [vP] 99, blkA b4 (ints (RecT.mk a1 0 RowT.zero 0 BallotT.zero ChangeT.zero ViewT.zero).flat) 58, blkA b2 (ints RecT.zero.flat) 58]
        refine TE.passPanic ?_
        clear hK9
        refine TE.blockPanic ?_
        refine TE.passPanic ?_
        clear hK3
        refine TE.weak (Sub.refl _) (fun _ s => sep_keep [0] rfl s) ?_
        refine TE.panicked ?_
        exact ⟨_, rfl, rfl, by simp [readRecP, kRow, kAsk, pb_some hp1, pb_none hpP, h11, h20, *]⟩
      obtain ⟨a2, r2, v2, rfl, rfl, hp2, ht2⟩ := hR
      change TL _ _ _ _ _ _ _ _ _ [blkA rb [v2] 99, blkA b4 (ints (RecT.mk a1 0 RowT.zero 0 BallotT.zero ChangeT.zero ViewT.zero).flat) 58, blkA b2 (ints RecT.zero.flat) 58]
      have hf2 := ht2 _ hf1
      refine TL.v (Want.plain rfl) rfl rfl (PV.fieldAddr (r := 1) rfl Try.underlying58 rfl sz3 rfl rfl) ?_
      refine TL.store1 (i := 1) (H' := [blkA rb [v2] 99, blkA b4 (ints (RecT.mk a1 a2 RowT.zero 0 BallotT.zero ChangeT.zero ViewT.zero).flat) 58, blkA b2 (ints RecT.zero.flat) 58]) (Want.plain rfl) rfl rfl rfl rfl rfl sz3 rfl rfl (by have h0 := (RecT.len (RecT.mk a1 0 RowT.zero 0 BallotT.zero ChangeT.zero ViewT.zero)); omega) (RecT.set_whose (RecT.mk a1 0 RowT.zero 0 BallotT.zero ChangeT.zero ViewT.zero) rfl _) rfl ?_
      refine TL.nil ?_
      refine TE.next hK9 ?_
      clear hK9
      refine TC.seq (fun K10 hK10 => ?_)
      refine TC.region ?_
      refine TL.v (Want.plain rfl) rfl rfl (PV.move rfl rfl) ?_
      refine TL.callP (A := [blkA rb [v2] 99]) (B := [blkA b4 (ints (RecT.mk a1 a2 RowT.zero 0 BallotT.zero ChangeT.zero ViewT.zero).flat) 58, blkA b2 (ints RecT.zero.flat) 58]) (Want.plain rfl) rfl rfl rfl nm48 rfl (rrow_does rb v2 r2 ) (fun _ s => s) (fun _ d _ => (hf2).more d) (fun cP HP hP => ?_) (fun vR HR hR => ?_)
      · skip
        obtain ⟨vP, rfl, rfl, hpP⟩ := hP
        change TE _ _ _ _ _ _ _ [blkA rb [vP] 99, blkA b4 (ints (RecT.mk a1 a2 RowT.zero 0 BallotT.zero ChangeT.zero ViewT.zero).flat) 58, blkA b2 (ints RecT.zero.flat) 58]
        refine TE.passPanic ?_
        clear hK10
        refine TE.blockPanic ?_
        refine TE.passPanic ?_
        clear hK3
        refine TE.weak (Sub.refl _) (fun _ s => sep_keep [0] rfl s) ?_
        refine TE.panicked ?_
        exact ⟨_, rfl, rfl, by simp [readRecP, kRow, kAsk, pb_some hp1, pb_some hp2, pb_none hpP, h11, h20, *]⟩
      obtain ⟨a3, r3, v3, rfl, rfl, hp3, ht3⟩ := hR
      change TL _ _ _ _ _ _ _ _ _ [blkA rb [v3] 99, blkA b4 (ints (RecT.mk a1 a2 RowT.zero 0 BallotT.zero ChangeT.zero ViewT.zero).flat) 58, blkA b2 (ints RecT.zero.flat) 58]
      have hf3 := ht3 _ hf2
      refine TL.v (Want.plain rfl) rfl rfl (PV.fieldAddr (r := 2) rfl Try.underlying58 rfl sz38 rfl rfl) ?_
      refine TL.store (vs := ints a3.flat) (i := 1) (H' := [blkA rb [v3] 99, blkA b4 (ints (RecT.mk a1 a2 a3 0 BallotT.zero ChangeT.zero ViewT.zero).flat) 58, blkA b2 (ints RecT.zero.flat) 58]) (Want.plain rfl) rfl rfl rfl rfl rfl (by rw [(RowT.len a3)]; exact sz38) (ints_one _) rfl rfl (by have h0 := (RecT.len (RecT.mk a1 a2 RowT.zero 0 BallotT.zero ChangeT.zero ViewT.zero)); have h1 := (RowT.len a3); omega) (RecT.wr_row_ (RecT.mk a1 a2 RowT.zero 0 BallotT.zero ChangeT.zero ViewT.zero) 0 rfl (by have h1 := (RowT.len a3); omega) (wwhole ((RowT.len RowT.zero).trans (RowT.len a3).symm))) rfl ?_
      refine TL.nil ?_
      refine TE.next hK10 ?_
      clear hK10
      refine TC.seq (fun K11 hK11 => ?_)
      refine TC.draw (fun w => Frm F w ∧ w.heap[b4]? = some (.cells (ints (RecT.mk a1 a2 a3 0 BallotT.zero ChangeT.zero ViewT.zero).flat).toArray 58 (0, 0)) ∧ True) mixed rfl (fun _ s => ⟨Frm.of s, s.block 1 (lb rfl) rfl, trivial⟩) ?_
      refine TD.take (i := 0) rfl (by kernel_rfl) (by kernel_rfl) (by kernel_rfl) (fun _ _ _ _ h => h) (Want.plain rfl) rfl rfl (PV.loadN (vs := ints (RecT.mk a1 a2 a3 0 BallotT.zero ChangeT.zero ViewT.zero).flat) rfl Try.underlying58 rfl sz58 rfl (fun _ h => h.2.1) (RecT.len (RecT.mk a1 a2 a3 0 BallotT.zero ChangeT.zero ViewT.zero)) (whole (RecT.len (RecT.mk a1 a2 a3 0 BallotT.zero ChangeT.zero ViewT.zero)))) ?_
      refine TD.take (i := 1) rfl (by kernel_rfl) (by kernel_rfl) (by kernel_rfl) (fun _ _ _ _ h => h) (Want.plain rfl) rfl rfl (PV.fieldAddr (r := 2) rfl Try.underlying58 rfl sz38 rfl rfl) ?_
      refine TD.take (i := 2) rfl (by kernel_rfl) (by kernel_rfl) (by kernel_rfl) (fun _ _ _ _ h => h) (Want.plain rfl) rfl rfl (PV.loadN (vs := ints a3.flat) rfl Try.underlying38 rfl sz38 rfl (fun _ h => h.2.1) (RowT.len a3) (RecT.sub_row (RecT.mk a1 a2 a3 0 BallotT.zero ChangeT.zero ViewT.zero) 0 rfl (by decide) (whole (RowT.len a3)))) ?_
      refine TD.all [3] (by kernel_rfl) rfl ?_
      refine AllT.cons rfl ?_ ?_
      · skip
        refine TL.callR (A := []) (B := [blkA rb [v3] 99, blkA b4 (ints (RecT.mk a1 a2 a3 0 BallotT.zero ChangeT.zero ViewT.zero).flat) 58, blkA b2 (ints RecT.zero.flat) 58]) (Want.plain rfl) rfl rfl rfl nm21 rfl (rowRight_does a3 (row_wf hp3)) (fun _ s => s) (fun _ _ _ => trivial) (fun vR HR hR => ?_)
        obtain ⟨rfl, rfl⟩ := hR
        change TL _ _ _ _ _ _ _ _ _ [blkA rb [v3] 99, blkA b4 (ints (RecT.mk a1 a2 a3 0 BallotT.zero ChangeT.zero ViewT.zero).flat) 58, blkA b2 (ints RecT.zero.flat) 58]
        refine TL.nil ?_
        refine TE.draw (fun _ s => ⟨Frm.of s, s.block 1 (lb rfl) rfl, trivial⟩) ?_
        refine TD.all [4] (by kernel_rfl) rfl ?_
        refine AllT.cons rfl ?_ ?_
        · skip
          refine TL.store (vs := ints (RecT.mk a1 a2 a3 0 BallotT.zero ChangeT.zero ViewT.zero).flat) (i := 2) (H' := [blkA rb [v3] 99, blkA b4 (ints (RecT.mk a1 a2 a3 0 BallotT.zero ChangeT.zero ViewT.zero).flat) 58, blkA b2 (ints (RecT.mk a1 a2 a3 0 BallotT.zero ChangeT.zero ViewT.zero).flat) 58]) (Want.plain rfl) rfl rfl rfl rfl rfl (by rw [(RecT.len (RecT.mk a1 a2 a3 0 BallotT.zero ChangeT.zero ViewT.zero))]; exact sz58) (ints_one _) rfl rfl (by have h0 := (RecT.len RecT.zero); have h1 := (RecT.len (RecT.mk a1 a2 a3 0 BallotT.zero ChangeT.zero ViewT.zero)); omega) (wwhole ((RecT.len RecT.zero).trans (RecT.len (RecT.mk a1 a2 a3 0 BallotT.zero ChangeT.zero ViewT.zero)).symm)) rfl ?_
          refine TL.nil ?_
          refine TE.draw (fun _ s => ⟨Frm.of s, s.block 1 (lb rfl) rfl, trivial⟩) ?_
          refine TD.take (i := 5) rfl (by kernel_rfl) (by kernel_rfl) (by kernel_rfl) (fun _ _ _ _ h => h) (Want.plain rfl) rfl rfl (PV.assign rfl rfl) ?_
          refine TD.done (by kernel_rfl) ?_
          refine TE.next hK11 ?_
          clear hK11
          refine TC.ret ?_
          refine TE.blockRet ?_
          refine TE.passRet ?_
          clear hK3
          refine TE.retCT (H' := [blkA rb [v3] 99]) rfl rfl rfl Try.underlying58 rfl sz58 (Rd.own 2 rfl rfl) (RecT.len (RecT.mk a1 a2 a3 0 BallotT.zero ChangeT.zero ViewT.zero)) (fun _ s => sep_keep [0] rfl s) ?_
          exact ⟨((RecT.mk a1 a2 a3 0 BallotT.zero ChangeT.zero ViewT.zero), (rightR a3)), _, _, rfl, rfl, by simp [readRecP, kRow, kAsk, pr, pb_some hp1, pb_some hp2, pb_some hp3, h11, h20, MsgT.zero, RecT.zero, *], (ht1.trans (ht2.trans ht3))⟩
        exact AllT.nil
      exact AllT.nil
    · skip
      refine TL.v (Want.plain rfl) rfl rfl (PV.assign rfl rfl) ?_
      refine TL.nil ?_
      refine TE.next hK8 ?_
      clear hK8
      refine TC.no rfl ?_
      refine TC.seq (fun K12 hK12 => ?_)
      refine TC.region ?_
      refine TL.v (Want.plain rfl) rfl rfl (PV.eql rfl rfl rfl) ?_
      refine TL.dec (fun h32 => ?_) (fun h32 => ?_)
      · skip
        refine TL.v (Want.plain rfl) rfl rfl (PV.assign rfl rfl) ?_
        refine TL.nil ?_
        refine TE.next hK12 ?_
        clear hK12
        refine TC.yes rfl ?_
        refine TC.region ?_
        refine TL.v (Want.plain rfl) rfl rfl (PV.move rfl rfl) ?_
        refine TL.callP (A := [blkA rb [v1] 99]) (B := [blkA b4 (ints (RecT.mk a1 0 RowT.zero 0 BallotT.zero ChangeT.zero ViewT.zero).flat) 58, blkA b2 (ints RecT.zero.flat) 58]) (Want.plain rfl) rfl rfl rfl nm47 rfl (small_does rb v1 r1 (5)) (fun _ s => sep_selR [1] rfl s) (fun _ d _ => (hf1).more d) (fun cP HP hP => ?_) (fun vR HR hR => ?_)
        · skip
          obtain ⟨vP, rfl, rfl, hpP⟩ := hP
          change TE _ _ _ _ _ _ _ [blkA rb [vP] 99, blkA b4 (ints (RecT.mk a1 0 RowT.zero 0 BallotT.zero ChangeT.zero ViewT.zero).flat) 58, blkA b2 (ints RecT.zero.flat) 58]
          refine TE.blockPanic ?_
          refine TE.passPanic ?_
          clear hK3
          refine TE.weak (Sub.refl _) (fun _ s => sep_keep [0] rfl s) ?_
          refine TE.panicked ?_
          exact ⟨_, rfl, rfl, by simp [readRecP, kRow, kAsk, pb_some hp1, pb_none hpP, h11, h20, h32, *]⟩
        obtain ⟨a2, r2, v2, rfl, rfl, hp2, ht2⟩ := hR
        change TL _ _ _ _ _ _ _ _ _ [blkA rb [v2] 99, blkA b4 (ints (RecT.mk a1 0 RowT.zero 0 BallotT.zero ChangeT.zero ViewT.zero).flat) 58, blkA b2 (ints RecT.zero.flat) 58]
        have hf2 := ht2 _ hf1
        refine TL.v (Want.plain rfl) rfl rfl (PV.fieldAddr (r := 1) rfl Try.underlying58 rfl sz3 rfl rfl) ?_
        refine TL.store1 (i := 1) (H' := [blkA rb [v2] 99, blkA b4 (ints (RecT.mk a1 a2 RowT.zero 0 BallotT.zero ChangeT.zero ViewT.zero).flat) 58, blkA b2 (ints RecT.zero.flat) 58]) (Want.plain rfl) rfl rfl rfl rfl rfl sz3 rfl rfl (by have h0 := (RecT.len (RecT.mk a1 0 RowT.zero 0 BallotT.zero ChangeT.zero ViewT.zero)); omega) (RecT.set_whose (RecT.mk a1 0 RowT.zero 0 BallotT.zero ChangeT.zero ViewT.zero) rfl _) rfl ?_
        refine TL.nil ?_
        refine TE.blockEnd ?_
        refine TE.next hK3 ?_
        clear hK3
        refine TC.seq (fun K13 hK13 => ?_)
        refine TC.region ?_
        refine TL.v (Want.plain rfl) rfl rfl (PV.loadN (vs := ints (RecT.mk a1 a2 RowT.zero 0 BallotT.zero ChangeT.zero ViewT.zero).flat) rfl Try.underlying58 rfl sz58 rfl (Rd.own 1 rfl rfl) (RecT.len (RecT.mk a1 a2 RowT.zero 0 BallotT.zero ChangeT.zero ViewT.zero)) (whole (RecT.len (RecT.mk a1 a2 RowT.zero 0 BallotT.zero ChangeT.zero ViewT.zero)))) ?_
        refine TL.store (vs := ints (RecT.mk a1 a2 RowT.zero 0 BallotT.zero ChangeT.zero ViewT.zero).flat) (i := 2) (H' := [blkA rb [v2] 99, blkA b4 (ints (RecT.mk a1 a2 RowT.zero 0 BallotT.zero ChangeT.zero ViewT.zero).flat) 58, blkA b2 (ints (RecT.mk a1 a2 RowT.zero 0 BallotT.zero ChangeT.zero ViewT.zero).flat) 58]) (Want.plain rfl) rfl rfl rfl rfl rfl (by rw [(RecT.len (RecT.mk a1 a2 RowT.zero 0 BallotT.zero ChangeT.zero ViewT.zero))]; exact sz58) (ints_one _) rfl rfl (by have h0 := (RecT.len RecT.zero); have h1 := (RecT.len (RecT.mk a1 a2 RowT.zero 0 BallotT.zero ChangeT.zero ViewT.zero)); omega) (wwhole ((RecT.len RecT.zero).trans (RecT.len (RecT.mk a1 a2 RowT.zero 0 BallotT.zero ChangeT.zero ViewT.zero)).symm)) rfl ?_
        refine TL.v (Want.plain rfl) rfl rfl (PV.assign rfl rfl) ?_
        refine TL.nil ?_
        refine TE.next hK13 ?_
        clear hK13
        refine TC.ret ?_
        refine TE.retCT (H' := [blkA rb [v2] 99]) rfl rfl rfl Try.underlying58 rfl sz58 (Rd.own 2 rfl rfl) (RecT.len (RecT.mk a1 a2 RowT.zero 0 BallotT.zero ChangeT.zero ViewT.zero)) (fun _ s => sep_keep [0] rfl s) ?_
        exact ⟨((RecT.mk a1 a2 RowT.zero 0 BallotT.zero ChangeT.zero ViewT.zero), true), _, _, rfl, rfl, by simp [readRecP, kRow, kAsk, pr, pb_some hp1, pb_some hp2, h11, h20, h32, MsgT.zero, RecT.zero, *], (ht1.trans ht2)⟩
      · skip
        refine TL.v (Want.plain rfl) rfl rfl (PV.assign rfl rfl) ?_
        refine TL.nil ?_
        refine TE.next hK12 ?_
        clear hK12
        refine TC.no rfl ?_
        refine TC.seq (fun K14 hK14 => ?_)
        refine TC.region ?_
        refine TL.v (Want.plain rfl) rfl rfl (PV.eql rfl rfl rfl) ?_
        refine TL.dec (fun h37 => ?_) (fun h37 => ?_)
        · skip
          refine TL.v (Want.plain rfl) rfl rfl (PV.assign rfl rfl) ?_
          refine TL.nil ?_
          refine TE.next hK14 ?_
          clear hK14
          refine TC.yes rfl ?_
          refine TC.seq (fun K15 hK15 => ?_)
          refine TC.region ?_
          refine TL.v (Want.plain rfl) rfl rfl (PV.move rfl rfl) ?_
          refine TL.callP (A := [blkA rb [v1] 99]) (B := [blkA b4 (ints (RecT.mk a1 0 RowT.zero 0 BallotT.zero ChangeT.zero ViewT.zero).flat) 58, blkA b2 (ints RecT.zero.flat) 58]) (Want.plain rfl) rfl rfl rfl nm49 rfl (num_does rb v1 r1 ) (fun _ s => sep_selR [1] rfl s) (fun _ d _ => (hf1).more d) (fun cP HP hP => ?_) (fun vR HR hR => ?_)
          · skip
            obtain ⟨vP, rfl, rfl, hpP⟩ := hP
            change TE _ _ _ _ _ _ _ [blkA rb [vP] 99, blkA b4 (ints (RecT.mk a1 0 RowT.zero 0 BallotT.zero ChangeT.zero ViewT.zero).flat) 58, blkA b2 (ints RecT.zero.flat) 58]
            refine TE.passPanic ?_
            clear hK15
            refine TE.blockPanic ?_
            refine TE.passPanic ?_
            clear hK3
            refine TE.weak (Sub.refl _) (fun _ s => sep_keep [0] rfl s) ?_
            refine TE.panicked ?_
            exact ⟨_, rfl, rfl, by simp [readRecP, kRow, kAsk, pb_some hp1, pb_none hpP, h11, h20, h32, h37, *]⟩
          obtain ⟨a2, r2, v2, rfl, rfl, hp2, ht2⟩ := hR
          change TL _ _ _ _ _ _ _ _ _ [blkA rb [v2] 99, blkA b4 (ints (RecT.mk a1 0 RowT.zero 0 BallotT.zero ChangeT.zero ViewT.zero).flat) 58, blkA b2 (ints RecT.zero.flat) 58]
          have hf2 := ht2 _ hf1
          refine TL.v (Want.plain rfl) rfl rfl (PV.fieldAddr (r := 176) rfl Try.underlying58 rfl sz3 rfl rfl) ?_
          refine TL.store1 (i := 1) (H' := [blkA rb [v2] 99, blkA b4 (ints (RecT.mk a1 0 RowT.zero a2 BallotT.zero ChangeT.zero ViewT.zero).flat) 58, blkA b2 (ints RecT.zero.flat) 58]) (Want.plain rfl) rfl rfl rfl rfl rfl sz3 rfl rfl (by have h0 := (RecT.len (RecT.mk a1 0 RowT.zero 0 BallotT.zero ChangeT.zero ViewT.zero)); omega) (RecT.set_epoch (RecT.mk a1 0 RowT.zero 0 BallotT.zero ChangeT.zero ViewT.zero) rfl _) rfl ?_
          refine TL.nil ?_
          refine TE.next hK15 ?_
          clear hK15
          refine TC.region ?_
          refine TL.v (Want.plain rfl) rfl rfl (PV.move rfl rfl) ?_
          refine TL.callP (A := [blkA rb [v2] 99]) (B := [blkA b4 (ints (RecT.mk a1 0 RowT.zero a2 BallotT.zero ChangeT.zero ViewT.zero).flat) 58, blkA b2 (ints RecT.zero.flat) 58]) (Want.plain rfl) rfl rfl rfl nm50 rfl (rballot_does rb v2 r2 ) (fun _ s => s) (fun _ d _ => (hf2).more d) (fun cP HP hP => ?_) (fun vR HR hR => ?_)
          · skip
            obtain ⟨vP, rfl, rfl, hpP⟩ := hP
            change TE _ _ _ _ _ _ _ [blkA rb [vP] 99, blkA b4 (ints (RecT.mk a1 0 RowT.zero a2 BallotT.zero ChangeT.zero ViewT.zero).flat) 58, blkA b2 (ints RecT.zero.flat) 58]
            refine TE.blockPanic ?_
            refine TE.passPanic ?_
            clear hK3
            refine TE.weak (Sub.refl _) (fun _ s => sep_keep [0] rfl s) ?_
            refine TE.panicked ?_
            exact ⟨_, rfl, rfl, by simp [readRecP, kRow, kAsk, pb_some hp1, pb_some hp2, pb_none hpP, h11, h20, h32, h37, *]⟩
          obtain ⟨a3, r3, v3, rfl, rfl, hp3, ht3⟩ := hR
          change TL _ _ _ _ _ _ _ _ _ [blkA rb [v3] 99, blkA b4 (ints (RecT.mk a1 0 RowT.zero a2 BallotT.zero ChangeT.zero ViewT.zero).flat) 58, blkA b2 (ints RecT.zero.flat) 58]
          have hf3 := ht3 _ hf2
          refine TL.v (Want.plain rfl) rfl rfl (PV.fieldAddr (r := 177) rfl Try.underlying58 rfl sz40 rfl rfl) ?_
          refine TL.store (vs := ints a3.flat) (i := 1) (H' := [blkA rb [v3] 99, blkA b4 (ints (RecT.mk a1 0 RowT.zero a2 a3 ChangeT.zero ViewT.zero).flat) 58, blkA b2 (ints RecT.zero.flat) 58]) (Want.plain rfl) rfl rfl rfl rfl rfl (by rw [(BallotT.len a3)]; exact sz40) (ints_one _) rfl rfl (by have h0 := (RecT.len (RecT.mk a1 0 RowT.zero a2 BallotT.zero ChangeT.zero ViewT.zero)); have h1 := (BallotT.len a3); omega) (RecT.wr_ballot_ (RecT.mk a1 0 RowT.zero a2 BallotT.zero ChangeT.zero ViewT.zero) 0 rfl (by have h1 := (BallotT.len a3); omega) (wwhole ((BallotT.len BallotT.zero).trans (BallotT.len a3).symm))) rfl ?_
          refine TL.nil ?_
          refine TE.blockEnd ?_
          refine TE.next hK3 ?_
          clear hK3
          refine TC.seq (fun K16 hK16 => ?_)
          refine TC.region ?_
          refine TL.v (Want.plain rfl) rfl rfl (PV.loadN (vs := ints (RecT.mk a1 0 RowT.zero a2 a3 ChangeT.zero ViewT.zero).flat) rfl Try.underlying58 rfl sz58 rfl (Rd.own 1 rfl rfl) (RecT.len (RecT.mk a1 0 RowT.zero a2 a3 ChangeT.zero ViewT.zero)) (whole (RecT.len (RecT.mk a1 0 RowT.zero a2 a3 ChangeT.zero ViewT.zero)))) ?_
          refine TL.store (vs := ints (RecT.mk a1 0 RowT.zero a2 a3 ChangeT.zero ViewT.zero).flat) (i := 2) (H' := [blkA rb [v3] 99, blkA b4 (ints (RecT.mk a1 0 RowT.zero a2 a3 ChangeT.zero ViewT.zero).flat) 58, blkA b2 (ints (RecT.mk a1 0 RowT.zero a2 a3 ChangeT.zero ViewT.zero).flat) 58]) (Want.plain rfl) rfl rfl rfl rfl rfl (by rw [(RecT.len (RecT.mk a1 0 RowT.zero a2 a3 ChangeT.zero ViewT.zero))]; exact sz58) (ints_one _) rfl rfl (by have h0 := (RecT.len RecT.zero); have h1 := (RecT.len (RecT.mk a1 0 RowT.zero a2 a3 ChangeT.zero ViewT.zero)); omega) (wwhole ((RecT.len RecT.zero).trans (RecT.len (RecT.mk a1 0 RowT.zero a2 a3 ChangeT.zero ViewT.zero)).symm)) rfl ?_
          refine TL.v (Want.plain rfl) rfl rfl (PV.assign rfl rfl) ?_
          refine TL.nil ?_
          refine TE.next hK16 ?_
          clear hK16
          refine TC.ret ?_
          refine TE.retCT (H' := [blkA rb [v3] 99]) rfl rfl rfl Try.underlying58 rfl sz58 (Rd.own 2 rfl rfl) (RecT.len (RecT.mk a1 0 RowT.zero a2 a3 ChangeT.zero ViewT.zero)) (fun _ s => sep_keep [0] rfl s) ?_
          exact ⟨((RecT.mk a1 0 RowT.zero a2 a3 ChangeT.zero ViewT.zero), true), _, _, rfl, rfl, by simp [readRecP, kRow, kAsk, pr, pb_some hp1, pb_some hp2, pb_some hp3, h11, h20, h32, h37, MsgT.zero, RecT.zero, *], (ht1.trans (ht2.trans ht3))⟩
        · skip
          refine TL.v (Want.plain rfl) rfl rfl (PV.assign rfl rfl) ?_
          refine TL.nil ?_
          refine TE.next hK14 ?_
          clear hK14
          refine TC.no rfl ?_
          refine TC.seq (fun K17 hK17 => ?_)
          refine TC.region ?_
          refine TL.v (Want.plain rfl) rfl rfl (PV.eql rfl rfl rfl) ?_
          refine TL.dec (fun h45 => ?_) (fun h45 => ?_)
          · skip
            refine TL.v (Want.plain rfl) rfl rfl (PV.assign rfl rfl) ?_
            refine TL.nil ?_
            refine TE.next hK17 ?_
            clear hK17
            refine TC.yes rfl ?_
            refine TC.seq (fun K18 hK18 => ?_)
            refine TC.region ?_
            refine TL.v (Want.plain rfl) rfl rfl (PV.move rfl rfl) ?_
            refine TL.callP (A := [blkA rb [v1] 99]) (B := [blkA b4 (ints (RecT.mk a1 0 RowT.zero 0 BallotT.zero ChangeT.zero ViewT.zero).flat) 58, blkA b2 (ints RecT.zero.flat) 58]) (Want.plain rfl) rfl rfl rfl nm49 rfl (num_does rb v1 r1 ) (fun _ s => sep_selR [1] rfl s) (fun _ d _ => (hf1).more d) (fun cP HP hP => ?_) (fun vR HR hR => ?_)
            · skip
              obtain ⟨vP, rfl, rfl, hpP⟩ := hP
              change TE _ _ _ _ _ _ _ [blkA rb [vP] 99, blkA b4 (ints (RecT.mk a1 0 RowT.zero 0 BallotT.zero ChangeT.zero ViewT.zero).flat) 58, blkA b2 (ints RecT.zero.flat) 58]
              refine TE.passPanic ?_
              clear hK18
              refine TE.blockPanic ?_
              refine TE.passPanic ?_
              clear hK3
              refine TE.weak (Sub.refl _) (fun _ s => sep_keep [0] rfl s) ?_
              refine TE.panicked ?_
              exact ⟨_, rfl, rfl, by simp [readRecP, kRow, kAsk, pb_some hp1, pb_none hpP, h11, h20, h32, h37, h45, *]⟩
            obtain ⟨a2, r2, v2, rfl, rfl, hp2, ht2⟩ := hR
            change TL _ _ _ _ _ _ _ _ _ [blkA rb [v2] 99, blkA b4 (ints (RecT.mk a1 0 RowT.zero 0 BallotT.zero ChangeT.zero ViewT.zero).flat) 58, blkA b2 (ints RecT.zero.flat) 58]
            have hf2 := ht2 _ hf1
            refine TL.v (Want.plain rfl) rfl rfl (PV.fieldAddr (r := 176) rfl Try.underlying58 rfl sz3 rfl rfl) ?_
            refine TL.store1 (i := 1) (H' := [blkA rb [v2] 99, blkA b4 (ints (RecT.mk a1 0 RowT.zero a2 BallotT.zero ChangeT.zero ViewT.zero).flat) 58, blkA b2 (ints RecT.zero.flat) 58]) (Want.plain rfl) rfl rfl rfl rfl rfl sz3 rfl rfl (by have h0 := (RecT.len (RecT.mk a1 0 RowT.zero 0 BallotT.zero ChangeT.zero ViewT.zero)); omega) (RecT.set_epoch (RecT.mk a1 0 RowT.zero 0 BallotT.zero ChangeT.zero ViewT.zero) rfl _) rfl ?_
            refine TL.nil ?_
            refine TE.next hK18 ?_
            clear hK18
            refine TC.seq (fun K19 hK19 => ?_)
            refine TC.region ?_
            refine TL.v (Want.plain rfl) rfl rfl (PV.move rfl rfl) ?_
            refine TL.callP (A := [blkA rb [v2] 99]) (B := [blkA b4 (ints (RecT.mk a1 0 RowT.zero a2 BallotT.zero ChangeT.zero ViewT.zero).flat) 58, blkA b2 (ints RecT.zero.flat) 58]) (Want.plain rfl) rfl rfl rfl nm50 rfl (rballot_does rb v2 r2 ) (fun _ s => s) (fun _ d _ => (hf2).more d) (fun cP HP hP => ?_) (fun vR HR hR => ?_)
            · skip
              obtain ⟨vP, rfl, rfl, hpP⟩ := hP
              change TE _ _ _ _ _ _ _ [blkA rb [vP] 99, blkA b4 (ints (RecT.mk a1 0 RowT.zero a2 BallotT.zero ChangeT.zero ViewT.zero).flat) 58, blkA b2 (ints RecT.zero.flat) 58]
              refine TE.passPanic ?_
              clear hK19
              refine TE.blockPanic ?_
              refine TE.passPanic ?_
              clear hK3
              refine TE.weak (Sub.refl _) (fun _ s => sep_keep [0] rfl s) ?_
              refine TE.panicked ?_
              exact ⟨_, rfl, rfl, by simp [readRecP, kRow, kAsk, pb_some hp1, pb_some hp2, pb_none hpP, h11, h20, h32, h37, h45, *]⟩
            obtain ⟨a3, r3, v3, rfl, rfl, hp3, ht3⟩ := hR
            change TL _ _ _ _ _ _ _ _ _ [blkA rb [v3] 99, blkA b4 (ints (RecT.mk a1 0 RowT.zero a2 BallotT.zero ChangeT.zero ViewT.zero).flat) 58, blkA b2 (ints RecT.zero.flat) 58]
            have hf3 := ht3 _ hf2
            refine TL.v (Want.plain rfl) rfl rfl (PV.fieldAddr (r := 177) rfl Try.underlying58 rfl sz40 rfl rfl) ?_
            refine TL.store (vs := ints a3.flat) (i := 1) (H' := [blkA rb [v3] 99, blkA b4 (ints (RecT.mk a1 0 RowT.zero a2 a3 ChangeT.zero ViewT.zero).flat) 58, blkA b2 (ints RecT.zero.flat) 58]) (Want.plain rfl) rfl rfl rfl rfl rfl (by rw [(BallotT.len a3)]; exact sz40) (ints_one _) rfl rfl (by have h0 := (RecT.len (RecT.mk a1 0 RowT.zero a2 BallotT.zero ChangeT.zero ViewT.zero)); have h1 := (BallotT.len a3); omega) (RecT.wr_ballot_ (RecT.mk a1 0 RowT.zero a2 BallotT.zero ChangeT.zero ViewT.zero) 0 rfl (by have h1 := (BallotT.len a3); omega) (wwhole ((BallotT.len BallotT.zero).trans (BallotT.len a3).symm))) rfl ?_
            refine TL.nil ?_
            refine TE.next hK19 ?_
            clear hK19
            refine TC.region ?_
            refine TL.v (Want.plain rfl) rfl rfl (PV.move rfl rfl) ?_
            refine TL.callP (A := [blkA rb [v3] 99]) (B := [blkA b4 (ints (RecT.mk a1 0 RowT.zero a2 a3 ChangeT.zero ViewT.zero).flat) 58, blkA b2 (ints RecT.zero.flat) 58]) (Want.plain rfl) rfl rfl rfl nm51 rfl (rchange_does rb v3 r3 ) (fun _ s => s) (fun _ d _ => (hf3).more d) (fun cP HP hP => ?_) (fun vR HR hR => ?_)
            · skip
              obtain ⟨vP, rfl, rfl, hpP⟩ := hP
              change TE _ _ _ _ _ _ _ [blkA rb [vP] 99, blkA b4 (ints (RecT.mk a1 0 RowT.zero a2 a3 ChangeT.zero ViewT.zero).flat) 58, blkA b2 (ints RecT.zero.flat) 58]
              refine TE.blockPanic ?_
              refine TE.passPanic ?_
              clear hK3
              refine TE.weak (Sub.refl _) (fun _ s => sep_keep [0] rfl s) ?_
              refine TE.panicked ?_
              exact ⟨_, rfl, rfl, by simp [readRecP, kRow, kAsk, pb_some hp1, pb_some hp2, pb_some hp3, pb_none hpP, h11, h20, h32, h37, h45, *]⟩
            obtain ⟨a4, r4, v4, rfl, rfl, hp4, ht4⟩ := hR
            change TL _ _ _ _ _ _ _ _ _ [blkA rb [v4] 99, blkA b4 (ints (RecT.mk a1 0 RowT.zero a2 a3 ChangeT.zero ViewT.zero).flat) 58, blkA b2 (ints RecT.zero.flat) 58]
            have hf4 := ht4 _ hf3
            refine TL.v (Want.plain rfl) rfl rfl (PV.fieldAddr (r := 179) rfl Try.underlying58 rfl sz42 rfl rfl) ?_
            refine TL.store (vs := ints a4.flat) (i := 1) (H' := [blkA rb [v4] 99, blkA b4 (ints (RecT.mk a1 0 RowT.zero a2 a3 a4 ViewT.zero).flat) 58, blkA b2 (ints RecT.zero.flat) 58]) (Want.plain rfl) rfl rfl rfl rfl rfl (by rw [(ChangeT.len a4)]; exact sz42) (ints_one _) rfl rfl (by have h0 := (RecT.len (RecT.mk a1 0 RowT.zero a2 a3 ChangeT.zero ViewT.zero)); have h1 := (ChangeT.len a4); omega) (RecT.wr_change_ (RecT.mk a1 0 RowT.zero a2 a3 ChangeT.zero ViewT.zero) 0 rfl (by have h1 := (ChangeT.len a4); omega) (wwhole ((ChangeT.len ChangeT.zero).trans (ChangeT.len a4).symm))) rfl ?_
            refine TL.nil ?_
            refine TE.blockEnd ?_
            refine TE.next hK3 ?_
            clear hK3
            refine TC.seq (fun K20 hK20 => ?_)
            refine TC.region ?_
            refine TL.v (Want.plain rfl) rfl rfl (PV.loadN (vs := ints (RecT.mk a1 0 RowT.zero a2 a3 a4 ViewT.zero).flat) rfl Try.underlying58 rfl sz58 rfl (Rd.own 1 rfl rfl) (RecT.len (RecT.mk a1 0 RowT.zero a2 a3 a4 ViewT.zero)) (whole (RecT.len (RecT.mk a1 0 RowT.zero a2 a3 a4 ViewT.zero)))) ?_
            refine TL.store (vs := ints (RecT.mk a1 0 RowT.zero a2 a3 a4 ViewT.zero).flat) (i := 2) (H' := [blkA rb [v4] 99, blkA b4 (ints (RecT.mk a1 0 RowT.zero a2 a3 a4 ViewT.zero).flat) 58, blkA b2 (ints (RecT.mk a1 0 RowT.zero a2 a3 a4 ViewT.zero).flat) 58]) (Want.plain rfl) rfl rfl rfl rfl rfl (by rw [(RecT.len (RecT.mk a1 0 RowT.zero a2 a3 a4 ViewT.zero))]; exact sz58) (ints_one _) rfl rfl (by have h0 := (RecT.len RecT.zero); have h1 := (RecT.len (RecT.mk a1 0 RowT.zero a2 a3 a4 ViewT.zero)); omega) (wwhole ((RecT.len RecT.zero).trans (RecT.len (RecT.mk a1 0 RowT.zero a2 a3 a4 ViewT.zero)).symm)) rfl ?_
            refine TL.v (Want.plain rfl) rfl rfl (PV.assign rfl rfl) ?_
            refine TL.nil ?_
            refine TE.next hK20 ?_
            clear hK20
            refine TC.ret ?_
            refine TE.retCT (H' := [blkA rb [v4] 99]) rfl rfl rfl Try.underlying58 rfl sz58 (Rd.own 2 rfl rfl) (RecT.len (RecT.mk a1 0 RowT.zero a2 a3 a4 ViewT.zero)) (fun _ s => sep_keep [0] rfl s) ?_
            exact ⟨((RecT.mk a1 0 RowT.zero a2 a3 a4 ViewT.zero), true), _, _, rfl, rfl, by simp [readRecP, kRow, kAsk, pr, pb_some hp1, pb_some hp2, pb_some hp3, pb_some hp4, h11, h20, h32, h37, h45, MsgT.zero, RecT.zero, *], (ht1.trans (ht2.trans (ht3.trans ht4)))⟩
          · skip
            refine TL.v (Want.plain rfl) rfl rfl (PV.assign rfl rfl) ?_
            refine TL.nil ?_
            refine TE.next hK17 ?_
            clear hK17
            refine TC.no rfl ?_
            refine TC.seq (fun K21 hK21 => ?_)
            refine TC.region ?_
            refine TL.v (Want.plain rfl) rfl rfl (PV.eql rfl rfl rfl) ?_
            refine TL.dec (fun h56 => ?_) (fun h56 => ?_)
            · skip
              refine TL.v (Want.plain rfl) rfl rfl (PV.assign rfl rfl) ?_
              refine TL.nil ?_
              refine TE.next hK21 ?_
              clear hK21
              refine TC.yes rfl ?_
              refine TC.seq (fun K22 hK22 => ?_)
              refine TC.region ?_
              refine TL.v (Want.plain rfl) rfl rfl (PV.move rfl rfl) ?_
              refine TL.callP (A := [blkA rb [v1] 99]) (B := [blkA b4 (ints (RecT.mk a1 0 RowT.zero 0 BallotT.zero ChangeT.zero ViewT.zero).flat) 58, blkA b2 (ints RecT.zero.flat) 58]) (Want.plain rfl) rfl rfl rfl nm52 rfl (rview_does rb v1 r1 ) (fun _ s => sep_selR [1] rfl s) (fun _ d _ => (hf1).more d) (fun cP HP hP => ?_) (fun vR HR hR => ?_)
              · skip
                obtain ⟨vP, rfl, rfl, hpP⟩ := hP
                change TE _ _ _ _ _ _ _ [blkA rb [vP] 99, blkA b4 (ints (RecT.mk a1 0 RowT.zero 0 BallotT.zero ChangeT.zero ViewT.zero).flat) 58, blkA b2 (ints RecT.zero.flat) 58]
                refine TE.passPanic ?_
                clear hK22
                refine TE.blockPanic ?_
                refine TE.passPanic ?_
                clear hK3
                refine TE.weak (Sub.refl _) (fun _ s => sep_keep [0] rfl s) ?_
                refine TE.panicked ?_
                exact ⟨_, rfl, rfl, by simp [readRecP, kRow, kAsk, pb_some hp1, pb_none hpP, h11, h20, h32, h37, h45, h56, *]⟩
              obtain ⟨a2, r2, v2, rfl, rfl, hp2, ht2⟩ := hR
              change TL _ _ _ _ _ _ _ _ _ [blkA rb [v2] 99, blkA b4 (ints (RecT.mk a1 0 RowT.zero 0 BallotT.zero ChangeT.zero ViewT.zero).flat) 58, blkA b2 (ints RecT.zero.flat) 58]
              have hf2 := ht2 _ hf1
              refine TL.v (Want.plain rfl) rfl rfl (PV.fieldAddr (r := 182) rfl Try.underlying58 rfl sz25 rfl rfl) ?_
              refine TL.store (vs := ints a2.flat) (i := 1) (H' := [blkA rb [v2] 99, blkA b4 (ints (RecT.mk a1 0 RowT.zero 0 BallotT.zero ChangeT.zero a2).flat) 58, blkA b2 (ints RecT.zero.flat) 58]) (Want.plain rfl) rfl rfl rfl rfl rfl (by rw [(ViewT.len a2)]; exact sz25) (ints_one _) rfl rfl (by have h0 := (RecT.len (RecT.mk a1 0 RowT.zero 0 BallotT.zero ChangeT.zero ViewT.zero)); have h1 := (ViewT.len a2); omega) (RecT.wr_view_ (RecT.mk a1 0 RowT.zero 0 BallotT.zero ChangeT.zero ViewT.zero) 0 rfl (by have h1 := (ViewT.len a2); omega) (wwhole ((ViewT.len ViewT.zero).trans (ViewT.len a2).symm))) rfl ?_
              refine TL.nil ?_
              refine TE.next hK22 ?_
              clear hK22
              refine TC.seq (fun K23 hK23 => ?_)
              refine TC.draw (fun w => Frm F w ∧ w.heap[b4]? = some (.cells (ints (RecT.mk a1 0 RowT.zero 0 BallotT.zero ChangeT.zero a2).flat).toArray 58 (0, 0)) ∧ True) mixed rfl (fun _ s => ⟨Frm.of s, s.block 1 (lb rfl) rfl, trivial⟩) ?_
              refine TD.take (i := 0) rfl (by kernel_rfl) (by kernel_rfl) (by kernel_rfl) (fun _ _ _ _ h => h) (Want.plain rfl) rfl rfl (PV.loadN (vs := ints (RecT.mk a1 0 RowT.zero 0 BallotT.zero ChangeT.zero a2).flat) rfl Try.underlying58 rfl sz58 rfl (fun _ h => h.2.1) (RecT.len (RecT.mk a1 0 RowT.zero 0 BallotT.zero ChangeT.zero a2)) (whole (RecT.len (RecT.mk a1 0 RowT.zero 0 BallotT.zero ChangeT.zero a2)))) ?_
              refine TD.take (i := 1) rfl (by kernel_rfl) (by kernel_rfl) (by kernel_rfl) (fun _ _ _ _ h => h) (Want.plain rfl) rfl rfl (PV.fieldAddr (r := 182) rfl Try.underlying58 rfl sz25 rfl rfl) ?_
              refine TD.take (i := 2) rfl (by kernel_rfl) (by kernel_rfl) (by kernel_rfl) (fun _ _ _ _ h => h) (Want.plain rfl) rfl rfl (PV.loadN (vs := ints a2.flat) rfl Try.underlying25 rfl sz25 rfl (fun _ h => h.2.1) (ViewT.len a2) (RecT.sub_view (RecT.mk a1 0 RowT.zero 0 BallotT.zero ChangeT.zero a2) 0 rfl (by decide) (whole (ViewT.len a2)))) ?_
              refine TD.all [3] (by kernel_rfl) rfl ?_
              refine AllT.cons rfl ?_ ?_
              · skip
                refine TL.callR (A := []) (B := [blkA rb [v2] 99, blkA b4 (ints (RecT.mk a1 0 RowT.zero 0 BallotT.zero ChangeT.zero a2).flat) 58, blkA b2 (ints RecT.zero.flat) 58]) (Want.plain rfl) rfl rfl rfl nm16 rfl (viewRight_does a2 (view_rng hp2)) (fun _ s => s) (fun _ _ _ => trivial) (fun vR HR hR => ?_)
                obtain ⟨rfl, rfl⟩ := hR
                change TL _ _ _ _ _ _ _ _ _ [blkA rb [v2] 99, blkA b4 (ints (RecT.mk a1 0 RowT.zero 0 BallotT.zero ChangeT.zero a2).flat) 58, blkA b2 (ints RecT.zero.flat) 58]
                refine TL.nil ?_
                refine TE.draw (fun _ s => ⟨Frm.of s, s.block 1 (lb rfl) rfl, trivial⟩) ?_
                refine TD.all [4] (by kernel_rfl) rfl ?_
                refine AllT.cons rfl ?_ ?_
                · skip
                  refine TL.store (vs := ints (RecT.mk a1 0 RowT.zero 0 BallotT.zero ChangeT.zero a2).flat) (i := 2) (H' := [blkA rb [v2] 99, blkA b4 (ints (RecT.mk a1 0 RowT.zero 0 BallotT.zero ChangeT.zero a2).flat) 58, blkA b2 (ints (RecT.mk a1 0 RowT.zero 0 BallotT.zero ChangeT.zero a2).flat) 58]) (Want.plain rfl) rfl rfl rfl rfl rfl (by rw [(RecT.len (RecT.mk a1 0 RowT.zero 0 BallotT.zero ChangeT.zero a2))]; exact sz58) (ints_one _) rfl rfl (by have h0 := (RecT.len RecT.zero); have h1 := (RecT.len (RecT.mk a1 0 RowT.zero 0 BallotT.zero ChangeT.zero a2)); omega) (wwhole ((RecT.len RecT.zero).trans (RecT.len (RecT.mk a1 0 RowT.zero 0 BallotT.zero ChangeT.zero a2)).symm)) rfl ?_
                  refine TL.nil ?_
                  refine TE.draw (fun _ s => ⟨Frm.of s, s.block 1 (lb rfl) rfl, trivial⟩) ?_
                  refine TD.take (i := 5) rfl (by kernel_rfl) (by kernel_rfl) (by kernel_rfl) (fun _ _ _ _ h => h) (Want.plain rfl) rfl rfl (PV.assign rfl rfl) ?_
                  refine TD.done (by kernel_rfl) ?_
                  refine TE.next hK23 ?_
                  clear hK23
                  refine TC.ret ?_
                  refine TE.blockRet ?_
                  refine TE.passRet ?_
                  clear hK3
                  refine TE.retCT (H' := [blkA rb [v2] 99]) rfl rfl rfl Try.underlying58 rfl sz58 (Rd.own 2 rfl rfl) (RecT.len (RecT.mk a1 0 RowT.zero 0 BallotT.zero ChangeT.zero a2)) (fun _ s => sep_keep [0] rfl s) ?_
                  exact ⟨((RecT.mk a1 0 RowT.zero 0 BallotT.zero ChangeT.zero a2), (rightV a2)), _, _, rfl, rfl, by simp [readRecP, kRow, kAsk, pr, pb_some hp1, pb_some hp2, h11, h20, h32, h37, h45, h56, MsgT.zero, RecT.zero, *], (ht1.trans ht2)⟩
                exact AllT.nil
              exact AllT.nil
            · skip
              refine TL.v (Want.plain rfl) rfl rfl (PV.assign rfl rfl) ?_
              refine TL.nil ?_
              refine TE.next hK21 ?_
              clear hK21
              refine TC.no rfl ?_
              refine TC.skip ?_
              refine TE.blockEnd ?_
              refine TE.next hK3 ?_
              clear hK3
              refine TC.seq (fun K24 hK24 => ?_)
              refine TC.region ?_
              refine TL.v (Want.plain rfl) rfl rfl (PV.loadN (vs := ints (RecT.mk a1 0 RowT.zero 0 BallotT.zero ChangeT.zero ViewT.zero).flat) rfl Try.underlying58 rfl sz58 rfl (Rd.own 0 rfl rfl) (RecT.len (RecT.mk a1 0 RowT.zero 0 BallotT.zero ChangeT.zero ViewT.zero)) (whole (RecT.len (RecT.mk a1 0 RowT.zero 0 BallotT.zero ChangeT.zero ViewT.zero)))) ?_
              refine TL.store (vs := ints (RecT.mk a1 0 RowT.zero 0 BallotT.zero ChangeT.zero ViewT.zero).flat) (i := 2) (H' := [blkA b4 (ints (RecT.mk a1 0 RowT.zero 0 BallotT.zero ChangeT.zero ViewT.zero).flat) 58, blkA rb [v1] 99, blkA b2 (ints (RecT.mk a1 0 RowT.zero 0 BallotT.zero ChangeT.zero ViewT.zero).flat) 58]) (Want.plain rfl) rfl rfl rfl rfl rfl (by rw [(RecT.len (RecT.mk a1 0 RowT.zero 0 BallotT.zero ChangeT.zero ViewT.zero))]; exact sz58) (ints_one _) rfl rfl (by have h0 := (RecT.len RecT.zero); have h1 := (RecT.len (RecT.mk a1 0 RowT.zero 0 BallotT.zero ChangeT.zero ViewT.zero)); omega) (wwhole ((RecT.len RecT.zero).trans (RecT.len (RecT.mk a1 0 RowT.zero 0 BallotT.zero ChangeT.zero ViewT.zero)).symm)) rfl ?_
              refine TL.v (Want.plain rfl) rfl rfl (PV.assign rfl rfl) ?_
              refine TL.nil ?_
              refine TE.next hK24 ?_
              clear hK24
              refine TC.ret ?_
              refine TE.retCT (H' := [blkA rb [v1] 99]) rfl rfl rfl Try.underlying58 rfl sz58 (Rd.own 2 rfl rfl) (RecT.len (RecT.mk a1 0 RowT.zero 0 BallotT.zero ChangeT.zero ViewT.zero)) (fun _ s => sep_keep [1] rfl s) ?_
              exact ⟨((RecT.mk a1 0 RowT.zero 0 BallotT.zero ChangeT.zero ViewT.zero), true), _, _, rfl, rfl, by simp [readRecP, kRow, kAsk, pr, pb_some hp1, h11, h20, h32, h37, h45, h56, MsgT.zero, RecT.zero, *], ht1⟩


theorem dec1_does (rb mb gb : Nat) (v : Value) (bs : List UInt8) (m0 : MsgT) (g0 : Bool) :
    Does Try.prog 31 #[(.pointer (some ⟨rb, 0, none⟩)), (.pointer (some ⟨mb, 0, none⟩)), (.pointer (some ⟨gb, 0, none⟩))] (IsB v bs) [blkA rb [v] 99, blkA mb (ints m0.flat) 44, blkA gb [(.bool (g0))] 4] (RetP (fun _ H => ∃ x' r a, H = blkA rb [x'] 99 :: [blkA mb (ints a.1.flat) 44, blkA gb [.bool a.2] 4] ∧ Tail v bs x' r ∧ readMsgP bs = some (a, r)) (fun c H => c = giveUp ∧ ∃ (x' : Value) (_ : Unit), H = blkA rb [x'] 99 :: [blkA mb (ints m0.flat) 44, blkA gb [.bool g0] 4] ∧ readMsgP bs = none)) := by
  refine Does.body (vs := [(.pointer (some ⟨rb, 0, none⟩)), (.pointer (some ⟨mb, 0, none⟩)), (.pointer (some ⟨gb, 0, none⟩))]) (n := 9) Try.func31 rfl rfl rfl (fun w0 F hF => ?_)
  refine TC.region ?_
  refine TL.v (Want.plain rfl) rfl rfl (PV.move rfl rfl) ?_
  refine TL.callP (A := [blkA rb [v] 99]) (B := [blkA mb (ints m0.flat) 44, blkA gb [(.bool (g0))] 4]) (Want.plain rfl) rfl rfl rfl nm32 rfl (readMsg_does rb v bs) (fun _ s => s) (fun _ d _ => (hF).more d) (fun cP HP hP => ?_) (fun vR HR hR => ?_)
  · skip
    obtain ⟨vP, rfl, rfl, hpP⟩ := hP
    change TE _ _ _ _ _ _ _ [blkA rb [vP] 99, blkA mb (ints m0.flat) 44, blkA gb [(.bool (g0))] 4]
    refine TE.weak (Sub.refl _) (fun _ s => sep_keep [0, 0, 0] rfl s) ?_
    refine TE.panicked ?_
    exact ⟨rfl, _, (), rfl, hpP⟩
  obtain ⟨a1, r1, v1, rfl, rfl, hp1, ht1⟩ := hR
  change TL _ _ _ _ _ _ _ _ _ [blkA rb [v1] 99, blkA mb (ints m0.flat) 44, blkA gb [(.bool (g0))] 4]
  refine TL.v (Want.plain rfl) rfl rfl (PV.move rfl rfl) ?_
  refine TL.v (Want.plain rfl) rfl rfl (PV.extract (vs := [(.agg (ints a1.1.flat).toArray), (.bool (a1.2))]) rfl rfl rfl) ?_
  refine TL.v (Want.plain rfl) rfl rfl (PV.extract (vs := [(.agg (ints a1.1.flat).toArray), (.bool (a1.2))]) rfl rfl rfl) ?_
  refine TL.store (vs := ints a1.1.flat) (i := 1) (H' := [blkA rb [v1] 99, blkA mb (ints a1.1.flat) 44, blkA gb [(.bool (g0))] 4]) (Want.plain rfl) rfl rfl rfl rfl rfl (by rw [(MsgT.len a1.1)]; exact sz44) (ints_one _) rfl rfl (by have h0 := (MsgT.len m0); have h1 := (MsgT.len a1.1); omega) (wwhole ((MsgT.len m0).trans (MsgT.len a1.1).symm)) rfl ?_
  refine TL.store1 (i := 2) (H' := [blkA rb [v1] 99, blkA mb (ints a1.1.flat) 44, blkA gb [(.bool (a1.2))] 4]) (Want.plain rfl) rfl rfl rfl rfl rfl sz4 rfl rfl (lb rfl) rfl rfl ?_
  refine TL.nil ?_
  refine TE.weak (Sub.refl _) (fun _ s => sep_keep [0, 0, 0] rfl s) ?_
  refine TE.end0 rfl ?_
  exact ⟨_, _, _, rfl, ht1, hp1⟩


theorem decode_does (x : Value) (bs : List UInt8) :
    Does Try.prog 13 #[x] (IsB x bs) [] (Ret (fun r' H => r' = .tuple #[.agg (ints (decM bs).1.flat).toArray, .int .i64 (decM bs).2] ∧ H = [])) := by
  refine Does.body (vs := [x]) (n := 18) Try.func13 rfl rfl rfl (fun w0 F hF => ?_)
  refine TC.seq (fun K1 hK1 => ?_)
  refine TC.region ?_
  refine TL.alloc (Want.plain rfl) rfl rfl rfl z44 (fun b2 => ?_)
  change TL _ _ _ _ _ _ _ _ _ [blkA b2 (ints MsgT.zero.flat) 44]
  refine TL.v (Want.plain rfl) rfl rfl (PV.assign rfl rfl) ?_
  refine TL.nil ?_
  refine TE.next hK1 ?_
  clear hK1
  refine TC.seq (fun K2 hK2 => ?_)
  refine TC.region ?_
  refine TL.alloc (Want.plain rfl) rfl rfl rfl z44 (fun b4 => ?_)
  change TL _ _ _ _ _ _ _ _ _ [blkA b4 (ints MsgT.zero.flat) 44, blkA b2 (ints MsgT.zero.flat) 44]
  refine TL.nil ?_
  refine TE.next hK2 ?_
  clear hK2
  refine TC.seq (fun K3 hK3 => ?_)
  refine TC.region ?_
  refine TL.alloc (Want.plain rfl) rfl rfl rfl z4 (fun b5 => ?_)
  change TL _ _ _ _ _ _ _ _ _ [blkA b5 [(.bool false)] 4, blkA b4 (ints MsgT.zero.flat) 44, blkA b2 (ints MsgT.zero.flat) 44]
  refine TL.store1 (i := 0) (H' := [blkA b5 [(.bool false)] 4, blkA b4 (ints MsgT.zero.flat) 44, blkA b2 (ints MsgT.zero.flat) 44]) (Want.plain rfl) rfl rfl rfl rfl rfl sz4 rfl rfl (lb rfl) rfl rfl ?_
  refine TL.nil ?_
  refine TE.next hK3 ?_
  clear hK3
  refine TC.seq (fun K4 hK4 => ?_)
  refine TC.region ?_
  refine TL.v (Want.plain rfl) rfl rfl (PV.move rfl rfl) ?_
  refine TL.v (Want.plain rfl) rfl rfl (PV.mkFunc rfl rfl) ?_
  refine TL.callR (A := [blkA b4 (ints MsgT.zero.flat) 44, blkA b5 [(.bool false)] 4]) (B := [blkA b2 (ints MsgT.zero.flat) 44]) (Want.plain rfl) rfl rfl rfl nm29 rfl (read_with (bs := bs) (C := [blkA b4 (ints MsgT.zero.flat) 44, blkA b5 [(.bool false)] 4]) (caps := [(.pointer (some ⟨b4, 0, none⟩)), (.pointer (some ⟨b5, 0, none⟩))]) (A := fun a : MsgT × Bool => [blkA b4 (ints a.1.flat) 44, blkA b5 [.bool a.2] 4]) (G := fun _ : Unit => [blkA b4 (ints MsgT.zero.flat) 44, blkA b5 [(.bool false)] 4]) (φ := fun a r => readMsgP bs = some (a, r)) (ψ := fun _ => readMsgP bs = none) (fun _ h => h) (fun _ _ h d => h.more d) nm31 (fun rb => dec1_does rb b4 b5 x bs MsgT.zero false)) (fun _ s => sep_selR [1, 0] rfl s) (fun _ d _ => (hF).more d) (fun vR HR hR => ?_)
  rcases hR with ⟨r, ⟨m, g⟩, rfl, rfl, hs⟩ | ⟨_, rfl, rfl, hs⟩
  · skip
    change TL _ _ _ _ _ _ _ _ _ [blkA b4 (ints m.flat) 44, blkA b5 [(.bool (g))] 4, blkA b2 (ints MsgT.zero.flat) 44]
    refine TL.dec (fun h9 => ?_) (fun h9 => ?_)
    · skip
      refine TL.v (Want.plain rfl) rfl rfl (PV.assign rfl rfl) ?_
      refine TL.nil ?_
      refine TE.next hK4 ?_
      clear hK4
      refine TC.seq (fun K5 hK5 => ?_)
      refine TC.seq (fun K6 hK6 => ?_)
      refine TC.region ?_
      refine TL.v (Want.plain rfl) rfl rfl (PV.move rfl rfl) ?_
      refine TL.v (Want.plain rfl) rfl rfl (PV.not (r := false) rfl rfl rfl) ?_
      refine TL.v (Want.plain rfl) rfl rfl (PV.move rfl rfl) ?_
      refine TL.v (Want.met rfl rfl rfl) rfl rfl (PV.load1 (v := (.bool (g))) rfl Try.underlying4 rfl rfl (Rd.own 1 rfl rfl) rfl) ?_
      refine TL.decB (fun h13 => ?_) (fun h13 => ?_)
      · skip
        refine TL.v (Want.met rfl rfl rfl) rfl rfl (PV.not (r := false) rfl rfl rfl) ?_
        refine TL.v (Want.plain rfl) rfl rfl (PV.pick rfl rfl rfl) ?_
        refine TL.nil ?_
        refine TE.next hK6 ?_
        clear hK6
        refine TC.no rfl ?_
        refine TC.skip ?_
        refine TE.next hK5 ?_
        clear hK5
        refine TC.seq (fun K7 hK7 => ?_)
        refine TC.region ?_
        refine TL.v (Want.plain rfl) rfl rfl (PV.loadN (vs := ints m.flat) rfl Try.underlying44 rfl sz44 rfl (Rd.own 0 rfl rfl) (MsgT.len m) (whole (MsgT.len m))) ?_
        refine TL.store (vs := ints m.flat) (i := 2) (H' := [blkA b4 (ints m.flat) 44, blkA b5 [(.bool (g))] 4, blkA b2 (ints m.flat) 44]) (Want.plain rfl) rfl rfl rfl rfl rfl (by rw [(MsgT.len m)]; exact sz44) (ints_one _) rfl rfl (by have h0 := (MsgT.len MsgT.zero); have h1 := (MsgT.len m); omega) (wwhole ((MsgT.len MsgT.zero).trans (MsgT.len m).symm)) rfl ?_
        refine TL.v (Want.plain rfl) rfl rfl (PV.assign rfl rfl) ?_
        refine TL.nil ?_
        refine TE.next hK7 ?_
        clear hK7
        refine TC.ret ?_
        refine TE.retCT (H' := []) rfl rfl rfl Try.underlying44 rfl sz44 (Rd.own 2 rfl rfl) (MsgT.len m) (fun _ s => sep_keep [] rfl s) ?_
        exact ⟨by simp [decM, *], rfl⟩
      · skip
        refine TL.v (Want.met rfl rfl rfl) rfl rfl (PV.not (r := true) rfl rfl rfl) ?_
        refine TL.v (Want.plain rfl) rfl rfl (PV.pick rfl rfl rfl) ?_
        refine TL.nil ?_
        refine TE.next hK6 ?_
        clear hK6
        refine TC.yes rfl ?_
        refine TC.seq (fun K8 hK8 => ?_)
        refine TC.region ?_
        refine TL.v (Want.plain rfl) rfl rfl (PV.build (cells := (ints MsgT.zero.flat).toArray) rfl rfl (by as_aux_lemma => kernel_rfl)) ?_
        refine TL.store (vs := ints MsgT.zero.flat) (i := 2) (H' := [blkA b4 (ints m.flat) 44, blkA b5 [(.bool (g))] 4, blkA b2 (ints MsgT.zero.flat) 44]) (Want.plain rfl) rfl rfl rfl rfl rfl (by rw [(MsgT.len MsgT.zero)]; exact sz44) (ints_one _) rfl rfl (by have h0 := (MsgT.len MsgT.zero); have h1 := (MsgT.len MsgT.zero); omega) (wwhole ((MsgT.len MsgT.zero).trans (MsgT.len MsgT.zero).symm)) rfl ?_
        refine TL.v (Want.plain rfl) rfl rfl (PV.assign rfl rfl) ?_
        refine TL.nil ?_
        refine TE.next hK8 ?_
        clear hK8
        refine TC.ret ?_
        refine TE.passRet ?_
        clear hK5
        refine TE.retCT (H' := []) rfl rfl rfl Try.underlying44 rfl sz44 (Rd.own 2 rfl rfl) (MsgT.len MsgT.zero) (fun _ s => sep_keep [] rfl s) ?_
        exact ⟨by simp [decM, *], rfl⟩
    · skip
      refine TL.v (Want.plain rfl) rfl rfl (PV.assign rfl rfl) ?_
      refine TL.nil ?_
      refine TE.next hK4 ?_
      clear hK4
      refine TC.seq (fun K9 hK9 => ?_)
      refine TC.seq (fun K10 hK10 => ?_)
      refine TC.region ?_
      refine TL.v (Want.plain rfl) rfl rfl (PV.move rfl rfl) ?_
      refine TL.v (Want.plain rfl) rfl rfl (PV.not (r := true) rfl rfl rfl) ?_
      refine TL.v (Want.plain rfl) rfl rfl (PV.move rfl rfl) ?_
      refine TL.unmet (b := true) rfl rfl rfl rfl (lb rfl) ?_
      refine TL.unmet (b := true) rfl rfl rfl rfl (lb rfl) ?_
      refine TL.v (Want.plain rfl) rfl rfl (PV.pick rfl rfl rfl) ?_
      refine TL.nil ?_
      refine TE.next hK10 ?_
      clear hK10
      refine TC.yes rfl ?_
      refine TC.seq (fun K11 hK11 => ?_)
      refine TC.region ?_
      refine TL.v (Want.plain rfl) rfl rfl (PV.build (cells := (ints MsgT.zero.flat).toArray) rfl rfl (by as_aux_lemma => kernel_rfl)) ?_
      refine TL.store (vs := ints MsgT.zero.flat) (i := 2) (H' := [blkA b4 (ints m.flat) 44, blkA b5 [(.bool (g))] 4, blkA b2 (ints MsgT.zero.flat) 44]) (Want.plain rfl) rfl rfl rfl rfl rfl (by rw [(MsgT.len MsgT.zero)]; exact sz44) (ints_one _) rfl rfl (by have h0 := (MsgT.len MsgT.zero); have h1 := (MsgT.len MsgT.zero); omega) (wwhole ((MsgT.len MsgT.zero).trans (MsgT.len MsgT.zero).symm)) rfl ?_
      refine TL.v (Want.plain rfl) rfl rfl (PV.assign rfl rfl) ?_
      refine TL.nil ?_
      refine TE.next hK11 ?_
      clear hK11
      refine TC.ret ?_
      refine TE.passRet ?_
      clear hK9
      refine TE.retCT (H' := []) rfl rfl rfl Try.underlying44 rfl sz44 (Rd.own 2 rfl rfl) (MsgT.len MsgT.zero) (fun _ s => sep_keep [] rfl s) ?_
      exact ⟨by simp [decM, *], rfl⟩
  · skip
    change TL _ _ _ _ _ _ _ _ _ [blkA b4 (ints MsgT.zero.flat) 44, blkA b5 [(.bool false)] 4, blkA b2 (ints MsgT.zero.flat) 44]
    refine TL.v (Want.plain rfl) rfl rfl (PV.assign rfl rfl) ?_
    refine TL.nil ?_
    refine TE.next hK4 ?_
    clear hK4
    refine TC.seq (fun K12 hK12 => ?_)
    refine TC.seq (fun K13 hK13 => ?_)
    refine TC.region ?_
    refine TL.v (Want.plain rfl) rfl rfl (PV.move rfl rfl) ?_
    refine TL.v (Want.plain rfl) rfl rfl (PV.not (r := true) rfl rfl rfl) ?_
    refine TL.v (Want.plain rfl) rfl rfl (PV.move rfl rfl) ?_
    refine TL.unmet (b := true) rfl rfl rfl rfl (lb rfl) ?_
    refine TL.unmet (b := true) rfl rfl rfl rfl (lb rfl) ?_
    refine TL.v (Want.plain rfl) rfl rfl (PV.pick rfl rfl rfl) ?_
    refine TL.nil ?_
    refine TE.next hK13 ?_
    clear hK13
    refine TC.yes rfl ?_
    refine TC.seq (fun K14 hK14 => ?_)
    refine TC.region ?_
    refine TL.v (Want.plain rfl) rfl rfl (PV.build (cells := (ints MsgT.zero.flat).toArray) rfl rfl (by as_aux_lemma => kernel_rfl)) ?_
    refine TL.store (vs := ints MsgT.zero.flat) (i := 2) (H' := [blkA b4 (ints MsgT.zero.flat) 44, blkA b5 [(.bool false)] 4, blkA b2 (ints MsgT.zero.flat) 44]) (Want.plain rfl) rfl rfl rfl rfl rfl (by rw [(MsgT.len MsgT.zero)]; exact sz44) (ints_one _) rfl rfl (by have h0 := (MsgT.len MsgT.zero); have h1 := (MsgT.len MsgT.zero); omega) (wwhole ((MsgT.len MsgT.zero).trans (MsgT.len MsgT.zero).symm)) rfl ?_
    refine TL.v (Want.plain rfl) rfl rfl (PV.assign rfl rfl) ?_
    refine TL.nil ?_
    refine TE.next hK14 ?_
    clear hK14
    refine TC.ret ?_
    refine TE.passRet ?_
    clear hK12
    refine TE.retCT (H' := []) rfl rfl rfl Try.underlying44 rfl sz44 (Rd.own 2 rfl rfl) (MsgT.len MsgT.zero) (fun _ s => sep_keep [] rfl s) ?_
    exact ⟨by simp [decM, *], rfl⟩


theorem rec1_does (rb mb gb : Nat) (v : Value) (bs : List UInt8) (m0 : RecT) (g0 : Bool) :
    Does Try.prog 39 #[(.pointer (some ⟨rb, 0, none⟩)), (.pointer (some ⟨mb, 0, none⟩)), (.pointer (some ⟨gb, 0, none⟩))] (IsB v bs) [blkA rb [v] 99, blkA mb (ints m0.flat) 58, blkA gb [(.bool (g0))] 4] (RetP (fun _ H => ∃ x' r a, H = blkA rb [x'] 99 :: [blkA mb (ints a.1.flat) 58, blkA gb [.bool a.2] 4] ∧ Tail v bs x' r ∧ readRecP bs = some (a, r)) (fun c H => c = giveUp ∧ ∃ (x' : Value) (_ : Unit), H = blkA rb [x'] 99 :: [blkA mb (ints m0.flat) 58, blkA gb [.bool g0] 4] ∧ readRecP bs = none)) := by
  refine Does.body (vs := [(.pointer (some ⟨rb, 0, none⟩)), (.pointer (some ⟨mb, 0, none⟩)), (.pointer (some ⟨gb, 0, none⟩))]) (n := 9) Try.func39 rfl rfl rfl (fun w0 F hF => ?_)
  refine TC.region ?_
  refine TL.v (Want.plain rfl) rfl rfl (PV.move rfl rfl) ?_
  refine TL.callP (A := [blkA rb [v] 99]) (B := [blkA mb (ints m0.flat) 58, blkA gb [(.bool (g0))] 4]) (Want.plain rfl) rfl rfl rfl nm40 rfl (readRec_does rb v bs) (fun _ s => s) (fun _ d _ => (hF).more d) (fun cP HP hP => ?_) (fun vR HR hR => ?_)
  · skip
    obtain ⟨vP, rfl, rfl, hpP⟩ := hP
    change TE _ _ _ _ _ _ _ [blkA rb [vP] 99, blkA mb (ints m0.flat) 58, blkA gb [(.bool (g0))] 4]
    refine TE.weak (Sub.refl _) (fun _ s => sep_keep [0, 0, 0] rfl s) ?_
    refine TE.panicked ?_
    exact ⟨rfl, _, (), rfl, hpP⟩
  obtain ⟨a1, r1, v1, rfl, rfl, hp1, ht1⟩ := hR
  change TL _ _ _ _ _ _ _ _ _ [blkA rb [v1] 99, blkA mb (ints m0.flat) 58, blkA gb [(.bool (g0))] 4]
  refine TL.v (Want.plain rfl) rfl rfl (PV.move rfl rfl) ?_
  refine TL.v (Want.plain rfl) rfl rfl (PV.extract (vs := [(.agg (ints a1.1.flat).toArray), (.bool (a1.2))]) rfl rfl rfl) ?_
  refine TL.v (Want.plain rfl) rfl rfl (PV.extract (vs := [(.agg (ints a1.1.flat).toArray), (.bool (a1.2))]) rfl rfl rfl) ?_
  refine TL.store (vs := ints a1.1.flat) (i := 1) (H' := [blkA rb [v1] 99, blkA mb (ints a1.1.flat) 58, blkA gb [(.bool (g0))] 4]) (Want.plain rfl) rfl rfl rfl rfl rfl (by rw [(RecT.len a1.1)]; exact sz58) (ints_one _) rfl rfl (by have h0 := (RecT.len m0); have h1 := (RecT.len a1.1); omega) (wwhole ((RecT.len m0).trans (RecT.len a1.1).symm)) rfl ?_
  refine TL.store1 (i := 2) (H' := [blkA rb [v1] 99, blkA mb (ints a1.1.flat) 58, blkA gb [(.bool (a1.2))] 4]) (Want.plain rfl) rfl rfl rfl rfl rfl sz4 rfl rfl (lb rfl) rfl rfl ?_
  refine TL.nil ?_
  refine TE.weak (Sub.refl _) (fun _ s => sep_keep [0, 0, 0] rfl s) ?_
  refine TE.end0 rfl ?_
  exact ⟨_, _, _, rfl, ht1, hp1⟩


theorem readRecord_does (x : Value) (bs : List UInt8) :
    Does Try.prog 20 #[x] (IsB x bs) [] (Ret (fun r' H => r' = .tuple #[.agg (ints (decR bs).1.flat).toArray, .int .i64 (decR bs).2] ∧ H = [])) := by
  refine Does.body (vs := [x]) (n := 18) Try.func20 rfl rfl rfl (fun w0 F hF => ?_)
  refine TC.seq (fun K1 hK1 => ?_)
  refine TC.region ?_
  refine TL.alloc (Want.plain rfl) rfl rfl rfl z58 (fun b2 => ?_)
  change TL _ _ _ _ _ _ _ _ _ [blkA b2 (ints RecT.zero.flat) 58]
  refine TL.v (Want.plain rfl) rfl rfl (PV.assign rfl rfl) ?_
  refine TL.nil ?_
  refine TE.next hK1 ?_
  clear hK1
  refine TC.seq (fun K2 hK2 => ?_)
  refine TC.region ?_
  refine TL.alloc (Want.plain rfl) rfl rfl rfl z58 (fun b4 => ?_)
  change TL _ _ _ _ _ _ _ _ _ [blkA b4 (ints RecT.zero.flat) 58, blkA b2 (ints RecT.zero.flat) 58]
  refine TL.nil ?_
  refine TE.next hK2 ?_
  clear hK2
  refine TC.seq (fun K3 hK3 => ?_)
  refine TC.region ?_
  refine TL.alloc (Want.plain rfl) rfl rfl rfl z4 (fun b5 => ?_)
  change TL _ _ _ _ _ _ _ _ _ [blkA b5 [(.bool false)] 4, blkA b4 (ints RecT.zero.flat) 58, blkA b2 (ints RecT.zero.flat) 58]
  refine TL.store1 (i := 0) (H' := [blkA b5 [(.bool false)] 4, blkA b4 (ints RecT.zero.flat) 58, blkA b2 (ints RecT.zero.flat) 58]) (Want.plain rfl) rfl rfl rfl rfl rfl sz4 rfl rfl (lb rfl) rfl rfl ?_
  refine TL.nil ?_
  refine TE.next hK3 ?_
  clear hK3
  refine TC.seq (fun K4 hK4 => ?_)
  refine TC.region ?_
  refine TL.v (Want.plain rfl) rfl rfl (PV.move rfl rfl) ?_
  refine TL.v (Want.plain rfl) rfl rfl (PV.mkFunc rfl rfl) ?_
  refine TL.callR (A := [blkA b4 (ints RecT.zero.flat) 58, blkA b5 [(.bool false)] 4]) (B := [blkA b2 (ints RecT.zero.flat) 58]) (Want.plain rfl) rfl rfl rfl nm29 rfl (read_with (bs := bs) (C := [blkA b4 (ints RecT.zero.flat) 58, blkA b5 [(.bool false)] 4]) (caps := [(.pointer (some ⟨b4, 0, none⟩)), (.pointer (some ⟨b5, 0, none⟩))]) (A := fun a : RecT × Bool => [blkA b4 (ints a.1.flat) 58, blkA b5 [.bool a.2] 4]) (G := fun _ : Unit => [blkA b4 (ints RecT.zero.flat) 58, blkA b5 [(.bool false)] 4]) (φ := fun a r => readRecP bs = some (a, r)) (ψ := fun _ => readRecP bs = none) (fun _ h => h) (fun _ _ h d => h.more d) nm39 (fun rb => rec1_does rb b4 b5 x bs RecT.zero false)) (fun _ s => sep_selR [1, 0] rfl s) (fun _ d _ => (hF).more d) (fun vR HR hR => ?_)
  rcases hR with ⟨r, ⟨m, g⟩, rfl, rfl, hs⟩ | ⟨_, rfl, rfl, hs⟩
  · skip
    change TL _ _ _ _ _ _ _ _ _ [blkA b4 (ints m.flat) 58, blkA b5 [(.bool (g))] 4, blkA b2 (ints RecT.zero.flat) 58]
    refine TL.dec (fun h9 => ?_) (fun h9 => ?_)
    · skip
      refine TL.v (Want.plain rfl) rfl rfl (PV.assign rfl rfl) ?_
      refine TL.nil ?_
      refine TE.next hK4 ?_
      clear hK4
      refine TC.seq (fun K5 hK5 => ?_)
      refine TC.seq (fun K6 hK6 => ?_)
      refine TC.region ?_
      refine TL.v (Want.plain rfl) rfl rfl (PV.move rfl rfl) ?_
      refine TL.v (Want.plain rfl) rfl rfl (PV.not (r := false) rfl rfl rfl) ?_
      refine TL.v (Want.plain rfl) rfl rfl (PV.move rfl rfl) ?_
      refine TL.v (Want.met rfl rfl rfl) rfl rfl (PV.load1 (v := (.bool (g))) rfl Try.underlying4 rfl rfl (Rd.own 1 rfl rfl) rfl) ?_
      refine TL.decB (fun h13 => ?_) (fun h13 => ?_)
      · skip
        refine TL.v (Want.met rfl rfl rfl) rfl rfl (PV.not (r := false) rfl rfl rfl) ?_
        refine TL.v (Want.plain rfl) rfl rfl (PV.pick rfl rfl rfl) ?_
        refine TL.nil ?_
        refine TE.next hK6 ?_
        clear hK6
        refine TC.no rfl ?_
        refine TC.skip ?_
        refine TE.next hK5 ?_
        clear hK5
        refine TC.seq (fun K7 hK7 => ?_)
        refine TC.region ?_
        refine TL.v (Want.plain rfl) rfl rfl (PV.loadN (vs := ints m.flat) rfl Try.underlying58 rfl sz58 rfl (Rd.own 0 rfl rfl) (RecT.len m) (whole (RecT.len m))) ?_
        refine TL.store (vs := ints m.flat) (i := 2) (H' := [blkA b4 (ints m.flat) 58, blkA b5 [(.bool (g))] 4, blkA b2 (ints m.flat) 58]) (Want.plain rfl) rfl rfl rfl rfl rfl (by rw [(RecT.len m)]; exact sz58) (ints_one _) rfl rfl (by have h0 := (RecT.len RecT.zero); have h1 := (RecT.len m); omega) (wwhole ((RecT.len RecT.zero).trans (RecT.len m).symm)) rfl ?_
        refine TL.v (Want.plain rfl) rfl rfl (PV.assign rfl rfl) ?_
        refine TL.nil ?_
        refine TE.next hK7 ?_
        clear hK7
        refine TC.ret ?_
        refine TE.retCT (H' := []) rfl rfl rfl Try.underlying58 rfl sz58 (Rd.own 2 rfl rfl) (RecT.len m) (fun _ s => sep_keep [] rfl s) ?_
        exact ⟨by simp [decR, *], rfl⟩
      · skip
        refine TL.v (Want.met rfl rfl rfl) rfl rfl (PV.not (r := true) rfl rfl rfl) ?_
        refine TL.v (Want.plain rfl) rfl rfl (PV.pick rfl rfl rfl) ?_
        refine TL.nil ?_
        refine TE.next hK6 ?_
        clear hK6
        refine TC.yes rfl ?_
        refine TC.seq (fun K8 hK8 => ?_)
        refine TC.region ?_
        refine TL.v (Want.plain rfl) rfl rfl (PV.build (cells := (ints RecT.zero.flat).toArray) rfl rfl (by as_aux_lemma => kernel_rfl)) ?_
        refine TL.store (vs := ints RecT.zero.flat) (i := 2) (H' := [blkA b4 (ints m.flat) 58, blkA b5 [(.bool (g))] 4, blkA b2 (ints RecT.zero.flat) 58]) (Want.plain rfl) rfl rfl rfl rfl rfl (by rw [(RecT.len RecT.zero)]; exact sz58) (ints_one _) rfl rfl (by have h0 := (RecT.len RecT.zero); have h1 := (RecT.len RecT.zero); omega) (wwhole ((RecT.len RecT.zero).trans (RecT.len RecT.zero).symm)) rfl ?_
        refine TL.v (Want.plain rfl) rfl rfl (PV.assign rfl rfl) ?_
        refine TL.nil ?_
        refine TE.next hK8 ?_
        clear hK8
        refine TC.ret ?_
        refine TE.passRet ?_
        clear hK5
        refine TE.retCT (H' := []) rfl rfl rfl Try.underlying58 rfl sz58 (Rd.own 2 rfl rfl) (RecT.len RecT.zero) (fun _ s => sep_keep [] rfl s) ?_
        exact ⟨by simp [decR, *], rfl⟩
    · skip
      refine TL.v (Want.plain rfl) rfl rfl (PV.assign rfl rfl) ?_
      refine TL.nil ?_
      refine TE.next hK4 ?_
      clear hK4
      refine TC.seq (fun K9 hK9 => ?_)
      refine TC.seq (fun K10 hK10 => ?_)
      refine TC.region ?_
      refine TL.v (Want.plain rfl) rfl rfl (PV.move rfl rfl) ?_
      refine TL.v (Want.plain rfl) rfl rfl (PV.not (r := true) rfl rfl rfl) ?_
      refine TL.v (Want.plain rfl) rfl rfl (PV.move rfl rfl) ?_
      refine TL.unmet (b := true) rfl rfl rfl rfl (lb rfl) ?_
      refine TL.unmet (b := true) rfl rfl rfl rfl (lb rfl) ?_
      refine TL.v (Want.plain rfl) rfl rfl (PV.pick rfl rfl rfl) ?_
      refine TL.nil ?_
      refine TE.next hK10 ?_
      clear hK10
      refine TC.yes rfl ?_
      refine TC.seq (fun K11 hK11 => ?_)
      refine TC.region ?_
      refine TL.v (Want.plain rfl) rfl rfl (PV.build (cells := (ints RecT.zero.flat).toArray) rfl rfl (by as_aux_lemma => kernel_rfl)) ?_
      refine TL.store (vs := ints RecT.zero.flat) (i := 2) (H' := [blkA b4 (ints m.flat) 58, blkA b5 [(.bool (g))] 4, blkA b2 (ints RecT.zero.flat) 58]) (Want.plain rfl) rfl rfl rfl rfl rfl (by rw [(RecT.len RecT.zero)]; exact sz58) (ints_one _) rfl rfl (by have h0 := (RecT.len RecT.zero); have h1 := (RecT.len RecT.zero); omega) (wwhole ((RecT.len RecT.zero).trans (RecT.len RecT.zero).symm)) rfl ?_
      refine TL.v (Want.plain rfl) rfl rfl (PV.assign rfl rfl) ?_
      refine TL.nil ?_
      refine TE.next hK11 ?_
      clear hK11
      refine TC.ret ?_
      refine TE.passRet ?_
      clear hK9
      refine TE.retCT (H' := []) rfl rfl rfl Try.underlying58 rfl sz58 (Rd.own 2 rfl rfl) (RecT.len RecT.zero) (fun _ s => sep_keep [] rfl s) ?_
      exact ⟨by simp [decR, *], rfl⟩
  · skip
    change TL _ _ _ _ _ _ _ _ _ [blkA b4 (ints RecT.zero.flat) 58, blkA b5 [(.bool false)] 4, blkA b2 (ints RecT.zero.flat) 58]
    refine TL.v (Want.plain rfl) rfl rfl (PV.assign rfl rfl) ?_
    refine TL.nil ?_
    refine TE.next hK4 ?_
    clear hK4
    refine TC.seq (fun K12 hK12 => ?_)
    refine TC.seq (fun K13 hK13 => ?_)
    refine TC.region ?_
    refine TL.v (Want.plain rfl) rfl rfl (PV.move rfl rfl) ?_
    refine TL.v (Want.plain rfl) rfl rfl (PV.not (r := true) rfl rfl rfl) ?_
    refine TL.v (Want.plain rfl) rfl rfl (PV.move rfl rfl) ?_
    refine TL.unmet (b := true) rfl rfl rfl rfl (lb rfl) ?_
    refine TL.unmet (b := true) rfl rfl rfl rfl (lb rfl) ?_
    refine TL.v (Want.plain rfl) rfl rfl (PV.pick rfl rfl rfl) ?_
    refine TL.nil ?_
    refine TE.next hK13 ?_
    clear hK13
    refine TC.yes rfl ?_
    refine TC.seq (fun K14 hK14 => ?_)
    refine TC.region ?_
    refine TL.v (Want.plain rfl) rfl rfl (PV.build (cells := (ints RecT.zero.flat).toArray) rfl rfl (by as_aux_lemma => kernel_rfl)) ?_
    refine TL.store (vs := ints RecT.zero.flat) (i := 2) (H' := [blkA b4 (ints RecT.zero.flat) 58, blkA b5 [(.bool false)] 4, blkA b2 (ints RecT.zero.flat) 58]) (Want.plain rfl) rfl rfl rfl rfl rfl (by rw [(RecT.len RecT.zero)]; exact sz58) (ints_one _) rfl rfl (by have h0 := (RecT.len RecT.zero); have h1 := (RecT.len RecT.zero); omega) (wwhole ((RecT.len RecT.zero).trans (RecT.len RecT.zero).symm)) rfl ?_
    refine TL.v (Want.plain rfl) rfl rfl (PV.assign rfl rfl) ?_
    refine TL.nil ?_
    refine TE.next hK14 ?_
    clear hK14
    refine TC.ret ?_
    refine TE.passRet ?_
    clear hK12
    refine TE.retCT (H' := []) rfl rfl rfl Try.underlying58 rfl sz58 (Rd.own 2 rfl rfl) (RecT.len RecT.zero) (fun _ s => sep_keep [] rfl s) ?_
    exact ⟨by simp [decR, *], rfl⟩


end Go.Proofs.Ytdekgkmbcdlekaa
