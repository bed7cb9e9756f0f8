/-
  MsgAny: what it reckons.
-/

import Derived.Test.YtdekgkmbcdlekaaLaw15F

namespace Go.Proofs.Ytdekgkmbcdlekaa

open Go Leg Codec Api

set_option linter.unusedSimpArgs false
set_option linter.unusedVariables false

set_option maxRecDepth 100000

set_option maxHeartbeats 8000000

theorem sg44 : Try.prog.eqGuardType Try.prog.depth 44 = false := by kernel_rfl
theorem sk44 : Try.prog.keyTypeAt 8 44 = true := by kernel_rfl
theorem fI44 : flatI Try.prog 8 44 = some 192 := by kernel_rfl
theorem fC44 : (match Try.prog.underlying 44 with | some (.struct _) | some (.array _ _) => true | _ => false) = true := by kernel_rfl
theorem cC44 : Try.prog.cellsOf 44 = 192 := by kernel_rfl

theorem sg58 : Try.prog.eqGuardType Try.prog.depth 58 = false := by kernel_rfl
theorem sk58 : Try.prog.keyTypeAt 8 58 = true := by kernel_rfl
theorem fI58 : flatI Try.prog 8 58 = some 189 := by kernel_rfl
theorem fC58 : (match Try.prog.underlying 58 with | some (.struct _) | some (.array _ _) => true | _ => false) = true := by kernel_rfl
theorem cC58 : Try.prog.cellsOf 58 = 189 := by kernel_rfl

theorem any_go (x : Value) (bs : List UInt8) (m : MsgT) (e : Int) (y : RecT) (f : Int) (hd1 : decM bs = (m, e)) (hd2 : decR bs = (y, f)) (hm1 : e = 0 ∧ bs = encM m ∧ rightR m.row = true ∧ WF m.row.flat ∨ e = 1 ∧ m = MsgT.zero) (hm2 : f = 0 ∧ bs = encR y ∧ rightR y.row = true ∧ WF y.row.flat ∨ f = 1 ∧ y = RecT.zero) :
    Does Try.prog 5 #[x] (IsB x bs) [] (Ret (fun r' H => r' = .bool true ∧ H = [])) := by
  refine Does.body (vs := [x]) (n := 80) Try.func5 rfl rfl rfl (fun w0 F hF => ?_)
  refine TC.seq (fun K1 hK1 => ?_)
  refine TC.region ?_
  refine TL.v (Want.plain rfl) rfl rfl (PV.assign rfl rfl) ?_
  refine TL.nil ?_
  refine TE.next hK1 ?_
  clear hK1
  refine TC.seq (fun K2 hK2 => ?_)
  refine TC.seq (fun K3 hK3 => ?_)
  refine TC.region ?_
  refine TL.callR (A := []) (B := []) (Want.plain rfl) rfl rfl rfl nm10 rfl (fit_does) (fun _ s => s) (fun _ _ _ => trivial) (fun vR HR hR => ?_)
  obtain ⟨rfl, rfl⟩ := hR
  change TL _ _ _ _ _ _ _ _ _ []
  refine TL.v (Want.plain rfl) rfl rfl (PV.not (r := false) rfl rfl rfl) ?_
  refine TL.nil ?_
  refine TE.next hK3 ?_
  clear hK3
  refine TC.no rfl ?_
  refine TC.skip ?_
  refine TE.next hK2 ?_
  clear hK2
  refine TC.seq (fun K4 hK4 => ?_)
  refine TC.seq (fun K5 hK5 => ?_)
  refine TC.region ?_
  refine TL.v (Want.plain rfl) rfl rfl (PV.move rfl rfl) ?_
  refine TL.v (Want.plain rfl) rfl rfl (PV.lenV rfl Try.underlying27 rfl hF.len) ?_
  refine TL.v (Want.plain rfl) rfl rfl (PV.gtr rfl rfl rfl) ?_
  refine TL.dec (fun h11 => ?_) (fun h11 => ?_)
  · skip
    refine TL.nil ?_
    refine TE.next hK5 ?_
    clear hK5
    refine TC.yes rfl ?_
    refine TC.seq (fun K6 hK6 => ?_)
    refine TC.region ?_
    refine TL.v (Want.plain rfl) rfl rfl (PV.assign rfl rfl) ?_
    refine TL.nil ?_
    refine TE.next hK6 ?_
    clear hK6
    refine TC.ret ?_
    refine TE.passRet ?_
    clear hK4
    refine TE.weak (Sub.refl _) (fun _ s => sep_keep [] rfl s) ?_
    refine TE.ret1 rfl rfl ?_
    exact ⟨rfl, rfl⟩
  · skip
    refine TL.nil ?_
    refine TE.next hK5 ?_
    clear hK5
    refine TC.no rfl ?_
    refine TC.skip ?_
    refine TE.next hK4 ?_
    clear hK4
    refine TC.seq (fun K7 hK7 => ?_)
    refine TC.region ?_
    refine TL.v (Want.plain rfl) rfl rfl (PV.move rfl rfl) ?_
    refine TL.callR (A := []) (B := []) (Want.plain rfl) rfl rfl rfl nm13 rfl (decode_is (hd1)) (fun _ s => s) (fun _ d _ => (hF).more d) (fun vR HR hR => ?_)
    obtain ⟨rfl, rfl⟩ := hR
    change TL _ _ _ _ _ _ _ _ _ []
    refine TL.v (Want.plain rfl) rfl rfl (PV.move rfl rfl) ?_
    refine TL.v (Want.plain rfl) rfl rfl (PV.extract (vs := [(.agg (ints m.flat).toArray), (.int .i64 (e))]) rfl rfl rfl) ?_
    refine TL.v (Want.plain rfl) rfl rfl (PV.extract (vs := [(.agg (ints m.flat).toArray), (.int .i64 (e))]) rfl rfl rfl) ?_
    refine TL.alloc (Want.plain rfl) rfl rfl rfl z44 (fun b3 => ?_)
    change TL _ _ _ _ _ _ _ _ _ [blkA b3 (ints MsgT.zero.flat) 44]
    refine TL.store (vs := ints m.flat) (i := 0) (H' := [blkA b3 (ints m.flat) 44]) (Want.plain rfl) rfl rfl rfl rfl rfl (by rw [(MsgT.len m)]; exact sz44) (ints_one _) rfl rfl (by have h0 := (MsgT.len MsgT.zero); have h1 := (MsgT.len m); omega) (wwhole ((MsgT.len MsgT.zero).trans (MsgT.len m).symm)) rfl ?_
    refine TL.v (Want.plain rfl) rfl rfl (PV.assign rfl rfl) ?_
    refine TL.nil ?_
    refine TE.next hK7 ?_
    clear hK7
    refine TC.seq (fun K8 hK8 => ?_)
    refine TC.region ?_
    refine TL.v (Want.plain rfl) rfl rfl (PV.move rfl rfl) ?_
    refine TL.callR (A := []) (B := [blkA b3 (ints m.flat) 44]) (Want.plain rfl) rfl rfl rfl nm20 rfl (readRecord_is (hd2)) (fun _ s => s) (fun _ d _ => (hF).more d) (fun vR HR hR => ?_)
    obtain ⟨rfl, rfl⟩ := hR
    change TL _ _ _ _ _ _ _ _ _ [blkA b3 (ints m.flat) 44]
    refine TL.v (Want.plain rfl) rfl rfl (PV.move rfl rfl) ?_
    refine TL.v (Want.plain rfl) rfl rfl (PV.extract (vs := [(.agg (ints y.flat).toArray), (.int .i64 (f))]) rfl rfl rfl) ?_
    refine TL.v (Want.plain rfl) rfl rfl (PV.extract (vs := [(.agg (ints y.flat).toArray), (.int .i64 (f))]) rfl rfl rfl) ?_
    refine TL.alloc (Want.plain rfl) rfl rfl rfl z58 (fun b5 => ?_)
    change TL _ _ _ _ _ _ _ _ _ [blkA b5 (ints RecT.zero.flat) 58, blkA b3 (ints m.flat) 44]
    refine TL.store (vs := ints y.flat) (i := 0) (H' := [blkA b5 (ints y.flat) 58, blkA b3 (ints m.flat) 44]) (Want.plain rfl) rfl rfl rfl rfl rfl (by rw [(RecT.len y)]; exact sz58) (ints_one _) rfl rfl (by have h0 := (RecT.len RecT.zero); have h1 := (RecT.len y); omega) (wwhole ((RecT.len RecT.zero).trans (RecT.len y).symm)) rfl ?_
    refine TL.v (Want.plain rfl) rfl rfl (PV.assign rfl rfl) ?_
    refine TL.nil ?_
    refine TE.next hK8 ?_
    clear hK8
    refine TC.seq (fun K9 hK9 => ?_)
    refine TC.seq (fun K10 hK10 => ?_)
    refine TC.draw (fun w => Frm F w ∧ w.heap[b3]? = some (.cells (ints m.flat).toArray 44 (0, 0)) ∧ True) mixed rfl (fun _ s => ⟨Frm.of s, s.block 1 (lb rfl) rfl, trivial⟩) ?_
    refine TD.take (i := 0) rfl (by kernel_rfl) (by kernel_rfl) (by kernel_rfl) (fun _ _ _ _ h => h) (Want.plain rfl) rfl rfl (PV.move rfl rfl) ?_
    refine TD.take (i := 1) rfl (by kernel_rfl) (by kernel_rfl) (by kernel_rfl) (fun _ _ _ _ h => h) (Want.plain rfl) rfl rfl (PV.eql rfl rfl rfl) ?_
    refine TD.dec (fun h23 => ?_) (fun h23 => ?_)
    · skip
      subst h23
      obtain ⟨_, hbs1, hr1, hw1⟩ := hm1.resolve_right (fun h => absurd h.1 (by decide))
      refine TD.take (i := 2) rfl (by kernel_rfl) (by kernel_rfl) (by kernel_rfl) (fun _ _ _ _ h => h) (Want.plain rfl) rfl rfl (PV.move rfl rfl) ?_
      refine TD.take (i := 3) rfl (by kernel_rfl) (by kernel_rfl) (by kernel_rfl) (fun _ _ _ _ h => h) (Want.met rfl rfl rfl) rfl rfl (PV.loadN (vs := ints m.flat) rfl Try.underlying44 rfl sz44 rfl (fun _ h => h.2.1) (MsgT.len m) (whole (MsgT.len m))) ?_
      refine TD.take (i := 6) rfl (by kernel_rfl) (by kernel_rfl) (by kernel_rfl) (fun _ _ _ _ h => h) (Want.met rfl rfl rfl) rfl rfl (PV.move rfl rfl) ?_
      refine TD.take (i := 7) rfl (by kernel_rfl) (by kernel_rfl) (by kernel_rfl) (fun _ _ _ _ h => h) (Want.met rfl rfl rfl) rfl rfl (PV.bytesStr (l := bs) rfl Try.underlying27 Try.underlying5 Try.underlying9 rfl (fun _ _ => hF.src (fun _ h => h.1))) ?_
      refine TD.all [4] (by kernel_rfl) rfl ?_
      refine AllT.cons rfl ?_ ?_
      · skip
        refine TL.callR (A := []) (B := [blkA b5 (ints y.flat) 58, blkA b3 (ints m.flat) 44]) (Want.met rfl rfl rfl) rfl rfl rfl nm19 rfl (encode_does m) (fun _ s => s) (fun _ _ _ => trivial) (fun vR HR hR => ?_)
        obtain ⟨_, rfl, rfl⟩ := hR
        revert vR
        intro ue1
        change TL _ _ _ _ _ _ _ _ _ [ownB ue1 (encM m) 5, blkA b5 (ints y.flat) 58, blkA b3 (ints m.flat) 44]
        refine TL.ownLen 0 rfl rfl (fun hlue1 _ => ?_)
        refine TL.nil ?_
        refine TE.draw (fun _ s => ⟨Frm.of s, s.block 2 (lb rfl) rfl, trivial⟩) ?_
        refine TD.more (Hb ue1 (encM m)) (fun _ s => s.hb 0 rfl rfl) ?_
        refine TD.take (i := 5) rfl (by kernel_rfl) (by kernel_rfl) (by kernel_rfl) (fun _ _ _ _ h => h) (Want.met rfl rfl rfl) rfl rfl (PV.bytesStr (l := encM m) rfl Try.underlying27 Try.underlying5 Try.underlying9 rfl (Hb.src (fun _ h => h.1))) ?_
        refine TD.take (i := 8) rfl (by kernel_rfl) (by kernel_rfl) (by kernel_rfl) (fun _ _ _ _ h => h) (Want.met rfl rfl rfl) rfl rfl (PV.strNeq (a := encM m) (b := bs) rfl rfl rfl) ?_
        refine TD.dec (fun h30 => ?_) (fun h30 => ?_)
        · exact absurd hbs1.symm h30
        · skip
          refine TD.take (i := 9) rfl (by kernel_rfl) (by kernel_rfl) (by kernel_rfl) (fun _ _ _ _ h => h) (Want.met rfl rfl rfl) rfl rfl (PV.move rfl rfl) ?_
          refine TD.take (i := 10) rfl (by kernel_rfl) (by kernel_rfl) (by kernel_rfl) (fun _ _ _ _ h => h) (Want.met rfl rfl rfl) rfl rfl (PV.fieldAddr (r := 2) rfl Try.underlying44 rfl sz38 rfl rfl) ?_
          refine TD.take (i := 11) rfl (by kernel_rfl) (by kernel_rfl) (by kernel_rfl) (fun _ _ _ _ h => h) (Want.met rfl rfl rfl) rfl rfl (PV.loadN (vs := ints m.row.flat) rfl Try.underlying38 rfl sz38 rfl (fun _ h => h.2.2.1) (RowT.len m.row) (MsgT.sub_row m 0 rfl (by decide) (whole (RowT.len m.row)))) ?_
          refine TD.all [12] (by kernel_rfl) rfl ?_
          refine AllT.cons rfl ?_ ?_
          · skip
            refine TL.callR (A := []) (B := [ownB ue1 (encM m) 5, blkA b5 (ints y.flat) 58, blkA b3 (ints m.flat) 44]) (Want.met rfl rfl rfl) rfl rfl rfl nm21 rfl (rowRight_is hw1 hr1) (fun _ s => s) (fun _ _ _ => trivial) (fun vR HR hR => ?_)
            obtain ⟨rfl, rfl⟩ := hR
            change TL _ _ _ _ _ _ _ _ _ [ownB ue1 (encM m) 5, blkA b5 (ints y.flat) 58, blkA b3 (ints m.flat) 44]
            refine TL.nil ?_
            refine TE.draw (fun _ s => ⟨s.hb 0 rfl rfl, ⟨Frm.of s, s.block 2 (lb rfl) rfl, trivial⟩⟩) ?_
            refine TD.take (i := 13) rfl (by kernel_rfl) (by kernel_rfl) (by kernel_rfl) (fun _ _ _ _ h => h) (Want.met rfl rfl rfl) rfl rfl (PV.not (r := false) rfl rfl rfl) ?_
            refine TD.take (i := 14) rfl (by kernel_rfl) (by kernel_rfl) (by kernel_rfl) (fun _ _ _ _ h => h) (Want.met rfl rfl rfl) rfl rfl (PV.pick rfl rfl rfl) ?_
            refine TD.take (i := 15) rfl (by kernel_rfl) (by kernel_rfl) (by kernel_rfl) (fun _ _ _ _ h => h) (Want.plain rfl) rfl rfl (PV.pick rfl rfl rfl) ?_
            refine TD.take (i := 16) rfl (by kernel_rfl) (by kernel_rfl) (by kernel_rfl) (fun _ _ _ _ h => h) (Want.plain rfl) rfl rfl (PV.move rfl rfl) ?_
            refine TD.take (i := 17) rfl (by kernel_rfl) (by kernel_rfl) (by kernel_rfl) (fun _ _ _ _ h => h) (Want.met rfl rfl rfl) rfl rfl (PV.move rfl rfl) ?_
            refine TD.take (i := 18) rfl (by kernel_rfl) (by kernel_rfl) (by kernel_rfl) (fun _ _ _ _ h => h) (Want.met rfl rfl rfl) rfl rfl (PV.neq rfl rfl rfl) ?_
            refine TD.take (i := 19) rfl (by kernel_rfl) (by kernel_rfl) (by kernel_rfl) (fun _ _ _ _ h => h) (Want.met rfl rfl rfl) rfl rfl (PV.move rfl rfl) ?_
            refine TD.takeNot (i := 20) (b := false) rfl (by kernel_rfl) (by kernel_rfl) (by kernel_rfl) (fun _ _ _ _ h => h) rfl rfl rfl rfl rfl ?_
            refine TD.takeNot (i := 21) (b := false) rfl (by kernel_rfl) (by kernel_rfl) (by kernel_rfl) (fun _ _ _ _ h => h) rfl rfl rfl rfl rfl ?_
            refine TD.takeNot (i := 22) (b := false) rfl (by kernel_rfl) (by kernel_rfl) (by kernel_rfl) (fun _ _ _ _ h => h) rfl rfl rfl rfl rfl ?_
            refine TD.takeNotU (i := 23) (b := false) rfl (by kernel_rfl) (by kernel_rfl) (by kernel_rfl) (fun _ _ _ _ h => h) rfl rfl rfl rfl rfl ?_
            refine TD.takeNotU (i := 24) (b := false) rfl (by kernel_rfl) (by kernel_rfl) (by kernel_rfl) (fun _ _ _ _ h => h) rfl rfl rfl rfl rfl ?_
            refine TD.takeNotU (i := 25) (b := false) rfl (by kernel_rfl) (by kernel_rfl) (by kernel_rfl) (fun _ _ _ _ h => h) rfl rfl rfl rfl rfl ?_
            refine TD.takeNot (i := 26) (b := false) rfl (by kernel_rfl) (by kernel_rfl) (by kernel_rfl) (fun _ _ _ _ h => h) rfl rfl rfl rfl rfl ?_
            refine TD.take (i := 27) rfl (by kernel_rfl) (by kernel_rfl) (by kernel_rfl) (fun _ _ _ _ h => h) (Want.met rfl rfl rfl) rfl rfl (PV.pick rfl rfl rfl) ?_
            refine TD.take (i := 28) rfl (by kernel_rfl) (by kernel_rfl) (by kernel_rfl) (fun _ _ _ _ h => h) (Want.plain rfl) rfl rfl (PV.pick rfl rfl rfl) ?_
            refine TD.done (by kernel_rfl) ?_
            refine TE.next hK10 ?_
            clear hK10
            refine TC.no rfl ?_
            refine TC.skip ?_
            refine TE.next hK9 ?_
            clear hK9
            refine TC.seq (fun K11 hK11 => ?_)
            refine TC.seq (fun K12 hK12 => ?_)
            refine TC.draw (fun w => Frm F w ∧ w.heap[b5]? = some (.cells (ints y.flat).toArray 58 (0, 0)) ∧ True) mixed rfl (fun _ s => ⟨Frm.of s, s.block 1 (lb rfl) rfl, trivial⟩) ?_
            refine TD.take (i := 0) rfl (by kernel_rfl) (by kernel_rfl) (by kernel_rfl) (fun _ _ _ _ h => h) (Want.plain rfl) rfl rfl (PV.move rfl rfl) ?_
            refine TD.take (i := 1) rfl (by kernel_rfl) (by kernel_rfl) (by kernel_rfl) (fun _ _ _ _ h => h) (Want.plain rfl) rfl rfl (PV.eql rfl rfl rfl) ?_
            refine TD.dec (fun h52 => ?_) (fun h52 => ?_)
            · skip
              subst h52
              obtain ⟨_, hbs2, hr2, hw2⟩ := hm2.resolve_right (fun h => absurd h.1 (by decide))
              refine TD.take (i := 2) rfl (by kernel_rfl) (by kernel_rfl) (by kernel_rfl) (fun _ _ _ _ h => h) (Want.plain rfl) rfl rfl (PV.move rfl rfl) ?_
              refine TD.take (i := 3) rfl (by kernel_rfl) (by kernel_rfl) (by kernel_rfl) (fun _ _ _ _ h => h) (Want.met rfl rfl rfl) rfl rfl (PV.loadN (vs := ints y.flat) rfl Try.underlying58 rfl sz58 rfl (fun _ h => h.2.1) (RecT.len y) (whole (RecT.len y))) ?_
              refine TD.take (i := 6) rfl (by kernel_rfl) (by kernel_rfl) (by kernel_rfl) (fun _ _ _ _ h => h) (Want.met rfl rfl rfl) rfl rfl (PV.move rfl rfl) ?_
              refine TD.take (i := 7) rfl (by kernel_rfl) (by kernel_rfl) (by kernel_rfl) (fun _ _ _ _ h => h) (Want.met rfl rfl rfl) rfl rfl (PV.bytesStr (l := bs) rfl Try.underlying27 Try.underlying5 Try.underlying9 rfl (fun _ _ => hF.src (fun _ h => h.1))) ?_
              refine TD.all [4] (by kernel_rfl) rfl ?_
              refine AllT.cons rfl ?_ ?_
              · skip
                refine TL.callR (A := []) (B := [ownB ue1 (encM m) 5, blkA b5 (ints y.flat) 58, blkA b3 (ints m.flat) 44]) (Want.met rfl rfl rfl) rfl rfl rfl nm22 rfl (record_does y) (fun _ s => s) (fun _ _ _ => trivial) (fun vR HR hR => ?_)
                obtain ⟨_, rfl, rfl⟩ := hR
                revert vR
                intro ue2
                change TL _ _ _ _ _ _ _ _ _ [ownB ue2 (encR y) 5, ownB ue1 (encM m) 5, blkA b5 (ints y.flat) 58, blkA b3 (ints m.flat) 44]
                refine TL.ownLen 0 rfl rfl (fun hlue2 _ => ?_)
                refine TL.nil ?_
                refine TE.draw (fun _ s => ⟨Frm.of s, s.block 2 (lb rfl) rfl, trivial⟩) ?_
                refine TD.more (Hb ue2 (encR y)) (fun _ s => s.hb 0 rfl rfl) ?_
                refine TD.take (i := 5) rfl (by kernel_rfl) (by kernel_rfl) (by kernel_rfl) (fun _ _ _ _ h => h) (Want.met rfl rfl rfl) rfl rfl (PV.bytesStr (l := encR y) rfl Try.underlying27 Try.underlying5 Try.underlying9 rfl (Hb.src (fun _ h => h.1))) ?_
                refine TD.take (i := 8) rfl (by kernel_rfl) (by kernel_rfl) (by kernel_rfl) (fun _ _ _ _ h => h) (Want.met rfl rfl rfl) rfl rfl (PV.strNeq (a := encR y) (b := bs) rfl rfl rfl) ?_
                refine TD.dec (fun h59 => ?_) (fun h59 => ?_)
                · exact absurd hbs2.symm h59
                · skip
                  refine TD.take (i := 9) rfl (by kernel_rfl) (by kernel_rfl) (by kernel_rfl) (fun _ _ _ _ h => h) (Want.met rfl rfl rfl) rfl rfl (PV.move rfl rfl) ?_
                  refine TD.take (i := 10) rfl (by kernel_rfl) (by kernel_rfl) (by kernel_rfl) (fun _ _ _ _ h => h) (Want.met rfl rfl rfl) rfl rfl (PV.fieldAddr (r := 2) rfl Try.underlying58 rfl sz38 rfl rfl) ?_
                  refine TD.take (i := 11) rfl (by kernel_rfl) (by kernel_rfl) (by kernel_rfl) (fun _ _ _ _ h => h) (Want.met rfl rfl rfl) rfl rfl (PV.loadN (vs := ints y.row.flat) rfl Try.underlying38 rfl sz38 rfl (fun _ h => h.2.2.1) (RowT.len y.row) (RecT.sub_row y 0 rfl (by decide) (whole (RowT.len y.row)))) ?_
                  refine TD.all [12] (by kernel_rfl) rfl ?_
                  refine AllT.cons rfl ?_ ?_
                  · skip
                    refine TL.callR (A := []) (B := [ownB ue2 (encR y) 5, ownB ue1 (encM m) 5, blkA b5 (ints y.flat) 58, blkA b3 (ints m.flat) 44]) (Want.met rfl rfl rfl) rfl rfl rfl nm21 rfl (rowRight_is hw2 hr2) (fun _ s => s) (fun _ _ _ => trivial) (fun vR HR hR => ?_)
                    obtain ⟨rfl, rfl⟩ := hR
                    change TL _ _ _ _ _ _ _ _ _ [ownB ue2 (encR y) 5, ownB ue1 (encM m) 5, blkA b5 (ints y.flat) 58, blkA b3 (ints m.flat) 44]
                    refine TL.nil ?_
                    refine TE.draw (fun _ s => ⟨s.hb 0 rfl rfl, ⟨Frm.of s, s.block 2 (lb rfl) rfl, trivial⟩⟩) ?_
                    refine TD.take (i := 13) rfl (by kernel_rfl) (by kernel_rfl) (by kernel_rfl) (fun _ _ _ _ h => h) (Want.met rfl rfl rfl) rfl rfl (PV.not (r := false) rfl rfl rfl) ?_
                    refine TD.take (i := 14) rfl (by kernel_rfl) (by kernel_rfl) (by kernel_rfl) (fun _ _ _ _ h => h) (Want.met rfl rfl rfl) rfl rfl (PV.pick rfl rfl rfl) ?_
                    refine TD.take (i := 15) rfl (by kernel_rfl) (by kernel_rfl) (by kernel_rfl) (fun _ _ _ _ h => h) (Want.plain rfl) rfl rfl (PV.pick rfl rfl rfl) ?_
                    refine TD.take (i := 16) rfl (by kernel_rfl) (by kernel_rfl) (by kernel_rfl) (fun _ _ _ _ h => h) (Want.plain rfl) rfl rfl (PV.move rfl rfl) ?_
                    refine TD.take (i := 17) rfl (by kernel_rfl) (by kernel_rfl) (by kernel_rfl) (fun _ _ _ _ h => h) (Want.met rfl rfl rfl) rfl rfl (PV.move rfl rfl) ?_
                    refine TD.take (i := 18) rfl (by kernel_rfl) (by kernel_rfl) (by kernel_rfl) (fun _ _ _ _ h => h) (Want.met rfl rfl rfl) rfl rfl (PV.neq rfl rfl rfl) ?_
                    refine TD.take (i := 19) rfl (by kernel_rfl) (by kernel_rfl) (by kernel_rfl) (fun _ _ _ _ h => h) (Want.met rfl rfl rfl) rfl rfl (PV.move rfl rfl) ?_
                    refine TD.takeNot (i := 20) (b := false) rfl (by kernel_rfl) (by kernel_rfl) (by kernel_rfl) (fun _ _ _ _ h => h) rfl rfl rfl rfl rfl ?_
                    refine TD.takeNot (i := 21) (b := false) rfl (by kernel_rfl) (by kernel_rfl) (by kernel_rfl) (fun _ _ _ _ h => h) rfl rfl rfl rfl rfl ?_
                    refine TD.takeNot (i := 22) (b := false) rfl (by kernel_rfl) (by kernel_rfl) (by kernel_rfl) (fun _ _ _ _ h => h) rfl rfl rfl rfl rfl ?_
                    refine TD.takeNotU (i := 23) (b := false) rfl (by kernel_rfl) (by kernel_rfl) (by kernel_rfl) (fun _ _ _ _ h => h) rfl rfl rfl rfl rfl ?_
                    refine TD.takeNotU (i := 24) (b := false) rfl (by kernel_rfl) (by kernel_rfl) (by kernel_rfl) (fun _ _ _ _ h => h) rfl rfl rfl rfl rfl ?_
                    refine TD.takeNotU (i := 25) (b := false) rfl (by kernel_rfl) (by kernel_rfl) (by kernel_rfl) (fun _ _ _ _ h => h) rfl rfl rfl rfl rfl ?_
                    refine TD.takeNot (i := 26) (b := false) rfl (by kernel_rfl) (by kernel_rfl) (by kernel_rfl) (fun _ _ _ _ h => h) rfl rfl rfl rfl rfl ?_
                    refine TD.take (i := 27) rfl (by kernel_rfl) (by kernel_rfl) (by kernel_rfl) (fun _ _ _ _ h => h) (Want.met rfl rfl rfl) rfl rfl (PV.pick rfl rfl rfl) ?_
                    refine TD.take (i := 28) rfl (by kernel_rfl) (by kernel_rfl) (by kernel_rfl) (fun _ _ _ _ h => h) (Want.plain rfl) rfl rfl (PV.pick rfl rfl rfl) ?_
                    refine TD.done (by kernel_rfl) ?_
                    refine TE.next hK12 ?_
                    clear hK12
                    refine TC.no rfl ?_
                    refine TC.skip ?_
                    refine TE.next hK11 ?_
                    clear hK11
                    refine TC.seq (fun K13 hK13 => ?_)
                    refine TC.region ?_
                    refine TL.v (Want.plain rfl) rfl rfl (PV.assign rfl rfl) ?_
                    refine TL.nil ?_
                    refine TE.next hK13 ?_
                    clear hK13
                    refine TC.ret ?_
                    refine TE.weak (Sub.refl _) (fun _ s => sep_keep [] rfl s) ?_
                    refine TE.ret1 rfl rfl ?_
                    exact ⟨rfl, rfl⟩
                  exact AllT.nil
              exact AllT.nil
            · skip
              obtain ⟨rfl, rfl⟩ := hm2.resolve_left (fun h => h52 h.1)
              refine TD.take (i := 2) rfl (by kernel_rfl) (by kernel_rfl) (by kernel_rfl) (fun _ _ _ _ h => h) (Want.plain rfl) rfl rfl (PV.move rfl rfl) ?_
              refine TD.takeNot (i := 3) (b := false) rfl (by kernel_rfl) (by kernel_rfl) (by kernel_rfl) (fun _ _ _ _ h => h) rfl rfl rfl rfl rfl ?_
              refine TD.takeNot (i := 4) (b := false) rfl (by kernel_rfl) (by kernel_rfl) (by kernel_rfl) (fun _ _ _ _ h => h) rfl rfl rfl rfl rfl ?_
              refine TD.takeNot (i := 5) (b := false) rfl (by kernel_rfl) (by kernel_rfl) (by kernel_rfl) (fun _ _ _ _ h => h) rfl rfl rfl rfl rfl ?_
              refine TD.takeNot (i := 6) (b := false) rfl (by kernel_rfl) (by kernel_rfl) (by kernel_rfl) (fun _ _ _ _ h => h) rfl rfl rfl rfl rfl ?_
              refine TD.takeNot (i := 7) (b := false) rfl (by kernel_rfl) (by kernel_rfl) (by kernel_rfl) (fun _ _ _ _ h => h) rfl rfl rfl rfl rfl ?_
              refine TD.takeNot (i := 8) (b := false) rfl (by kernel_rfl) (by kernel_rfl) (by kernel_rfl) (fun _ _ _ _ h => h) rfl rfl rfl rfl rfl ?_
              refine TD.takeNot (i := 9) (b := false) rfl (by kernel_rfl) (by kernel_rfl) (by kernel_rfl) (fun _ _ _ _ h => h) rfl rfl rfl rfl rfl ?_
              refine TD.takeNotU (i := 10) (b := false) rfl (by kernel_rfl) (by kernel_rfl) (by kernel_rfl) (fun _ _ _ _ h => h) rfl rfl rfl rfl rfl ?_
              refine TD.takeNotU (i := 11) (b := false) rfl (by kernel_rfl) (by kernel_rfl) (by kernel_rfl) (fun _ _ _ _ h => h) rfl rfl rfl rfl rfl ?_
              refine TD.takeNotU (i := 12) (b := false) rfl (by kernel_rfl) (by kernel_rfl) (by kernel_rfl) (fun _ _ _ _ h => h) rfl rfl rfl rfl rfl ?_
              refine TD.takeNotU (i := 13) (b := false) rfl (by kernel_rfl) (by kernel_rfl) (by kernel_rfl) (fun _ _ _ _ h => h) rfl rfl rfl rfl rfl ?_
              refine TD.takeNot (i := 14) (b := false) rfl (by kernel_rfl) (by kernel_rfl) (by kernel_rfl) (fun _ _ _ _ h => h) rfl rfl rfl rfl rfl ?_
              refine TD.take (i := 15) rfl (by kernel_rfl) (by kernel_rfl) (by kernel_rfl) (fun _ _ _ _ h => h) (Want.plain rfl) rfl rfl (PV.pick rfl rfl rfl) ?_
              refine TD.take (i := 16) rfl (by kernel_rfl) (by kernel_rfl) (by kernel_rfl) (fun _ _ _ _ h => h) (Want.plain rfl) rfl rfl (PV.move rfl rfl) ?_
              refine TD.take (i := 17) rfl (by kernel_rfl) (by kernel_rfl) (by kernel_rfl) (fun _ _ _ _ h => h) (Want.met rfl rfl rfl) rfl rfl (PV.move rfl rfl) ?_
              refine TD.take (i := 18) rfl (by kernel_rfl) (by kernel_rfl) (by kernel_rfl) (fun _ _ _ _ h => h) (Want.met rfl rfl rfl) rfl rfl (PV.neq rfl rfl rfl) ?_
              refine TD.take (i := 19) rfl (by kernel_rfl) (by kernel_rfl) (by kernel_rfl) (fun _ _ _ _ h => h) (Want.met rfl rfl rfl) rfl rfl (PV.move rfl rfl) ?_
              refine TD.take (i := 20) rfl (by kernel_rfl) (by kernel_rfl) (by kernel_rfl) (fun _ _ _ _ h => h) (Want.met rfl rfl rfl) rfl rfl (PV.move rfl rfl) ?_
              refine TD.take (i := 21) rfl (by kernel_rfl) (by kernel_rfl) (by kernel_rfl) (fun _ _ _ _ h => h) (Want.met rfl rfl rfl) rfl rfl (PV.neq rfl rfl rfl) ?_
              refine TD.take (i := 22) rfl (by kernel_rfl) (by kernel_rfl) (by kernel_rfl) (fun _ _ _ _ h => h) (Want.met rfl rfl rfl) rfl rfl (PV.move rfl rfl) ?_
              refine TD.take (i := 23) rfl (by kernel_rfl) (by kernel_rfl) (by kernel_rfl) (fun _ _ _ _ h => h) (Want.met rfl rfl rfl) rfl rfl (PV.loadN (vs := ints RecT.zero.flat) rfl Try.underlying58 rfl sz58 rfl (fun _ h => h.2.1) (RecT.len RecT.zero) (whole (RecT.len RecT.zero))) ?_
              refine TD.take (i := 24) rfl (by kernel_rfl) (by kernel_rfl) (by kernel_rfl) (fun _ _ _ _ h => h) (Want.met rfl rfl rfl) rfl rfl (PV.build (cells := (ints RecT.zero.flat).toArray) rfl rfl (by as_aux_lemma => kernel_rfl)) ?_
              refine TD.take (i := 25) rfl (by kernel_rfl) (by kernel_rfl) (by kernel_rfl) (fun _ _ _ _ h => h) (Want.met rfl rfl rfl) rfl rfl (PV.neqAgg (a := RecT.zero.flat) (b := RecT.zero.flat) (m := 8) (c := 189) sg58 sk58 rfl fI58 (ints_len (RecT.len RecT.zero)) (ints_len (RecT.len RecT.zero)) ⟨formed_ag fC58 cC58 (ints_len (RecT.len RecT.zero)), formed_ag fC58 cC58 (ints_len (RecT.len RecT.zero))⟩ OkRc.zero.wf OkRc.zero.wf rfl rfl rfl) ?_
              refine TD.dec (fun h76 => ?_) (fun h76 => ?_)
              · exact absurd rfl h76
              · skip
                refine TD.take (i := 26) rfl (by kernel_rfl) (by kernel_rfl) (by kernel_rfl) (fun _ _ _ _ h => h) (Want.met rfl rfl rfl) rfl rfl (PV.pick rfl rfl rfl) ?_
                refine TD.take (i := 27) rfl (by kernel_rfl) (by kernel_rfl) (by kernel_rfl) (fun _ _ _ _ h => h) (Want.met rfl rfl rfl) rfl rfl (PV.pick rfl rfl rfl) ?_
                refine TD.take (i := 28) rfl (by kernel_rfl) (by kernel_rfl) (by kernel_rfl) (fun _ _ _ _ h => h) (Want.plain rfl) rfl rfl (PV.pick rfl rfl rfl) ?_
                refine TD.done (by kernel_rfl) ?_
                refine TE.next hK12 ?_
                clear hK12
                refine TC.no rfl ?_
                refine TC.skip ?_
                refine TE.next hK11 ?_
                clear hK11
                refine TC.seq (fun K14 hK14 => ?_)
                refine TC.region ?_
                refine TL.v (Want.plain rfl) rfl rfl (PV.assign rfl rfl) ?_
                refine TL.nil ?_
                refine TE.next hK14 ?_
                clear hK14
                refine TC.ret ?_
                refine TE.weak (Sub.refl _) (fun _ s => sep_keep [] rfl s) ?_
                refine TE.ret1 rfl rfl ?_
                exact ⟨rfl, rfl⟩
          exact AllT.nil
      exact AllT.nil
    · skip
      obtain ⟨rfl, rfl⟩ := hm1.resolve_left (fun h => h23 h.1)
      refine TD.take (i := 2) rfl (by kernel_rfl) (by kernel_rfl) (by kernel_rfl) (fun _ _ _ _ h => h) (Want.plain rfl) rfl rfl (PV.move rfl rfl) ?_
      refine TD.takeNot (i := 3) (b := false) rfl (by kernel_rfl) (by kernel_rfl) (by kernel_rfl) (fun _ _ _ _ h => h) rfl rfl rfl rfl rfl ?_
      refine TD.takeNot (i := 4) (b := false) rfl (by kernel_rfl) (by kernel_rfl) (by kernel_rfl) (fun _ _ _ _ h => h) rfl rfl rfl rfl rfl ?_
      refine TD.takeNot (i := 5) (b := false) rfl (by kernel_rfl) (by kernel_rfl) (by kernel_rfl) (fun _ _ _ _ h => h) rfl rfl rfl rfl rfl ?_
      refine TD.takeNot (i := 6) (b := false) rfl (by kernel_rfl) (by kernel_rfl) (by kernel_rfl) (fun _ _ _ _ h => h) rfl rfl rfl rfl rfl ?_
      refine TD.takeNot (i := 7) (b := false) rfl (by kernel_rfl) (by kernel_rfl) (by kernel_rfl) (fun _ _ _ _ h => h) rfl rfl rfl rfl rfl ?_
      refine TD.takeNot (i := 8) (b := false) rfl (by kernel_rfl) (by kernel_rfl) (by kernel_rfl) (fun _ _ _ _ h => h) rfl rfl rfl rfl rfl ?_
      refine TD.takeNot (i := 9) (b := false) rfl (by kernel_rfl) (by kernel_rfl) (by kernel_rfl) (fun _ _ _ _ h => h) rfl rfl rfl rfl rfl ?_
      refine TD.takeNotU (i := 10) (b := false) rfl (by kernel_rfl) (by kernel_rfl) (by kernel_rfl) (fun _ _ _ _ h => h) rfl rfl rfl rfl rfl ?_
      refine TD.takeNotU (i := 11) (b := false) rfl (by kernel_rfl) (by kernel_rfl) (by kernel_rfl) (fun _ _ _ _ h => h) rfl rfl rfl rfl rfl ?_
      refine TD.takeNotU (i := 12) (b := false) rfl (by kernel_rfl) (by kernel_rfl) (by kernel_rfl) (fun _ _ _ _ h => h) rfl rfl rfl rfl rfl ?_
      refine TD.takeNotU (i := 13) (b := false) rfl (by kernel_rfl) (by kernel_rfl) (by kernel_rfl) (fun _ _ _ _ h => h) rfl rfl rfl rfl rfl ?_
      refine TD.takeNot (i := 14) (b := false) rfl (by kernel_rfl) (by kernel_rfl) (by kernel_rfl) (fun _ _ _ _ h => h) rfl rfl rfl rfl rfl ?_
      refine TD.take (i := 15) rfl (by kernel_rfl) (by kernel_rfl) (by kernel_rfl) (fun _ _ _ _ h => h) (Want.plain rfl) rfl rfl (PV.pick rfl rfl rfl) ?_
      refine TD.take (i := 16) rfl (by kernel_rfl) (by kernel_rfl) (by kernel_rfl) (fun _ _ _ _ h => h) (Want.plain rfl) rfl rfl (PV.move rfl rfl) ?_
      refine TD.take (i := 17) rfl (by kernel_rfl) (by kernel_rfl) (by kernel_rfl) (fun _ _ _ _ h => h) (Want.met rfl rfl rfl) rfl rfl (PV.move rfl rfl) ?_
      refine TD.take (i := 18) rfl (by kernel_rfl) (by kernel_rfl) (by kernel_rfl) (fun _ _ _ _ h => h) (Want.met rfl rfl rfl) rfl rfl (PV.neq rfl rfl rfl) ?_
      refine TD.take (i := 19) rfl (by kernel_rfl) (by kernel_rfl) (by kernel_rfl) (fun _ _ _ _ h => h) (Want.met rfl rfl rfl) rfl rfl (PV.move rfl rfl) ?_
      refine TD.take (i := 20) rfl (by kernel_rfl) (by kernel_rfl) (by kernel_rfl) (fun _ _ _ _ h => h) (Want.met rfl rfl rfl) rfl rfl (PV.move rfl rfl) ?_
      refine TD.take (i := 21) rfl (by kernel_rfl) (by kernel_rfl) (by kernel_rfl) (fun _ _ _ _ h => h) (Want.met rfl rfl rfl) rfl rfl (PV.neq rfl rfl rfl) ?_
      refine TD.take (i := 22) rfl (by kernel_rfl) (by kernel_rfl) (by kernel_rfl) (fun _ _ _ _ h => h) (Want.met rfl rfl rfl) rfl rfl (PV.move rfl rfl) ?_
      refine TD.take (i := 23) rfl (by kernel_rfl) (by kernel_rfl) (by kernel_rfl) (fun _ _ _ _ h => h) (Want.met rfl rfl rfl) rfl rfl (PV.loadN (vs := ints MsgT.zero.flat) rfl Try.underlying44 rfl sz44 rfl (fun _ h => h.2.1) (MsgT.len MsgT.zero) (whole (MsgT.len MsgT.zero))) ?_
      refine TD.take (i := 24) rfl (by kernel_rfl) (by kernel_rfl) (by kernel_rfl) (fun _ _ _ _ h => h) (Want.met rfl rfl rfl) rfl rfl (PV.build (cells := (ints MsgT.zero.flat).toArray) rfl rfl (by as_aux_lemma => kernel_rfl)) ?_
      refine TD.take (i := 25) rfl (by kernel_rfl) (by kernel_rfl) (by kernel_rfl) (fun _ _ _ _ h => h) (Want.met rfl rfl rfl) rfl rfl (PV.neqAgg (a := MsgT.zero.flat) (b := MsgT.zero.flat) (m := 8) (c := 192) sg44 sk44 rfl fI44 (ints_len (MsgT.len MsgT.zero)) (ints_len (MsgT.len MsgT.zero)) ⟨formed_ag fC44 cC44 (ints_len (MsgT.len MsgT.zero)), formed_ag fC44 cC44 (ints_len (MsgT.len MsgT.zero))⟩ OkM.zero.wf OkM.zero.wf rfl rfl rfl) ?_
      refine TD.dec (fun h47 => ?_) (fun h47 => ?_)
      · exact absurd rfl h47
      · skip
        refine TD.take (i := 26) rfl (by kernel_rfl) (by kernel_rfl) (by kernel_rfl) (fun _ _ _ _ h => h) (Want.met rfl rfl rfl) rfl rfl (PV.pick rfl rfl rfl) ?_
        refine TD.take (i := 27) rfl (by kernel_rfl) (by kernel_rfl) (by kernel_rfl) (fun _ _ _ _ h => h) (Want.met rfl rfl rfl) rfl rfl (PV.pick rfl rfl rfl) ?_
        refine TD.take (i := 28) rfl (by kernel_rfl) (by kernel_rfl) (by kernel_rfl) (fun _ _ _ _ h => h) (Want.plain rfl) rfl rfl (PV.pick rfl rfl rfl) ?_
        refine TD.done (by kernel_rfl) ?_
        refine TE.next hK10 ?_
        clear hK10
        refine TC.no rfl ?_
        refine TC.skip ?_
        refine TE.next hK9 ?_
        clear hK9
        refine TC.seq (fun K15 hK15 => ?_)
        refine TC.seq (fun K16 hK16 => ?_)
        refine TC.draw (fun w => Frm F w ∧ w.heap[b5]? = some (.cells (ints y.flat).toArray 58 (0, 0)) ∧ True) mixed rfl (fun _ s => ⟨Frm.of s, s.block 0 (lb rfl) rfl, trivial⟩) ?_
        refine TD.take (i := 0) rfl (by kernel_rfl) (by kernel_rfl) (by kernel_rfl) (fun _ _ _ _ h => h) (Want.plain rfl) rfl rfl (PV.move rfl rfl) ?_
        refine TD.take (i := 1) rfl (by kernel_rfl) (by kernel_rfl) (by kernel_rfl) (fun _ _ _ _ h => h) (Want.plain rfl) rfl rfl (PV.eql rfl rfl rfl) ?_
        refine TD.dec (fun h52 => ?_) (fun h52 => ?_)
        · skip
          subst h52
          obtain ⟨_, hbs2, hr2, hw2⟩ := hm2.resolve_right (fun h => absurd h.1 (by decide))
          refine TD.take (i := 2) rfl (by kernel_rfl) (by kernel_rfl) (by kernel_rfl) (fun _ _ _ _ h => h) (Want.plain rfl) rfl rfl (PV.move rfl rfl) ?_
          refine TD.take (i := 3) rfl (by kernel_rfl) (by kernel_rfl) (by kernel_rfl) (fun _ _ _ _ h => h) (Want.met rfl rfl rfl) rfl rfl (PV.loadN (vs := ints y.flat) rfl Try.underlying58 rfl sz58 rfl (fun _ h => h.2.1) (RecT.len y) (whole (RecT.len y))) ?_
          refine TD.take (i := 6) rfl (by kernel_rfl) (by kernel_rfl) (by kernel_rfl) (fun _ _ _ _ h => h) (Want.met rfl rfl rfl) rfl rfl (PV.move rfl rfl) ?_
          refine TD.take (i := 7) rfl (by kernel_rfl) (by kernel_rfl) (by kernel_rfl) (fun _ _ _ _ h => h) (Want.met rfl rfl rfl) rfl rfl (PV.bytesStr (l := bs) rfl Try.underlying27 Try.underlying5 Try.underlying9 rfl (fun _ _ => hF.src (fun _ h => h.1))) ?_
          refine TD.all [4] (by kernel_rfl) rfl ?_
          refine AllT.cons rfl ?_ ?_
          · skip
            refine TL.callR (A := []) (B := [blkA b5 (ints y.flat) 58, blkA b3 (ints MsgT.zero.flat) 44]) (Want.met rfl rfl rfl) rfl rfl rfl nm22 rfl (record_does y) (fun _ s => s) (fun _ _ _ => trivial) (fun vR HR hR => ?_)
            obtain ⟨_, rfl, rfl⟩ := hR
            revert vR
            intro ue1
            change TL _ _ _ _ _ _ _ _ _ [ownB ue1 (encR y) 5, blkA b5 (ints y.flat) 58, blkA b3 (ints MsgT.zero.flat) 44]
            refine TL.ownLen 0 rfl rfl (fun hlue1 _ => ?_)
            refine TL.nil ?_
            refine TE.draw (fun _ s => ⟨Frm.of s, s.block 1 (lb rfl) rfl, trivial⟩) ?_
            refine TD.more (Hb ue1 (encR y)) (fun _ s => s.hb 0 rfl rfl) ?_
            refine TD.take (i := 5) rfl (by kernel_rfl) (by kernel_rfl) (by kernel_rfl) (fun _ _ _ _ h => h) (Want.met rfl rfl rfl) rfl rfl (PV.bytesStr (l := encR y) rfl Try.underlying27 Try.underlying5 Try.underlying9 rfl (Hb.src (fun _ h => h.1))) ?_
            refine TD.take (i := 8) rfl (by kernel_rfl) (by kernel_rfl) (by kernel_rfl) (fun _ _ _ _ h => h) (Want.met rfl rfl rfl) rfl rfl (PV.strNeq (a := encR y) (b := bs) rfl rfl rfl) ?_
            refine TD.dec (fun h59 => ?_) (fun h59 => ?_)
            · exact absurd hbs2.symm h59
            · skip
              refine TD.take (i := 9) rfl (by kernel_rfl) (by kernel_rfl) (by kernel_rfl) (fun _ _ _ _ h => h) (Want.met rfl rfl rfl) rfl rfl (PV.move rfl rfl) ?_
              refine TD.take (i := 10) rfl (by kernel_rfl) (by kernel_rfl) (by kernel_rfl) (fun _ _ _ _ h => h) (Want.met rfl rfl rfl) rfl rfl (PV.fieldAddr (r := 2) rfl Try.underlying58 rfl sz38 rfl rfl) ?_
              refine TD.take (i := 11) rfl (by kernel_rfl) (by kernel_rfl) (by kernel_rfl) (fun _ _ _ _ h => h) (Want.met rfl rfl rfl) rfl rfl (PV.loadN (vs := ints y.row.flat) rfl Try.underlying38 rfl sz38 rfl (fun _ h => h.2.2.1) (RowT.len y.row) (RecT.sub_row y 0 rfl (by decide) (whole (RowT.len y.row)))) ?_
              refine TD.all [12] (by kernel_rfl) rfl ?_
              refine AllT.cons rfl ?_ ?_
              · skip
                refine TL.callR (A := []) (B := [ownB ue1 (encR y) 5, blkA b5 (ints y.flat) 58, blkA b3 (ints MsgT.zero.flat) 44]) (Want.met rfl rfl rfl) rfl rfl rfl nm21 rfl (rowRight_is hw2 hr2) (fun _ s => s) (fun _ _ _ => trivial) (fun vR HR hR => ?_)
                obtain ⟨rfl, rfl⟩ := hR
                change TL _ _ _ _ _ _ _ _ _ [ownB ue1 (encR y) 5, blkA b5 (ints y.flat) 58, blkA b3 (ints MsgT.zero.flat) 44]
                refine TL.nil ?_
                refine TE.draw (fun _ s => ⟨s.hb 0 rfl rfl, ⟨Frm.of s, s.block 1 (lb rfl) rfl, trivial⟩⟩) ?_
                refine TD.take (i := 13) rfl (by kernel_rfl) (by kernel_rfl) (by kernel_rfl) (fun _ _ _ _ h => h) (Want.met rfl rfl rfl) rfl rfl (PV.not (r := false) rfl rfl rfl) ?_
                refine TD.take (i := 14) rfl (by kernel_rfl) (by kernel_rfl) (by kernel_rfl) (fun _ _ _ _ h => h) (Want.met rfl rfl rfl) rfl rfl (PV.pick rfl rfl rfl) ?_
                refine TD.take (i := 15) rfl (by kernel_rfl) (by kernel_rfl) (by kernel_rfl) (fun _ _ _ _ h => h) (Want.plain rfl) rfl rfl (PV.pick rfl rfl rfl) ?_
                refine TD.take (i := 16) rfl (by kernel_rfl) (by kernel_rfl) (by kernel_rfl) (fun _ _ _ _ h => h) (Want.plain rfl) rfl rfl (PV.move rfl rfl) ?_
                refine TD.take (i := 17) rfl (by kernel_rfl) (by kernel_rfl) (by kernel_rfl) (fun _ _ _ _ h => h) (Want.met rfl rfl rfl) rfl rfl (PV.move rfl rfl) ?_
                refine TD.take (i := 18) rfl (by kernel_rfl) (by kernel_rfl) (by kernel_rfl) (fun _ _ _ _ h => h) (Want.met rfl rfl rfl) rfl rfl (PV.neq rfl rfl rfl) ?_
                refine TD.take (i := 19) rfl (by kernel_rfl) (by kernel_rfl) (by kernel_rfl) (fun _ _ _ _ h => h) (Want.met rfl rfl rfl) rfl rfl (PV.move rfl rfl) ?_
                refine TD.takeNot (i := 20) (b := false) rfl (by kernel_rfl) (by kernel_rfl) (by kernel_rfl) (fun _ _ _ _ h => h) rfl rfl rfl rfl rfl ?_
                refine TD.takeNot (i := 21) (b := false) rfl (by kernel_rfl) (by kernel_rfl) (by kernel_rfl) (fun _ _ _ _ h => h) rfl rfl rfl rfl rfl ?_
                refine TD.takeNot (i := 22) (b := false) rfl (by kernel_rfl) (by kernel_rfl) (by kernel_rfl) (fun _ _ _ _ h => h) rfl rfl rfl rfl rfl ?_
                refine TD.takeNotU (i := 23) (b := false) rfl (by kernel_rfl) (by kernel_rfl) (by kernel_rfl) (fun _ _ _ _ h => h) rfl rfl rfl rfl rfl ?_
                refine TD.takeNotU (i := 24) (b := false) rfl (by kernel_rfl) (by kernel_rfl) (by kernel_rfl) (fun _ _ _ _ h => h) rfl rfl rfl rfl rfl ?_
                refine TD.takeNotU (i := 25) (b := false) rfl (by kernel_rfl) (by kernel_rfl) (by kernel_rfl) (fun _ _ _ _ h => h) rfl rfl rfl rfl rfl ?_
                refine TD.takeNot (i := 26) (b := false) rfl (by kernel_rfl) (by kernel_rfl) (by kernel_rfl) (fun _ _ _ _ h => h) rfl rfl rfl rfl rfl ?_
                refine TD.take (i := 27) rfl (by kernel_rfl) (by kernel_rfl) (by kernel_rfl) (fun _ _ _ _ h => h) (Want.met rfl rfl rfl) rfl rfl (PV.pick rfl rfl rfl) ?_
                refine TD.take (i := 28) rfl (by kernel_rfl) (by kernel_rfl) (by kernel_rfl) (fun _ _ _ _ h => h) (Want.plain rfl) rfl rfl (PV.pick rfl rfl rfl) ?_
                refine TD.done (by kernel_rfl) ?_
                refine TE.next hK16 ?_
                clear hK16
                refine TC.no rfl ?_
                refine TC.skip ?_
                refine TE.next hK15 ?_
                clear hK15
                refine TC.seq (fun K17 hK17 => ?_)
                refine TC.region ?_
                refine TL.v (Want.plain rfl) rfl rfl (PV.assign rfl rfl) ?_
                refine TL.nil ?_
                refine TE.next hK17 ?_
                clear hK17
                refine TC.ret ?_
                refine TE.weak (Sub.refl _) (fun _ s => sep_keep [] rfl s) ?_
                refine TE.ret1 rfl rfl ?_
                exact ⟨rfl, rfl⟩
              exact AllT.nil
          exact AllT.nil
        · skip
          obtain ⟨rfl, rfl⟩ := hm2.resolve_left (fun h => h52 h.1)
          refine TD.take (i := 2) rfl (by kernel_rfl) (by kernel_rfl) (by kernel_rfl) (fun _ _ _ _ h => h) (Want.plain rfl) rfl rfl (PV.move rfl rfl) ?_
          refine TD.takeNot (i := 3) (b := false) rfl (by kernel_rfl) (by kernel_rfl) (by kernel_rfl) (fun _ _ _ _ h => h) rfl rfl rfl rfl rfl ?_
          refine TD.takeNot (i := 4) (b := false) rfl (by kernel_rfl) (by kernel_rfl) (by kernel_rfl) (fun _ _ _ _ h => h) rfl rfl rfl rfl rfl ?_
          refine TD.takeNot (i := 5) (b := false) rfl (by kernel_rfl) (by kernel_rfl) (by kernel_rfl) (fun _ _ _ _ h => h) rfl rfl rfl rfl rfl ?_
          refine TD.takeNot (i := 6) (b := false) rfl (by kernel_rfl) (by kernel_rfl) (by kernel_rfl) (fun _ _ _ _ h => h) rfl rfl rfl rfl rfl ?_
          refine TD.takeNot (i := 7) (b := false) rfl (by kernel_rfl) (by kernel_rfl) (by kernel_rfl) (fun _ _ _ _ h => h) rfl rfl rfl rfl rfl ?_
          refine TD.takeNot (i := 8) (b := false) rfl (by kernel_rfl) (by kernel_rfl) (by kernel_rfl) (fun _ _ _ _ h => h) rfl rfl rfl rfl rfl ?_
          refine TD.takeNot (i := 9) (b := false) rfl (by kernel_rfl) (by kernel_rfl) (by kernel_rfl) (fun _ _ _ _ h => h) rfl rfl rfl rfl rfl ?_
          refine TD.takeNotU (i := 10) (b := false) rfl (by kernel_rfl) (by kernel_rfl) (by kernel_rfl) (fun _ _ _ _ h => h) rfl rfl rfl rfl rfl ?_
          refine TD.takeNotU (i := 11) (b := false) rfl (by kernel_rfl) (by kernel_rfl) (by kernel_rfl) (fun _ _ _ _ h => h) rfl rfl rfl rfl rfl ?_
          refine TD.takeNotU (i := 12) (b := false) rfl (by kernel_rfl) (by kernel_rfl) (by kernel_rfl) (fun _ _ _ _ h => h) rfl rfl rfl rfl rfl ?_
          refine TD.takeNotU (i := 13) (b := false) rfl (by kernel_rfl) (by kernel_rfl) (by kernel_rfl) (fun _ _ _ _ h => h) rfl rfl rfl rfl rfl ?_
          refine TD.takeNot (i := 14) (b := false) rfl (by kernel_rfl) (by kernel_rfl) (by kernel_rfl) (fun _ _ _ _ h => h) rfl rfl rfl rfl rfl ?_
          refine TD.take (i := 15) rfl (by kernel_rfl) (by kernel_rfl) (by kernel_rfl) (fun _ _ _ _ h => h) (Want.plain rfl) rfl rfl (PV.pick rfl rfl rfl) ?_
          refine TD.take (i := 16) rfl (by kernel_rfl) (by kernel_rfl) (by kernel_rfl) (fun _ _ _ _ h => h) (Want.plain rfl) rfl rfl (PV.move rfl rfl) ?_
          refine TD.take (i := 17) rfl (by kernel_rfl) (by kernel_rfl) (by kernel_rfl) (fun _ _ _ _ h => h) (Want.met rfl rfl rfl) rfl rfl (PV.move rfl rfl) ?_
          refine TD.take (i := 18) rfl (by kernel_rfl) (by kernel_rfl) (by kernel_rfl) (fun _ _ _ _ h => h) (Want.met rfl rfl rfl) rfl rfl (PV.neq rfl rfl rfl) ?_
          refine TD.take (i := 19) rfl (by kernel_rfl) (by kernel_rfl) (by kernel_rfl) (fun _ _ _ _ h => h) (Want.met rfl rfl rfl) rfl rfl (PV.move rfl rfl) ?_
          refine TD.take (i := 20) rfl (by kernel_rfl) (by kernel_rfl) (by kernel_rfl) (fun _ _ _ _ h => h) (Want.met rfl rfl rfl) rfl rfl (PV.move rfl rfl) ?_
          refine TD.take (i := 21) rfl (by kernel_rfl) (by kernel_rfl) (by kernel_rfl) (fun _ _ _ _ h => h) (Want.met rfl rfl rfl) rfl rfl (PV.neq rfl rfl rfl) ?_
          refine TD.take (i := 22) rfl (by kernel_rfl) (by kernel_rfl) (by kernel_rfl) (fun _ _ _ _ h => h) (Want.met rfl rfl rfl) rfl rfl (PV.move rfl rfl) ?_
          refine TD.take (i := 23) rfl (by kernel_rfl) (by kernel_rfl) (by kernel_rfl) (fun _ _ _ _ h => h) (Want.met rfl rfl rfl) rfl rfl (PV.loadN (vs := ints RecT.zero.flat) rfl Try.underlying58 rfl sz58 rfl (fun _ h => h.2.1) (RecT.len RecT.zero) (whole (RecT.len RecT.zero))) ?_
          refine TD.take (i := 24) rfl (by kernel_rfl) (by kernel_rfl) (by kernel_rfl) (fun _ _ _ _ h => h) (Want.met rfl rfl rfl) rfl rfl (PV.build (cells := (ints RecT.zero.flat).toArray) rfl rfl (by as_aux_lemma => kernel_rfl)) ?_
          refine TD.take (i := 25) rfl (by kernel_rfl) (by kernel_rfl) (by kernel_rfl) (fun _ _ _ _ h => h) (Want.met rfl rfl rfl) rfl rfl (PV.neqAgg (a := RecT.zero.flat) (b := RecT.zero.flat) (m := 8) (c := 189) sg58 sk58 rfl fI58 (ints_len (RecT.len RecT.zero)) (ints_len (RecT.len RecT.zero)) ⟨formed_ag fC58 cC58 (ints_len (RecT.len RecT.zero)), formed_ag fC58 cC58 (ints_len (RecT.len RecT.zero))⟩ OkRc.zero.wf OkRc.zero.wf rfl rfl rfl) ?_
          refine TD.dec (fun h76 => ?_) (fun h76 => ?_)
          · exact absurd rfl h76
          · skip
            refine TD.take (i := 26) rfl (by kernel_rfl) (by kernel_rfl) (by kernel_rfl) (fun _ _ _ _ h => h) (Want.met rfl rfl rfl) rfl rfl (PV.pick rfl rfl rfl) ?_
            refine TD.take (i := 27) rfl (by kernel_rfl) (by kernel_rfl) (by kernel_rfl) (fun _ _ _ _ h => h) (Want.met rfl rfl rfl) rfl rfl (PV.pick rfl rfl rfl) ?_
            refine TD.take (i := 28) rfl (by kernel_rfl) (by kernel_rfl) (by kernel_rfl) (fun _ _ _ _ h => h) (Want.plain rfl) rfl rfl (PV.pick rfl rfl rfl) ?_
            refine TD.done (by kernel_rfl) ?_
            refine TE.next hK16 ?_
            clear hK16
            refine TC.no rfl ?_
            refine TC.skip ?_
            refine TE.next hK15 ?_
            clear hK15
            refine TC.seq (fun K18 hK18 => ?_)
            refine TC.region ?_
            refine TL.v (Want.plain rfl) rfl rfl (PV.assign rfl rfl) ?_
            refine TL.nil ?_
            refine TE.next hK18 ?_
            clear hK18
            refine TC.ret ?_
            refine TE.weak (Sub.refl _) (fun _ s => sep_keep [] rfl s) ?_
            refine TE.ret1 rfl rfl ?_
            exact ⟨rfl, rfl⟩


theorem msgAny_does (x : Value) (bs : List UInt8) : Does Try.prog 5 #[x] (IsB x bs) [] (Ret (fun r' H => r' = .bool true ∧ H = [])) :=
  any_go x bs (decM bs).1 (decM bs).2 (decR bs).1 (decR bs).2 rfl rfl
    (by rcases decM_any bs with ⟨m, h, h1, h2, h3, _⟩ | h
        · rw [h]; exact .inl ⟨rfl, h1, h2, h3⟩
        · rw [h]; exact .inr ⟨rfl, rfl⟩)
    (by rcases decR_any bs with ⟨m, h, h1, h2, h3⟩ | h
        · rw [h]; exact .inl ⟨rfl, h1, h2, h3⟩
        · rw [h]; exact .inr ⟨rfl, rfl⟩)

end Go.Proofs.Ytdekgkmbcdlekaa
