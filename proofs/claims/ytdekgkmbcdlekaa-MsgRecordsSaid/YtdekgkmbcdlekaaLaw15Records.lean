/-
  MsgRecords: what it reckons.
-/

import Derived.Test.YtdekgkmbcdlekaaLaw15F

namespace Go.Proofs.Ytdekgkmbcdlekaa

open Go Leg Codec Api

set_option linter.unusedSimpArgs false
set_option linter.unusedVariables false

set_option maxRecDepth 100000

set_option maxHeartbeats 8000000

theorem sg58 : Try.prog.eqGuardType Try.prog.depth 58 = false := by kernel_rfl
theorem sk58 : Try.prog.keyTypeAt 8 58 = true := by kernel_rfl
theorem fI58 : flatI Try.prog 8 58 = some 189 := by kernel_rfl
theorem fC58 : (match Try.prog.underlying 58 with | some (.struct _) | some (.array _ _) => true | _ => false) = true := by kernel_rfl
theorem cC58 : Try.prog.cellsOf 58 = 189 := by kernel_rfl

theorem msgRecords_does (a b c d : Int) (x : RowT) (z : Value) (l : List ChangeT) (hw : WF x.flat) :
    Does Try.prog 6 #[(.agg #[(.int .i64 (a)), (.int .i64 (b)), (.int .i64 (c)), (.int .i64 (d))]), (.agg (ints x.flat).toArray), z] (IsL 3 EC z l) [] (Ret (fun r' H => r' = .bool true ∧ H = [])) := by
  refine Does.body (vs := [(.agg #[(.int .i64 (a)), (.int .i64 (b)), (.int .i64 (c)), (.int .i64 (d))]), (.agg (ints x.flat).toArray), z]) (n := 104) Try.func6 rfl rfl rfl (fun w0 F hF => ?_)
  refine TC.seq (fun K1 hK1 => ?_)
  refine TC.region ?_
  refine TL.box (Want.plain rfl) rfl rfl rfl rfl (fun b3 => ?_)
  change TL _ _ _ _ _ _ _ _ _ [blkA b3 [(.int .i64 (a)), (.int .i64 (b)), (.int .i64 (c)), (.int .i64 (d))] 63]
  refine TL.box (Want.plain rfl) rfl rfl rfl rfl (fun b4 => ?_)
  change TL _ _ _ _ _ _ _ _ _ [blkA b4 (ints x.flat) 38, blkA b3 [(.int .i64 (a)), (.int .i64 (b)), (.int .i64 (c)), (.int .i64 (d))] 63]
  refine TL.v (Want.plain rfl) rfl rfl (PV.assign rfl rfl) ?_
  refine TL.nil ?_
  refine TE.next hK1 ?_
  clear hK1
  refine TC.seq (fun K2 hK2 => ?_)
  refine TC.seq (fun K3 hK3 => ?_)
  refine TC.region ?_
  refine TL.callR (A := []) (B := [blkA b4 (ints x.flat) 38, blkA b3 [(.int .i64 (a)), (.int .i64 (b)), (.int .i64 (c)), (.int .i64 (d))] 63]) (Want.plain rfl) rfl rfl rfl nm10 rfl (fit_does) (fun _ s => s) (fun _ _ _ => trivial) (fun vR HR hR => ?_)
  obtain ⟨rfl, rfl⟩ := hR
  change TL _ _ _ _ _ _ _ _ _ [blkA b4 (ints x.flat) 38, blkA b3 [(.int .i64 (a)), (.int .i64 (b)), (.int .i64 (c)), (.int .i64 (d))] 63]
  refine TL.v (Want.plain rfl) rfl rfl (PV.not (r := false) rfl rfl rfl) ?_
  refine TL.nil ?_
  refine TE.next hK3 ?_
  clear hK3
  refine TC.no rfl ?_
  refine TC.skip ?_
  refine TE.next hK2 ?_
  clear hK2
  refine TC.seq (fun K4 hK4 => ?_)
  refine TC.seq (fun K5 hK5 => ?_)
  refine TC.region ?_
  refine TL.v (Want.plain rfl) rfl rfl (PV.move rfl rfl) ?_
  refine TL.v (Want.plain rfl) rfl rfl (PV.lenV rfl Try.underlying52 rfl hF.len) ?_
  refine TL.v (Want.plain rfl) rfl rfl (PV.gtr rfl rfl rfl) ?_
  refine TL.dec (fun h17 => ?_) (fun h17 => ?_)
  · skip
    refine TL.v (Want.plain rfl) rfl rfl (PV.move rfl rfl) ?_
    refine TL.unmet (b := true) rfl rfl rfl rfl (lb rfl) ?_
    refine TL.unmet (b := true) rfl rfl rfl rfl (lb rfl) ?_
    refine TL.unmet (b := true) rfl rfl rfl rfl (lb rfl) ?_
    refine TL.v (Want.plain rfl) rfl rfl (PV.pick rfl rfl rfl) ?_
    refine TL.nil ?_
    refine TE.next hK5 ?_
    clear hK5
    refine TC.yes rfl ?_
    refine TC.seq (fun K6 hK6 => ?_)
    refine TC.region ?_
    refine TL.v (Want.plain rfl) rfl rfl (PV.assign rfl rfl) ?_
    refine TL.nil ?_
    refine TE.next hK6 ?_
    clear hK6
    refine TC.ret ?_
    refine TE.passRet ?_
    clear hK4
    refine TE.weak (Sub.refl _) (fun _ s => sep_keep [] rfl s) ?_
    refine TE.ret1 rfl rfl ?_
    first | exact ⟨rfl, rfl⟩ | exact ⟨congrArg Value.bool (decide_eq_true rfl), rfl⟩
  · skip
    refine TL.v (Want.plain rfl) rfl rfl (PV.move rfl rfl) ?_
    refine TL.v (Want.met rfl rfl rfl) rfl rfl (PV.loadN (vs := ints x.flat) rfl Try.underlying38 rfl sz38 rfl (Rd.own 0 rfl rfl) (RowT.len x) (whole (RowT.len x))) ?_
    refine TL.callR (A := []) (B := [blkA b4 (ints x.flat) 38, blkA b3 [(.int .i64 (a)), (.int .i64 (b)), (.int .i64 (c)), (.int .i64 (d))] 63]) (Want.met rfl rfl rfl) rfl rfl rfl nm17 rfl (right04_does x hw) (fun _ s => s) (fun _ _ _ => trivial) (fun vR HR hR => ?_)
    obtain ⟨bok, rfl, hbok, rfl⟩ := hR
    change TL _ _ _ _ _ _ _ _ _ [blkA b4 (ints x.flat) 38, blkA b3 [(.int .i64 (a)), (.int .i64 (b)), (.int .i64 (c)), (.int .i64 (d))] 63]
    refine TL.decB (fun h20 => ?_) (fun h20 => ?_)
    · skip
      have hrow : rightR x = true := hbok h20
      obtain ⟨hg, he⟩ := behind_good (l := l) (by omega)
      have hM : OkRc (fullR a b c d x (behindV l)) := OkRc.full (TameR.of hw hrow) (hg.okV (by omega))
      have ho : okRc (fullR a b c d x (behindV l)) = true := okRc_full hrow hg.right
      refine TL.v (Want.met rfl rfl rfl) rfl rfl (PV.not (r := false) rfl rfl rfl) ?_
      refine TL.v (Want.plain rfl) rfl rfl (PV.pick rfl rfl rfl) ?_
      refine TL.nil ?_
      refine TE.next hK5 ?_
      clear hK5
      refine TC.no rfl ?_
      refine TC.skip ?_
      refine TE.next hK4 ?_
      clear hK4
      refine TC.seq (fun K7 hK7 => ?_)
      refine TC.region ?_
      refine TL.v (Want.plain rfl) rfl rfl (PV.move rfl rfl) ?_
      refine TL.callR (A := []) (B := [blkA b4 (ints x.flat) 38, blkA b3 [(.int .i64 (a)), (.int .i64 (b)), (.int .i64 (c)), (.int .i64 (d))] 63]) (Want.plain rfl) rfl rfl rfl nm23 rfl (behind_does z l) (fun _ s => s) (fun _ d _ => IsL.more EC.more (hF) d) (fun vR HR hR => ?_)
      obtain ⟨nb, rfl, rfl⟩ := hR
      change TL _ _ _ _ _ _ _ _ _ [blkA b4 (ints x.flat) 38, blkA b3 [(.int .i64 (a)), (.int .i64 (b)), (.int .i64 (c)), (.int .i64 (d))] 63]
      refine TL.v (Want.plain rfl) rfl rfl (PV.move rfl rfl) ?_
      refine TL.v (Want.plain rfl) rfl rfl (PV.extract (vs := [(.agg (ints (behindV l).flat).toArray), (.int .i64 (nb))]) rfl rfl rfl) ?_
      refine TL.v (Want.plain rfl) rfl rfl (PV.extract (vs := [(.agg (ints (behindV l).flat).toArray), (.int .i64 (nb))]) rfl rfl rfl) ?_
      refine TL.alloc (Want.plain rfl) rfl rfl rfl z25 (fun b7 => ?_)
      change TL _ _ _ _ _ _ _ _ _ [blkA b7 (ints ViewT.zero.flat) 25, blkA b4 (ints x.flat) 38, blkA b3 [(.int .i64 (a)), (.int .i64 (b)), (.int .i64 (c)), (.int .i64 (d))] 63]
      refine TL.store (vs := ints (behindV l).flat) (i := 0) (H' := [blkA b7 (ints (behindV l).flat) 25, blkA b4 (ints x.flat) 38, blkA b3 [(.int .i64 (a)), (.int .i64 (b)), (.int .i64 (c)), (.int .i64 (d))] 63]) (Want.plain rfl) rfl rfl rfl rfl rfl (by rw [(ViewT.len (behindV l))]; exact sz25) (ints_one _) rfl rfl (by have h0 := (ViewT.len ViewT.zero); have h1 := (ViewT.len (behindV l)); omega) (wwhole ((ViewT.len ViewT.zero).trans (ViewT.len (behindV l)).symm)) rfl ?_
      refine TL.v (Want.plain rfl) rfl rfl (PV.assign rfl rfl) ?_
      refine TL.nil ?_
      refine TE.next hK7 ?_
      clear hK7
      refine TC.seq (fun K8 hK8 => ?_)
      refine TC.region ?_
      refine TL.v (Want.plain rfl) rfl rfl (PV.indexArr (r := 0) rfl Try.underlying63 sz3 rfl rfl (lz rfl) (lz rfl) rfl) ?_
      refine TL.v (Want.plain rfl) rfl rfl (PV.load1 (v := (.int .i64 (a))) rfl Try.underlying3 rfl rfl (Rd.own 2 rfl rfl) rfl) ?_
      refine TL.v (Want.plain rfl) rfl rfl (PV.and (r := (a % 256)) rfl rfl rfl (mask (k := 8) (by decide) _)) ?_
      refine TL.v (Want.plain rfl) rfl rfl (PV.rem (r := ((a % 256) % 6)) rfl rfl rfl (by omega) (rem_pos (by omega))) ?_
      refine TL.v (Want.plain rfl) rfl rfl (PV.buildSegs (cs := ints (RecT.mk ((a % 256) % 6) 0 RowT.zero 0 BallotT.zero ChangeT.zero ViewT.zero).flat) (segs := [[Value.int .i64 0], [Value.int .i64 0], ints RowT.zero.flat, [Value.int .i64 0], ints BallotT.zero.flat, ints ChangeT.zero.flat, ints ViewT.zero.flat]) (res := [[Value.int .i64 ((a % 256) % 6)], [Value.int .i64 0], ints RowT.zero.flat, [Value.int .i64 0], ints BallotT.zero.flat, ints ChangeT.zero.flat, ints ViewT.zero.flat]) (parts := [(0, [Value.int .i64 ((a % 256) % 6)])]) rfl rfl Try.underlying58 (by kernel_rfl) (by kernel_rfl) rfl (putSegs_step rfl ((rfl : [Value.int .i64 ((a % 256) % 6)].length = 1).trans (rfl : [Value.int .i64 0].length = 1).symm) putSegs_nil) (RecT.eq (RecT.mk ((a % 256) % 6) 0 RowT.zero 0 BallotT.zero ChangeT.zero ViewT.zero)).symm) ?_
      refine TL.alloc (Want.plain rfl) rfl rfl rfl z58 (fun b9 => ?_)
      change TL _ _ _ _ _ _ _ _ _ [blkA b9 (ints RecT.zero.flat) 58, blkA b7 (ints (behindV l).flat) 25, blkA b4 (ints x.flat) 38, blkA b3 [(.int .i64 (a)), (.int .i64 (b)), (.int .i64 (c)), (.int .i64 (d))] 63]
      refine TL.store (vs := ints (RecT.mk ((a % 256) % 6) 0 RowT.zero 0 BallotT.zero ChangeT.zero ViewT.zero).flat) (i := 0) (H' := [blkA b9 (ints (RecT.mk ((a % 256) % 6) 0 RowT.zero 0 BallotT.zero ChangeT.zero ViewT.zero).flat) 58, blkA b7 (ints (behindV l).flat) 25, blkA b4 (ints x.flat) 38, blkA b3 [(.int .i64 (a)), (.int .i64 (b)), (.int .i64 (c)), (.int .i64 (d))] 63]) (Want.plain rfl) rfl rfl rfl rfl rfl (by rw [(RecT.len (RecT.mk ((a % 256) % 6) 0 RowT.zero 0 BallotT.zero ChangeT.zero ViewT.zero))]; exact sz58) (ints_one _) rfl rfl (by have h0 := (RecT.len RecT.zero); have h1 := (RecT.len (RecT.mk ((a % 256) % 6) 0 RowT.zero 0 BallotT.zero ChangeT.zero ViewT.zero)); omega) (wwhole ((RecT.len RecT.zero).trans (RecT.len (RecT.mk ((a % 256) % 6) 0 RowT.zero 0 BallotT.zero ChangeT.zero ViewT.zero)).symm)) rfl ?_
      refine TL.nil ?_
      refine TE.next hK8 ?_
      clear hK8
      refine TC.seq (fun K9 hK9 => ?_)
      refine TC.region ?_
      refine TL.v (Want.plain rfl) rfl rfl (PV.indexArr (r := 2) rfl Try.underlying63 sz3 rfl rfl (lz rfl) (lz rfl) rfl) ?_
      refine TL.v (Want.plain rfl) rfl rfl (PV.load1 (v := (.int .i64 (c))) rfl Try.underlying3 rfl rfl (Rd.own 3 rfl rfl) rfl) ?_
      refine TL.v (Want.plain rfl) rfl rfl (PV.and (r := (c % 1024)) rfl rfl rfl (mask (k := 10) (by decide) _)) ?_
      refine TL.v (Want.plain rfl) rfl rfl (PV.indexArr (r := 3) rfl Try.underlying63 sz3 rfl rfl (lz rfl) (lz rfl) rfl) ?_
      refine TL.v (Want.plain rfl) rfl rfl (PV.load1 (v := (.int .i64 (d))) rfl Try.underlying3 rfl rfl (Rd.own 3 rfl rfl) rfl) ?_
      refine TL.v (Want.plain rfl) rfl rfl (PV.and (r := (d % 256)) rfl rfl rfl (mask (k := 8) (by decide) _)) ?_
      refine TL.v (Want.plain rfl) rfl rfl (PV.rem (r := ((d % 256) % 5)) rfl rfl rfl (by omega) (rem_pos (by omega))) ?_
      refine TL.v (Want.plain rfl) rfl rfl (PV.buildSegs (cs := ints (BallotT.mk (c % 1024) ((d % 256) % 5)).flat) (segs := [[Value.int .i64 0], [Value.int .i64 0]]) (res := [[Value.int .i64 (c % 1024)], [Value.int .i64 ((d % 256) % 5)]]) (parts := [(0, [Value.int .i64 (c % 1024)]), (1, [Value.int .i64 ((d % 256) % 5)])]) rfl rfl Try.underlying40 (by kernel_rfl) (by kernel_rfl) rfl (putSegs_step rfl ((rfl : [Value.int .i64 (c % 1024)].length = 1).trans (rfl : [Value.int .i64 0].length = 1).symm) (putSegs_step rfl ((rfl : [Value.int .i64 ((d % 256) % 5)].length = 1).trans (rfl : [Value.int .i64 0].length = 1).symm) putSegs_nil)) (BallotT.eq (BallotT.mk (c % 1024) ((d % 256) % 5))).symm) ?_
      refine TL.alloc (Want.plain rfl) rfl rfl rfl z40 (fun b10 => ?_)
      change TL _ _ _ _ _ _ _ _ _ [blkA b10 (ints BallotT.zero.flat) 40, blkA b9 (ints (RecT.mk ((a % 256) % 6) 0 RowT.zero 0 BallotT.zero ChangeT.zero ViewT.zero).flat) 58, blkA b7 (ints (behindV l).flat) 25, blkA b4 (ints x.flat) 38, blkA b3 [(.int .i64 (a)), (.int .i64 (b)), (.int .i64 (c)), (.int .i64 (d))] 63]
      refine TL.store (vs := ints (BallotT.mk (c % 1024) ((d % 256) % 5)).flat) (i := 0) (H' := [blkA b10 (ints (BallotT.mk (c % 1024) ((d % 256) % 5)).flat) 40, blkA b9 (ints (RecT.mk ((a % 256) % 6) 0 RowT.zero 0 BallotT.zero ChangeT.zero ViewT.zero).flat) 58, blkA b7 (ints (behindV l).flat) 25, blkA b4 (ints x.flat) 38, blkA b3 [(.int .i64 (a)), (.int .i64 (b)), (.int .i64 (c)), (.int .i64 (d))] 63]) (Want.plain rfl) rfl rfl rfl rfl rfl (by rw [(BallotT.len (BallotT.mk (c % 1024) ((d % 256) % 5)))]; exact sz40) (ints_one _) rfl rfl (by have h0 := (BallotT.len BallotT.zero); have h1 := (BallotT.len (BallotT.mk (c % 1024) ((d % 256) % 5))); omega) (wwhole ((BallotT.len BallotT.zero).trans (BallotT.len (BallotT.mk (c % 1024) ((d % 256) % 5))).symm)) rfl ?_
      refine TL.nil ?_
      refine TE.next hK9 ?_
      clear hK9
      refine TC.seq (fun K10 hK10 => ?_)
      refine TC.seq (fun K11 hK11 => ?_)
      refine TC.region ?_
      refine TL.v (Want.plain rfl) rfl rfl (PV.fieldAddr (r := 0) rfl Try.underlying58 rfl sz3 rfl rfl) ?_
      refine TL.v (Want.plain rfl) rfl rfl (PV.load1 (v := (.int .i64 (((a % 256) % 6)))) rfl Try.underlying3 rfl rfl (Rd.own 1 rfl rfl) (RecT.at_kind (RecT.mk ((a % 256) % 6) 0 RowT.zero 0 BallotT.zero ChangeT.zero ViewT.zero) rfl)) ?_
      refine TL.nil ?_
      refine TE.next hK11 ?_
      clear hK11
      refine TC.block ?_
      refine TC.seq (fun K12 hK12 => ?_)
      refine TC.region ?_
      refine TL.v (Want.plain rfl) rfl rfl (PV.eql rfl rfl rfl) ?_
      refine TL.dec (fun h46 => ?_) (fun h46 => ?_)
      · skip
        refine TL.v (Want.plain rfl) rfl rfl (PV.assign rfl rfl) ?_
        refine TL.nil ?_
        refine TE.next hK12 ?_
        clear hK12
        refine TC.yes rfl ?_
        refine TC.region ?_
        refine TL.v (Want.plain rfl) rfl rfl (PV.loadN (vs := ints x.flat) rfl Try.underlying38 rfl sz38 rfl (Rd.own 3 rfl rfl) (RowT.len x) (whole (RowT.len x))) ?_
        refine TL.v (Want.plain rfl) rfl rfl (PV.fieldAddr (r := 2) rfl Try.underlying58 rfl sz38 rfl rfl) ?_
        refine TL.store (vs := ints x.flat) (i := 1) (H' := [blkA b10 (ints (BallotT.mk (c % 1024) ((d % 256) % 5)).flat) 40, blkA b9 (ints (RecT.mk ((a % 256) % 6) 0 x 0 BallotT.zero ChangeT.zero ViewT.zero).flat) 58, blkA b7 (ints (behindV l).flat) 25, blkA b4 (ints x.flat) 38, blkA b3 [(.int .i64 (a)), (.int .i64 (b)), (.int .i64 (c)), (.int .i64 (d))] 63]) (Want.plain rfl) rfl rfl rfl rfl rfl (by rw [(RowT.len x)]; exact sz38) (ints_one _) rfl rfl (by have h0 := (RecT.len (RecT.mk ((a % 256) % 6) 0 RowT.zero 0 BallotT.zero ChangeT.zero ViewT.zero)); have h1 := (RowT.len x); omega) (RecT.wr_row_ (RecT.mk ((a % 256) % 6) 0 RowT.zero 0 BallotT.zero ChangeT.zero ViewT.zero) 0 rfl (by have h1 := (RowT.len x); omega) (wwhole ((RowT.len RowT.zero).trans (RowT.len x).symm))) rfl ?_
        refine TL.nil ?_
        refine TE.blockEnd ?_
        refine TE.next hK10 ?_
        clear hK10
        refine TC.seq (fun K13 hK13 => ?_)
        refine TC.region ?_
        have hrec : (RecT.mk ((a % 256) % 6) 0 x 0 BallotT.zero ChangeT.zero ViewT.zero) = (recM a b c d x (behindV l)) := by simp [recM, normR, fullR, RecT.zero, *]
        rw [hrec]
        change TL _ _ _ _ _ _ _ _ _ [blkA b10 (ints (BallotT.mk (c % 1024) ((d % 256) % 5)).flat) 40, blkA b9 (ints (recM a b c d x (behindV l)).flat) 58, blkA b7 (ints (behindV l).flat) 25, blkA b4 (ints x.flat) 38, blkA b3 [(.int .i64 (a)), (.int .i64 (b)), (.int .i64 (c)), (.int .i64 (d))] 63]
        refine TL.v (Want.plain rfl) rfl rfl (PV.loadN (vs := ints (recM a b c d x (behindV l)).flat) rfl Try.underlying58 rfl sz58 rfl (Rd.own 1 rfl rfl) (RecT.len (recM a b c d x (behindV l))) (whole (RecT.len (recM a b c d x (behindV l))))) ?_
        refine TL.callR (A := []) (B := [blkA b10 (ints (BallotT.mk (c % 1024) ((d % 256) % 5)).flat) 40, blkA b9 (ints (recM a b c d x (behindV l)).flat) 58, blkA b7 (ints (behindV l).flat) 25, blkA b4 (ints x.flat) 38, blkA b3 [(.int .i64 (a)), (.int .i64 (b)), (.int .i64 (c)), (.int .i64 (d))] 63]) (Want.plain rfl) rfl rfl rfl nm22 rfl (record_does (recM a b c d x (behindV l))) (fun _ s => s) (fun _ _ _ => trivial) (fun vR HR hR => ?_)
        obtain ⟨_, rfl, rfl⟩ := hR
        revert vR
        intro ue1
        change TL _ _ _ _ _ _ _ _ _ [ownB ue1 (encR (recM a b c d x (behindV l))) 5, blkA b10 (ints (BallotT.mk (c % 1024) ((d % 256) % 5)).flat) 40, blkA b9 (ints (recM a b c d x (behindV l)).flat) 58, blkA b7 (ints (behindV l).flat) 25, blkA b4 (ints x.flat) 38, blkA b3 [(.int .i64 (a)), (.int .i64 (b)), (.int .i64 (c)), (.int .i64 (d))] 63]
        refine TL.ownLen 0 rfl rfl (fun hlue1 _ => ?_)
        refine TL.callR (A := []) (B := [ownB ue1 (encR (recM a b c d x (behindV l))) 5, blkA b10 (ints (BallotT.mk (c % 1024) ((d % 256) % 5)).flat) 40, blkA b9 (ints (recM a b c d x (behindV l)).flat) 58, blkA b7 (ints (behindV l).flat) 25, blkA b4 (ints x.flat) 38, blkA b3 [(.int .i64 (a)), (.int .i64 (b)), (.int .i64 (c)), (.int .i64 (d))] 63]) (Want.plain rfl) rfl rfl rfl nm20 rfl (readRecord_is (decR_enc hM ho)) (fun _ s => s) (isB_own 0 rfl rfl) (fun vR HR hR => ?_)
        obtain ⟨rfl, rfl⟩ := hR
        change TL _ _ _ _ _ _ _ _ _ [ownB ue1 (encR (recM a b c d x (behindV l))) 5, blkA b10 (ints (BallotT.mk (c % 1024) ((d % 256) % 5)).flat) 40, blkA b9 (ints (recM a b c d x (behindV l)).flat) 58, blkA b7 (ints (behindV l).flat) 25, blkA b4 (ints x.flat) 38, blkA b3 [(.int .i64 (a)), (.int .i64 (b)), (.int .i64 (c)), (.int .i64 (d))] 63]
        refine TL.v (Want.plain rfl) rfl rfl (PV.move rfl rfl) ?_
        refine TL.v (Want.plain rfl) rfl rfl (PV.extract (vs := [(.agg (ints (recM a b c d x (behindV l)).flat).toArray), (.int .i64 0)]) rfl rfl rfl) ?_
        refine TL.v (Want.plain rfl) rfl rfl (PV.extract (vs := [(.agg (ints (recM a b c d x (behindV l)).flat).toArray), (.int .i64 0)]) rfl rfl rfl) ?_
        refine TL.alloc (Want.plain rfl) rfl rfl rfl z58 (fun b11 => ?_)
        change TL _ _ _ _ _ _ _ _ _ [blkA b11 (ints RecT.zero.flat) 58, ownB ue1 (encR (recM a b c d x (behindV l))) 5, blkA b10 (ints (BallotT.mk (c % 1024) ((d % 256) % 5)).flat) 40, blkA b9 (ints (recM a b c d x (behindV l)).flat) 58, blkA b7 (ints (behindV l).flat) 25, blkA b4 (ints x.flat) 38, blkA b3 [(.int .i64 (a)), (.int .i64 (b)), (.int .i64 (c)), (.int .i64 (d))] 63]
        refine TL.store (vs := ints (recM a b c d x (behindV l)).flat) (i := 0) (H' := [blkA b11 (ints (recM a b c d x (behindV l)).flat) 58, ownB ue1 (encR (recM a b c d x (behindV l))) 5, blkA b10 (ints (BallotT.mk (c % 1024) ((d % 256) % 5)).flat) 40, blkA b9 (ints (recM a b c d x (behindV l)).flat) 58, blkA b7 (ints (behindV l).flat) 25, blkA b4 (ints x.flat) 38, blkA b3 [(.int .i64 (a)), (.int .i64 (b)), (.int .i64 (c)), (.int .i64 (d))] 63]) (Want.plain rfl) rfl rfl rfl rfl rfl (by rw [(RecT.len (recM a b c d x (behindV l)))]; exact sz58) (ints_one _) rfl rfl (by have h0 := (RecT.len RecT.zero); have h1 := (RecT.len (recM a b c d x (behindV l))); omega) (wwhole ((RecT.len RecT.zero).trans (RecT.len (recM a b c d x (behindV l))).symm)) rfl ?_
        refine TL.v (Want.plain rfl) rfl rfl (PV.assign rfl rfl) ?_
        refine TL.nil ?_
        refine TE.next hK13 ?_
        clear hK13
        refine TC.seq (fun K14 hK14 => ?_)
        refine TC.region ?_
        refine TL.v (Want.plain rfl) rfl rfl (PV.move rfl rfl) ?_
        refine TL.v (Want.plain rfl) rfl rfl (PV.eql rfl rfl rfl) ?_
        refine TL.v (Want.plain rfl) rfl rfl (PV.move rfl rfl) ?_
        refine TL.v (Want.met rfl rfl rfl) rfl rfl (PV.loadN (vs := ints (recM a b c d x (behindV l)).flat) rfl Try.underlying58 rfl sz58 rfl (Rd.own 0 rfl rfl) (RecT.len (recM a b c d x (behindV l))) (whole (RecT.len (recM a b c d x (behindV l))))) ?_
        refine TL.v (Want.met rfl rfl rfl) rfl rfl (PV.loadN (vs := ints (recM a b c d x (behindV l)).flat) rfl Try.underlying58 rfl sz58 rfl (Rd.own 3 rfl rfl) (RecT.len (recM a b c d x (behindV l))) (whole (RecT.len (recM a b c d x (behindV l))))) ?_
        refine TL.v (Want.met rfl rfl rfl) rfl rfl (PV.eqlAgg (a := (recM a b c d x (behindV l)).flat) (b := (recM a b c d x (behindV l)).flat) (m := 8) (c := 189) sg58 sk58 rfl fI58 (ints_len (RecT.len (recM a b c d x (behindV l)))) (ints_len (RecT.len (recM a b c d x (behindV l)))) ⟨formed_ag fC58 cC58 (ints_len (RecT.len (recM a b c d x (behindV l)))), formed_ag fC58 cC58 (ints_len (RecT.len (recM a b c d x (behindV l))))⟩ hM.norm.wf hM.norm.wf rfl rfl rfl) ?_
        refine TL.v (Want.plain rfl) rfl rfl (PV.pick rfl rfl rfl) ?_
        refine TL.v (Want.plain rfl) rfl rfl (PV.assign rfl rfl) ?_
        refine TL.nil ?_
        refine TE.next hK14 ?_
        clear hK14
        refine TC.ret ?_
        refine TE.weak (Sub.refl _) (fun _ s => sep_keep [] rfl s) ?_
        refine TE.ret1 rfl rfl ?_
        first | exact ⟨rfl, rfl⟩ | exact ⟨congrArg Value.bool (decide_eq_true rfl), rfl⟩
      · skip
        refine TL.v (Want.plain rfl) rfl rfl (PV.assign rfl rfl) ?_
        refine TL.nil ?_
        refine TE.next hK12 ?_
        clear hK12
        refine TC.no rfl ?_
        refine TC.seq (fun K15 hK15 => ?_)
        refine TC.region ?_
        refine TL.v (Want.plain rfl) rfl rfl (PV.eql rfl rfl rfl) ?_
        refine TL.dec (fun h50 => ?_) (fun h50 => ?_)
        · skip
          refine TL.v (Want.plain rfl) rfl rfl (PV.assign rfl rfl) ?_
          refine TL.nil ?_
          refine TE.next hK15 ?_
          clear hK15
          refine TC.yes rfl ?_
          refine TC.draw (fun w => Frm F w ∧ w.heap[b3]? = some (.cells ([(.int .i64 (a)), (.int .i64 (b)), (.int .i64 (c)), (.int .i64 (d))]).toArray 63 (0, 0)) ∧ w.heap[b4]? = some (.cells (ints x.flat).toArray 38 (0, 0)) ∧ True) mixed rfl (fun _ s => ⟨Frm.of s, s.block 4 (lb rfl) rfl, s.block 3 (lb rfl) rfl, trivial⟩) ?_
          refine TD.take (i := 0) rfl (by kernel_rfl) (by kernel_rfl) (by kernel_rfl) (fun _ _ _ _ h => h) (Want.plain rfl) rfl rfl (PV.indexArr (r := 1) rfl Try.underlying63 sz3 rfl rfl (lz rfl) (lz rfl) rfl) ?_
          refine TD.take (i := 1) rfl (by kernel_rfl) (by kernel_rfl) (by kernel_rfl) (fun _ _ _ _ h => h) (Want.plain rfl) rfl rfl (PV.load1 (v := (.int .i64 (b))) rfl Try.underlying3 rfl rfl (fun _ h => h.2.1) rfl) ?_
          refine TD.take (i := 2) rfl (by kernel_rfl) (by kernel_rfl) (by kernel_rfl) (fun _ _ _ _ h => h) (Want.plain rfl) rfl rfl (PV.and (r := (b % 256)) rfl rfl rfl (mask (k := 8) (by decide) _)) ?_
          refine TD.take (i := 3) rfl (by kernel_rfl) (by kernel_rfl) (by kernel_rfl) (fun _ _ _ _ h => h) (Want.plain rfl) rfl rfl (PV.rem (r := ((b % 256) % 5)) rfl rfl rfl (by omega) (rem_pos (by omega))) ?_
          refine TD.take (i := 4) rfl (by kernel_rfl) (by kernel_rfl) (by kernel_rfl) (fun _ _ _ _ h => h) (Want.plain rfl) rfl rfl (PV.loadN (vs := ints x.flat) rfl Try.underlying38 rfl sz38 rfl (fun _ h => h.2.2.1) (RowT.len x) (whole (RowT.len x))) ?_
          refine TD.take (i := 5) rfl (by kernel_rfl) (by kernel_rfl) (by kernel_rfl) (fun _ _ _ _ h => h) (Want.plain rfl) rfl rfl (PV.fieldAddr (r := 1) rfl Try.underlying58 rfl sz3 rfl rfl) ?_
          refine TD.all [6] (by kernel_rfl) rfl ?_
          refine AllT.cons rfl ?_ ?_
          · skip
            refine TL.store1 (i := 1) (H' := [blkA b10 (ints (BallotT.mk (c % 1024) ((d % 256) % 5)).flat) 40, blkA b9 (ints (RecT.mk ((a % 256) % 6) ((b % 256) % 5) RowT.zero 0 BallotT.zero ChangeT.zero ViewT.zero).flat) 58, blkA b7 (ints (behindV l).flat) 25, blkA b4 (ints x.flat) 38, blkA b3 [(.int .i64 (a)), (.int .i64 (b)), (.int .i64 (c)), (.int .i64 (d))] 63]) (Want.plain rfl) rfl rfl rfl rfl rfl sz3 rfl rfl (by have h0 := (RecT.len (RecT.mk ((a % 256) % 6) 0 RowT.zero 0 BallotT.zero ChangeT.zero ViewT.zero)); omega) (RecT.set_whose (RecT.mk ((a % 256) % 6) 0 RowT.zero 0 BallotT.zero ChangeT.zero ViewT.zero) rfl _) rfl ?_
            refine TL.nil ?_
            refine TE.draw (fun _ s => ⟨Frm.of s, s.block 4 (lb rfl) rfl, s.block 3 (lb rfl) rfl, trivial⟩) ?_
            refine TD.take (i := 7) rfl (by kernel_rfl) (by kernel_rfl) (by kernel_rfl) (fun _ _ _ _ h => h) (Want.plain rfl) rfl rfl (PV.fieldAddr (r := 2) rfl Try.underlying58 rfl sz38 rfl rfl) ?_
            refine TD.all [8] (by kernel_rfl) rfl ?_
            refine AllT.cons rfl ?_ ?_
            · skip
              refine TL.store (vs := ints x.flat) (i := 1) (H' := [blkA b10 (ints (BallotT.mk (c % 1024) ((d % 256) % 5)).flat) 40, blkA b9 (ints (RecT.mk ((a % 256) % 6) ((b % 256) % 5) x 0 BallotT.zero ChangeT.zero ViewT.zero).flat) 58, blkA b7 (ints (behindV l).flat) 25, blkA b4 (ints x.flat) 38, blkA b3 [(.int .i64 (a)), (.int .i64 (b)), (.int .i64 (c)), (.int .i64 (d))] 63]) (Want.plain rfl) rfl rfl rfl rfl rfl (by rw [(RowT.len x)]; exact sz38) (ints_one _) rfl rfl (by have h0 := (RecT.len (RecT.mk ((a % 256) % 6) ((b % 256) % 5) RowT.zero 0 BallotT.zero ChangeT.zero ViewT.zero)); have h1 := (RowT.len x); omega) (RecT.wr_row_ (RecT.mk ((a % 256) % 6) ((b % 256) % 5) RowT.zero 0 BallotT.zero ChangeT.zero ViewT.zero) 0 rfl (by have h1 := (RowT.len x); omega) (wwhole ((RowT.len RowT.zero).trans (RowT.len x).symm))) rfl ?_
              refine TL.nil ?_
              refine TE.draw (fun _ s => ⟨Frm.of s, s.block 4 (lb rfl) rfl, s.block 3 (lb rfl) rfl, trivial⟩) ?_
              refine TD.done (by kernel_rfl) ?_
              refine TE.blockEnd ?_
              refine TE.next hK10 ?_
              clear hK10
              refine TC.seq (fun K16 hK16 => ?_)
              refine TC.region ?_
              have hrec : (RecT.mk ((a % 256) % 6) ((b % 256) % 5) x 0 BallotT.zero ChangeT.zero ViewT.zero) = (recM a b c d x (behindV l)) := by simp [recM, normR, fullR, RecT.zero, *]
              rw [hrec]
              change TL _ _ _ _ _ _ _ _ _ [blkA b10 (ints (BallotT.mk (c % 1024) ((d % 256) % 5)).flat) 40, blkA b9 (ints (recM a b c d x (behindV l)).flat) 58, blkA b7 (ints (behindV l).flat) 25, blkA b4 (ints x.flat) 38, blkA b3 [(.int .i64 (a)), (.int .i64 (b)), (.int .i64 (c)), (.int .i64 (d))] 63]
              refine TL.v (Want.plain rfl) rfl rfl (PV.loadN (vs := ints (recM a b c d x (behindV l)).flat) rfl Try.underlying58 rfl sz58 rfl (Rd.own 1 rfl rfl) (RecT.len (recM a b c d x (behindV l))) (whole (RecT.len (recM a b c d x (behindV l))))) ?_
              refine TL.callR (A := []) (B := [blkA b10 (ints (BallotT.mk (c % 1024) ((d % 256) % 5)).flat) 40, blkA b9 (ints (recM a b c d x (behindV l)).flat) 58, blkA b7 (ints (behindV l).flat) 25, blkA b4 (ints x.flat) 38, blkA b3 [(.int .i64 (a)), (.int .i64 (b)), (.int .i64 (c)), (.int .i64 (d))] 63]) (Want.plain rfl) rfl rfl rfl nm22 rfl (record_does (recM a b c d x (behindV l))) (fun _ s => s) (fun _ _ _ => trivial) (fun vR HR hR => ?_)
              obtain ⟨_, rfl, rfl⟩ := hR
              revert vR
              intro ue1
              change TL _ _ _ _ _ _ _ _ _ [ownB ue1 (encR (recM a b c d x (behindV l))) 5, blkA b10 (ints (BallotT.mk (c % 1024) ((d % 256) % 5)).flat) 40, blkA b9 (ints (recM a b c d x (behindV l)).flat) 58, blkA b7 (ints (behindV l).flat) 25, blkA b4 (ints x.flat) 38, blkA b3 [(.int .i64 (a)), (.int .i64 (b)), (.int .i64 (c)), (.int .i64 (d))] 63]
              refine TL.ownLen 0 rfl rfl (fun hlue1 _ => ?_)
              refine TL.callR (A := []) (B := [ownB ue1 (encR (recM a b c d x (behindV l))) 5, blkA b10 (ints (BallotT.mk (c % 1024) ((d % 256) % 5)).flat) 40, blkA b9 (ints (recM a b c d x (behindV l)).flat) 58, blkA b7 (ints (behindV l).flat) 25, blkA b4 (ints x.flat) 38, blkA b3 [(.int .i64 (a)), (.int .i64 (b)), (.int .i64 (c)), (.int .i64 (d))] 63]) (Want.plain rfl) rfl rfl rfl nm20 rfl (readRecord_is (decR_enc hM ho)) (fun _ s => s) (isB_own 0 rfl rfl) (fun vR HR hR => ?_)
              obtain ⟨rfl, rfl⟩ := hR
              change TL _ _ _ _ _ _ _ _ _ [ownB ue1 (encR (recM a b c d x (behindV l))) 5, blkA b10 (ints (BallotT.mk (c % 1024) ((d % 256) % 5)).flat) 40, blkA b9 (ints (recM a b c d x (behindV l)).flat) 58, blkA b7 (ints (behindV l).flat) 25, blkA b4 (ints x.flat) 38, blkA b3 [(.int .i64 (a)), (.int .i64 (b)), (.int .i64 (c)), (.int .i64 (d))] 63]
              refine TL.v (Want.plain rfl) rfl rfl (PV.move rfl rfl) ?_
              refine TL.v (Want.plain rfl) rfl rfl (PV.extract (vs := [(.agg (ints (recM a b c d x (behindV l)).flat).toArray), (.int .i64 0)]) rfl rfl rfl) ?_
              refine TL.v (Want.plain rfl) rfl rfl (PV.extract (vs := [(.agg (ints (recM a b c d x (behindV l)).flat).toArray), (.int .i64 0)]) rfl rfl rfl) ?_
              refine TL.alloc (Want.plain rfl) rfl rfl rfl z58 (fun b11 => ?_)
              change TL _ _ _ _ _ _ _ _ _ [blkA b11 (ints RecT.zero.flat) 58, ownB ue1 (encR (recM a b c d x (behindV l))) 5, blkA b10 (ints (BallotT.mk (c % 1024) ((d % 256) % 5)).flat) 40, blkA b9 (ints (recM a b c d x (behindV l)).flat) 58, blkA b7 (ints (behindV l).flat) 25, blkA b4 (ints x.flat) 38, blkA b3 [(.int .i64 (a)), (.int .i64 (b)), (.int .i64 (c)), (.int .i64 (d))] 63]
              refine TL.store (vs := ints (recM a b c d x (behindV l)).flat) (i := 0) (H' := [blkA b11 (ints (recM a b c d x (behindV l)).flat) 58, ownB ue1 (encR (recM a b c d x (behindV l))) 5, blkA b10 (ints (BallotT.mk (c % 1024) ((d % 256) % 5)).flat) 40, blkA b9 (ints (recM a b c d x (behindV l)).flat) 58, blkA b7 (ints (behindV l).flat) 25, blkA b4 (ints x.flat) 38, blkA b3 [(.int .i64 (a)), (.int .i64 (b)), (.int .i64 (c)), (.int .i64 (d))] 63]) (Want.plain rfl) rfl rfl rfl rfl rfl (by rw [(RecT.len (recM a b c d x (behindV l)))]; exact sz58) (ints_one _) rfl rfl (by have h0 := (RecT.len RecT.zero); have h1 := (RecT.len (recM a b c d x (behindV l))); omega) (wwhole ((RecT.len RecT.zero).trans (RecT.len (recM a b c d x (behindV l))).symm)) rfl ?_
              refine TL.v (Want.plain rfl) rfl rfl (PV.assign rfl rfl) ?_
              refine TL.nil ?_
              refine TE.next hK16 ?_
              clear hK16
              refine TC.seq (fun K17 hK17 => ?_)
              refine TC.region ?_
              refine TL.v (Want.plain rfl) rfl rfl (PV.move rfl rfl) ?_
              refine TL.v (Want.plain rfl) rfl rfl (PV.eql rfl rfl rfl) ?_
              refine TL.v (Want.plain rfl) rfl rfl (PV.move rfl rfl) ?_
              refine TL.v (Want.met rfl rfl rfl) rfl rfl (PV.loadN (vs := ints (recM a b c d x (behindV l)).flat) rfl Try.underlying58 rfl sz58 rfl (Rd.own 0 rfl rfl) (RecT.len (recM a b c d x (behindV l))) (whole (RecT.len (recM a b c d x (behindV l))))) ?_
              refine TL.v (Want.met rfl rfl rfl) rfl rfl (PV.loadN (vs := ints (recM a b c d x (behindV l)).flat) rfl Try.underlying58 rfl sz58 rfl (Rd.own 3 rfl rfl) (RecT.len (recM a b c d x (behindV l))) (whole (RecT.len (recM a b c d x (behindV l))))) ?_
              refine TL.v (Want.met rfl rfl rfl) rfl rfl (PV.eqlAgg (a := (recM a b c d x (behindV l)).flat) (b := (recM a b c d x (behindV l)).flat) (m := 8) (c := 189) sg58 sk58 rfl fI58 (ints_len (RecT.len (recM a b c d x (behindV l)))) (ints_len (RecT.len (recM a b c d x (behindV l)))) ⟨formed_ag fC58 cC58 (ints_len (RecT.len (recM a b c d x (behindV l)))), formed_ag fC58 cC58 (ints_len (RecT.len (recM a b c d x (behindV l))))⟩ hM.norm.wf hM.norm.wf rfl rfl rfl) ?_
              refine TL.v (Want.plain rfl) rfl rfl (PV.pick rfl rfl rfl) ?_
              refine TL.v (Want.plain rfl) rfl rfl (PV.assign rfl rfl) ?_
              refine TL.nil ?_
              refine TE.next hK17 ?_
              clear hK17
              refine TC.ret ?_
              refine TE.weak (Sub.refl _) (fun _ s => sep_keep [] rfl s) ?_
              refine TE.ret1 rfl rfl ?_
              first | exact ⟨rfl, rfl⟩ | exact ⟨congrArg Value.bool (decide_eq_true rfl), rfl⟩
            exact AllT.nil
          exact AllT.nil
        · skip
          refine TL.v (Want.plain rfl) rfl rfl (PV.assign rfl rfl) ?_
          refine TL.nil ?_
          refine TE.next hK15 ?_
          clear hK15
          refine TC.no rfl ?_
          refine TC.seq (fun K18 hK18 => ?_)
          refine TC.region ?_
          refine TL.v (Want.plain rfl) rfl rfl (PV.eql rfl rfl rfl) ?_
          refine TL.dec (fun h59 => ?_) (fun h59 => ?_)
          · skip
            refine TL.v (Want.plain rfl) rfl rfl (PV.assign rfl rfl) ?_
            refine TL.nil ?_
            refine TE.next hK18 ?_
            clear hK18
            refine TC.yes rfl ?_
            refine TC.region ?_
            refine TL.v (Want.plain rfl) rfl rfl (PV.indexArr (r := 1) rfl Try.underlying63 sz3 rfl rfl (lz rfl) (lz rfl) rfl) ?_
            refine TL.v (Want.plain rfl) rfl rfl (PV.load1 (v := (.int .i64 (b))) rfl Try.underlying3 rfl rfl (Rd.own 4 rfl rfl) rfl) ?_
            refine TL.v (Want.plain rfl) rfl rfl (PV.and (r := (b % 256)) rfl rfl rfl (mask (k := 8) (by decide) _)) ?_
            refine TL.v (Want.plain rfl) rfl rfl (PV.rem (r := ((b % 256) % 5)) rfl rfl rfl (by omega) (rem_pos (by omega))) ?_
            refine TL.v (Want.plain rfl) rfl rfl (PV.fieldAddr (r := 1) rfl Try.underlying58 rfl sz3 rfl rfl) ?_
            refine TL.store1 (i := 1) (H' := [blkA b10 (ints (BallotT.mk (c % 1024) ((d % 256) % 5)).flat) 40, blkA b9 (ints (RecT.mk ((a % 256) % 6) ((b % 256) % 5) RowT.zero 0 BallotT.zero ChangeT.zero ViewT.zero).flat) 58, blkA b7 (ints (behindV l).flat) 25, blkA b4 (ints x.flat) 38, blkA b3 [(.int .i64 (a)), (.int .i64 (b)), (.int .i64 (c)), (.int .i64 (d))] 63]) (Want.plain rfl) rfl rfl rfl rfl rfl sz3 rfl rfl (by have h0 := (RecT.len (RecT.mk ((a % 256) % 6) 0 RowT.zero 0 BallotT.zero ChangeT.zero ViewT.zero)); omega) (RecT.set_whose (RecT.mk ((a % 256) % 6) 0 RowT.zero 0 BallotT.zero ChangeT.zero ViewT.zero) rfl _) rfl ?_
            refine TL.nil ?_
            refine TE.blockEnd ?_
            refine TE.next hK10 ?_
            clear hK10
            refine TC.seq (fun K19 hK19 => ?_)
            refine TC.region ?_
            have hrec : (RecT.mk ((a % 256) % 6) ((b % 256) % 5) RowT.zero 0 BallotT.zero ChangeT.zero ViewT.zero) = (recM a b c d x (behindV l)) := by simp [recM, normR, fullR, RecT.zero, *]
            rw [hrec]
            change TL _ _ _ _ _ _ _ _ _ [blkA b10 (ints (BallotT.mk (c % 1024) ((d % 256) % 5)).flat) 40, blkA b9 (ints (recM a b c d x (behindV l)).flat) 58, blkA b7 (ints (behindV l).flat) 25, blkA b4 (ints x.flat) 38, blkA b3 [(.int .i64 (a)), (.int .i64 (b)), (.int .i64 (c)), (.int .i64 (d))] 63]
            refine TL.v (Want.plain rfl) rfl rfl (PV.loadN (vs := ints (recM a b c d x (behindV l)).flat) rfl Try.underlying58 rfl sz58 rfl (Rd.own 1 rfl rfl) (RecT.len (recM a b c d x (behindV l))) (whole (RecT.len (recM a b c d x (behindV l))))) ?_
            refine TL.callR (A := []) (B := [blkA b10 (ints (BallotT.mk (c % 1024) ((d % 256) % 5)).flat) 40, blkA b9 (ints (recM a b c d x (behindV l)).flat) 58, blkA b7 (ints (behindV l).flat) 25, blkA b4 (ints x.flat) 38, blkA b3 [(.int .i64 (a)), (.int .i64 (b)), (.int .i64 (c)), (.int .i64 (d))] 63]) (Want.plain rfl) rfl rfl rfl nm22 rfl (record_does (recM a b c d x (behindV l))) (fun _ s => s) (fun _ _ _ => trivial) (fun vR HR hR => ?_)
            obtain ⟨_, rfl, rfl⟩ := hR
            revert vR
            intro ue1
            change TL _ _ _ _ _ _ _ _ _ [ownB ue1 (encR (recM a b c d x (behindV l))) 5, blkA b10 (ints (BallotT.mk (c % 1024) ((d % 256) % 5)).flat) 40, blkA b9 (ints (recM a b c d x (behindV l)).flat) 58, blkA b7 (ints (behindV l).flat) 25, blkA b4 (ints x.flat) 38, blkA b3 [(.int .i64 (a)), (.int .i64 (b)), (.int .i64 (c)), (.int .i64 (d))] 63]
            refine TL.ownLen 0 rfl rfl (fun hlue1 _ => ?_)
            refine TL.callR (A := []) (B := [ownB ue1 (encR (recM a b c d x (behindV l))) 5, blkA b10 (ints (BallotT.mk (c % 1024) ((d % 256) % 5)).flat) 40, blkA b9 (ints (recM a b c d x (behindV l)).flat) 58, blkA b7 (ints (behindV l).flat) 25, blkA b4 (ints x.flat) 38, blkA b3 [(.int .i64 (a)), (.int .i64 (b)), (.int .i64 (c)), (.int .i64 (d))] 63]) (Want.plain rfl) rfl rfl rfl nm20 rfl (readRecord_is (decR_enc hM ho)) (fun _ s => s) (isB_own 0 rfl rfl) (fun vR HR hR => ?_)
            obtain ⟨rfl, rfl⟩ := hR
            change TL _ _ _ _ _ _ _ _ _ [ownB ue1 (encR (recM a b c d x (behindV l))) 5, blkA b10 (ints (BallotT.mk (c % 1024) ((d % 256) % 5)).flat) 40, blkA b9 (ints (recM a b c d x (behindV l)).flat) 58, blkA b7 (ints (behindV l).flat) 25, blkA b4 (ints x.flat) 38, blkA b3 [(.int .i64 (a)), (.int .i64 (b)), (.int .i64 (c)), (.int .i64 (d))] 63]
            refine TL.v (Want.plain rfl) rfl rfl (PV.move rfl rfl) ?_
            refine TL.v (Want.plain rfl) rfl rfl (PV.extract (vs := [(.agg (ints (recM a b c d x (behindV l)).flat).toArray), (.int .i64 0)]) rfl rfl rfl) ?_
            refine TL.v (Want.plain rfl) rfl rfl (PV.extract (vs := [(.agg (ints (recM a b c d x (behindV l)).flat).toArray), (.int .i64 0)]) rfl rfl rfl) ?_
            refine TL.alloc (Want.plain rfl) rfl rfl rfl z58 (fun b11 => ?_)
            change TL _ _ _ _ _ _ _ _ _ [blkA b11 (ints RecT.zero.flat) 58, ownB ue1 (encR (recM a b c d x (behindV l))) 5, blkA b10 (ints (BallotT.mk (c % 1024) ((d % 256) % 5)).flat) 40, blkA b9 (ints (recM a b c d x (behindV l)).flat) 58, blkA b7 (ints (behindV l).flat) 25, blkA b4 (ints x.flat) 38, blkA b3 [(.int .i64 (a)), (.int .i64 (b)), (.int .i64 (c)), (.int .i64 (d))] 63]
            refine TL.store (vs := ints (recM a b c d x (behindV l)).flat) (i := 0) (H' := [blkA b11 (ints (recM a b c d x (behindV l)).flat) 58, ownB ue1 (encR (recM a b c d x (behindV l))) 5, blkA b10 (ints (BallotT.mk (c % 1024) ((d % 256) % 5)).flat) 40, blkA b9 (ints (recM a b c d x (behindV l)).flat) 58, blkA b7 (ints (behindV l).flat) 25, blkA b4 (ints x.flat) 38, blkA b3 [(.int .i64 (a)), (.int .i64 (b)), (.int .i64 (c)), (.int .i64 (d))] 63]) (Want.plain rfl) rfl rfl rfl rfl rfl (by rw [(RecT.len (recM a b c d x (behindV l)))]; exact sz58) (ints_one _) rfl rfl (by have h0 := (RecT.len RecT.zero); have h1 := (RecT.len (recM a b c d x (behindV l))); omega) (wwhole ((RecT.len RecT.zero).trans (RecT.len (recM a b c d x (behindV l))).symm)) rfl ?_
            refine TL.v (Want.plain rfl) rfl rfl (PV.assign rfl rfl) ?_
            refine TL.nil ?_
            refine TE.next hK19 ?_
            clear hK19
            refine TC.seq (fun K20 hK20 => ?_)
            refine TC.region ?_
            refine TL.v (Want.plain rfl) rfl rfl (PV.move rfl rfl) ?_
            refine TL.v (Want.plain rfl) rfl rfl (PV.eql rfl rfl rfl) ?_
            refine TL.v (Want.plain rfl) rfl rfl (PV.move rfl rfl) ?_
            refine TL.v (Want.met rfl rfl rfl) rfl rfl (PV.loadN (vs := ints (recM a b c d x (behindV l)).flat) rfl Try.underlying58 rfl sz58 rfl (Rd.own 0 rfl rfl) (RecT.len (recM a b c d x (behindV l))) (whole (RecT.len (recM a b c d x (behindV l))))) ?_
            refine TL.v (Want.met rfl rfl rfl) rfl rfl (PV.loadN (vs := ints (recM a b c d x (behindV l)).flat) rfl Try.underlying58 rfl sz58 rfl (Rd.own 3 rfl rfl) (RecT.len (recM a b c d x (behindV l))) (whole (RecT.len (recM a b c d x (behindV l))))) ?_
            refine TL.v (Want.met rfl rfl rfl) rfl rfl (PV.eqlAgg (a := (recM a b c d x (behindV l)).flat) (b := (recM a b c d x (behindV l)).flat) (m := 8) (c := 189) sg58 sk58 rfl fI58 (ints_len (RecT.len (recM a b c d x (behindV l)))) (ints_len (RecT.len (recM a b c d x (behindV l)))) ⟨formed_ag fC58 cC58 (ints_len (RecT.len (recM a b c d x (behindV l)))), formed_ag fC58 cC58 (ints_len (RecT.len (recM a b c d x (behindV l))))⟩ hM.norm.wf hM.norm.wf rfl rfl rfl) ?_
            refine TL.v (Want.plain rfl) rfl rfl (PV.pick rfl rfl rfl) ?_
            refine TL.v (Want.plain rfl) rfl rfl (PV.assign rfl rfl) ?_
            refine TL.nil ?_
            refine TE.next hK20 ?_
            clear hK20
            refine TC.ret ?_
            refine TE.weak (Sub.refl _) (fun _ s => sep_keep [] rfl s) ?_
            refine TE.ret1 rfl rfl ?_
            first | exact ⟨rfl, rfl⟩ | exact ⟨congrArg Value.bool (decide_eq_true rfl), rfl⟩
          · skip
            refine TL.v (Want.plain rfl) rfl rfl (PV.assign rfl rfl) ?_
            refine TL.nil ?_
            refine TE.next hK18 ?_
            clear hK18
            refine TC.no rfl ?_
            refine TC.seq (fun K21 hK21 => ?_)
            refine TC.region ?_
            refine TL.v (Want.plain rfl) rfl rfl (PV.eql rfl rfl rfl) ?_
            refine TL.dec (fun h66 => ?_) (fun h66 => ?_)
            · skip
              refine TL.v (Want.plain rfl) rfl rfl (PV.assign rfl rfl) ?_
              refine TL.nil ?_
              refine TE.next hK21 ?_
              clear hK21
              refine TC.yes rfl ?_
              refine TC.draw (fun w => Frm F w ∧ w.heap[b3]? = some (.cells ([(.int .i64 (a)), (.int .i64 (b)), (.int .i64 (c)), (.int .i64 (d))]).toArray 63 (0, 0)) ∧ w.heap[b10]? = some (.cells (ints (BallotT.mk (c % 1024) ((d % 256) % 5)).flat).toArray 40 (0, 0)) ∧ True) mixed rfl (fun _ s => ⟨Frm.of s, s.block 4 (lb rfl) rfl, s.block 0 (lb rfl) rfl, trivial⟩) ?_
              refine TD.take (i := 0) rfl (by kernel_rfl) (by kernel_rfl) (by kernel_rfl) (fun _ _ _ _ h => h) (Want.plain rfl) rfl rfl (PV.indexArr (r := 1) rfl Try.underlying63 sz3 rfl rfl (lz rfl) (lz rfl) rfl) ?_
              refine TD.take (i := 1) rfl (by kernel_rfl) (by kernel_rfl) (by kernel_rfl) (fun _ _ _ _ h => h) (Want.plain rfl) rfl rfl (PV.load1 (v := (.int .i64 (b))) rfl Try.underlying3 rfl rfl (fun _ h => h.2.1) rfl) ?_
              refine TD.take (i := 2) rfl (by kernel_rfl) (by kernel_rfl) (by kernel_rfl) (fun _ _ _ _ h => h) (Want.plain rfl) rfl rfl (PV.and (r := (b % 1024)) rfl rfl rfl (mask (k := 10) (by decide) _)) ?_
              refine TD.take (i := 3) rfl (by kernel_rfl) (by kernel_rfl) (by kernel_rfl) (fun _ _ _ _ h => h) (Want.plain rfl) rfl rfl (PV.loadN (vs := ints (BallotT.mk (c % 1024) ((d % 256) % 5)).flat) rfl Try.underlying40 rfl sz40 rfl (fun _ h => h.2.2.1) (BallotT.len (BallotT.mk (c % 1024) ((d % 256) % 5))) (whole (BallotT.len (BallotT.mk (c % 1024) ((d % 256) % 5))))) ?_
              refine TD.take (i := 4) rfl (by kernel_rfl) (by kernel_rfl) (by kernel_rfl) (fun _ _ _ _ h => h) (Want.plain rfl) rfl rfl (PV.fieldAddr (r := 176) rfl Try.underlying58 rfl sz3 rfl rfl) ?_
              refine TD.all [5] (by kernel_rfl) rfl ?_
              refine AllT.cons rfl ?_ ?_
              · skip
                refine TL.store1 (i := 1) (H' := [blkA b10 (ints (BallotT.mk (c % 1024) ((d % 256) % 5)).flat) 40, blkA b9 (ints (RecT.mk ((a % 256) % 6) 0 RowT.zero (b % 1024) BallotT.zero ChangeT.zero ViewT.zero).flat) 58, blkA b7 (ints (behindV l).flat) 25, blkA b4 (ints x.flat) 38, blkA b3 [(.int .i64 (a)), (.int .i64 (b)), (.int .i64 (c)), (.int .i64 (d))] 63]) (Want.plain rfl) rfl rfl rfl rfl rfl sz3 rfl rfl (by have h0 := (RecT.len (RecT.mk ((a % 256) % 6) 0 RowT.zero 0 BallotT.zero ChangeT.zero ViewT.zero)); omega) (RecT.set_epoch (RecT.mk ((a % 256) % 6) 0 RowT.zero 0 BallotT.zero ChangeT.zero ViewT.zero) rfl _) rfl ?_
                refine TL.nil ?_
                refine TE.draw (fun _ s => ⟨Frm.of s, s.block 4 (lb rfl) rfl, s.block 0 (lb rfl) rfl, trivial⟩) ?_
                refine TD.take (i := 6) rfl (by kernel_rfl) (by kernel_rfl) (by kernel_rfl) (fun _ _ _ _ h => h) (Want.plain rfl) rfl rfl (PV.fieldAddr (r := 177) rfl Try.underlying58 rfl sz40 rfl rfl) ?_
                refine TD.all [7] (by kernel_rfl) rfl ?_
                refine AllT.cons rfl ?_ ?_
                · skip
                  refine TL.store (vs := ints (BallotT.mk (c % 1024) ((d % 256) % 5)).flat) (i := 1) (H' := [blkA b10 (ints (BallotT.mk (c % 1024) ((d % 256) % 5)).flat) 40, blkA b9 (ints (RecT.mk ((a % 256) % 6) 0 RowT.zero (b % 1024) (BallotT.mk (c % 1024) ((d % 256) % 5)) ChangeT.zero ViewT.zero).flat) 58, blkA b7 (ints (behindV l).flat) 25, blkA b4 (ints x.flat) 38, blkA b3 [(.int .i64 (a)), (.int .i64 (b)), (.int .i64 (c)), (.int .i64 (d))] 63]) (Want.plain rfl) rfl rfl rfl rfl rfl (by rw [(BallotT.len (BallotT.mk (c % 1024) ((d % 256) % 5)))]; exact sz40) (ints_one _) rfl rfl (by have h0 := (RecT.len (RecT.mk ((a % 256) % 6) 0 RowT.zero (b % 1024) BallotT.zero ChangeT.zero ViewT.zero)); have h1 := (BallotT.len (BallotT.mk (c % 1024) ((d % 256) % 5))); omega) (RecT.wr_ballot_ (RecT.mk ((a % 256) % 6) 0 RowT.zero (b % 1024) BallotT.zero ChangeT.zero ViewT.zero) 0 rfl (by have h1 := (BallotT.len (BallotT.mk (c % 1024) ((d % 256) % 5))); omega) (wwhole ((BallotT.len BallotT.zero).trans (BallotT.len (BallotT.mk (c % 1024) ((d % 256) % 5))).symm))) rfl ?_
                  refine TL.nil ?_
                  refine TE.draw (fun _ s => ⟨Frm.of s, s.block 4 (lb rfl) rfl, s.block 0 (lb rfl) rfl, trivial⟩) ?_
                  refine TD.done (by kernel_rfl) ?_
                  refine TE.blockEnd ?_
                  refine TE.next hK10 ?_
                  clear hK10
                  refine TC.seq (fun K22 hK22 => ?_)
                  refine TC.region ?_
                  have hrec : (RecT.mk ((a % 256) % 6) 0 RowT.zero (b % 1024) (BallotT.mk (c % 1024) ((d % 256) % 5)) ChangeT.zero ViewT.zero) = (recM a b c d x (behindV l)) := by simp [recM, normR, fullR, RecT.zero, *]
                  rw [hrec]
                  change TL _ _ _ _ _ _ _ _ _ [blkA b10 (ints (BallotT.mk (c % 1024) ((d % 256) % 5)).flat) 40, blkA b9 (ints (recM a b c d x (behindV l)).flat) 58, blkA b7 (ints (behindV l).flat) 25, blkA b4 (ints x.flat) 38, blkA b3 [(.int .i64 (a)), (.int .i64 (b)), (.int .i64 (c)), (.int .i64 (d))] 63]
                  refine TL.v (Want.plain rfl) rfl rfl (PV.loadN (vs := ints (recM a b c d x (behindV l)).flat) rfl Try.underlying58 rfl sz58 rfl (Rd.own 1 rfl rfl) (RecT.len (recM a b c d x (behindV l))) (whole (RecT.len (recM a b c d x (behindV l))))) ?_
                  refine TL.callR (A := []) (B := [blkA b10 (ints (BallotT.mk (c % 1024) ((d % 256) % 5)).flat) 40, blkA b9 (ints (recM a b c d x (behindV l)).flat) 58, blkA b7 (ints (behindV l).flat) 25, blkA b4 (ints x.flat) 38, blkA b3 [(.int .i64 (a)), (.int .i64 (b)), (.int .i64 (c)), (.int .i64 (d))] 63]) (Want.plain rfl) rfl rfl rfl nm22 rfl (record_does (recM a b c d x (behindV l))) (fun _ s => s) (fun _ _ _ => trivial) (fun vR HR hR => ?_)
                  obtain ⟨_, rfl, rfl⟩ := hR
                  revert vR
                  intro ue1
                  change TL _ _ _ _ _ _ _ _ _ [ownB ue1 (encR (recM a b c d x (behindV l))) 5, blkA b10 (ints (BallotT.mk (c % 1024) ((d % 256) % 5)).flat) 40, blkA b9 (ints (recM a b c d x (behindV l)).flat) 58, blkA b7 (ints (behindV l).flat) 25, blkA b4 (ints x.flat) 38, blkA b3 [(.int .i64 (a)), (.int .i64 (b)), (.int .i64 (c)), (.int .i64 (d))] 63]
                  refine TL.ownLen 0 rfl rfl (fun hlue1 _ => ?_)
                  refine TL.callR (A := []) (B := [ownB ue1 (encR (recM a b c d x (behindV l))) 5, blkA b10 (ints (BallotT.mk (c % 1024) ((d % 256) % 5)).flat) 40, blkA b9 (ints (recM a b c d x (behindV l)).flat) 58, blkA b7 (ints (behindV l).flat) 25, blkA b4 (ints x.flat) 38, blkA b3 [(.int .i64 (a)), (.int .i64 (b)), (.int .i64 (c)), (.int .i64 (d))] 63]) (Want.plain rfl) rfl rfl rfl nm20 rfl (readRecord_is (decR_enc hM ho)) (fun _ s => s) (isB_own 0 rfl rfl) (fun vR HR hR => ?_)
                  obtain ⟨rfl, rfl⟩ := hR
                  change TL _ _ _ _ _ _ _ _ _ [ownB ue1 (encR (recM a b c d x (behindV l))) 5, blkA b10 (ints (BallotT.mk (c % 1024) ((d % 256) % 5)).flat) 40, blkA b9 (ints (recM a b c d x (behindV l)).flat) 58, blkA b7 (ints (behindV l).flat) 25, blkA b4 (ints x.flat) 38, blkA b3 [(.int .i64 (a)), (.int .i64 (b)), (.int .i64 (c)), (.int .i64 (d))] 63]
                  refine TL.v (Want.plain rfl) rfl rfl (PV.move rfl rfl) ?_
                  refine TL.v (Want.plain rfl) rfl rfl (PV.extract (vs := [(.agg (ints (recM a b c d x (behindV l)).flat).toArray), (.int .i64 0)]) rfl rfl rfl) ?_
                  refine TL.v (Want.plain rfl) rfl rfl (PV.extract (vs := [(.agg (ints (recM a b c d x (behindV l)).flat).toArray), (.int .i64 0)]) rfl rfl rfl) ?_
                  refine TL.alloc (Want.plain rfl) rfl rfl rfl z58 (fun b11 => ?_)
                  change TL _ _ _ _ _ _ _ _ _ [blkA b11 (ints RecT.zero.flat) 58, ownB ue1 (encR (recM a b c d x (behindV l))) 5, blkA b10 (ints (BallotT.mk (c % 1024) ((d % 256) % 5)).flat) 40, blkA b9 (ints (recM a b c d x (behindV l)).flat) 58, blkA b7 (ints (behindV l).flat) 25, blkA b4 (ints x.flat) 38, blkA b3 [(.int .i64 (a)), (.int .i64 (b)), (.int .i64 (c)), (.int .i64 (d))] 63]
                  refine TL.store (vs := ints (recM a b c d x (behindV l)).flat) (i := 0) (H' := [blkA b11 (ints (recM a b c d x (behindV l)).flat) 58, ownB ue1 (encR (recM a b c d x (behindV l))) 5, blkA b10 (ints (BallotT.mk (c % 1024) ((d % 256) % 5)).flat) 40, blkA b9 (ints (recM a b c d x (behindV l)).flat) 58, blkA b7 (ints (behindV l).flat) 25, blkA b4 (ints x.flat) 38, blkA b3 [(.int .i64 (a)), (.int .i64 (b)), (.int .i64 (c)), (.int .i64 (d))] 63]) (Want.plain rfl) rfl rfl rfl rfl rfl (by rw [(RecT.len (recM a b c d x (behindV l)))]; exact sz58) (ints_one _) rfl rfl (by have h0 := (RecT.len RecT.zero); have h1 := (RecT.len (recM a b c d x (behindV l))); omega) (wwhole ((RecT.len RecT.zero).trans (RecT.len (recM a b c d x (behindV l))).symm)) rfl ?_
                  refine TL.v (Want.plain rfl) rfl rfl (PV.assign rfl rfl) ?_
                  refine TL.nil ?_
                  refine TE.next hK22 ?_
                  clear hK22
                  refine TC.seq (fun K23 hK23 => ?_)
                  refine TC.region ?_
                  refine TL.v (Want.plain rfl) rfl rfl (PV.move rfl rfl) ?_
                  refine TL.v (Want.plain rfl) rfl rfl (PV.eql rfl rfl rfl) ?_
                  refine TL.v (Want.plain rfl) rfl rfl (PV.move rfl rfl) ?_
                  refine TL.v (Want.met rfl rfl rfl) rfl rfl (PV.loadN (vs := ints (recM a b c d x (behindV l)).flat) rfl Try.underlying58 rfl sz58 rfl (Rd.own 0 rfl rfl) (RecT.len (recM a b c d x (behindV l))) (whole (RecT.len (recM a b c d x (behindV l))))) ?_
                  refine TL.v (Want.met rfl rfl rfl) rfl rfl (PV.loadN (vs := ints (recM a b c d x (behindV l)).flat) rfl Try.underlying58 rfl sz58 rfl (Rd.own 3 rfl rfl) (RecT.len (recM a b c d x (behindV l))) (whole (RecT.len (recM a b c d x (behindV l))))) ?_
                  refine TL.v (Want.met rfl rfl rfl) rfl rfl (PV.eqlAgg (a := (recM a b c d x (behindV l)).flat) (b := (recM a b c d x (behindV l)).flat) (m := 8) (c := 189) sg58 sk58 rfl fI58 (ints_len (RecT.len (recM a b c d x (behindV l)))) (ints_len (RecT.len (recM a b c d x (behindV l)))) ⟨formed_ag fC58 cC58 (ints_len (RecT.len (recM a b c d x (behindV l)))), formed_ag fC58 cC58 (ints_len (RecT.len (recM a b c d x (behindV l))))⟩ hM.norm.wf hM.norm.wf rfl rfl rfl) ?_
                  refine TL.v (Want.plain rfl) rfl rfl (PV.pick rfl rfl rfl) ?_
                  refine TL.v (Want.plain rfl) rfl rfl (PV.assign rfl rfl) ?_
                  refine TL.nil ?_
                  refine TE.next hK23 ?_
                  clear hK23
                  refine TC.ret ?_
                  refine TE.weak (Sub.refl _) (fun _ s => sep_keep [] rfl s) ?_
                  refine TE.ret1 rfl rfl ?_
                  first | exact ⟨rfl, rfl⟩ | exact ⟨congrArg Value.bool (decide_eq_true rfl), rfl⟩
                exact AllT.nil
              exact AllT.nil
            · skip
              refine TL.v (Want.plain rfl) rfl rfl (PV.assign rfl rfl) ?_
              refine TL.nil ?_
              refine TE.next hK21 ?_
              clear hK21
              refine TC.no rfl ?_
              refine TC.seq (fun K24 hK24 => ?_)
              refine TC.region ?_
              refine TL.v (Want.plain rfl) rfl rfl (PV.eql rfl rfl rfl) ?_
              refine TL.dec (fun h74 => ?_) (fun h74 => ?_)
              · skip
                refine TL.v (Want.plain rfl) rfl rfl (PV.assign rfl rfl) ?_
                refine TL.nil ?_
                refine TE.next hK24 ?_
                clear hK24
                refine TC.yes rfl ?_
                refine TC.draw (fun w => Frm F w ∧ w.heap[b3]? = some (.cells ([(.int .i64 (a)), (.int .i64 (b)), (.int .i64 (c)), (.int .i64 (d))]).toArray 63 (0, 0)) ∧ w.heap[b10]? = some (.cells (ints (BallotT.mk (c % 1024) ((d % 256) % 5)).flat).toArray 40 (0, 0)) ∧ True) mixed rfl (fun _ s => ⟨Frm.of s, s.block 4 (lb rfl) rfl, s.block 0 (lb rfl) rfl, trivial⟩) ?_
                refine TD.take (i := 0) rfl (by kernel_rfl) (by kernel_rfl) (by kernel_rfl) (fun _ _ _ _ h => h) (Want.plain rfl) rfl rfl (PV.indexArr (r := 1) rfl Try.underlying63 sz3 rfl rfl (lz rfl) (lz rfl) rfl) ?_
                refine TD.take (i := 1) rfl (by kernel_rfl) (by kernel_rfl) (by kernel_rfl) (fun _ _ _ _ h => h) (Want.plain rfl) rfl rfl (PV.load1 (v := (.int .i64 (b))) rfl Try.underlying3 rfl rfl (fun _ h => h.2.1) rfl) ?_
                refine TD.take (i := 2) rfl (by kernel_rfl) (by kernel_rfl) (by kernel_rfl) (fun _ _ _ _ h => h) (Want.plain rfl) rfl rfl (PV.and (r := (b % 1024)) rfl rfl rfl (mask (k := 10) (by decide) _)) ?_
                refine TD.take (i := 3) rfl (by kernel_rfl) (by kernel_rfl) (by kernel_rfl) (fun _ _ _ _ h => h) (Want.plain rfl) rfl rfl (PV.loadN (vs := ints (BallotT.mk (c % 1024) ((d % 256) % 5)).flat) rfl Try.underlying40 rfl sz40 rfl (fun _ h => h.2.2.1) (BallotT.len (BallotT.mk (c % 1024) ((d % 256) % 5))) (whole (BallotT.len (BallotT.mk (c % 1024) ((d % 256) % 5))))) ?_
                refine TD.take (i := 4) rfl (by kernel_rfl) (by kernel_rfl) (by kernel_rfl) (fun _ _ _ _ h => h) (Want.plain rfl) rfl rfl (PV.indexArr (r := 2) rfl Try.underlying63 sz3 rfl rfl (lz rfl) (lz rfl) rfl) ?_
                refine TD.take (i := 5) rfl (by kernel_rfl) (by kernel_rfl) (by kernel_rfl) (fun _ _ _ _ h => h) (Want.plain rfl) rfl rfl (PV.load1 (v := (.int .i64 (c))) rfl Try.underlying3 rfl rfl (fun _ h => h.2.1) rfl) ?_
                refine TD.take (i := 6) rfl (by kernel_rfl) (by kernel_rfl) (by kernel_rfl) (fun _ _ _ _ h => h) (Want.plain rfl) rfl rfl (PV.and (r := (c % 2)) rfl rfl rfl (mask (k := 1) (by decide) _)) ?_
                refine TD.take (i := 7) rfl (by kernel_rfl) (by kernel_rfl) (by kernel_rfl) (fun _ _ _ _ h => h) (Want.plain rfl) rfl rfl (PV.fieldAddr (r := 1) rfl Try.underlying40 rfl sz3 rfl rfl) ?_
                refine TD.take (i := 8) rfl (by kernel_rfl) (by kernel_rfl) (by kernel_rfl) (fun _ _ _ _ h => h) (Want.plain rfl) rfl rfl (PV.load1 (v := (.int .i64 (((d % 256) % 5)))) rfl Try.underlying3 rfl rfl (fun _ h => h.2.2.1) (BallotT.at_who (BallotT.mk (c % 1024) ((d % 256) % 5)) rfl)) ?_
                refine TD.take (i := 9) rfl (by kernel_rfl) (by kernel_rfl) (by kernel_rfl) (fun _ _ _ _ h => h) (Want.plain rfl) rfl rfl (PV.indexArr (r := 3) rfl Try.underlying63 sz3 rfl rfl (lz rfl) (lz rfl) rfl) ?_
                refine TD.take (i := 10) rfl (by kernel_rfl) (by kernel_rfl) (by kernel_rfl) (fun _ _ _ _ h => h) (Want.plain rfl) rfl rfl (PV.load1 (v := (.int .i64 (d))) rfl Try.underlying3 rfl rfl (fun _ h => h.2.1) rfl) ?_
                refine TD.take (i := 11) rfl (by kernel_rfl) (by kernel_rfl) (by kernel_rfl) (fun _ _ _ _ h => h) (Want.plain rfl) rfl rfl (PV.and (r := (d % 4)) rfl rfl rfl (mask (k := 2) (by decide) _)) ?_
                refine TD.take (i := 12) rfl (by kernel_rfl) (by kernel_rfl) (by kernel_rfl) (fun _ _ _ _ h => h) (Want.plain rfl) rfl rfl (PV.buildSegs (cs := ints (ChangeT.mk (c % 2) ((d % 256) % 5) (d % 4)).flat) (segs := [[Value.int .i64 0], [Value.int .i64 0], [Value.int .i64 0]]) (res := [[Value.int .i64 (c % 2)], [Value.int .i64 ((d % 256) % 5)], [Value.int .i64 (d % 4)]]) (parts := [(0, [Value.int .i64 (c % 2)]), (1, [Value.int .i64 ((d % 256) % 5)]), (2, [Value.int .i64 (d % 4)])]) rfl rfl Try.underlying42 (by kernel_rfl) (by kernel_rfl) rfl (putSegs_step rfl ((rfl : [Value.int .i64 (c % 2)].length = 1).trans (rfl : [Value.int .i64 0].length = 1).symm) (putSegs_step rfl ((rfl : [Value.int .i64 ((d % 256) % 5)].length = 1).trans (rfl : [Value.int .i64 0].length = 1).symm) (putSegs_step rfl ((rfl : [Value.int .i64 (d % 4)].length = 1).trans (rfl : [Value.int .i64 0].length = 1).symm) putSegs_nil))) (ChangeT.eq (ChangeT.mk (c % 2) ((d % 256) % 5) (d % 4))).symm) ?_
                refine TD.take (i := 13) rfl (by kernel_rfl) (by kernel_rfl) (by kernel_rfl) (fun _ _ _ _ h => h) (Want.plain rfl) rfl rfl (PV.fieldAddr (r := 176) rfl Try.underlying58 rfl sz3 rfl rfl) ?_
                refine TD.all [14] (by kernel_rfl) rfl ?_
                refine AllT.cons rfl ?_ ?_
                · skip
                  refine TL.store1 (i := 1) (H' := [blkA b10 (ints (BallotT.mk (c % 1024) ((d % 256) % 5)).flat) 40, blkA b9 (ints (RecT.mk ((a % 256) % 6) 0 RowT.zero (b % 1024) BallotT.zero ChangeT.zero ViewT.zero).flat) 58, blkA b7 (ints (behindV l).flat) 25, blkA b4 (ints x.flat) 38, blkA b3 [(.int .i64 (a)), (.int .i64 (b)), (.int .i64 (c)), (.int .i64 (d))] 63]) (Want.plain rfl) rfl rfl rfl rfl rfl sz3 rfl rfl (by have h0 := (RecT.len (RecT.mk ((a % 256) % 6) 0 RowT.zero 0 BallotT.zero ChangeT.zero ViewT.zero)); omega) (RecT.set_epoch (RecT.mk ((a % 256) % 6) 0 RowT.zero 0 BallotT.zero ChangeT.zero ViewT.zero) rfl _) rfl ?_
                  refine TL.nil ?_
                  refine TE.draw (fun _ s => ⟨Frm.of s, s.block 4 (lb rfl) rfl, s.block 0 (lb rfl) rfl, trivial⟩) ?_
                  refine TD.take (i := 15) rfl (by kernel_rfl) (by kernel_rfl) (by kernel_rfl) (fun _ _ _ _ h => h) (Want.plain rfl) rfl rfl (PV.fieldAddr (r := 177) rfl Try.underlying58 rfl sz40 rfl rfl) ?_
                  refine TD.all [16] (by kernel_rfl) rfl ?_
                  refine AllT.cons rfl ?_ ?_
                  · skip
                    refine TL.store (vs := ints (BallotT.mk (c % 1024) ((d % 256) % 5)).flat) (i := 1) (H' := [blkA b10 (ints (BallotT.mk (c % 1024) ((d % 256) % 5)).flat) 40, blkA b9 (ints (RecT.mk ((a % 256) % 6) 0 RowT.zero (b % 1024) (BallotT.mk (c % 1024) ((d % 256) % 5)) ChangeT.zero ViewT.zero).flat) 58, blkA b7 (ints (behindV l).flat) 25, blkA b4 (ints x.flat) 38, blkA b3 [(.int .i64 (a)), (.int .i64 (b)), (.int .i64 (c)), (.int .i64 (d))] 63]) (Want.plain rfl) rfl rfl rfl rfl rfl (by rw [(BallotT.len (BallotT.mk (c % 1024) ((d % 256) % 5)))]; exact sz40) (ints_one _) rfl rfl (by have h0 := (RecT.len (RecT.mk ((a % 256) % 6) 0 RowT.zero (b % 1024) BallotT.zero ChangeT.zero ViewT.zero)); have h1 := (BallotT.len (BallotT.mk (c % 1024) ((d % 256) % 5))); omega) (RecT.wr_ballot_ (RecT.mk ((a % 256) % 6) 0 RowT.zero (b % 1024) BallotT.zero ChangeT.zero ViewT.zero) 0 rfl (by have h1 := (BallotT.len (BallotT.mk (c % 1024) ((d % 256) % 5))); omega) (wwhole ((BallotT.len BallotT.zero).trans (BallotT.len (BallotT.mk (c % 1024) ((d % 256) % 5))).symm))) rfl ?_
                    refine TL.nil ?_
                    refine TE.draw (fun _ s => ⟨Frm.of s, s.block 4 (lb rfl) rfl, s.block 0 (lb rfl) rfl, trivial⟩) ?_
                    refine TD.take (i := 17) rfl (by kernel_rfl) (by kernel_rfl) (by kernel_rfl) (fun _ _ _ _ h => h) (Want.plain rfl) rfl rfl (PV.fieldAddr (r := 179) rfl Try.underlying58 rfl sz42 rfl rfl) ?_
                    refine TD.all [18] (by kernel_rfl) rfl ?_
                    refine AllT.cons rfl ?_ ?_
                    · skip
                      refine TL.store (vs := ints (ChangeT.mk (c % 2) ((d % 256) % 5) (d % 4)).flat) (i := 1) (H' := [blkA b10 (ints (BallotT.mk (c % 1024) ((d % 256) % 5)).flat) 40, blkA b9 (ints (RecT.mk ((a % 256) % 6) 0 RowT.zero (b % 1024) (BallotT.mk (c % 1024) ((d % 256) % 5)) (ChangeT.mk (c % 2) ((d % 256) % 5) (d % 4)) ViewT.zero).flat) 58, blkA b7 (ints (behindV l).flat) 25, blkA b4 (ints x.flat) 38, blkA b3 [(.int .i64 (a)), (.int .i64 (b)), (.int .i64 (c)), (.int .i64 (d))] 63]) (Want.plain rfl) rfl rfl rfl rfl rfl (by rw [(ChangeT.len (ChangeT.mk (c % 2) ((d % 256) % 5) (d % 4)))]; exact sz42) (ints_one _) rfl rfl (by have h0 := (RecT.len (RecT.mk ((a % 256) % 6) 0 RowT.zero (b % 1024) (BallotT.mk (c % 1024) ((d % 256) % 5)) ChangeT.zero ViewT.zero)); have h1 := (ChangeT.len (ChangeT.mk (c % 2) ((d % 256) % 5) (d % 4))); omega) (RecT.wr_change_ (RecT.mk ((a % 256) % 6) 0 RowT.zero (b % 1024) (BallotT.mk (c % 1024) ((d % 256) % 5)) ChangeT.zero ViewT.zero) 0 rfl (by have h1 := (ChangeT.len (ChangeT.mk (c % 2) ((d % 256) % 5) (d % 4))); omega) (wwhole ((ChangeT.len ChangeT.zero).trans (ChangeT.len (ChangeT.mk (c % 2) ((d % 256) % 5) (d % 4))).symm))) rfl ?_
                      refine TL.nil ?_
                      refine TE.draw (fun _ s => ⟨Frm.of s, s.block 4 (lb rfl) rfl, s.block 0 (lb rfl) rfl, trivial⟩) ?_
                      refine TD.done (by kernel_rfl) ?_
                      refine TE.blockEnd ?_
                      refine TE.next hK10 ?_
                      clear hK10
                      refine TC.seq (fun K25 hK25 => ?_)
                      refine TC.region ?_
                      have hrec : (RecT.mk ((a % 256) % 6) 0 RowT.zero (b % 1024) (BallotT.mk (c % 1024) ((d % 256) % 5)) (ChangeT.mk (c % 2) ((d % 256) % 5) (d % 4)) ViewT.zero) = (recM a b c d x (behindV l)) := by simp [recM, normR, fullR, RecT.zero, *]
                      rw [hrec]
                      change TL _ _ _ _ _ _ _ _ _ [blkA b10 (ints (BallotT.mk (c % 1024) ((d % 256) % 5)).flat) 40, blkA b9 (ints (recM a b c d x (behindV l)).flat) 58, blkA b7 (ints (behindV l).flat) 25, blkA b4 (ints x.flat) 38, blkA b3 [(.int .i64 (a)), (.int .i64 (b)), (.int .i64 (c)), (.int .i64 (d))] 63]
                      refine TL.v (Want.plain rfl) rfl rfl (PV.loadN (vs := ints (recM a b c d x (behindV l)).flat) rfl Try.underlying58 rfl sz58 rfl (Rd.own 1 rfl rfl) (RecT.len (recM a b c d x (behindV l))) (whole (RecT.len (recM a b c d x (behindV l))))) ?_
                      refine TL.callR (A := []) (B := [blkA b10 (ints (BallotT.mk (c % 1024) ((d % 256) % 5)).flat) 40, blkA b9 (ints (recM a b c d x (behindV l)).flat) 58, blkA b7 (ints (behindV l).flat) 25, blkA b4 (ints x.flat) 38, blkA b3 [(.int .i64 (a)), (.int .i64 (b)), (.int .i64 (c)), (.int .i64 (d))] 63]) (Want.plain rfl) rfl rfl rfl nm22 rfl (record_does (recM a b c d x (behindV l))) (fun _ s => s) (fun _ _ _ => trivial) (fun vR HR hR => ?_)
                      obtain ⟨_, rfl, rfl⟩ := hR
                      revert vR
                      intro ue1
                      change TL _ _ _ _ _ _ _ _ _ [ownB ue1 (encR (recM a b c d x (behindV l))) 5, blkA b10 (ints (BallotT.mk (c % 1024) ((d % 256) % 5)).flat) 40, blkA b9 (ints (recM a b c d x (behindV l)).flat) 58, blkA b7 (ints (behindV l).flat) 25, blkA b4 (ints x.flat) 38, blkA b3 [(.int .i64 (a)), (.int .i64 (b)), (.int .i64 (c)), (.int .i64 (d))] 63]
                      refine TL.ownLen 0 rfl rfl (fun hlue1 _ => ?_)
                      refine TL.callR (A := []) (B := [ownB ue1 (encR (recM a b c d x (behindV l))) 5, blkA b10 (ints (BallotT.mk (c % 1024) ((d % 256) % 5)).flat) 40, blkA b9 (ints (recM a b c d x (behindV l)).flat) 58, blkA b7 (ints (behindV l).flat) 25, blkA b4 (ints x.flat) 38, blkA b3 [(.int .i64 (a)), (.int .i64 (b)), (.int .i64 (c)), (.int .i64 (d))] 63]) (Want.plain rfl) rfl rfl rfl nm20 rfl (readRecord_is (decR_enc hM ho)) (fun _ s => s) (isB_own 0 rfl rfl) (fun vR HR hR => ?_)
                      obtain ⟨rfl, rfl⟩ := hR
                      change TL _ _ _ _ _ _ _ _ _ [ownB ue1 (encR (recM a b c d x (behindV l))) 5, blkA b10 (ints (BallotT.mk (c % 1024) ((d % 256) % 5)).flat) 40, blkA b9 (ints (recM a b c d x (behindV l)).flat) 58, blkA b7 (ints (behindV l).flat) 25, blkA b4 (ints x.flat) 38, blkA b3 [(.int .i64 (a)), (.int .i64 (b)), (.int .i64 (c)), (.int .i64 (d))] 63]
                      refine TL.v (Want.plain rfl) rfl rfl (PV.move rfl rfl) ?_
                      refine TL.v (Want.plain rfl) rfl rfl (PV.extract (vs := [(.agg (ints (recM a b c d x (behindV l)).flat).toArray), (.int .i64 0)]) rfl rfl rfl) ?_
                      refine TL.v (Want.plain rfl) rfl rfl (PV.extract (vs := [(.agg (ints (recM a b c d x (behindV l)).flat).toArray), (.int .i64 0)]) rfl rfl rfl) ?_
                      refine TL.alloc (Want.plain rfl) rfl rfl rfl z58 (fun b11 => ?_)
                      change TL _ _ _ _ _ _ _ _ _ [blkA b11 (ints RecT.zero.flat) 58, ownB ue1 (encR (recM a b c d x (behindV l))) 5, blkA b10 (ints (BallotT.mk (c % 1024) ((d % 256) % 5)).flat) 40, blkA b9 (ints (recM a b c d x (behindV l)).flat) 58, blkA b7 (ints (behindV l).flat) 25, blkA b4 (ints x.flat) 38, blkA b3 [(.int .i64 (a)), (.int .i64 (b)), (.int .i64 (c)), (.int .i64 (d))] 63]
                      refine TL.store (vs := ints (recM a b c d x (behindV l)).flat) (i := 0) (H' := [blkA b11 (ints (recM a b c d x (behindV l)).flat) 58, ownB ue1 (encR (recM a b c d x (behindV l))) 5, blkA b10 (ints (BallotT.mk (c % 1024) ((d % 256) % 5)).flat) 40, blkA b9 (ints (recM a b c d x (behindV l)).flat) 58, blkA b7 (ints (behindV l).flat) 25, blkA b4 (ints x.flat) 38, blkA b3 [(.int .i64 (a)), (.int .i64 (b)), (.int .i64 (c)), (.int .i64 (d))] 63]) (Want.plain rfl) rfl rfl rfl rfl rfl (by rw [(RecT.len (recM a b c d x (behindV l)))]; exact sz58) (ints_one _) rfl rfl (by have h0 := (RecT.len RecT.zero); have h1 := (RecT.len (recM a b c d x (behindV l))); omega) (wwhole ((RecT.len RecT.zero).trans (RecT.len (recM a b c d x (behindV l))).symm)) rfl ?_
                      refine TL.v (Want.plain rfl) rfl rfl (PV.assign rfl rfl) ?_
                      refine TL.nil ?_
                      refine TE.next hK25 ?_
                      clear hK25
                      refine TC.seq (fun K26 hK26 => ?_)
                      refine TC.region ?_
                      refine TL.v (Want.plain rfl) rfl rfl (PV.move rfl rfl) ?_
                      refine TL.v (Want.plain rfl) rfl rfl (PV.eql rfl rfl rfl) ?_
                      refine TL.v (Want.plain rfl) rfl rfl (PV.move rfl rfl) ?_
                      refine TL.v (Want.met rfl rfl rfl) rfl rfl (PV.loadN (vs := ints (recM a b c d x (behindV l)).flat) rfl Try.underlying58 rfl sz58 rfl (Rd.own 0 rfl rfl) (RecT.len (recM a b c d x (behindV l))) (whole (RecT.len (recM a b c d x (behindV l))))) ?_
                      refine TL.v (Want.met rfl rfl rfl) rfl rfl (PV.loadN (vs := ints (recM a b c d x (behindV l)).flat) rfl Try.underlying58 rfl sz58 rfl (Rd.own 3 rfl rfl) (RecT.len (recM a b c d x (behindV l))) (whole (RecT.len (recM a b c d x (behindV l))))) ?_
                      refine TL.v (Want.met rfl rfl rfl) rfl rfl (PV.eqlAgg (a := (recM a b c d x (behindV l)).flat) (b := (recM a b c d x (behindV l)).flat) (m := 8) (c := 189) sg58 sk58 rfl fI58 (ints_len (RecT.len (recM a b c d x (behindV l)))) (ints_len (RecT.len (recM a b c d x (behindV l)))) ⟨formed_ag fC58 cC58 (ints_len (RecT.len (recM a b c d x (behindV l)))), formed_ag fC58 cC58 (ints_len (RecT.len (recM a b c d x (behindV l))))⟩ hM.norm.wf hM.norm.wf rfl rfl rfl) ?_
                      refine TL.v (Want.plain rfl) rfl rfl (PV.pick rfl rfl rfl) ?_
                      refine TL.v (Want.plain rfl) rfl rfl (PV.assign rfl rfl) ?_
                      refine TL.nil ?_
                      refine TE.next hK26 ?_
                      clear hK26
                      refine TC.ret ?_
                      refine TE.weak (Sub.refl _) (fun _ s => sep_keep [] rfl s) ?_
                      refine TE.ret1 rfl rfl ?_
                      first | exact ⟨rfl, rfl⟩ | exact ⟨congrArg Value.bool (decide_eq_true rfl), rfl⟩
                    exact AllT.nil
                  exact AllT.nil
                exact AllT.nil
              · skip
                refine TL.v (Want.plain rfl) rfl rfl (PV.assign rfl rfl) ?_
                refine TL.nil ?_
                refine TE.next hK24 ?_
                clear hK24
                refine TC.no rfl ?_
                refine TC.region ?_
                refine TL.v (Want.plain rfl) rfl rfl (PV.loadN (vs := ints (behindV l).flat) rfl Try.underlying25 rfl sz25 rfl (Rd.own 2 rfl rfl) (ViewT.len (behindV l)) (whole (ViewT.len (behindV l)))) ?_
                refine TL.v (Want.plain rfl) rfl rfl (PV.fieldAddr (r := 182) rfl Try.underlying58 rfl sz25 rfl rfl) ?_
                refine TL.store (vs := ints (behindV l).flat) (i := 1) (H' := [blkA b10 (ints (BallotT.mk (c % 1024) ((d % 256) % 5)).flat) 40, blkA b9 (ints (RecT.mk ((a % 256) % 6) 0 RowT.zero 0 BallotT.zero ChangeT.zero (behindV l)).flat) 58, blkA b7 (ints (behindV l).flat) 25, blkA b4 (ints x.flat) 38, blkA b3 [(.int .i64 (a)), (.int .i64 (b)), (.int .i64 (c)), (.int .i64 (d))] 63]) (Want.plain rfl) rfl rfl rfl rfl rfl (by rw [(ViewT.len (behindV l))]; exact sz25) (ints_one _) rfl rfl (by have h0 := (RecT.len (RecT.mk ((a % 256) % 6) 0 RowT.zero 0 BallotT.zero ChangeT.zero ViewT.zero)); have h1 := (ViewT.len (behindV l)); omega) (RecT.wr_view_ (RecT.mk ((a % 256) % 6) 0 RowT.zero 0 BallotT.zero ChangeT.zero ViewT.zero) 0 rfl (by have h1 := (ViewT.len (behindV l)); omega) (wwhole ((ViewT.len ViewT.zero).trans (ViewT.len (behindV l)).symm))) rfl ?_
                refine TL.nil ?_
                refine TE.blockEnd ?_
                refine TE.next hK10 ?_
                clear hK10
                refine TC.seq (fun K27 hK27 => ?_)
                refine TC.region ?_
                have hrec : (RecT.mk ((a % 256) % 6) 0 RowT.zero 0 BallotT.zero ChangeT.zero (behindV l)) = (recM a b c d x (behindV l)) := by simp [recM, normR, fullR, RecT.zero, *]
                rw [hrec]
                change TL _ _ _ _ _ _ _ _ _ [blkA b10 (ints (BallotT.mk (c % 1024) ((d % 256) % 5)).flat) 40, blkA b9 (ints (recM a b c d x (behindV l)).flat) 58, blkA b7 (ints (behindV l).flat) 25, blkA b4 (ints x.flat) 38, blkA b3 [(.int .i64 (a)), (.int .i64 (b)), (.int .i64 (c)), (.int .i64 (d))] 63]
                refine TL.v (Want.plain rfl) rfl rfl (PV.loadN (vs := ints (recM a b c d x (behindV l)).flat) rfl Try.underlying58 rfl sz58 rfl (Rd.own 1 rfl rfl) (RecT.len (recM a b c d x (behindV l))) (whole (RecT.len (recM a b c d x (behindV l))))) ?_
                refine TL.callR (A := []) (B := [blkA b10 (ints (BallotT.mk (c % 1024) ((d % 256) % 5)).flat) 40, blkA b9 (ints (recM a b c d x (behindV l)).flat) 58, blkA b7 (ints (behindV l).flat) 25, blkA b4 (ints x.flat) 38, blkA b3 [(.int .i64 (a)), (.int .i64 (b)), (.int .i64 (c)), (.int .i64 (d))] 63]) (Want.plain rfl) rfl rfl rfl nm22 rfl (record_does (recM a b c d x (behindV l))) (fun _ s => s) (fun _ _ _ => trivial) (fun vR HR hR => ?_)
                obtain ⟨_, rfl, rfl⟩ := hR
                revert vR
                intro ue1
                change TL _ _ _ _ _ _ _ _ _ [ownB ue1 (encR (recM a b c d x (behindV l))) 5, blkA b10 (ints (BallotT.mk (c % 1024) ((d % 256) % 5)).flat) 40, blkA b9 (ints (recM a b c d x (behindV l)).flat) 58, blkA b7 (ints (behindV l).flat) 25, blkA b4 (ints x.flat) 38, blkA b3 [(.int .i64 (a)), (.int .i64 (b)), (.int .i64 (c)), (.int .i64 (d))] 63]
                refine TL.ownLen 0 rfl rfl (fun hlue1 _ => ?_)
                refine TL.callR (A := []) (B := [ownB ue1 (encR (recM a b c d x (behindV l))) 5, blkA b10 (ints (BallotT.mk (c % 1024) ((d % 256) % 5)).flat) 40, blkA b9 (ints (recM a b c d x (behindV l)).flat) 58, blkA b7 (ints (behindV l).flat) 25, blkA b4 (ints x.flat) 38, blkA b3 [(.int .i64 (a)), (.int .i64 (b)), (.int .i64 (c)), (.int .i64 (d))] 63]) (Want.plain rfl) rfl rfl rfl nm20 rfl (readRecord_is (decR_enc hM ho)) (fun _ s => s) (isB_own 0 rfl rfl) (fun vR HR hR => ?_)
                obtain ⟨rfl, rfl⟩ := hR
                change TL _ _ _ _ _ _ _ _ _ [ownB ue1 (encR (recM a b c d x (behindV l))) 5, blkA b10 (ints (BallotT.mk (c % 1024) ((d % 256) % 5)).flat) 40, blkA b9 (ints (recM a b c d x (behindV l)).flat) 58, blkA b7 (ints (behindV l).flat) 25, blkA b4 (ints x.flat) 38, blkA b3 [(.int .i64 (a)), (.int .i64 (b)), (.int .i64 (c)), (.int .i64 (d))] 63]
                refine TL.v (Want.plain rfl) rfl rfl (PV.move rfl rfl) ?_
                refine TL.v (Want.plain rfl) rfl rfl (PV.extract (vs := [(.agg (ints (recM a b c d x (behindV l)).flat).toArray), (.int .i64 0)]) rfl rfl rfl) ?_
                refine TL.v (Want.plain rfl) rfl rfl (PV.extract (vs := [(.agg (ints (recM a b c d x (behindV l)).flat).toArray), (.int .i64 0)]) rfl rfl rfl) ?_
                refine TL.alloc (Want.plain rfl) rfl rfl rfl z58 (fun b11 => ?_)
                change TL _ _ _ _ _ _ _ _ _ [blkA b11 (ints RecT.zero.flat) 58, ownB ue1 (encR (recM a b c d x (behindV l))) 5, blkA b10 (ints (BallotT.mk (c % 1024) ((d % 256) % 5)).flat) 40, blkA b9 (ints (recM a b c d x (behindV l)).flat) 58, blkA b7 (ints (behindV l).flat) 25, blkA b4 (ints x.flat) 38, blkA b3 [(.int .i64 (a)), (.int .i64 (b)), (.int .i64 (c)), (.int .i64 (d))] 63]
                refine TL.store (vs := ints (recM a b c d x (behindV l)).flat) (i := 0) (H' := [blkA b11 (ints (recM a b c d x (behindV l)).flat) 58, ownB ue1 (encR (recM a b c d x (behindV l))) 5, blkA b10 (ints (BallotT.mk (c % 1024) ((d % 256) % 5)).flat) 40, blkA b9 (ints (recM a b c d x (behindV l)).flat) 58, blkA b7 (ints (behindV l).flat) 25, blkA b4 (ints x.flat) 38, blkA b3 [(.int .i64 (a)), (.int .i64 (b)), (.int .i64 (c)), (.int .i64 (d))] 63]) (Want.plain rfl) rfl rfl rfl rfl rfl (by rw [(RecT.len (recM a b c d x (behindV l)))]; exact sz58) (ints_one _) rfl rfl (by have h0 := (RecT.len RecT.zero); have h1 := (RecT.len (recM a b c d x (behindV l))); omega) (wwhole ((RecT.len RecT.zero).trans (RecT.len (recM a b c d x (behindV l))).symm)) rfl ?_
                refine TL.v (Want.plain rfl) rfl rfl (PV.assign rfl rfl) ?_
                refine TL.nil ?_
                refine TE.next hK27 ?_
                clear hK27
                refine TC.seq (fun K28 hK28 => ?_)
                refine TC.region ?_
                refine TL.v (Want.plain rfl) rfl rfl (PV.move rfl rfl) ?_
                refine TL.v (Want.plain rfl) rfl rfl (PV.eql rfl rfl rfl) ?_
                refine TL.v (Want.plain rfl) rfl rfl (PV.move rfl rfl) ?_
                refine TL.v (Want.met rfl rfl rfl) rfl rfl (PV.loadN (vs := ints (recM a b c d x (behindV l)).flat) rfl Try.underlying58 rfl sz58 rfl (Rd.own 0 rfl rfl) (RecT.len (recM a b c d x (behindV l))) (whole (RecT.len (recM a b c d x (behindV l))))) ?_
                refine TL.v (Want.met rfl rfl rfl) rfl rfl (PV.loadN (vs := ints (recM a b c d x (behindV l)).flat) rfl Try.underlying58 rfl sz58 rfl (Rd.own 3 rfl rfl) (RecT.len (recM a b c d x (behindV l))) (whole (RecT.len (recM a b c d x (behindV l))))) ?_
                refine TL.v (Want.met rfl rfl rfl) rfl rfl (PV.eqlAgg (a := (recM a b c d x (behindV l)).flat) (b := (recM a b c d x (behindV l)).flat) (m := 8) (c := 189) sg58 sk58 rfl fI58 (ints_len (RecT.len (recM a b c d x (behindV l)))) (ints_len (RecT.len (recM a b c d x (behindV l)))) ⟨formed_ag fC58 cC58 (ints_len (RecT.len (recM a b c d x (behindV l)))), formed_ag fC58 cC58 (ints_len (RecT.len (recM a b c d x (behindV l))))⟩ hM.norm.wf hM.norm.wf rfl rfl rfl) ?_
                refine TL.v (Want.plain rfl) rfl rfl (PV.pick rfl rfl rfl) ?_
                refine TL.v (Want.plain rfl) rfl rfl (PV.assign rfl rfl) ?_
                refine TL.nil ?_
                refine TE.next hK28 ?_
                clear hK28
                refine TC.ret ?_
                refine TE.weak (Sub.refl _) (fun _ s => sep_keep [] rfl s) ?_
                refine TE.ret1 rfl rfl ?_
                first | exact ⟨rfl, rfl⟩ | exact ⟨congrArg Value.bool (decide_eq_true rfl), rfl⟩
    · skip
      refine TL.v (Want.met rfl rfl rfl) rfl rfl (PV.not (r := true) rfl rfl rfl) ?_
      refine TL.v (Want.plain rfl) rfl rfl (PV.pick rfl rfl rfl) ?_
      refine TL.nil ?_
      refine TE.next hK5 ?_
      clear hK5
      refine TC.yes rfl ?_
      refine TC.seq (fun K29 hK29 => ?_)
      refine TC.region ?_
      refine TL.v (Want.plain rfl) rfl rfl (PV.assign rfl rfl) ?_
      refine TL.nil ?_
      refine TE.next hK29 ?_
      clear hK29
      refine TC.ret ?_
      refine TE.passRet ?_
      clear hK4
      refine TE.weak (Sub.refl _) (fun _ s => sep_keep [] rfl s) ?_
      refine TE.ret1 rfl rfl ?_
      first | exact ⟨rfl, rfl⟩ | exact ⟨congrArg Value.bool (decide_eq_true rfl), rfl⟩


theorem msgRecords_list (k : List Int) (hk : k.length = 4) (x : RowT) (z : Value) (l : List ChangeT) (hw : WF x.flat) : Does Try.prog 6 #[agI k, .agg (ints x.flat).toArray, z] (IsL 3 EC z l) [] (Ret (fun r' H => r' = .bool true ∧ H = [])) := by
  match k, hk with
  | [a, b, c, d], _ => exact msgRecords_does a b c d x z l hw

end Go.Proofs.Ytdekgkmbcdlekaa
