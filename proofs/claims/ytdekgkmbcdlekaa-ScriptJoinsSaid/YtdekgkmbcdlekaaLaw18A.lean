/-
  Layer 18's statements on bytes: what they reckon.
-/

import Derived.Test.YtdekgkmbcdlekaaScriptA
import Derived.Test.YtdekgkmbcdlekaaNewW

namespace Go.Proofs.Ytdekgkmbcdlekaa

open Go Leg Codec Api Dsk Wal

set_option linter.unusedSimpArgs false
set_option linter.unusedVariables false

set_option maxRecDepth 100000

set_option maxHeartbeats 8000000

theorem sg70 : Try.prog.eqGuardType Try.prog.depth 70 = false := by kernel_rfl
theorem sk70 : Try.prog.keyTypeAt 3 70 = true := by kernel_rfl
theorem fI70 : flatI Try.prog 3 70 = some 11 := by kernel_rfl
theorem fC70 : (match Try.prog.underlying 70 with | some (.struct _) | some (.array _ _) => true | _ => false) = true := by kernel_rfl
theorem cC70 : Try.prog.cellsOf 70 = 11 := by kernel_rfl

theorem opsDecode_is {x : Value} {bs : List UInt8} {l : List OpT} (hl : bs.length ≤ 1000000) (h : opsP bs = l) : Does Try.prog 25 #[x] (IsB x bs) [] (Ret (fun r' H => ∃ u, r' = u ∧ H = [own u (l.length) (ints (List.flatMap OpT.flat l)) 70 11])) := by subst h; exact opsDecode_does x bs hl

theorem light_does (x : Value) (l : List OpT) :
    Does Try.prog 43 #[x] (IsL 11 (EF OpT.flat) x l) [] (Ret (fun r' H => r' = .bool (decide (((l.length : Nat) : Int) ≤ 1200)) ∧ H = [])) := by
  refine Does.body (vs := [x]) (n := 6) Try.func43 rfl rfl rfl (fun w0 F hF => ?_)
  refine TC.seq (fun K1 hK1 => ?_)
  refine TC.region ?_
  refine TL.v (Want.plain rfl) rfl rfl (PV.assign rfl rfl) ?_
  refine TL.nil ?_
  refine TE.next hK1 ?_
  clear hK1
  refine TC.seq (fun K2 hK2 => ?_)
  refine TC.region ?_
  refine TL.v (Want.plain rfl) rfl rfl (PV.move rfl rfl) ?_
  refine TL.v (Want.plain rfl) rfl rfl (PV.lenV rfl Try.underlying67 rfl hF.len) ?_
  refine TL.v (Want.plain rfl) rfl rfl (PV.leq rfl rfl rfl) ?_
  refine TL.v (Want.plain rfl) rfl rfl (PV.assign rfl rfl) ?_
  refine TL.nil ?_
  refine TE.next hK2 ?_
  clear hK2
  refine TC.ret ?_
  refine TE.weak (Sub.refl _) (fun _ s => sep_keep [] rfl s) ?_
  refine TE.ret1 rfl rfl ?_
  exact ⟨rfl, rfl⟩


theorem fit18_does  :
    Does Try.prog 24 #[] (fun _ => True) [] (Ret (fun r' H => r' = .bool true ∧ H = [])) := by
  refine Does.body (vs := []) (n := 22) Try.func24 rfl rfl rfl (fun w0 F hF => ?_)
  refine TC.seq (fun K1 hK1 => ?_)
  refine TC.region ?_
  refine TL.v (Want.plain rfl) rfl rfl (PV.assign rfl rfl) ?_
  refine TL.nil ?_
  refine TE.next hK1 ?_
  clear hK1
  refine TC.seq (fun K2 hK2 => ?_)
  refine TC.region ?_
  refine TL.buildSlice (cells := #[(.int .u8 8), (.int .u8 0), (.int .u8 0), (.int .u8 0), (.int .u8 0)]) (Want.plain rfl) rfl rfl rfl Try.underlying27 in5 rfl rfl rfl (by as_aux_lemma => kernel_rfl) (fun b2 => ?_)
  change TL _ _ _ _ _ _ _ _ _ [blkA b2 [(.int .u8 8), (.int .u8 0), (.int .u8 0), (.int .u8 0), (.int .u8 0)] 5]
  refine TL.callR (A := []) (B := [blkA b2 [(.int .u8 8), (.int .u8 0), (.int .u8 0), (.int .u8 0), (.int .u8 0)] 5]) (Want.plain rfl) rfl rfl rfl nm25 rfl (opsDecode_is (bs := ([8, 0, 0, 0, 0])) (by simp) rfl) (fun _ s => s) (isB_blk (bs := [8, 0, 0, 0, 0]) 0 (by simp) rfl rfl) (fun vR HR hR => ?_)
  obtain ⟨_, rfl, rfl⟩ := hR
  revert vR
  intro ud1
  change TL _ _ _ _ _ _ _ _ _ [own ud1 ((opsP [8, 0, 0, 0, 0]).length) (ints (List.flatMap OpT.flat (opsP [8, 0, 0, 0, 0]))) 70 11, blkA b2 [(.int .u8 8), (.int .u8 0), (.int .u8 0), (.int .u8 0), (.int .u8 0)] 5]
  refine TL.ownLen 0 rfl rfl (fun hlud1 _ => ?_)
  refine TL.v (Want.plain rfl) rfl rfl (PV.assign rfl rfl) ?_
  refine TL.nil ?_
  refine TE.next hK2 ?_
  clear hK2
  refine TC.seq (fun K3 hK3 => ?_)
  refine TC.region ?_
  refine TL.v (Want.plain rfl) rfl rfl (PV.move rfl rfl) ?_
  refine TL.v (Want.plain rfl) rfl rfl (PV.lenV rfl Try.underlying67 rfl hlud1) ?_
  refine TL.v (Want.plain rfl) rfl rfl (PV.eql rfl rfl rfl) ?_
  refine TL.dec (fun h6 => ?_) (fun h6 => ?_)
  · skip
    refine TL.v (Want.plain rfl) rfl rfl (PV.move rfl rfl) ?_
    refine TL.ownAt 0 rfl rfl (by decide) (fun ga capa hva hcapa => ?_)
    refine TL.v (Want.met rfl rfl rfl) rfl rfl (PV.move rfl rfl) ?_
    refine TL.v (Want.met rfl rfl rfl) rfl rfl (PV.indexSlV (r := 0) hva rfl Try.underlying67 sz70 rfl rfl (by omega) (by omega) rfl) ?_
    refine TL.v (Want.met rfl rfl rfl) rfl rfl (PV.fieldAddr (r := 0) rfl Try.underlying70 rfl sz3 rfl rfl) ?_
    refine TL.v (Want.met rfl rfl rfl) rfl rfl (PV.load1X (v := (.int .i64 8)) rfl Try.underlying3 rfl rfl (RdX.own 0 rfl hva rfl) rfl) ?_
    refine TL.v (Want.met rfl rfl rfl) rfl rfl (PV.eql rfl rfl rfl) ?_
    refine TL.v (Want.plain rfl) rfl rfl (PV.pick rfl rfl rfl) ?_
    refine TL.v (Want.plain rfl) rfl rfl (PV.move rfl rfl) ?_
    refine TL.v (Want.met rfl rfl rfl) rfl rfl (PV.move rfl rfl) ?_
    refine TL.callR (A := []) (B := [own ud1 ((opsP [8, 0, 0, 0, 0]).length) (ints (List.flatMap OpT.flat (opsP [8, 0, 0, 0, 0]))) 70 11, blkA b2 [(.int .u8 8), (.int .u8 0), (.int .u8 0), (.int .u8 0), (.int .u8 0)] 5]) (Want.met rfl rfl rfl) rfl rfl rfl nm43 rfl (light_does ud1 (opsP [8, 0, 0, 0, 0])) (fun _ s => s) (isF_own OpT.flat_length 0 rfl rfl) (fun vR HR hR => ?_)
    obtain ⟨rfl, rfl⟩ := hR
    change TL _ _ _ _ _ _ _ _ _ [own ud1 ((opsP [8, 0, 0, 0, 0]).length) (ints (List.flatMap OpT.flat (opsP [8, 0, 0, 0, 0]))) 70 11, blkA b2 [(.int .u8 8), (.int .u8 0), (.int .u8 0), (.int .u8 0), (.int .u8 0)] 5]
    refine TL.dec (fun h16 => ?_) (fun h16 => ?_)
    · skip
      refine TL.v (Want.plain rfl) rfl rfl (PV.pick rfl rfl rfl) ?_
      refine TL.v (Want.plain rfl) rfl rfl (PV.move rfl rfl) ?_
      refine TL.callR (A := []) (B := [own ud1 ((opsP [8, 0, 0, 0, 0]).length) (ints (List.flatMap OpT.flat (opsP [8, 0, 0, 0, 0]))) 70 11, blkA b2 [(.int .u8 8), (.int .u8 0), (.int .u8 0), (.int .u8 0), (.int .u8 0)] 5]) (Want.met rfl rfl rfl) rfl rfl rfl nm44 rfl (clusterNew_weak) (fun _ s => s) (fun _ _ _ => trivial) (fun vR HR hR => ?_)
      obtain ⟨bc, rfl, rfl⟩ := hR
      change TL _ _ _ _ _ _ _ _ _ [own ud1 ((opsP [8, 0, 0, 0, 0]).length) (ints (List.flatMap OpT.flat (opsP [8, 0, 0, 0, 0]))) 70 11, blkA b2 [(.int .u8 8), (.int .u8 0), (.int .u8 0), (.int .u8 0), (.int .u8 0)] 5]
      refine TL.v (Want.met rfl rfl rfl) rfl rfl (PV.ptrNotNil rfl Try.underlying95 rfl rfl) ?_
      refine TL.v (Want.plain rfl) rfl rfl (PV.pick rfl rfl rfl) ?_
      refine TL.v (Want.plain rfl) rfl rfl (PV.assign rfl rfl) ?_
      refine TL.nil ?_
      refine TE.next hK3 ?_
      clear hK3
      refine TC.ret ?_
      refine TE.weak (Sub.refl _) (fun _ s => sep_keep [] rfl s) ?_
      refine TE.ret1 rfl rfl ?_
      exact ⟨rfl, rfl⟩
    · exact absurd (by decide) h16
  · exact absurd rfl h6


theorem scriptAny_does (x : Value) (bs : List UInt8) :
    Does Try.prog 7 #[x] (IsB x bs) [] (Ret (fun r' H => r' = .bool true ∧ H = [])) := by
  refine Does.body (vs := [x]) (n := 30) Try.func7 rfl rfl rfl (fun w0 F hF => ?_)
  refine TC.seq (fun K1 hK1 => ?_)
  refine TC.region ?_
  refine TL.v (Want.plain rfl) rfl rfl (PV.assign rfl rfl) ?_
  refine TL.nil ?_
  refine TE.next hK1 ?_
  clear hK1
  refine TC.seq (fun K2 hK2 => ?_)
  refine TC.seq (fun K3 hK3 => ?_)
  refine TC.region ?_
  refine TL.callR (A := []) (B := []) (Want.plain rfl) rfl rfl rfl nm24 rfl (fit18_does) (fun _ s => s) (fun _ _ _ => trivial) (fun vR HR hR => ?_)
  obtain ⟨rfl, rfl⟩ := hR
  change TL _ _ _ _ _ _ _ _ _ []
  refine TL.v (Want.plain rfl) rfl rfl (PV.not (r := false) rfl rfl rfl) ?_
  refine TL.nil ?_
  refine TE.next hK3 ?_
  clear hK3
  refine TC.no rfl ?_
  refine TC.skip ?_
  refine TE.next hK2 ?_
  clear hK2
  refine TC.seq (fun K4 hK4 => ?_)
  refine TC.seq (fun K5 hK5 => ?_)
  refine TC.region ?_
  refine TL.v (Want.plain rfl) rfl rfl (PV.move rfl rfl) ?_
  refine TL.v (Want.plain rfl) rfl rfl (PV.lenV rfl Try.underlying27 rfl hF.len) ?_
  refine TL.v (Want.plain rfl) rfl rfl (PV.gtr rfl rfl rfl) ?_
  refine TL.dec (fun h10 => ?_) (fun h10 => ?_)
  · skip
    refine TL.nil ?_
    refine TE.next hK5 ?_
    clear hK5
    refine TC.yes rfl ?_
    refine TC.seq (fun K6 hK6 => ?_)
    refine TC.region ?_
    refine TL.v (Want.plain rfl) rfl rfl (PV.assign rfl rfl) ?_
    refine TL.nil ?_
    refine TE.next hK6 ?_
    clear hK6
    refine TC.ret ?_
    refine TE.passRet ?_
    clear hK4
    refine TE.weak (Sub.refl _) (fun _ s => sep_keep [] rfl s) ?_
    refine TE.ret1 rfl rfl ?_
    exact ⟨rfl, rfl⟩
  · skip
    refine TL.nil ?_
    refine TE.next hK5 ?_
    clear hK5
    refine TC.no rfl ?_
    refine TC.skip ?_
    refine TE.next hK4 ?_
    clear hK4
    refine TC.seq (fun K7 hK7 => ?_)
    refine TC.region ?_
    refine TL.v (Want.plain rfl) rfl rfl (PV.move rfl rfl) ?_
    refine TL.callR (A := []) (B := []) (Want.plain rfl) rfl rfl rfl nm25 rfl (opsDecode_is (bs := bs) (by omega) rfl) (fun _ s => s) (fun _ d _ => (hF).more d) (fun vR HR hR => ?_)
    obtain ⟨_, rfl, rfl⟩ := hR
    revert vR
    intro ud1
    change TL _ _ _ _ _ _ _ _ _ [own ud1 ((opsP bs).length) (ints (List.flatMap OpT.flat (opsP bs))) 70 11]
    refine TL.ownLen 0 rfl rfl (fun hlud1 _ => ?_)
    refine TL.v (Want.plain rfl) rfl rfl (PV.assign rfl rfl) ?_
    refine TL.nil ?_
    refine TE.next hK7 ?_
    clear hK7
    refine TC.seq (fun K8 hK8 => ?_)
    refine TC.seq (fun K9 hK9 => ?_)
    refine TC.region ?_
    refine TL.v (Want.plain rfl) rfl rfl (PV.move rfl rfl) ?_
    refine TL.v (Want.plain rfl) rfl rfl (PV.lenV rfl Try.underlying67 rfl hlud1) ?_
    refine TL.v (Want.plain rfl) rfl rfl (PV.move rfl rfl) ?_
    refine TL.v (Want.plain rfl) rfl rfl (PV.lenV rfl Try.underlying27 rfl hF.len) ?_
    refine TL.v (Want.plain rfl) rfl rfl (PV.quo (r := ((bs.length / 5 : Nat) : Int)) rfl rfl rfl (by omega) (quoNat bs.length 5 (by omega))) ?_
    refine TL.v (Want.plain rfl) rfl rfl (PV.neq rfl rfl rfl) ?_
    refine TL.dec (fun h18 => ?_) (fun h18 => ?_)
    · exact absurd (by rw [opsP_len _ bs rfl]) h18
    · skip
      refine TL.nil ?_
      refine TE.next hK9 ?_
      clear hK9
      refine TC.no rfl ?_
      refine TC.skip ?_
      refine TE.next hK8 ?_
      clear hK8
      refine TC.seq (fun K10 hK10 => ?_)
      refine TC.seq (fun K11 hK11 => ?_)
      refine TC.region ?_
      refine TL.v (Want.plain rfl) rfl rfl (PV.move rfl rfl) ?_
      refine TL.v (Want.plain rfl) rfl rfl (PV.lenV rfl Try.underlying67 rfl hlud1) ?_
      refine TL.v (Want.plain rfl) rfl rfl (PV.move rfl rfl) ?_
      refine TL.nil ?_
      refine TE.next hK11 ?_
      clear hK11
      refine TC.block ?_
      refine TC.loop (α := (Nat)) (fun k => k ≤ (opsP bs).length) (fun k => [(19, ud1), (20, (.int .i64 ((((opsP bs).length : Nat) : Int)))), (21, (.int .i64 (((k : Nat) : Int))))]) (fun k => [own ud1 ((opsP bs).length) (ints (List.flatMap OpT.flat (opsP bs))) 70 11]) (fun k => (opsP bs).length - k) 0
          (Nat.zero_le _) (Sub.r (Sub.r (Sub.cons rfl (by congr 1) (Sub.nil _))))
          (fun _ s => s) (fun k hinv => ?_)
      obtain hk := hinv
      refine TC.seq (fun K12 hK12 => ?_)
      refine TC.region ?_
      refine TL.v (Want.plain rfl) rfl rfl (PV.lss rfl rfl rfl) ?_
      refine TL.dec (fun h22 => ?_) (fun h22 => ?_)
      · skip
        refine TL.nil ?_
        refine TE.next hK12 ?_
        clear hK12
        refine TC.seq (fun K13 hK13 => ?_)
        refine TC.yes rfl ?_
        refine TC.skip ?_
        refine TE.next hK13 ?_
        clear hK13
        refine TC.seq (fun K14 hK14 => ?_)
        refine TC.block ?_
        refine TC.seq (fun K15 hK15 => ?_)
        refine TC.region ?_
        refine TL.ownAt 0 rfl rfl (by omega) (fun ga capa hva hcapa => ?_)
        refine TL.v (Want.plain rfl) rfl rfl (PV.indexSlV (r := k * 11) hva rfl Try.underlying67 sz70 rfl rfl (by omega) (by omega) (by omega)) ?_
        refine TL.v (Want.plain rfl) rfl rfl (PV.loadNX (vs := ints ((opsP bs)[k]'(by omega)).flat) rfl Try.underlying70 rfl sz70 rfl (RdX.own 0 rfl hva rfl) (OpT.len _) (flat_sub OpT.flat_length (opsP bs) (by omega))) ?_
        refine TL.alloc (Want.plain rfl) rfl rfl rfl z70 (fun b5 => ?_)
        change TL _ _ _ _ _ _ _ _ _ [blkA b5 (ints OpT.zero.flat) 70, own ud1 ((opsP bs).length) (ints (List.flatMap OpT.flat (opsP bs))) 70 11]
        refine TL.store (vs := ints ((opsP bs)[k]'(by omega)).flat) (i := 0) (H' := [blkA b5 (ints ((opsP bs)[k]'(by omega)).flat) 70, own ud1 ((opsP bs).length) (ints (List.flatMap OpT.flat (opsP bs))) 70 11]) (Want.plain rfl) rfl rfl rfl rfl rfl (by rw [(OpT.len ((opsP bs)[k]'(by omega)))]; exact sz70) (ints_one _) rfl rfl (by have h0 := (OpT.len OpT.zero); have h1 := (OpT.len ((opsP bs)[k]'(by omega))); omega) (wwhole ((OpT.len OpT.zero).trans (OpT.len ((opsP bs)[k]'(by omega))).symm)) rfl ?_
        refine TL.nil ?_
        refine TE.next hK15 ?_
        clear hK15
        refine TC.seq (fun K16 hK16 => ?_)
        refine TC.draw (fun w => Frm F w ∧ w.heap[b5]? = some (.cells (ints ((opsP bs)[k]'(by omega)).flat).toArray 70 (0, 0)) ∧ True) mixed rfl (fun _ s => ⟨Frm.of s, s.block 0 (lb rfl) rfl, trivial⟩) ?_
        refine TD.take (i := 0) rfl (by kernel_rfl) (by kernel_rfl) (by kernel_rfl) (fun _ _ _ _ h => h) (Want.plain rfl) rfl rfl (PV.loadN (vs := ints ((opsP bs)[k]'(by omega)).flat) rfl Try.underlying70 rfl sz70 rfl (fun _ h => h.2.1) (OpT.len ((opsP bs)[k]'(by omega))) (whole (OpT.len ((opsP bs)[k]'(by omega))))) ?_
        refine TD.take (i := 1) rfl (by kernel_rfl) (by kernel_rfl) (by kernel_rfl) (fun _ _ _ _ h => h) (Want.plain rfl) rfl rfl (PV.loadN (vs := ints ((opsP bs)[k]'(by omega)).flat) rfl Try.underlying70 rfl sz70 rfl (fun _ h => h.2.1) (OpT.len ((opsP bs)[k]'(by omega))) (whole (OpT.len ((opsP bs)[k]'(by omega))))) ?_
        refine TD.all [2] (by kernel_rfl) rfl ?_
        refine AllT.cons rfl ?_ ?_
        · skip
          refine TL.callR (A := []) (B := [blkA b5 (ints ((opsP bs)[k]'(by omega)).flat) 70, own ud1 ((opsP bs).length) (ints (List.flatMap OpT.flat (opsP bs))) 70 11]) (Want.plain rfl) rfl rfl rfl nm26 rfl (tameO_does ((opsP bs)[k]'(by omega))) (fun _ s => s) (fun _ _ _ => trivial) (fun vR HR hR => ?_)
          obtain ⟨rfl, rfl⟩ := hR
          change TL _ _ _ _ _ _ _ _ _ [blkA b5 (ints ((opsP bs)[k]'(by omega)).flat) 70, own ud1 ((opsP bs).length) (ints (List.flatMap OpT.flat (opsP bs))) 70 11]
          refine TL.nil ?_
          refine TE.draw (fun _ s => ⟨Frm.of s, s.block 0 (lb rfl) rfl, trivial⟩) ?_
          refine TD.take (i := 3) rfl (by kernel_rfl) (by kernel_rfl) (by kernel_rfl) (fun _ _ _ _ h => h) (Want.plain rfl) rfl rfl (PV.neqAgg (a := ((opsP bs)[k]'(by omega)).flat) (b := (tameO ((opsP bs)[k]'(by omega))).flat) (m := 3) (c := 11) sg70 sk70 rfl fI70 (ints_len (OpT.len ((opsP bs)[k]'(by omega)))) (ints_len (OpT.len (tameO ((opsP bs)[k]'(by omega))))) ⟨formed_ag fC70 cC70 (ints_len (OpT.len ((opsP bs)[k]'(by omega)))), formed_ag fC70 cC70 (ints_len (OpT.len (tameO ((opsP bs)[k]'(by omega)))))⟩ (opsP_wf bs (by omega)) (tameO_wf _) rfl rfl rfl) ?_
          refine TD.dec (fun h28 => ?_) (fun h28 => ?_)
          · exact absurd (by rw [opsP_get bs (by omega)]) h28
          · skip
            refine TD.done (by kernel_rfl) ?_
            refine TE.next hK16 ?_
            clear hK16
            refine TC.no rfl ?_
            refine TC.skip ?_
            refine TE.blockEnd ?_
            refine TE.next hK14 ?_
            clear hK14
            refine TC.region ?_
            refine TL.v (Want.plain rfl) rfl rfl (PV.add rfl rfl rfl (wrap_i64 (by omega) (by omega))) ?_
            refine TL.v (Want.plain rfl) rfl rfl (PV.move rfl rfl) ?_
            refine TL.nil ?_
            exact TE.round ((k + 1) : (Nat)) (by omega) (by show (opsP bs).length - (k + 1) < (opsP bs).length - k; omega)
              (Sub.r (Sub.r (Sub.cons rfl (by simp) (Sub.nil _))))
              (fun _ s => sep_keep [1] rfl s)
        exact AllT.nil
      · skip
        refine TL.nil ?_
        refine TE.next hK12 ?_
        clear hK12
        refine TC.seq (fun K17 hK17 => ?_)
        refine TC.no rfl ?_
        refine TC.exit ?_
        refine TE.pass ?_
        clear hK17
        refine TE.pass ?_
        refine TE.hit ?_
        refine TE.next hK10 ?_
        clear hK10
        refine TC.seq (fun K18 hK18 => ?_)
        refine TC.region ?_
        refine TL.v (Want.plain rfl) rfl rfl (PV.assign rfl rfl) ?_
        refine TL.nil ?_
        refine TE.next hK18 ?_
        clear hK18
        refine TC.ret ?_
        refine TE.weak (Sub.refl _) (fun _ s => sep_keep [] rfl s) ?_
        refine TE.ret1 rfl rfl ?_
        exact ⟨rfl, rfl⟩


theorem scriptBack_does (x y : Value) (l : List OpT) (mb : List UInt8) :
    Does Try.prog 8 #[x, y] (fun F => IsL 11 (EF OpT.flat) x l F ∧ IsB y mb F) [] (Ret (fun r' H => r' = .bool true ∧ H = [])) := by
  refine Does.body (vs := [x, y]) (n := 68) Try.func8 rfl rfl rfl (fun w0 F hF => ?_)
  refine TC.seq (fun K1 hK1 => ?_)
  refine TC.region ?_
  refine TL.v (Want.plain rfl) rfl rfl (PV.assign rfl rfl) ?_
  refine TL.nil ?_
  refine TE.next hK1 ?_
  clear hK1
  refine TC.seq (fun K2 hK2 => ?_)
  refine TC.seq (fun K3 hK3 => ?_)
  refine TC.region ?_
  refine TL.callR (A := []) (B := []) (Want.plain rfl) rfl rfl rfl nm24 rfl (fit18_does) (fun _ s => s) (fun _ _ _ => trivial) (fun vR HR hR => ?_)
  obtain ⟨rfl, rfl⟩ := hR
  change TL _ _ _ _ _ _ _ _ _ []
  refine TL.v (Want.plain rfl) rfl rfl (PV.not (r := false) rfl rfl rfl) ?_
  refine TL.nil ?_
  refine TE.next hK3 ?_
  clear hK3
  refine TC.no rfl ?_
  refine TC.skip ?_
  refine TE.next hK2 ?_
  clear hK2
  refine TC.seq (fun K4 hK4 => ?_)
  refine TC.seq (fun K5 hK5 => ?_)
  refine TC.region ?_
  refine TL.v (Want.plain rfl) rfl rfl (PV.move rfl rfl) ?_
  refine TL.v (Want.plain rfl) rfl rfl (PV.lenV rfl Try.underlying67 rfl hF.1.len) ?_
  refine TL.v (Want.plain rfl) rfl rfl (PV.gtr rfl rfl rfl) ?_
  refine TL.dec (fun h15 => ?_) (fun h15 => ?_)
  · skip
    refine TL.v (Want.plain rfl) rfl rfl (PV.move rfl rfl) ?_
    refine TL.unmet (b := true) rfl rfl rfl rfl (lb rfl) ?_
    refine TL.unmet (b := true) rfl rfl rfl rfl (lb rfl) ?_
    refine TL.unmet (b := true) rfl rfl rfl rfl (lb rfl) ?_
    refine TL.v (Want.plain rfl) rfl rfl (PV.pick rfl rfl rfl) ?_
    refine TL.nil ?_
    refine TE.next hK5 ?_
    clear hK5
    refine TC.yes rfl ?_
    refine TC.seq (fun K6 hK6 => ?_)
    refine TC.region ?_
    refine TL.v (Want.plain rfl) rfl rfl (PV.assign rfl rfl) ?_
    refine TL.nil ?_
    refine TE.next hK6 ?_
    clear hK6
    refine TC.ret ?_
    refine TE.passRet ?_
    clear hK4
    refine TE.weak (Sub.refl _) (fun _ s => sep_keep [] rfl s) ?_
    refine TE.ret1 rfl rfl ?_
    exact ⟨rfl, rfl⟩
  · skip
    refine TL.v (Want.plain rfl) rfl rfl (PV.move rfl rfl) ?_
    refine TL.v (Want.met rfl rfl rfl) rfl rfl (PV.move rfl rfl) ?_
    refine TL.v (Want.met rfl rfl rfl) rfl rfl (PV.lenV rfl Try.underlying27 rfl hF.2.len) ?_
    refine TL.v (Want.met rfl rfl rfl) rfl rfl (PV.gtr rfl rfl rfl) ?_
    refine TL.dec (fun h19 => ?_) (fun h19 => ?_)
    · skip
      refine TL.v (Want.plain rfl) rfl rfl (PV.pick rfl rfl rfl) ?_
      refine TL.nil ?_
      refine TE.next hK5 ?_
      clear hK5
      refine TC.yes rfl ?_
      refine TC.seq (fun K7 hK7 => ?_)
      refine TC.region ?_
      refine TL.v (Want.plain rfl) rfl rfl (PV.assign rfl rfl) ?_
      refine TL.nil ?_
      refine TE.next hK7 ?_
      clear hK7
      refine TC.ret ?_
      refine TE.passRet ?_
      clear hK4
      refine TE.weak (Sub.refl _) (fun _ s => sep_keep [] rfl s) ?_
      refine TE.ret1 rfl rfl ?_
      exact ⟨rfl, rfl⟩
    · skip
      refine TL.v (Want.plain rfl) rfl rfl (PV.pick rfl rfl rfl) ?_
      refine TL.nil ?_
      refine TE.next hK5 ?_
      clear hK5
      refine TC.no rfl ?_
      refine TC.skip ?_
      refine TE.next hK4 ?_
      clear hK4
      refine TC.seq (fun K8 hK8 => ?_)
      refine TC.region ?_
      refine TL.v (Want.plain rfl) rfl rfl (PV.assign rfl rfl) ?_
      refine TL.nil ?_
      refine TE.next hK8 ?_
      clear hK8
      refine TC.seq (fun K9 hK9 => ?_)
      refine TC.seq (fun K10 hK10 => ?_)
      refine TC.region ?_
      refine TL.v (Want.plain rfl) rfl rfl (PV.move rfl rfl) ?_
      refine TL.v (Want.plain rfl) rfl rfl (PV.lenV rfl Try.underlying67 rfl hF.1.len) ?_
      refine TL.v (Want.plain rfl) rfl rfl (PV.move rfl rfl) ?_
      refine TL.nil ?_
      refine TE.next hK10 ?_
      clear hK10
      refine TC.block ?_
      refine TC.loop (α := (Nat) × (Value)) (fun ⟨k, u⟩ => k ≤ l.length ∧ u.oneCell' = true) (fun ⟨k, u⟩ => [(0, x), (1, y), (4, (.bool false)), (5, u), (21, x), (22, (.int .i64 (((l.length : Nat) : Int)))), (23, (.int .i64 (((k : Nat) : Int))))]) (fun ⟨k, u⟩ => [own u (((l.take k).map tameO).length) (ints (List.flatMap OpT.flat ((l.take k).map tameO))) 70 11]) (fun ⟨k, u⟩ => l.length - k) (0, (.slice none 0 0))
          ⟨Nat.zero_le _, rfl⟩ (Sub.r (Sub.r (Sub.r (Sub.r (Sub.r (Sub.r (Sub.cons rfl (by congr 1) (Sub.nil _))))))))
          (fun _ s => sep_ownNil 70 11 s) (fun ⟨k, u⟩ hinv => ?_)
      obtain ⟨hk, hu⟩ := hinv
      refine TC.seq (fun K11 hK11 => ?_)
      refine TC.region ?_
      refine TL.v (Want.plain rfl) rfl rfl (PV.lss rfl rfl rfl) ?_
      refine TL.dec (fun h24 => ?_) (fun h24 => ?_)
      · skip
        obtain ⟨b_b, off_b, cap_b, cs_b, T_b, z_b, us_b, hv_b, hc_b, hb_b, hl_b, hs_b, hE_b⟩ := IsL.at hF.1 (j := k) (by omega)
        replace hE_b : us_b = ints l[k].flat := hE_b
        refine TL.nil ?_
        refine TE.next hK11 ?_
        clear hK11
        refine TC.seq (fun K12 hK12 => ?_)
        refine TC.yes rfl ?_
        refine TC.skip ?_
        refine TE.next hK12 ?_
        clear hK12
        refine TC.seq (fun K13 hK13 => ?_)
        refine TC.block ?_
        refine TC.seq (fun K14 hK14 => ?_)
        refine TC.region ?_
        refine TL.v (Want.plain rfl) rfl rfl (PV.indexSlV (r := off_b + k * 11) hv_b rfl Try.underlying67 sz70 rfl rfl (by omega) (by omega) (by omega)) ?_
        refine TL.v (Want.plain rfl) rfl rfl (PV.loadNX (vs := ints (l[k]).flat) rfl Try.underlying70 rfl sz70 rfl (RdX.frm hb_b (fun _ h => Frm.of h)) (OpT.len _) (hs_b.trans hE_b)) ?_
        refine TL.alloc (Want.plain rfl) rfl rfl rfl z70 (fun b7 => ?_)
        change TL _ _ _ _ _ _ _ _ _ [blkA b7 (ints OpT.zero.flat) 70, own u (((l.take k).map tameO).length) (ints (List.flatMap OpT.flat ((l.take k).map tameO))) 70 11]
        refine TL.store (vs := ints (l[k]).flat) (i := 0) (H' := [blkA b7 (ints (l[k]).flat) 70, own u (((l.take k).map tameO).length) (ints (List.flatMap OpT.flat ((l.take k).map tameO))) 70 11]) (Want.plain rfl) rfl rfl rfl rfl rfl (by rw [(OpT.len (l[k]))]; exact sz70) (ints_one _) rfl rfl (by have h0 := (OpT.len OpT.zero); have h1 := (OpT.len (l[k])); omega) (wwhole ((OpT.len OpT.zero).trans (OpT.len (l[k])).symm)) rfl ?_
        refine TL.nil ?_
        refine TE.next hK14 ?_
        clear hK14
        refine TC.region ?_
        refine TL.v (Want.plain rfl) rfl rfl (PV.move rfl rfl) ?_
        refine TL.v (Want.plain rfl) rfl rfl (PV.loadN (vs := ints (l[k]).flat) rfl Try.underlying70 rfl sz70 rfl (Rd.own 0 rfl rfl) (OpT.len (l[k])) (whole (OpT.len (l[k])))) ?_
        refine TL.callR (A := []) (B := [blkA b7 (ints (l[k]).flat) 70, own u (((l.take k).map tameO).length) (ints (List.flatMap OpT.flat ((l.take k).map tameO))) 70 11]) (Want.plain rfl) rfl rfl rfl nm26 rfl (tameO_does (l[k])) (fun _ s => s) (fun _ _ _ => trivial) (fun vR HR hR => ?_)
        obtain ⟨rfl, rfl⟩ := hR
        change TL _ _ _ _ _ _ _ _ _ [blkA b7 (ints (l[k]).flat) 70, own u (((l.take k).map tameO).length) (ints (List.flatMap OpT.flat ((l.take k).map tameO))) 70 11]
        refine TL.buildSlice (cells := (ints (tameO (l[k])).flat).toArray) (Want.plain rfl) rfl rfl rfl Try.underlying67 in70 rfl rfl rfl (fill_at (OpT.len (tameO (l[k]))) (by simp)) (fun b30 => ?_)
        change TL _ _ _ _ _ _ _ _ _ [blkA b30 (ints (tameO (l[k])).flat) 70, blkA b7 (ints (l[k]).flat) 70, own u (((l.take k).map tameO).length) (ints (List.flatMap OpT.flat ((l.take k).map tameO))) 70 11]
        refine TL.append (k := 2) (news := ints (tameO (l[k])).flat) (nn' := ((l.take (k + 1)).map tameO).length) (xs' := ints (List.flatMap OpT.flat ((l.take (k + 1)).map tameO))) (Want.plain rfl) rfl rfl rfl Try.underlying67 in70 rfl rfl rfl rfl rfl rfl (fun _ _ => Src.rd (OpT.len _) (Rd.own 0 rfl rfl) (by rw [List.drop_zero, List.take_length])) (ints_one _) (by simp only [maxLen, List.length_map, List.length_take]; omega) (by simp only [List.length_map, List.length_take]; omega) (by simp; omega) (by rw [List.take_succ_eq_append_getElem (by omega), List.map_append, List.flatMap_append]; simp only [List.map_cons, List.map_nil, List.flatMap_cons, List.flatMap_nil, List.append_nil, ints, List.map_append]) (fun v31 ov31 => ?_)
        change TL _ _ _ _ _ _ _ _ _ [blkA b30 (ints (tameO (l[k])).flat) 70, blkA b7 (ints (l[k]).flat) 70, own v31 (((l.take (k + 1)).map tameO).length) (ints (List.flatMap OpT.flat ((l.take (k + 1)).map tameO))) 70 11]
        refine TL.v (Want.plain rfl) rfl rfl (PV.assign rfl rfl) ?_
        refine TL.nil ?_
        refine TE.blockEnd ?_
        refine TE.next hK13 ?_
        clear hK13
        refine TC.region ?_
        refine TL.v (Want.plain rfl) rfl rfl (PV.add rfl rfl rfl (wrap_i64 (by omega) (by omega))) ?_
        refine TL.v (Want.plain rfl) rfl rfl (PV.move rfl rfl) ?_
        refine TL.nil ?_
        exact TE.round ((k + 1, v31) : (Nat) × (Value)) ⟨by omega, ov31⟩ (by show l.length - (k + 1) < l.length - k; omega)
          (Sub.r (Sub.r (Sub.r (Sub.r (Sub.r (Sub.r (Sub.cons rfl (by simp) (Sub.nil _))))))))
          (fun _ s => sep_keep [2] rfl s)
      · skip
        refine TL.nil ?_
        refine TE.next hK11 ?_
        clear hK11
        refine TC.seq (fun K15 hK15 => ?_)
        refine TC.no rfl ?_
        refine TC.exit ?_
        refine TE.pass ?_
        clear hK15
        refine TE.pass ?_
        refine TE.hit ?_
        refine TE.next hK9 ?_
        clear hK9
        refine TC.seq (fun K16 hK16 => ?_)
        refine TC.region ?_
        obtain rfl : k = l.length := by omega
        change TL _ _ _ _ _ _ _ _ _ [own u (((l.take l.length).map tameO).length) (ints (List.flatMap OpT.flat ((l.take l.length).map tameO))) 70 11]
        rw [List.take_length]
        change TL _ _ _ _ _ _ _ _ _ [own u ((l.map tameO).length) (ints (List.flatMap OpT.flat (l.map tameO))) 70 11]
        refine TL.v (Want.plain rfl) rfl rfl (PV.move rfl rfl) ?_
        refine TL.callR (A := []) (B := [own u ((l.map tameO).length) (ints (List.flatMap OpT.flat (l.map tameO))) 70 11]) (Want.plain rfl) rfl rfl rfl nm27 rfl (opsEncode_does u (l.map tameO) (by simp; omega)) (fun _ s => s) (isF_own OpT.flat_length 0 rfl rfl) (fun vR HR hR => ?_)
        obtain ⟨_, rfl, rfl⟩ := hR
        revert vR
        intro ue1
        change TL _ _ _ _ _ _ _ _ _ [ownB ue1 (encOps (l.map tameO)) 5, own u ((l.map tameO).length) (ints (List.flatMap OpT.flat (l.map tameO))) 70 11]
        refine TL.ownLen 0 rfl rfl (fun hlue1 _ => ?_)
        refine TL.v (Want.plain rfl) rfl rfl (PV.assign rfl rfl) ?_
        refine TL.nil ?_
        refine TE.next hK16 ?_
        clear hK16
        refine TC.seq (fun K17 hK17 => ?_)
        refine TC.region ?_
        have hel := encOps_len (l.map tameO)
        rw [List.length_map] at hel
        refine TL.v (Want.plain rfl) rfl rfl (PV.move rfl rfl) ?_
        refine TL.ownNil 5 (fun on => ?_)
        clear on
        change TL _ _ _ _ _ _ _ _ _ [ownB (.slice none 0 0) ([]) 5, ownB ue1 (encOps (l.map tameO)) 5, own u ((l.map tameO).length) (ints (List.flatMap OpT.flat (l.map tameO))) 70 11]
        refine TL.append (k := 0) (news := u8s (encOps (l.map tameO))) (nn' := (encOps (l.map tameO) : List UInt8).length) (xs' := u8s (encOps (l.map tameO))) (Want.plain rfl) rfl rfl rfl Try.underlying27 in5 rfl rfl rfl rfl rfl rfl (fun _ s => Src.own 1 rfl rfl s) (u8s_one _) (by first | (simp only [maxLen]; omega) | (simp only [maxLen, List.length_append, List.length_nil]; omega)) (by first | omega | (simp only [List.length_append, List.length_nil]; omega)) (by simp) (List.nil_append _) (fun v36 ov36 => ?_)
        change TL _ _ _ _ _ _ _ _ _ [ownB v36 (encOps (l.map tameO)) 5, ownB ue1 (encOps (l.map tameO)) 5, own u ((l.map tameO).length) (ints (List.flatMap OpT.flat (l.map tameO))) 70 11]
        refine TL.v (Want.plain rfl) rfl rfl (PV.move rfl rfl) ?_
        refine TL.append (k := 0) (news := u8s (mb)) (nn' := (encOps (l.map tameO) ++ mb : List UInt8).length) (xs' := u8s (encOps (l.map tameO) ++ mb)) (Want.plain rfl) rfl rfl rfl Try.underlying27 in5 rfl rfl rfl rfl rfl rfl (fun _ _ => hF.2.src (fun _ h => Frm.of h)) (u8s_one _) (by first | (simp only [maxLen]; omega) | (simp only [maxLen, List.length_append, List.length_nil]; omega)) (by first | omega | (simp only [List.length_append, List.length_nil]; omega)) (by simp) (u8s_append _ _).symm (fun v38 ov38 => ?_)
        change TL _ _ _ _ _ _ _ _ _ [ownB v38 (encOps (l.map tameO) ++ mb) 5, ownB ue1 (encOps (l.map tameO)) 5, own u ((l.map tameO).length) (ints (List.flatMap OpT.flat (l.map tameO))) 70 11]
        refine TL.callR (A := []) (B := [ownB v38 (encOps (l.map tameO) ++ mb) 5, ownB ue1 (encOps (l.map tameO)) 5, own u ((l.map tameO).length) (ints (List.flatMap OpT.flat (l.map tameO))) 70 11]) (Want.plain rfl) rfl rfl rfl nm25 rfl (opsDecode_is (bs := (encOps (l.map tameO) ++ mb)) (by simp only [List.length_append]; omega) (ops_back l mb (by omega))) (fun _ s => s) (isB_own 0 rfl rfl) (fun vR HR hR => ?_)
        obtain ⟨_, rfl, rfl⟩ := hR
        revert vR
        intro ud1
        change TL _ _ _ _ _ _ _ _ _ [own ud1 ((l.map tameO).length) (ints (List.flatMap OpT.flat (l.map tameO))) 70 11, ownB v38 (encOps (l.map tameO) ++ mb) 5, ownB ue1 (encOps (l.map tameO)) 5, own u ((l.map tameO).length) (ints (List.flatMap OpT.flat (l.map tameO))) 70 11]
        refine TL.ownLen 0 rfl rfl (fun hlud1 _ => ?_)
        refine TL.v (Want.plain rfl) rfl rfl (PV.assign rfl rfl) ?_
        refine TL.nil ?_
        refine TE.next hK17 ?_
        clear hK17
        refine TC.seq (fun K18 hK18 => ?_)
        refine TC.seq (fun K19 hK19 => ?_)
        refine TC.region ?_
        refine TL.v (Want.plain rfl) rfl rfl (PV.move rfl rfl) ?_
        refine TL.v (Want.plain rfl) rfl rfl (PV.lenV rfl Try.underlying67 rfl hlud1) ?_
        refine TL.v (Want.plain rfl) rfl rfl (PV.move rfl rfl) ?_
        refine TL.v (Want.plain rfl) rfl rfl (PV.lenV rfl Try.underlying67 rfl hF.1.len) ?_
        refine TL.v (Want.plain rfl) rfl rfl (PV.neq rfl rfl rfl) ?_
        refine TL.dec (fun h44 => ?_) (fun h44 => ?_)
        · exact absurd (by simp) h44
        · skip
          refine TL.v (Want.plain rfl) rfl rfl (PV.move rfl rfl) ?_
          refine TL.v (Want.met rfl rfl rfl) rfl rfl (PV.move rfl rfl) ?_
          refine TL.v (Want.met rfl rfl rfl) rfl rfl (PV.lenV rfl Try.underlying27 rfl hlue1) ?_
          refine TL.v (Want.met rfl rfl rfl) rfl rfl (PV.move rfl rfl) ?_
          refine TL.v (Want.met rfl rfl rfl) rfl rfl (PV.lenV rfl Try.underlying67 rfl hF.1.len) ?_
          refine TL.v (Want.met rfl rfl rfl) rfl rfl (PV.mul (r := (5 * ((l.length : Nat) : Int))) rfl rfl rfl (wrap_i64 (by omega) (by omega))) ?_
          refine TL.v (Want.met rfl rfl rfl) rfl rfl (PV.neq rfl rfl rfl) ?_
          refine TL.dec (fun h51 => ?_) (fun h51 => ?_)
          · exact absurd (by rw [hel]; omega) h51
          · skip
            refine TL.v (Want.plain rfl) rfl rfl (PV.pick rfl rfl rfl) ?_
            refine TL.nil ?_
            refine TE.next hK19 ?_
            clear hK19
            refine TC.no rfl ?_
            refine TC.skip ?_
            refine TE.next hK18 ?_
            clear hK18
            refine TC.seq (fun K20 hK20 => ?_)
            refine TC.seq (fun K21 hK21 => ?_)
            refine TC.region ?_
            refine TL.v (Want.plain rfl) rfl rfl (PV.move rfl rfl) ?_
            refine TL.v (Want.plain rfl) rfl rfl (PV.lenV rfl Try.underlying67 rfl hlud1) ?_
            refine TL.v (Want.plain rfl) rfl rfl (PV.move rfl rfl) ?_
            refine TL.nil ?_
            refine TE.next hK21 ?_
            clear hK21
            refine TC.block ?_
            refine TC.loop (α := (Nat)) (fun j => j ≤ (l.map tameO).length) (fun j => [(5, u), (9, ud1), (54, (.int .i64 ((((l.map tameO).length : Nat) : Int)))), (55, (.int .i64 (((j : Nat) : Int))))]) (fun j => [own ud1 ((l.map tameO).length) (ints (List.flatMap OpT.flat (l.map tameO))) 70 11, own u ((l.map tameO).length) (ints (List.flatMap OpT.flat (l.map tameO))) 70 11]) (fun j => (l.map tameO).length - j) 0
                (Nat.zero_le _) (Sub.r (Sub.r (Sub.r (Sub.cons rfl (by congr 1) (Sub.nil _)))))
                (fun _ s => sep_keep [0, 2] rfl s) (fun j hinv => ?_)
            obtain hj := hinv
            refine TC.seq (fun K22 hK22 => ?_)
            refine TC.region ?_
            refine TL.v (Want.plain rfl) rfl rfl (PV.lss rfl rfl rfl) ?_
            refine TL.dec (fun h56 => ?_) (fun h56 => ?_)
            · skip
              refine TL.nil ?_
              refine TE.next hK22 ?_
              clear hK22
              refine TC.seq (fun K23 hK23 => ?_)
              refine TC.yes rfl ?_
              refine TC.skip ?_
              refine TE.next hK23 ?_
              clear hK23
              refine TC.seq (fun K24 hK24 => ?_)
              refine TC.block ?_
              refine TC.seq (fun K25 hK25 => ?_)
              refine TC.region ?_
              refine TL.ownAt 0 rfl rfl (by omega) (fun ga capa hva hcapa => ?_)
              refine TL.ownAt 1 rfl rfl (by omega) (fun gc capc hvc hcapc => ?_)
              refine TL.v (Want.plain rfl) rfl rfl (PV.move rfl rfl) ?_
              refine TL.v (Want.plain rfl) rfl rfl (PV.assign rfl rfl) ?_
              refine TL.nil ?_
              refine TE.next hK25 ?_
              clear hK25
              refine TC.seq (fun K26 hK26 => ?_)
              refine TC.draw (fun w => Frm F w ∧ True) mixed rfl (fun _ s => ⟨Frm.of s, trivial⟩) ?_
              refine TD.take (i := 0) rfl (by kernel_rfl) (by kernel_rfl) (by kernel_rfl) (fun _ _ _ _ h => h) (Want.plain rfl) rfl rfl (PV.move rfl rfl) ?_
              refine TD.take (i := 1) rfl (by kernel_rfl) (by kernel_rfl) (by kernel_rfl) (fun _ _ _ _ h => h) (Want.plain rfl) rfl rfl (PV.move rfl rfl) ?_
              refine TD.take (i := 2) rfl (by kernel_rfl) (by kernel_rfl) (by kernel_rfl) (fun _ _ _ _ h => h) (Want.plain rfl) rfl rfl (PV.indexSlV (r := j * 11) hva rfl Try.underlying67 sz70 rfl rfl (by omega) (by omega) (by omega)) ?_
              refine TD.take (i := 4) rfl (by kernel_rfl) (by kernel_rfl) (by kernel_rfl) (fun _ _ _ _ h => h) (Want.plain rfl) rfl rfl (PV.move rfl rfl) ?_
              refine TD.take (i := 5) rfl (by kernel_rfl) (by kernel_rfl) (by kernel_rfl) (fun _ _ _ _ h => h) (Want.plain rfl) rfl rfl (PV.move rfl rfl) ?_
              refine TD.take (i := 6) rfl (by kernel_rfl) (by kernel_rfl) (by kernel_rfl) (fun _ _ _ _ h => h) (Want.plain rfl) rfl rfl (PV.indexSlV (r := j * 11) hvc rfl Try.underlying67 sz70 rfl rfl (by omega) (by omega) (by omega)) ?_
              refine TD.all [3, 7] (by kernel_rfl) rfl ?_
              refine AllT.cons rfl ?_ ?_
              · skip
                refine TL.v (Want.plain rfl) rfl rfl (PV.loadNX (vs := ints ((l.map tameO)[j]'(by omega)).flat) rfl Try.underlying70 rfl sz70 rfl (RdX.own 0 rfl hva rfl) (OpT.len _) (flat_sub OpT.flat_length (l.map tameO) (by omega))) ?_
                refine TL.nil ?_
                refine TE.draw (fun _ s => ⟨Frm.of s, trivial⟩) ?_
                refine TD.all [7] (by kernel_rfl) rfl ?_
                refine AllT.cons rfl ?_ ?_
                · skip
                  refine TL.v (Want.plain rfl) rfl rfl (PV.loadNX (vs := ints ((l.map tameO)[j]'(by omega)).flat) rfl Try.underlying70 rfl sz70 rfl (RdX.own 1 rfl hvc rfl) (OpT.len _) (flat_sub OpT.flat_length (l.map tameO) (by omega))) ?_
                  refine TL.nil ?_
                  refine TE.draw (fun _ s => ⟨Frm.of s, trivial⟩) ?_
                  refine TD.take (i := 8) rfl (by kernel_rfl) (by kernel_rfl) (by kernel_rfl) (fun _ _ _ _ h => h) (Want.plain rfl) rfl rfl (PV.neqAgg (a := ((l.map tameO)[j]'(by omega)).flat) (b := ((l.map tameO)[j]'(by omega)).flat) (m := 3) (c := 11) sg70 sk70 rfl fI70 (ints_len (OpT.len ((l.map tameO)[j]'(by omega)))) (ints_len (OpT.len ((l.map tameO)[j]'(by omega)))) ⟨formed_ag fC70 cC70 (ints_len (OpT.len ((l.map tameO)[j]'(by omega)))), formed_ag fC70 cC70 (ints_len (OpT.len ((l.map tameO)[j]'(by omega))))⟩ (by rw [List.getElem_map]; exact tameO_wf _) (by rw [List.getElem_map]; exact tameO_wf _) rfl rfl rfl) ?_
                  refine TD.dec (fun h66 => ?_) (fun h66 => ?_)
                  · exact absurd rfl h66
                  · skip
                    refine TD.done (by kernel_rfl) ?_
                    refine TE.next hK26 ?_
                    clear hK26
                    refine TC.no rfl ?_
                    refine TC.skip ?_
                    refine TE.blockEnd ?_
                    refine TE.next hK24 ?_
                    clear hK24
                    refine TC.region ?_
                    refine TL.v (Want.plain rfl) rfl rfl (PV.add rfl rfl rfl (wrap_i64 (by omega) (by omega))) ?_
                    refine TL.v (Want.plain rfl) rfl rfl (PV.move rfl rfl) ?_
                    refine TL.nil ?_
                    exact TE.round ((j + 1) : (Nat)) (by omega) (by show (l.map tameO).length - (j + 1) < (l.map tameO).length - j; omega)
                      (Sub.r (Sub.r (Sub.r (Sub.cons rfl (by simp) (Sub.nil _)))))
                      (fun _ s => s)
                exact AllT.nil
              refine AllT.cons rfl ?_ ?_
              · skip
                refine TL.v (Want.plain rfl) rfl rfl (PV.loadNX (vs := ints ((l.map tameO)[j]'(by omega)).flat) rfl Try.underlying70 rfl sz70 rfl (RdX.own 1 rfl hvc rfl) (OpT.len _) (flat_sub OpT.flat_length (l.map tameO) (by omega))) ?_
                refine TL.nil ?_
                refine TE.draw (fun _ s => ⟨Frm.of s, trivial⟩) ?_
                refine TD.all [3] (by kernel_rfl) rfl ?_
                refine AllT.cons rfl ?_ ?_
                · skip
                  refine TL.v (Want.plain rfl) rfl rfl (PV.loadNX (vs := ints ((l.map tameO)[j]'(by omega)).flat) rfl Try.underlying70 rfl sz70 rfl (RdX.own 0 rfl hva rfl) (OpT.len _) (flat_sub OpT.flat_length (l.map tameO) (by omega))) ?_
                  refine TL.nil ?_
                  refine TE.draw (fun _ s => ⟨Frm.of s, trivial⟩) ?_
                  refine TD.take (i := 8) rfl (by kernel_rfl) (by kernel_rfl) (by kernel_rfl) (fun _ _ _ _ h => h) (Want.plain rfl) rfl rfl (PV.neqAgg (a := ((l.map tameO)[j]'(by omega)).flat) (b := ((l.map tameO)[j]'(by omega)).flat) (m := 3) (c := 11) sg70 sk70 rfl fI70 (ints_len (OpT.len ((l.map tameO)[j]'(by omega)))) (ints_len (OpT.len ((l.map tameO)[j]'(by omega)))) ⟨formed_ag fC70 cC70 (ints_len (OpT.len ((l.map tameO)[j]'(by omega)))), formed_ag fC70 cC70 (ints_len (OpT.len ((l.map tameO)[j]'(by omega))))⟩ (by rw [List.getElem_map]; exact tameO_wf _) (by rw [List.getElem_map]; exact tameO_wf _) rfl rfl rfl) ?_
                  refine TD.dec (fun h66 => ?_) (fun h66 => ?_)
                  · exact absurd rfl h66
                  · skip
                    refine TD.done (by kernel_rfl) ?_
                    refine TE.next hK26 ?_
                    clear hK26
                    refine TC.no rfl ?_
                    refine TC.skip ?_
                    refine TE.blockEnd ?_
                    refine TE.next hK24 ?_
                    clear hK24
                    refine TC.region ?_
                    refine TL.v (Want.plain rfl) rfl rfl (PV.add rfl rfl rfl (wrap_i64 (by omega) (by omega))) ?_
                    refine TL.v (Want.plain rfl) rfl rfl (PV.move rfl rfl) ?_
                    refine TL.nil ?_
                    exact TE.round ((j + 1) : (Nat)) (by omega) (by show (l.map tameO).length - (j + 1) < (l.map tameO).length - j; omega)
                      (Sub.r (Sub.r (Sub.r (Sub.cons rfl (by simp) (Sub.nil _)))))
                      (fun _ s => s)
                exact AllT.nil
              exact AllT.nil
            · skip
              refine TL.nil ?_
              refine TE.next hK22 ?_
              clear hK22
              refine TC.seq (fun K27 hK27 => ?_)
              refine TC.no rfl ?_
              refine TC.exit ?_
              refine TE.pass ?_
              clear hK27
              refine TE.pass ?_
              refine TE.hit ?_
              refine TE.next hK20 ?_
              clear hK20
              refine TC.seq (fun K28 hK28 => ?_)
              refine TC.region ?_
              refine TL.v (Want.plain rfl) rfl rfl (PV.assign rfl rfl) ?_
              refine TL.nil ?_
              refine TE.next hK28 ?_
              clear hK28
              refine TC.ret ?_
              refine TE.weak (Sub.refl _) (fun _ s => sep_keep [] rfl s) ?_
              refine TE.ret1 rfl rfl ?_
              exact ⟨rfl, rfl⟩


theorem scriptJoins_does (x y : Value) (la lb : List OpT) (hla : la.length ≤ 17592186044416) (hlb : lb.length ≤ 17592186044416) :
    Does Try.prog 9 #[x, y] (fun F => IsL 11 (EF OpT.flat) x la F ∧ IsL 11 (EF OpT.flat) y lb F) [] (Ret (fun r' H => r' = .bool true ∧ H = [])) := by
  refine Does.body (vs := [x, y]) (n := 65) Try.func9 rfl rfl rfl (fun w0 F hF => ?_)
  refine TC.seq (fun K1 hK1 => ?_)
  refine TC.region ?_
  refine TL.v (Want.plain rfl) rfl rfl (PV.assign rfl rfl) ?_
  refine TL.nil ?_
  refine TE.next hK1 ?_
  clear hK1
  refine TC.seq (fun K2 hK2 => ?_)
  refine TC.seq (fun K3 hK3 => ?_)
  refine TC.region ?_
  refine TL.callR (A := []) (B := []) (Want.plain rfl) rfl rfl rfl nm24 rfl (fit18_does) (fun _ s => s) (fun _ _ _ => trivial) (fun vR HR hR => ?_)
  obtain ⟨rfl, rfl⟩ := hR
  change TL _ _ _ _ _ _ _ _ _ []
  refine TL.v (Want.plain rfl) rfl rfl (PV.not (r := false) rfl rfl rfl) ?_
  refine TL.nil ?_
  refine TE.next hK3 ?_
  clear hK3
  refine TC.no rfl ?_
  refine TC.skip ?_
  refine TE.next hK2 ?_
  clear hK2
  refine TC.seq (fun K4 hK4 => ?_)
  refine TC.seq (fun K5 hK5 => ?_)
  refine TC.region ?_
  refine TL.v (Want.plain rfl) rfl rfl (PV.move rfl rfl) ?_
  refine TL.v (Want.plain rfl) rfl rfl (PV.lenV rfl Try.underlying67 rfl hF.1.len) ?_
  refine TL.v (Want.plain rfl) rfl rfl (PV.move rfl rfl) ?_
  refine TL.v (Want.plain rfl) rfl rfl (PV.lenV rfl Try.underlying67 rfl hF.2.len) ?_
  refine TL.v (Want.plain rfl) rfl rfl (PV.add rfl rfl rfl (wrap_i64 (by omega) (by omega))) ?_
  refine TL.v (Want.plain rfl) rfl rfl (PV.gtr rfl rfl rfl) ?_
  refine TL.dec (fun h15 => ?_) (fun h15 => ?_)
  · skip
    refine TL.nil ?_
    refine TE.next hK5 ?_
    clear hK5
    refine TC.yes rfl ?_
    refine TC.seq (fun K6 hK6 => ?_)
    refine TC.region ?_
    refine TL.v (Want.plain rfl) rfl rfl (PV.assign rfl rfl) ?_
    refine TL.nil ?_
    refine TE.next hK6 ?_
    clear hK6
    refine TC.ret ?_
    refine TE.passRet ?_
    clear hK4
    refine TE.weak (Sub.refl _) (fun _ s => sep_keep [] rfl s) ?_
    refine TE.ret1 rfl rfl ?_
    first | exact ⟨rfl, rfl⟩ | exact ⟨congrArg Value.bool (decide_eq_true (encOps_app la lb)), rfl⟩
  · skip
    refine TL.nil ?_
    refine TE.next hK5 ?_
    clear hK5
    refine TC.no rfl ?_
    refine TC.skip ?_
    refine TE.next hK4 ?_
    clear hK4
    refine TC.seq (fun K7 hK7 => ?_)
    refine TC.region ?_
    refine TL.v (Want.plain rfl) rfl rfl (PV.move rfl rfl) ?_
    refine TL.callR (A := []) (B := []) (Want.plain rfl) rfl rfl rfl nm27 rfl (opsEncode_does x la (by omega)) (fun _ s => s) (fun _ d _ => IsL.more EF.more hF.1 d) (fun vR HR hR => ?_)
    obtain ⟨_, rfl, rfl⟩ := hR
    revert vR
    intro ue1
    change TL _ _ _ _ _ _ _ _ _ [ownB ue1 (encOps la) 5]
    refine TL.ownLen 0 rfl rfl (fun hlue1 _ => ?_)
    refine TL.v (Want.plain rfl) rfl rfl (PV.move rfl rfl) ?_
    refine TL.callR (A := []) (B := [ownB ue1 (encOps la) 5]) (Want.plain rfl) rfl rfl rfl nm27 rfl (opsEncode_does y lb (by omega)) (fun _ s => s) (fun _ d _ => IsL.more EF.more hF.2 d) (fun vR HR hR => ?_)
    obtain ⟨_, rfl, rfl⟩ := hR
    revert vR
    intro ue2
    change TL _ _ _ _ _ _ _ _ _ [ownB ue2 (encOps lb) 5, ownB ue1 (encOps la) 5]
    refine TL.ownLen 0 rfl rfl (fun hlue2 _ => ?_)
    refine TL.v (Want.plain rfl) rfl rfl (PV.assign rfl rfl) ?_
    refine TL.v (Want.plain rfl) rfl rfl (PV.assign rfl rfl) ?_
    refine TL.nil ?_
    refine TE.next hK7 ?_
    clear hK7
    refine TC.seq (fun K8 hK8 => ?_)
    refine TC.region ?_
    refine TL.v (Want.plain rfl) rfl rfl (PV.move rfl rfl) ?_
    refine TL.ownNil 5 (fun on => ?_)
    clear on
    change TL _ _ _ _ _ _ _ _ _ [ownB (.slice none 0 0) ([]) 5, ownB ue2 (encOps lb) 5, ownB ue1 (encOps la) 5]
    refine TL.append (k := 0) (news := u8s (encOps la)) (nn' := (encOps la : List UInt8).length) (xs' := u8s (encOps la)) (Want.plain rfl) rfl rfl rfl Try.underlying27 in5 rfl rfl rfl rfl rfl rfl (fun _ s => Src.own 2 rfl rfl s) (u8s_one _) (by simp only [maxLen]; first | (rw [encOps_len]; simp; omega) | (rw [encOps_len, encOps_len]; omega)) (by first | (rw [encOps_len, encOps_len]; omega) | (rw [encOps_len]; simp; omega)) (by simp) (List.nil_append _) (fun v21 ov21 => ?_)
    change TL _ _ _ _ _ _ _ _ _ [ownB v21 (encOps la) 5, ownB ue2 (encOps lb) 5, ownB ue1 (encOps la) 5]
    refine TL.v (Want.plain rfl) rfl rfl (PV.move rfl rfl) ?_
    refine TL.append (k := 0) (news := u8s (encOps lb)) (nn' := (encOps la ++ encOps lb : List UInt8).length) (xs' := u8s (encOps la ++ encOps lb)) (Want.plain rfl) rfl rfl rfl Try.underlying27 in5 rfl rfl rfl rfl rfl rfl (fun _ s => Src.own 1 rfl rfl s) (u8s_one _) (by simp only [maxLen]; first | (rw [encOps_len]; simp; omega) | (rw [encOps_len, encOps_len]; omega)) (by first | (rw [encOps_len, encOps_len]; omega) | (rw [encOps_len]; simp; omega)) (by simp) (u8s_append _ _).symm (fun v23 ov23 => ?_)
    change TL _ _ _ _ _ _ _ _ _ [ownB v23 (encOps la ++ encOps lb) 5, ownB ue2 (encOps lb) 5, ownB ue1 (encOps la) 5]
    refine TL.callR (A := []) (B := [ownB v23 (encOps la ++ encOps lb) 5, ownB ue2 (encOps lb) 5, ownB ue1 (encOps la) 5]) (Want.plain rfl) rfl rfl rfl nm25 rfl (opsDecode_is (bs := (encOps la ++ encOps lb)) (by simp only [List.length_append, encOps_len]; omega) rfl) (fun _ s => s) (isB_own 0 rfl rfl) (fun vR HR hR => ?_)
    obtain ⟨_, rfl, rfl⟩ := hR
    revert vR
    intro ud1
    change TL _ _ _ _ _ _ _ _ _ [own ud1 ((opsP (encOps la ++ encOps lb)).length) (ints (List.flatMap OpT.flat (opsP (encOps la ++ encOps lb)))) 70 11, ownB v23 (encOps la ++ encOps lb) 5, ownB ue2 (encOps lb) 5, ownB ue1 (encOps la) 5]
    refine TL.ownLen 0 rfl rfl (fun hlud1 _ => ?_)
    refine TL.ownForm 0 rfl rfl (fun a7 cap7 hv7 hc7 => ?_)
    subst hv7
    change TL _ _ _ _ _ _ _ _ _ [own (.slice a7 (opsP (encOps la ++ encOps lb)).length cap7) ((opsP (encOps la ++ encOps lb)).length) (ints (List.flatMap OpT.flat (opsP (encOps la ++ encOps lb)))) 70 11, ownB v23 (encOps la ++ encOps lb) 5, ownB ue2 (encOps lb) 5, ownB ue1 (encOps la) 5]
    have hcnt : (opsP (encOps la ++ encOps lb)).length = la.length + lb.length := by rw [ops_joins, List.length_append, ops_count, ops_count]
    have hcut : la.length ≤ (opsP (encOps la ++ encOps lb)).length := by omega
    refine TL.v (Want.plain rfl) rfl rfl (PV.assign rfl rfl) ?_
    refine TL.nil ?_
    refine TE.next hK8 ?_
    clear hK8
    refine TC.seq (fun K9 hK9 => ?_)
    refine TC.draw (fun w => Frm F w ∧ True) mixed rfl (fun _ s => ⟨Frm.of s, trivial⟩) ?_
    refine TD.take (i := 0) rfl (by kernel_rfl) (by kernel_rfl) (by kernel_rfl) (fun _ _ _ _ h => h) (Want.plain rfl) rfl rfl (PV.move rfl rfl) ?_
    refine TD.take (i := 1) rfl (by kernel_rfl) (by kernel_rfl) (by kernel_rfl) (fun _ _ _ _ h => h) (Want.plain rfl) rfl rfl (PV.lenV rfl Try.underlying67 rfl ⟨_, _, rfl⟩) ?_
    refine TD.take (i := 2) rfl (by kernel_rfl) (by kernel_rfl) (by kernel_rfl) (fun _ _ _ _ h => h) (Want.plain rfl) rfl rfl (PV.move rfl rfl) ?_
    refine TD.take (i := 3) rfl (by kernel_rfl) (by kernel_rfl) (by kernel_rfl) (fun _ _ _ _ h => h) (Want.plain rfl) rfl rfl (PV.lenV rfl Try.underlying67 rfl hF.1.len) ?_
    refine TD.take (i := 4) rfl (by kernel_rfl) (by kernel_rfl) (by kernel_rfl) (fun _ _ _ _ h => h) (Want.plain rfl) rfl rfl (PV.move rfl rfl) ?_
    refine TD.take (i := 5) rfl (by kernel_rfl) (by kernel_rfl) (by kernel_rfl) (fun _ _ _ _ h => h) (Want.plain rfl) rfl rfl (PV.lenV rfl Try.underlying67 rfl hF.2.len) ?_
    refine TD.take (i := 6) rfl (by kernel_rfl) (by kernel_rfl) (by kernel_rfl) (fun _ _ _ _ h => h) (Want.plain rfl) rfl rfl (PV.add rfl rfl rfl (wrap_i64 (by omega) (by omega))) ?_
    refine TD.take (i := 7) rfl (by kernel_rfl) (by kernel_rfl) (by kernel_rfl) (fun _ _ _ _ h => h) (Want.plain rfl) rfl rfl (PV.eql rfl rfl rfl) ?_
    refine TD.dec (fun h32 => ?_) (fun h32 => ?_)
    · skip
      refine TD.take (i := 8) rfl (by kernel_rfl) (by kernel_rfl) (by kernel_rfl) (fun _ _ _ _ h => h) (Want.plain rfl) rfl rfl (PV.move rfl rfl) ?_
      refine TD.take (i := 9) rfl (by kernel_rfl) (by kernel_rfl) (by kernel_rfl) (fun _ _ _ _ h => h) (Want.met rfl rfl rfl) rfl rfl (PV.move rfl rfl) ?_
      refine TD.take (i := 10) rfl (by kernel_rfl) (by kernel_rfl) (by kernel_rfl) (fun _ _ _ _ h => h) (Want.met rfl rfl rfl) rfl rfl (PV.move rfl rfl) ?_
      refine TD.take (i := 11) rfl (by kernel_rfl) (by kernel_rfl) (by kernel_rfl) (fun _ _ _ _ h => h) (Want.met rfl rfl rfl) rfl rfl (PV.lenV rfl Try.underlying67 rfl hF.1.len) ?_
      refine TD.take (i := 12) rfl (by kernel_rfl) (by kernel_rfl) (by kernel_rfl) (fun _ _ _ _ h => h) (Want.met rfl rfl rfl) rfl rfl (PV.sliceF (hi := la.length) rfl Try.underlying67 sz70 rfl rfl rfl (by omega)) ?_
      refine TD.take (i := 15) rfl (by kernel_rfl) (by kernel_rfl) (by kernel_rfl) (fun _ _ _ _ h => h) (Want.met rfl rfl rfl) rfl rfl (PV.move rfl rfl) ?_
      refine TD.all [13] (by kernel_rfl) rfl ?_
      refine AllT.cons rfl ?_ ?_
      · skip
        refine TL.callR (A := []) (B := [own (.slice a7 (opsP (encOps la ++ encOps lb)).length cap7) ((opsP (encOps la ++ encOps lb)).length) (ints (List.flatMap OpT.flat (opsP (encOps la ++ encOps lb)))) 70 11, ownB v23 (encOps la ++ encOps lb) 5, ownB ue2 (encOps lb) 5, ownB ue1 (encOps la) 5]) (Want.met rfl rfl rfl) rfl rfl rfl nm27 rfl (opsEncode_does (.slice a7 la.length cap7) ((opsP (encOps la ++ encOps lb)).take la.length) (by rw [ops_first, ops_count]; omega)) (fun _ s => s) (fun g d s => IsL.first (isF_own OpT.flat_length 0 rfl rfl g d s) hcut) (fun vR HR hR => ?_)
        obtain ⟨_, rfl, rfl⟩ := hR
        revert vR
        intro ue3
        change TL _ _ _ _ _ _ _ _ _ [ownB ue3 (encOps ((opsP (encOps la ++ encOps lb)).take la.length)) 5, own (.slice a7 (opsP (encOps la ++ encOps lb)).length cap7) ((opsP (encOps la ++ encOps lb)).length) (ints (List.flatMap OpT.flat (opsP (encOps la ++ encOps lb)))) 70 11, ownB v23 (encOps la ++ encOps lb) 5, ownB ue2 (encOps lb) 5, ownB ue1 (encOps la) 5]
        refine TL.ownLen 0 rfl rfl (fun hlue3 _ => ?_)
        refine TL.nil ?_
        refine TE.draw (fun _ s => ⟨Frm.of s, trivial⟩) ?_
        refine TD.more (Hb ue3 (encOps ((opsP (encOps la ++ encOps lb)).take la.length))) (fun _ s => s.hb 0 rfl rfl) ?_
        refine TD.take (i := 14) rfl (by kernel_rfl) (by kernel_rfl) (by kernel_rfl) (fun _ _ _ _ h => h) (Want.met rfl rfl rfl) rfl rfl (PV.bytesStr (l := encOps ((opsP (encOps la ++ encOps lb)).take la.length)) rfl Try.underlying27 Try.underlying5 Try.underlying9 rfl (Hb.src (fun _ h => h.1))) ?_
        refine TD.all [16] (by kernel_rfl) rfl ?_
        refine AllT.cons rfl ?_ ?_
        · skip
          refine TL.callR (A := []) (B := [ownB ue3 (encOps ((opsP (encOps la ++ encOps lb)).take la.length)) 5, own (.slice a7 (opsP (encOps la ++ encOps lb)).length cap7) ((opsP (encOps la ++ encOps lb)).length) (ints (List.flatMap OpT.flat (opsP (encOps la ++ encOps lb)))) 70 11, ownB v23 (encOps la ++ encOps lb) 5, ownB ue2 (encOps lb) 5, ownB ue1 (encOps la) 5]) (Want.met rfl rfl rfl) rfl rfl rfl nm25 rfl (opsDecode_is (bs := (encOps la)) (by rw [encOps_len]; omega) rfl) (fun _ s => s) (isB_own 4 rfl rfl) (fun vR HR hR => ?_)
          obtain ⟨_, rfl, rfl⟩ := hR
          revert vR
          intro ud2
          change TL _ _ _ _ _ _ _ _ _ [own ud2 ((opsP (encOps la)).length) (ints (List.flatMap OpT.flat (opsP (encOps la)))) 70 11, ownB ue3 (encOps ((opsP (encOps la ++ encOps lb)).take la.length)) 5, own (.slice a7 (opsP (encOps la ++ encOps lb)).length cap7) ((opsP (encOps la ++ encOps lb)).length) (ints (List.flatMap OpT.flat (opsP (encOps la ++ encOps lb)))) 70 11, ownB v23 (encOps la ++ encOps lb) 5, ownB ue2 (encOps lb) 5, ownB ue1 (encOps la) 5]
          refine TL.ownLen 0 rfl rfl (fun hlud2 _ => ?_)
          refine TL.nil ?_
          refine TE.draw (fun _ s => ⟨s.hb 1 rfl rfl, ⟨Frm.of s, trivial⟩⟩) ?_
          refine TD.all [17] (by kernel_rfl) rfl ?_
          refine AllT.cons rfl ?_ ?_
          · skip
            refine TL.callR (A := []) (B := [own ud2 ((opsP (encOps la)).length) (ints (List.flatMap OpT.flat (opsP (encOps la)))) 70 11, ownB ue3 (encOps ((opsP (encOps la ++ encOps lb)).take la.length)) 5, own (.slice a7 (opsP (encOps la ++ encOps lb)).length cap7) ((opsP (encOps la ++ encOps lb)).length) (ints (List.flatMap OpT.flat (opsP (encOps la ++ encOps lb)))) 70 11, ownB v23 (encOps la ++ encOps lb) 5, ownB ue2 (encOps lb) 5, ownB ue1 (encOps la) 5]) (Want.met rfl rfl rfl) rfl rfl rfl nm27 rfl (opsEncode_does ud2 (opsP (encOps la)) (by rw [ops_count]; omega)) (fun _ s => s) (isF_own OpT.flat_length 0 rfl rfl) (fun vR HR hR => ?_)
            obtain ⟨_, rfl, rfl⟩ := hR
            revert vR
            intro ue4
            change TL _ _ _ _ _ _ _ _ _ [ownB ue4 (encOps (opsP (encOps la))) 5, own ud2 ((opsP (encOps la)).length) (ints (List.flatMap OpT.flat (opsP (encOps la)))) 70 11, ownB ue3 (encOps ((opsP (encOps la ++ encOps lb)).take la.length)) 5, own (.slice a7 (opsP (encOps la ++ encOps lb)).length cap7) ((opsP (encOps la ++ encOps lb)).length) (ints (List.flatMap OpT.flat (opsP (encOps la ++ encOps lb)))) 70 11, ownB v23 (encOps la ++ encOps lb) 5, ownB ue2 (encOps lb) 5, ownB ue1 (encOps la) 5]
            refine TL.ownLen 0 rfl rfl (fun hlue4 _ => ?_)
            refine TL.nil ?_
            refine TE.draw (fun _ s => ⟨s.hb 2 rfl rfl, ⟨Frm.of s, trivial⟩⟩) ?_
            refine TD.more (Hb ue4 (encOps (opsP (encOps la)))) (fun _ s => s.hb 0 rfl rfl) ?_
            refine TD.take (i := 18) rfl (by kernel_rfl) (by kernel_rfl) (by kernel_rfl) (fun _ _ _ _ h => h) (Want.met rfl rfl rfl) rfl rfl (PV.bytesStr (l := encOps (opsP (encOps la))) rfl Try.underlying27 Try.underlying5 Try.underlying9 rfl (Hb.src (fun _ h => h.1))) ?_
            refine TD.take (i := 19) rfl (by kernel_rfl) (by kernel_rfl) (by kernel_rfl) (fun _ _ _ _ h => h) (Want.met rfl rfl rfl) rfl rfl (PV.strEql (a := encOps ((opsP (encOps la ++ encOps lb)).take la.length)) (b := encOps (opsP (encOps la))) rfl rfl rfl) ?_
            refine TD.dec (fun h44 => ?_) (fun h44 => ?_)
            · skip
              refine TD.take (i := 20) rfl (by kernel_rfl) (by kernel_rfl) (by kernel_rfl) (fun _ _ _ _ h => h) (Want.plain rfl) rfl rfl (PV.pick rfl rfl rfl) ?_
              refine TD.take (i := 21) rfl (by kernel_rfl) (by kernel_rfl) (by kernel_rfl) (fun _ _ _ _ h => h) (Want.plain rfl) rfl rfl (PV.move rfl rfl) ?_
              refine TD.all [22] (by kernel_rfl) rfl ?_
              refine AllT.cons rfl ?_ ?_
              · skip
                refine TL.callR (A := []) (B := [ownB ue4 (encOps (opsP (encOps la))) 5, own ud2 ((opsP (encOps la)).length) (ints (List.flatMap OpT.flat (opsP (encOps la)))) 70 11, ownB ue3 (encOps ((opsP (encOps la ++ encOps lb)).take la.length)) 5, own (.slice a7 (opsP (encOps la ++ encOps lb)).length cap7) ((opsP (encOps la ++ encOps lb)).length) (ints (List.flatMap OpT.flat (opsP (encOps la ++ encOps lb)))) 70 11, ownB v23 (encOps la ++ encOps lb) 5, ownB ue2 (encOps lb) 5, ownB ue1 (encOps la) 5]) (Want.met rfl rfl rfl) rfl rfl rfl nm25 rfl (opsDecode_is (bs := ([])) (by simp) rfl) (fun _ s => s) (fun _ _ _ => .inl ⟨rfl, rfl⟩) (fun vR HR hR => ?_)
                obtain ⟨_, rfl, rfl⟩ := hR
                revert vR
                intro ud3
                change TL _ _ _ _ _ _ _ _ _ [own ud3 (([]).length) (ints (List.flatMap OpT.flat ([]))) 70 11, ownB ue4 (encOps (opsP (encOps la))) 5, own ud2 ((opsP (encOps la)).length) (ints (List.flatMap OpT.flat (opsP (encOps la)))) 70 11, ownB ue3 (encOps ((opsP (encOps la ++ encOps lb)).take la.length)) 5, own (.slice a7 (opsP (encOps la ++ encOps lb)).length cap7) ((opsP (encOps la ++ encOps lb)).length) (ints (List.flatMap OpT.flat (opsP (encOps la ++ encOps lb)))) 70 11, ownB v23 (encOps la ++ encOps lb) 5, ownB ue2 (encOps lb) 5, ownB ue1 (encOps la) 5]
                refine TL.ownLen 0 rfl rfl (fun hlud3 _ => ?_)
                refine TL.nil ?_
                refine TE.draw (fun _ s => ⟨s.hb 1 rfl rfl, ⟨s.hb 3 rfl rfl, ⟨Frm.of s, trivial⟩⟩⟩) ?_
                refine TD.take (i := 23) rfl (by kernel_rfl) (by kernel_rfl) (by kernel_rfl) (fun _ _ _ _ h => h) (Want.met rfl rfl rfl) rfl rfl (PV.lenV rfl Try.underlying67 rfl hlud3) ?_
                refine TD.take (i := 24) rfl (by kernel_rfl) (by kernel_rfl) (by kernel_rfl) (fun _ _ _ _ h => h) (Want.met rfl rfl rfl) rfl rfl (PV.eql rfl rfl rfl) ?_
                refine TD.dec (fun h49 => ?_) (fun h49 => ?_)
                · skip
                  refine TD.take (i := 25) rfl (by kernel_rfl) (by kernel_rfl) (by kernel_rfl) (fun _ _ _ _ h => h) (Want.plain rfl) rfl rfl (PV.pick rfl rfl rfl) ?_
                  refine TD.take (i := 26) rfl (by kernel_rfl) (by kernel_rfl) (by kernel_rfl) (fun _ _ _ _ h => h) (Want.plain rfl) rfl rfl (PV.move rfl rfl) ?_
                  refine TD.take (i := 27) rfl (by kernel_rfl) (by kernel_rfl) (by kernel_rfl) (fun _ _ _ _ h => h) (Want.met rfl rfl rfl) rfl rfl (PV.move rfl rfl) ?_
                  refine TD.take (i := 29) rfl (by kernel_rfl) (by kernel_rfl) (by kernel_rfl) (fun _ _ _ _ h => h) (Want.met rfl rfl rfl) rfl rfl (PV.move rfl rfl) ?_
                  refine TD.take (i := 33) rfl (by kernel_rfl) (by kernel_rfl) (by kernel_rfl) (fun _ _ _ _ h => h) (Want.met rfl rfl rfl) rfl rfl (PV.move rfl rfl) ?_
                  refine TD.take (i := 35) rfl (by kernel_rfl) (by kernel_rfl) (by kernel_rfl) (fun _ _ _ _ h => h) (Want.met rfl rfl rfl) rfl rfl (PV.move rfl rfl) ?_
                  refine TD.all [28, 34, 36] (by kernel_rfl) rfl ?_
                  refine AllT.cons rfl ?_ ?_
                  · skip
                    refine TL.ownNilI 70 11 (fun on => ?_)
                    clear on
                    change TL _ _ _ _ _ _ _ _ _ [own (.slice none 0 0) (([] : List OpT).length) (ints (List.flatMap OpT.flat ([] : List OpT))) 70 11, own ud3 (([]).length) (ints (List.flatMap OpT.flat ([]))) 70 11, ownB ue4 (encOps (opsP (encOps la))) 5, own ud2 ((opsP (encOps la)).length) (ints (List.flatMap OpT.flat (opsP (encOps la)))) 70 11, ownB ue3 (encOps ((opsP (encOps la ++ encOps lb)).take la.length)) 5, own (.slice a7 (opsP (encOps la ++ encOps lb)).length cap7) ((opsP (encOps la ++ encOps lb)).length) (ints (List.flatMap OpT.flat (opsP (encOps la ++ encOps lb)))) 70 11, ownB v23 (encOps la ++ encOps lb) 5, ownB ue2 (encOps lb) 5, ownB ue1 (encOps la) 5]
                    refine TL.append (k := 0) (news := ints (List.flatMap OpT.flat la)) (nn' := la.length) (xs' := ints (List.flatMap OpT.flat la)) (Want.met rfl rfl rfl) rfl rfl rfl Try.underlying67 in70 rfl rfl rfl rfl rfl rfl (fun _ _ => IsL.src (by decide) OpT.flat_length hF.1 (fun _ h => Frm.of h)) (ints_one _) (by first | (simp only [maxLen, List.length_nil]; omega) | (simp only [maxLen]; omega)) (by first | omega | (simp only [List.length_nil]; omega)) (by simp) (by simp [ints]) (fun v53 ov53 => ?_)
                    change TL _ _ _ _ _ _ _ _ _ [own v53 (la.length) (ints (List.flatMap OpT.flat la)) 70 11, own ud3 (([]).length) (ints (List.flatMap OpT.flat ([]))) 70 11, ownB ue4 (encOps (opsP (encOps la))) 5, own ud2 ((opsP (encOps la)).length) (ints (List.flatMap OpT.flat (opsP (encOps la)))) 70 11, ownB ue3 (encOps ((opsP (encOps la ++ encOps lb)).take la.length)) 5, own (.slice a7 (opsP (encOps la ++ encOps lb)).length cap7) ((opsP (encOps la ++ encOps lb)).length) (ints (List.flatMap OpT.flat (opsP (encOps la ++ encOps lb)))) 70 11, ownB v23 (encOps la ++ encOps lb) 5, ownB ue2 (encOps lb) 5, ownB ue1 (encOps la) 5]
                    refine TL.nil ?_
                    refine TE.draw (fun _ s => ⟨s.hb 2 rfl rfl, ⟨s.hb 4 rfl rfl, ⟨Frm.of s, trivial⟩⟩⟩) ?_
                    refine TD.all [30, 34, 36] (by kernel_rfl) rfl ?_
                    refine AllT.cons rfl ?_ ?_
                    · skip
                      refine TL.append (k := 0) (news := ints (List.flatMap OpT.flat lb)) (nn' := (la ++ lb).length) (xs' := ints (List.flatMap OpT.flat (la ++ lb))) (Want.met rfl rfl rfl) rfl rfl rfl Try.underlying67 in70 rfl rfl rfl rfl rfl rfl (fun _ _ => IsL.src (by decide) OpT.flat_length hF.2 (fun _ h => Frm.of h)) (ints_one _) (by first | (simp only [maxLen, List.length_nil]; omega) | (simp only [maxLen]; omega)) (by first | omega | (simp only [List.length_nil]; omega)) (by simp) (by simp [ints]) (fun v55 ov55 => ?_)
                      change TL _ _ _ _ _ _ _ _ _ [own v55 ((la ++ lb).length) (ints (List.flatMap OpT.flat (la ++ lb))) 70 11, own ud3 (([]).length) (ints (List.flatMap OpT.flat ([]))) 70 11, ownB ue4 (encOps (opsP (encOps la))) 5, own ud2 ((opsP (encOps la)).length) (ints (List.flatMap OpT.flat (opsP (encOps la)))) 70 11, ownB ue3 (encOps ((opsP (encOps la ++ encOps lb)).take la.length)) 5, own (.slice a7 (opsP (encOps la ++ encOps lb)).length cap7) ((opsP (encOps la ++ encOps lb)).length) (ints (List.flatMap OpT.flat (opsP (encOps la ++ encOps lb)))) 70 11, ownB v23 (encOps la ++ encOps lb) 5, ownB ue2 (encOps lb) 5, ownB ue1 (encOps la) 5]
                      refine TL.nil ?_
                      refine TE.draw (fun _ s => ⟨s.hb 2 rfl rfl, ⟨s.hb 4 rfl rfl, ⟨Frm.of s, trivial⟩⟩⟩) ?_
                      refine TD.all [31, 34, 36] (by kernel_rfl) rfl ?_
                      refine AllT.cons rfl ?_ ?_
                      · skip
                        refine TL.callR (A := []) (B := [own v55 ((la ++ lb).length) (ints (List.flatMap OpT.flat (la ++ lb))) 70 11, own ud3 (([]).length) (ints (List.flatMap OpT.flat ([]))) 70 11, ownB ue4 (encOps (opsP (encOps la))) 5, own ud2 ((opsP (encOps la)).length) (ints (List.flatMap OpT.flat (opsP (encOps la)))) 70 11, ownB ue3 (encOps ((opsP (encOps la ++ encOps lb)).take la.length)) 5, own (.slice a7 (opsP (encOps la ++ encOps lb)).length cap7) ((opsP (encOps la ++ encOps lb)).length) (ints (List.flatMap OpT.flat (opsP (encOps la ++ encOps lb)))) 70 11, ownB v23 (encOps la ++ encOps lb) 5, ownB ue2 (encOps lb) 5, ownB ue1 (encOps la) 5]) (Want.met rfl rfl rfl) rfl rfl rfl nm27 rfl (opsEncode_does v55 (la ++ lb) (by simp only [List.length_append]; omega)) (fun _ s => s) (isF_own OpT.flat_length 0 rfl rfl) (fun vR HR hR => ?_)
                        obtain ⟨_, rfl, rfl⟩ := hR
                        revert vR
                        intro ue5
                        change TL _ _ _ _ _ _ _ _ _ [ownB ue5 (encOps (la ++ lb)) 5, own v55 ((la ++ lb).length) (ints (List.flatMap OpT.flat (la ++ lb))) 70 11, own ud3 (([]).length) (ints (List.flatMap OpT.flat ([]))) 70 11, ownB ue4 (encOps (opsP (encOps la))) 5, own ud2 ((opsP (encOps la)).length) (ints (List.flatMap OpT.flat (opsP (encOps la)))) 70 11, ownB ue3 (encOps ((opsP (encOps la ++ encOps lb)).take la.length)) 5, own (.slice a7 (opsP (encOps la ++ encOps lb)).length cap7) ((opsP (encOps la ++ encOps lb)).length) (ints (List.flatMap OpT.flat (opsP (encOps la ++ encOps lb)))) 70 11, ownB v23 (encOps la ++ encOps lb) 5, ownB ue2 (encOps lb) 5, ownB ue1 (encOps la) 5]
                        refine TL.ownLen 0 rfl rfl (fun hlue5 _ => ?_)
                        refine TL.nil ?_
                        refine TE.draw (fun _ s => ⟨s.hb 3 rfl rfl, ⟨s.hb 5 rfl rfl, ⟨Frm.of s, trivial⟩⟩⟩) ?_
                        refine TD.more (Hb ue5 (encOps (la ++ lb))) (fun _ s => s.hb 0 rfl rfl) ?_
                        refine TD.take (i := 32) rfl (by kernel_rfl) (by kernel_rfl) (by kernel_rfl) (fun _ _ _ _ h => h) (Want.met rfl rfl rfl) rfl rfl (PV.bytesStr (l := encOps (la ++ lb)) rfl Try.underlying27 Try.underlying5 Try.underlying9 rfl (Hb.src (fun _ h => h.1))) ?_
                        refine TD.all [34, 36] (by kernel_rfl) rfl ?_
                        refine AllT.cons rfl ?_ ?_
                        · skip
                          refine TL.v (Want.met rfl rfl rfl) rfl rfl (PV.bytesStr (l := encOps la) rfl Try.underlying27 Try.underlying5 Try.underlying9 rfl (fun _ s => Src.own 9 rfl rfl s)) ?_
                          refine TL.nil ?_
                          refine TE.draw (fun _ s => ⟨s.hb 0 rfl rfl, ⟨s.hb 3 rfl rfl, ⟨s.hb 5 rfl rfl, ⟨Frm.of s, trivial⟩⟩⟩⟩) ?_
                          refine TD.all [36] (by kernel_rfl) rfl ?_
                          refine AllT.cons rfl ?_ ?_
                          · skip
                            refine TL.v (Want.met rfl rfl rfl) rfl rfl (PV.bytesStr (l := encOps lb) rfl Try.underlying27 Try.underlying5 Try.underlying9 rfl (fun _ s => Src.own 8 rfl rfl s)) ?_
                            refine TL.nil ?_
                            refine TE.draw (fun _ s => ⟨s.hb 0 rfl rfl, ⟨s.hb 3 rfl rfl, ⟨s.hb 5 rfl rfl, ⟨Frm.of s, trivial⟩⟩⟩⟩) ?_
                            refine TD.take (i := 37) rfl (by kernel_rfl) (by kernel_rfl) (by kernel_rfl) (fun _ _ _ _ h => h) (Want.met rfl rfl rfl) rfl rfl (PV.strAdd (a := encOps la) (b := encOps lb) rfl rfl rfl (by rw [encOps_len, encOps_len]; omega)) ?_
                            refine TD.take (i := 38) rfl (by kernel_rfl) (by kernel_rfl) (by kernel_rfl) (fun _ _ _ _ h => h) (Want.met rfl rfl rfl) rfl rfl (PV.strEql (a := encOps (la ++ lb)) (b := encOps la ++ encOps lb) rfl rfl rfl) ?_
                            refine TD.take (i := 39) rfl (by kernel_rfl) (by kernel_rfl) (by kernel_rfl) (fun _ _ _ _ h => h) (Want.plain rfl) rfl rfl (PV.pick rfl rfl rfl) ?_
                            refine TD.take (i := 40) rfl (by kernel_rfl) (by kernel_rfl) (by kernel_rfl) (fun _ _ _ _ h => h) (Want.plain rfl) rfl rfl (PV.assign rfl rfl) ?_
                            refine TD.done (by kernel_rfl) ?_
                            refine TE.next hK9 ?_
                            clear hK9
                            refine TC.ret ?_
                            refine TE.weak (Sub.refl _) (fun _ s => sep_keep [] rfl s) ?_
                            refine TE.ret1 rfl rfl ?_
                            first | exact ⟨rfl, rfl⟩ | exact ⟨congrArg Value.bool (decide_eq_true (encOps_app la lb)), rfl⟩
                          exact AllT.nil
                        refine AllT.cons rfl ?_ ?_
                        · skip
                          refine TL.v (Want.met rfl rfl rfl) rfl rfl (PV.bytesStr (l := encOps lb) rfl Try.underlying27 Try.underlying5 Try.underlying9 rfl (fun _ s => Src.own 8 rfl rfl s)) ?_
                          refine TL.nil ?_
                          refine TE.draw (fun _ s => ⟨s.hb 0 rfl rfl, ⟨s.hb 3 rfl rfl, ⟨s.hb 5 rfl rfl, ⟨Frm.of s, trivial⟩⟩⟩⟩) ?_
                          refine TD.all [34] (by kernel_rfl) rfl ?_
                          refine AllT.cons rfl ?_ ?_
                          · skip
                            refine TL.v (Want.met rfl rfl rfl) rfl rfl (PV.bytesStr (l := encOps la) rfl Try.underlying27 Try.underlying5 Try.underlying9 rfl (fun _ s => Src.own 9 rfl rfl s)) ?_
                            refine TL.nil ?_
                            refine TE.draw (fun _ s => ⟨s.hb 0 rfl rfl, ⟨s.hb 3 rfl rfl, ⟨s.hb 5 rfl rfl, ⟨Frm.of s, trivial⟩⟩⟩⟩) ?_
                            refine TD.take (i := 37) rfl (by kernel_rfl) (by kernel_rfl) (by kernel_rfl) (fun _ _ _ _ h => h) (Want.met rfl rfl rfl) rfl rfl (PV.strAdd (a := encOps la) (b := encOps lb) rfl rfl rfl (by rw [encOps_len, encOps_len]; omega)) ?_
                            refine TD.take (i := 38) rfl (by kernel_rfl) (by kernel_rfl) (by kernel_rfl) (fun _ _ _ _ h => h) (Want.met rfl rfl rfl) rfl rfl (PV.strEql (a := encOps (la ++ lb)) (b := encOps la ++ encOps lb) rfl rfl rfl) ?_
                            refine TD.take (i := 39) rfl (by kernel_rfl) (by kernel_rfl) (by kernel_rfl) (fun _ _ _ _ h => h) (Want.plain rfl) rfl rfl (PV.pick rfl rfl rfl) ?_
                            refine TD.take (i := 40) rfl (by kernel_rfl) (by kernel_rfl) (by kernel_rfl) (fun _ _ _ _ h => h) (Want.plain rfl) rfl rfl (PV.assign rfl rfl) ?_
                            refine TD.done (by kernel_rfl) ?_
                            refine TE.next hK9 ?_
                            clear hK9
                            refine TC.ret ?_
                            refine TE.weak (Sub.refl _) (fun _ s => sep_keep [] rfl s) ?_
                            refine TE.ret1 rfl rfl ?_
                            first | exact ⟨rfl, rfl⟩ | exact ⟨congrArg Value.bool (decide_eq_true (encOps_app la lb)), rfl⟩
                          exact AllT.nil
                        exact AllT.nil
                      refine AllT.cons rfl ?_ ?_
                      · skip
                        refine TL.v (Want.met rfl rfl rfl) rfl rfl (PV.bytesStr (l := encOps la) rfl Try.underlying27 Try.underlying5 Try.underlying9 rfl (fun _ s => Src.own 8 rfl rfl s)) ?_
                        refine TL.nil ?_
                        refine TE.draw (fun _ s => ⟨s.hb 2 rfl rfl, ⟨s.hb 4 rfl rfl, ⟨Frm.of s, trivial⟩⟩⟩) ?_
                        refine TD.all [31, 36] (by kernel_rfl) rfl ?_
                        refine AllT.cons rfl ?_ ?_
                        · skip
                          refine TL.callR (A := []) (B := [own v55 ((la ++ lb).length) (ints (List.flatMap OpT.flat (la ++ lb))) 70 11, own ud3 (([]).length) (ints (List.flatMap OpT.flat ([]))) 70 11, ownB ue4 (encOps (opsP (encOps la))) 5, own ud2 ((opsP (encOps la)).length) (ints (List.flatMap OpT.flat (opsP (encOps la)))) 70 11, ownB ue3 (encOps ((opsP (encOps la ++ encOps lb)).take la.length)) 5, own (.slice a7 (opsP (encOps la ++ encOps lb)).length cap7) ((opsP (encOps la ++ encOps lb)).length) (ints (List.flatMap OpT.flat (opsP (encOps la ++ encOps lb)))) 70 11, ownB v23 (encOps la ++ encOps lb) 5, ownB ue2 (encOps lb) 5, ownB ue1 (encOps la) 5]) (Want.met rfl rfl rfl) rfl rfl rfl nm27 rfl (opsEncode_does v55 (la ++ lb) (by simp only [List.length_append]; omega)) (fun _ s => s) (isF_own OpT.flat_length 0 rfl rfl) (fun vR HR hR => ?_)
                          obtain ⟨_, rfl, rfl⟩ := hR
                          revert vR
                          intro ue5
                          change TL _ _ _ _ _ _ _ _ _ [ownB ue5 (encOps (la ++ lb)) 5, own v55 ((la ++ lb).length) (ints (List.flatMap OpT.flat (la ++ lb))) 70 11, own ud3 (([]).length) (ints (List.flatMap OpT.flat ([]))) 70 11, ownB ue4 (encOps (opsP (encOps la))) 5, own ud2 ((opsP (encOps la)).length) (ints (List.flatMap OpT.flat (opsP (encOps la)))) 70 11, ownB ue3 (encOps ((opsP (encOps la ++ encOps lb)).take la.length)) 5, own (.slice a7 (opsP (encOps la ++ encOps lb)).length cap7) ((opsP (encOps la ++ encOps lb)).length) (ints (List.flatMap OpT.flat (opsP (encOps la ++ encOps lb)))) 70 11, ownB v23 (encOps la ++ encOps lb) 5, ownB ue2 (encOps lb) 5, ownB ue1 (encOps la) 5]
                          refine TL.ownLen 0 rfl rfl (fun hlue5 _ => ?_)
                          refine TL.nil ?_
                          refine TE.draw (fun _ s => ⟨s.hb 3 rfl rfl, ⟨s.hb 5 rfl rfl, ⟨Frm.of s, trivial⟩⟩⟩) ?_
                          refine TD.more (Hb ue5 (encOps (la ++ lb))) (fun _ s => s.hb 0 rfl rfl) ?_
                          refine TD.take (i := 32) rfl (by kernel_rfl) (by kernel_rfl) (by kernel_rfl) (fun _ _ _ _ h => h) (Want.met rfl rfl rfl) rfl rfl (PV.bytesStr (l := encOps (la ++ lb)) rfl Try.underlying27 Try.underlying5 Try.underlying9 rfl (Hb.src (fun _ h => h.1))) ?_
                          refine TD.all [36] (by kernel_rfl) rfl ?_
                          refine AllT.cons rfl ?_ ?_
                          · skip
                            refine TL.v (Want.met rfl rfl rfl) rfl rfl (PV.bytesStr (l := encOps lb) rfl Try.underlying27 Try.underlying5 Try.underlying9 rfl (fun _ s => Src.own 8 rfl rfl s)) ?_
                            refine TL.nil ?_
                            refine TE.draw (fun _ s => ⟨s.hb 0 rfl rfl, ⟨s.hb 3 rfl rfl, ⟨s.hb 5 rfl rfl, ⟨Frm.of s, trivial⟩⟩⟩⟩) ?_
                            refine TD.take (i := 37) rfl (by kernel_rfl) (by kernel_rfl) (by kernel_rfl) (fun _ _ _ _ h => h) (Want.met rfl rfl rfl) rfl rfl (PV.strAdd (a := encOps la) (b := encOps lb) rfl rfl rfl (by rw [encOps_len, encOps_len]; omega)) ?_
                            refine TD.take (i := 38) rfl (by kernel_rfl) (by kernel_rfl) (by kernel_rfl) (fun _ _ _ _ h => h) (Want.met rfl rfl rfl) rfl rfl (PV.strEql (a := encOps (la ++ lb)) (b := encOps la ++ encOps lb) rfl rfl rfl) ?_
                            refine TD.take (i := 39) rfl (by kernel_rfl) (by kernel_rfl) (by kernel_rfl) (fun _ _ _ _ h => h) (Want.plain rfl) rfl rfl (PV.pick rfl rfl rfl) ?_
                            refine TD.take (i := 40) rfl (by kernel_rfl) (by kernel_rfl) (by kernel_rfl) (fun _ _ _ _ h => h) (Want.plain rfl) rfl rfl (PV.assign rfl rfl) ?_
                            refine TD.done (by kernel_rfl) ?_
                            refine TE.next hK9 ?_
                            clear hK9
                            refine TC.ret ?_
                            refine TE.weak (Sub.refl _) (fun _ s => sep_keep [] rfl s) ?_
                            refine TE.ret1 rfl rfl ?_
                            first | exact ⟨rfl, rfl⟩ | exact ⟨congrArg Value.bool (decide_eq_true (encOps_app la lb)), rfl⟩
                          exact AllT.nil
                        refine AllT.cons rfl ?_ ?_
                        · skip
                          refine TL.v (Want.met rfl rfl rfl) rfl rfl (PV.bytesStr (l := encOps lb) rfl Try.underlying27 Try.underlying5 Try.underlying9 rfl (fun _ s => Src.own 7 rfl rfl s)) ?_
                          refine TL.nil ?_
                          refine TE.draw (fun _ s => ⟨s.hb 2 rfl rfl, ⟨s.hb 4 rfl rfl, ⟨Frm.of s, trivial⟩⟩⟩) ?_
                          refine TD.take (i := 37) rfl (by kernel_rfl) (by kernel_rfl) (by kernel_rfl) (fun _ _ _ _ h => h) (Want.met rfl rfl rfl) rfl rfl (PV.strAdd (a := encOps la) (b := encOps lb) rfl rfl rfl (by rw [encOps_len, encOps_len]; omega)) ?_
                          refine TD.all [31] (by kernel_rfl) rfl ?_
                          refine AllT.cons rfl ?_ ?_
                          · skip
                            refine TL.callR (A := []) (B := [own v55 ((la ++ lb).length) (ints (List.flatMap OpT.flat (la ++ lb))) 70 11, own ud3 (([]).length) (ints (List.flatMap OpT.flat ([]))) 70 11, ownB ue4 (encOps (opsP (encOps la))) 5, own ud2 ((opsP (encOps la)).length) (ints (List.flatMap OpT.flat (opsP (encOps la)))) 70 11, ownB ue3 (encOps ((opsP (encOps la ++ encOps lb)).take la.length)) 5, own (.slice a7 (opsP (encOps la ++ encOps lb)).length cap7) ((opsP (encOps la ++ encOps lb)).length) (ints (List.flatMap OpT.flat (opsP (encOps la ++ encOps lb)))) 70 11, ownB v23 (encOps la ++ encOps lb) 5, ownB ue2 (encOps lb) 5, ownB ue1 (encOps la) 5]) (Want.met rfl rfl rfl) rfl rfl rfl nm27 rfl (opsEncode_does v55 (la ++ lb) (by simp only [List.length_append]; omega)) (fun _ s => s) (isF_own OpT.flat_length 0 rfl rfl) (fun vR HR hR => ?_)
                            obtain ⟨_, rfl, rfl⟩ := hR
                            revert vR
                            intro ue5
                            change TL _ _ _ _ _ _ _ _ _ [ownB ue5 (encOps (la ++ lb)) 5, own v55 ((la ++ lb).length) (ints (List.flatMap OpT.flat (la ++ lb))) 70 11, own ud3 (([]).length) (ints (List.flatMap OpT.flat ([]))) 70 11, ownB ue4 (encOps (opsP (encOps la))) 5, own ud2 ((opsP (encOps la)).length) (ints (List.flatMap OpT.flat (opsP (encOps la)))) 70 11, ownB ue3 (encOps ((opsP (encOps la ++ encOps lb)).take la.length)) 5, own (.slice a7 (opsP (encOps la ++ encOps lb)).length cap7) ((opsP (encOps la ++ encOps lb)).length) (ints (List.flatMap OpT.flat (opsP (encOps la ++ encOps lb)))) 70 11, ownB v23 (encOps la ++ encOps lb) 5, ownB ue2 (encOps lb) 5, ownB ue1 (encOps la) 5]
                            refine TL.ownLen 0 rfl rfl (fun hlue5 _ => ?_)
                            refine TL.nil ?_
                            refine TE.draw (fun _ s => ⟨s.hb 3 rfl rfl, ⟨s.hb 5 rfl rfl, ⟨Frm.of s, trivial⟩⟩⟩) ?_
                            refine TD.more (Hb ue5 (encOps (la ++ lb))) (fun _ s => s.hb 0 rfl rfl) ?_
                            refine TD.take (i := 32) rfl (by kernel_rfl) (by kernel_rfl) (by kernel_rfl) (fun _ _ _ _ h => h) (Want.met rfl rfl rfl) rfl rfl (PV.bytesStr (l := encOps (la ++ lb)) rfl Try.underlying27 Try.underlying5 Try.underlying9 rfl (Hb.src (fun _ h => h.1))) ?_
                            refine TD.take (i := 38) rfl (by kernel_rfl) (by kernel_rfl) (by kernel_rfl) (fun _ _ _ _ h => h) (Want.met rfl rfl rfl) rfl rfl (PV.strEql (a := encOps (la ++ lb)) (b := encOps la ++ encOps lb) rfl rfl rfl) ?_
                            refine TD.take (i := 39) rfl (by kernel_rfl) (by kernel_rfl) (by kernel_rfl) (fun _ _ _ _ h => h) (Want.plain rfl) rfl rfl (PV.pick rfl rfl rfl) ?_
                            refine TD.take (i := 40) rfl (by kernel_rfl) (by kernel_rfl) (by kernel_rfl) (fun _ _ _ _ h => h) (Want.plain rfl) rfl rfl (PV.assign rfl rfl) ?_
                            refine TD.done (by kernel_rfl) ?_
                            refine TE.next hK9 ?_
                            clear hK9
                            refine TC.ret ?_
                            refine TE.weak (Sub.refl _) (fun _ s => sep_keep [] rfl s) ?_
                            refine TE.ret1 rfl rfl ?_
                            first | exact ⟨rfl, rfl⟩ | exact ⟨congrArg Value.bool (decide_eq_true (encOps_app la lb)), rfl⟩
                          exact AllT.nil
                        exact AllT.nil
                      refine AllT.cons rfl ?_ ?_
                      · skip
                        refine TL.v (Want.met rfl rfl rfl) rfl rfl (PV.bytesStr (l := encOps lb) rfl Try.underlying27 Try.underlying5 Try.underlying9 rfl (fun _ s => Src.own 7 rfl rfl s)) ?_
                        refine TL.nil ?_
                        refine TE.draw (fun _ s => ⟨s.hb 2 rfl rfl, ⟨s.hb 4 rfl rfl, ⟨Frm.of s, trivial⟩⟩⟩) ?_
                        refine TD.all [31, 34] (by kernel_rfl) rfl ?_
                        refine AllT.cons rfl ?_ ?_
                        · skip
                          refine TL.callR (A := []) (B := [own v55 ((la ++ lb).length) (ints (List.flatMap OpT.flat (la ++ lb))) 70 11, own ud3 (([]).length) (ints (List.flatMap OpT.flat ([]))) 70 11, ownB ue4 (encOps (opsP (encOps la))) 5, own ud2 ((opsP (encOps la)).length) (ints (List.flatMap OpT.flat (opsP (encOps la)))) 70 11, ownB ue3 (encOps ((opsP (encOps la ++ encOps lb)).take la.length)) 5, own (.slice a7 (opsP (encOps la ++ encOps lb)).length cap7) ((opsP (encOps la ++ encOps lb)).length) (ints (List.flatMap OpT.flat (opsP (encOps la ++ encOps lb)))) 70 11, ownB v23 (encOps la ++ encOps lb) 5, ownB ue2 (encOps lb) 5, ownB ue1 (encOps la) 5]) (Want.met rfl rfl rfl) rfl rfl rfl nm27 rfl (opsEncode_does v55 (la ++ lb) (by simp only [List.length_append]; omega)) (fun _ s => s) (isF_own OpT.flat_length 0 rfl rfl) (fun vR HR hR => ?_)
                          obtain ⟨_, rfl, rfl⟩ := hR
                          revert vR
                          intro ue5
                          change TL _ _ _ _ _ _ _ _ _ [ownB ue5 (encOps (la ++ lb)) 5, own v55 ((la ++ lb).length) (ints (List.flatMap OpT.flat (la ++ lb))) 70 11, own ud3 (([]).length) (ints (List.flatMap OpT.flat ([]))) 70 11, ownB ue4 (encOps (opsP (encOps la))) 5, own ud2 ((opsP (encOps la)).length) (ints (List.flatMap OpT.flat (opsP (encOps la)))) 70 11, ownB ue3 (encOps ((opsP (encOps la ++ encOps lb)).take la.length)) 5, own (.slice a7 (opsP (encOps la ++ encOps lb)).length cap7) ((opsP (encOps la ++ encOps lb)).length) (ints (List.flatMap OpT.flat (opsP (encOps la ++ encOps lb)))) 70 11, ownB v23 (encOps la ++ encOps lb) 5, ownB ue2 (encOps lb) 5, ownB ue1 (encOps la) 5]
                          refine TL.ownLen 0 rfl rfl (fun hlue5 _ => ?_)
                          refine TL.nil ?_
                          refine TE.draw (fun _ s => ⟨s.hb 3 rfl rfl, ⟨s.hb 5 rfl rfl, ⟨Frm.of s, trivial⟩⟩⟩) ?_
                          refine TD.more (Hb ue5 (encOps (la ++ lb))) (fun _ s => s.hb 0 rfl rfl) ?_
                          refine TD.take (i := 32) rfl (by kernel_rfl) (by kernel_rfl) (by kernel_rfl) (fun _ _ _ _ h => h) (Want.met rfl rfl rfl) rfl rfl (PV.bytesStr (l := encOps (la ++ lb)) rfl Try.underlying27 Try.underlying5 Try.underlying9 rfl (Hb.src (fun _ h => h.1))) ?_
                          refine TD.all [34] (by kernel_rfl) rfl ?_
                          refine AllT.cons rfl ?_ ?_
                          · skip
                            refine TL.v (Want.met rfl rfl rfl) rfl rfl (PV.bytesStr (l := encOps la) rfl Try.underlying27 Try.underlying5 Try.underlying9 rfl (fun _ s => Src.own 9 rfl rfl s)) ?_
                            refine TL.nil ?_
                            refine TE.draw (fun _ s => ⟨s.hb 0 rfl rfl, ⟨s.hb 3 rfl rfl, ⟨s.hb 5 rfl rfl, ⟨Frm.of s, trivial⟩⟩⟩⟩) ?_
                            refine TD.take (i := 37) rfl (by kernel_rfl) (by kernel_rfl) (by kernel_rfl) (fun _ _ _ _ h => h) (Want.met rfl rfl rfl) rfl rfl (PV.strAdd (a := encOps la) (b := encOps lb) rfl rfl rfl (by rw [encOps_len, encOps_len]; omega)) ?_
                            refine TD.take (i := 38) rfl (by kernel_rfl) (by kernel_rfl) (by kernel_rfl) (fun _ _ _ _ h => h) (Want.met rfl rfl rfl) rfl rfl (PV.strEql (a := encOps (la ++ lb)) (b := encOps la ++ encOps lb) rfl rfl rfl) ?_
                            refine TD.take (i := 39) rfl (by kernel_rfl) (by kernel_rfl) (by kernel_rfl) (fun _ _ _ _ h => h) (Want.plain rfl) rfl rfl (PV.pick rfl rfl rfl) ?_
                            refine TD.take (i := 40) rfl (by kernel_rfl) (by kernel_rfl) (by kernel_rfl) (fun _ _ _ _ h => h) (Want.plain rfl) rfl rfl (PV.assign rfl rfl) ?_
                            refine TD.done (by kernel_rfl) ?_
                            refine TE.next hK9 ?_
                            clear hK9
                            refine TC.ret ?_
                            refine TE.weak (Sub.refl _) (fun _ s => sep_keep [] rfl s) ?_
                            refine TE.ret1 rfl rfl ?_
                            first | exact ⟨rfl, rfl⟩ | exact ⟨congrArg Value.bool (decide_eq_true (encOps_app la lb)), rfl⟩
                          exact AllT.nil
                        refine AllT.cons rfl ?_ ?_
                        · skip
                          refine TL.v (Want.met rfl rfl rfl) rfl rfl (PV.bytesStr (l := encOps la) rfl Try.underlying27 Try.underlying5 Try.underlying9 rfl (fun _ s => Src.own 8 rfl rfl s)) ?_
                          refine TL.nil ?_
                          refine TE.draw (fun _ s => ⟨s.hb 2 rfl rfl, ⟨s.hb 4 rfl rfl, ⟨Frm.of s, trivial⟩⟩⟩) ?_
                          refine TD.take (i := 37) rfl (by kernel_rfl) (by kernel_rfl) (by kernel_rfl) (fun _ _ _ _ h => h) (Want.met rfl rfl rfl) rfl rfl (PV.strAdd (a := encOps la) (b := encOps lb) rfl rfl rfl (by rw [encOps_len, encOps_len]; omega)) ?_
                          refine TD.all [31] (by kernel_rfl) rfl ?_
                          refine AllT.cons rfl ?_ ?_
                          · skip
                            refine TL.callR (A := []) (B := [own v55 ((la ++ lb).length) (ints (List.flatMap OpT.flat (la ++ lb))) 70 11, own ud3 (([]).length) (ints (List.flatMap OpT.flat ([]))) 70 11, ownB ue4 (encOps (opsP (encOps la))) 5, own ud2 ((opsP (encOps la)).length) (ints (List.flatMap OpT.flat (opsP (encOps la)))) 70 11, ownB ue3 (encOps ((opsP (encOps la ++ encOps lb)).take la.length)) 5, own (.slice a7 (opsP (encOps la ++ encOps lb)).length cap7) ((opsP (encOps la ++ encOps lb)).length) (ints (List.flatMap OpT.flat (opsP (encOps la ++ encOps lb)))) 70 11, ownB v23 (encOps la ++ encOps lb) 5, ownB ue2 (encOps lb) 5, ownB ue1 (encOps la) 5]) (Want.met rfl rfl rfl) rfl rfl rfl nm27 rfl (opsEncode_does v55 (la ++ lb) (by simp only [List.length_append]; omega)) (fun _ s => s) (isF_own OpT.flat_length 0 rfl rfl) (fun vR HR hR => ?_)
                            obtain ⟨_, rfl, rfl⟩ := hR
                            revert vR
                            intro ue5
                            change TL _ _ _ _ _ _ _ _ _ [ownB ue5 (encOps (la ++ lb)) 5, own v55 ((la ++ lb).length) (ints (List.flatMap OpT.flat (la ++ lb))) 70 11, own ud3 (([]).length) (ints (List.flatMap OpT.flat ([]))) 70 11, ownB ue4 (encOps (opsP (encOps la))) 5, own ud2 ((opsP (encOps la)).length) (ints (List.flatMap OpT.flat (opsP (encOps la)))) 70 11, ownB ue3 (encOps ((opsP (encOps la ++ encOps lb)).take la.length)) 5, own (.slice a7 (opsP (encOps la ++ encOps lb)).length cap7) ((opsP (encOps la ++ encOps lb)).length) (ints (List.flatMap OpT.flat (opsP (encOps la ++ encOps lb)))) 70 11, ownB v23 (encOps la ++ encOps lb) 5, ownB ue2 (encOps lb) 5, ownB ue1 (encOps la) 5]
                            refine TL.ownLen 0 rfl rfl (fun hlue5 _ => ?_)
                            refine TL.nil ?_
                            refine TE.draw (fun _ s => ⟨s.hb 3 rfl rfl, ⟨s.hb 5 rfl rfl, ⟨Frm.of s, trivial⟩⟩⟩) ?_
                            refine TD.more (Hb ue5 (encOps (la ++ lb))) (fun _ s => s.hb 0 rfl rfl) ?_
                            refine TD.take (i := 32) rfl (by kernel_rfl) (by kernel_rfl) (by kernel_rfl) (fun _ _ _ _ h => h) (Want.met rfl rfl rfl) rfl rfl (PV.bytesStr (l := encOps (la ++ lb)) rfl Try.underlying27 Try.underlying5 Try.underlying9 rfl (Hb.src (fun _ h => h.1))) ?_
                            refine TD.take (i := 38) rfl (by kernel_rfl) (by kernel_rfl) (by kernel_rfl) (fun _ _ _ _ h => h) (Want.met rfl rfl rfl) rfl rfl (PV.strEql (a := encOps (la ++ lb)) (b := encOps la ++ encOps lb) rfl rfl rfl) ?_
                            refine TD.take (i := 39) rfl (by kernel_rfl) (by kernel_rfl) (by kernel_rfl) (fun _ _ _ _ h => h) (Want.plain rfl) rfl rfl (PV.pick rfl rfl rfl) ?_
                            refine TD.take (i := 40) rfl (by kernel_rfl) (by kernel_rfl) (by kernel_rfl) (fun _ _ _ _ h => h) (Want.plain rfl) rfl rfl (PV.assign rfl rfl) ?_
                            refine TD.done (by kernel_rfl) ?_
                            refine TE.next hK9 ?_
                            clear hK9
                            refine TC.ret ?_
                            refine TE.weak (Sub.refl _) (fun _ s => sep_keep [] rfl s) ?_
                            refine TE.ret1 rfl rfl ?_
                            first | exact ⟨rfl, rfl⟩ | exact ⟨congrArg Value.bool (decide_eq_true (encOps_app la lb)), rfl⟩
                          exact AllT.nil
                        exact AllT.nil
                      exact AllT.nil
                    refine AllT.cons rfl ?_ ?_
                    · skip
                      refine TL.v (Want.met rfl rfl rfl) rfl rfl (PV.bytesStr (l := encOps la) rfl Try.underlying27 Try.underlying5 Try.underlying9 rfl (fun _ s => Src.own 8 rfl rfl s)) ?_
                      refine TL.nil ?_
                      refine TE.draw (fun _ s => ⟨s.hb 2 rfl rfl, ⟨s.hb 4 rfl rfl, ⟨Frm.of s, trivial⟩⟩⟩) ?_
                      refine TD.all [30, 36] (by kernel_rfl) rfl ?_
                      refine AllT.cons rfl ?_ ?_
                      · skip
                        refine TL.append (k := 0) (news := ints (List.flatMap OpT.flat lb)) (nn' := (la ++ lb).length) (xs' := ints (List.flatMap OpT.flat (la ++ lb))) (Want.met rfl rfl rfl) rfl rfl rfl Try.underlying67 in70 rfl rfl rfl rfl rfl rfl (fun _ _ => IsL.src (by decide) OpT.flat_length hF.2 (fun _ h => Frm.of h)) (ints_one _) (by first | (simp only [maxLen, List.length_nil]; omega) | (simp only [maxLen]; omega)) (by first | omega | (simp only [List.length_nil]; omega)) (by simp) (by simp [ints]) (fun v55 ov55 => ?_)
                        change TL _ _ _ _ _ _ _ _ _ [own v55 ((la ++ lb).length) (ints (List.flatMap OpT.flat (la ++ lb))) 70 11, own ud3 (([]).length) (ints (List.flatMap OpT.flat ([]))) 70 11, ownB ue4 (encOps (opsP (encOps la))) 5, own ud2 ((opsP (encOps la)).length) (ints (List.flatMap OpT.flat (opsP (encOps la)))) 70 11, ownB ue3 (encOps ((opsP (encOps la ++ encOps lb)).take la.length)) 5, own (.slice a7 (opsP (encOps la ++ encOps lb)).length cap7) ((opsP (encOps la ++ encOps lb)).length) (ints (List.flatMap OpT.flat (opsP (encOps la ++ encOps lb)))) 70 11, ownB v23 (encOps la ++ encOps lb) 5, ownB ue2 (encOps lb) 5, ownB ue1 (encOps la) 5]
                        refine TL.nil ?_
                        refine TE.draw (fun _ s => ⟨s.hb 2 rfl rfl, ⟨s.hb 4 rfl rfl, ⟨Frm.of s, trivial⟩⟩⟩) ?_
                        refine TD.all [31, 36] (by kernel_rfl) rfl ?_
                        refine AllT.cons rfl ?_ ?_
                        · skip
                          refine TL.callR (A := []) (B := [own v55 ((la ++ lb).length) (ints (List.flatMap OpT.flat (la ++ lb))) 70 11, own ud3 (([]).length) (ints (List.flatMap OpT.flat ([]))) 70 11, ownB ue4 (encOps (opsP (encOps la))) 5, own ud2 ((opsP (encOps la)).length) (ints (List.flatMap OpT.flat (opsP (encOps la)))) 70 11, ownB ue3 (encOps ((opsP (encOps la ++ encOps lb)).take la.length)) 5, own (.slice a7 (opsP (encOps la ++ encOps lb)).length cap7) ((opsP (encOps la ++ encOps lb)).length) (ints (List.flatMap OpT.flat (opsP (encOps la ++ encOps lb)))) 70 11, ownB v23 (encOps la ++ encOps lb) 5, ownB ue2 (encOps lb) 5, ownB ue1 (encOps la) 5]) (Want.met rfl rfl rfl) rfl rfl rfl nm27 rfl (opsEncode_does v55 (la ++ lb) (by simp only [List.length_append]; omega)) (fun _ s => s) (isF_own OpT.flat_length 0 rfl rfl) (fun vR HR hR => ?_)
                          obtain ⟨_, rfl, rfl⟩ := hR
                          revert vR
                          intro ue5
                          change TL _ _ _ _ _ _ _ _ _ [ownB ue5 (encOps (la ++ lb)) 5, own v55 ((la ++ lb).length) (ints (List.flatMap OpT.flat (la ++ lb))) 70 11, own ud3 (([]).length) (ints (List.flatMap OpT.flat ([]))) 70 11, ownB ue4 (encOps (opsP (encOps la))) 5, own ud2 ((opsP (encOps la)).length) (ints (List.flatMap OpT.flat (opsP (encOps la)))) 70 11, ownB ue3 (encOps ((opsP (encOps la ++ encOps lb)).take la.length)) 5, own (.slice a7 (opsP (encOps la ++ encOps lb)).length cap7) ((opsP (encOps la ++ encOps lb)).length) (ints (List.flatMap OpT.flat (opsP (encOps la ++ encOps lb)))) 70 11, ownB v23 (encOps la ++ encOps lb) 5, ownB ue2 (encOps lb) 5, ownB ue1 (encOps la) 5]
                          refine TL.ownLen 0 rfl rfl (fun hlue5 _ => ?_)
                          refine TL.nil ?_
                          refine TE.draw (fun _ s => ⟨s.hb 3 rfl rfl, ⟨s.hb 5 rfl rfl, ⟨Frm.of s, trivial⟩⟩⟩) ?_
                          refine TD.more (Hb ue5 (encOps (la ++ lb))) (fun _ s => s.hb 0 rfl rfl) ?_
                          refine TD.take (i := 32) rfl (by kernel_rfl) (by kernel_rfl) (by kernel_rfl) (fun _ _ _ _ h => h) (Want.met rfl rfl rfl) rfl rfl (PV.bytesStr (l := encOps (la ++ lb)) rfl Try.underlying27 Try.underlying5 Try.underlying9 rfl (Hb.src (fun _ h => h.1))) ?_
                          refine TD.all [36] (by kernel_rfl) rfl ?_
                          refine AllT.cons rfl ?_ ?_
                          · skip
                            refine TL.v (Want.met rfl rfl rfl) rfl rfl (PV.bytesStr (l := encOps lb) rfl Try.underlying27 Try.underlying5 Try.underlying9 rfl (fun _ s => Src.own 8 rfl rfl s)) ?_
                            refine TL.nil ?_
                            refine TE.draw (fun _ s => ⟨s.hb 0 rfl rfl, ⟨s.hb 3 rfl rfl, ⟨s.hb 5 rfl rfl, ⟨Frm.of s, trivial⟩⟩⟩⟩) ?_
                            refine TD.take (i := 37) rfl (by kernel_rfl) (by kernel_rfl) (by kernel_rfl) (fun _ _ _ _ h => h) (Want.met rfl rfl rfl) rfl rfl (PV.strAdd (a := encOps la) (b := encOps lb) rfl rfl rfl (by rw [encOps_len, encOps_len]; omega)) ?_
                            refine TD.take (i := 38) rfl (by kernel_rfl) (by kernel_rfl) (by kernel_rfl) (fun _ _ _ _ h => h) (Want.met rfl rfl rfl) rfl rfl (PV.strEql (a := encOps (la ++ lb)) (b := encOps la ++ encOps lb) rfl rfl rfl) ?_
                            refine TD.take (i := 39) rfl (by kernel_rfl) (by kernel_rfl) (by kernel_rfl) (fun _ _ _ _ h => h) (Want.plain rfl) rfl rfl (PV.pick rfl rfl rfl) ?_
                            refine TD.take (i := 40) rfl (by kernel_rfl) (by kernel_rfl) (by kernel_rfl) (fun _ _ _ _ h => h) (Want.plain rfl) rfl rfl (PV.assign rfl rfl) ?_
                            refine TD.done (by kernel_rfl) ?_
                            refine TE.next hK9 ?_
                            clear hK9
                            refine TC.ret ?_
                            refine TE.weak (Sub.refl _) (fun _ s => sep_keep [] rfl s) ?_
                            refine TE.ret1 rfl rfl ?_
                            first | exact ⟨rfl, rfl⟩ | exact ⟨congrArg Value.bool (decide_eq_true (encOps_app la lb)), rfl⟩
                          exact AllT.nil
                        refine AllT.cons rfl ?_ ?_
                        · skip
                          refine TL.v (Want.met rfl rfl rfl) rfl rfl (PV.bytesStr (l := encOps lb) rfl Try.underlying27 Try.underlying5 Try.underlying9 rfl (fun _ s => Src.own 7 rfl rfl s)) ?_
                          refine TL.nil ?_
                          refine TE.draw (fun _ s => ⟨s.hb 2 rfl rfl, ⟨s.hb 4 rfl rfl, ⟨Frm.of s, trivial⟩⟩⟩) ?_
                          refine TD.take (i := 37) rfl (by kernel_rfl) (by kernel_rfl) (by kernel_rfl) (fun _ _ _ _ h => h) (Want.met rfl rfl rfl) rfl rfl (PV.strAdd (a := encOps la) (b := encOps lb) rfl rfl rfl (by rw [encOps_len, encOps_len]; omega)) ?_
                          refine TD.all [31] (by kernel_rfl) rfl ?_
                          refine AllT.cons rfl ?_ ?_
                          · skip
                            refine TL.callR (A := []) (B := [own v55 ((la ++ lb).length) (ints (List.flatMap OpT.flat (la ++ lb))) 70 11, own ud3 (([]).length) (ints (List.flatMap OpT.flat ([]))) 70 11, ownB ue4 (encOps (opsP (encOps la))) 5, own ud2 ((opsP (encOps la)).length) (ints (List.flatMap OpT.flat (opsP (encOps la)))) 70 11, ownB ue3 (encOps ((opsP (encOps la ++ encOps lb)).take la.length)) 5, own (.slice a7 (opsP (encOps la ++ encOps lb)).length cap7) ((opsP (encOps la ++ encOps lb)).length) (ints (List.flatMap OpT.flat (opsP (encOps la ++ encOps lb)))) 70 11, ownB v23 (encOps la ++ encOps lb) 5, ownB ue2 (encOps lb) 5, ownB ue1 (encOps la) 5]) (Want.met rfl rfl rfl) rfl rfl rfl nm27 rfl (opsEncode_does v55 (la ++ lb) (by simp only [List.length_append]; omega)) (fun _ s => s) (isF_own OpT.flat_length 0 rfl rfl) (fun vR HR hR => ?_)
                            obtain ⟨_, rfl, rfl⟩ := hR
                            revert vR
                            intro ue5
                            change TL _ _ _ _ _ _ _ _ _ [ownB ue5 (encOps (la ++ lb)) 5, own v55 ((la ++ lb).length) (ints (List.flatMap OpT.flat (la ++ lb))) 70 11, own ud3 (([]).length) (ints (List.flatMap OpT.flat ([]))) 70 11, ownB ue4 (encOps (opsP (encOps la))) 5, own ud2 ((opsP (encOps la)).length) (ints (List.flatMap OpT.flat (opsP (encOps la)))) 70 11, ownB ue3 (encOps ((opsP (encOps la ++ encOps lb)).take la.length)) 5, own (.slice a7 (opsP (encOps la ++ encOps lb)).length cap7) ((opsP (encOps la ++ encOps lb)).length) (ints (List.flatMap OpT.flat (opsP (encOps la ++ encOps lb)))) 70 11, ownB v23 (encOps la ++ encOps lb) 5, ownB ue2 (encOps lb) 5, ownB ue1 (encOps la) 5]
                            refine TL.ownLen 0 rfl rfl (fun hlue5 _ => ?_)
                            refine TL.nil ?_
                            refine TE.draw (fun _ s => ⟨s.hb 3 rfl rfl, ⟨s.hb 5 rfl rfl, ⟨Frm.of s, trivial⟩⟩⟩) ?_
                            refine TD.more (Hb ue5 (encOps (la ++ lb))) (fun _ s => s.hb 0 rfl rfl) ?_
                            refine TD.take (i := 32) rfl (by kernel_rfl) (by kernel_rfl) (by kernel_rfl) (fun _ _ _ _ h => h) (Want.met rfl rfl rfl) rfl rfl (PV.bytesStr (l := encOps (la ++ lb)) rfl Try.underlying27 Try.underlying5 Try.underlying9 rfl (Hb.src (fun _ h => h.1))) ?_
                            refine TD.take (i := 38) rfl (by kernel_rfl) (by kernel_rfl) (by kernel_rfl) (fun _ _ _ _ h => h) (Want.met rfl rfl rfl) rfl rfl (PV.strEql (a := encOps (la ++ lb)) (b := encOps la ++ encOps lb) rfl rfl rfl) ?_
                            refine TD.take (i := 39) rfl (by kernel_rfl) (by kernel_rfl) (by kernel_rfl) (fun _ _ _ _ h => h) (Want.plain rfl) rfl rfl (PV.pick rfl rfl rfl) ?_
                            refine TD.take (i := 40) rfl (by kernel_rfl) (by kernel_rfl) (by kernel_rfl) (fun _ _ _ _ h => h) (Want.plain rfl) rfl rfl (PV.assign rfl rfl) ?_
                            refine TD.done (by kernel_rfl) ?_
                            refine TE.next hK9 ?_
                            clear hK9
                            refine TC.ret ?_
                            refine TE.weak (Sub.refl _) (fun _ s => sep_keep [] rfl s) ?_
                            refine TE.ret1 rfl rfl ?_
                            first | exact ⟨rfl, rfl⟩ | exact ⟨congrArg Value.bool (decide_eq_true (encOps_app la lb)), rfl⟩
                          exact AllT.nil
                        exact AllT.nil
                      refine AllT.cons rfl ?_ ?_
                      · skip
                        refine TL.v (Want.met rfl rfl rfl) rfl rfl (PV.bytesStr (l := encOps lb) rfl Try.underlying27 Try.underlying5 Try.underlying9 rfl (fun _ s => Src.own 7 rfl rfl s)) ?_
                        refine TL.nil ?_
                        refine TE.draw (fun _ s => ⟨s.hb 2 rfl rfl, ⟨s.hb 4 rfl rfl, ⟨Frm.of s, trivial⟩⟩⟩) ?_
                        refine TD.take (i := 37) rfl (by kernel_rfl) (by kernel_rfl) (by kernel_rfl) (fun _ _ _ _ h => h) (Want.met rfl rfl rfl) rfl rfl (PV.strAdd (a := encOps la) (b := encOps lb) rfl rfl rfl (by rw [encOps_len, encOps_len]; omega)) ?_
                        refine TD.all [30] (by kernel_rfl) rfl ?_
                        refine AllT.cons rfl ?_ ?_
                        · skip
                          refine TL.append (k := 0) (news := ints (List.flatMap OpT.flat lb)) (nn' := (la ++ lb).length) (xs' := ints (List.flatMap OpT.flat (la ++ lb))) (Want.met rfl rfl rfl) rfl rfl rfl Try.underlying67 in70 rfl rfl rfl rfl rfl rfl (fun _ _ => IsL.src (by decide) OpT.flat_length hF.2 (fun _ h => Frm.of h)) (ints_one _) (by first | (simp only [maxLen, List.length_nil]; omega) | (simp only [maxLen]; omega)) (by first | omega | (simp only [List.length_nil]; omega)) (by simp) (by simp [ints]) (fun v55 ov55 => ?_)
                          change TL _ _ _ _ _ _ _ _ _ [own v55 ((la ++ lb).length) (ints (List.flatMap OpT.flat (la ++ lb))) 70 11, own ud3 (([]).length) (ints (List.flatMap OpT.flat ([]))) 70 11, ownB ue4 (encOps (opsP (encOps la))) 5, own ud2 ((opsP (encOps la)).length) (ints (List.flatMap OpT.flat (opsP (encOps la)))) 70 11, ownB ue3 (encOps ((opsP (encOps la ++ encOps lb)).take la.length)) 5, own (.slice a7 (opsP (encOps la ++ encOps lb)).length cap7) ((opsP (encOps la ++ encOps lb)).length) (ints (List.flatMap OpT.flat (opsP (encOps la ++ encOps lb)))) 70 11, ownB v23 (encOps la ++ encOps lb) 5, ownB ue2 (encOps lb) 5, ownB ue1 (encOps la) 5]
                          refine TL.nil ?_
                          refine TE.draw (fun _ s => ⟨s.hb 2 rfl rfl, ⟨s.hb 4 rfl rfl, ⟨Frm.of s, trivial⟩⟩⟩) ?_
                          refine TD.all [31] (by kernel_rfl) rfl ?_
                          refine AllT.cons rfl ?_ ?_
                          · skip
                            refine TL.callR (A := []) (B := [own v55 ((la ++ lb).length) (ints (List.flatMap OpT.flat (la ++ lb))) 70 11, own ud3 (([]).length) (ints (List.flatMap OpT.flat ([]))) 70 11, ownB ue4 (encOps (opsP (encOps la))) 5, own ud2 ((opsP (encOps la)).length) (ints (List.flatMap OpT.flat (opsP (encOps la)))) 70 11, ownB ue3 (encOps ((opsP (encOps la ++ encOps lb)).take la.length)) 5, own (.slice a7 (opsP (encOps la ++ encOps lb)).length cap7) ((opsP (encOps la ++ encOps lb)).length) (ints (List.flatMap OpT.flat (opsP (encOps la ++ encOps lb)))) 70 11, ownB v23 (encOps la ++ encOps lb) 5, ownB ue2 (encOps lb) 5, ownB ue1 (encOps la) 5]) (Want.met rfl rfl rfl) rfl rfl rfl nm27 rfl (opsEncode_does v55 (la ++ lb) (by simp only [List.length_append]; omega)) (fun _ s => s) (isF_own OpT.flat_length 0 rfl rfl) (fun vR HR hR => ?_)
                            obtain ⟨_, rfl, rfl⟩ := hR
                            revert vR
                            intro ue5
                            change TL _ _ _ _ _ _ _ _ _ [ownB ue5 (encOps (la ++ lb)) 5, own v55 ((la ++ lb).length) (ints (List.flatMap OpT.flat (la ++ lb))) 70 11, own ud3 (([]).length) (ints (List.flatMap OpT.flat ([]))) 70 11, ownB ue4 (encOps (opsP (encOps la))) 5, own ud2 ((opsP (encOps la)).length) (ints (List.flatMap OpT.flat (opsP (encOps la)))) 70 11, ownB ue3 (encOps ((opsP (encOps la ++ encOps lb)).take la.length)) 5, own (.slice a7 (opsP (encOps la ++ encOps lb)).length cap7) ((opsP (encOps la ++ encOps lb)).length) (ints (List.flatMap OpT.flat (opsP (encOps la ++ encOps lb)))) 70 11, ownB v23 (encOps la ++ encOps lb) 5, ownB ue2 (encOps lb) 5, ownB ue1 (encOps la) 5]
                            refine TL.ownLen 0 rfl rfl (fun hlue5 _ => ?_)
                            refine TL.nil ?_
                            refine TE.draw (fun _ s => ⟨s.hb 3 rfl rfl, ⟨s.hb 5 rfl rfl, ⟨Frm.of s, trivial⟩⟩⟩) ?_
                            refine TD.more (Hb ue5 (encOps (la ++ lb))) (fun _ s => s.hb 0 rfl rfl) ?_
                            refine TD.take (i := 32) rfl (by kernel_rfl) (by kernel_rfl) (by kernel_rfl) (fun _ _ _ _ h => h) (Want.met rfl rfl rfl) rfl rfl (PV.bytesStr (l := encOps (la ++ lb)) rfl Try.underlying27 Try.underlying5 Try.underlying9 rfl (Hb.src (fun _ h => h.1))) ?_
                            refine TD.take (i := 38) rfl (by kernel_rfl) (by kernel_rfl) (by kernel_rfl) (fun _ _ _ _ h => h) (Want.met rfl rfl rfl) rfl rfl (PV.strEql (a := encOps (la ++ lb)) (b := encOps la ++ encOps lb) rfl rfl rfl) ?_
                            refine TD.take (i := 39) rfl (by kernel_rfl) (by kernel_rfl) (by kernel_rfl) (fun _ _ _ _ h => h) (Want.plain rfl) rfl rfl (PV.pick rfl rfl rfl) ?_
                            refine TD.take (i := 40) rfl (by kernel_rfl) (by kernel_rfl) (by kernel_rfl) (fun _ _ _ _ h => h) (Want.plain rfl) rfl rfl (PV.assign rfl rfl) ?_
                            refine TD.done (by kernel_rfl) ?_
                            refine TE.next hK9 ?_
                            clear hK9
                            refine TC.ret ?_
                            refine TE.weak (Sub.refl _) (fun _ s => sep_keep [] rfl s) ?_
                            refine TE.ret1 rfl rfl ?_
                            first | exact ⟨rfl, rfl⟩ | exact ⟨congrArg Value.bool (decide_eq_true (encOps_app la lb)), rfl⟩
                          exact AllT.nil
                        exact AllT.nil
                      exact AllT.nil
                    refine AllT.cons rfl ?_ ?_
                    · skip
                      refine TL.v (Want.met rfl rfl rfl) rfl rfl (PV.bytesStr (l := encOps lb) rfl Try.underlying27 Try.underlying5 Try.underlying9 rfl (fun _ s => Src.own 7 rfl rfl s)) ?_
                      refine TL.nil ?_
                      refine TE.draw (fun _ s => ⟨s.hb 2 rfl rfl, ⟨s.hb 4 rfl rfl, ⟨Frm.of s, trivial⟩⟩⟩) ?_
                      refine TD.all [30, 34] (by kernel_rfl) rfl ?_
                      refine AllT.cons rfl ?_ ?_
                      · skip
                        refine TL.append (k := 0) (news := ints (List.flatMap OpT.flat lb)) (nn' := (la ++ lb).length) (xs' := ints (List.flatMap OpT.flat (la ++ lb))) (Want.met rfl rfl rfl) rfl rfl rfl Try.underlying67 in70 rfl rfl rfl rfl rfl rfl (fun _ _ => IsL.src (by decide) OpT.flat_length hF.2 (fun _ h => Frm.of h)) (ints_one _) (by first | (simp only [maxLen, List.length_nil]; omega) | (simp only [maxLen]; omega)) (by first | omega | (simp only [List.length_nil]; omega)) (by simp) (by simp [ints]) (fun v55 ov55 => ?_)
                        change TL _ _ _ _ _ _ _ _ _ [own v55 ((la ++ lb).length) (ints (List.flatMap OpT.flat (la ++ lb))) 70 11, own ud3 (([]).length) (ints (List.flatMap OpT.flat ([]))) 70 11, ownB ue4 (encOps (opsP (encOps la))) 5, own ud2 ((opsP (encOps la)).length) (ints (List.flatMap OpT.flat (opsP (encOps la)))) 70 11, ownB ue3 (encOps ((opsP (encOps la ++ encOps lb)).take la.length)) 5, own (.slice a7 (opsP (encOps la ++ encOps lb)).length cap7) ((opsP (encOps la ++ encOps lb)).length) (ints (List.flatMap OpT.flat (opsP (encOps la ++ encOps lb)))) 70 11, ownB v23 (encOps la ++ encOps lb) 5, ownB ue2 (encOps lb) 5, ownB ue1 (encOps la) 5]
                        refine TL.nil ?_
                        refine TE.draw (fun _ s => ⟨s.hb 2 rfl rfl, ⟨s.hb 4 rfl rfl, ⟨Frm.of s, trivial⟩⟩⟩) ?_
                        refine TD.all [31, 34] (by kernel_rfl) rfl ?_
                        refine AllT.cons rfl ?_ ?_
                        · skip
                          refine TL.callR (A := []) (B := [own v55 ((la ++ lb).length) (ints (List.flatMap OpT.flat (la ++ lb))) 70 11, own ud3 (([]).length) (ints (List.flatMap OpT.flat ([]))) 70 11, ownB ue4 (encOps (opsP (encOps la))) 5, own ud2 ((opsP (encOps la)).length) (ints (List.flatMap OpT.flat (opsP (encOps la)))) 70 11, ownB ue3 (encOps ((opsP (encOps la ++ encOps lb)).take la.length)) 5, own (.slice a7 (opsP (encOps la ++ encOps lb)).length cap7) ((opsP (encOps la ++ encOps lb)).length) (ints (List.flatMap OpT.flat (opsP (encOps la ++ encOps lb)))) 70 11, ownB v23 (encOps la ++ encOps lb) 5, ownB ue2 (encOps lb) 5, ownB ue1 (encOps la) 5]) (Want.met rfl rfl rfl) rfl rfl rfl nm27 rfl (opsEncode_does v55 (la ++ lb) (by simp only [List.length_append]; omega)) (fun _ s => s) (isF_own OpT.flat_length 0 rfl rfl) (fun vR HR hR => ?_)
                          obtain ⟨_, rfl, rfl⟩ := hR
                          revert vR
                          intro ue5
                          change TL _ _ _ _ _ _ _ _ _ [ownB ue5 (encOps (la ++ lb)) 5, own v55 ((la ++ lb).length) (ints (List.flatMap OpT.flat (la ++ lb))) 70 11, own ud3 (([]).length) (ints (List.flatMap OpT.flat ([]))) 70 11, ownB ue4 (encOps (opsP (encOps la))) 5, own ud2 ((opsP (encOps la)).length) (ints (List.flatMap OpT.flat (opsP (encOps la)))) 70 11, ownB ue3 (encOps ((opsP (encOps la ++ encOps lb)).take la.length)) 5, own (.slice a7 (opsP (encOps la ++ encOps lb)).length cap7) ((opsP (encOps la ++ encOps lb)).length) (ints (List.flatMap OpT.flat (opsP (encOps la ++ encOps lb)))) 70 11, ownB v23 (encOps la ++ encOps lb) 5, ownB ue2 (encOps lb) 5, ownB ue1 (encOps la) 5]
                          refine TL.ownLen 0 rfl rfl (fun hlue5 _ => ?_)
                          refine TL.nil ?_
                          refine TE.draw (fun _ s => ⟨s.hb 3 rfl rfl, ⟨s.hb 5 rfl rfl, ⟨Frm.of s, trivial⟩⟩⟩) ?_
                          refine TD.more (Hb ue5 (encOps (la ++ lb))) (fun _ s => s.hb 0 rfl rfl) ?_
                          refine TD.take (i := 32) rfl (by kernel_rfl) (by kernel_rfl) (by kernel_rfl) (fun _ _ _ _ h => h) (Want.met rfl rfl rfl) rfl rfl (PV.bytesStr (l := encOps (la ++ lb)) rfl Try.underlying27 Try.underlying5 Try.underlying9 rfl (Hb.src (fun _ h => h.1))) ?_
                          refine TD.all [34] (by kernel_rfl) rfl ?_
                          refine AllT.cons rfl ?_ ?_
                          · skip
                            refine TL.v (Want.met rfl rfl rfl) rfl rfl (PV.bytesStr (l := encOps la) rfl Try.underlying27 Try.underlying5 Try.underlying9 rfl (fun _ s => Src.own 9 rfl rfl s)) ?_
                            refine TL.nil ?_
                            refine TE.draw (fun _ s => ⟨s.hb 0 rfl rfl, ⟨s.hb 3 rfl rfl, ⟨s.hb 5 rfl rfl, ⟨Frm.of s, trivial⟩⟩⟩⟩) ?_
                            refine TD.take (i := 37) rfl (by kernel_rfl) (by kernel_rfl) (by kernel_rfl) (fun _ _ _ _ h => h) (Want.met rfl rfl rfl) rfl rfl (PV.strAdd (a := encOps la) (b := encOps lb) rfl rfl rfl (by rw [encOps_len, encOps_len]; omega)) ?_
                            refine TD.take (i := 38) rfl (by kernel_rfl) (by kernel_rfl) (by kernel_rfl) (fun _ _ _ _ h => h) (Want.met rfl rfl rfl) rfl rfl (PV.strEql (a := encOps (la ++ lb)) (b := encOps la ++ encOps lb) rfl rfl rfl) ?_
                            refine TD.take (i := 39) rfl (by kernel_rfl) (by kernel_rfl) (by kernel_rfl) (fun _ _ _ _ h => h) (Want.plain rfl) rfl rfl (PV.pick rfl rfl rfl) ?_
                            refine TD.take (i := 40) rfl (by kernel_rfl) (by kernel_rfl) (by kernel_rfl) (fun _ _ _ _ h => h) (Want.plain rfl) rfl rfl (PV.assign rfl rfl) ?_
                            refine TD.done (by kernel_rfl) ?_
                            refine TE.next hK9 ?_
                            clear hK9
                            refine TC.ret ?_
                            refine TE.weak (Sub.refl _) (fun _ s => sep_keep [] rfl s) ?_
                            refine TE.ret1 rfl rfl ?_
                            first | exact ⟨rfl, rfl⟩ | exact ⟨congrArg Value.bool (decide_eq_true (encOps_app la lb)), rfl⟩
                          exact AllT.nil
                        refine AllT.cons rfl ?_ ?_
                        · skip
                          refine TL.v (Want.met rfl rfl rfl) rfl rfl (PV.bytesStr (l := encOps la) rfl Try.underlying27 Try.underlying5 Try.underlying9 rfl (fun _ s => Src.own 8 rfl rfl s)) ?_
                          refine TL.nil ?_
                          refine TE.draw (fun _ s => ⟨s.hb 2 rfl rfl, ⟨s.hb 4 rfl rfl, ⟨Frm.of s, trivial⟩⟩⟩) ?_
                          refine TD.take (i := 37) rfl (by kernel_rfl) (by kernel_rfl) (by kernel_rfl) (fun _ _ _ _ h => h) (Want.met rfl rfl rfl) rfl rfl (PV.strAdd (a := encOps la) (b := encOps lb) rfl rfl rfl (by rw [encOps_len, encOps_len]; omega)) ?_
                          refine TD.all [31] (by kernel_rfl) rfl ?_
                          refine AllT.cons rfl ?_ ?_
                          · skip
                            refine TL.callR (A := []) (B := [own v55 ((la ++ lb).length) (ints (List.flatMap OpT.flat (la ++ lb))) 70 11, own ud3 (([]).length) (ints (List.flatMap OpT.flat ([]))) 70 11, ownB ue4 (encOps (opsP (encOps la))) 5, own ud2 ((opsP (encOps la)).length) (ints (List.flatMap OpT.flat (opsP (encOps la)))) 70 11, ownB ue3 (encOps ((opsP (encOps la ++ encOps lb)).take la.length)) 5, own (.slice a7 (opsP (encOps la ++ encOps lb)).length cap7) ((opsP (encOps la ++ encOps lb)).length) (ints (List.flatMap OpT.flat (opsP (encOps la ++ encOps lb)))) 70 11, ownB v23 (encOps la ++ encOps lb) 5, ownB ue2 (encOps lb) 5, ownB ue1 (encOps la) 5]) (Want.met rfl rfl rfl) rfl rfl rfl nm27 rfl (opsEncode_does v55 (la ++ lb) (by simp only [List.length_append]; omega)) (fun _ s => s) (isF_own OpT.flat_length 0 rfl rfl) (fun vR HR hR => ?_)
                            obtain ⟨_, rfl, rfl⟩ := hR
                            revert vR
                            intro ue5
                            change TL _ _ _ _ _ _ _ _ _ [ownB ue5 (encOps (la ++ lb)) 5, own v55 ((la ++ lb).length) (ints (List.flatMap OpT.flat (la ++ lb))) 70 11, own ud3 (([]).length) (ints (List.flatMap OpT.flat ([]))) 70 11, ownB ue4 (encOps (opsP (encOps la))) 5, own ud2 ((opsP (encOps la)).length) (ints (List.flatMap OpT.flat (opsP (encOps la)))) 70 11, ownB ue3 (encOps ((opsP (encOps la ++ encOps lb)).take la.length)) 5, own (.slice a7 (opsP (encOps la ++ encOps lb)).length cap7) ((opsP (encOps la ++ encOps lb)).length) (ints (List.flatMap OpT.flat (opsP (encOps la ++ encOps lb)))) 70 11, ownB v23 (encOps la ++ encOps lb) 5, ownB ue2 (encOps lb) 5, ownB ue1 (encOps la) 5]
                            refine TL.ownLen 0 rfl rfl (fun hlue5 _ => ?_)
                            refine TL.nil ?_
                            refine TE.draw (fun _ s => ⟨s.hb 3 rfl rfl, ⟨s.hb 5 rfl rfl, ⟨Frm.of s, trivial⟩⟩⟩) ?_
                            refine TD.more (Hb ue5 (encOps (la ++ lb))) (fun _ s => s.hb 0 rfl rfl) ?_
                            refine TD.take (i := 32) rfl (by kernel_rfl) (by kernel_rfl) (by kernel_rfl) (fun _ _ _ _ h => h) (Want.met rfl rfl rfl) rfl rfl (PV.bytesStr (l := encOps (la ++ lb)) rfl Try.underlying27 Try.underlying5 Try.underlying9 rfl (Hb.src (fun _ h => h.1))) ?_
                            refine TD.take (i := 38) rfl (by kernel_rfl) (by kernel_rfl) (by kernel_rfl) (fun _ _ _ _ h => h) (Want.met rfl rfl rfl) rfl rfl (PV.strEql (a := encOps (la ++ lb)) (b := encOps la ++ encOps lb) rfl rfl rfl) ?_
                            refine TD.take (i := 39) rfl (by kernel_rfl) (by kernel_rfl) (by kernel_rfl) (fun _ _ _ _ h => h) (Want.plain rfl) rfl rfl (PV.pick rfl rfl rfl) ?_
                            refine TD.take (i := 40) rfl (by kernel_rfl) (by kernel_rfl) (by kernel_rfl) (fun _ _ _ _ h => h) (Want.plain rfl) rfl rfl (PV.assign rfl rfl) ?_
                            refine TD.done (by kernel_rfl) ?_
                            refine TE.next hK9 ?_
                            clear hK9
                            refine TC.ret ?_
                            refine TE.weak (Sub.refl _) (fun _ s => sep_keep [] rfl s) ?_
                            refine TE.ret1 rfl rfl ?_
                            first | exact ⟨rfl, rfl⟩ | exact ⟨congrArg Value.bool (decide_eq_true (encOps_app la lb)), rfl⟩
                          exact AllT.nil
                        exact AllT.nil
                      refine AllT.cons rfl ?_ ?_
                      · skip
                        refine TL.v (Want.met rfl rfl rfl) rfl rfl (PV.bytesStr (l := encOps la) rfl Try.underlying27 Try.underlying5 Try.underlying9 rfl (fun _ s => Src.own 8 rfl rfl s)) ?_
                        refine TL.nil ?_
                        refine TE.draw (fun _ s => ⟨s.hb 2 rfl rfl, ⟨s.hb 4 rfl rfl, ⟨Frm.of s, trivial⟩⟩⟩) ?_
                        refine TD.take (i := 37) rfl (by kernel_rfl) (by kernel_rfl) (by kernel_rfl) (fun _ _ _ _ h => h) (Want.met rfl rfl rfl) rfl rfl (PV.strAdd (a := encOps la) (b := encOps lb) rfl rfl rfl (by rw [encOps_len, encOps_len]; omega)) ?_
                        refine TD.all [30] (by kernel_rfl) rfl ?_
                        refine AllT.cons rfl ?_ ?_
                        · skip
                          refine TL.append (k := 0) (news := ints (List.flatMap OpT.flat lb)) (nn' := (la ++ lb).length) (xs' := ints (List.flatMap OpT.flat (la ++ lb))) (Want.met rfl rfl rfl) rfl rfl rfl Try.underlying67 in70 rfl rfl rfl rfl rfl rfl (fun _ _ => IsL.src (by decide) OpT.flat_length hF.2 (fun _ h => Frm.of h)) (ints_one _) (by first | (simp only [maxLen, List.length_nil]; omega) | (simp only [maxLen]; omega)) (by first | omega | (simp only [List.length_nil]; omega)) (by simp) (by simp [ints]) (fun v55 ov55 => ?_)
                          change TL _ _ _ _ _ _ _ _ _ [own v55 ((la ++ lb).length) (ints (List.flatMap OpT.flat (la ++ lb))) 70 11, own ud3 (([]).length) (ints (List.flatMap OpT.flat ([]))) 70 11, ownB ue4 (encOps (opsP (encOps la))) 5, own ud2 ((opsP (encOps la)).length) (ints (List.flatMap OpT.flat (opsP (encOps la)))) 70 11, ownB ue3 (encOps ((opsP (encOps la ++ encOps lb)).take la.length)) 5, own (.slice a7 (opsP (encOps la ++ encOps lb)).length cap7) ((opsP (encOps la ++ encOps lb)).length) (ints (List.flatMap OpT.flat (opsP (encOps la ++ encOps lb)))) 70 11, ownB v23 (encOps la ++ encOps lb) 5, ownB ue2 (encOps lb) 5, ownB ue1 (encOps la) 5]
                          refine TL.nil ?_
                          refine TE.draw (fun _ s => ⟨s.hb 2 rfl rfl, ⟨s.hb 4 rfl rfl, ⟨Frm.of s, trivial⟩⟩⟩) ?_
                          refine TD.all [31] (by kernel_rfl) rfl ?_
                          refine AllT.cons rfl ?_ ?_
                          · skip
                            refine TL.callR (A := []) (B := [own v55 ((la ++ lb).length) (ints (List.flatMap OpT.flat (la ++ lb))) 70 11, own ud3 (([]).length) (ints (List.flatMap OpT.flat ([]))) 70 11, ownB ue4 (encOps (opsP (encOps la))) 5, own ud2 ((opsP (encOps la)).length) (ints (List.flatMap OpT.flat (opsP (encOps la)))) 70 11, ownB ue3 (encOps ((opsP (encOps la ++ encOps lb)).take la.length)) 5, own (.slice a7 (opsP (encOps la ++ encOps lb)).length cap7) ((opsP (encOps la ++ encOps lb)).length) (ints (List.flatMap OpT.flat (opsP (encOps la ++ encOps lb)))) 70 11, ownB v23 (encOps la ++ encOps lb) 5, ownB ue2 (encOps lb) 5, ownB ue1 (encOps la) 5]) (Want.met rfl rfl rfl) rfl rfl rfl nm27 rfl (opsEncode_does v55 (la ++ lb) (by simp only [List.length_append]; omega)) (fun _ s => s) (isF_own OpT.flat_length 0 rfl rfl) (fun vR HR hR => ?_)
                            obtain ⟨_, rfl, rfl⟩ := hR
                            revert vR
                            intro ue5
                            change TL _ _ _ _ _ _ _ _ _ [ownB ue5 (encOps (la ++ lb)) 5, own v55 ((la ++ lb).length) (ints (List.flatMap OpT.flat (la ++ lb))) 70 11, own ud3 (([]).length) (ints (List.flatMap OpT.flat ([]))) 70 11, ownB ue4 (encOps (opsP (encOps la))) 5, own ud2 ((opsP (encOps la)).length) (ints (List.flatMap OpT.flat (opsP (encOps la)))) 70 11, ownB ue3 (encOps ((opsP (encOps la ++ encOps lb)).take la.length)) 5, own (.slice a7 (opsP (encOps la ++ encOps lb)).length cap7) ((opsP (encOps la ++ encOps lb)).length) (ints (List.flatMap OpT.flat (opsP (encOps la ++ encOps lb)))) 70 11, ownB v23 (encOps la ++ encOps lb) 5, ownB ue2 (encOps lb) 5, ownB ue1 (encOps la) 5]
                            refine TL.ownLen 0 rfl rfl (fun hlue5 _ => ?_)
                            refine TL.nil ?_
                            refine TE.draw (fun _ s => ⟨s.hb 3 rfl rfl, ⟨s.hb 5 rfl rfl, ⟨Frm.of s, trivial⟩⟩⟩) ?_
                            refine TD.more (Hb ue5 (encOps (la ++ lb))) (fun _ s => s.hb 0 rfl rfl) ?_
                            refine TD.take (i := 32) rfl (by kernel_rfl) (by kernel_rfl) (by kernel_rfl) (fun _ _ _ _ h => h) (Want.met rfl rfl rfl) rfl rfl (PV.bytesStr (l := encOps (la ++ lb)) rfl Try.underlying27 Try.underlying5 Try.underlying9 rfl (Hb.src (fun _ h => h.1))) ?_
                            refine TD.take (i := 38) rfl (by kernel_rfl) (by kernel_rfl) (by kernel_rfl) (fun _ _ _ _ h => h) (Want.met rfl rfl rfl) rfl rfl (PV.strEql (a := encOps (la ++ lb)) (b := encOps la ++ encOps lb) rfl rfl rfl) ?_
                            refine TD.take (i := 39) rfl (by kernel_rfl) (by kernel_rfl) (by kernel_rfl) (fun _ _ _ _ h => h) (Want.plain rfl) rfl rfl (PV.pick rfl rfl rfl) ?_
                            refine TD.take (i := 40) rfl (by kernel_rfl) (by kernel_rfl) (by kernel_rfl) (fun _ _ _ _ h => h) (Want.plain rfl) rfl rfl (PV.assign rfl rfl) ?_
                            refine TD.done (by kernel_rfl) ?_
                            refine TE.next hK9 ?_
                            clear hK9
                            refine TC.ret ?_
                            refine TE.weak (Sub.refl _) (fun _ s => sep_keep [] rfl s) ?_
                            refine TE.ret1 rfl rfl ?_
                            first | exact ⟨rfl, rfl⟩ | exact ⟨congrArg Value.bool (decide_eq_true (encOps_app la lb)), rfl⟩
                          exact AllT.nil
                        exact AllT.nil
                      exact AllT.nil
                    exact AllT.nil
                  refine AllT.cons rfl ?_ ?_
                  · skip
                    refine TL.v (Want.met rfl rfl rfl) rfl rfl (PV.bytesStr (l := encOps la) rfl Try.underlying27 Try.underlying5 Try.underlying9 rfl (fun _ s => Src.own 7 rfl rfl s)) ?_
                    refine TL.nil ?_
                    refine TE.draw (fun _ s => ⟨s.hb 1 rfl rfl, ⟨s.hb 3 rfl rfl, ⟨Frm.of s, trivial⟩⟩⟩) ?_
                    refine TD.all [28, 36] (by kernel_rfl) rfl ?_
                    refine AllT.cons rfl ?_ ?_
                    · skip
                      refine TL.ownNilI 70 11 (fun on => ?_)
                      clear on
                      change TL _ _ _ _ _ _ _ _ _ [own (.slice none 0 0) (([] : List OpT).length) (ints (List.flatMap OpT.flat ([] : List OpT))) 70 11, own ud3 (([]).length) (ints (List.flatMap OpT.flat ([]))) 70 11, ownB ue4 (encOps (opsP (encOps la))) 5, own ud2 ((opsP (encOps la)).length) (ints (List.flatMap OpT.flat (opsP (encOps la)))) 70 11, ownB ue3 (encOps ((opsP (encOps la ++ encOps lb)).take la.length)) 5, own (.slice a7 (opsP (encOps la ++ encOps lb)).length cap7) ((opsP (encOps la ++ encOps lb)).length) (ints (List.flatMap OpT.flat (opsP (encOps la ++ encOps lb)))) 70 11, ownB v23 (encOps la ++ encOps lb) 5, ownB ue2 (encOps lb) 5, ownB ue1 (encOps la) 5]
                      refine TL.append (k := 0) (news := ints (List.flatMap OpT.flat la)) (nn' := la.length) (xs' := ints (List.flatMap OpT.flat la)) (Want.met rfl rfl rfl) rfl rfl rfl Try.underlying67 in70 rfl rfl rfl rfl rfl rfl (fun _ _ => IsL.src (by decide) OpT.flat_length hF.1 (fun _ h => Frm.of h)) (ints_one _) (by first | (simp only [maxLen, List.length_nil]; omega) | (simp only [maxLen]; omega)) (by first | omega | (simp only [List.length_nil]; omega)) (by simp) (by simp [ints]) (fun v53 ov53 => ?_)
                      change TL _ _ _ _ _ _ _ _ _ [own v53 (la.length) (ints (List.flatMap OpT.flat la)) 70 11, own ud3 (([]).length) (ints (List.flatMap OpT.flat ([]))) 70 11, ownB ue4 (encOps (opsP (encOps la))) 5, own ud2 ((opsP (encOps la)).length) (ints (List.flatMap OpT.flat (opsP (encOps la)))) 70 11, ownB ue3 (encOps ((opsP (encOps la ++ encOps lb)).take la.length)) 5, own (.slice a7 (opsP (encOps la ++ encOps lb)).length cap7) ((opsP (encOps la ++ encOps lb)).length) (ints (List.flatMap OpT.flat (opsP (encOps la ++ encOps lb)))) 70 11, ownB v23 (encOps la ++ encOps lb) 5, ownB ue2 (encOps lb) 5, ownB ue1 (encOps la) 5]
                      refine TL.nil ?_
                      refine TE.draw (fun _ s => ⟨s.hb 2 rfl rfl, ⟨s.hb 4 rfl rfl, ⟨Frm.of s, trivial⟩⟩⟩) ?_
                      refine TD.all [30, 36] (by kernel_rfl) rfl ?_
                      refine AllT.cons rfl ?_ ?_
                      · skip
                        refine TL.append (k := 0) (news := ints (List.flatMap OpT.flat lb)) (nn' := (la ++ lb).length) (xs' := ints (List.flatMap OpT.flat (la ++ lb))) (Want.met rfl rfl rfl) rfl rfl rfl Try.underlying67 in70 rfl rfl rfl rfl rfl rfl (fun _ _ => IsL.src (by decide) OpT.flat_length hF.2 (fun _ h => Frm.of h)) (ints_one _) (by first | (simp only [maxLen, List.length_nil]; omega) | (simp only [maxLen]; omega)) (by first | omega | (simp only [List.length_nil]; omega)) (by simp) (by simp [ints]) (fun v55 ov55 => ?_)
                        change TL _ _ _ _ _ _ _ _ _ [own v55 ((la ++ lb).length) (ints (List.flatMap OpT.flat (la ++ lb))) 70 11, own ud3 (([]).length) (ints (List.flatMap OpT.flat ([]))) 70 11, ownB ue4 (encOps (opsP (encOps la))) 5, own ud2 ((opsP (encOps la)).length) (ints (List.flatMap OpT.flat (opsP (encOps la)))) 70 11, ownB ue3 (encOps ((opsP (encOps la ++ encOps lb)).take la.length)) 5, own (.slice a7 (opsP (encOps la ++ encOps lb)).length cap7) ((opsP (encOps la ++ encOps lb)).length) (ints (List.flatMap OpT.flat (opsP (encOps la ++ encOps lb)))) 70 11, ownB v23 (encOps la ++ encOps lb) 5, ownB ue2 (encOps lb) 5, ownB ue1 (encOps la) 5]
                        refine TL.nil ?_
                        refine TE.draw (fun _ s => ⟨s.hb 2 rfl rfl, ⟨s.hb 4 rfl rfl, ⟨Frm.of s, trivial⟩⟩⟩) ?_
                        refine TD.all [31, 36] (by kernel_rfl) rfl ?_
                        refine AllT.cons rfl ?_ ?_
                        · skip
                          refine TL.callR (A := []) (B := [own v55 ((la ++ lb).length) (ints (List.flatMap OpT.flat (la ++ lb))) 70 11, own ud3 (([]).length) (ints (List.flatMap OpT.flat ([]))) 70 11, ownB ue4 (encOps (opsP (encOps la))) 5, own ud2 ((opsP (encOps la)).length) (ints (List.flatMap OpT.flat (opsP (encOps la)))) 70 11, ownB ue3 (encOps ((opsP (encOps la ++ encOps lb)).take la.length)) 5, own (.slice a7 (opsP (encOps la ++ encOps lb)).length cap7) ((opsP (encOps la ++ encOps lb)).length) (ints (List.flatMap OpT.flat (opsP (encOps la ++ encOps lb)))) 70 11, ownB v23 (encOps la ++ encOps lb) 5, ownB ue2 (encOps lb) 5, ownB ue1 (encOps la) 5]) (Want.met rfl rfl rfl) rfl rfl rfl nm27 rfl (opsEncode_does v55 (la ++ lb) (by simp only [List.length_append]; omega)) (fun _ s => s) (isF_own OpT.flat_length 0 rfl rfl) (fun vR HR hR => ?_)
                          obtain ⟨_, rfl, rfl⟩ := hR
                          revert vR
                          intro ue5
                          change TL _ _ _ _ _ _ _ _ _ [ownB ue5 (encOps (la ++ lb)) 5, own v55 ((la ++ lb).length) (ints (List.flatMap OpT.flat (la ++ lb))) 70 11, own ud3 (([]).length) (ints (List.flatMap OpT.flat ([]))) 70 11, ownB ue4 (encOps (opsP (encOps la))) 5, own ud2 ((opsP (encOps la)).length) (ints (List.flatMap OpT.flat (opsP (encOps la)))) 70 11, ownB ue3 (encOps ((opsP (encOps la ++ encOps lb)).take la.length)) 5, own (.slice a7 (opsP (encOps la ++ encOps lb)).length cap7) ((opsP (encOps la ++ encOps lb)).length) (ints (List.flatMap OpT.flat (opsP (encOps la ++ encOps lb)))) 70 11, ownB v23 (encOps la ++ encOps lb) 5, ownB ue2 (encOps lb) 5, ownB ue1 (encOps la) 5]
                          refine TL.ownLen 0 rfl rfl (fun hlue5 _ => ?_)
                          refine TL.nil ?_
                          refine TE.draw (fun _ s => ⟨s.hb 3 rfl rfl, ⟨s.hb 5 rfl rfl, ⟨Frm.of s, trivial⟩⟩⟩) ?_
                          refine TD.more (Hb ue5 (encOps (la ++ lb))) (fun _ s => s.hb 0 rfl rfl) ?_
                          refine TD.take (i := 32) rfl (by kernel_rfl) (by kernel_rfl) (by kernel_rfl) (fun _ _ _ _ h => h) (Want.met rfl rfl rfl) rfl rfl (PV.bytesStr (l := encOps (la ++ lb)) rfl Try.underlying27 Try.underlying5 Try.underlying9 rfl (Hb.src (fun _ h => h.1))) ?_
                          refine TD.all [36] (by kernel_rfl) rfl ?_
                          refine AllT.cons rfl ?_ ?_
                          · skip
                            refine TL.v (Want.met rfl rfl rfl) rfl rfl (PV.bytesStr (l := encOps lb) rfl Try.underlying27 Try.underlying5 Try.underlying9 rfl (fun _ s => Src.own 8 rfl rfl s)) ?_
                            refine TL.nil ?_
                            refine TE.draw (fun _ s => ⟨s.hb 0 rfl rfl, ⟨s.hb 3 rfl rfl, ⟨s.hb 5 rfl rfl, ⟨Frm.of s, trivial⟩⟩⟩⟩) ?_
                            refine TD.take (i := 37) rfl (by kernel_rfl) (by kernel_rfl) (by kernel_rfl) (fun _ _ _ _ h => h) (Want.met rfl rfl rfl) rfl rfl (PV.strAdd (a := encOps la) (b := encOps lb) rfl rfl rfl (by rw [encOps_len, encOps_len]; omega)) ?_
                            refine TD.take (i := 38) rfl (by kernel_rfl) (by kernel_rfl) (by kernel_rfl) (fun _ _ _ _ h => h) (Want.met rfl rfl rfl) rfl rfl (PV.strEql (a := encOps (la ++ lb)) (b := encOps la ++ encOps lb) rfl rfl rfl) ?_
                            refine TD.take (i := 39) rfl (by kernel_rfl) (by kernel_rfl) (by kernel_rfl) (fun _ _ _ _ h => h) (Want.plain rfl) rfl rfl (PV.pick rfl rfl rfl) ?_
                            refine TD.take (i := 40) rfl (by kernel_rfl) (by kernel_rfl) (by kernel_rfl) (fun _ _ _ _ h => h) (Want.plain rfl) rfl rfl (PV.assign rfl rfl) ?_
                            refine TD.done (by kernel_rfl) ?_
                            refine TE.next hK9 ?_
                            clear hK9
                            refine TC.ret ?_
                            refine TE.weak (Sub.refl _) (fun _ s => sep_keep [] rfl s) ?_
                            refine TE.ret1 rfl rfl ?_
                            first | exact ⟨rfl, rfl⟩ | exact ⟨congrArg Value.bool (decide_eq_true (encOps_app la lb)), rfl⟩
                          exact AllT.nil
                        refine AllT.cons rfl ?_ ?_
                        · skip
                          refine TL.v (Want.met rfl rfl rfl) rfl rfl (PV.bytesStr (l := encOps lb) rfl Try.underlying27 Try.underlying5 Try.underlying9 rfl (fun _ s => Src.own 7 rfl rfl s)) ?_
                          refine TL.nil ?_
                          refine TE.draw (fun _ s => ⟨s.hb 2 rfl rfl, ⟨s.hb 4 rfl rfl, ⟨Frm.of s, trivial⟩⟩⟩) ?_
                          refine TD.take (i := 37) rfl (by kernel_rfl) (by kernel_rfl) (by kernel_rfl) (fun _ _ _ _ h => h) (Want.met rfl rfl rfl) rfl rfl (PV.strAdd (a := encOps la) (b := encOps lb) rfl rfl rfl (by rw [encOps_len, encOps_len]; omega)) ?_
                          refine TD.all [31] (by kernel_rfl) rfl ?_
                          refine AllT.cons rfl ?_ ?_
                          · skip
                            refine TL.callR (A := []) (B := [own v55 ((la ++ lb).length) (ints (List.flatMap OpT.flat (la ++ lb))) 70 11, own ud3 (([]).length) (ints (List.flatMap OpT.flat ([]))) 70 11, ownB ue4 (encOps (opsP (encOps la))) 5, own ud2 ((opsP (encOps la)).length) (ints (List.flatMap OpT.flat (opsP (encOps la)))) 70 11, ownB ue3 (encOps ((opsP (encOps la ++ encOps lb)).take la.length)) 5, own (.slice a7 (opsP (encOps la ++ encOps lb)).length cap7) ((opsP (encOps la ++ encOps lb)).length) (ints (List.flatMap OpT.flat (opsP (encOps la ++ encOps lb)))) 70 11, ownB v23 (encOps la ++ encOps lb) 5, ownB ue2 (encOps lb) 5, ownB ue1 (encOps la) 5]) (Want.met rfl rfl rfl) rfl rfl rfl nm27 rfl (opsEncode_does v55 (la ++ lb) (by simp only [List.length_append]; omega)) (fun _ s => s) (isF_own OpT.flat_length 0 rfl rfl) (fun vR HR hR => ?_)
                            obtain ⟨_, rfl, rfl⟩ := hR
                            revert vR
                            intro ue5
                            change TL _ _ _ _ _ _ _ _ _ [ownB ue5 (encOps (la ++ lb)) 5, own v55 ((la ++ lb).length) (ints (List.flatMap OpT.flat (la ++ lb))) 70 11, own ud3 (([]).length) (ints (List.flatMap OpT.flat ([]))) 70 11, ownB ue4 (encOps (opsP (encOps la))) 5, own ud2 ((opsP (encOps la)).length) (ints (List.flatMap OpT.flat (opsP (encOps la)))) 70 11, ownB ue3 (encOps ((opsP (encOps la ++ encOps lb)).take la.length)) 5, own (.slice a7 (opsP (encOps la ++ encOps lb)).length cap7) ((opsP (encOps la ++ encOps lb)).length) (ints (List.flatMap OpT.flat (opsP (encOps la ++ encOps lb)))) 70 11, ownB v23 (encOps la ++ encOps lb) 5, ownB ue2 (encOps lb) 5, ownB ue1 (encOps la) 5]
                            refine TL.ownLen 0 rfl rfl (fun hlue5 _ => ?_)
                            refine TL.nil ?_
                            refine TE.draw (fun _ s => ⟨s.hb 3 rfl rfl, ⟨s.hb 5 rfl rfl, ⟨Frm.of s, trivial⟩⟩⟩) ?_
                            refine TD.more (Hb ue5 (encOps (la ++ lb))) (fun _ s => s.hb 0 rfl rfl) ?_
                            refine TD.take (i := 32) rfl (by kernel_rfl) (by kernel_rfl) (by kernel_rfl) (fun _ _ _ _ h => h) (Want.met rfl rfl rfl) rfl rfl (PV.bytesStr (l := encOps (la ++ lb)) rfl Try.underlying27 Try.underlying5 Try.underlying9 rfl (Hb.src (fun _ h => h.1))) ?_
                            refine TD.take (i := 38) rfl (by kernel_rfl) (by kernel_rfl) (by kernel_rfl) (fun _ _ _ _ h => h) (Want.met rfl rfl rfl) rfl rfl (PV.strEql (a := encOps (la ++ lb)) (b := encOps la ++ encOps lb) rfl rfl rfl) ?_
                            refine TD.take (i := 39) rfl (by kernel_rfl) (by kernel_rfl) (by kernel_rfl) (fun _ _ _ _ h => h) (Want.plain rfl) rfl rfl (PV.pick rfl rfl rfl) ?_
                            refine TD.take (i := 40) rfl (by kernel_rfl) (by kernel_rfl) (by kernel_rfl) (fun _ _ _ _ h => h) (Want.plain rfl) rfl rfl (PV.assign rfl rfl) ?_
                            refine TD.done (by kernel_rfl) ?_
                            refine TE.next hK9 ?_
                            clear hK9
                            refine TC.ret ?_
                            refine TE.weak (Sub.refl _) (fun _ s => sep_keep [] rfl s) ?_
                            refine TE.ret1 rfl rfl ?_
                            first | exact ⟨rfl, rfl⟩ | exact ⟨congrArg Value.bool (decide_eq_true (encOps_app la lb)), rfl⟩
                          exact AllT.nil
                        exact AllT.nil
                      refine AllT.cons rfl ?_ ?_
                      · skip
                        refine TL.v (Want.met rfl rfl rfl) rfl rfl (PV.bytesStr (l := encOps lb) rfl Try.underlying27 Try.underlying5 Try.underlying9 rfl (fun _ s => Src.own 7 rfl rfl s)) ?_
                        refine TL.nil ?_
                        refine TE.draw (fun _ s => ⟨s.hb 2 rfl rfl, ⟨s.hb 4 rfl rfl, ⟨Frm.of s, trivial⟩⟩⟩) ?_
                        refine TD.take (i := 37) rfl (by kernel_rfl) (by kernel_rfl) (by kernel_rfl) (fun _ _ _ _ h => h) (Want.met rfl rfl rfl) rfl rfl (PV.strAdd (a := encOps la) (b := encOps lb) rfl rfl rfl (by rw [encOps_len, encOps_len]; omega)) ?_
                        refine TD.all [30] (by kernel_rfl) rfl ?_
                        refine AllT.cons rfl ?_ ?_
                        · skip
                          refine TL.append (k := 0) (news := ints (List.flatMap OpT.flat lb)) (nn' := (la ++ lb).length) (xs' := ints (List.flatMap OpT.flat (la ++ lb))) (Want.met rfl rfl rfl) rfl rfl rfl Try.underlying67 in70 rfl rfl rfl rfl rfl rfl (fun _ _ => IsL.src (by decide) OpT.flat_length hF.2 (fun _ h => Frm.of h)) (ints_one _) (by first | (simp only [maxLen, List.length_nil]; omega) | (simp only [maxLen]; omega)) (by first | omega | (simp only [List.length_nil]; omega)) (by simp) (by simp [ints]) (fun v55 ov55 => ?_)
                          change TL _ _ _ _ _ _ _ _ _ [own v55 ((la ++ lb).length) (ints (List.flatMap OpT.flat (la ++ lb))) 70 11, own ud3 (([]).length) (ints (List.flatMap OpT.flat ([]))) 70 11, ownB ue4 (encOps (opsP (encOps la))) 5, own ud2 ((opsP (encOps la)).length) (ints (List.flatMap OpT.flat (opsP (encOps la)))) 70 11, ownB ue3 (encOps ((opsP (encOps la ++ encOps lb)).take la.length)) 5, own (.slice a7 (opsP (encOps la ++ encOps lb)).length cap7) ((opsP (encOps la ++ encOps lb)).length) (ints (List.flatMap OpT.flat (opsP (encOps la ++ encOps lb)))) 70 11, ownB v23 (encOps la ++ encOps lb) 5, ownB ue2 (encOps lb) 5, ownB ue1 (encOps la) 5]
                          refine TL.nil ?_
                          refine TE.draw (fun _ s => ⟨s.hb 2 rfl rfl, ⟨s.hb 4 rfl rfl, ⟨Frm.of s, trivial⟩⟩⟩) ?_
                          refine TD.all [31] (by kernel_rfl) rfl ?_
                          refine AllT.cons rfl ?_ ?_
                          · skip
                            refine TL.callR (A := []) (B := [own v55 ((la ++ lb).length) (ints (List.flatMap OpT.flat (la ++ lb))) 70 11, own ud3 (([]).length) (ints (List.flatMap OpT.flat ([]))) 70 11, ownB ue4 (encOps (opsP (encOps la))) 5, own ud2 ((opsP (encOps la)).length) (ints (List.flatMap OpT.flat (opsP (encOps la)))) 70 11, ownB ue3 (encOps ((opsP (encOps la ++ encOps lb)).take la.length)) 5, own (.slice a7 (opsP (encOps la ++ encOps lb)).length cap7) ((opsP (encOps la ++ encOps lb)).length) (ints (List.flatMap OpT.flat (opsP (encOps la ++ encOps lb)))) 70 11, ownB v23 (encOps la ++ encOps lb) 5, ownB ue2 (encOps lb) 5, ownB ue1 (encOps la) 5]) (Want.met rfl rfl rfl) rfl rfl rfl nm27 rfl (opsEncode_does v55 (la ++ lb) (by simp only [List.length_append]; omega)) (fun _ s => s) (isF_own OpT.flat_length 0 rfl rfl) (fun vR HR hR => ?_)
                            obtain ⟨_, rfl, rfl⟩ := hR
                            revert vR
                            intro ue5
                            change TL _ _ _ _ _ _ _ _ _ [ownB ue5 (encOps (la ++ lb)) 5, own v55 ((la ++ lb).length) (ints (List.flatMap OpT.flat (la ++ lb))) 70 11, own ud3 (([]).length) (ints (List.flatMap OpT.flat ([]))) 70 11, ownB ue4 (encOps (opsP (encOps la))) 5, own ud2 ((opsP (encOps la)).length) (ints (List.flatMap OpT.flat (opsP (encOps la)))) 70 11, ownB ue3 (encOps ((opsP (encOps la ++ encOps lb)).take la.length)) 5, own (.slice a7 (opsP (encOps la ++ encOps lb)).length cap7) ((opsP (encOps la ++ encOps lb)).length) (ints (List.flatMap OpT.flat (opsP (encOps la ++ encOps lb)))) 70 11, ownB v23 (encOps la ++ encOps lb) 5, ownB ue2 (encOps lb) 5, ownB ue1 (encOps la) 5]
                            refine TL.ownLen 0 rfl rfl (fun hlue5 _ => ?_)
                            refine TL.nil ?_
                            refine TE.draw (fun _ s => ⟨s.hb 3 rfl rfl, ⟨s.hb 5 rfl rfl, ⟨Frm.of s, trivial⟩⟩⟩) ?_
                            refine TD.more (Hb ue5 (encOps (la ++ lb))) (fun _ s => s.hb 0 rfl rfl) ?_
                            refine TD.take (i := 32) rfl (by kernel_rfl) (by kernel_rfl) (by kernel_rfl) (fun _ _ _ _ h => h) (Want.met rfl rfl rfl) rfl rfl (PV.bytesStr (l := encOps (la ++ lb)) rfl Try.underlying27 Try.underlying5 Try.underlying9 rfl (Hb.src (fun _ h => h.1))) ?_
                            refine TD.take (i := 38) rfl (by kernel_rfl) (by kernel_rfl) (by kernel_rfl) (fun _ _ _ _ h => h) (Want.met rfl rfl rfl) rfl rfl (PV.strEql (a := encOps (la ++ lb)) (b := encOps la ++ encOps lb) rfl rfl rfl) ?_
                            refine TD.take (i := 39) rfl (by kernel_rfl) (by kernel_rfl) (by kernel_rfl) (fun _ _ _ _ h => h) (Want.plain rfl) rfl rfl (PV.pick rfl rfl rfl) ?_
                            refine TD.take (i := 40) rfl (by kernel_rfl) (by kernel_rfl) (by kernel_rfl) (fun _ _ _ _ h => h) (Want.plain rfl) rfl rfl (PV.assign rfl rfl) ?_
                            refine TD.done (by kernel_rfl) ?_
                            refine TE.next hK9 ?_
                            clear hK9
                            refine TC.ret ?_
                            refine TE.weak (Sub.refl _) (fun _ s => sep_keep [] rfl s) ?_
                            refine TE.ret1 rfl rfl ?_
                            first | exact ⟨rfl, rfl⟩ | exact ⟨congrArg Value.bool (decide_eq_true (encOps_app la lb)), rfl⟩
                          exact AllT.nil
                        exact AllT.nil
                      exact AllT.nil
                    refine AllT.cons rfl ?_ ?_
                    · skip
                      refine TL.v (Want.met rfl rfl rfl) rfl rfl (PV.bytesStr (l := encOps lb) rfl Try.underlying27 Try.underlying5 Try.underlying9 rfl (fun _ s => Src.own 6 rfl rfl s)) ?_
                      refine TL.nil ?_
                      refine TE.draw (fun _ s => ⟨s.hb 1 rfl rfl, ⟨s.hb 3 rfl rfl, ⟨Frm.of s, trivial⟩⟩⟩) ?_
                      refine TD.take (i := 37) rfl (by kernel_rfl) (by kernel_rfl) (by kernel_rfl) (fun _ _ _ _ h => h) (Want.met rfl rfl rfl) rfl rfl (PV.strAdd (a := encOps la) (b := encOps lb) rfl rfl rfl (by rw [encOps_len, encOps_len]; omega)) ?_
                      refine TD.all [28] (by kernel_rfl) rfl ?_
                      refine AllT.cons rfl ?_ ?_
                      · skip
                        refine TL.ownNilI 70 11 (fun on => ?_)
                        clear on
                        change TL _ _ _ _ _ _ _ _ _ [own (.slice none 0 0) (([] : List OpT).length) (ints (List.flatMap OpT.flat ([] : List OpT))) 70 11, own ud3 (([]).length) (ints (List.flatMap OpT.flat ([]))) 70 11, ownB ue4 (encOps (opsP (encOps la))) 5, own ud2 ((opsP (encOps la)).length) (ints (List.flatMap OpT.flat (opsP (encOps la)))) 70 11, ownB ue3 (encOps ((opsP (encOps la ++ encOps lb)).take la.length)) 5, own (.slice a7 (opsP (encOps la ++ encOps lb)).length cap7) ((opsP (encOps la ++ encOps lb)).length) (ints (List.flatMap OpT.flat (opsP (encOps la ++ encOps lb)))) 70 11, ownB v23 (encOps la ++ encOps lb) 5, ownB ue2 (encOps lb) 5, ownB ue1 (encOps la) 5]
                        refine TL.append (k := 0) (news := ints (List.flatMap OpT.flat la)) (nn' := la.length) (xs' := ints (List.flatMap OpT.flat la)) (Want.met rfl rfl rfl) rfl rfl rfl Try.underlying67 in70 rfl rfl rfl rfl rfl rfl (fun _ _ => IsL.src (by decide) OpT.flat_length hF.1 (fun _ h => Frm.of h)) (ints_one _) (by first | (simp only [maxLen, List.length_nil]; omega) | (simp only [maxLen]; omega)) (by first | omega | (simp only [List.length_nil]; omega)) (by simp) (by simp [ints]) (fun v53 ov53 => ?_)
                        change TL _ _ _ _ _ _ _ _ _ [own v53 (la.length) (ints (List.flatMap OpT.flat la)) 70 11, own ud3 (([]).length) (ints (List.flatMap OpT.flat ([]))) 70 11, ownB ue4 (encOps (opsP (encOps la))) 5, own ud2 ((opsP (encOps la)).length) (ints (List.flatMap OpT.flat (opsP (encOps la)))) 70 11, ownB ue3 (encOps ((opsP (encOps la ++ encOps lb)).take la.length)) 5, own (.slice a7 (opsP (encOps la ++ encOps lb)).length cap7) ((opsP (encOps la ++ encOps lb)).length) (ints (List.flatMap OpT.flat (opsP (encOps la ++ encOps lb)))) 70 11, ownB v23 (encOps la ++ encOps lb) 5, ownB ue2 (encOps lb) 5, ownB ue1 (encOps la) 5]
                        refine TL.nil ?_
                        refine TE.draw (fun _ s => ⟨s.hb 2 rfl rfl, ⟨s.hb 4 rfl rfl, ⟨Frm.of s, trivial⟩⟩⟩) ?_
                        refine TD.all [30] (by kernel_rfl) rfl ?_
                        refine AllT.cons rfl ?_ ?_
                        · skip
                          refine TL.append (k := 0) (news := ints (List.flatMap OpT.flat lb)) (nn' := (la ++ lb).length) (xs' := ints (List.flatMap OpT.flat (la ++ lb))) (Want.met rfl rfl rfl) rfl rfl rfl Try.underlying67 in70 rfl rfl rfl rfl rfl rfl (fun _ _ => IsL.src (by decide) OpT.flat_length hF.2 (fun _ h => Frm.of h)) (ints_one _) (by first | (simp only [maxLen, List.length_nil]; omega) | (simp only [maxLen]; omega)) (by first | omega | (simp only [List.length_nil]; omega)) (by simp) (by simp [ints]) (fun v55 ov55 => ?_)
                          change TL _ _ _ _ _ _ _ _ _ [own v55 ((la ++ lb).length) (ints (List.flatMap OpT.flat (la ++ lb))) 70 11, own ud3 (([]).length) (ints (List.flatMap OpT.flat ([]))) 70 11, ownB ue4 (encOps (opsP (encOps la))) 5, own ud2 ((opsP (encOps la)).length) (ints (List.flatMap OpT.flat (opsP (encOps la)))) 70 11, ownB ue3 (encOps ((opsP (encOps la ++ encOps lb)).take la.length)) 5, own (.slice a7 (opsP (encOps la ++ encOps lb)).length cap7) ((opsP (encOps la ++ encOps lb)).length) (ints (List.flatMap OpT.flat (opsP (encOps la ++ encOps lb)))) 70 11, ownB v23 (encOps la ++ encOps lb) 5, ownB ue2 (encOps lb) 5, ownB ue1 (encOps la) 5]
                          refine TL.nil ?_
                          refine TE.draw (fun _ s => ⟨s.hb 2 rfl rfl, ⟨s.hb 4 rfl rfl, ⟨Frm.of s, trivial⟩⟩⟩) ?_
                          refine TD.all [31] (by kernel_rfl) rfl ?_
                          refine AllT.cons rfl ?_ ?_
                          · skip
                            refine TL.callR (A := []) (B := [own v55 ((la ++ lb).length) (ints (List.flatMap OpT.flat (la ++ lb))) 70 11, own ud3 (([]).length) (ints (List.flatMap OpT.flat ([]))) 70 11, ownB ue4 (encOps (opsP (encOps la))) 5, own ud2 ((opsP (encOps la)).length) (ints (List.flatMap OpT.flat (opsP (encOps la)))) 70 11, ownB ue3 (encOps ((opsP (encOps la ++ encOps lb)).take la.length)) 5, own (.slice a7 (opsP (encOps la ++ encOps lb)).length cap7) ((opsP (encOps la ++ encOps lb)).length) (ints (List.flatMap OpT.flat (opsP (encOps la ++ encOps lb)))) 70 11, ownB v23 (encOps la ++ encOps lb) 5, ownB ue2 (encOps lb) 5, ownB ue1 (encOps la) 5]) (Want.met rfl rfl rfl) rfl rfl rfl nm27 rfl (opsEncode_does v55 (la ++ lb) (by simp only [List.length_append]; omega)) (fun _ s => s) (isF_own OpT.flat_length 0 rfl rfl) (fun vR HR hR => ?_)
                            obtain ⟨_, rfl, rfl⟩ := hR
                            revert vR
                            intro ue5
                            change TL _ _ _ _ _ _ _ _ _ [ownB ue5 (encOps (la ++ lb)) 5, own v55 ((la ++ lb).length) (ints (List.flatMap OpT.flat (la ++ lb))) 70 11, own ud3 (([]).length) (ints (List.flatMap OpT.flat ([]))) 70 11, ownB ue4 (encOps (opsP (encOps la))) 5, own ud2 ((opsP (encOps la)).length) (ints (List.flatMap OpT.flat (opsP (encOps la)))) 70 11, ownB ue3 (encOps ((opsP (encOps la ++ encOps lb)).take la.length)) 5, own (.slice a7 (opsP (encOps la ++ encOps lb)).length cap7) ((opsP (encOps la ++ encOps lb)).length) (ints (List.flatMap OpT.flat (opsP (encOps la ++ encOps lb)))) 70 11, ownB v23 (encOps la ++ encOps lb) 5, ownB ue2 (encOps lb) 5, ownB ue1 (encOps la) 5]
                            refine TL.ownLen 0 rfl rfl (fun hlue5 _ => ?_)
                            refine TL.nil ?_
                            refine TE.draw (fun _ s => ⟨s.hb 3 rfl rfl, ⟨s.hb 5 rfl rfl, ⟨Frm.of s, trivial⟩⟩⟩) ?_
                            refine TD.more (Hb ue5 (encOps (la ++ lb))) (fun _ s => s.hb 0 rfl rfl) ?_
                            refine TD.take (i := 32) rfl (by kernel_rfl) (by kernel_rfl) (by kernel_rfl) (fun _ _ _ _ h => h) (Want.met rfl rfl rfl) rfl rfl (PV.bytesStr (l := encOps (la ++ lb)) rfl Try.underlying27 Try.underlying5 Try.underlying9 rfl (Hb.src (fun _ h => h.1))) ?_
                            refine TD.take (i := 38) rfl (by kernel_rfl) (by kernel_rfl) (by kernel_rfl) (fun _ _ _ _ h => h) (Want.met rfl rfl rfl) rfl rfl (PV.strEql (a := encOps (la ++ lb)) (b := encOps la ++ encOps lb) rfl rfl rfl) ?_
                            refine TD.take (i := 39) rfl (by kernel_rfl) (by kernel_rfl) (by kernel_rfl) (fun _ _ _ _ h => h) (Want.plain rfl) rfl rfl (PV.pick rfl rfl rfl) ?_
                            refine TD.take (i := 40) rfl (by kernel_rfl) (by kernel_rfl) (by kernel_rfl) (fun _ _ _ _ h => h) (Want.plain rfl) rfl rfl (PV.assign rfl rfl) ?_
                            refine TD.done (by kernel_rfl) ?_
                            refine TE.next hK9 ?_
                            clear hK9
                            refine TC.ret ?_
                            refine TE.weak (Sub.refl _) (fun _ s => sep_keep [] rfl s) ?_
                            refine TE.ret1 rfl rfl ?_
                            first | exact ⟨rfl, rfl⟩ | exact ⟨congrArg Value.bool (decide_eq_true (encOps_app la lb)), rfl⟩
                          exact AllT.nil
                        exact AllT.nil
                      exact AllT.nil
                    exact AllT.nil
                  refine AllT.cons rfl ?_ ?_
                  · skip
                    refine TL.v (Want.met rfl rfl rfl) rfl rfl (PV.bytesStr (l := encOps lb) rfl Try.underlying27 Try.underlying5 Try.underlying9 rfl (fun _ s => Src.own 6 rfl rfl s)) ?_
                    refine TL.nil ?_
                    refine TE.draw (fun _ s => ⟨s.hb 1 rfl rfl, ⟨s.hb 3 rfl rfl, ⟨Frm.of s, trivial⟩⟩⟩) ?_
                    refine TD.all [28, 34] (by kernel_rfl) rfl ?_
                    refine AllT.cons rfl ?_ ?_
                    · skip
                      refine TL.ownNilI 70 11 (fun on => ?_)
                      clear on
                      change TL _ _ _ _ _ _ _ _ _ [own (.slice none 0 0) (([] : List OpT).length) (ints (List.flatMap OpT.flat ([] : List OpT))) 70 11, own ud3 (([]).length) (ints (List.flatMap OpT.flat ([]))) 70 11, ownB ue4 (encOps (opsP (encOps la))) 5, own ud2 ((opsP (encOps la)).length) (ints (List.flatMap OpT.flat (opsP (encOps la)))) 70 11, ownB ue3 (encOps ((opsP (encOps la ++ encOps lb)).take la.length)) 5, own (.slice a7 (opsP (encOps la ++ encOps lb)).length cap7) ((opsP (encOps la ++ encOps lb)).length) (ints (List.flatMap OpT.flat (opsP (encOps la ++ encOps lb)))) 70 11, ownB v23 (encOps la ++ encOps lb) 5, ownB ue2 (encOps lb) 5, ownB ue1 (encOps la) 5]
                      refine TL.append (k := 0) (news := ints (List.flatMap OpT.flat la)) (nn' := la.length) (xs' := ints (List.flatMap OpT.flat la)) (Want.met rfl rfl rfl) rfl rfl rfl Try.underlying67 in70 rfl rfl rfl rfl rfl rfl (fun _ _ => IsL.src (by decide) OpT.flat_length hF.1 (fun _ h => Frm.of h)) (ints_one _) (by first | (simp only [maxLen, List.length_nil]; omega) | (simp only [maxLen]; omega)) (by first | omega | (simp only [List.length_nil]; omega)) (by simp) (by simp [ints]) (fun v53 ov53 => ?_)
                      change TL _ _ _ _ _ _ _ _ _ [own v53 (la.length) (ints (List.flatMap OpT.flat la)) 70 11, own ud3 (([]).length) (ints (List.flatMap OpT.flat ([]))) 70 11, ownB ue4 (encOps (opsP (encOps la))) 5, own ud2 ((opsP (encOps la)).length) (ints (List.flatMap OpT.flat (opsP (encOps la)))) 70 11, ownB ue3 (encOps ((opsP (encOps la ++ encOps lb)).take la.length)) 5, own (.slice a7 (opsP (encOps la ++ encOps lb)).length cap7) ((opsP (encOps la ++ encOps lb)).length) (ints (List.flatMap OpT.flat (opsP (encOps la ++ encOps lb)))) 70 11, ownB v23 (encOps la ++ encOps lb) 5, ownB ue2 (encOps lb) 5, ownB ue1 (encOps la) 5]
                      refine TL.nil ?_
                      refine TE.draw (fun _ s => ⟨s.hb 2 rfl rfl, ⟨s.hb 4 rfl rfl, ⟨Frm.of s, trivial⟩⟩⟩) ?_
                      refine TD.all [30, 34] (by kernel_rfl) rfl ?_
                      refine AllT.cons rfl ?_ ?_
                      · skip
                        refine TL.append (k := 0) (news := ints (List.flatMap OpT.flat lb)) (nn' := (la ++ lb).length) (xs' := ints (List.flatMap OpT.flat (la ++ lb))) (Want.met rfl rfl rfl) rfl rfl rfl Try.underlying67 in70 rfl rfl rfl rfl rfl rfl (fun _ _ => IsL.src (by decide) OpT.flat_length hF.2 (fun _ h => Frm.of h)) (ints_one _) (by first | (simp only [maxLen, List.length_nil]; omega) | (simp only [maxLen]; omega)) (by first | omega | (simp only [List.length_nil]; omega)) (by simp) (by simp [ints]) (fun v55 ov55 => ?_)
                        change TL _ _ _ _ _ _ _ _ _ [own v55 ((la ++ lb).length) (ints (List.flatMap OpT.flat (la ++ lb))) 70 11, own ud3 (([]).length) (ints (List.flatMap OpT.flat ([]))) 70 11, ownB ue4 (encOps (opsP (encOps la))) 5, own ud2 ((opsP (encOps la)).length) (ints (List.flatMap OpT.flat (opsP (encOps la)))) 70 11, ownB ue3 (encOps ((opsP (encOps la ++ encOps lb)).take la.length)) 5, own (.slice a7 (opsP (encOps la ++ encOps lb)).length cap7) ((opsP (encOps la ++ encOps lb)).length) (ints (List.flatMap OpT.flat (opsP (encOps la ++ encOps lb)))) 70 11, ownB v23 (encOps la ++ encOps lb) 5, ownB ue2 (encOps lb) 5, ownB ue1 (encOps la) 5]
                        refine TL.nil ?_
                        refine TE.draw (fun _ s => ⟨s.hb 2 rfl rfl, ⟨s.hb 4 rfl rfl, ⟨Frm.of s, trivial⟩⟩⟩) ?_
                        refine TD.all [31, 34] (by kernel_rfl) rfl ?_
                        refine AllT.cons rfl ?_ ?_
                        · skip
                          refine TL.callR (A := []) (B := [own v55 ((la ++ lb).length) (ints (List.flatMap OpT.flat (la ++ lb))) 70 11, own ud3 (([]).length) (ints (List.flatMap OpT.flat ([]))) 70 11, ownB ue4 (encOps (opsP (encOps la))) 5, own ud2 ((opsP (encOps la)).length) (ints (List.flatMap OpT.flat (opsP (encOps la)))) 70 11, ownB ue3 (encOps ((opsP (encOps la ++ encOps lb)).take la.length)) 5, own (.slice a7 (opsP (encOps la ++ encOps lb)).length cap7) ((opsP (encOps la ++ encOps lb)).length) (ints (List.flatMap OpT.flat (opsP (encOps la ++ encOps lb)))) 70 11, ownB v23 (encOps la ++ encOps lb) 5, ownB ue2 (encOps lb) 5, ownB ue1 (encOps la) 5]) (Want.met rfl rfl rfl) rfl rfl rfl nm27 rfl (opsEncode_does v55 (la ++ lb) (by simp only [List.length_append]; omega)) (fun _ s => s) (isF_own OpT.flat_length 0 rfl rfl) (fun vR HR hR => ?_)
                          obtain ⟨_, rfl, rfl⟩ := hR
                          revert vR
                          intro ue5
                          change TL _ _ _ _ _ _ _ _ _ [ownB ue5 (encOps (la ++ lb)) 5, own v55 ((la ++ lb).length) (ints (List.flatMap OpT.flat (la ++ lb))) 70 11, own ud3 (([]).length) (ints (List.flatMap OpT.flat ([]))) 70 11, ownB ue4 (encOps (opsP (encOps la))) 5, own ud2 ((opsP (encOps la)).length) (ints (List.flatMap OpT.flat (opsP (encOps la)))) 70 11, ownB ue3 (encOps ((opsP (encOps la ++ encOps lb)).take la.length)) 5, own (.slice a7 (opsP (encOps la ++ encOps lb)).length cap7) ((opsP (encOps la ++ encOps lb)).length) (ints (List.flatMap OpT.flat (opsP (encOps la ++ encOps lb)))) 70 11, ownB v23 (encOps la ++ encOps lb) 5, ownB ue2 (encOps lb) 5, ownB ue1 (encOps la) 5]
                          refine TL.ownLen 0 rfl rfl (fun hlue5 _ => ?_)
                          refine TL.nil ?_
                          refine TE.draw (fun _ s => ⟨s.hb 3 rfl rfl, ⟨s.hb 5 rfl rfl, ⟨Frm.of s, trivial⟩⟩⟩) ?_
                          refine TD.more (Hb ue5 (encOps (la ++ lb))) (fun _ s => s.hb 0 rfl rfl) ?_
                          refine TD.take (i := 32) rfl (by kernel_rfl) (by kernel_rfl) (by kernel_rfl) (fun _ _ _ _ h => h) (Want.met rfl rfl rfl) rfl rfl (PV.bytesStr (l := encOps (la ++ lb)) rfl Try.underlying27 Try.underlying5 Try.underlying9 rfl (Hb.src (fun _ h => h.1))) ?_
                          refine TD.all [34] (by kernel_rfl) rfl ?_
                          refine AllT.cons rfl ?_ ?_
                          · skip
                            refine TL.v (Want.met rfl rfl rfl) rfl rfl (PV.bytesStr (l := encOps la) rfl Try.underlying27 Try.underlying5 Try.underlying9 rfl (fun _ s => Src.own 9 rfl rfl s)) ?_
                            refine TL.nil ?_
                            refine TE.draw (fun _ s => ⟨s.hb 0 rfl rfl, ⟨s.hb 3 rfl rfl, ⟨s.hb 5 rfl rfl, ⟨Frm.of s, trivial⟩⟩⟩⟩) ?_
                            refine TD.take (i := 37) rfl (by kernel_rfl) (by kernel_rfl) (by kernel_rfl) (fun _ _ _ _ h => h) (Want.met rfl rfl rfl) rfl rfl (PV.strAdd (a := encOps la) (b := encOps lb) rfl rfl rfl (by rw [encOps_len, encOps_len]; omega)) ?_
                            refine TD.take (i := 38) rfl (by kernel_rfl) (by kernel_rfl) (by kernel_rfl) (fun _ _ _ _ h => h) (Want.met rfl rfl rfl) rfl rfl (PV.strEql (a := encOps (la ++ lb)) (b := encOps la ++ encOps lb) rfl rfl rfl) ?_
                            refine TD.take (i := 39) rfl (by kernel_rfl) (by kernel_rfl) (by kernel_rfl) (fun _ _ _ _ h => h) (Want.plain rfl) rfl rfl (PV.pick rfl rfl rfl) ?_
                            refine TD.take (i := 40) rfl (by kernel_rfl) (by kernel_rfl) (by kernel_rfl) (fun _ _ _ _ h => h) (Want.plain rfl) rfl rfl (PV.assign rfl rfl) ?_
                            refine TD.done (by kernel_rfl) ?_
                            refine TE.next hK9 ?_
                            clear hK9
                            refine TC.ret ?_
                            refine TE.weak (Sub.refl _) (fun _ s => sep_keep [] rfl s) ?_
                            refine TE.ret1 rfl rfl ?_
                            first | exact ⟨rfl, rfl⟩ | exact ⟨congrArg Value.bool (decide_eq_true (encOps_app la lb)), rfl⟩
                          exact AllT.nil
                        refine AllT.cons rfl ?_ ?_
                        · skip
                          refine TL.v (Want.met rfl rfl rfl) rfl rfl (PV.bytesStr (l := encOps la) rfl Try.underlying27 Try.underlying5 Try.underlying9 rfl (fun _ s => Src.own 8 rfl rfl s)) ?_
                          refine TL.nil ?_
                          refine TE.draw (fun _ s => ⟨s.hb 2 rfl rfl, ⟨s.hb 4 rfl rfl, ⟨Frm.of s, trivial⟩⟩⟩) ?_
                          refine TD.take (i := 37) rfl (by kernel_rfl) (by kernel_rfl) (by kernel_rfl) (fun _ _ _ _ h => h) (Want.met rfl rfl rfl) rfl rfl (PV.strAdd (a := encOps la) (b := encOps lb) rfl rfl rfl (by rw [encOps_len, encOps_len]; omega)) ?_
                          refine TD.all [31] (by kernel_rfl) rfl ?_
                          refine AllT.cons rfl ?_ ?_
                          · skip
                            refine TL.callR (A := []) (B := [own v55 ((la ++ lb).length) (ints (List.flatMap OpT.flat (la ++ lb))) 70 11, own ud3 (([]).length) (ints (List.flatMap OpT.flat ([]))) 70 11, ownB ue4 (encOps (opsP (encOps la))) 5, own ud2 ((opsP (encOps la)).length) (ints (List.flatMap OpT.flat (opsP (encOps la)))) 70 11, ownB ue3 (encOps ((opsP (encOps la ++ encOps lb)).take la.length)) 5, own (.slice a7 (opsP (encOps la ++ encOps lb)).length cap7) ((opsP (encOps la ++ encOps lb)).length) (ints (List.flatMap OpT.flat (opsP (encOps la ++ encOps lb)))) 70 11, ownB v23 (encOps la ++ encOps lb) 5, ownB ue2 (encOps lb) 5, ownB ue1 (encOps la) 5]) (Want.met rfl rfl rfl) rfl rfl rfl nm27 rfl (opsEncode_does v55 (la ++ lb) (by simp only [List.length_append]; omega)) (fun _ s => s) (isF_own OpT.flat_length 0 rfl rfl) (fun vR HR hR => ?_)
                            obtain ⟨_, rfl, rfl⟩ := hR
                            revert vR
                            intro ue5
                            change TL _ _ _ _ _ _ _ _ _ [ownB ue5 (encOps (la ++ lb)) 5, own v55 ((la ++ lb).length) (ints (List.flatMap OpT.flat (la ++ lb))) 70 11, own ud3 (([]).length) (ints (List.flatMap OpT.flat ([]))) 70 11, ownB ue4 (encOps (opsP (encOps la))) 5, own ud2 ((opsP (encOps la)).length) (ints (List.flatMap OpT.flat (opsP (encOps la)))) 70 11, ownB ue3 (encOps ((opsP (encOps la ++ encOps lb)).take la.length)) 5, own (.slice a7 (opsP (encOps la ++ encOps lb)).length cap7) ((opsP (encOps la ++ encOps lb)).length) (ints (List.flatMap OpT.flat (opsP (encOps la ++ encOps lb)))) 70 11, ownB v23 (encOps la ++ encOps lb) 5, ownB ue2 (encOps lb) 5, ownB ue1 (encOps la) 5]
                            refine TL.ownLen 0 rfl rfl (fun hlue5 _ => ?_)
                            refine TL.nil ?_
                            refine TE.draw (fun _ s => ⟨s.hb 3 rfl rfl, ⟨s.hb 5 rfl rfl, ⟨Frm.of s, trivial⟩⟩⟩) ?_
                            refine TD.more (Hb ue5 (encOps (la ++ lb))) (fun _ s => s.hb 0 rfl rfl) ?_
                            refine TD.take (i := 32) rfl (by kernel_rfl) (by kernel_rfl) (by kernel_rfl) (fun _ _ _ _ h => h) (Want.met rfl rfl rfl) rfl rfl (PV.bytesStr (l := encOps (la ++ lb)) rfl Try.underlying27 Try.underlying5 Try.underlying9 rfl (Hb.src (fun _ h => h.1))) ?_
                            refine TD.take (i := 38) rfl (by kernel_rfl) (by kernel_rfl) (by kernel_rfl) (fun _ _ _ _ h => h) (Want.met rfl rfl rfl) rfl rfl (PV.strEql (a := encOps (la ++ lb)) (b := encOps la ++ encOps lb) rfl rfl rfl) ?_
                            refine TD.take (i := 39) rfl (by kernel_rfl) (by kernel_rfl) (by kernel_rfl) (fun _ _ _ _ h => h) (Want.plain rfl) rfl rfl (PV.pick rfl rfl rfl) ?_
                            refine TD.take (i := 40) rfl (by kernel_rfl) (by kernel_rfl) (by kernel_rfl) (fun _ _ _ _ h => h) (Want.plain rfl) rfl rfl (PV.assign rfl rfl) ?_
                            refine TD.done (by kernel_rfl) ?_
                            refine TE.next hK9 ?_
                            clear hK9
                            refine TC.ret ?_
                            refine TE.weak (Sub.refl _) (fun _ s => sep_keep [] rfl s) ?_
                            refine TE.ret1 rfl rfl ?_
                            first | exact ⟨rfl, rfl⟩ | exact ⟨congrArg Value.bool (decide_eq_true (encOps_app la lb)), rfl⟩
                          exact AllT.nil
                        exact AllT.nil
                      refine AllT.cons rfl ?_ ?_
                      · skip
                        refine TL.v (Want.met rfl rfl rfl) rfl rfl (PV.bytesStr (l := encOps la) rfl Try.underlying27 Try.underlying5 Try.underlying9 rfl (fun _ s => Src.own 8 rfl rfl s)) ?_
                        refine TL.nil ?_
                        refine TE.draw (fun _ s => ⟨s.hb 2 rfl rfl, ⟨s.hb 4 rfl rfl, ⟨Frm.of s, trivial⟩⟩⟩) ?_
                        refine TD.take (i := 37) rfl (by kernel_rfl) (by kernel_rfl) (by kernel_rfl) (fun _ _ _ _ h => h) (Want.met rfl rfl rfl) rfl rfl (PV.strAdd (a := encOps la) (b := encOps lb) rfl rfl rfl (by rw [encOps_len, encOps_len]; omega)) ?_
                        refine TD.all [30] (by kernel_rfl) rfl ?_
                        refine AllT.cons rfl ?_ ?_
                        · skip
                          refine TL.append (k := 0) (news := ints (List.flatMap OpT.flat lb)) (nn' := (la ++ lb).length) (xs' := ints (List.flatMap OpT.flat (la ++ lb))) (Want.met rfl rfl rfl) rfl rfl rfl Try.underlying67 in70 rfl rfl rfl rfl rfl rfl (fun _ _ => IsL.src (by decide) OpT.flat_length hF.2 (fun _ h => Frm.of h)) (ints_one _) (by first | (simp only [maxLen, List.length_nil]; omega) | (simp only [maxLen]; omega)) (by first | omega | (simp only [List.length_nil]; omega)) (by simp) (by simp [ints]) (fun v55 ov55 => ?_)
                          change TL _ _ _ _ _ _ _ _ _ [own v55 ((la ++ lb).length) (ints (List.flatMap OpT.flat (la ++ lb))) 70 11, own ud3 (([]).length) (ints (List.flatMap OpT.flat ([]))) 70 11, ownB ue4 (encOps (opsP (encOps la))) 5, own ud2 ((opsP (encOps la)).length) (ints (List.flatMap OpT.flat (opsP (encOps la)))) 70 11, ownB ue3 (encOps ((opsP (encOps la ++ encOps lb)).take la.length)) 5, own (.slice a7 (opsP (encOps la ++ encOps lb)).length cap7) ((opsP (encOps la ++ encOps lb)).length) (ints (List.flatMap OpT.flat (opsP (encOps la ++ encOps lb)))) 70 11, ownB v23 (encOps la ++ encOps lb) 5, ownB ue2 (encOps lb) 5, ownB ue1 (encOps la) 5]
                          refine TL.nil ?_
                          refine TE.draw (fun _ s => ⟨s.hb 2 rfl rfl, ⟨s.hb 4 rfl rfl, ⟨Frm.of s, trivial⟩⟩⟩) ?_
                          refine TD.all [31] (by kernel_rfl) rfl ?_
                          refine AllT.cons rfl ?_ ?_
                          · skip
                            refine TL.callR (A := []) (B := [own v55 ((la ++ lb).length) (ints (List.flatMap OpT.flat (la ++ lb))) 70 11, own ud3 (([]).length) (ints (List.flatMap OpT.flat ([]))) 70 11, ownB ue4 (encOps (opsP (encOps la))) 5, own ud2 ((opsP (encOps la)).length) (ints (List.flatMap OpT.flat (opsP (encOps la)))) 70 11, ownB ue3 (encOps ((opsP (encOps la ++ encOps lb)).take la.length)) 5, own (.slice a7 (opsP (encOps la ++ encOps lb)).length cap7) ((opsP (encOps la ++ encOps lb)).length) (ints (List.flatMap OpT.flat (opsP (encOps la ++ encOps lb)))) 70 11, ownB v23 (encOps la ++ encOps lb) 5, ownB ue2 (encOps lb) 5, ownB ue1 (encOps la) 5]) (Want.met rfl rfl rfl) rfl rfl rfl nm27 rfl (opsEncode_does v55 (la ++ lb) (by simp only [List.length_append]; omega)) (fun _ s => s) (isF_own OpT.flat_length 0 rfl rfl) (fun vR HR hR => ?_)
                            obtain ⟨_, rfl, rfl⟩ := hR
                            revert vR
                            intro ue5
                            change TL _ _ _ _ _ _ _ _ _ [ownB ue5 (encOps (la ++ lb)) 5, own v55 ((la ++ lb).length) (ints (List.flatMap OpT.flat (la ++ lb))) 70 11, own ud3 (([]).length) (ints (List.flatMap OpT.flat ([]))) 70 11, ownB ue4 (encOps (opsP (encOps la))) 5, own ud2 ((opsP (encOps la)).length) (ints (List.flatMap OpT.flat (opsP (encOps la)))) 70 11, ownB ue3 (encOps ((opsP (encOps la ++ encOps lb)).take la.length)) 5, own (.slice a7 (opsP (encOps la ++ encOps lb)).length cap7) ((opsP (encOps la ++ encOps lb)).length) (ints (List.flatMap OpT.flat (opsP (encOps la ++ encOps lb)))) 70 11, ownB v23 (encOps la ++ encOps lb) 5, ownB ue2 (encOps lb) 5, ownB ue1 (encOps la) 5]
                            refine TL.ownLen 0 rfl rfl (fun hlue5 _ => ?_)
                            refine TL.nil ?_
                            refine TE.draw (fun _ s => ⟨s.hb 3 rfl rfl, ⟨s.hb 5 rfl rfl, ⟨Frm.of s, trivial⟩⟩⟩) ?_
                            refine TD.more (Hb ue5 (encOps (la ++ lb))) (fun _ s => s.hb 0 rfl rfl) ?_
                            refine TD.take (i := 32) rfl (by kernel_rfl) (by kernel_rfl) (by kernel_rfl) (fun _ _ _ _ h => h) (Want.met rfl rfl rfl) rfl rfl (PV.bytesStr (l := encOps (la ++ lb)) rfl Try.underlying27 Try.underlying5 Try.underlying9 rfl (Hb.src (fun _ h => h.1))) ?_
                            refine TD.take (i := 38) rfl (by kernel_rfl) (by kernel_rfl) (by kernel_rfl) (fun _ _ _ _ h => h) (Want.met rfl rfl rfl) rfl rfl (PV.strEql (a := encOps (la ++ lb)) (b := encOps la ++ encOps lb) rfl rfl rfl) ?_
                            refine TD.take (i := 39) rfl (by kernel_rfl) (by kernel_rfl) (by kernel_rfl) (fun _ _ _ _ h => h) (Want.plain rfl) rfl rfl (PV.pick rfl rfl rfl) ?_
                            refine TD.take (i := 40) rfl (by kernel_rfl) (by kernel_rfl) (by kernel_rfl) (fun _ _ _ _ h => h) (Want.plain rfl) rfl rfl (PV.assign rfl rfl) ?_
                            refine TD.done (by kernel_rfl) ?_
                            refine TE.next hK9 ?_
                            clear hK9
                            refine TC.ret ?_
                            refine TE.weak (Sub.refl _) (fun _ s => sep_keep [] rfl s) ?_
                            refine TE.ret1 rfl rfl ?_
                            first | exact ⟨rfl, rfl⟩ | exact ⟨congrArg Value.bool (decide_eq_true (encOps_app la lb)), rfl⟩
                          exact AllT.nil
                        exact AllT.nil
                      exact AllT.nil
                    refine AllT.cons rfl ?_ ?_
                    · skip
                      refine TL.v (Want.met rfl rfl rfl) rfl rfl (PV.bytesStr (l := encOps la) rfl Try.underlying27 Try.underlying5 Try.underlying9 rfl (fun _ s => Src.own 7 rfl rfl s)) ?_
                      refine TL.nil ?_
                      refine TE.draw (fun _ s => ⟨s.hb 1 rfl rfl, ⟨s.hb 3 rfl rfl, ⟨Frm.of s, trivial⟩⟩⟩) ?_
                      refine TD.take (i := 37) rfl (by kernel_rfl) (by kernel_rfl) (by kernel_rfl) (fun _ _ _ _ h => h) (Want.met rfl rfl rfl) rfl rfl (PV.strAdd (a := encOps la) (b := encOps lb) rfl rfl rfl (by rw [encOps_len, encOps_len]; omega)) ?_
                      refine TD.all [28] (by kernel_rfl) rfl ?_
                      refine AllT.cons rfl ?_ ?_
                      · skip
                        refine TL.ownNilI 70 11 (fun on => ?_)
                        clear on
                        change TL _ _ _ _ _ _ _ _ _ [own (.slice none 0 0) (([] : List OpT).length) (ints (List.flatMap OpT.flat ([] : List OpT))) 70 11, own ud3 (([]).length) (ints (List.flatMap OpT.flat ([]))) 70 11, ownB ue4 (encOps (opsP (encOps la))) 5, own ud2 ((opsP (encOps la)).length) (ints (List.flatMap OpT.flat (opsP (encOps la)))) 70 11, ownB ue3 (encOps ((opsP (encOps la ++ encOps lb)).take la.length)) 5, own (.slice a7 (opsP (encOps la ++ encOps lb)).length cap7) ((opsP (encOps la ++ encOps lb)).length) (ints (List.flatMap OpT.flat (opsP (encOps la ++ encOps lb)))) 70 11, ownB v23 (encOps la ++ encOps lb) 5, ownB ue2 (encOps lb) 5, ownB ue1 (encOps la) 5]
                        refine TL.append (k := 0) (news := ints (List.flatMap OpT.flat la)) (nn' := la.length) (xs' := ints (List.flatMap OpT.flat la)) (Want.met rfl rfl rfl) rfl rfl rfl Try.underlying67 in70 rfl rfl rfl rfl rfl rfl (fun _ _ => IsL.src (by decide) OpT.flat_length hF.1 (fun _ h => Frm.of h)) (ints_one _) (by first | (simp only [maxLen, List.length_nil]; omega) | (simp only [maxLen]; omega)) (by first | omega | (simp only [List.length_nil]; omega)) (by simp) (by simp [ints]) (fun v53 ov53 => ?_)
                        change TL _ _ _ _ _ _ _ _ _ [own v53 (la.length) (ints (List.flatMap OpT.flat la)) 70 11, own ud3 (([]).length) (ints (List.flatMap OpT.flat ([]))) 70 11, ownB ue4 (encOps (opsP (encOps la))) 5, own ud2 ((opsP (encOps la)).length) (ints (List.flatMap OpT.flat (opsP (encOps la)))) 70 11, ownB ue3 (encOps ((opsP (encOps la ++ encOps lb)).take la.length)) 5, own (.slice a7 (opsP (encOps la ++ encOps lb)).length cap7) ((opsP (encOps la ++ encOps lb)).length) (ints (List.flatMap OpT.flat (opsP (encOps la ++ encOps lb)))) 70 11, ownB v23 (encOps la ++ encOps lb) 5, ownB ue2 (encOps lb) 5, ownB ue1 (encOps la) 5]
                        refine TL.nil ?_
                        refine TE.draw (fun _ s => ⟨s.hb 2 rfl rfl, ⟨s.hb 4 rfl rfl, ⟨Frm.of s, trivial⟩⟩⟩) ?_
                        refine TD.all [30] (by kernel_rfl) rfl ?_
                        refine AllT.cons rfl ?_ ?_
                        · skip
                          refine TL.append (k := 0) (news := ints (List.flatMap OpT.flat lb)) (nn' := (la ++ lb).length) (xs' := ints (List.flatMap OpT.flat (la ++ lb))) (Want.met rfl rfl rfl) rfl rfl rfl Try.underlying67 in70 rfl rfl rfl rfl rfl rfl (fun _ _ => IsL.src (by decide) OpT.flat_length hF.2 (fun _ h => Frm.of h)) (ints_one _) (by first | (simp only [maxLen, List.length_nil]; omega) | (simp only [maxLen]; omega)) (by first | omega | (simp only [List.length_nil]; omega)) (by simp) (by simp [ints]) (fun v55 ov55 => ?_)
                          change TL _ _ _ _ _ _ _ _ _ [own v55 ((la ++ lb).length) (ints (List.flatMap OpT.flat (la ++ lb))) 70 11, own ud3 (([]).length) (ints (List.flatMap OpT.flat ([]))) 70 11, ownB ue4 (encOps (opsP (encOps la))) 5, own ud2 ((opsP (encOps la)).length) (ints (List.flatMap OpT.flat (opsP (encOps la)))) 70 11, ownB ue3 (encOps ((opsP (encOps la ++ encOps lb)).take la.length)) 5, own (.slice a7 (opsP (encOps la ++ encOps lb)).length cap7) ((opsP (encOps la ++ encOps lb)).length) (ints (List.flatMap OpT.flat (opsP (encOps la ++ encOps lb)))) 70 11, ownB v23 (encOps la ++ encOps lb) 5, ownB ue2 (encOps lb) 5, ownB ue1 (encOps la) 5]
                          refine TL.nil ?_
                          refine TE.draw (fun _ s => ⟨s.hb 2 rfl rfl, ⟨s.hb 4 rfl rfl, ⟨Frm.of s, trivial⟩⟩⟩) ?_
                          refine TD.all [31] (by kernel_rfl) rfl ?_
                          refine AllT.cons rfl ?_ ?_
                          · skip
                            refine TL.callR (A := []) (B := [own v55 ((la ++ lb).length) (ints (List.flatMap OpT.flat (la ++ lb))) 70 11, own ud3 (([]).length) (ints (List.flatMap OpT.flat ([]))) 70 11, ownB ue4 (encOps (opsP (encOps la))) 5, own ud2 ((opsP (encOps la)).length) (ints (List.flatMap OpT.flat (opsP (encOps la)))) 70 11, ownB ue3 (encOps ((opsP (encOps la ++ encOps lb)).take la.length)) 5, own (.slice a7 (opsP (encOps la ++ encOps lb)).length cap7) ((opsP (encOps la ++ encOps lb)).length) (ints (List.flatMap OpT.flat (opsP (encOps la ++ encOps lb)))) 70 11, ownB v23 (encOps la ++ encOps lb) 5, ownB ue2 (encOps lb) 5, ownB ue1 (encOps la) 5]) (Want.met rfl rfl rfl) rfl rfl rfl nm27 rfl (opsEncode_does v55 (la ++ lb) (by simp only [List.length_append]; omega)) (fun _ s => s) (isF_own OpT.flat_length 0 rfl rfl) (fun vR HR hR => ?_)
                            obtain ⟨_, rfl, rfl⟩ := hR
                            revert vR
                            intro ue5
                            change TL _ _ _ _ _ _ _ _ _ [ownB ue5 (encOps (la ++ lb)) 5, own v55 ((la ++ lb).length) (ints (List.flatMap OpT.flat (la ++ lb))) 70 11, own ud3 (([]).length) (ints (List.flatMap OpT.flat ([]))) 70 11, ownB ue4 (encOps (opsP (encOps la))) 5, own ud2 ((opsP (encOps la)).length) (ints (List.flatMap OpT.flat (opsP (encOps la)))) 70 11, ownB ue3 (encOps ((opsP (encOps la ++ encOps lb)).take la.length)) 5, own (.slice a7 (opsP (encOps la ++ encOps lb)).length cap7) ((opsP (encOps la ++ encOps lb)).length) (ints (List.flatMap OpT.flat (opsP (encOps la ++ encOps lb)))) 70 11, ownB v23 (encOps la ++ encOps lb) 5, ownB ue2 (encOps lb) 5, ownB ue1 (encOps la) 5]
                            refine TL.ownLen 0 rfl rfl (fun hlue5 _ => ?_)
                            refine TL.nil ?_
                            refine TE.draw (fun _ s => ⟨s.hb 3 rfl rfl, ⟨s.hb 5 rfl rfl, ⟨Frm.of s, trivial⟩⟩⟩) ?_
                            refine TD.more (Hb ue5 (encOps (la ++ lb))) (fun _ s => s.hb 0 rfl rfl) ?_
                            refine TD.take (i := 32) rfl (by kernel_rfl) (by kernel_rfl) (by kernel_rfl) (fun _ _ _ _ h => h) (Want.met rfl rfl rfl) rfl rfl (PV.bytesStr (l := encOps (la ++ lb)) rfl Try.underlying27 Try.underlying5 Try.underlying9 rfl (Hb.src (fun _ h => h.1))) ?_
                            refine TD.take (i := 38) rfl (by kernel_rfl) (by kernel_rfl) (by kernel_rfl) (fun _ _ _ _ h => h) (Want.met rfl rfl rfl) rfl rfl (PV.strEql (a := encOps (la ++ lb)) (b := encOps la ++ encOps lb) rfl rfl rfl) ?_
                            refine TD.take (i := 39) rfl (by kernel_rfl) (by kernel_rfl) (by kernel_rfl) (fun _ _ _ _ h => h) (Want.plain rfl) rfl rfl (PV.pick rfl rfl rfl) ?_
                            refine TD.take (i := 40) rfl (by kernel_rfl) (by kernel_rfl) (by kernel_rfl) (fun _ _ _ _ h => h) (Want.plain rfl) rfl rfl (PV.assign rfl rfl) ?_
                            refine TD.done (by kernel_rfl) ?_
                            refine TE.next hK9 ?_
                            clear hK9
                            refine TC.ret ?_
                            refine TE.weak (Sub.refl _) (fun _ s => sep_keep [] rfl s) ?_
                            refine TE.ret1 rfl rfl ?_
                            first | exact ⟨rfl, rfl⟩ | exact ⟨congrArg Value.bool (decide_eq_true (encOps_app la lb)), rfl⟩
                          exact AllT.nil
                        exact AllT.nil
                      exact AllT.nil
                    exact AllT.nil
                  exact AllT.nil
                · exact absurd rfl h49
              exact AllT.nil
            · exact absurd (by rw [ops_first]) h44
          exact AllT.nil
        exact AllT.nil
      exact AllT.nil
    · exact absurd (by omega) h32


end Go.Proofs.Ytdekgkmbcdlekaa
