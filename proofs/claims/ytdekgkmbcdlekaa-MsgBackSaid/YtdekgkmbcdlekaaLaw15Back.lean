/-
  MsgBack: what it reckons.
-/

import Derived.Test.YtdekgkmbcdlekaaLaw15F

namespace Go.Proofs.Ytdekgkmbcdlekaa

open Go Leg Codec Api

set_option linter.unusedSimpArgs false
set_option linter.unusedVariables false

set_option maxRecDepth 100000

set_option maxHeartbeats 8000000

theorem sg44 : Try.prog.eqGuardType Try.prog.depth 44 = false := by kernel_rfl
theorem sk44 : Try.prog.keyTypeAt 8 44 = true := by kernel_rfl
theorem fI44 : flatI Try.prog 8 44 = some 192 := by kernel_rfl
theorem fC44 : (match Try.prog.underlying 44 with | some (.struct _) | some (.array _ _) => true | _ => false) = true := by kernel_rfl
theorem cC44 : Try.prog.cellsOf 44 = 192 := by kernel_rfl

theorem msgBack_does (m : MsgT) (x : Value) (l : List ChangeT) (n : Int) (hw : WF m.flat) :
    Does Try.prog 4 #[(.agg (ints m.flat).toArray), x, (.int .i64 (n))] (IsL 3 EC x l) [] (Ret (fun r' H => r' = .bool true ∧ H = [])) := by
  refine Does.body (vs := [(.agg (ints m.flat).toArray), x, (.int .i64 (n))]) (n := 74) Try.func4 rfl rfl rfl (fun w0 F hF => ?_)
  have hwr : WF m.row.flat := fun k hk => hw k (by simp [MsgT.flat, hk])
  refine TC.seq (fun K1 hK1 => ?_)
  refine TC.region ?_
  refine TL.box (Want.plain rfl) rfl rfl rfl rfl (fun b3 => ?_)
  change TL _ _ _ _ _ _ _ _ _ [blkA b3 (ints m.flat) 44]
  refine TL.v (Want.plain rfl) rfl rfl (PV.assign rfl rfl) ?_
  refine TL.nil ?_
  refine TE.next hK1 ?_
  clear hK1
  refine TC.seq (fun K2 hK2 => ?_)
  refine TC.seq (fun K3 hK3 => ?_)
  refine TC.region ?_
  refine TL.callR (A := []) (B := [blkA b3 (ints m.flat) 44]) (Want.plain rfl) rfl rfl rfl nm10 rfl (fit_does) (fun _ s => s) (fun _ _ _ => trivial) (fun vR HR hR => ?_)
  obtain ⟨rfl, rfl⟩ := hR
  change TL _ _ _ _ _ _ _ _ _ [blkA b3 (ints m.flat) 44]
  refine TL.v (Want.plain rfl) rfl rfl (PV.not (r := false) rfl rfl rfl) ?_
  refine TL.nil ?_
  refine TE.next hK3 ?_
  clear hK3
  refine TC.no rfl ?_
  refine TC.skip ?_
  refine TE.next hK2 ?_
  clear hK2
  refine TC.seq (fun K4 hK4 => ?_)
  refine TC.seq (fun K5 hK5 => ?_)
  refine TC.region ?_
  refine TL.v (Want.plain rfl) rfl rfl (PV.move rfl rfl) ?_
  refine TL.v (Want.plain rfl) rfl rfl (PV.lenV rfl Try.underlying52 rfl hF.len) ?_
  refine TL.v (Want.plain rfl) rfl rfl (PV.gtr rfl rfl rfl) ?_
  refine TL.dec (fun h18 => ?_) (fun h18 => ?_)
  · skip
    refine TL.v (Want.plain rfl) rfl rfl (PV.move rfl rfl) ?_
    refine TL.unmet (b := true) rfl rfl rfl rfl (lb rfl) ?_
    refine TL.unmet (b := true) rfl rfl rfl rfl (lb rfl) ?_
    refine TL.unmet (b := true) rfl rfl rfl rfl (lb rfl) ?_
    refine TL.unmet (b := true) rfl rfl rfl rfl (lb rfl) ?_
    refine TL.v (Want.plain rfl) rfl rfl (PV.pick rfl rfl rfl) ?_
    refine TL.nil ?_
    refine TE.next hK5 ?_
    clear hK5
    refine TC.yes rfl ?_
    refine TC.seq (fun K6 hK6 => ?_)
    refine TC.region ?_
    refine TL.v (Want.plain rfl) rfl rfl (PV.assign rfl rfl) ?_
    refine TL.nil ?_
    refine TE.next hK6 ?_
    clear hK6
    refine TC.ret ?_
    refine TE.passRet ?_
    clear hK4
    refine TE.weak (Sub.refl _) (fun _ s => sep_keep [] rfl s) ?_
    refine TE.ret1 rfl rfl ?_
    exact ⟨rfl, rfl⟩
  · skip
    refine TL.v (Want.plain rfl) rfl rfl (PV.move rfl rfl) ?_
    refine TL.v (Want.met rfl rfl rfl) rfl rfl (PV.fieldAddr (r := 2) rfl Try.underlying44 rfl sz38 rfl rfl) ?_
    refine TL.v (Want.met rfl rfl rfl) rfl rfl (PV.loadN (vs := ints m.row.flat) rfl Try.underlying38 rfl sz38 rfl (Rd.own 0 rfl rfl) (RowT.len m.row) (MsgT.sub_row m 0 rfl (by decide) (whole (RowT.len m.row)))) ?_
    refine TL.callR (A := []) (B := [blkA b3 (ints m.flat) 44]) (Want.met rfl rfl rfl) rfl rfl rfl nm17 rfl (right04_does m.row hwr) (fun _ s => s) (fun _ _ _ => trivial) (fun vR HR hR => ?_)
    obtain ⟨bok, rfl, hbok, rfl⟩ := hR
    change TL _ _ _ _ _ _ _ _ _ [blkA b3 (ints m.flat) 44]
    refine TL.decB (fun h22 => ?_) (fun h22 => ?_)
    · skip
      have hrow : rightR m.row = true := hbok h22
      obtain ⟨hg, he⟩ := behind_good (l := l) (by omega)
      have hM : OkM (fullM m (behindV l)) := OkM.full (TameR.of hwr hrow) (hg.okV (by omega))
      have ho : okM (fullM m (behindV l)) = true := okM_full hrow hg.right
      have hp0 : 0 < (encM (tameM m (behindV l))).length := by rw [show (tameM m (behindV l)) = normM (fullM m (behindV l)) from rfl]; rw [encM_norm hM]; exact encM_pos hM.kind
      have hp1 := encM_len (tameM m (behindV l))
      refine TL.v (Want.met rfl rfl rfl) rfl rfl (PV.not (r := false) rfl rfl rfl) ?_
      refine TL.v (Want.plain rfl) rfl rfl (PV.pick rfl rfl rfl) ?_
      refine TL.nil ?_
      refine TE.next hK5 ?_
      clear hK5
      refine TC.no rfl ?_
      refine TC.skip ?_
      refine TE.next hK4 ?_
      clear hK4
      refine TC.seq (fun K7 hK7 => ?_)
      refine TC.region ?_
      refine TL.v (Want.plain rfl) rfl rfl (PV.loadN (vs := ints m.flat) rfl Try.underlying44 rfl sz44 rfl (Rd.own 0 rfl rfl) (MsgT.len m) (whole (MsgT.len m))) ?_
      refine TL.v (Want.plain rfl) rfl rfl (PV.move rfl rfl) ?_
      refine TL.callR (A := []) (B := [blkA b3 (ints m.flat) 44]) (Want.plain rfl) rfl rfl rfl nm18 rfl (tame_does m x l) (fun _ s => s) (fun _ d _ => IsL.more EC.more (hF) d) (fun vR HR hR => ?_)
      obtain ⟨rfl, rfl⟩ := hR
      change TL _ _ _ _ _ _ _ _ _ [blkA b3 (ints m.flat) 44]
      refine TL.store (vs := ints (tameM m (behindV l)).flat) (i := 0) (H' := [blkA b3 (ints (tameM m (behindV l)).flat) 44]) (Want.plain rfl) rfl rfl rfl rfl rfl (by rw [(MsgT.len (tameM m (behindV l)))]; exact sz44) (ints_one _) rfl rfl (by have h0 := (MsgT.len m); have h1 := (MsgT.len (tameM m (behindV l))); omega) (wwhole ((MsgT.len m).trans (MsgT.len (tameM m (behindV l))).symm)) rfl ?_
      refine TL.nil ?_
      refine TE.next hK7 ?_
      clear hK7
      refine TC.seq (fun K8 hK8 => ?_)
      refine TC.region ?_
      refine TL.v (Want.plain rfl) rfl rfl (PV.loadN (vs := ints (tameM m (behindV l)).flat) rfl Try.underlying44 rfl sz44 rfl (Rd.own 0 rfl rfl) (MsgT.len (tameM m (behindV l))) (whole (MsgT.len (tameM m (behindV l))))) ?_
      refine TL.callR (A := []) (B := [blkA b3 (ints (tameM m (behindV l)).flat) 44]) (Want.plain rfl) rfl rfl rfl nm19 rfl (encode_does (tameM m (behindV l))) (fun _ s => s) (fun _ _ _ => trivial) (fun vR HR hR => ?_)
      obtain ⟨_, rfl, rfl⟩ := hR
      revert vR
      intro ue1
      change TL _ _ _ _ _ _ _ _ _ [ownB ue1 (encM (tameM m (behindV l))) 5, blkA b3 (ints (tameM m (behindV l)).flat) 44]
      refine TL.ownLen 0 rfl rfl (fun hlue1 _ => ?_)
      refine TL.v (Want.plain rfl) rfl rfl (PV.assign rfl rfl) ?_
      refine TL.nil ?_
      refine TE.next hK8 ?_
      clear hK8
      refine TC.seq (fun K9 hK9 => ?_)
      refine TC.region ?_
      refine TL.v (Want.plain rfl) rfl rfl (PV.move rfl rfl) ?_
      refine TL.callR (A := []) (B := [ownB ue1 (encM (tameM m (behindV l))) 5, blkA b3 (ints (tameM m (behindV l)).flat) 44]) (Want.plain rfl) rfl rfl rfl nm13 rfl (decode_is (decM_enc hM ho)) (fun _ s => s) (isB_own 0 rfl rfl) (fun vR HR hR => ?_)
      obtain ⟨rfl, rfl⟩ := hR
      change TL _ _ _ _ _ _ _ _ _ [ownB ue1 (encM (tameM m (behindV l))) 5, blkA b3 (ints (tameM m (behindV l)).flat) 44]
      refine TL.v (Want.plain rfl) rfl rfl (PV.move rfl rfl) ?_
      refine TL.v (Want.plain rfl) rfl rfl (PV.extract (vs := [(.agg (ints (tameM m (behindV l)).flat).toArray), (.int .i64 0)]) rfl rfl rfl) ?_
      refine TL.v (Want.plain rfl) rfl rfl (PV.extract (vs := [(.agg (ints (tameM m (behindV l)).flat).toArray), (.int .i64 0)]) rfl rfl rfl) ?_
      refine TL.alloc (Want.plain rfl) rfl rfl rfl z44 (fun b8 => ?_)
      change TL _ _ _ _ _ _ _ _ _ [blkA b8 (ints MsgT.zero.flat) 44, ownB ue1 (encM (tameM m (behindV l))) 5, blkA b3 (ints (tameM m (behindV l)).flat) 44]
      refine TL.store (vs := ints (tameM m (behindV l)).flat) (i := 0) (H' := [blkA b8 (ints (tameM m (behindV l)).flat) 44, ownB ue1 (encM (tameM m (behindV l))) 5, blkA b3 (ints (tameM m (behindV l)).flat) 44]) (Want.plain rfl) rfl rfl rfl rfl rfl (by rw [(MsgT.len (tameM m (behindV l)))]; exact sz44) (ints_one _) rfl rfl (by have h0 := (MsgT.len MsgT.zero); have h1 := (MsgT.len (tameM m (behindV l))); omega) (wwhole ((MsgT.len MsgT.zero).trans (MsgT.len (tameM m (behindV l))).symm)) rfl ?_
      refine TL.v (Want.plain rfl) rfl rfl (PV.assign rfl rfl) ?_
      refine TL.nil ?_
      refine TE.next hK9 ?_
      clear hK9
      refine TC.seq (fun K10 hK10 => ?_)
      refine TC.region ?_
      refine TL.openAt 1 (show 0 < (encM (tameM m (behindV l))).length by omega) rfl rfl (fun g cap cur hv hc1 hc2 hc3 hc4 => ?_)
      subst hv
      change TL _ _ _ _ _ _ _ _ _ [blkA b8 (ints (tameM m (behindV l)).flat) 44, blkA g (cur) 5, blkA b3 (ints (tameM m (behindV l)).flat) 44]
      refine TL.v (Want.plain rfl) rfl rfl (PV.move rfl rfl) ?_
      refine TL.v (Want.plain rfl) rfl rfl (PV.move rfl rfl) ?_
      refine TL.v (Want.plain rfl) rfl rfl (PV.and (r := (n % 65536)) rfl rfl rfl (mask (k := 16) (by decide) _)) ?_
      refine TL.v (Want.plain rfl) rfl rfl (PV.move rfl rfl) ?_
      refine TL.v (Want.plain rfl) rfl rfl (PV.lenSl rfl Try.underlying27 rfl) ?_
      refine TL.v (Want.plain rfl) rfl rfl (PV.rem (r := ((((n % 65536).toNat % (encM (tameM m (behindV l))).length) : Nat) : Int)) rfl rfl rfl (by omega) (remNat n _)) ?_
      refine TL.v (Want.plain rfl) rfl rfl (PV.sliceHi (k := ((n % 65536).toNat % (encM (tameM m (behindV l))).length)) rfl Try.underlying27 sz5 rfl rfl rfl (by have := Nat.mod_lt (n % 65536).toNat hp0; omega) (by omega)) ?_
      refine TL.callR (A := []) (B := [blkA b8 (ints (tameM m (behindV l)).flat) 44, blkA g (cur) 5, blkA b3 (ints (tameM m (behindV l)).flat) 44]) (Want.plain rfl) rfl rfl rfl nm13 rfl (decode_is ((show decM ((encM (tameM m (behindV l))).take ((n % 65536).toNat % (encM (tameM m (behindV l))).length)) = (MsgT.zero, 1) from decM_cut hM ho (Nat.mod_lt _ hp0)))) (fun _ s => s) (isB_piece 1 ((n % 65536).toNat % (encM (tameM m (behindV l))).length) (Nat.le_of_lt (Nat.mod_lt _ (by omega))) hc1 hc2 (by simpa using hc4) rfl rfl rfl) (fun vR HR hR => ?_)
      obtain ⟨rfl, rfl⟩ := hR
      change TL _ _ _ _ _ _ _ _ _ [blkA b8 (ints (tameM m (behindV l)).flat) 44, blkA g (cur) 5, blkA b3 (ints (tameM m (behindV l)).flat) 44]
      refine TL.v (Want.plain rfl) rfl rfl (PV.move rfl rfl) ?_
      refine TL.v (Want.plain rfl) rfl rfl (PV.extract (vs := [(.agg (ints MsgT.zero.flat).toArray), (.int .i64 1)]) rfl rfl rfl) ?_
      refine TL.v (Want.plain rfl) rfl rfl (PV.extract (vs := [(.agg (ints MsgT.zero.flat).toArray), (.int .i64 1)]) rfl rfl rfl) ?_
      refine TL.alloc (Want.plain rfl) rfl rfl rfl z44 (fun b10 => ?_)
      change TL _ _ _ _ _ _ _ _ _ [blkA b10 (ints MsgT.zero.flat) 44, blkA b8 (ints (tameM m (behindV l)).flat) 44, blkA g (cur) 5, blkA b3 (ints (tameM m (behindV l)).flat) 44]
      refine TL.store (vs := ints MsgT.zero.flat) (i := 0) (H' := [blkA b10 (ints MsgT.zero.flat) 44, blkA b8 (ints (tameM m (behindV l)).flat) 44, blkA g (cur) 5, blkA b3 (ints (tameM m (behindV l)).flat) 44]) (Want.plain rfl) rfl rfl rfl rfl rfl (by rw [(MsgT.len MsgT.zero)]; exact sz44) (ints_one _) rfl rfl (by have h0 := (MsgT.len MsgT.zero); have h1 := (MsgT.len MsgT.zero); omega) (wwhole ((MsgT.len MsgT.zero).trans (MsgT.len MsgT.zero).symm)) rfl ?_
      refine TL.v (Want.plain rfl) rfl rfl (PV.assign rfl rfl) ?_
      refine TL.nil ?_
      refine TE.next hK10 ?_
      clear hK10
      refine TC.seq (fun K11 hK11 => ?_)
      refine TC.region ?_
      refine TL.v (Want.plain rfl) rfl rfl (PV.move rfl rfl) ?_
      refine TL.ownNil 5 (fun on => ?_)
      clear on
      change TL _ _ _ _ _ _ _ _ _ [ownB (.slice none 0 0) ([]) 5, blkA b10 (ints MsgT.zero.flat) 44, blkA b8 (ints (tameM m (behindV l)).flat) 44, blkA g (cur) 5, blkA b3 (ints (tameM m (behindV l)).flat) 44]
      refine TL.append (k := 0) (news := u8s (encM (tameM m (behindV l)))) (nn' := (encM (tameM m (behindV l)) : List UInt8).length) (xs' := u8s (encM (tameM m (behindV l)))) (Want.plain rfl) rfl rfl rfl Try.underlying27 in5 rfl rfl rfl rfl rfl rfl (fun _ _ => Src.rd (by simp [u8s]) (Rd.own 3 rfl rfl) (by rw [List.drop_zero, show (u8s (encM (tameM m (behindV l)))).length = (encM (tameM m (behindV l))).length by simp [u8s]]; exact hc4)) (u8s_one _) (by simp only [maxLen, List.length_nil]; omega) (by first | omega | simp only [List.length_cons, List.length_nil]; omega) (by simp) (List.nil_append _) (fun v48 ov48 => ?_)
      change TL _ _ _ _ _ _ _ _ _ [ownB v48 (encM (tameM m (behindV l))) 5, blkA b10 (ints MsgT.zero.flat) 44, blkA b8 (ints (tameM m (behindV l)).flat) 44, blkA g (cur) 5, blkA b3 (ints (tameM m (behindV l)).flat) 44]
      refine TL.buildSlice (cells := #[(.int .u8 0)]) (Want.plain rfl) rfl rfl rfl Try.underlying27 in5 rfl rfl rfl (by as_aux_lemma => kernel_rfl) (fun b49 => ?_)
      change TL _ _ _ _ _ _ _ _ _ [blkA b49 [(.int .u8 0)] 5, ownB v48 (encM (tameM m (behindV l))) 5, blkA b10 (ints MsgT.zero.flat) 44, blkA b8 (ints (tameM m (behindV l)).flat) 44, blkA g (cur) 5, blkA b3 (ints (tameM m (behindV l)).flat) 44]
      refine TL.append (k := 1) (news := u8s ([0])) (nn' := (encM (tameM m (behindV l)) ++ [0] : List UInt8).length) (xs' := u8s (encM (tameM m (behindV l)) ++ [0])) (Want.plain rfl) rfl rfl rfl Try.underlying27 in5 rfl rfl rfl rfl rfl rfl (fun _ _ => Src.rd rfl (Rd.own 0 rfl rfl) rfl) (u8s_one [0]) (by simp only [maxLen, List.length_nil]; omega) (by first | omega | simp only [List.length_cons, List.length_nil]; omega) (by simp) (u8s_append _ _).symm (fun v50 ov50 => ?_)
      change TL _ _ _ _ _ _ _ _ _ [blkA b49 [(.int .u8 0)] 5, ownB v50 (encM (tameM m (behindV l)) ++ [0]) 5, blkA b10 (ints MsgT.zero.flat) 44, blkA b8 (ints (tameM m (behindV l)).flat) 44, blkA g (cur) 5, blkA b3 (ints (tameM m (behindV l)).flat) 44]
      refine TL.callR (A := []) (B := [blkA b49 [(.int .u8 0)] 5, ownB v50 (encM (tameM m (behindV l)) ++ [0]) 5, blkA b10 (ints MsgT.zero.flat) 44, blkA b8 (ints (tameM m (behindV l)).flat) 44, blkA g (cur) 5, blkA b3 (ints (tameM m (behindV l)).flat) 44]) (Want.plain rfl) rfl rfl rfl nm13 rfl (decode_is (decM_more hM ho 0)) (fun _ s => s) (isB_own 1 rfl rfl) (fun vR HR hR => ?_)
      obtain ⟨rfl, rfl⟩ := hR
      change TL _ _ _ _ _ _ _ _ _ [blkA b49 [(.int .u8 0)] 5, ownB v50 (encM (tameM m (behindV l)) ++ [0]) 5, blkA b10 (ints MsgT.zero.flat) 44, blkA b8 (ints (tameM m (behindV l)).flat) 44, blkA g (cur) 5, blkA b3 (ints (tameM m (behindV l)).flat) 44]
      refine TL.v (Want.plain rfl) rfl rfl (PV.move rfl rfl) ?_
      refine TL.v (Want.plain rfl) rfl rfl (PV.extract (vs := [(.agg (ints MsgT.zero.flat).toArray), (.int .i64 1)]) rfl rfl rfl) ?_
      refine TL.v (Want.plain rfl) rfl rfl (PV.extract (vs := [(.agg (ints MsgT.zero.flat).toArray), (.int .i64 1)]) rfl rfl rfl) ?_
      refine TL.alloc (Want.plain rfl) rfl rfl rfl z44 (fun b12 => ?_)
      change TL _ _ _ _ _ _ _ _ _ [blkA b12 (ints MsgT.zero.flat) 44, blkA b49 [(.int .u8 0)] 5, ownB v50 (encM (tameM m (behindV l)) ++ [0]) 5, blkA b10 (ints MsgT.zero.flat) 44, blkA b8 (ints (tameM m (behindV l)).flat) 44, blkA g (cur) 5, blkA b3 (ints (tameM m (behindV l)).flat) 44]
      refine TL.store (vs := ints MsgT.zero.flat) (i := 0) (H' := [blkA b12 (ints MsgT.zero.flat) 44, blkA b49 [(.int .u8 0)] 5, ownB v50 (encM (tameM m (behindV l)) ++ [0]) 5, blkA b10 (ints MsgT.zero.flat) 44, blkA b8 (ints (tameM m (behindV l)).flat) 44, blkA g (cur) 5, blkA b3 (ints (tameM m (behindV l)).flat) 44]) (Want.plain rfl) rfl rfl rfl rfl rfl (by rw [(MsgT.len MsgT.zero)]; exact sz44) (ints_one _) rfl rfl (by have h0 := (MsgT.len MsgT.zero); have h1 := (MsgT.len MsgT.zero); omega) (wwhole ((MsgT.len MsgT.zero).trans (MsgT.len MsgT.zero).symm)) rfl ?_
      refine TL.v (Want.plain rfl) rfl rfl (PV.assign rfl rfl) ?_
      refine TL.nil ?_
      refine TE.next hK11 ?_
      clear hK11
      refine TC.seq (fun K12 hK12 => ?_)
      refine TC.region ?_
      refine TL.v (Want.plain rfl) rfl rfl (PV.move rfl rfl) ?_
      refine TL.v (Want.plain rfl) rfl rfl (PV.eql rfl rfl rfl) ?_
      refine TL.v (Want.plain rfl) rfl rfl (PV.move rfl rfl) ?_
      refine TL.v (Want.met rfl rfl rfl) rfl rfl (PV.loadN (vs := ints (tameM m (behindV l)).flat) rfl Try.underlying44 rfl sz44 rfl (Rd.own 4 rfl rfl) (MsgT.len (tameM m (behindV l))) (whole (MsgT.len (tameM m (behindV l))))) ?_
      refine TL.v (Want.met rfl rfl rfl) rfl rfl (PV.loadN (vs := ints (tameM m (behindV l)).flat) rfl Try.underlying44 rfl sz44 rfl (Rd.own 6 rfl rfl) (MsgT.len (tameM m (behindV l))) (whole (MsgT.len (tameM m (behindV l))))) ?_
      refine TL.v (Want.met rfl rfl rfl) rfl rfl (PV.eqlAgg (a := (tameM m (behindV l)).flat) (b := (tameM m (behindV l)).flat) (m := 8) (c := 192) sg44 sk44 rfl fI44 (ints_len (MsgT.len (tameM m (behindV l)))) (ints_len (MsgT.len (tameM m (behindV l)))) ⟨formed_ag fC44 cC44 (ints_len (MsgT.len (tameM m (behindV l)))), formed_ag fC44 cC44 (ints_len (MsgT.len (tameM m (behindV l))))⟩ hM.norm.wf hM.norm.wf rfl rfl rfl) ?_
      refine TL.dec (fun h59 => ?_) (fun h59 => ?_)
      · skip
        refine TL.v (Want.plain rfl) rfl rfl (PV.pick rfl rfl rfl) ?_
        refine TL.v (Want.plain rfl) rfl rfl (PV.move rfl rfl) ?_
        refine TL.v (Want.met rfl rfl rfl) rfl rfl (PV.move rfl rfl) ?_
        refine TL.v (Want.met rfl rfl rfl) rfl rfl (PV.eql rfl rfl rfl) ?_
        refine TL.v (Want.plain rfl) rfl rfl (PV.pick rfl rfl rfl) ?_
        refine TL.v (Want.plain rfl) rfl rfl (PV.move rfl rfl) ?_
        refine TL.v (Want.met rfl rfl rfl) rfl rfl (PV.loadN (vs := ints MsgT.zero.flat) rfl Try.underlying44 rfl sz44 rfl (Rd.own 3 rfl rfl) (MsgT.len MsgT.zero) (whole (MsgT.len MsgT.zero))) ?_
        refine TL.v (Want.met rfl rfl rfl) rfl rfl (PV.build (cells := (ints MsgT.zero.flat).toArray) rfl rfl (by as_aux_lemma => kernel_rfl)) ?_
        refine TL.v (Want.met rfl rfl rfl) rfl rfl (PV.eqlAgg (a := MsgT.zero.flat) (b := MsgT.zero.flat) (m := 8) (c := 192) sg44 sk44 rfl fI44 (ints_len (MsgT.len MsgT.zero)) (ints_len (MsgT.len MsgT.zero)) ⟨formed_ag fC44 cC44 (ints_len (MsgT.len MsgT.zero)), formed_ag fC44 cC44 (ints_len (MsgT.len MsgT.zero))⟩ OkM.zero.wf OkM.zero.wf rfl rfl rfl) ?_
        refine TL.dec (fun h68 => ?_) (fun h68 => ?_)
        · skip
          refine TL.v (Want.plain rfl) rfl rfl (PV.pick rfl rfl rfl) ?_
          refine TL.v (Want.plain rfl) rfl rfl (PV.move rfl rfl) ?_
          refine TL.v (Want.met rfl rfl rfl) rfl rfl (PV.move rfl rfl) ?_
          refine TL.v (Want.met rfl rfl rfl) rfl rfl (PV.eql rfl rfl rfl) ?_
          refine TL.v (Want.plain rfl) rfl rfl (PV.pick rfl rfl rfl) ?_
          refine TL.v (Want.plain rfl) rfl rfl (PV.assign rfl rfl) ?_
          refine TL.nil ?_
          refine TE.next hK12 ?_
          clear hK12
          refine TC.ret ?_
          refine TE.weak (Sub.refl _) (fun _ s => sep_keep [] rfl s) ?_
          refine TE.ret1 rfl rfl ?_
          exact ⟨rfl, rfl⟩
        · exact absurd rfl h68
      · exact absurd rfl h59
    · skip
      refine TL.v (Want.met rfl rfl rfl) rfl rfl (PV.not (r := true) rfl rfl rfl) ?_
      refine TL.v (Want.plain rfl) rfl rfl (PV.pick rfl rfl rfl) ?_
      refine TL.nil ?_
      refine TE.next hK5 ?_
      clear hK5
      refine TC.yes rfl ?_
      refine TC.seq (fun K13 hK13 => ?_)
      refine TC.region ?_
      refine TL.v (Want.plain rfl) rfl rfl (PV.assign rfl rfl) ?_
      refine TL.nil ?_
      refine TE.next hK13 ?_
      clear hK13
      refine TC.ret ?_
      refine TE.passRet ?_
      clear hK4
      refine TE.weak (Sub.refl _) (fun _ s => sep_keep [] rfl s) ?_
      refine TE.ret1 rfl rfl ?_
      exact ⟨rfl, rfl⟩


end Go.Proofs.Ytdekgkmbcdlekaa
