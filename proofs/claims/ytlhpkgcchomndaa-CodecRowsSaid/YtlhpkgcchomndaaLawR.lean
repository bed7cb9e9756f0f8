/-
  CodecRows: what it reckons.
-/

import Derived.Test.YtlhpkgcchomndaaLawA
import Derived.Test.YtlhpkgcchomndaaLawT

namespace Go.Proofs.Ytlhpkgcchomndaa

open Go Leg Codec Api

set_option maxRecDepth 100000

theorem rows1_does (rb zb : Nat) (v : Value) (bs : List UInt8) (z : RowT) :
    Does Try.prog 28 #[(.pointer (some ⟨rb, 0, none⟩)), (.pointer (some ⟨zb, 0, none⟩))] (IsB v bs) [blkA rb [v] 69, blkA zb (ints z.flat) 28] (RetP (fun _ H => ∃ x' r y, H = blkA rb [x'] 69 :: [blkA zb (ints y.flat) 28] ∧ Tail v bs x' r ∧ rowP bs = some (y, r)) (fun c H => c = giveUp ∧ ∃ x' u, H = blkA rb [x'] 69 :: (fun _ : Unit => [blkA zb (ints z.flat) 28]) u ∧ rowP bs = none)) := by
  refine Does.body (vs := [(.pointer (some ⟨rb, 0, none⟩)), (.pointer (some ⟨zb, 0, none⟩))]) (n := 5) Try.func28 rfl rfl rfl (fun w0 F hF => ?_)
  refine TC.region ?_
  refine TL.v (Want.plain rfl) rfl rfl (PV.move rfl rfl) ?_
  refine TL.callP (A := [blkA rb [v] 69]) (B := [blkA zb (ints z.flat) 28]) (Want.plain rfl) rfl rfl rfl nm29 rfl (rrow_does rb v bs ) (fun _ s => s) (fun _ d _ => (hF).more d) (fun cP HP hP => ?_) (fun vR HR hR => ?_)
  · skip
    obtain ⟨vP, rfl, rfl, hpP⟩ := hP
    change TE _ _ _ _ _ _ _ [blkA rb [vP] 69, blkA zb (ints z.flat) 28]
    refine TE.weak (H' := [blkA rb [vP] 69, blkA zb (ints z.flat) 28]) (Sub.refl _) (fun _ s => sep_keep [0, 0] rfl s) ?_
    refine TE.panicked ?_
    exact ⟨rfl, vP, (), rfl, hpP⟩
  obtain ⟨a1, r1, v1, rfl, rfl, hp1, ht1⟩ := hR
  change TL _ _ _ _ _ _ _ _ _ [blkA rb [v1] 69, blkA zb (ints z.flat) 28]
  have hf1 := ht1 _ hF
  refine TL.store (vs := ints a1.flat) (i := 1) (H' := [blkA rb [v1] 69, blkA zb (ints a1.flat) 28]) (Want.plain rfl) rfl rfl rfl rfl rfl (by rw [RowT.len]; exact sz28) (ints_one _) rfl rfl (by rw [RowT.len, Nat.zero_add, RowT.len]; decide) (wr_whole (by rw [RowT.len, RowT.len])) rfl ?_
  refine TL.nil ?_
  refine TE.weak (Sub.refl _) (fun _ s => sep_keep [0, 0] rfl s) ?_
  refine TE.end0 rfl ?_
  exact ⟨_, _, _, rfl, ht1, hp1⟩


theorem rows2_does (rb zb : Nat) (v : Value) (bs : List UInt8) (z : RowT) :
    Does Try.prog 30 #[(.pointer (some ⟨rb, 0, none⟩)), (.pointer (some ⟨zb, 0, none⟩))] (IsB v bs) [blkA rb [v] 69, blkA zb (ints z.flat) 28] (RetP (fun _ H => ∃ x' r y, H = blkA rb [x'] 69 :: [blkA zb (ints y.flat) 28] ∧ Tail v bs x' r ∧ rowP bs = some (y, r)) (fun c H => c = giveUp ∧ ∃ x' u, H = blkA rb [x'] 69 :: (fun _ : Unit => [blkA zb (ints z.flat) 28]) u ∧ rowP bs = none)) := by
  refine Does.body (vs := [(.pointer (some ⟨rb, 0, none⟩)), (.pointer (some ⟨zb, 0, none⟩))]) (n := 5) Try.func30 rfl rfl rfl (fun w0 F hF => ?_)
  refine TC.region ?_
  refine TL.v (Want.plain rfl) rfl rfl (PV.move rfl rfl) ?_
  refine TL.callP (A := [blkA rb [v] 69]) (B := [blkA zb (ints z.flat) 28]) (Want.plain rfl) rfl rfl rfl nm29 rfl (rrow_does rb v bs ) (fun _ s => s) (fun _ d _ => (hF).more d) (fun cP HP hP => ?_) (fun vR HR hR => ?_)
  · skip
    obtain ⟨vP, rfl, rfl, hpP⟩ := hP
    change TE _ _ _ _ _ _ _ [blkA rb [vP] 69, blkA zb (ints z.flat) 28]
    refine TE.weak (H' := [blkA rb [vP] 69, blkA zb (ints z.flat) 28]) (Sub.refl _) (fun _ s => sep_keep [0, 0] rfl s) ?_
    refine TE.panicked ?_
    exact ⟨rfl, vP, (), rfl, hpP⟩
  obtain ⟨a1, r1, v1, rfl, rfl, hp1, ht1⟩ := hR
  change TL _ _ _ _ _ _ _ _ _ [blkA rb [v1] 69, blkA zb (ints z.flat) 28]
  have hf1 := ht1 _ hF
  refine TL.store (vs := ints a1.flat) (i := 1) (H' := [blkA rb [v1] 69, blkA zb (ints a1.flat) 28]) (Want.plain rfl) rfl rfl rfl rfl rfl (by rw [RowT.len]; exact sz28) (ints_one _) rfl rfl (by rw [RowT.len, Nat.zero_add, RowT.len]; decide) (wr_whole (by rw [RowT.len, RowT.len])) rfl ?_
  refine TL.nil ?_
  refine TE.weak (Sub.refl _) (fun _ s => sep_keep [0, 0] rfl s) ?_
  refine TE.end0 rfl ?_
  exact ⟨_, _, _, rfl, ht1, hp1⟩


theorem rowP_own {x : RowT} (h : TameR x) : rowP (encRow x) = some (x, []) := by
  have := rowP_enc h []
  rwa [List.append_nil] at this
theorem encRow_pos (x : RowT) : 1 ≤ (encRow x).length := by
  have := encU_pos (x.version % 18446744073709551616).toNat
  simp only [encRow, encN, List.length_append]
  omega

theorem rows_does (x : RowT) (n : Int) :
    Does Try.prog 8 #[(.agg (ints x.flat).toArray), (.int .i64 (n))] (fun _ => True) [] (Ret (fun v H => v = .bool true ∧ H = [])) := by
  refine Does.body (vs := [(.agg (ints x.flat).toArray), (.int .i64 (n))]) (n := 45) Try.func8 rfl rfl rfl (fun w0 F hF => ?_)
  refine TC.seq (fun K1 hK1 => ?_)
  refine TC.region ?_
  refine TL.box (Want.plain rfl) rfl rfl rfl rfl (fun b2 => ?_)
  change TL _ _ _ _ _ _ _ _ _ [blkA b2 (ints x.flat) 28]
  refine TL.v (Want.plain rfl) rfl rfl (PV.assign rfl rfl) ?_
  refine TL.nil ?_
  refine TE.next hK1 ?_
  clear hK1
  refine TC.seq (fun K2 hK2 => ?_)
  refine TC.seq (fun K3 hK3 => ?_)
  refine TC.region ?_
  refine TL.callR (A := []) (B := [blkA b2 (ints x.flat) 28]) (Want.plain rfl) rfl rfl rfl nm9 rfl (fit_does) (fun _ s => s) (fun _ _ _ => trivial) (fun vR HR hR => ?_)
  obtain ⟨rfl, rfl⟩ := hR
  change TL _ _ _ _ _ _ _ _ _ [blkA b2 (ints x.flat) 28]
  refine TL.v (Want.plain rfl) rfl rfl (PV.not (r := false) rfl rfl rfl) ?_
  refine TL.nil ?_
  refine TE.next hK3 ?_
  clear hK3
  refine TC.no rfl ?_
  refine TC.skip ?_
  refine TE.next hK2 ?_
  clear hK2
  refine TC.seq (fun K4 hK4 => ?_)
  refine TC.region ?_
  refine TL.v (Want.plain rfl) rfl rfl (PV.loadN (vs := ints x.flat) rfl Try.underlying28 rfl sz28 rfl (Rd.own 0 rfl rfl) (RowT.len _) (by rw [List.drop_zero, List.take_of_length_le (by rw [RowT.len]; decide)])) ?_
  refine TL.callR (A := []) (B := [blkA b2 (ints x.flat) 28]) (Want.plain rfl) rfl rfl rfl nm10 rfl (tame_does x) (fun _ s => s) (fun _ _ _ => trivial) (fun vR HR hR => ?_)
  obtain ⟨xa, rfl, rfl, htx⟩ := hR
  change TL _ _ _ _ _ _ _ _ _ [blkA b2 (ints x.flat) 28]
  have hL := encRow_pos xa
  refine TL.store (vs := ints xa.flat) (i := 0) (H' := [blkA b2 (ints xa.flat) 28]) (Want.plain rfl) rfl rfl rfl rfl rfl (by rw [RowT.len]; exact sz28) (ints_one _) rfl rfl (by rw [RowT.len, Nat.zero_add, RowT.len]; decide) (wr_whole (by rw [RowT.len, RowT.len])) rfl ?_
  refine TL.nil ?_
  refine TE.next hK4 ?_
  clear hK4
  refine TC.seq (fun K5 hK5 => ?_)
  refine TC.region ?_
  refine TL.alloc (Want.plain rfl) rfl rfl rfl z33 (fun b5 => ?_)
  change TL _ _ _ _ _ _ _ _ _ [blkA b5 [(.slice none 0 0)] 33, blkA b2 (ints xa.flat) 28]
  refine TL.ownNil 5 (fun on => ?_)
  clear on
  refine TL.nil ?_
  refine TE.next hK5 ?_
  clear hK5
  refine TC.seq (fun K6 hK6 => ?_)
  refine TC.region ?_
  refine TL.v (Want.plain rfl) rfl rfl (PV.loadN (vs := ints xa.flat) rfl Try.underlying28 rfl sz28 rfl (Rd.own 2 rfl rfl) (RowT.len _) (by rw [List.drop_zero, List.take_of_length_le (by rw [RowT.len]; decide)])) ?_
  refine TL.callR (A := [blkA b5 [(.slice none 0 0)] 33, ownB (.slice none 0 0) ([]) 5]) (B := [blkA b2 (ints xa.flat) 28]) (Want.plain rfl) rfl rfl rfl nm11 rfl (wrow_does b5 (.slice none 0 0) [] xa (by simp)) (fun _ s => sep_selR [1, 0] rfl s) (fun _ _ _ => trivial) (fun vR HR hR => ?_)
  obtain ⟨u1, rfl, rfl⟩ := hR
  change TL _ _ _ _ _ _ _ _ _ [blkA b5 [u1] 33, ownB u1 (encRow xa) 5, blkA b2 (ints xa.flat) 28]
  refine TL.callR (A := [blkA b5 [u1] 33, ownB u1 (encRow xa) 5]) (B := [blkA b2 (ints xa.flat) 28]) (Want.plain rfl) rfl rfl rfl nm12 rfl (wbytes_does b5 u1 (encRow xa) (by have := encRow_len xa; omega)) (fun _ s => s) (fun _ _ _ => trivial) (fun vR HR hR => ?_)
  obtain ⟨y1, hy1, rfl⟩ := hR
  subst vR
  change TL _ _ _ _ _ _ _ _ _ [blkA b5 [u1] 33, ownB u1 (encRow xa) 5, ownB y1 (encRow xa) 5, blkA b2 (ints xa.flat) 28]
  refine TL.v (Want.plain rfl) rfl rfl (PV.assign rfl rfl) ?_
  refine TL.nil ?_
  refine TE.next hK6 ?_
  clear hK6
  refine TC.seq (fun K7 hK7 => ?_)
  refine TC.region ?_
  refine TL.alloc (Want.plain rfl) rfl rfl rfl z28 (fun b7 => ?_)
  change TL _ _ _ _ _ _ _ _ _ [blkA b7 (Api.ints Api.RowT.zero.flat) 28, blkA b5 [u1] 33, ownB u1 (encRow xa) 5, ownB y1 (encRow xa) 5, blkA b2 (ints xa.flat) 28]
  refine TL.alloc (Want.plain rfl) rfl rfl rfl z28 (fun b8 => ?_)
  change TL _ _ _ _ _ _ _ _ _ [blkA b8 (Api.ints Api.RowT.zero.flat) 28, blkA b7 (Api.ints Api.RowT.zero.flat) 28, blkA b5 [u1] 33, ownB u1 (encRow xa) 5, ownB y1 (encRow xa) 5, blkA b2 (ints xa.flat) 28]
  refine TL.nil ?_
  refine TE.next hK7 ?_
  clear hK7
  refine TC.seq (fun K8 hK8 => ?_)
  refine TC.region ?_
  refine TL.v (Want.plain rfl) rfl rfl (PV.move rfl rfl) ?_
  refine TL.v (Want.plain rfl) rfl rfl (PV.mkFunc rfl rfl) ?_
  refine TL.callR (A := [blkA b7 (Api.ints Api.RowT.zero.flat) 28]) (B := [blkA b8 (Api.ints Api.RowT.zero.flat) 28, blkA b5 [u1] 33, ownB u1 (encRow xa) 5, ownB y1 (encRow xa) 5, blkA b2 (ints xa.flat) 28]) (Want.plain rfl) rfl rfl rfl nm14 rfl (read_with (bs := (encRow xa)) (C := [blkA b7 (ints Api.RowT.zero.flat) 28]) (caps := [(.pointer (some ⟨b7, 0, none⟩))]) (A := fun y : RowT => [blkA b7 (ints y.flat) 28]) (G := fun _ : Unit => [blkA b7 (ints Api.RowT.zero.flat) 28]) (φ := fun y r => rowP (encRow xa) = some (y, r)) (ψ := fun _ => rowP (encRow xa) = none) (fun _ h => h) (fun _ _ h d => h.more d) nm28 (fun rb => rows1_does rb b7 y1 (encRow xa) Api.RowT.zero)) (fun _ s => sep_selR [1] rfl s) (isB_own 3 rfl rfl) (fun vR HR hR => ?_)
  rcases hR with ⟨r, yy, rfl, rfl, hs⟩ | ⟨_, rfl, rfl, hs⟩
  · skip
    rw [rowP_own htx] at hs
    injection hs with hs
    injection hs with e1 e2
    subst e1
    subst e2
    change TL _ _ _ _ _ _ _ _ _ [blkA b7 (ints xa.flat) 28, blkA b8 (Api.ints Api.RowT.zero.flat) 28, blkA b5 [u1] 33, ownB u1 (encRow xa) 5, ownB y1 (encRow xa) 5, blkA b2 (ints xa.flat) 28]
    refine TL.dec (fun h20 => ?_) (fun h20 => ?_)
    · skip
      refine TL.openAt 4 (show 0 < (encRow xa).length by omega) rfl rfl (fun g cap cur hv hc1 hc2 hc3 hc4 => ?_)
      subst hv
      change TL _ _ _ _ _ _ _ _ _ [blkA b7 (ints xa.flat) 28, blkA b8 (Api.ints Api.RowT.zero.flat) 28, blkA b5 [u1] 33, ownB u1 (encRow xa) 5, blkA g (cur) 5, blkA b2 (ints xa.flat) 28]
      refine TL.v (Want.plain rfl) rfl rfl (PV.assign rfl rfl) ?_
      refine TL.nil ?_
      refine TE.next hK8 ?_
      clear hK8
      refine TC.seq (fun K9 hK9 => ?_)
      refine TC.region ?_
      refine TL.v (Want.plain rfl) rfl rfl (PV.move rfl rfl) ?_
      refine TL.v (Want.plain rfl) rfl rfl (PV.move rfl rfl) ?_
      refine TL.v (Want.plain rfl) rfl rfl (PV.and (r := (n % 65536)) rfl rfl rfl (and16 _)) ?_
      refine TL.v (Want.plain rfl) rfl rfl (PV.move rfl rfl) ?_
      refine TL.v (Want.plain rfl) rfl rfl (PV.lenSl rfl Try.underlying31 rfl) ?_
      refine TL.v (Want.plain rfl) rfl rfl (PV.rem (r := ((((n % 65536).toNat % (encRow xa).length) : Nat) : Int)) rfl rfl rfl (by omega) (remNat n _)) ?_
      refine TL.v (Want.plain rfl) rfl rfl (PV.sliceHi (k := ((n % 65536).toNat % (encRow xa).length)) rfl Try.underlying31 sz5 rfl rfl rfl (by have := Nat.mod_lt (n % 65536).toNat (show 0 < (encRow xa).length by omega); omega) (by omega)) ?_
      refine TL.v (Want.plain rfl) rfl rfl (PV.mkFunc rfl rfl) ?_
      refine TL.callR (A := [blkA b8 (Api.ints Api.RowT.zero.flat) 28]) (B := [blkA b7 (ints xa.flat) 28, blkA b5 [u1] 33, ownB u1 (encRow xa) 5, blkA g (cur) 5, blkA b2 (ints xa.flat) 28]) (Want.plain rfl) rfl rfl rfl nm14 rfl (read_with (bs := ((encRow xa).take ((n % 65536).toNat % (encRow xa).length))) (C := [blkA b8 (ints Api.RowT.zero.flat) 28]) (caps := [(.pointer (some ⟨b8, 0, none⟩))]) (A := fun y : RowT => [blkA b8 (ints y.flat) 28]) (G := fun _ : Unit => [blkA b8 (ints Api.RowT.zero.flat) 28]) (φ := fun y r => rowP ((encRow xa).take ((n % 65536).toNat % (encRow xa).length)) = some (y, r)) (ψ := fun _ => rowP ((encRow xa).take ((n % 65536).toNat % (encRow xa).length)) = none) (fun _ h => h) (fun _ _ h d => h.more d) nm30 (fun rb => rows2_does rb b8 (.slice (some ⟨g, 0, none⟩) (((n % 65536).toNat % (encRow xa).length)) (cap)) ((encRow xa).take ((n % 65536).toNat % (encRow xa).length)) Api.RowT.zero)) (fun _ s => sep_selR [1] rfl s) (isB_piece 3 ((n % 65536).toNat % (encRow xa).length) (Nat.le_of_lt (Nat.mod_lt _ (by omega))) hc1 hc2 (by simpa using hc4) rfl rfl rfl) (fun vR HR hR => ?_)
      rcases hR with ⟨r, yy, _, _, hs⟩ | ⟨_, rfl, rfl, hs⟩
      · exact absurd hs (by rw [(Ext.cut Ext.row (rowP_own htx) (Nat.mod_lt _ (by omega)))]; simp)
      · skip
        change TL _ _ _ _ _ _ _ _ _ [blkA b8 (ints Api.RowT.zero.flat) 28, blkA b7 (ints xa.flat) 28, blkA b5 [u1] 33, ownB u1 (encRow xa) 5, blkA g (cur) 5, blkA b2 (ints xa.flat) 28]
        refine TL.v (Want.plain rfl) rfl rfl (PV.assign rfl rfl) ?_
        refine TL.nil ?_
        refine TE.next hK9 ?_
        clear hK9
        refine TC.seq (fun K10 hK10 => ?_)
        refine TC.region ?_
        refine TL.v (Want.plain rfl) rfl rfl (PV.move rfl rfl) ?_
        refine TL.v (Want.plain rfl) rfl rfl (PV.move rfl rfl) ?_
        refine TL.v (Want.met rfl rfl rfl) rfl rfl (PV.loadN (vs := ints xa.flat) rfl Try.underlying28 rfl sz28 rfl (Rd.own 1 rfl rfl) (RowT.len _) (by rw [List.drop_zero, List.take_of_length_le (by rw [RowT.len]; decide)])) ?_
        refine TL.v (Want.met rfl rfl rfl) rfl rfl (PV.loadN (vs := ints xa.flat) rfl Try.underlying28 rfl sz28 rfl (Rd.own 5 rfl rfl) (RowT.len _) (by rw [List.drop_zero, List.take_of_length_le (by rw [RowT.len]; decide)])) ?_
        refine TL.v (Want.met rfl rfl rfl) rfl rfl (PV.eqlAgg (a := xa.flat) (b := xa.flat) (m := 6) (c := 174) Try.eqGuardType28 (by kernel_rfl) rfl (by kernel_rfl) (RowT.flat_length _) (RowT.flat_length _) ⟨formed_ag (by kernel_rfl) (by kernel_rfl) (RowT.flat_length _), formed_ag (by kernel_rfl) (by kernel_rfl) (RowT.flat_length _)⟩ htx.wf htx.wf rfl rfl rfl) ?_
        refine TL.dec (fun h34 => ?_) (fun h34 => ?_)
        · skip
          refine TL.v (Want.plain rfl) rfl rfl (PV.pick rfl rfl rfl) ?_
          refine TL.v (Want.plain rfl) rfl rfl (PV.move rfl rfl) ?_
          refine TL.v (Want.met rfl rfl rfl) rfl rfl (PV.move rfl rfl) ?_
          refine TL.v (Want.met rfl rfl rfl) rfl rfl (PV.not (r := true) rfl rfl rfl) ?_
          refine TL.v (Want.plain rfl) rfl rfl (PV.pick rfl rfl rfl) ?_
          refine TL.v (Want.plain rfl) rfl rfl (PV.move rfl rfl) ?_
          refine TL.v (Want.met rfl rfl rfl) rfl rfl (PV.loadN (vs := ints Api.RowT.zero.flat) rfl Try.underlying28 rfl sz28 rfl (Rd.own 0 rfl rfl) (RowT.len _) (by rw [List.drop_zero, List.take_of_length_le (by rw [RowT.len]; decide)])) ?_
          refine TL.v (Want.met rfl rfl rfl) rfl rfl (PV.build (cells := (Api.ints Api.RowT.zero.flat).toArray) rfl rfl (by as_aux_lemma => kernel_rfl)) ?_
          refine TL.v (Want.met rfl rfl rfl) rfl rfl (PV.eqlAgg (a := Api.RowT.zero.flat) (b := Api.RowT.zero.flat) (m := 6) (c := 174) Try.eqGuardType28 (by kernel_rfl) rfl (by kernel_rfl) (RowT.flat_length _) (RowT.flat_length _) ⟨formed_ag (by kernel_rfl) (by kernel_rfl) (RowT.flat_length _), formed_ag (by kernel_rfl) (by kernel_rfl) (RowT.flat_length _)⟩ wf_zero wf_zero rfl rfl rfl) ?_
          refine TL.v (Want.plain rfl) rfl rfl (PV.pick rfl rfl rfl) ?_
          refine TL.v (Want.plain rfl) rfl rfl (PV.assign rfl rfl) ?_
          refine TL.nil ?_
          refine TE.next hK10 ?_
          clear hK10
          refine TC.ret ?_
          refine TE.weak (Sub.refl _) (fun _ s => sep_keep [] rfl s) ?_
          refine TE.ret1 rfl rfl ?_
          exact ⟨rfl, rfl⟩
        · exact absurd rfl h34
    · exact absurd rfl h20
  · exact absurd hs (by rw [rowP_own htx]; simp)


end Go.Proofs.Ytlhpkgcchomndaa
