/-
  CodecJoins: what it reckons.
-/

import Derived.Test.YtlhpkgcchomndaaLawA
import Derived.Test.YtlhpkgcchomndaaLegH

namespace Go.Proofs.Ytlhpkgcchomndaa

open Go Leg Codec Api

set_option maxRecDepth 100000

theorem joins1_does (rb ab bb mb : Nat) (v : Value) (bs : List UInt8) (a b : Value) (na nb m : Nat) (ha : SlLen a na) (hb : SlLen b nb) (hn : na + nb ≤ 60) (hm : m ≤ 3) :
    Does Try.prog 18 #[(.pointer (some ⟨rb, 0, none⟩)), (.pointer (some ⟨ab, 0, none⟩)), (.pointer (some ⟨bb, 0, none⟩)), (.pointer (some ⟨mb, 0, none⟩))] (IsB v bs) [blkA rb [v] 69, blkA ab [a] 38, blkA bb [b] 38, blkA mb [(.int .i64 (((m : Nat) : Int)))] 3] (RetP (fun _ H => ∃ x' r u, H = blkA rb [x'] 69 :: (fun _ : Unit => [blkA ab [a] 38, blkA bb [b] 38, blkA mb [(.int .i64 (((m : Nat) : Int)))] 3]) u ∧ Tail v bs x' r ∧ skipN (na + nb + m) bs = some r) (fun c H => c = giveUp ∧ ∃ x' u, H = blkA rb [x'] 69 :: (fun _ : Unit => [blkA ab [a] 38, blkA bb [b] 38, blkA mb [(.int .i64 (((m : Nat) : Int)))] 3]) u ∧ skipN (na + nb + m) bs = none)) := by
  refine Does.body (vs := [(.pointer (some ⟨rb, 0, none⟩)), (.pointer (some ⟨ab, 0, none⟩)), (.pointer (some ⟨bb, 0, none⟩)), (.pointer (some ⟨mb, 0, none⟩))]) (n := 17) Try.func18 rfl rfl rfl (fun w0 F hF => ?_)
  refine TC.seq (fun K1 hK1 => ?_)
  refine TC.region ?_
  refine TL.v (Want.plain rfl) rfl rfl (PV.load1 (v := a) rfl Try.underlying38 rfl rfl (Rd.own 1 rfl rfl) rfl) ?_
  refine TL.v (Want.plain rfl) rfl rfl (PV.lenV rfl Try.underlying38 rfl ha) ?_
  refine TL.v (Want.plain rfl) rfl rfl (PV.load1 (v := b) rfl Try.underlying38 rfl rfl (Rd.own 2 rfl rfl) rfl) ?_
  refine TL.v (Want.plain rfl) rfl rfl (PV.lenV rfl Try.underlying38 rfl hb) ?_
  refine TL.v (Want.plain rfl) rfl rfl (PV.add rfl rfl rfl (wrap_i64 (by omega) (by omega))) ?_
  refine TL.v (Want.plain rfl) rfl rfl (PV.load1 (v := (.int .i64 (((m : Nat) : Int)))) rfl Try.underlying3 rfl rfl (Rd.own 3 rfl rfl) rfl) ?_
  refine TL.v (Want.plain rfl) rfl rfl (PV.add rfl rfl rfl (wrap_i64 (by omega) (by omega))) ?_
  refine TL.v (Want.plain rfl) rfl rfl (PV.move rfl rfl) ?_
  refine TL.nil ?_
  refine TE.next hK1 ?_
  clear hK1
  refine TC.block ?_
  refine TC.loop (α := (Nat) × (Value) × (List UInt8)) (fun ⟨i, u, r⟩ => i ≤ na + nb + m ∧ IsB u r F ∧ Tail v bs u r ∧ skipN (na + nb + m) bs = skipN (na + nb + m - i) r) (fun ⟨i, u, r⟩ => [(0, (.pointer (some ⟨rb, 0, none⟩))), (11, (.int .i64 ((((na : Nat) : Int) + ((nb : Nat) : Int)) + ((m : Nat) : Int)))), (12, (.int .i64 ((i : Nat))))]) (fun ⟨i, u, r⟩ => [blkA rb [u] 69, blkA ab [a] 38, blkA bb [b] 38, blkA mb [(.int .i64 (((m : Nat) : Int)))] 3]) (fun ⟨i, u, r⟩ => na + nb + m - i) (0, v, bs)
      ⟨by omega, hF, Tail.refl _ _, rfl⟩ (Sub.cons rfl rfl (Sub.cons rfl rfl (Sub.cons rfl (by congr 1) (Sub.nil _))))
      (fun _ s => s) (fun ⟨i, u, r⟩ hinv => ?_)
  obtain ⟨hi, hf, htl, hp⟩ := hinv
  refine TC.seq (fun K2 hK2 => ?_)
  refine TC.region ?_
  refine TL.v (Want.plain rfl) rfl rfl (PV.lss rfl rfl rfl) ?_
  refine TL.dec (fun h13 => ?_) (fun h13 => ?_)
  · skip
    refine TL.nil ?_
    refine TE.next hK2 ?_
    clear hK2
    refine TC.seq (fun K3 hK3 => ?_)
    refine TC.yes rfl ?_
    refine TC.skip ?_
    refine TE.next hK3 ?_
    clear hK3
    refine TC.seq (fun K4 hK4 => ?_)
    refine TC.block ?_
    refine TC.region ?_
    refine TL.v (Want.plain rfl) rfl rfl (PV.move rfl rfl) ?_
    refine TL.callP (A := [blkA rb [u] 69]) (B := [blkA ab [a] 38, blkA bb [b] 38, blkA mb [(.int .i64 (((m : Nat) : Int)))] 3]) (Want.plain rfl) rfl rfl rfl nm16 rfl (num_does rb u r ) (fun _ s => s) (fun _ d _ => (hf).more d) (fun cP HP hP => ?_) (fun vR HR hR => ?_)
    · skip
      obtain ⟨vP, rfl, rfl, hpP⟩ := hP
      change TE _ _ _ _ _ _ _ [blkA rb [vP] 69, blkA ab [a] 38, blkA bb [b] 38, blkA mb [(.int .i64 (((m : Nat) : Int)))] 3]
      refine TE.blockPanic ?_
      refine TE.passPanic ?_
      clear hK4
      refine TE.passPanic ?_
      refine TE.blockPanic ?_
      refine TE.weak (H' := [blkA rb [vP] 69, blkA ab [a] 38, blkA bb [b] 38, blkA mb [(.int .i64 (((m : Nat) : Int)))] 3]) (Sub.refl _) (fun _ s => sep_keep [0, 0, 0, 0] rfl s) ?_
      refine TE.panicked ?_
      exact ⟨rfl, vP, (), rfl, by rw [hp, show na + nb + m - i = (na + nb + m - (i + 1)) + 1 by omega, skipN_none hpP]⟩
    obtain ⟨a1, r1, v1, rfl, rfl, hp1, ht1⟩ := hR
    change TL _ _ _ _ _ _ _ _ _ [blkA rb [v1] 69, blkA ab [a] 38, blkA bb [b] 38, blkA mb [(.int .i64 (((m : Nat) : Int)))] 3]
    have hf1 := ht1 _ hf
    refine TL.nil ?_
    refine TE.blockEnd ?_
    refine TE.next hK4 ?_
    clear hK4
    refine TC.region ?_
    refine TL.v (Want.plain rfl) rfl rfl (PV.add rfl rfl rfl (wrap_i64 (by omega) (by omega))) ?_
    refine TL.v (Want.plain rfl) rfl rfl (PV.move rfl rfl) ?_
    refine TL.nil ?_
    exact TE.round ((i + 1, v1, r1) : (Nat) × (Value) × (List UInt8)) ⟨by omega, hf1, (htl.trans ht1), by rw [hp, show na + nb + m - i = (na + nb + m - (i + 1)) + 1 by omega, skipN_some hp1]⟩ (by show _ - _ < _ - _; omega)
      (Sub.cons rfl rfl (Sub.cons rfl rfl (Sub.cons rfl rfl (Sub.nil _))))
      (fun _ s => s)
  · skip
    refine TL.nil ?_
    refine TE.next hK2 ?_
    clear hK2
    refine TC.seq (fun K5 hK5 => ?_)
    refine TC.no rfl ?_
    refine TC.exit ?_
    refine TE.pass ?_
    clear hK5
    refine TE.pass ?_
    refine TE.hit ?_
    refine TE.weak (Sub.refl _) (fun _ s => sep_keep [0, 0, 0, 0] rfl s) ?_
    refine TE.end0 rfl ?_
    exact ⟨u, r, (), rfl, htl, by rw [hp, show na + nb + m - i = 0 by omega]; rfl⟩


theorem skip_encs : ∀ (l : List Int) (m : Nat), skipN (l.length + m) (encs (l.map m62)) = if m = 0 then some [] else none
  | [], 0 => rfl
  | [], m + 1 => by simp only [List.length_nil, Nat.zero_add, List.map_nil, encs_nil]; rw [skipN_none (by rfl)]; simp
  | n :: l, m => by
    have h := m62_lt n
    rw [List.length_cons, List.map_cons, encs_cons, show l.length + 1 + m = (l.length + m) + 1 by omega, skipN_some (numP_encN h.1 (by omega) _)]
    exact skip_encs l m
theorem joins_skip (xa xb : List Int) (m : Nat) : skipN (xa.length + xb.length + m) (encs (xa.map m62) ++ encs (xb.map m62)) = if m = 0 then some [] else none := by
  rw [← encs_append, ← List.map_append, ← List.length_append]
  exact skip_encs _ m

theorem joins_does (a b : Value) (xa xb : List Int) (m : Int) (hxa : xa.length ≤ 17592186044416) (hxb : xb.length ≤ 17592186044416) :
    Does Try.prog 6 #[a, b, (.int .i64 (m))] (fun F => IsI .i64 a xa F ∧ IsI .i64 b xb F) [] (Ret (fun v H => v = .bool true ∧ H = [])) := by
  refine Does.body (vs := [a, b, (.int .i64 (m))]) (n := 68) Try.func6 rfl rfl rfl (fun w0 F hF => ?_)
  refine TC.seq (fun K1 hK1 => ?_)
  refine TC.region ?_
  refine TL.box1 hF.1.one (Want.plain rfl) rfl rfl rfl rfl (fun b3 => ?_)
  change TL _ _ _ _ _ _ _ _ _ [blkA b3 [a] 38]
  refine TL.box1 hF.2.one (Want.plain rfl) rfl rfl rfl rfl (fun b4 => ?_)
  change TL _ _ _ _ _ _ _ _ _ [blkA b4 [b] 38, blkA b3 [a] 38]
  refine TL.box (Want.plain rfl) rfl rfl rfl rfl (fun b5 => ?_)
  change TL _ _ _ _ _ _ _ _ _ [blkA b5 [(.int .i64 (m))] 3, blkA b4 [b] 38, blkA b3 [a] 38]
  refine TL.v (Want.plain rfl) rfl rfl (PV.assign rfl rfl) ?_
  refine TL.nil ?_
  refine TE.next hK1 ?_
  clear hK1
  refine TC.seq (fun K2 hK2 => ?_)
  refine TC.seq (fun K3 hK3 => ?_)
  refine TC.region ?_
  refine TL.callR (A := []) (B := [blkA b5 [(.int .i64 (m))] 3, blkA b4 [b] 38, blkA b3 [a] 38]) (Want.plain rfl) rfl rfl rfl nm9 rfl (fit_does) (fun _ s => s) (fun _ _ _ => trivial) (fun vR HR hR => ?_)
  obtain ⟨rfl, rfl⟩ := hR
  change TL _ _ _ _ _ _ _ _ _ [blkA b5 [(.int .i64 (m))] 3, blkA b4 [b] 38, blkA b3 [a] 38]
  refine TL.v (Want.plain rfl) rfl rfl (PV.not (r := false) rfl rfl rfl) ?_
  refine TL.nil ?_
  refine TE.next hK3 ?_
  clear hK3
  refine TC.no rfl ?_
  refine TC.skip ?_
  refine TE.next hK2 ?_
  clear hK2
  refine TC.seq (fun K4 hK4 => ?_)
  refine TC.seq (fun K5 hK5 => ?_)
  refine TC.region ?_
  refine TL.v (Want.plain rfl) rfl rfl (PV.load1 (v := a) rfl Try.underlying38 rfl rfl (Rd.own 2 rfl rfl) rfl) ?_
  refine TL.v (Want.plain rfl) rfl rfl (PV.lenV rfl Try.underlying38 rfl hF.1.len) ?_
  refine TL.v (Want.plain rfl) rfl rfl (PV.load1 (v := b) rfl Try.underlying38 rfl rfl (Rd.own 1 rfl rfl) rfl) ?_
  refine TL.v (Want.plain rfl) rfl rfl (PV.lenV rfl Try.underlying38 rfl hF.2.len) ?_
  refine TL.v (Want.plain rfl) rfl rfl (PV.add rfl rfl rfl (wrap_i64 (by omega) (by omega))) ?_
  refine TL.v (Want.plain rfl) rfl rfl (PV.gtr rfl rfl rfl) ?_
  refine TL.dec (fun h21 => ?_) (fun h21 => ?_)
  · skip
    refine TL.nil ?_
    refine TE.next hK5 ?_
    clear hK5
    refine TC.yes rfl ?_
    refine TC.seq (fun K6 hK6 => ?_)
    refine TC.region ?_
    refine TL.v (Want.plain rfl) rfl rfl (PV.assign rfl rfl) ?_
    refine TL.nil ?_
    refine TE.next hK6 ?_
    clear hK6
    refine TC.ret ?_
    refine TE.passRet ?_
    clear hK4
    refine TE.weak (Sub.refl _) (fun _ s => sep_keep [] rfl s) ?_
    refine TE.ret1 rfl rfl ?_
    exact ⟨rfl, rfl⟩
  · skip
    refine TL.nil ?_
    refine TE.next hK5 ?_
    clear hK5
    refine TC.no rfl ?_
    refine TC.skip ?_
    refine TE.next hK4 ?_
    clear hK4
    refine TC.seq (fun K7 hK7 => ?_)
    refine TC.region ?_
    refine TL.alloc (Want.plain rfl) rfl rfl rfl z33 (fun b7 => ?_)
    change TL _ _ _ _ _ _ _ _ _ [blkA b7 [(.slice none 0 0)] 33, blkA b5 [(.int .i64 (m))] 3, blkA b4 [b] 38, blkA b3 [a] 38]
    refine TL.ownNil 5 (fun on => ?_)
    clear on
    refine TL.alloc (Want.plain rfl) rfl rfl rfl z33 (fun b8 => ?_)
    change TL _ _ _ _ _ _ _ _ _ [blkA b8 [(.slice none 0 0)] 33, ownB (.slice none 0 0) ([]) 5, blkA b7 [(.slice none 0 0)] 33, blkA b5 [(.int .i64 (m))] 3, blkA b4 [b] 38, blkA b3 [a] 38]
    refine TL.ownNil 5 (fun on => ?_)
    clear on
    refine TL.alloc (Want.plain rfl) rfl rfl rfl z33 (fun b9 => ?_)
    change TL _ _ _ _ _ _ _ _ _ [blkA b9 [(.slice none 0 0)] 33, ownB (.slice none 0 0) ([]) 5, blkA b8 [(.slice none 0 0)] 33, ownB (.slice none 0 0) ([]) 5, blkA b7 [(.slice none 0 0)] 33, blkA b5 [(.int .i64 (m))] 3, blkA b4 [b] 38, blkA b3 [a] 38]
    refine TL.ownNil 5 (fun on => ?_)
    clear on
    refine TL.nil ?_
    refine TE.next hK7 ?_
    clear hK7
    refine TC.seq (fun K8 hK8 => ?_)
    refine TC.seq (fun K9 hK9 => ?_)
    refine TC.region ?_
    refine TL.v (Want.plain rfl) rfl rfl (PV.load1 (v := a) rfl Try.underlying38 rfl rfl (Rd.own 8 rfl rfl) rfl) ?_
    refine TL.v (Want.plain rfl) rfl rfl (PV.lenV rfl Try.underlying38 rfl hF.1.len) ?_
    refine TL.v (Want.plain rfl) rfl rfl (PV.move rfl rfl) ?_
    refine TL.nil ?_
    refine TE.next hK9 ?_
    clear hK9
    refine TC.block ?_
    refine TC.loop (α := (Nat) × (Value) × (Value)) (fun ⟨k, lu1, lz1⟩ => k ≤ xa.length) (fun ⟨k, lu1, lz1⟩ => [(3, (.pointer (some ⟨b3, 0, none⟩))), (4, (.pointer (some ⟨b4, 0, none⟩))), (5, (.pointer (some ⟨b5, 0, none⟩))), (6, (.bool false)), (7, (.pointer (some ⟨b7, 0, none⟩))), (8, (.pointer (some ⟨b8, 0, none⟩))), (9, (.pointer (some ⟨b9, 0, none⟩))), (22, a), (23, (.int .i64 (((xa.length : Nat) : Int)))), (24, (.int .i64 ((k : Nat))))]) (fun ⟨k, lu1, lz1⟩ => [ownB lz1 (encs ((xa.map m62).take k)) 5, blkA b9 [lz1] 33, ownB (.slice none 0 0) ([]) 5, blkA b8 [(.slice none 0 0)] 33, ownB lu1 (encs ((xa.map m62).take k)) 5, blkA b7 [lu1] 33, blkA b5 [(.int .i64 (m))] 3, blkA b4 [b] 38, blkA b3 [a] 38]) (fun ⟨k, lu1, lz1⟩ => xa.length - k) (0, (.slice none 0 0), (.slice none 0 0))
        (Nat.zero_le _) (Sub.cons rfl rfl (Sub.cons rfl rfl (Sub.cons rfl rfl (Sub.cons rfl rfl (Sub.cons rfl rfl (Sub.cons rfl rfl (Sub.cons rfl rfl (Sub.cons rfl rfl (Sub.cons rfl rfl (Sub.cons rfl (by congr 1) (Sub.nil _)))))))))))
        (fun _ s => by
      simp only [List.take_zero, encs_nil]
      exact sep_keep [0, 0, 0, 0, 0, 0, 0, 0, 0] rfl s) (fun ⟨k, lu1, lz1⟩ hinv => ?_)
    have hk : k ≤ xa.length := hinv
    refine TC.seq (fun K10 hK10 => ?_)
    refine TC.region ?_
    refine TL.v (Want.plain rfl) rfl rfl (PV.lss rfl rfl rfl) ?_
    refine TL.dec (fun h25 => ?_) (fun h25 => ?_)
    · skip
      obtain ⟨ab, ao, ac, acs, aT, az, rfl, aF, aC, aL⟩ := hF.1.at (j := k) (by omega)
      refine TL.nil ?_
      refine TE.next hK10 ?_
      clear hK10
      refine TC.seq (fun K11 hK11 => ?_)
      refine TC.yes rfl ?_
      refine TC.skip ?_
      refine TE.next hK11 ?_
      clear hK11
      refine TC.seq (fun K12 hK12 => ?_)
      refine TC.block ?_
      refine TC.seq (fun K13 hK13 => ?_)
      refine TC.region ?_
      refine TL.v (Want.plain rfl) rfl rfl (PV.indexSl (r := ao + k) rfl Try.underlying38 sz3 rfl rfl (by first | omega | decide) (by first | omega | decide) (by omega)) ?_
      refine TL.v (Want.plain rfl) rfl rfl (PV.load1 (v := (.int .i64 ((xa.getD k 0)))) rfl Try.underlying3 rfl rfl (Rd.ro aF) (aC)) ?_
      refine TL.v (Want.plain rfl) rfl rfl (PV.assign rfl rfl) ?_
      refine TL.nil ?_
      refine TE.next hK13 ?_
      clear hK13
      refine TC.seq (fun K14 hK14 => ?_)
      refine TC.region ?_
      refine TL.v (Want.plain rfl) rfl rfl (PV.move rfl rfl) ?_
      refine TL.v (Want.plain rfl) rfl rfl (PV.and (r := (m62 (xa.getD k 0))) rfl rfl rfl (and62 _)) ?_
      refine TL.buildSlice (cells := #[(.int .i64 ((m62 (xa.getD k 0))))]) (Want.plain rfl) rfl rfl rfl Try.underlying38 in3 rfl rfl rfl (by as_aux_lemma => kernel_rfl) (fun b30 => ?_)
      change TL _ _ _ _ _ _ _ _ _ [blkA b30 [(.int .i64 ((m62 (xa.getD k 0))))] 3, ownB lz1 (encs ((xa.map m62).take k)) 5, blkA b9 [lz1] 33, ownB (.slice none 0 0) ([]) 5, blkA b8 [(.slice none 0 0)] 33, ownB lu1 (encs ((xa.map m62).take k)) 5, blkA b7 [lu1] 33, blkA b5 [(.int .i64 (m))] 3, blkA b4 [b] 38, blkA b3 [(.slice (some ⟨ab, ao, none⟩) (xa.length) (ac))] 38]
      refine TL.callR (A := [blkA b7 [lu1] 33, ownB lu1 (encs ((xa.map m62).take k)) 5]) (B := [blkA b30 [(.int .i64 ((m62 (xa.getD k 0))))] 3, ownB lz1 (encs ((xa.map m62).take k)) 5, blkA b9 [lz1] 33, ownB (.slice none 0 0) ([]) 5, blkA b8 [(.slice none 0 0)] 33, blkA b5 [(.int .i64 (m))] 3, blkA b4 [b] 38, blkA b3 [(.slice (some ⟨ab, ao, none⟩) (xa.length) (ac))] 38]) (Want.plain rfl) rfl rfl rfl nm13 rfl (wnum_does b7 lu1 (encs ((xa.map m62).take k)) (.slice (some ⟨b30, 0, none⟩) (1) (1)) [(m62 (xa.getD k 0))] (by have := encs_len ((xa.map m62).take k); have := encs_len (xa.map m62); have := encs_len ((xb.map m62).take k); simp only [List.length_append, List.length_cons, List.length_nil, List.length_take, List.length_map] at *; omega)) (fun _ s => sep_selR [6, 5] rfl s) (isN_piece 0 rfl rfl rfl rfl) (fun vR HR hR => ?_)
      obtain ⟨u1, rfl, rfl⟩ := hR
      change TL _ _ _ _ _ _ _ _ _ [blkA b7 [u1] 33, ownB u1 (encs ((xa.map m62).take k) ++ encs [(m62 (xa.getD k 0))]) 5, blkA b30 [(.int .i64 ((m62 (xa.getD k 0))))] 3, ownB lz1 (encs ((xa.map m62).take k)) 5, blkA b9 [lz1] 33, ownB (.slice none 0 0) ([]) 5, blkA b8 [(.slice none 0 0)] 33, blkA b5 [(.int .i64 (m))] 3, blkA b4 [b] 38, blkA b3 [(.slice (some ⟨ab, ao, none⟩) (xa.length) (ac))] 38]
      refine TL.nil ?_
      refine TE.next hK14 ?_
      clear hK14
      refine TC.region ?_
      refine TL.v (Want.plain rfl) rfl rfl (PV.move rfl rfl) ?_
      refine TL.v (Want.plain rfl) rfl rfl (PV.and (r := (m62 (xa.getD k 0))) rfl rfl rfl (and62 _)) ?_
      refine TL.buildSlice (cells := #[(.int .i64 ((m62 (xa.getD k 0))))]) (Want.plain rfl) rfl rfl rfl Try.underlying38 in3 rfl rfl rfl (by as_aux_lemma => kernel_rfl) (fun b34 => ?_)
      change TL _ _ _ _ _ _ _ _ _ [blkA b34 [(.int .i64 ((m62 (xa.getD k 0))))] 3, blkA b7 [u1] 33, ownB u1 (encs ((xa.map m62).take k) ++ encs [(m62 (xa.getD k 0))]) 5, blkA b30 [(.int .i64 ((m62 (xa.getD k 0))))] 3, ownB lz1 (encs ((xa.map m62).take k)) 5, blkA b9 [lz1] 33, ownB (.slice none 0 0) ([]) 5, blkA b8 [(.slice none 0 0)] 33, blkA b5 [(.int .i64 (m))] 3, blkA b4 [b] 38, blkA b3 [(.slice (some ⟨ab, ao, none⟩) (xa.length) (ac))] 38]
      refine TL.callR (A := [blkA b9 [lz1] 33, ownB lz1 (encs ((xa.map m62).take k)) 5]) (B := [blkA b34 [(.int .i64 ((m62 (xa.getD k 0))))] 3, blkA b7 [u1] 33, ownB u1 (encs ((xa.map m62).take k) ++ encs [(m62 (xa.getD k 0))]) 5, blkA b30 [(.int .i64 ((m62 (xa.getD k 0))))] 3, ownB (.slice none 0 0) ([]) 5, blkA b8 [(.slice none 0 0)] 33, blkA b5 [(.int .i64 (m))] 3, blkA b4 [b] 38, blkA b3 [(.slice (some ⟨ab, ao, none⟩) (xa.length) (ac))] 38]) (Want.plain rfl) rfl rfl rfl nm13 rfl (wnum_does b9 lz1 (encs ((xa.map m62).take k)) (.slice (some ⟨b34, 0, none⟩) (1) (1)) [(m62 (xa.getD k 0))] (by have := encs_len ((xa.map m62).take k); have := encs_len (xa.map m62); have := encs_len ((xb.map m62).take k); simp only [List.length_append, List.length_cons, List.length_nil, List.length_take, List.length_map] at *; omega)) (fun _ s => sep_selR [5, 4] rfl s) (isN_piece 0 rfl rfl rfl rfl) (fun vR HR hR => ?_)
      obtain ⟨u2, rfl, rfl⟩ := hR
      change TL _ _ _ _ _ _ _ _ _ [blkA b9 [u2] 33, ownB u2 (encs ((xa.map m62).take k) ++ encs [(m62 (xa.getD k 0))]) 5, blkA b34 [(.int .i64 ((m62 (xa.getD k 0))))] 3, blkA b7 [u1] 33, ownB u1 (encs ((xa.map m62).take k) ++ encs [(m62 (xa.getD k 0))]) 5, blkA b30 [(.int .i64 ((m62 (xa.getD k 0))))] 3, ownB (.slice none 0 0) ([]) 5, blkA b8 [(.slice none 0 0)] 33, blkA b5 [(.int .i64 (m))] 3, blkA b4 [b] 38, blkA b3 [(.slice (some ⟨ab, ao, none⟩) (xa.length) (ac))] 38]
      refine TL.nil ?_
      refine TE.blockEnd ?_
      refine TE.next hK12 ?_
      clear hK12
      refine TC.region ?_
      refine TL.v (Want.plain rfl) rfl rfl (PV.add rfl rfl rfl (wrap_i64 (by omega) (by omega))) ?_
      refine TL.v (Want.plain rfl) rfl rfl (PV.move rfl rfl) ?_
      refine TL.nil ?_
      exact TE.round ((k + 1, u1, u2) : (Nat) × (Value) × (Value)) (by show _ + 1 ≤ _; omega) (by show _ - _ < _ - _; omega)
        (Sub.cons rfl rfl (Sub.cons rfl rfl (Sub.cons rfl rfl (Sub.cons rfl rfl (Sub.cons rfl rfl (Sub.cons rfl rfl (Sub.cons rfl rfl (Sub.cons rfl rfl (Sub.cons rfl rfl (Sub.cons rfl rfl (Sub.nil _)))))))))))
        (fun _ s => by
      simp only [take_succ_map m62 (show k < xa.length by omega)]
      exact sep_keep [1, 0, 4, 4, 2, 1, 2, 2, 2] rfl s)
    · skip
      obtain rfl : k = xa.length := by omega
      change TL _ _ _ _ _ _ _ _ _ [ownB lz1 (encs ((xa.map m62).take xa.length)) 5, blkA b9 [lz1] 33, ownB (.slice none 0 0) ([]) 5, blkA b8 [(.slice none 0 0)] 33, ownB lu1 (encs ((xa.map m62).take xa.length)) 5, blkA b7 [lu1] 33, blkA b5 [(.int .i64 (m))] 3, blkA b4 [b] 38, blkA b3 [a] 38]
      rw [show (xa.map m62).take xa.length = xa.map m62 from List.take_of_length_le (by simp)]
      refine TL.nil ?_
      refine TE.next hK10 ?_
      clear hK10
      refine TC.seq (fun K15 hK15 => ?_)
      refine TC.no rfl ?_
      refine TC.exit ?_
      refine TE.pass ?_
      clear hK15
      refine TE.pass ?_
      refine TE.hit ?_
      refine TE.next hK8 ?_
      clear hK8
      refine TC.seq (fun K16 hK16 => ?_)
      refine TC.seq (fun K17 hK17 => ?_)
      refine TC.region ?_
      refine TL.v (Want.plain rfl) rfl rfl (PV.load1 (v := b) rfl Try.underlying38 rfl rfl (Rd.own 7 rfl rfl) rfl) ?_
      refine TL.v (Want.plain rfl) rfl rfl (PV.lenV rfl Try.underlying38 rfl hF.2.len) ?_
      refine TL.v (Want.plain rfl) rfl rfl (PV.move rfl rfl) ?_
      refine TL.nil ?_
      refine TE.next hK17 ?_
      clear hK17
      refine TC.block ?_
      refine TC.loop (α := (Nat) × (Value) × (Value)) (fun ⟨k, lu2, lz2⟩ => k ≤ xb.length) (fun ⟨k, lu2, lz2⟩ => [(3, (.pointer (some ⟨b3, 0, none⟩))), (4, (.pointer (some ⟨b4, 0, none⟩))), (5, (.pointer (some ⟨b5, 0, none⟩))), (6, (.bool false)), (7, (.pointer (some ⟨b7, 0, none⟩))), (8, (.pointer (some ⟨b8, 0, none⟩))), (9, (.pointer (some ⟨b9, 0, none⟩))), (37, b), (38, (.int .i64 (((xb.length : Nat) : Int)))), (39, (.int .i64 ((k : Nat))))]) (fun ⟨k, lu2, lz2⟩ => [ownB lz2 (encs (xa.map m62) ++ encs ((xb.map m62).take k)) 5, blkA b9 [lz2] 33, ownB lu2 (encs ((xb.map m62).take k)) 5, blkA b8 [lu2] 33, ownB lu1 (encs (xa.map m62)) 5, blkA b7 [lu1] 33, blkA b5 [(.int .i64 (m))] 3, blkA b4 [b] 38, blkA b3 [a] 38]) (fun ⟨k, lu2, lz2⟩ => xb.length - k) (0, (.slice none 0 0), lz1)
          (Nat.zero_le _) (Sub.cons rfl rfl (Sub.cons rfl rfl (Sub.cons rfl rfl (Sub.cons rfl rfl (Sub.cons rfl rfl (Sub.cons rfl rfl (Sub.cons rfl rfl (Sub.cons rfl rfl (Sub.cons rfl rfl (Sub.cons rfl (by congr 1) (Sub.nil _)))))))))))
          (fun _ s => by
      simp only [List.take_zero, encs_nil, List.append_nil]
      exact sep_keep [0, 0, 0, 0, 0, 0, 0, 0, 0] rfl s) (fun ⟨k, lu2, lz2⟩ hinv => ?_)
      have hk : k ≤ xb.length := hinv
      refine TC.seq (fun K18 hK18 => ?_)
      refine TC.region ?_
      refine TL.v (Want.plain rfl) rfl rfl (PV.lss rfl rfl rfl) ?_
      refine TL.dec (fun h40 => ?_) (fun h40 => ?_)
      · skip
        obtain ⟨bb, bo, bc, bcs, bT, bz, rfl, bF, bC, bL⟩ := hF.2.at (j := k) (by omega)
        refine TL.nil ?_
        refine TE.next hK18 ?_
        clear hK18
        refine TC.seq (fun K19 hK19 => ?_)
        refine TC.yes rfl ?_
        refine TC.skip ?_
        refine TE.next hK19 ?_
        clear hK19
        refine TC.seq (fun K20 hK20 => ?_)
        refine TC.block ?_
        refine TC.seq (fun K21 hK21 => ?_)
        refine TC.region ?_
        refine TL.v (Want.plain rfl) rfl rfl (PV.indexSl (r := bo + k) rfl Try.underlying38 sz3 rfl rfl (by first | omega | decide) (by first | omega | decide) (by omega)) ?_
        refine TL.v (Want.plain rfl) rfl rfl (PV.load1 (v := (.int .i64 ((xb.getD k 0)))) rfl Try.underlying3 rfl rfl (Rd.ro bF) (bC)) ?_
        refine TL.v (Want.plain rfl) rfl rfl (PV.assign rfl rfl) ?_
        refine TL.nil ?_
        refine TE.next hK21 ?_
        clear hK21
        refine TC.seq (fun K22 hK22 => ?_)
        refine TC.region ?_
        refine TL.v (Want.plain rfl) rfl rfl (PV.move rfl rfl) ?_
        refine TL.v (Want.plain rfl) rfl rfl (PV.and (r := (m62 (xb.getD k 0))) rfl rfl rfl (and62 _)) ?_
        refine TL.buildSlice (cells := #[(.int .i64 ((m62 (xb.getD k 0))))]) (Want.plain rfl) rfl rfl rfl Try.underlying38 in3 rfl rfl rfl (by as_aux_lemma => kernel_rfl) (fun b45 => ?_)
        change TL _ _ _ _ _ _ _ _ _ [blkA b45 [(.int .i64 ((m62 (xb.getD k 0))))] 3, ownB lz2 (encs (xa.map m62) ++ encs ((xb.map m62).take k)) 5, blkA b9 [lz2] 33, ownB lu2 (encs ((xb.map m62).take k)) 5, blkA b8 [lu2] 33, ownB lu1 (encs (xa.map m62)) 5, blkA b7 [lu1] 33, blkA b5 [(.int .i64 (m))] 3, blkA b4 [(.slice (some ⟨bb, bo, none⟩) (xb.length) (bc))] 38, blkA b3 [a] 38]
        refine TL.callR (A := [blkA b8 [lu2] 33, ownB lu2 (encs ((xb.map m62).take k)) 5]) (B := [blkA b45 [(.int .i64 ((m62 (xb.getD k 0))))] 3, ownB lz2 (encs (xa.map m62) ++ encs ((xb.map m62).take k)) 5, blkA b9 [lz2] 33, ownB lu1 (encs (xa.map m62)) 5, blkA b7 [lu1] 33, blkA b5 [(.int .i64 (m))] 3, blkA b4 [(.slice (some ⟨bb, bo, none⟩) (xb.length) (bc))] 38, blkA b3 [a] 38]) (Want.plain rfl) rfl rfl rfl nm13 rfl (wnum_does b8 lu2 (encs ((xb.map m62).take k)) (.slice (some ⟨b45, 0, none⟩) (1) (1)) [(m62 (xb.getD k 0))] (by have := encs_len ((xa.map m62).take k); have := encs_len (xa.map m62); have := encs_len ((xb.map m62).take k); simp only [List.length_append, List.length_cons, List.length_nil, List.length_take, List.length_map] at *; omega)) (fun _ s => sep_selR [4, 3] rfl s) (isN_piece 0 rfl rfl rfl rfl) (fun vR HR hR => ?_)
        obtain ⟨u1, rfl, rfl⟩ := hR
        change TL _ _ _ _ _ _ _ _ _ [blkA b8 [u1] 33, ownB u1 (encs ((xb.map m62).take k) ++ encs [(m62 (xb.getD k 0))]) 5, blkA b45 [(.int .i64 ((m62 (xb.getD k 0))))] 3, ownB lz2 (encs (xa.map m62) ++ encs ((xb.map m62).take k)) 5, blkA b9 [lz2] 33, ownB lu1 (encs (xa.map m62)) 5, blkA b7 [lu1] 33, blkA b5 [(.int .i64 (m))] 3, blkA b4 [(.slice (some ⟨bb, bo, none⟩) (xb.length) (bc))] 38, blkA b3 [a] 38]
        refine TL.nil ?_
        refine TE.next hK22 ?_
        clear hK22
        refine TC.region ?_
        refine TL.v (Want.plain rfl) rfl rfl (PV.move rfl rfl) ?_
        refine TL.v (Want.plain rfl) rfl rfl (PV.and (r := (m62 (xb.getD k 0))) rfl rfl rfl (and62 _)) ?_
        refine TL.buildSlice (cells := #[(.int .i64 ((m62 (xb.getD k 0))))]) (Want.plain rfl) rfl rfl rfl Try.underlying38 in3 rfl rfl rfl (by as_aux_lemma => kernel_rfl) (fun b49 => ?_)
        change TL _ _ _ _ _ _ _ _ _ [blkA b49 [(.int .i64 ((m62 (xb.getD k 0))))] 3, blkA b8 [u1] 33, ownB u1 (encs ((xb.map m62).take k) ++ encs [(m62 (xb.getD k 0))]) 5, blkA b45 [(.int .i64 ((m62 (xb.getD k 0))))] 3, ownB lz2 (encs (xa.map m62) ++ encs ((xb.map m62).take k)) 5, blkA b9 [lz2] 33, ownB lu1 (encs (xa.map m62)) 5, blkA b7 [lu1] 33, blkA b5 [(.int .i64 (m))] 3, blkA b4 [(.slice (some ⟨bb, bo, none⟩) (xb.length) (bc))] 38, blkA b3 [a] 38]
        refine TL.callR (A := [blkA b9 [lz2] 33, ownB lz2 (encs (xa.map m62) ++ encs ((xb.map m62).take k)) 5]) (B := [blkA b49 [(.int .i64 ((m62 (xb.getD k 0))))] 3, blkA b8 [u1] 33, ownB u1 (encs ((xb.map m62).take k) ++ encs [(m62 (xb.getD k 0))]) 5, blkA b45 [(.int .i64 ((m62 (xb.getD k 0))))] 3, ownB lu1 (encs (xa.map m62)) 5, blkA b7 [lu1] 33, blkA b5 [(.int .i64 (m))] 3, blkA b4 [(.slice (some ⟨bb, bo, none⟩) (xb.length) (bc))] 38, blkA b3 [a] 38]) (Want.plain rfl) rfl rfl rfl nm13 rfl (wnum_does b9 lz2 (encs (xa.map m62) ++ encs ((xb.map m62).take k)) (.slice (some ⟨b49, 0, none⟩) (1) (1)) [(m62 (xb.getD k 0))] (by have := encs_len ((xa.map m62).take k); have := encs_len (xa.map m62); have := encs_len ((xb.map m62).take k); simp only [List.length_append, List.length_cons, List.length_nil, List.length_take, List.length_map] at *; omega)) (fun _ s => sep_selR [5, 4] rfl s) (isN_piece 0 rfl rfl rfl rfl) (fun vR HR hR => ?_)
        obtain ⟨u2, rfl, rfl⟩ := hR
        change TL _ _ _ _ _ _ _ _ _ [blkA b9 [u2] 33, ownB u2 (encs (xa.map m62) ++ encs ((xb.map m62).take k) ++ encs [(m62 (xb.getD k 0))]) 5, blkA b49 [(.int .i64 ((m62 (xb.getD k 0))))] 3, blkA b8 [u1] 33, ownB u1 (encs ((xb.map m62).take k) ++ encs [(m62 (xb.getD k 0))]) 5, blkA b45 [(.int .i64 ((m62 (xb.getD k 0))))] 3, ownB lu1 (encs (xa.map m62)) 5, blkA b7 [lu1] 33, blkA b5 [(.int .i64 (m))] 3, blkA b4 [(.slice (some ⟨bb, bo, none⟩) (xb.length) (bc))] 38, blkA b3 [a] 38]
        refine TL.nil ?_
        refine TE.blockEnd ?_
        refine TE.next hK20 ?_
        clear hK20
        refine TC.region ?_
        refine TL.v (Want.plain rfl) rfl rfl (PV.add rfl rfl rfl (wrap_i64 (by omega) (by omega))) ?_
        refine TL.v (Want.plain rfl) rfl rfl (PV.move rfl rfl) ?_
        refine TL.nil ?_
        exact TE.round ((k + 1, u1, u2) : (Nat) × (Value) × (Value)) (by show _ + 1 ≤ _; omega) (by show _ - _ < _ - _; omega)
          (Sub.cons rfl rfl (Sub.cons rfl rfl (Sub.cons rfl rfl (Sub.cons rfl rfl (Sub.cons rfl rfl (Sub.cons rfl rfl (Sub.cons rfl rfl (Sub.cons rfl rfl (Sub.cons rfl rfl (Sub.cons rfl rfl (Sub.nil _)))))))))))
          (fun _ s => by
      simp only [take_succ_map m62 (show k < xb.length by omega), ← List.append_assoc]
      exact sep_keep [1, 0, 2, 1, 2, 2, 2, 2, 2] rfl s)
      · skip
        obtain rfl : k = xb.length := by omega
        change TL _ _ _ _ _ _ _ _ _ [ownB lz2 (encs (xa.map m62) ++ encs ((xb.map m62).take xb.length)) 5, blkA b9 [lz2] 33, ownB lu2 (encs ((xb.map m62).take xb.length)) 5, blkA b8 [lu2] 33, ownB lu1 (encs (xa.map m62)) 5, blkA b7 [lu1] 33, blkA b5 [(.int .i64 (m))] 3, blkA b4 [b] 38, blkA b3 [a] 38]
        rw [show (xb.map m62).take xb.length = xb.map m62 from List.take_of_length_le (by simp)]
        refine TL.nil ?_
        refine TE.next hK18 ?_
        clear hK18
        refine TC.seq (fun K23 hK23 => ?_)
        refine TC.no rfl ?_
        refine TC.exit ?_
        refine TE.pass ?_
        clear hK23
        refine TE.pass ?_
        refine TE.hit ?_
        refine TE.next hK16 ?_
        clear hK16
        refine TC.seq (fun K24 hK24 => ?_)
        refine TC.seq (fun K25 hK25 => ?_)
        refine TC.draw (fun w => Frm F w ∧ True) mixed rfl (fun _ s => ⟨Frm.of s, trivial⟩) ?_
        refine TD.all [0] (by kernel_rfl) rfl ?_
        refine AllT.cons rfl ?_ ?_
        · skip
          refine TL.callR (A := [blkA b9 [lz2] 33, ownB lz2 (encs (xa.map m62) ++ encs (xb.map m62)) 5]) (B := [ownB lu2 (encs (xb.map m62)) 5, blkA b8 [lu2] 33, ownB lu1 (encs (xa.map m62)) 5, blkA b7 [lu1] 33, blkA b5 [(.int .i64 (m))] 3, blkA b4 [b] 38, blkA b3 [a] 38]) (Want.plain rfl) rfl rfl rfl nm12 rfl (wbytes_does b9 lz2 (encs (xa.map m62) ++ encs (xb.map m62)) (by have := encs_len (xa.map m62); have := encs_len (xb.map m62); simp only [List.length_append, List.length_cons, List.length_nil, List.length_take, List.length_map] at *; omega)) (fun _ s => sep_selR [1, 0] rfl s) (fun _ _ _ => trivial) (fun vR HR hR => ?_)
          obtain ⟨y1, hy1, rfl⟩ := hR
          subst vR
          change TL _ _ _ _ _ _ _ _ _ [blkA b9 [lz2] 33, ownB lz2 (encs (xa.map m62) ++ encs (xb.map m62)) 5, ownB y1 (encs (xa.map m62) ++ encs (xb.map m62)) 5, ownB lu2 (encs (xb.map m62)) 5, blkA b8 [lu2] 33, ownB lu1 (encs (xa.map m62)) 5, blkA b7 [lu1] 33, blkA b5 [(.int .i64 (m))] 3, blkA b4 [b] 38, blkA b3 [a] 38]
          refine TL.nil ?_
          refine TE.draw (fun _ s => ⟨Frm.of s, trivial⟩) ?_
          refine TD.more (Hb y1 (encs (xa.map m62) ++ encs (xb.map m62))) (fun _ s => s.hb 2 rfl rfl) ?_
          refine TD.take (i := 1) rfl (by kernel_rfl) (by kernel_rfl) (by kernel_rfl) (fun _ _ _ _ h => h) (Want.plain rfl) rfl rfl (PV.bytesStr (l := encs (xa.map m62) ++ encs (xb.map m62)) rfl Try.underlying31 Try.underlying5 Try.underlying9 rfl (Hb.src (fun _ h => h.1))) ?_
          refine TD.all [2] (by kernel_rfl) rfl ?_
          refine AllT.cons rfl ?_ ?_
          · skip
            refine TL.callR (A := [blkA b7 [lu1] 33, ownB lu1 (encs (xa.map m62)) 5]) (B := [blkA b9 [lz2] 33, ownB lz2 (encs (xa.map m62) ++ encs (xb.map m62)) 5, ownB y1 (encs (xa.map m62) ++ encs (xb.map m62)) 5, ownB lu2 (encs (xb.map m62)) 5, blkA b8 [lu2] 33, blkA b5 [(.int .i64 (m))] 3, blkA b4 [b] 38, blkA b3 [a] 38]) (Want.plain rfl) rfl rfl rfl nm12 rfl (wbytes_does b7 lu1 (encs (xa.map m62)) (by have := encs_len (xa.map m62); have := encs_len (xb.map m62); simp only [List.length_append, List.length_cons, List.length_nil, List.length_take, List.length_map] at *; omega)) (fun _ s => sep_selR [6, 5] rfl s) (fun _ _ _ => trivial) (fun vR HR hR => ?_)
            obtain ⟨y2, hy2, rfl⟩ := hR
            subst vR
            change TL _ _ _ _ _ _ _ _ _ [blkA b7 [lu1] 33, ownB lu1 (encs (xa.map m62)) 5, ownB y2 (encs (xa.map m62)) 5, blkA b9 [lz2] 33, ownB lz2 (encs (xa.map m62) ++ encs (xb.map m62)) 5, ownB y1 (encs (xa.map m62) ++ encs (xb.map m62)) 5, ownB lu2 (encs (xb.map m62)) 5, blkA b8 [lu2] 33, blkA b5 [(.int .i64 (m))] 3, blkA b4 [b] 38, blkA b3 [a] 38]
            refine TL.nil ?_
            refine TE.draw (fun _ s => ⟨s.hb 5 rfl rfl, ⟨Frm.of s, trivial⟩⟩) ?_
            refine TD.more (Hb y2 (encs (xa.map m62))) (fun _ s => s.hb 2 rfl rfl) ?_
            refine TD.take (i := 3) rfl (by kernel_rfl) (by kernel_rfl) (by kernel_rfl) (fun _ _ _ _ h => h) (Want.plain rfl) rfl rfl (PV.bytesStr (l := encs (xa.map m62)) rfl Try.underlying31 Try.underlying5 Try.underlying9 rfl (Hb.src (fun _ h => h.1))) ?_
            refine TD.all [4] (by kernel_rfl) rfl ?_
            refine AllT.cons rfl ?_ ?_
            · skip
              refine TL.callR (A := [blkA b8 [lu2] 33, ownB lu2 (encs (xb.map m62)) 5]) (B := [blkA b7 [lu1] 33, ownB lu1 (encs (xa.map m62)) 5, ownB y2 (encs (xa.map m62)) 5, blkA b9 [lz2] 33, ownB lz2 (encs (xa.map m62) ++ encs (xb.map m62)) 5, ownB y1 (encs (xa.map m62) ++ encs (xb.map m62)) 5, blkA b5 [(.int .i64 (m))] 3, blkA b4 [b] 38, blkA b3 [a] 38]) (Want.plain rfl) rfl rfl rfl nm12 rfl (wbytes_does b8 lu2 (encs (xb.map m62)) (by have := encs_len (xa.map m62); have := encs_len (xb.map m62); simp only [List.length_append, List.length_cons, List.length_nil, List.length_take, List.length_map] at *; omega)) (fun _ s => sep_selR [7, 6] rfl s) (fun _ _ _ => trivial) (fun vR HR hR => ?_)
              obtain ⟨y3, hy3, rfl⟩ := hR
              subst vR
              change TL _ _ _ _ _ _ _ _ _ [blkA b8 [lu2] 33, ownB lu2 (encs (xb.map m62)) 5, ownB y3 (encs (xb.map m62)) 5, blkA b7 [lu1] 33, ownB lu1 (encs (xa.map m62)) 5, ownB y2 (encs (xa.map m62)) 5, blkA b9 [lz2] 33, ownB lz2 (encs (xa.map m62) ++ encs (xb.map m62)) 5, ownB y1 (encs (xa.map m62) ++ encs (xb.map m62)) 5, blkA b5 [(.int .i64 (m))] 3, blkA b4 [b] 38, blkA b3 [a] 38]
              refine TL.nil ?_
              refine TE.draw (fun _ s => ⟨s.hb 5 rfl rfl, ⟨s.hb 8 rfl rfl, ⟨Frm.of s, trivial⟩⟩⟩) ?_
              refine TD.more (Hb y3 (encs (xb.map m62))) (fun _ s => s.hb 2 rfl rfl) ?_
              refine TD.take (i := 5) rfl (by kernel_rfl) (by kernel_rfl) (by kernel_rfl) (fun _ _ _ _ h => h) (Want.plain rfl) rfl rfl (PV.bytesStr (l := encs (xb.map m62)) rfl Try.underlying31 Try.underlying5 Try.underlying9 rfl (Hb.src (fun _ h => h.1))) ?_
              refine TD.take (i := 6) rfl (by kernel_rfl) (by kernel_rfl) (by kernel_rfl) (fun _ _ _ _ h => h) (Want.plain rfl) rfl rfl (PV.strAdd (a := encs (xa.map m62)) (b := encs (xb.map m62)) rfl rfl rfl (by have := encs_len (xa.map m62); have := encs_len (xb.map m62); simp only [List.length_append, List.length_cons, List.length_nil, List.length_take, List.length_map] at *; omega)) ?_
              refine TD.take (i := 7) rfl (by kernel_rfl) (by kernel_rfl) (by kernel_rfl) (fun _ _ _ _ h => h) (Want.plain rfl) rfl rfl (PV.strNeq (a := encs (xa.map m62) ++ encs (xb.map m62)) (b := encs (xa.map m62) ++ encs (xb.map m62)) rfl rfl rfl) ?_
              refine TD.dec (fun h59 => ?_) (fun h59 => ?_)
              · exact absurd rfl h59
              · skip
                refine TD.done (by kernel_rfl) ?_
                refine TE.next hK25 ?_
                clear hK25
                refine TC.no rfl ?_
                refine TC.skip ?_
                refine TE.next hK24 ?_
                clear hK24
                refine TC.seq (fun K26 hK26 => ?_)
                refine TC.region ?_
                refine TL.v (Want.plain rfl) rfl rfl (PV.load1 (v := (.int .i64 (m))) rfl Try.underlying3 rfl rfl (Rd.own 9 rfl rfl) rfl) ?_
                refine TL.v (Want.plain rfl) rfl rfl (PV.and (r := (((m % 4).toNat : Nat) : Int)) rfl rfl rfl (and2n m)) ?_
                refine TL.store1 (i := 9) (H' := [blkA b8 [lu2] 33, ownB lu2 (encs (xb.map m62)) 5, ownB y3 (encs (xb.map m62)) 5, blkA b7 [lu1] 33, ownB lu1 (encs (xa.map m62)) 5, ownB y2 (encs (xa.map m62)) 5, blkA b9 [lz2] 33, ownB lz2 (encs (xa.map m62) ++ encs (xb.map m62)) 5, ownB y1 (encs (xa.map m62) ++ encs (xb.map m62)) 5, blkA b5 [(.int .i64 ((((m % 4).toNat : Nat) : Int)))] 3, blkA b4 [b] 38, blkA b3 [a] 38]) (Want.plain rfl) rfl rfl rfl rfl rfl sz3 rfl rfl (lb rfl) rfl rfl ?_
                refine TL.nil ?_
                refine TE.next hK26 ?_
                clear hK26
                refine TC.seq (fun K27 hK27 => ?_)
                refine TC.draw (fun w => Frm F w ∧ w.heap[b5]? = some (.cells ([(.int .i64 ((((m % 4).toNat : Nat) : Int)))]).toArray 3 (0, 0)) ∧ True) mixed rfl (fun _ s => ⟨Frm.of s, s.block 9 (lb rfl) rfl, trivial⟩) ?_
                refine TD.take (i := 1) rfl (by kernel_rfl) (by kernel_rfl) (by kernel_rfl) (fun _ _ _ _ h => h) (Want.plain rfl) rfl rfl (PV.mkFunc rfl rfl) ?_
                refine TD.take (i := 3) rfl (by kernel_rfl) (by kernel_rfl) (by kernel_rfl) (fun _ _ _ _ h => h) (Want.plain rfl) rfl rfl (PV.load1 (v := (.int .i64 ((((m % 4).toNat : Nat) : Int)))) rfl Try.underlying3 rfl rfl (Rd.right (Rd.left)) rfl) ?_
                refine TD.take (i := 4) rfl (by kernel_rfl) (by kernel_rfl) (by kernel_rfl) (fun _ _ _ _ h => h) (Want.plain rfl) rfl rfl (PV.eql rfl rfl rfl) ?_
                refine TD.all [0] (by kernel_rfl) rfl ?_
                refine AllT.cons rfl ?_ ?_
                · skip
                  refine TL.callR (A := [blkA b9 [lz2] 33, ownB lz2 (encs (xa.map m62) ++ encs (xb.map m62)) 5]) (B := [blkA b8 [lu2] 33, ownB lu2 (encs (xb.map m62)) 5, ownB y3 (encs (xb.map m62)) 5, blkA b7 [lu1] 33, ownB lu1 (encs (xa.map m62)) 5, ownB y2 (encs (xa.map m62)) 5, ownB y1 (encs (xa.map m62) ++ encs (xb.map m62)) 5, blkA b5 [(.int .i64 ((((m % 4).toNat : Nat) : Int)))] 3, blkA b4 [b] 38, blkA b3 [a] 38]) (Want.plain rfl) rfl rfl rfl nm12 rfl (wbytes_does b9 lz2 (encs (xa.map m62) ++ encs (xb.map m62)) (by have := encs_len (xa.map m62); have := encs_len (xb.map m62); simp only [List.length_append, List.length_cons, List.length_nil, List.length_take, List.length_map] at *; omega)) (fun _ s => sep_selR [6, 6] rfl s) (fun _ _ _ => trivial) (fun vR HR hR => ?_)
                  obtain ⟨y4, hy4, rfl⟩ := hR
                  subst vR
                  change TL _ _ _ _ _ _ _ _ _ [blkA b9 [lz2] 33, ownB lz2 (encs (xa.map m62) ++ encs (xb.map m62)) 5, ownB y4 (encs (xa.map m62) ++ encs (xb.map m62)) 5, blkA b8 [lu2] 33, ownB lu2 (encs (xb.map m62)) 5, ownB y3 (encs (xb.map m62)) 5, blkA b7 [lu1] 33, ownB lu1 (encs (xa.map m62)) 5, ownB y2 (encs (xa.map m62)) 5, ownB y1 (encs (xa.map m62) ++ encs (xb.map m62)) 5, blkA b5 [(.int .i64 ((((m % 4).toNat : Nat) : Int)))] 3, blkA b4 [b] 38, blkA b3 [a] 38]
                  refine TL.nil ?_
                  refine TE.draw (fun _ s => ⟨Frm.of s, s.block 10 (lb rfl) rfl, trivial⟩) ?_
                  refine TD.all [2] (by kernel_rfl) rfl ?_
                  refine AllT.cons rfl ?_ ?_
                  · skip
                    refine TL.callR (A := [blkA b3 [a] 38, blkA b4 [b] 38, blkA b5 [(.int .i64 ((((m % 4).toNat : Nat) : Int)))] 3]) (B := [blkA b9 [lz2] 33, ownB lz2 (encs (xa.map m62) ++ encs (xb.map m62)) 5, ownB y4 (encs (xa.map m62) ++ encs (xb.map m62)) 5, blkA b8 [lu2] 33, ownB lu2 (encs (xb.map m62)) 5, ownB y3 (encs (xb.map m62)) 5, blkA b7 [lu1] 33, ownB lu1 (encs (xa.map m62)) 5, ownB y2 (encs (xa.map m62)) 5, ownB y1 (encs (xa.map m62) ++ encs (xb.map m62)) 5]) (Want.plain rfl) rfl rfl rfl nm14 rfl (read_with (bs := encs (xa.map m62) ++ encs (xb.map m62)) (C := [blkA b3 [a] 38, blkA b4 [b] 38, blkA b5 [(.int .i64 ((((m % 4).toNat : Nat) : Int)))] 3]) (caps := [(.pointer (some ⟨b3, 0, none⟩)), (.pointer (some ⟨b4, 0, none⟩)), (.pointer (some ⟨b5, 0, none⟩))]) (A := fun _ : Unit => [blkA b3 [a] 38, blkA b4 [b] 38, blkA b5 [(.int .i64 ((((m % 4).toNat : Nat) : Int)))] 3]) (G := fun _ : Unit => [blkA b3 [a] 38, blkA b4 [b] 38, blkA b5 [(.int .i64 ((((m % 4).toNat : Nat) : Int)))] 3]) (φ := fun _ r => skipN (xa.length + xb.length + (m % 4).toNat) (encs (xa.map m62) ++ encs (xb.map m62)) = some r) (ψ := fun _ => skipN (xa.length + xb.length + (m % 4).toNat) (encs (xa.map m62) ++ encs (xb.map m62)) = none) (fun _ h => h) (fun _ _ h d => h.more d) nm18 (fun rb => joins1_does rb b3 b4 b5 y4 (encs (xa.map m62) ++ encs (xb.map m62)) a b xa.length xb.length (m % 4).toNat hF.1.len hF.2.len (by omega) (by omega))) (fun _ s => sep_selR [12, 11, 10] rfl s) (isB_own 2 rfl rfl) (fun vR HR hR => ?_)
                    rcases hR with ⟨r, _, rfl, rfl, hs⟩ | ⟨_, rfl, rfl, hs⟩
                    · skip
                      change TL _ _ _ _ _ _ _ _ _ [blkA b3 [a] 38, blkA b4 [b] 38, blkA b5 [(.int .i64 ((((m % 4).toNat : Nat) : Int)))] 3, blkA b9 [lz2] 33, ownB lz2 (encs (xa.map m62) ++ encs (xb.map m62)) 5, ownB y4 (encs (xa.map m62) ++ encs (xb.map m62)) 5, blkA b8 [lu2] 33, ownB lu2 (encs (xb.map m62)) 5, ownB y3 (encs (xb.map m62)) 5, blkA b7 [lu1] 33, ownB lu1 (encs (xa.map m62)) 5, ownB y2 (encs (xa.map m62)) 5, ownB y1 (encs (xa.map m62) ++ encs (xb.map m62)) 5]
                      refine TL.nil ?_
                      refine TE.draw (fun _ s => ⟨Frm.of s, s.block 2 (lb rfl) rfl, trivial⟩) ?_
                      refine TD.take (i := 5) rfl (by kernel_rfl) (by kernel_rfl) (by kernel_rfl) (fun _ _ _ _ h => h) (Want.plain rfl) rfl rfl (PV.eqlB rfl Try.underlying4 rfl rfl) ?_
                      refine TD.take (i := 6) rfl (by kernel_rfl) (by kernel_rfl) (by kernel_rfl) (fun _ _ _ _ h => h) (Want.plain rfl) rfl rfl (PV.assign rfl rfl) ?_
                      refine TD.done (by kernel_rfl) ?_
                      refine TE.next hK27 ?_
                      clear hK27
                      refine TC.ret ?_
                      refine TE.weak (Sub.refl _) (fun _ s => sep_keep [] rfl s) ?_
                      refine TE.ret1 rfl rfl ?_
                      refine ⟨?_, rfl⟩
                      rw [joins_skip xa xb (m % 4).toNat] at hs
                      split at hs <;> simp_all <;> omega
                    · skip
                      change TL _ _ _ _ _ _ _ _ _ [blkA b3 [a] 38, blkA b4 [b] 38, blkA b5 [(.int .i64 ((((m % 4).toNat : Nat) : Int)))] 3, blkA b9 [lz2] 33, ownB lz2 (encs (xa.map m62) ++ encs (xb.map m62)) 5, ownB y4 (encs (xa.map m62) ++ encs (xb.map m62)) 5, blkA b8 [lu2] 33, ownB lu2 (encs (xb.map m62)) 5, ownB y3 (encs (xb.map m62)) 5, blkA b7 [lu1] 33, ownB lu1 (encs (xa.map m62)) 5, ownB y2 (encs (xa.map m62)) 5, ownB y1 (encs (xa.map m62) ++ encs (xb.map m62)) 5]
                      refine TL.nil ?_
                      refine TE.draw (fun _ s => ⟨Frm.of s, s.block 2 (lb rfl) rfl, trivial⟩) ?_
                      refine TD.take (i := 5) rfl (by kernel_rfl) (by kernel_rfl) (by kernel_rfl) (fun _ _ _ _ h => h) (Want.plain rfl) rfl rfl (PV.eqlB rfl Try.underlying4 rfl rfl) ?_
                      refine TD.take (i := 6) rfl (by kernel_rfl) (by kernel_rfl) (by kernel_rfl) (fun _ _ _ _ h => h) (Want.plain rfl) rfl rfl (PV.assign rfl rfl) ?_
                      refine TD.done (by kernel_rfl) ?_
                      refine TE.next hK27 ?_
                      clear hK27
                      refine TC.ret ?_
                      refine TE.weak (Sub.refl _) (fun _ s => sep_keep [] rfl s) ?_
                      refine TE.ret1 rfl rfl ?_
                      refine ⟨?_, rfl⟩
                      rw [joins_skip xa xb (m % 4).toNat] at hs
                      split at hs <;> simp_all <;> omega
                  exact AllT.nil
                exact AllT.nil
            exact AllT.nil
          exact AllT.nil
        exact AllT.nil


end Go.Proofs.Ytlhpkgcchomndaa
