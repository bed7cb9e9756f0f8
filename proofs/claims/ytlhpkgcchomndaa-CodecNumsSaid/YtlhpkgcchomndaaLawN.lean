/-
  CodecNums: what it reckons.
-/

import Derived.Test.YtlhpkgcchomndaaLawA
import Derived.Test.YtlhpkgcchomndaaLegH

namespace Go.Proofs.Ytlhpkgcchomndaa

open Go Leg Codec Api

set_option maxRecDepth 100000

theorem nums1_does (rb ab kb : Nat) (v lv : Value) (xs : List Int) (hlv : SlLen lv xs.length) (hn : xs.length ≤ 60) (hxs : ∀ j, j < xs.length → 0 ≤ xs.getD j 0 ∧ xs.getD j 0 < 9223372036854775808) :
    Does Try.prog 15 #[(.pointer (some ⟨rb, 0, none⟩)), (.pointer (some ⟨ab, 0, none⟩)), (.pointer (some ⟨kb, 0, none⟩))] (IsB v (encs xs)) [blkA rb [v] 69, blkA ab [lv] 38, own lv (xs.length) (ints xs) 3 1, blkA kb [(.bool true)] 4] (RetP (fun _ H => ∃ x' r u, H = blkA rb [x'] 69 :: (fun _ : Unit => [blkA ab [lv] 38, own lv (xs.length) (ints xs) 3 1, blkA kb [(.bool true)] 4]) u ∧ Tail v (encs xs) x' r ∧ r = []) (fun c H => c = giveUp ∧ ∃ x' u, H = blkA rb [x'] 69 :: (fun _ : Unit => [blkA ab [lv] 38, own lv (xs.length) (ints xs) 3 1, blkA kb [(.bool true)] 4]) u ∧ False)) := by
  refine Does.body (vs := [(.pointer (some ⟨rb, 0, none⟩)), (.pointer (some ⟨ab, 0, none⟩)), (.pointer (some ⟨kb, 0, none⟩))]) (n := 20) Try.func15 rfl rfl rfl (fun w0 F hF => ?_)
  refine TC.seq (fun K1 hK1 => ?_)
  refine TC.region ?_
  refine TL.v (Want.plain rfl) rfl rfl (PV.load1 (v := lv) rfl Try.underlying38 rfl rfl (Rd.own 1 rfl rfl) rfl) ?_
  refine TL.v (Want.plain rfl) rfl rfl (PV.lenV rfl Try.underlying38 rfl hlv) ?_
  refine TL.v (Want.plain rfl) rfl rfl (PV.move rfl rfl) ?_
  refine TL.nil ?_
  refine TE.next hK1 ?_
  clear hK1
  refine TC.block ?_
  refine TC.loop (α := (Nat) × (Value)) (fun ⟨k, u⟩ => k ≤ xs.length ∧ IsB u (encs (xs.drop k)) F ∧ Tail v (encs xs) u (encs (xs.drop k))) (fun ⟨k, u⟩ => [(0, (.pointer (some ⟨rb, 0, none⟩))), (2, (.pointer (some ⟨kb, 0, none⟩))), (6, lv), (7, (.int .i64 (((xs.length : Nat) : Int)))), (8, (.int .i64 ((k : Nat))))]) (fun ⟨k, u⟩ => [blkA rb [u] 69, blkA ab [lv] 38, own lv (xs.length) (ints xs) 3 1, blkA kb [(.bool true)] 4]) (fun ⟨k, u⟩ => xs.length - k) (0, v)
      ⟨by omega, hF, Tail.refl _ _⟩ (Sub.cons rfl rfl (Sub.cons rfl rfl (Sub.cons rfl rfl (Sub.cons rfl rfl (Sub.cons rfl (by congr 1) (Sub.nil _))))))
      (fun _ s => s) (fun ⟨k, u⟩ hinv => ?_)
  obtain ⟨hi, hf, htl⟩ := hinv
  refine TC.seq (fun K2 hK2 => ?_)
  refine TC.region ?_
  refine TL.v (Want.plain rfl) rfl rfl (PV.lss rfl rfl rfl) ?_
  refine TL.dec (fun h9 => ?_) (fun h9 => ?_)
  · skip
    refine TL.openAt 2 (show 0 < xs.length by omega) rfl rfl (fun g cap cur hv hc1 hc2 hc3 hc4 => ?_)
    subst hv
    change TL _ _ _ _ _ _ _ _ _ [blkA rb [u] 69, blkA ab [(.slice (some ⟨g, 0, none⟩) (xs.length) (cap))] 38, blkA g (cur) 3, blkA kb [(.bool true)] 4]
    have hcur : cur[k]? = some (.int .i64 (xs.getD k 0)) := by have e := congrArg (fun x => x[k]?) hc4; simp only [List.getElem?_take, if_pos (show k < xs.length by omega), ints_get xs k (by omega)] at e; exact e
    refine TL.nil ?_
    refine TE.next hK2 ?_
    clear hK2
    refine TC.seq (fun K3 hK3 => ?_)
    refine TC.yes rfl ?_
    refine TC.skip ?_
    refine TE.next hK3 ?_
    clear hK3
    refine TC.seq (fun K4 hK4 => ?_)
    refine TC.block ?_
    refine TC.seq (fun K5 hK5 => ?_)
    refine TC.region ?_
    refine TL.v (Want.plain rfl) rfl rfl (PV.indexSl (r := k) rfl Try.underlying38 sz3 rfl rfl (by first | omega | decide) (by first | omega | decide) (by omega)) ?_
    refine TL.v (Want.plain rfl) rfl rfl (PV.load1 (v := (.int .i64 ((xs.getD k 0)))) rfl Try.underlying3 rfl rfl (Rd.own 2 rfl rfl) hcur) ?_
    refine TL.v (Want.plain rfl) rfl rfl (PV.assign rfl rfl) ?_
    refine TL.nil ?_
    refine TE.next hK5 ?_
    clear hK5
    refine TC.region ?_
    refine TL.v (Want.plain rfl) rfl rfl (PV.load1 (v := (.bool true)) rfl Try.underlying4 rfl rfl (Rd.own 3 rfl rfl) rfl) ?_
    refine TL.v (Want.plain rfl) rfl rfl (PV.move rfl rfl) ?_
    refine TL.v (Want.met rfl rfl rfl) rfl rfl (PV.move rfl rfl) ?_
    refine TL.callP (A := [blkA rb [u] 69]) (B := [blkA ab [(.slice (some ⟨g, 0, none⟩) (xs.length) (cap))] 38, blkA g (cur) 3, blkA kb [(.bool true)] 4]) (Want.met rfl rfl rfl) rfl rfl rfl nm16 rfl (num_does rb u (encs (xs.drop k)) ) (fun _ s => s) (fun _ d _ => (hf).more d) (fun cP HP hP => ?_) (fun vR HR hR => ?_)
    · skip
      obtain ⟨vP, rfl, rfl, hpP⟩ := hP
      change TE _ _ _ _ _ _ _ [blkA rb [vP] 69, blkA ab [(.slice (some ⟨g, 0, none⟩) (xs.length) (cap))] 38, blkA g (cur) 3, blkA kb [(.bool true)] 4]
      refine TE.blockPanic ?_
      refine TE.passPanic ?_
      clear hK4
      refine TE.passPanic ?_
      refine TE.blockPanic ?_
      refine TE.panicked ?_
      exact absurd hpP (by rw [encs_drop (l := xs) (k := k) (by omega), numP_encN (hxs k (by omega)).1 (hxs k (by omega)).2]; simp)
    obtain ⟨a1, r1, v1, rfl, rfl, hp1, ht1⟩ := hR
    rw [encs_drop (l := xs) (k := k) (by omega), numP_encN (hxs k (by omega)).1 (hxs k (by omega)).2] at hp1
    injection hp1 with hp1
    injection hp1 with e1 e2
    subst e1
    subst e2
    change TL _ _ _ _ _ _ _ _ _ [blkA rb [v1] 69, blkA ab [(.slice (some ⟨g, 0, none⟩) (xs.length) (cap))] 38, blkA g (cur) 3, blkA kb [(.bool true)] 4]
    have hf1 := ht1 _ hf
    refine TL.v (Want.met rfl rfl rfl) rfl rfl (PV.move rfl rfl) ?_
    refine TL.v (Want.met rfl rfl rfl) rfl rfl (PV.eqlT rfl rfl rfl rfl) ?_
    refine TL.v (Want.plain rfl) rfl rfl (PV.pick rfl rfl rfl) ?_
    refine TL.store1 (i := 3) (H' := [blkA rb [v1] 69, blkA ab [(.slice (some ⟨g, 0, none⟩) (xs.length) (cap))] 38, blkA g (cur) 3, blkA kb [(.bool true)] 4]) (Want.plain rfl) rfl rfl rfl rfl rfl sz4 rfl rfl (lb rfl) rfl rfl ?_
    refine TL.nil ?_
    refine TE.blockEnd ?_
    refine TE.next hK4 ?_
    clear hK4
    refine TC.region ?_
    refine TL.v (Want.plain rfl) rfl rfl (PV.add rfl rfl rfl (wrap_i64 (by omega) (by omega))) ?_
    refine TL.v (Want.plain rfl) rfl rfl (PV.move rfl rfl) ?_
    refine TL.nil ?_
    exact TE.round ((k + 1, v1) : (Nat) × (Value)) ⟨by omega, hf1, (htl.trans ht1)⟩ (by show _ - _ < _ - _; omega)
      (Sub.cons rfl rfl (Sub.cons rfl rfl (Sub.cons rfl rfl (Sub.cons rfl rfl (Sub.cons rfl rfl (Sub.nil _))))))
      (fun _ s => sep_keep [0, 0, 0, 0] rfl (sep_own 2 rfl rfl hc1 hc2 hc3 hc4 s))
  · skip
    refine TL.nil ?_
    refine TE.next hK2 ?_
    clear hK2
    refine TC.seq (fun K6 hK6 => ?_)
    refine TC.no rfl ?_
    refine TC.exit ?_
    refine TE.pass ?_
    clear hK6
    refine TE.pass ?_
    refine TE.hit ?_
    refine TE.weak (Sub.refl _) (fun _ s => sep_keep [0, 0, 0, 0] rfl s) ?_
    refine TE.end0 rfl ?_
    exact ⟨u, _, (), rfl, htl, by rw [List.drop_eq_nil_of_le (by omega)]; rfl⟩


theorem encs_one (n : Int) : encs [m62 n] = encU (m62n n) := by
  have h := m62_lt n
  simp only [encs, List.flatMap_cons, List.flatMap_nil, List.append_nil, encN]
  congr 1
  unfold m62 at *
  omega
theorem encU_m62_len (n : Int) : (encU (m62n n)).length ≤ 10 := by
  rw [← encs_one]
  have := encs_len [m62 n]
  simpa using this
theorem map_range (l : List Int) : ∀ j, j < (l.map m62).length → 0 ≤ (l.map m62).getD j 0 ∧ (l.map m62).getD j 0 < 9223372036854775808 := fun j hj => by
  rw [List.length_map] at hj
  have := m62_lt (l[j])
  simp only [List.getD_eq_getElem?_getD, List.getElem?_map, List.getElem?_eq_getElem hj, Option.map_some, Option.getD_some]
  omega

theorem nums_does (l : Value) (xl : List Int) (hxl : xl.length ≤ 17592186044416) :
    Does Try.prog 4 #[l] (IsI .i64 l xl) [] (Ret (fun v H => v = .bool true ∧ H = [])) := by
  refine Does.body (vs := [l]) (n := 54) Try.func4 rfl rfl rfl (fun w0 F hF => ?_)
  refine TC.seq (fun K1 hK1 => ?_)
  refine TC.region ?_
  refine TL.box1 hF.one (Want.plain rfl) rfl rfl rfl rfl (fun b1 => ?_)
  change TL _ _ _ _ _ _ _ _ _ [blkA b1 [l] 38]
  refine TL.v (Want.plain rfl) rfl rfl (PV.assign rfl rfl) ?_
  refine TL.nil ?_
  refine TE.next hK1 ?_
  clear hK1
  refine TC.seq (fun K2 hK2 => ?_)
  refine TC.seq (fun K3 hK3 => ?_)
  refine TC.region ?_
  refine TL.callR (A := []) (B := [blkA b1 [l] 38]) (Want.plain rfl) rfl rfl rfl nm9 rfl (fit_does) (fun _ s => s) (fun _ _ _ => trivial) (fun vR HR hR => ?_)
  obtain ⟨rfl, rfl⟩ := hR
  change TL _ _ _ _ _ _ _ _ _ [blkA b1 [l] 38]
  refine TL.v (Want.plain rfl) rfl rfl (PV.not (r := false) rfl rfl rfl) ?_
  refine TL.nil ?_
  refine TE.next hK3 ?_
  clear hK3
  refine TC.no rfl ?_
  refine TC.skip ?_
  refine TE.next hK2 ?_
  clear hK2
  refine TC.seq (fun K4 hK4 => ?_)
  refine TC.seq (fun K5 hK5 => ?_)
  refine TC.region ?_
  refine TL.v (Want.plain rfl) rfl rfl (PV.load1 (v := l) rfl Try.underlying38 rfl rfl (Rd.own 0 rfl rfl) rfl) ?_
  refine TL.v (Want.plain rfl) rfl rfl (PV.lenV rfl Try.underlying38 rfl hF.len) ?_
  refine TL.v (Want.plain rfl) rfl rfl (PV.gtr rfl rfl rfl) ?_
  refine TL.dec (fun h13 => ?_) (fun h13 => ?_)
  · skip
    refine TL.nil ?_
    refine TE.next hK5 ?_
    clear hK5
    refine TC.yes rfl ?_
    refine TC.seq (fun K6 hK6 => ?_)
    refine TC.region ?_
    refine TL.v (Want.plain rfl) rfl rfl (PV.assign rfl rfl) ?_
    refine TL.nil ?_
    refine TE.next hK6 ?_
    clear hK6
    refine TC.ret ?_
    refine TE.passRet ?_
    clear hK4
    refine TE.weak (Sub.refl _) (fun _ s => sep_keep [] rfl s) ?_
    refine TE.ret1 rfl rfl ?_
    exact ⟨rfl, rfl⟩
  · skip
    refine TL.nil ?_
    refine TE.next hK5 ?_
    clear hK5
    refine TC.no rfl ?_
    refine TC.skip ?_
    refine TE.next hK4 ?_
    clear hK4
    refine TC.seq (fun K7 hK7 => ?_)
    refine TC.region ?_
    refine TL.alloc (Want.plain rfl) rfl rfl rfl z33 (fun b3 => ?_)
    change TL _ _ _ _ _ _ _ _ _ [blkA b3 [(.slice none 0 0)] 33, blkA b1 [l] 38]
    refine TL.ownNil 5 (fun on => ?_)
    clear on
    refine TL.nil ?_
    refine TE.next hK7 ?_
    clear hK7
    refine TC.seq (fun K8 hK8 => ?_)
    refine TC.region ?_
    refine TL.v (Want.plain rfl) rfl rfl (PV.assign rfl rfl) ?_
    refine TL.nil ?_
    refine TE.next hK8 ?_
    clear hK8
    refine TC.seq (fun K9 hK9 => ?_)
    refine TC.region ?_
    refine TL.v (Want.plain rfl) rfl rfl (PV.load1 (v := l) rfl Try.underlying38 rfl rfl (Rd.own 2 rfl rfl) rfl) ?_
    refine TL.ownNilI 3 1 (fun on => ?_)
    clear on
    refine TL.append (k := 0) (news := ints xl) (nn' := xl.length) (xs' := ints xl) (Want.plain rfl) rfl rfl rfl Try.underlying38 in3 rfl rfl rfl rfl rfl rfl (fun _ _ => hF.src (fun _ h => Frm.of h)) (ints_one _) (by simp only [maxLen]; omega) (by omega) (by simp) (by simp) (fun v15 ov15 => ?_)
    change TL _ _ _ _ _ _ _ _ _ [own v15 (xl.length) (ints xl) 3 1, ownB (.slice none 0 0) ([]) 5, blkA b3 [(.slice none 0 0)] 33, blkA b1 [l] 38]
    refine TL.ownLen 0 rfl rfl (fun hl15 _ => ?_)
    refine TL.store1 (i := 3) (H' := [own v15 (xl.length) (ints xl) 3 1, ownB (.slice none 0 0) ([]) 5, blkA b3 [(.slice none 0 0)] 33, blkA b1 [v15] 38]) (Want.plain rfl) rfl rfl rfl rfl ov15 sz38 rfl rfl (lb rfl) rfl rfl ?_
    refine TL.nil ?_
    refine TE.next hK9 ?_
    clear hK9
    refine TC.seq (fun K10 hK10 => ?_)
    refine TC.seq (fun K11 hK11 => ?_)
    refine TC.region ?_
    refine TL.v (Want.plain rfl) rfl rfl (PV.load1 (v := v15) rfl Try.underlying38 rfl rfl (Rd.own 3 rfl rfl) rfl) ?_
    refine TL.v (Want.plain rfl) rfl rfl (PV.lenV rfl Try.underlying38 rfl hl15) ?_
    refine TL.v (Want.plain rfl) rfl rfl (PV.move rfl rfl) ?_
    refine TL.nil ?_
    refine TE.next hK11 ?_
    clear hK11
    refine TC.block ?_
    refine TC.loop (α := (Nat) × (Nat) × (Value)) (fun ⟨k, z, lu⟩ => k ≤ xl.length ∧ z = (encs ((xl.map m62).take k)).length) (fun ⟨k, z, lu⟩ => [(1, (.pointer (some ⟨b1, 0, none⟩))), (2, (.bool false)), (3, (.pointer (some ⟨b3, 0, none⟩))), (4, (.int .i64 (((z : Nat) : Int)))), (16, v15), (17, (.int .i64 (((xl.length : Nat) : Int)))), (18, (.int .i64 ((k : Nat))))]) (fun ⟨k, z, lu⟩ => [own v15 (xl.length) (ints ((xl.map m62).take k ++ xl.drop k)) 3 1, ownB lu ((encs ((xl.map m62).take k))) 5, blkA b3 [lu] 33, blkA b1 [v15] 38]) (fun ⟨k, z, lu⟩ => xl.length - k) (0, 0, (.slice none 0 0))
        ⟨Nat.zero_le _, by simp [encs]⟩ (Sub.cons rfl rfl (Sub.cons rfl rfl (Sub.cons rfl rfl (Sub.cons rfl (by congr 1) (Sub.cons rfl rfl (Sub.cons rfl rfl (Sub.cons rfl (by congr 1) (Sub.nil _))))))))
        (fun _ s => by
      simp only [List.take_zero, encs_nil, List.nil_append, List.drop_zero]
      exact sep_keep [0, 0, 0, 0] rfl s) (fun ⟨k, z, lu⟩ hinv => ?_)
    obtain ⟨hk, hz⟩ := hinv
    have hz9 : z ≤ 600 := by have := encs_len ((xl.map m62).take k); simp only [List.length_take, List.length_map] at this; omega
    refine TC.seq (fun K12 hK12 => ?_)
    refine TC.region ?_
    refine TL.v (Want.plain rfl) rfl rfl (PV.lss rfl rfl rfl) ?_
    refine TL.dec (fun h19 => ?_) (fun h19 => ?_)
    · skip
      refine TL.openAt 0 (show 0 < xl.length by omega) rfl rfl (fun g cap cur hv hc1 hc2 hc3 hc4 => ?_)
      subst hv
      change TL _ _ _ _ _ _ _ _ _ [blkA g (cur) 3, ownB lu ((encs ((xl.map m62).take k))) 5, blkA b3 [lu] 33, blkA b1 [(.slice (some ⟨g, 0, none⟩) (xl.length) (cap))] 38]
      have hcur : cur[k]? = some (.int .i64 (xl.getD k 0)) := nums_get m62 hc4 (by omega)
      refine TL.nil ?_
      refine TE.next hK12 ?_
      clear hK12
      refine TC.seq (fun K13 hK13 => ?_)
      refine TC.yes rfl ?_
      refine TC.skip ?_
      refine TE.next hK13 ?_
      clear hK13
      refine TC.seq (fun K14 hK14 => ?_)
      refine TC.block ?_
      refine TC.seq (fun K15 hK15 => ?_)
      refine TC.region ?_
      refine TL.v (Want.plain rfl) rfl rfl (PV.move rfl rfl) ?_
      refine TL.v (Want.plain rfl) rfl rfl (PV.indexSl (r := k) rfl Try.underlying38 sz3 rfl rfl (by first | omega | decide) (by first | omega | decide) (by omega)) ?_
      refine TL.v (Want.plain rfl) rfl rfl (PV.load1 (v := (.int .i64 ((xl.getD k 0)))) rfl Try.underlying3 rfl rfl (Rd.own 0 rfl rfl) hcur) ?_
      refine TL.v (Want.plain rfl) rfl rfl (PV.assign rfl rfl) ?_
      refine TL.v (Want.plain rfl) rfl rfl (PV.assign rfl rfl) ?_
      refine TL.nil ?_
      refine TE.next hK15 ?_
      clear hK15
      refine TC.seq (fun K16 hK16 => ?_)
      refine TC.region ?_
      refine TL.v (Want.plain rfl) rfl rfl (PV.move rfl rfl) ?_
      refine TL.v (Want.plain rfl) rfl rfl (PV.and (r := (m62 (xl.getD k 0))) rfl rfl rfl (and62 _)) ?_
      refine TL.v (Want.plain rfl) rfl rfl (PV.assign rfl rfl) ?_
      refine TL.nil ?_
      refine TE.next hK16 ?_
      clear hK16
      refine TC.seq (fun K17 hK17 => ?_)
      refine TC.region ?_
      refine TL.v (Want.plain rfl) rfl rfl (PV.load1 (v := (.slice (some ⟨g, 0, none⟩) (xl.length) (cap))) rfl Try.underlying38 rfl rfl (Rd.own 3 rfl rfl) rfl) ?_
      refine TL.v (Want.plain rfl) rfl rfl (PV.move rfl rfl) ?_
      refine TL.v (Want.plain rfl) rfl rfl (PV.move rfl rfl) ?_
      refine TL.v (Want.plain rfl) rfl rfl (PV.indexSl (r := k) rfl Try.underlying38 sz3 rfl rfl (by first | omega | decide) (by first | omega | decide) (by omega)) ?_
      refine TL.store1 (i := 0) (H' := [blkA g (cur.set k (.int .i64 ((m62 (xl.getD k 0))))) 3, ownB lu ((encs ((xl.map m62).take k))) 5, blkA b3 [lu] 33, blkA b1 [(.slice (some ⟨g, 0, none⟩) (xl.length) (cap))] 38]) (Want.plain rfl) rfl rfl rfl rfl rfl sz3 rfl rfl (by omega) rfl rfl ?_
      refine TL.nil ?_
      refine TE.next hK17 ?_
      clear hK17
      refine TC.seq (fun K18 hK18 => ?_)
      refine TC.region ?_
      refine TL.v (Want.plain rfl) rfl rfl (PV.move rfl rfl) ?_
      refine TL.buildSlice (cells := #[(.int .i64 ((m62 (xl.getD k 0))))]) (Want.plain rfl) rfl rfl rfl Try.underlying38 in3 rfl rfl rfl (by as_aux_lemma => kernel_rfl) (fun b30 => ?_)
      change TL _ _ _ _ _ _ _ _ _ [blkA b30 [(.int .i64 ((m62 (xl.getD k 0))))] 3, blkA g (cur.set k (.int .i64 ((m62 (xl.getD k 0))))) 3, ownB lu ((encs ((xl.map m62).take k))) 5, blkA b3 [lu] 33, blkA b1 [(.slice (some ⟨g, 0, none⟩) (xl.length) (cap))] 38]
      refine TL.callR (A := [blkA b3 [lu] 33, ownB lu ((encs ((xl.map m62).take k))) 5]) (B := [blkA b30 [(.int .i64 ((m62 (xl.getD k 0))))] 3, blkA g (cur.set k (.int .i64 ((m62 (xl.getD k 0))))) 3, blkA b1 [(.slice (some ⟨g, 0, none⟩) (xl.length) (cap))] 38]) (Want.plain rfl) rfl rfl rfl nm13 rfl (wnum_does b3 lu ((encs ((xl.map m62).take k))) (.slice (some ⟨b30, 0, none⟩) (1) (1)) [(m62 (xl.getD k 0))] (by have := encs_len ((xl.map m62).take k); simp only [List.length_append, List.length_cons, List.length_nil, List.length_take, List.length_map] at *; omega)) (fun _ s => sep_selR [3, 2] rfl s) (isN_piece 0 rfl rfl rfl rfl) (fun vR HR hR => ?_)
      obtain ⟨u1, rfl, rfl⟩ := hR
      change TL _ _ _ _ _ _ _ _ _ [blkA b3 [u1] 33, ownB u1 ((encs ((xl.map m62).take k)) ++ encs [(m62 (xl.getD k 0))]) 5, blkA b30 [(.int .i64 ((m62 (xl.getD k 0))))] 3, blkA g (cur.set k (.int .i64 ((m62 (xl.getD k 0))))) 3, blkA b1 [(.slice (some ⟨g, 0, none⟩) (xl.length) (cap))] 38]
      refine TL.nil ?_
      refine TE.next hK18 ?_
      clear hK18
      refine TC.seq (fun K19 hK19 => ?_)
      refine TC.region ?_
      refine TL.v (Want.plain rfl) rfl rfl (PV.move rfl rfl) ?_
      refine TL.v (Want.plain rfl) rfl rfl (PV.add rfl rfl rfl (wrap_i64 (by omega) (by omega))) ?_
      refine TL.v (Want.plain rfl) rfl rfl (PV.assign rfl rfl) ?_
      refine TL.nil ?_
      refine TE.next hK19 ?_
      clear hK19
      refine TC.block ?_
      refine TC.loop (α := (Nat) × (Nat)) (fun ⟨q, z2⟩ => q < 9223372036854775808 ∧ z2 + (encU q).length = z + 1 + (encU (m62n (xl.getD k 0))).length) (fun ⟨q, z2⟩ => [(1, (.pointer (some ⟨b1, 0, none⟩))), (2, (.bool false)), (3, (.pointer (some ⟨b3, 0, none⟩))), (4, (.int .i64 (((z2 : Nat) : Int)))), (5, (.int .i64 ((k : Nat)))), (6, (.int .i64 (((q : Nat) : Int)))), (16, (.slice (some ⟨g, 0, none⟩) (xl.length) (cap))), (17, (.int .i64 (((xl.length : Nat) : Int)))), (18, (.int .i64 ((k : Nat)))), (19, (.bool true)), (20, (.int .i64 ((k : Nat)))), (21, (.pointer (some ⟨g, k, none⟩))), (22, (.int .i64 ((xl.getD k 0)))), (23, (.int .i64 ((xl.getD k 0)))), (24, (.int .i64 ((m62 (xl.getD k 0))))), (25, (.slice (some ⟨g, 0, none⟩) (xl.length) (cap))), (26, (.int .i64 ((k : Nat)))), (27, (.int .i64 ((m62 (xl.getD k 0))))), (28, (.pointer (some ⟨g, k, none⟩))), (29, (.int .i64 ((m62 (xl.getD k 0))))), (30, (.slice (some ⟨b30, 0, none⟩) (1) (1))), (32, (.int .i64 (((z : Nat) : Int)))), (33, (.int .i64 (((z : Nat) : Int) + 1)))]) (fun ⟨q, z2⟩ => [blkA b3 [u1] 33, ownB u1 ((encs ((xl.map m62).take k)) ++ encs [(m62 (xl.getD k 0))]) 5, blkA b30 [(.int .i64 ((m62 (xl.getD k 0))))] 3, blkA g (cur.set k (.int .i64 ((m62 (xl.getD k 0))))) 3, blkA b1 [(.slice (some ⟨g, 0, none⟩) (xl.length) (cap))] 38]) (fun ⟨q, z2⟩ => q) (m62n (xl.getD k 0), z + 1)
          ⟨by have := m62_lt (xl.getD k 0); unfold m62 at this; omega, rfl⟩ (Sub.cons rfl rfl (Sub.cons rfl rfl (Sub.cons rfl rfl (Sub.cons rfl (by congr 1) (Sub.cons rfl rfl (Sub.cons rfl (by congr 1) (Sub.cons rfl rfl (Sub.cons rfl rfl (Sub.cons rfl rfl (Sub.cons rfl rfl (Sub.cons rfl rfl (Sub.cons rfl rfl (Sub.cons rfl rfl (Sub.cons rfl rfl (Sub.cons rfl rfl (Sub.cons rfl rfl (Sub.cons rfl rfl (Sub.cons rfl rfl (Sub.cons rfl rfl (Sub.cons rfl rfl (Sub.cons rfl rfl (Sub.cons rfl rfl (Sub.cons rfl rfl (Sub.nil _))))))))))))))))))))))))
          (fun _ s => s) (fun ⟨q, z2⟩ hinv => ?_)
      obtain ⟨hq1, hq2⟩ := hinv
      have hq3 : z2 ≤ 700 := by have := encU_m62_len (xl.getD k 0); omega
      refine TC.seq (fun K20 hK20 => ?_)
      refine TC.seq (fun K21 hK21 => ?_)
      refine TC.region ?_
      refine TL.v (Want.plain rfl) rfl rfl (PV.move rfl rfl) ?_
      refine TL.v (Want.plain rfl) rfl rfl (PV.geq rfl rfl rfl) ?_
      refine TL.dec (fun h35 => ?_) (fun h35 => ?_)
      · skip
        refine TL.nil ?_
        refine TE.next hK21 ?_
        clear hK21
        refine TC.yes rfl ?_
        refine TC.skip ?_
        refine TE.next hK20 ?_
        clear hK20
        refine TC.seq (fun K22 hK22 => ?_)
        refine TC.block ?_
        refine TC.region ?_
        refine TL.v (Want.plain rfl) rfl rfl (PV.move rfl rfl) ?_
        refine TL.v (Want.plain rfl) rfl rfl (PV.add rfl rfl rfl (wrap_i64 (by omega) (by omega))) ?_
        refine TL.v (Want.plain rfl) rfl rfl (PV.assign rfl rfl) ?_
        refine TL.nil ?_
        refine TE.blockEnd ?_
        refine TE.next hK22 ?_
        clear hK22
        refine TC.region ?_
        refine TL.v (Want.plain rfl) rfl rfl (PV.move rfl rfl) ?_
        refine TL.v (Want.plain rfl) rfl rfl (PV.quo (r := ((q / 128 : Nat) : Int)) rfl rfl rfl (by omega) (quoNat q 128 (by omega))) ?_
        refine TL.v (Want.plain rfl) rfl rfl (PV.assign rfl rfl) ?_
        refine TL.nil ?_
        exact TE.round ((q / 128, z2 + 1) : (Nat) × (Nat)) ⟨by omega, by rw [encU_hi (n := q) (by omega)] at hq2; simp only [List.length_cons] at hq2; omega⟩ (by show q / 128 < q; omega)
          (Sub.cons rfl rfl (Sub.cons rfl rfl (Sub.cons rfl rfl (Sub.cons rfl rfl (Sub.cons rfl rfl (Sub.cons rfl rfl (Sub.cons rfl rfl (Sub.cons rfl rfl (Sub.cons rfl rfl (Sub.cons rfl rfl (Sub.cons rfl rfl (Sub.cons rfl rfl (Sub.cons rfl rfl (Sub.cons rfl rfl (Sub.cons rfl rfl (Sub.cons rfl rfl (Sub.cons rfl rfl (Sub.cons rfl rfl (Sub.cons rfl rfl (Sub.cons rfl rfl (Sub.cons rfl rfl (Sub.cons rfl rfl (Sub.cons rfl rfl (Sub.nil _))))))))))))))))))))))))
          (fun _ s => s)
      · skip
        refine TL.nil ?_
        refine TE.next hK21 ?_
        clear hK21
        refine TC.no rfl ?_
        refine TC.exit ?_
        refine TE.pass ?_
        clear hK20
        refine TE.pass ?_
        refine TE.hit ?_
        refine TE.blockEnd ?_
        refine TE.next hK14 ?_
        clear hK14
        refine TC.region ?_
        refine TL.v (Want.plain rfl) rfl rfl (PV.add rfl rfl rfl (wrap_i64 (by omega) (by omega))) ?_
        refine TL.v (Want.plain rfl) rfl rfl (PV.move rfl rfl) ?_
        refine TL.nil ?_
        exact TE.round ((k + 1, z2, u1) : (Nat) × (Nat) × (Value)) ⟨by omega, by rw [take_succ_map m62 (show k < xl.length by omega), List.length_append, ← hz]; have e1 : encs [m62 (xl.getD k 0)] = encU (m62n (xl.getD k 0)) := encs_one _; rw [e1]; have e2 := encU_lo (n := q) (by omega); rw [e2] at hq2; simp only [List.length_cons, List.length_nil] at hq2; omega⟩ (by show _ - _ < _ - _; omega)
          (Sub.cons rfl rfl (Sub.cons rfl rfl (Sub.cons rfl rfl (Sub.cons rfl rfl (Sub.cons rfl rfl (Sub.cons rfl rfl (Sub.cons rfl rfl (Sub.nil _))))))))
          (fun _ s => by
      show sep [own (.slice (some ⟨g, 0, none⟩) xl.length cap) xl.length (ints ((xl.map m62).take (k + 1) ++ xl.drop (k + 1))) 3 1, ownB u1 (encs ((xl.map m62).take (k + 1))) 5, blkA b3 [u1] 33, blkA b1 [(.slice (some ⟨g, 0, none⟩) (xl.length) (cap))] 38] _
      rw [take_succ_map m62 (show k < xl.length by omega)]
      exact sep_keep [3, 1, 0, 1] rfl (sep_own 3 rfl rfl hc1 hc2 (by simpa using hc3) (nums_set m62 hc4 (by omega)) s))
    · skip
      obtain rfl : k = xl.length := by omega
      have eM : (xl.map m62).take xl.length = (xl.map m62) := List.take_of_length_le (by simp)
      change TL _ _ _ _ _ _ _ _ _ [own v15 (xl.length) (ints ((xl.map m62).take xl.length ++ xl.drop xl.length)) 3 1, ownB lu ((encs ((xl.map m62).take xl.length))) 5, blkA b3 [lu] 33, blkA b1 [v15] 38]
      rw [eM] at hz ⊢
      rw [List.drop_length, List.append_nil]
      rw [show own v15 xl.length (ints (xl.map m62)) 3 1 = own v15 (xl.map m62).length (ints (xl.map m62)) 3 1 from by rw [List.length_map]]
      refine TL.nil ?_
      refine TE.next hK12 ?_
      clear hK12
      refine TC.seq (fun K23 hK23 => ?_)
      refine TC.no rfl ?_
      refine TC.exit ?_
      refine TE.pass ?_
      clear hK23
      refine TE.pass ?_
      refine TE.hit ?_
      refine TE.next hK10 ?_
      clear hK10
      refine TC.seq (fun K24 hK24 => ?_)
      refine TC.region ?_
      refine TL.alloc (Want.plain rfl) rfl rfl rfl z4 (fun b7 => ?_)
      change TL _ _ _ _ _ _ _ _ _ [blkA b7 [(.bool false)] 4, own v15 ((xl.map m62).length) (ints (xl.map m62)) 3 1, ownB lu (encs (xl.map m62)) 5, blkA b3 [lu] 33, blkA b1 [v15] 38]
      refine TL.store1 (i := 0) (H' := [blkA b7 [(.bool true)] 4, own v15 ((xl.map m62).length) (ints (xl.map m62)) 3 1, ownB lu (encs (xl.map m62)) 5, blkA b3 [lu] 33, blkA b1 [v15] 38]) (Want.plain rfl) rfl rfl rfl rfl rfl sz4 rfl rfl (lb rfl) rfl rfl ?_
      refine TL.nil ?_
      refine TE.next hK24 ?_
      clear hK24
      refine TC.seq (fun K25 hK25 => ?_)
      refine TC.region ?_
      refine TL.callR (A := [blkA b3 [lu] 33, ownB lu (encs (xl.map m62)) 5]) (B := [blkA b7 [(.bool true)] 4, own v15 ((xl.map m62).length) (ints (xl.map m62)) 3 1, blkA b1 [v15] 38]) (Want.plain rfl) rfl rfl rfl nm12 rfl (wbytes_does b3 lu (encs (xl.map m62)) (by have := encs_len (xl.map m62); simp only [List.length_map] at *; omega)) (fun _ s => sep_selR [3, 2] rfl s) (fun _ _ _ => trivial) (fun vR HR hR => ?_)
      obtain ⟨y1, hy1, rfl⟩ := hR
      subst vR
      change TL _ _ _ _ _ _ _ _ _ [blkA b3 [lu] 33, ownB lu (encs (xl.map m62)) 5, ownB y1 (encs (xl.map m62)) 5, blkA b7 [(.bool true)] 4, own v15 ((xl.map m62).length) (ints (xl.map m62)) 3 1, blkA b1 [v15] 38]
      refine TL.ownLen 2 rfl rfl (fun hly1 _ => ?_)
      refine TL.v (Want.plain rfl) rfl rfl (PV.mkFunc rfl rfl) ?_
      have hml : (xl.map m62).length = xl.length := by simp
      rw [← hml] at hl15
      refine TL.callR (A := [blkA b1 [v15] 38, own v15 ((xl.map m62).length) (ints (xl.map m62)) 3 1, blkA b7 [(.bool true)] 4]) (B := [blkA b3 [lu] 33, ownB lu (encs (xl.map m62)) 5, ownB y1 (encs (xl.map m62)) 5]) (Want.plain rfl) rfl rfl rfl nm14 rfl (read_with (bs := encs (xl.map m62)) (C := [blkA b1 [v15] 38, own v15 ((xl.map m62).length) (ints (xl.map m62)) 3 1, blkA b7 [(.bool true)] 4]) (caps := [(.pointer (some ⟨b1, 0, none⟩)), (.pointer (some ⟨b7, 0, none⟩))]) (A := fun _ : Unit => [blkA b1 [v15] 38, own v15 ((xl.map m62).length) (ints (xl.map m62)) 3 1, blkA b7 [(.bool true)] 4]) (G := fun _ : Unit => [blkA b1 [v15] 38, own v15 ((xl.map m62).length) (ints (xl.map m62)) 3 1, blkA b7 [(.bool true)] 4]) (φ := fun _ r => r = []) (ψ := fun _ => False) (fun _ h => h) (fun _ _ h d => h.more d) nm15 (fun rb => (nums1_does rb b1 b7 y1 v15 (xl.map m62) hl15 (by omega) (map_range xl)))) (fun _ s => sep_selR [5, 4, 3] rfl s) (isB_own 2 rfl rfl) (fun vR HR hR => ?_)
      rcases hR with ⟨_, _, rfl, rfl, rfl⟩ | ⟨_, _, _, hs⟩
      · skip
        change TL _ _ _ _ _ _ _ _ _ [blkA b1 [v15] 38, own v15 ((xl.map m62).length) (ints (xl.map m62)) 3 1, blkA b7 [(.bool true)] 4, blkA b3 [lu] 33, ownB lu (encs (xl.map m62)) 5, ownB y1 (encs (xl.map m62)) 5]
        refine TL.dec (fun h43 => ?_) (fun h43 => ?_)
        · skip
          refine TL.v (Want.plain rfl) rfl rfl (PV.assign rfl rfl) ?_
          refine TL.nil ?_
          refine TE.next hK25 ?_
          clear hK25
          refine TC.seq (fun K26 hK26 => ?_)
          refine TC.region ?_
          refine TL.v (Want.plain rfl) rfl rfl (PV.move rfl rfl) ?_
          refine TL.v (Want.plain rfl) rfl rfl (PV.move rfl rfl) ?_
          refine TL.v (Want.met rfl rfl rfl) rfl rfl (PV.load1 (v := (.bool true)) rfl Try.underlying4 rfl rfl (Rd.own 2 rfl rfl) rfl) ?_
          refine TL.v (Want.plain rfl) rfl rfl (PV.pick rfl rfl rfl) ?_
          refine TL.v (Want.plain rfl) rfl rfl (PV.move rfl rfl) ?_
          refine TL.callR (A := [blkA b3 [lu] 33, ownB lu (encs (xl.map m62)) 5]) (B := [blkA b1 [v15] 38, own v15 ((xl.map m62).length) (ints (xl.map m62)) 3 1, blkA b7 [(.bool true)] 4, ownB y1 (encs (xl.map m62)) 5]) (Want.met rfl rfl rfl) rfl rfl rfl nm12 rfl (wbytes_does b3 lu (encs (xl.map m62)) (by have := encs_len (xl.map m62); simp only [List.length_map] at *; omega)) (fun _ s => sep_selR [3, 3] rfl s) (fun _ _ _ => trivial) (fun vR HR hR => ?_)
          obtain ⟨y2, hy2, rfl⟩ := hR
          subst vR
          change TL _ _ _ _ _ _ _ _ _ [blkA b3 [lu] 33, ownB lu (encs (xl.map m62)) 5, ownB y2 (encs (xl.map m62)) 5, blkA b1 [v15] 38, own v15 ((xl.map m62).length) (ints (xl.map m62)) 3 1, blkA b7 [(.bool true)] 4, ownB y1 (encs (xl.map m62)) 5]
          refine TL.ownLen 2 rfl rfl (fun hly2 _ => ?_)
          refine TL.v (Want.met rfl rfl rfl) rfl rfl (PV.lenV rfl Try.underlying31 rfl hly2) ?_
          refine TL.v (Want.met rfl rfl rfl) rfl rfl (PV.move rfl rfl) ?_
          refine TL.v (Want.met rfl rfl rfl) rfl rfl (PV.eqlT (by rw [hz]) rfl rfl rfl) ?_
          refine TL.v (Want.plain rfl) rfl rfl (PV.pick rfl rfl rfl) ?_
          refine TL.v (Want.plain rfl) rfl rfl (PV.assign rfl rfl) ?_
          refine TL.nil ?_
          refine TE.next hK26 ?_
          clear hK26
          refine TC.ret ?_
          refine TE.weak (Sub.refl _) (fun _ s => sep_keep [] rfl s) ?_
          refine TE.ret1 rfl rfl ?_
          exact ⟨rfl, rfl⟩
        · exact absurd rfl h43
      · exact hs.elim


end Go.Proofs.Ytlhpkgcchomndaa
