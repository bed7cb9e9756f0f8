/-
  Layer 3's laws: what they reckon.
-/

import Derived.Test.YtlhpkgcchomndaaCodecE
import Derived.Test.YtlhpkgcchomndaaCodecP
import Derived.Test.YtlhpkgcchomndaaLegH

namespace Go.Proofs.Ytlhpkgcchomndaa

open Go Leg Codec Api

set_option maxRecDepth 100000

theorem fit_does  :
    Does Try.prog 9 #[] (fun _ => True) [] (Ret (fun v H => v = .bool true ∧ H = [])) := by
  refine Does.body (vs := []) (n := 21) Try.func9 rfl rfl rfl (fun w0 F hF => ?_)
  refine TC.seq (fun K1 hK1 => ?_)
  refine TC.region ?_
  refine TL.v (Want.plain rfl) rfl rfl (PV.assign rfl rfl) ?_
  refine TL.nil ?_
  refine TE.next hK1 ?_
  clear hK1
  refine TC.seq (fun K2 hK2 => ?_)
  refine TC.region ?_
  refine TL.alloc (Want.plain rfl) rfl rfl rfl z33 (fun b1 => ?_)
  change TL _ _ _ _ _ _ _ _ _ [blkA b1 [(.slice none 0 0)] 33]
  refine TL.ownNil 5 (fun on => ?_)
  clear on
  refine TL.nil ?_
  refine TE.next hK2 ?_
  clear hK2
  refine TC.seq (fun K3 hK3 => ?_)
  refine TC.region ?_
  refine TL.buildSlice (cells := #[(.int .i64 300)]) (Want.plain rfl) rfl rfl rfl Try.underlying38 in3 rfl rfl rfl (by as_aux_lemma => kernel_rfl) (fun b3 => ?_)
  change TL _ _ _ _ _ _ _ _ _ [blkA b3 [(.int .i64 300)] 3, ownB (.slice none 0 0) ([]) 5, blkA b1 [(.slice none 0 0)] 33]
  refine TL.callR (A := [blkA b1 [(.slice none 0 0)] 33, ownB (.slice none 0 0) ([]) 5]) (B := [blkA b3 [(.int .i64 300)] 3]) (Want.plain rfl) rfl rfl rfl nm13 rfl (wnum_does b1 (.slice none 0 0) ([]) (.slice (some ⟨b3, 0, none⟩) (1) (1)) [300] (by simp)) (fun _ s => sep_selR [2, 1] rfl s) (isN_piece 0 rfl rfl rfl rfl) (fun vR HR hR => ?_)
  obtain ⟨u1, rfl, hH⟩ := hR
  rw [show ([] : List UInt8) ++ encs [300] = [172, 2] from by rw [encs_cons]; simp [encN, encs]; rw [encU_hi (by decide), encU_lo (by decide)]; decide] at hH
  subst hH
  change TL _ _ _ _ _ _ _ _ _ [blkA b1 [u1] 33, ownB u1 ([172, 2]) 5, blkA b3 [(.int .i64 300)] 3]
  refine TL.nil ?_
  refine TE.next hK3 ?_
  clear hK3
  refine TC.seq (fun K4 hK4 => ?_)
  refine TC.region ?_
  refine TL.callR (A := [blkA b1 [u1] 33, ownB u1 ([172, 2]) 5]) (B := [blkA b3 [(.int .i64 300)] 3]) (Want.plain rfl) rfl rfl rfl nm12 rfl (wbytes_does b1 u1 ([172, 2]) (by simp)) (fun _ s => s) (fun _ _ _ => trivial) (fun vR HR hR => ?_)
  obtain ⟨y1, hy1, rfl⟩ := hR
  subst vR
  change TL _ _ _ _ _ _ _ _ _ [blkA b1 [u1] 33, ownB u1 ([172, 2]) 5, ownB y1 ([172, 2]) 5, blkA b3 [(.int .i64 300)] 3]
  refine TL.openOwn 2 rfl rfl rfl (fun g cap cur hv hc1 hc2 hc3 hc4 => ?_)
  subst hv
  change TL _ _ _ _ _ _ _ _ _ [blkA b1 [u1] 33, ownB u1 ([172, 2]) 5, blkA g (cur) 5, blkA b3 [(.int .i64 300)] 3]
  refine TL.v (Want.plain rfl) rfl rfl (PV.assign rfl rfl) ?_
  refine TL.nil ?_
  refine TE.next hK4 ?_
  clear hK4
  refine TC.seq (fun K5 hK5 => ?_)
  refine TC.region ?_
  refine TL.v (Want.plain rfl) rfl rfl (PV.move rfl rfl) ?_
  refine TL.v (Want.plain rfl) rfl rfl (PV.lenSl rfl Try.underlying31 rfl) ?_
  refine TL.v (Want.plain rfl) rfl rfl (PV.eql rfl rfl rfl) ?_
  refine TL.v (Want.plain rfl) rfl rfl (PV.move rfl rfl) ?_
  refine TL.v (Want.met rfl rfl rfl) rfl rfl (PV.move rfl rfl) ?_
  refine TL.v (Want.met rfl rfl rfl) rfl rfl (PV.indexSl (r := 0) rfl Try.underlying31 sz5 rfl rfl (by first | omega | decide) (by first | omega | decide) rfl) ?_
  refine TL.v (Want.met rfl rfl rfl) rfl rfl (PV.load1 (v := (.int .u8 172)) rfl Try.underlying5 rfl rfl (Rd.own 2 rfl rfl) (by have := congrArg (fun l => l[0]?) hc4; simpa [List.getElem?_take, u8s] using this)) ?_
  refine TL.v (Want.met rfl rfl rfl) rfl rfl (PV.eql rfl rfl rfl) ?_
  refine TL.v (Want.plain rfl) rfl rfl (PV.pick rfl rfl rfl) ?_
  refine TL.v (Want.plain rfl) rfl rfl (PV.move rfl rfl) ?_
  refine TL.v (Want.met rfl rfl rfl) rfl rfl (PV.move rfl rfl) ?_
  refine TL.v (Want.met rfl rfl rfl) rfl rfl (PV.indexSl (r := 1) rfl Try.underlying31 sz5 rfl rfl (by first | omega | decide) (by first | omega | decide) rfl) ?_
  refine TL.v (Want.met rfl rfl rfl) rfl rfl (PV.load1 (v := (.int .u8 2)) rfl Try.underlying5 rfl rfl (Rd.own 2 rfl rfl) (by have := congrArg (fun l => l[1]?) hc4; simpa [List.getElem?_take, u8s] using this)) ?_
  refine TL.v (Want.met rfl rfl rfl) rfl rfl (PV.eql rfl rfl rfl) ?_
  refine TL.v (Want.plain rfl) rfl rfl (PV.pick rfl rfl rfl) ?_
  refine TL.v (Want.plain rfl) rfl rfl (PV.assign rfl rfl) ?_
  refine TL.nil ?_
  refine TE.next hK5 ?_
  clear hK5
  refine TC.ret ?_
  refine TE.weak (Sub.refl _) (fun _ s => sep_keep [] rfl s) ?_
  refine TE.ret1 rfl rfl ?_
  exact ⟨rfl, rfl⟩


theorem any1_does (rb nb : Nat) (v : Value) (bs : List UInt8) (m : Int) :
    Does Try.prog 17 #[(.pointer (some ⟨rb, 0, none⟩)), (.pointer (some ⟨nb, 0, none⟩))] (IsB v bs) [blkA rb [v] 69, blkA nb [(.int .i64 (m))] 3] (RetP (fun _ H => ∃ x' r n, H = blkA rb [x'] 69 :: [blkA nb [.int .i64 n] 3] ∧ Tail v bs x' r ∧ numP bs = some (n, r)) (fun c H => c = giveUp ∧ ∃ x' u, H = blkA rb [x'] 69 :: (fun _ : Unit => [blkA nb [.int .i64 m] 3]) u ∧ numP bs = none)) := by
  refine Does.body (vs := [(.pointer (some ⟨rb, 0, none⟩)), (.pointer (some ⟨nb, 0, none⟩))]) (n := 5) Try.func17 rfl rfl rfl (fun w0 F hF => ?_)
  refine TC.region ?_
  refine TL.v (Want.plain rfl) rfl rfl (PV.move rfl rfl) ?_
  refine TL.callP (A := [blkA rb [v] 69]) (B := [blkA nb [(.int .i64 (m))] 3]) (Want.plain rfl) rfl rfl rfl nm16 rfl (num_does rb v bs ) (fun _ s => s) (fun _ d _ => (hF).more d) (fun cP HP hP => ?_) (fun vR HR hR => ?_)
  · skip
    obtain ⟨vP, rfl, rfl, hpP⟩ := hP
    change TE _ _ _ _ _ _ _ [blkA rb [vP] 69, blkA nb [(.int .i64 (m))] 3]
    refine TE.weak (H' := [blkA rb [vP] 69, blkA nb [.int .i64 m] 3]) (Sub.refl _) (fun _ s => sep_keep [0, 0] rfl s) ?_
    refine TE.panicked ?_
    exact ⟨rfl, vP, (), rfl, hpP⟩
  obtain ⟨a1, r1, v1, rfl, rfl, hp1, ht1⟩ := hR
  change TL _ _ _ _ _ _ _ _ _ [blkA rb [v1] 69, blkA nb [(.int .i64 (m))] 3]
  have hf1 := ht1 _ hF
  refine TL.store1 (i := 1) (H' := [blkA rb [v1] 69, blkA nb [(.int .i64 (a1))] 3]) (Want.plain rfl) rfl rfl rfl rfl rfl sz3 rfl rfl (lb rfl) rfl rfl ?_
  refine TL.nil ?_
  refine TE.weak (Sub.refl _) (fun _ s => sep_keep [0, 0] rfl s) ?_
  refine TE.end0 rfl ?_
  exact ⟨_, _, _, rfl, ht1, hp1⟩


theorem any_does (x : Value) (bs : List UInt8) :
    Does Try.prog 5 #[x] (IsB x bs) [] (Ret (fun v H => v = .bool true ∧ H = [])) := by
  refine Does.body (vs := [x]) (n := 26) Try.func5 rfl rfl rfl (fun w0 F hF => ?_)
  refine TC.seq (fun K1 hK1 => ?_)
  refine TC.region ?_
  refine TL.v (Want.plain rfl) rfl rfl (PV.assign rfl rfl) ?_
  refine TL.nil ?_
  refine TE.next hK1 ?_
  clear hK1
  refine TC.seq (fun K2 hK2 => ?_)
  refine TC.seq (fun K3 hK3 => ?_)
  refine TC.region ?_
  refine TL.callR (A := []) (B := []) (Want.plain rfl) rfl rfl rfl nm9 rfl (fit_does) (fun _ s => s) (fun _ _ _ => trivial) (fun vR HR hR => ?_)
  obtain ⟨rfl, rfl⟩ := hR
  change TL _ _ _ _ _ _ _ _ _ []
  refine TL.v (Want.plain rfl) rfl rfl (PV.not (r := false) rfl rfl rfl) ?_
  refine TL.nil ?_
  refine TE.next hK3 ?_
  clear hK3
  refine TC.no rfl ?_
  refine TC.skip ?_
  refine TE.next hK2 ?_
  clear hK2
  refine TC.seq (fun K4 hK4 => ?_)
  refine TC.seq (fun K5 hK5 => ?_)
  refine TC.region ?_
  refine TL.v (Want.plain rfl) rfl rfl (PV.move rfl rfl) ?_
  refine TL.v (Want.plain rfl) rfl rfl (PV.lenV rfl Try.underlying31 rfl hF.len) ?_
  refine TL.v (Want.plain rfl) rfl rfl (PV.gtr rfl rfl rfl) ?_
  refine TL.dec (fun h9 => ?_) (fun h9 => ?_)
  · skip
    refine TL.nil ?_
    refine TE.next hK5 ?_
    clear hK5
    refine TC.yes rfl ?_
    refine TC.seq (fun K6 hK6 => ?_)
    refine TC.region ?_
    refine TL.v (Want.plain rfl) rfl rfl (PV.assign rfl rfl) ?_
    refine TL.nil ?_
    refine TE.next hK6 ?_
    clear hK6
    refine TC.ret ?_
    refine TE.passRet ?_
    clear hK4
    refine TE.weak (Sub.refl _) (fun _ s => sep_keep [] rfl s) ?_
    refine TE.ret1 rfl rfl ?_
    exact ⟨rfl, rfl⟩
  · skip
    refine TL.nil ?_
    refine TE.next hK5 ?_
    clear hK5
    refine TC.no rfl ?_
    refine TC.skip ?_
    refine TE.next hK4 ?_
    clear hK4
    refine TC.seq (fun K7 hK7 => ?_)
    refine TC.region ?_
    refine TL.alloc (Want.plain rfl) rfl rfl rfl z3 (fun b3 => ?_)
    change TL _ _ _ _ _ _ _ _ _ [blkA b3 [(.int .i64 0)] 3]
    refine TL.store1 (i := 0) (H' := [blkA b3 [(.int .i64 (-1))] 3]) (Want.plain rfl) rfl rfl rfl rfl rfl sz3 rfl rfl (lb rfl) rfl rfl ?_
    refine TL.nil ?_
    refine TE.next hK7 ?_
    clear hK7
    refine TC.seq (fun K8 hK8 => ?_)
    refine TC.seq (fun K9 hK9 => ?_)
    refine TC.region ?_
    refine TL.v (Want.plain rfl) rfl rfl (PV.move rfl rfl) ?_
    refine TL.v (Want.plain rfl) rfl rfl (PV.mkFunc rfl rfl) ?_
    refine TL.callR (A := [blkA b3 [(.int .i64 (-1))] 3]) (B := []) (Want.plain rfl) rfl rfl rfl nm14 rfl (read_with (bs := bs) (C := [blkA b3 [.int .i64 (-1)] 3]) (caps := [(.pointer (some ⟨b3, 0, none⟩))]) (A := fun n => [blkA b3 [.int .i64 n] 3]) (G := fun _ : Unit => [blkA b3 [.int .i64 (-1)] 3]) (φ := fun n r => numP bs = some (n, r)) (ψ := fun _ => numP bs = none) (fun _ h => h) (fun _ _ h d => h.more d) nm17 (fun rb => any1_does rb b3 x bs (-1))) (fun _ s => s) (fun _ d _ => hF.more d) (fun vR HR hR => ?_)
    rcases hR with ⟨r, m, rfl, rfl, hm⟩ | ⟨_, rfl, rfl, hm⟩
    · skip
      change TL _ _ _ _ _ _ _ _ _ [blkA b3 [(.int .i64 (m))] 3]
      refine TL.dec (fun h12 => ?_) (fun h12 => ?_)
      · skip
        refine TL.v (Want.plain rfl) rfl rfl (PV.not (r := false) rfl rfl rfl) ?_
        refine TL.nil ?_
        refine TE.next hK9 ?_
        clear hK9
        refine TC.no rfl ?_
        refine TC.skip ?_
        refine TE.next hK8 ?_
        clear hK8
        refine TC.seq (fun K10 hK10 => ?_)
        refine TC.region ?_
        refine TL.alloc (Want.plain rfl) rfl rfl rfl z33 (fun b4 => ?_)
        change TL _ _ _ _ _ _ _ _ _ [blkA b4 [(.slice none 0 0)] 33, blkA b3 [(.int .i64 (m))] 3]
        refine TL.ownNil 5 (fun on => ?_)
        clear on
        refine TL.nil ?_
        refine TE.next hK10 ?_
        clear hK10
        refine TC.seq (fun K11 hK11 => ?_)
        refine TC.draw (fun w => Frm F w ∧ w.heap[b3]? = some (.cells ([(.int .i64 (m))]).toArray 3 (0, 0)) ∧ True) mixed rfl (fun _ s => ⟨Frm.of s, s.block 2 (lb rfl) rfl, trivial⟩) ?_
        refine TD.take (i := 0) rfl (by kernel_rfl) (by kernel_rfl) (by kernel_rfl) (fun _ _ _ _ h => h) (Want.plain rfl) rfl rfl (PV.load1 (v := (.int .i64 (m))) rfl Try.underlying3 rfl rfl (Rd.right (Rd.left)) rfl) ?_
        refine TD.take (i := 1) rfl (by kernel_rfl) (by kernel_rfl) (by kernel_rfl) (fun _ _ _ _ h => h) (Want.plain rfl) rfl rfl (PV.geq rfl rfl rfl) ?_
        refine TD.dec (fun h15 => ?_) (fun h15 => ?_)
        · skip
          refine TD.take (i := 2) rfl (by kernel_rfl) (by kernel_rfl) (by kernel_rfl) (fun _ _ _ _ h => h) (Want.plain rfl) rfl rfl (PV.move rfl rfl) ?_
          refine TD.take (i := 3) rfl (by kernel_rfl) (by kernel_rfl) (by kernel_rfl) (fun _ _ _ _ h => h) (Want.met rfl rfl rfl) rfl rfl (PV.load1 (v := (.int .i64 (m))) rfl Try.underlying3 rfl rfl (Rd.right (Rd.left)) rfl) ?_
          refine TD.take (i := 8) rfl (by kernel_rfl) (by kernel_rfl) (by kernel_rfl) (fun _ _ _ _ h => h) (Want.met rfl rfl rfl) rfl rfl (PV.move rfl rfl) ?_
          refine TD.take (i := 9) rfl (by kernel_rfl) (by kernel_rfl) (by kernel_rfl) (fun _ _ _ _ h => h) (Want.met rfl rfl rfl) rfl rfl (PV.bytesStr (l := bs) rfl Try.underlying31 Try.underlying5 Try.underlying9 rfl (fun _ _ => hF.src (fun _ h => h.1))) ?_
          refine TD.all [4] (by kernel_rfl) rfl ?_
          refine AllT.cons rfl ?_ ?_
          · skip
            refine TL.buildSlice (cells := #[(.int .i64 (m))]) (Want.met rfl rfl rfl) rfl rfl rfl Try.underlying38 in3 rfl rfl rfl (by as_aux_lemma => kernel_rfl) (fun b18 => ?_)
            change TL _ _ _ _ _ _ _ _ _ [blkA b18 [(.int .i64 (m))] 3, ownB (.slice none 0 0) ([]) 5, blkA b4 [(.slice none 0 0)] 33, blkA b3 [(.int .i64 (m))] 3]
            refine TL.nil ?_
            refine TE.draw (fun _ s => ⟨Frm.of s, s.block 3 (lb rfl) rfl, trivial⟩) ?_
            refine TD.all [5] (by kernel_rfl) rfl ?_
            refine AllT.cons rfl ?_ ?_
            · skip
              refine TL.callR (A := [blkA b4 [(.slice none 0 0)] 33, ownB (.slice none 0 0) ([]) 5]) (B := [blkA b18 [(.int .i64 (m))] 3, blkA b3 [(.int .i64 (m))] 3]) (Want.met rfl rfl rfl) rfl rfl rfl nm13 rfl (wnum_does b4 (.slice none 0 0) ([]) (.slice (some ⟨b18, 0, none⟩) (1) (1)) [m] (by simp only [List.length_append, List.length_cons, List.length_nil]; omega)) (fun _ s => sep_selR [2, 1] rfl s) (isN_piece 0 rfl rfl rfl rfl) (fun vR HR hR => ?_)
              obtain ⟨u1, rfl, rfl⟩ := hR
              change TL _ _ _ _ _ _ _ _ _ [blkA b4 [u1] 33, ownB u1 (encs [m]) 5, blkA b18 [(.int .i64 (m))] 3, blkA b3 [(.int .i64 (m))] 3]
              refine TL.nil ?_
              refine TE.draw (fun _ s => ⟨Frm.of s, s.block 3 (lb rfl) rfl, trivial⟩) ?_
              refine TD.all [6] (by kernel_rfl) rfl ?_
              refine AllT.cons rfl ?_ ?_
              · skip
                refine TL.callR (A := [blkA b4 [u1] 33, ownB u1 (encs [m]) 5]) (B := [blkA b18 [(.int .i64 (m))] 3, blkA b3 [(.int .i64 (m))] 3]) (Want.met rfl rfl rfl) rfl rfl rfl nm12 rfl (wbytes_does b4 u1 (encs [m]) (by have := encs_len [m]; simp at *; omega)) (fun _ s => s) (fun _ _ _ => trivial) (fun vR HR hR => ?_)
                obtain ⟨y1, hy1, rfl⟩ := hR
                subst vR
                change TL _ _ _ _ _ _ _ _ _ [blkA b4 [u1] 33, ownB u1 (encs [m]) 5, ownB y1 (encs [m]) 5, blkA b18 [(.int .i64 (m))] 3, blkA b3 [(.int .i64 (m))] 3]
                refine TL.nil ?_
                refine TE.draw (fun _ s => ⟨Frm.of s, s.block 4 (lb rfl) rfl, trivial⟩) ?_
                refine TD.more (Hb y1 (encs [m])) (fun _ s => s.hb 2 rfl rfl) ?_
                refine TD.take (i := 7) rfl (by kernel_rfl) (by kernel_rfl) (by kernel_rfl) (fun _ _ _ _ h => h) (Want.met rfl rfl rfl) rfl rfl (PV.bytesStr (l := encs [m]) rfl Try.underlying31 Try.underlying5 Try.underlying9 rfl (Hb.src (fun _ h => h.1))) ?_
                refine TD.take (i := 10) rfl (by kernel_rfl) (by kernel_rfl) (by kernel_rfl) (fun _ _ _ _ h => h) (Want.met rfl rfl rfl) rfl rfl (PV.strEql (a := encs [m]) (b := bs) rfl rfl rfl) ?_
                refine TD.take (i := 11) rfl (by kernel_rfl) (by kernel_rfl) (by kernel_rfl) (fun _ _ _ _ h => h) (Want.plain rfl) rfl rfl (PV.pick rfl rfl rfl) ?_
                refine TD.take (i := 12) rfl (by kernel_rfl) (by kernel_rfl) (by kernel_rfl) (fun _ _ _ _ h => h) (Want.plain rfl) rfl rfl (PV.assign rfl rfl) ?_
                refine TD.done (by kernel_rfl) ?_
                refine TE.next hK11 ?_
                clear hK11
                refine TC.ret ?_
                refine TE.weak (Sub.refl _) (fun _ s => sep_keep [] rfl s) ?_
                refine TE.ret1 rfl rfl ?_
                exact ⟨by rw [h12] at hm; have := (numP_spec hm).2.2; rw [this]; simp [encs], rfl⟩
              exact AllT.nil
            exact AllT.nil
          exact AllT.nil
        · exact absurd (numP_spec hm).1 h15
      · skip
        refine TL.v (Want.plain rfl) rfl rfl (PV.not (r := true) rfl rfl rfl) ?_
        refine TL.nil ?_
        refine TE.next hK9 ?_
        clear hK9
        refine TC.yes rfl ?_
        refine TC.seq (fun K12 hK12 => ?_)
        refine TC.region ?_
        refine TL.v (Want.plain rfl) rfl rfl (PV.assign rfl rfl) ?_
        refine TL.nil ?_
        refine TE.next hK12 ?_
        clear hK12
        refine TC.ret ?_
        refine TE.passRet ?_
        clear hK8
        refine TE.weak (Sub.refl _) (fun _ s => sep_keep [] rfl s) ?_
        refine TE.ret1 rfl rfl ?_
        exact ⟨rfl, rfl⟩
    · skip
      change TL _ _ _ _ _ _ _ _ _ [blkA b3 [(.int .i64 (-1))] 3]
      refine TL.v (Want.plain rfl) rfl rfl (PV.not (r := true) rfl rfl rfl) ?_
      refine TL.nil ?_
      refine TE.next hK9 ?_
      clear hK9
      refine TC.yes rfl ?_
      refine TC.seq (fun K13 hK13 => ?_)
      refine TC.region ?_
      refine TL.v (Want.plain rfl) rfl rfl (PV.assign rfl rfl) ?_
      refine TL.nil ?_
      refine TE.next hK13 ?_
      clear hK13
      refine TC.ret ?_
      refine TE.passRet ?_
      clear hK8
      refine TE.weak (Sub.refl _) (fun _ s => sep_keep [] rfl s) ?_
      refine TE.ret1 rfl rfl ?_
      exact ⟨rfl, rfl⟩


end Go.Proofs.Ytlhpkgcchomndaa
