/-
  CodecSmall: what it reckons.
-/

import Derived.Test.YtlhpkgcchomndaaLawA
import Derived.Test.YtlhpkgcchomndaaCodecS

namespace Go.Proofs.Ytlhpkgcchomndaa

open Go Leg Codec Api

set_option maxRecDepth 100000

theorem small1_does (rb lb' gb : Nat) (v : Value) (bs : List UInt8) (lim g : Int) :
    Does Try.prog 19 #[(.pointer (some ⟨rb, 0, none⟩)), (.pointer (some ⟨lb', 0, none⟩)), (.pointer (some ⟨gb, 0, none⟩))] (IsB v bs) [blkA rb [v] 69, blkA lb' [(.int .i64 (lim))] 3, blkA gb [(.int .i64 (g))] 3] (RetP (fun _ H => ∃ x' r a, H = blkA rb [x'] 69 :: [blkA lb' [.int .i64 lim] 3, blkA gb [.int .i64 a] 3] ∧ Tail v bs x' r ∧ smallP lim bs = some (a, r)) (fun c H => c = giveUp ∧ ∃ x' u, H = blkA rb [x'] 69 :: (fun _ : Unit => [blkA lb' [.int .i64 lim] 3, blkA gb [.int .i64 g] 3]) u ∧ smallP lim bs = none)) := by
  refine Does.body (vs := [(.pointer (some ⟨rb, 0, none⟩)), (.pointer (some ⟨lb', 0, none⟩)), (.pointer (some ⟨gb, 0, none⟩))]) (n := 7) Try.func19 rfl rfl rfl (fun w0 F hF => ?_)
  refine TC.region ?_
  refine TL.v (Want.plain rfl) rfl rfl (PV.move rfl rfl) ?_
  refine TL.v (Want.plain rfl) rfl rfl (PV.load1 (v := (.int .i64 (lim))) rfl Try.underlying3 rfl rfl (Rd.own 1 rfl rfl) rfl) ?_
  refine TL.callP (A := [blkA rb [v] 69]) (B := [blkA lb' [(.int .i64 (lim))] 3, blkA gb [(.int .i64 (g))] 3]) (Want.plain rfl) rfl rfl rfl nm20 rfl (small_does rb v bs (lim)) (fun _ s => s) (fun _ d _ => (hF).more d) (fun cP HP hP => ?_) (fun vR HR hR => ?_)
  · skip
    obtain ⟨vP, rfl, rfl, hpP⟩ := hP
    change TE _ _ _ _ _ _ _ [blkA rb [vP] 69, blkA lb' [(.int .i64 (lim))] 3, blkA gb [(.int .i64 (g))] 3]
    refine TE.weak (H' := [blkA rb [vP] 69, blkA lb' [.int .i64 lim] 3, blkA gb [.int .i64 g] 3]) (Sub.refl _) (fun _ s => sep_keep [0, 0, 0] rfl s) ?_
    refine TE.panicked ?_
    exact ⟨rfl, vP, (), rfl, hpP⟩
  obtain ⟨a1, r1, v1, rfl, rfl, hp1, ht1⟩ := hR
  change TL _ _ _ _ _ _ _ _ _ [blkA rb [v1] 69, blkA lb' [(.int .i64 (lim))] 3, blkA gb [(.int .i64 (g))] 3]
  have hf1 := ht1 _ hF
  refine TL.store1 (i := 2) (H' := [blkA rb [v1] 69, blkA lb' [(.int .i64 (lim))] 3, blkA gb [(.int .i64 (a1))] 3]) (Want.plain rfl) rfl rfl rfl rfl rfl sz3 rfl rfl (lb rfl) rfl rfl ?_
  refine TL.nil ?_
  refine TE.weak (Sub.refl _) (fun _ s => sep_keep [0, 0, 0] rfl s) ?_
  refine TE.end0 rfl ?_
  exact ⟨_, _, _, rfl, ht1, hp1⟩


theorem small2_does (rb vb cb bb : Nat) (v : Value) (bs : List UInt8) (vz : ViewT) (cz : ChangeT) (bz : BallotT) :
    Does Try.prog 24 #[(.pointer (some ⟨rb, 0, none⟩)), (.pointer (some ⟨vb, 0, none⟩)), (.pointer (some ⟨cb, 0, none⟩)), (.pointer (some ⟨bb, 0, none⟩))] (IsB v bs) [blkA rb [v] 69, blkA vb (ints vz.flat) 48, blkA cb (ints cz.flat) 52, blkA bb (ints bz.flat) 54] (RetP (fun _ H => ∃ x' r t, H = blkA rb [x'] 69 :: (fun t : ViewT × ChangeT × BallotT => [blkA vb (ints t.1.flat) 48, blkA cb (ints t.2.1.flat) 52, blkA bb (ints t.2.2.flat) 54]) t ∧ Tail v bs x' r ∧ vcbP bs = some (t, r)) (fun c H => c = giveUp ∧ ∃ x' u, H = blkA rb [x'] 69 :: (fun _ : Unit => [blkA vb (ints vz.flat) 48, blkA cb (ints cz.flat) 52, blkA bb (ints bz.flat) 54]) u ∧ vcbP bs = none)) := by
  refine Does.body (vs := [(.pointer (some ⟨rb, 0, none⟩)), (.pointer (some ⟨vb, 0, none⟩)), (.pointer (some ⟨cb, 0, none⟩)), (.pointer (some ⟨bb, 0, none⟩))]) (n := 11) Try.func24 rfl rfl rfl (fun w0 F hF => ?_)
  refine TC.region ?_
  refine TL.v (Want.plain rfl) rfl rfl (PV.move rfl rfl) ?_
  refine TL.callP (A := [blkA rb [v] 69]) (B := [blkA vb (ints vz.flat) 48, blkA cb (ints cz.flat) 52, blkA bb (ints bz.flat) 54]) (Want.plain rfl) rfl rfl rfl nm25 rfl (rview_does rb v bs ) (fun _ s => s) (fun _ d _ => (hF).more d) (fun cP HP hP => ?_) (fun vR HR hR => ?_)
  · skip
    obtain ⟨vP, rfl, rfl, hpP⟩ := hP
    change TE _ _ _ _ _ _ _ [blkA rb [vP] 69, blkA vb (ints vz.flat) 48, blkA cb (ints cz.flat) 52, blkA bb (ints bz.flat) 54]
    refine TE.weak (H' := [blkA rb [vP] 69, blkA vb (ints vz.flat) 48, blkA cb (ints cz.flat) 52, blkA bb (ints bz.flat) 54]) (Sub.refl _) (fun _ s => sep_keep [0, 0, 0, 0] rfl s) ?_
    refine TE.panicked ?_
    exact ⟨rfl, vP, (), rfl, by simp only [vcbP]; rw [pb_none hpP]⟩
  obtain ⟨a1, r1, v1, rfl, rfl, hp1, ht1⟩ := hR
  change TL _ _ _ _ _ _ _ _ _ [blkA rb [v1] 69, blkA vb (ints vz.flat) 48, blkA cb (ints cz.flat) 52, blkA bb (ints bz.flat) 54]
  have hf1 := ht1 _ hF
  refine TL.v (Want.plain rfl) rfl rfl (PV.move rfl rfl) ?_
  refine TL.callP (A := [blkA rb [v1] 69]) (B := [blkA vb (ints vz.flat) 48, blkA cb (ints cz.flat) 52, blkA bb (ints bz.flat) 54]) (Want.plain rfl) rfl rfl rfl nm26 rfl (rchange_does rb v1 r1 ) (fun _ s => s) (fun _ d _ => (hf1).more d) (fun cP HP hP => ?_) (fun vR HR hR => ?_)
  · skip
    obtain ⟨vP, rfl, rfl, hpP⟩ := hP
    change TE _ _ _ _ _ _ _ [blkA rb [vP] 69, blkA vb (ints vz.flat) 48, blkA cb (ints cz.flat) 52, blkA bb (ints bz.flat) 54]
    refine TE.weak (H' := [blkA rb [vP] 69, blkA vb (ints vz.flat) 48, blkA cb (ints cz.flat) 52, blkA bb (ints bz.flat) 54]) (Sub.refl _) (fun _ s => sep_keep [0, 0, 0, 0] rfl s) ?_
    refine TE.panicked ?_
    exact ⟨rfl, vP, (), rfl, by simp only [vcbP]; rw [pb_some hp1, pb_none hpP]⟩
  obtain ⟨a2, r2, v2, rfl, rfl, hp2, ht2⟩ := hR
  change TL _ _ _ _ _ _ _ _ _ [blkA rb [v2] 69, blkA vb (ints vz.flat) 48, blkA cb (ints cz.flat) 52, blkA bb (ints bz.flat) 54]
  have hf2 := ht2 _ hf1
  refine TL.v (Want.plain rfl) rfl rfl (PV.move rfl rfl) ?_
  refine TL.callP (A := [blkA rb [v2] 69]) (B := [blkA vb (ints vz.flat) 48, blkA cb (ints cz.flat) 52, blkA bb (ints bz.flat) 54]) (Want.plain rfl) rfl rfl rfl nm27 rfl (rballot_does rb v2 r2 ) (fun _ s => s) (fun _ d _ => (hf2).more d) (fun cP HP hP => ?_) (fun vR HR hR => ?_)
  · skip
    obtain ⟨vP, rfl, rfl, hpP⟩ := hP
    change TE _ _ _ _ _ _ _ [blkA rb [vP] 69, blkA vb (ints vz.flat) 48, blkA cb (ints cz.flat) 52, blkA bb (ints bz.flat) 54]
    refine TE.weak (H' := [blkA rb [vP] 69, blkA vb (ints vz.flat) 48, blkA cb (ints cz.flat) 52, blkA bb (ints bz.flat) 54]) (Sub.refl _) (fun _ s => sep_keep [0, 0, 0, 0] rfl s) ?_
    refine TE.panicked ?_
    exact ⟨rfl, vP, (), rfl, by simp only [vcbP]; rw [pb_some hp1, pb_some hp2, pb_none hpP]⟩
  obtain ⟨a3, r3, v3, rfl, rfl, hp3, ht3⟩ := hR
  change TL _ _ _ _ _ _ _ _ _ [blkA rb [v3] 69, blkA vb (ints vz.flat) 48, blkA cb (ints cz.flat) 52, blkA bb (ints bz.flat) 54]
  have hf3 := ht3 _ hf2
  refine TL.store (vs := ints a1.flat) (i := 1) (H' := [blkA rb [v3] 69, blkA vb (ints a1.flat) 48, blkA cb (ints cz.flat) 52, blkA bb (ints bz.flat) 54]) (Want.plain rfl) rfl rfl rfl rfl rfl (by rw [ViewT.len]; exact sz48) (ints_one _) rfl rfl (by rw [ViewT.len, Nat.zero_add, ViewT.len]; decide) (wr_whole (by rw [ViewT.len, ViewT.len])) rfl ?_
  refine TL.store (vs := ints a2.flat) (i := 2) (H' := [blkA rb [v3] 69, blkA vb (ints a1.flat) 48, blkA cb (ints a2.flat) 52, blkA bb (ints bz.flat) 54]) (Want.plain rfl) rfl rfl rfl rfl rfl (by rw [ChangeT.len]; exact sz52) (ints_one _) rfl rfl (by rw [ChangeT.len, Nat.zero_add, ChangeT.len]; decide) (wr_whole (by rw [ChangeT.len, ChangeT.len])) rfl ?_
  refine TL.store (vs := ints a3.flat) (i := 3) (H' := [blkA rb [v3] 69, blkA vb (ints a1.flat) 48, blkA cb (ints a2.flat) 52, blkA bb (ints a3.flat) 54]) (Want.plain rfl) rfl rfl rfl rfl rfl (by rw [BallotT.len]; exact sz54) (ints_one _) rfl rfl (by rw [BallotT.len, Nat.zero_add, BallotT.len]; decide) (wr_whole (by rw [BallotT.len, BallotT.len])) rfl ?_
  refine TL.nil ?_
  refine TE.weak (Sub.refl _) (fun _ s => sep_keep [0, 0, 0, 0] rfl s) ?_
  refine TE.end0 rfl ?_
  exact ⟨_, _, (a1, a2, a3), rfl, (ht1.trans (ht2.trans ht3)), by simp only [vcbP]; rw [pb_some hp1, pb_some hp2, pb_some hp3]; rfl⟩


theorem vcb_own (n l e m h0 h1 h2 h3 h4 : Int) : vcbP (encs (⟨e % 1024, m % 32, #v[h0 % 8 % 6, h1 % 8 % 6, h2 % 8 % 6, h3 % 8 % 6, h4 % 8 % 6]⟩ : ViewT).flat ++ encs (⟨n % 1024 % 2, n % 1024 / 2 % 4, n % 1024 / 8 % 4⟩ : ChangeT).flat ++ encs (⟨l % 1024, n % 1024 / 32 % 4⟩ : BallotT).flat) = some (((⟨e % 1024, m % 32, #v[h0 % 8 % 6, h1 % 8 % 6, h2 % 8 % 6, h3 % 8 % 6, h4 % 8 % 6]⟩ : ViewT), (⟨n % 1024 % 2, n % 1024 / 2 % 4, n % 1024 / 8 % 4⟩ : ChangeT), (⟨l % 1024, n % 1024 / 32 % 4⟩ : BallotT)), []) := by
  rw [List.append_assoc, vcbP, pb_some (viewP_enc (by omega) (by omega) (by omega) (by omega) (by omega) (by omega) (by omega) _), pb_some (changeP_enc (by omega) (by omega) (by omega) _)]
  have e := ballotP_enc (a := l % 1024) (b := n % 1024 / 32 % 4) (by omega) (by omega) []
  rw [List.append_nil] at e
  rw [pb_some e]
  rfl

theorem smalls_does (n l e m h0 h1 h2 h3 h4 : Int) :
    Does Try.prog 7 #[(.int .i64 (n)), (.int .i64 (l)), (.agg #[(.int .i64 (e)), (.int .i64 (m)), (.int .i64 (h0)), (.int .i64 (h1)), (.int .i64 (h2)), (.int .i64 (h3)), (.int .i64 (h4))])] (fun _ => True) [] (Ret (fun v H => v = .bool true ∧ H = [])) := by
  refine Does.body (vs := [(.int .i64 (n)), (.int .i64 (l)), (.agg #[(.int .i64 (e)), (.int .i64 (m)), (.int .i64 (h0)), (.int .i64 (h1)), (.int .i64 (h2)), (.int .i64 (h3)), (.int .i64 (h4))])]) (n := 101) Try.func7 rfl rfl rfl (fun w0 F hF => ?_)
  refine TC.seq (fun K1 hK1 => ?_)
  refine TC.region ?_
  refine TL.box (Want.plain rfl) rfl rfl rfl rfl (fun b4 => ?_)
  change TL _ _ _ _ _ _ _ _ _ [blkA b4 [(.int .i64 (l))] 3]
  refine TL.box (Want.plain rfl) rfl rfl rfl rfl (fun b5 => ?_)
  change TL _ _ _ _ _ _ _ _ _ [blkA b5 [(.int .i64 (e)), (.int .i64 (m)), (.int .i64 (h0)), (.int .i64 (h1)), (.int .i64 (h2)), (.int .i64 (h3)), (.int .i64 (h4))] 48, blkA b4 [(.int .i64 (l))] 3]
  refine TL.v (Want.plain rfl) rfl rfl (PV.assign rfl rfl) ?_
  refine TL.nil ?_
  refine TE.next hK1 ?_
  clear hK1
  refine TC.seq (fun K2 hK2 => ?_)
  refine TC.seq (fun K3 hK3 => ?_)
  refine TC.region ?_
  refine TL.callR (A := []) (B := [blkA b5 [(.int .i64 (e)), (.int .i64 (m)), (.int .i64 (h0)), (.int .i64 (h1)), (.int .i64 (h2)), (.int .i64 (h3)), (.int .i64 (h4))] 48, blkA b4 [(.int .i64 (l))] 3]) (Want.plain rfl) rfl rfl rfl nm9 rfl (fit_does) (fun _ s => s) (fun _ _ _ => trivial) (fun vR HR hR => ?_)
  obtain ⟨rfl, rfl⟩ := hR
  change TL _ _ _ _ _ _ _ _ _ [blkA b5 [(.int .i64 (e)), (.int .i64 (m)), (.int .i64 (h0)), (.int .i64 (h1)), (.int .i64 (h2)), (.int .i64 (h3)), (.int .i64 (h4))] 48, blkA b4 [(.int .i64 (l))] 3]
  refine TL.v (Want.plain rfl) rfl rfl (PV.not (r := false) rfl rfl rfl) ?_
  refine TL.nil ?_
  refine TE.next hK3 ?_
  clear hK3
  refine TC.no rfl ?_
  refine TC.skip ?_
  refine TE.next hK2 ?_
  clear hK2
  refine TC.seq (fun K4 hK4 => ?_)
  refine TC.draw (fun w => Frm F w ∧ True) mixed rfl (fun _ s => ⟨Frm.of s, trivial⟩) ?_
  refine TD.take (i := 0) rfl (by kernel_rfl) (by kernel_rfl) (by kernel_rfl) (fun _ _ _ _ h => h) (Want.plain rfl) rfl rfl (PV.move rfl rfl) ?_
  refine TD.take (i := 1) rfl (by kernel_rfl) (by kernel_rfl) (by kernel_rfl) (fun _ _ _ _ h => h) (Want.plain rfl) rfl rfl (PV.and (r := (n % 1024)) rfl rfl rfl (and10 _)) ?_
  refine TD.take (i := 4) rfl (by kernel_rfl) (by kernel_rfl) (by kernel_rfl) (fun _ _ _ _ h => h) (Want.plain rfl) rfl rfl (PV.assign rfl rfl) ?_
  refine TD.all [2] (by kernel_rfl) rfl ?_
  refine AllT.cons rfl ?_ ?_
  · skip
    refine TL.v (Want.plain rfl) rfl rfl (PV.load1 (v := (.int .i64 (l))) rfl Try.underlying3 rfl rfl (Rd.own 1 rfl rfl) rfl) ?_
    refine TL.nil ?_
    refine TE.draw (fun _ s => ⟨Frm.of s, trivial⟩) ?_
    refine TD.take (i := 3) rfl (by kernel_rfl) (by kernel_rfl) (by kernel_rfl) (fun _ _ _ _ h => h) (Want.plain rfl) rfl rfl (PV.and (r := (l % 1024)) rfl rfl rfl (and10 _)) ?_
    refine TD.all [5] (by kernel_rfl) rfl ?_
    refine AllT.cons rfl ?_ ?_
    · skip
      refine TL.store1 (i := 1) (H' := [blkA b5 [(.int .i64 (e)), (.int .i64 (m)), (.int .i64 (h0)), (.int .i64 (h1)), (.int .i64 (h2)), (.int .i64 (h3)), (.int .i64 (h4))] 48, blkA b4 [(.int .i64 ((l % 1024)))] 3]) (Want.plain rfl) rfl rfl rfl rfl rfl sz3 rfl rfl (lb rfl) rfl rfl ?_
      refine TL.nil ?_
      refine TE.draw (fun _ s => ⟨Frm.of s, trivial⟩) ?_
      refine TD.done (by kernel_rfl) ?_
      refine TE.next hK4 ?_
      clear hK4
      refine TC.seq (fun K5 hK5 => ?_)
      refine TC.region ?_
      refine TL.alloc (Want.plain rfl) rfl rfl rfl z33 (fun b7 => ?_)
      change TL _ _ _ _ _ _ _ _ _ [blkA b7 [(.slice none 0 0)] 33, blkA b5 [(.int .i64 (e)), (.int .i64 (m)), (.int .i64 (h0)), (.int .i64 (h1)), (.int .i64 (h2)), (.int .i64 (h3)), (.int .i64 (h4))] 48, blkA b4 [(.int .i64 ((l % 1024)))] 3]
      refine TL.ownNil 5 (fun on => ?_)
      clear on
      refine TL.nil ?_
      refine TE.next hK5 ?_
      clear hK5
      refine TC.seq (fun K6 hK6 => ?_)
      refine TC.region ?_
      refine TL.v (Want.plain rfl) rfl rfl (PV.move rfl rfl) ?_
      refine TL.buildSlice (cells := #[(.int .i64 ((n % 1024)))]) (Want.plain rfl) rfl rfl rfl Try.underlying38 in3 rfl rfl rfl (by as_aux_lemma => kernel_rfl) (fun b24 => ?_)
      change TL _ _ _ _ _ _ _ _ _ [blkA b24 [(.int .i64 ((n % 1024)))] 3, ownB (.slice none 0 0) ([]) 5, blkA b7 [(.slice none 0 0)] 33, blkA b5 [(.int .i64 (e)), (.int .i64 (m)), (.int .i64 (h0)), (.int .i64 (h1)), (.int .i64 (h2)), (.int .i64 (h3)), (.int .i64 (h4))] 48, blkA b4 [(.int .i64 ((l % 1024)))] 3]
      refine TL.callR (A := [blkA b7 [(.slice none 0 0)] 33, ownB (.slice none 0 0) ([]) 5]) (B := [blkA b24 [(.int .i64 ((n % 1024)))] 3, blkA b5 [(.int .i64 (e)), (.int .i64 (m)), (.int .i64 (h0)), (.int .i64 (h1)), (.int .i64 (h2)), (.int .i64 (h3)), (.int .i64 (h4))] 48, blkA b4 [(.int .i64 ((l % 1024)))] 3]) (Want.plain rfl) rfl rfl rfl nm13 rfl (wnum_does b7 (.slice none 0 0) ([]) (.slice (some ⟨b24, 0, none⟩) (1) (1)) [(n % 1024)] (by simp)) (fun _ s => sep_selR [2, 1] rfl s) (isN_piece 0 rfl rfl rfl rfl) (fun vR HR hR => ?_)
      obtain ⟨u1, rfl, rfl⟩ := hR
      change TL _ _ _ _ _ _ _ _ _ [blkA b7 [u1] 33, ownB u1 (encs [(n % 1024)]) 5, blkA b24 [(.int .i64 ((n % 1024)))] 3, blkA b5 [(.int .i64 (e)), (.int .i64 (m)), (.int .i64 (h0)), (.int .i64 (h1)), (.int .i64 (h2)), (.int .i64 (h3)), (.int .i64 (h4))] 48, blkA b4 [(.int .i64 ((l % 1024)))] 3]
      refine TL.nil ?_
      refine TE.next hK6 ?_
      clear hK6
      refine TC.seq (fun K7 hK7 => ?_)
      refine TC.region ?_
      refine TL.alloc (Want.plain rfl) rfl rfl rfl z3 (fun b8 => ?_)
      change TL _ _ _ _ _ _ _ _ _ [blkA b8 [(.int .i64 0)] 3, blkA b7 [u1] 33, ownB u1 (encs [(n % 1024)]) 5, blkA b24 [(.int .i64 ((n % 1024)))] 3, blkA b5 [(.int .i64 (e)), (.int .i64 (m)), (.int .i64 (h0)), (.int .i64 (h1)), (.int .i64 (h2)), (.int .i64 (h3)), (.int .i64 (h4))] 48, blkA b4 [(.int .i64 ((l % 1024)))] 3]
      refine TL.store1 (i := 0) (H' := [blkA b8 [(.int .i64 (-1))] 3, blkA b7 [u1] 33, ownB u1 (encs [(n % 1024)]) 5, blkA b24 [(.int .i64 ((n % 1024)))] 3, blkA b5 [(.int .i64 (e)), (.int .i64 (m)), (.int .i64 (h0)), (.int .i64 (h1)), (.int .i64 (h2)), (.int .i64 (h3)), (.int .i64 (h4))] 48, blkA b4 [(.int .i64 ((l % 1024)))] 3]) (Want.plain rfl) rfl rfl rfl rfl rfl sz3 rfl rfl (lb rfl) rfl rfl ?_
      refine TL.nil ?_
      refine TE.next hK7 ?_
      clear hK7
      refine TC.seq (fun K8 hK8 => ?_)
      refine TC.region ?_
      refine TL.callR (A := [blkA b7 [u1] 33, ownB u1 (encs [(n % 1024)]) 5]) (B := [blkA b8 [(.int .i64 (-1))] 3, blkA b24 [(.int .i64 ((n % 1024)))] 3, blkA b5 [(.int .i64 (e)), (.int .i64 (m)), (.int .i64 (h0)), (.int .i64 (h1)), (.int .i64 (h2)), (.int .i64 (h3)), (.int .i64 (h4))] 48, blkA b4 [(.int .i64 ((l % 1024)))] 3]) (Want.plain rfl) rfl rfl rfl nm12 rfl (wbytes_does b7 u1 (encs [(n % 1024)]) (by have q1 := encs_len [n % 1024]; have q2 := encs_len (⟨e % 1024, m % 32, #v[h0 % 8 % 6, h1 % 8 % 6, h2 % 8 % 6, h3 % 8 % 6, h4 % 8 % 6]⟩ : ViewT).flat; have q3 := encs_len (⟨n % 1024 % 2, n % 1024 / 2 % 4, n % 1024 / 8 % 4⟩ : ChangeT).flat; have q4 := encs_len (⟨l % 1024, n % 1024 / 32 % 4⟩ : BallotT).flat; simp only [List.length_append, List.length_cons, List.length_nil, ViewT.flat, ChangeT.flat, BallotT.flat, Vector.toList_mk] at *; omega)) (fun _ s => sep_selR [1, 1] rfl s) (fun _ _ _ => trivial) (fun vR HR hR => ?_)
      obtain ⟨y1, hy1, rfl⟩ := hR
      subst vR
      change TL _ _ _ _ _ _ _ _ _ [blkA b7 [u1] 33, ownB u1 (encs [(n % 1024)]) 5, ownB y1 (encs [(n % 1024)]) 5, blkA b8 [(.int .i64 (-1))] 3, blkA b24 [(.int .i64 ((n % 1024)))] 3, blkA b5 [(.int .i64 (e)), (.int .i64 (m)), (.int .i64 (h0)), (.int .i64 (h1)), (.int .i64 (h2)), (.int .i64 (h3)), (.int .i64 (h4))] 48, blkA b4 [(.int .i64 ((l % 1024)))] 3]
      refine TL.v (Want.plain rfl) rfl rfl (PV.mkFunc rfl rfl) ?_
      refine TL.callR (A := [blkA b4 [(.int .i64 ((l % 1024)))] 3, blkA b8 [(.int .i64 (-1))] 3]) (B := [blkA b7 [u1] 33, ownB u1 (encs [(n % 1024)]) 5, ownB y1 (encs [(n % 1024)]) 5, blkA b24 [(.int .i64 ((n % 1024)))] 3, blkA b5 [(.int .i64 (e)), (.int .i64 (m)), (.int .i64 (h0)), (.int .i64 (h1)), (.int .i64 (h2)), (.int .i64 (h3)), (.int .i64 (h4))] 48]) (Want.plain rfl) rfl rfl rfl nm14 rfl (read_with (bs := (encs [(n % 1024)])) (C := [blkA b4 [(.int .i64 ((l % 1024)))] 3, blkA b8 [(.int .i64 (-1))] 3]) (caps := [(.pointer (some ⟨b4, 0, none⟩)), (.pointer (some ⟨b8, 0, none⟩))]) (A := fun a => [blkA b4 [(.int .i64 ((l % 1024)))] 3, blkA b8 [.int .i64 a] 3]) (G := fun _ : Unit => [blkA b4 [(.int .i64 ((l % 1024)))] 3, blkA b8 [(.int .i64 (-1))] 3]) (φ := fun a r => smallP (l % 1024) (encs [(n % 1024)]) = some (a, r)) (ψ := fun _ => smallP (l % 1024) (encs [(n % 1024)]) = none) (fun _ h => h) (fun _ _ h d => h.more d) nm19 (fun rb => small1_does rb b4 b8 y1 (encs [(n % 1024)]) (l % 1024) (-1))) (fun _ s => sep_selR [6, 3] rfl s) (isB_own 2 rfl rfl) (fun vR HR hR => ?_)
      rcases hR with ⟨r, a, rfl, rfl, hs⟩ | ⟨_, rfl, rfl, hs⟩
      · skip
        obtain ⟨hlt, e1, e2⟩ := small_some (by omega) (by omega) hs
        subst e1
        subst e2
        change TL _ _ _ _ _ _ _ _ _ [blkA b4 [(.int .i64 ((l % 1024)))] 3, blkA b8 [(.int .i64 ((n % 1024)))] 3, blkA b7 [u1] 33, ownB u1 (encs [(n % 1024)]) 5, ownB y1 (encs [(n % 1024)]) 5, blkA b24 [(.int .i64 ((n % 1024)))] 3, blkA b5 [(.int .i64 (e)), (.int .i64 (m)), (.int .i64 (h0)), (.int .i64 (h1)), (.int .i64 (h2)), (.int .i64 (h3)), (.int .i64 (h4))] 48]
        refine TL.v (Want.plain rfl) rfl rfl (PV.assign rfl rfl) ?_
        refine TL.nil ?_
        refine TE.next hK8 ?_
        clear hK8
        refine TC.seq (fun K9 hK9 => ?_)
        refine TC.seq (fun K10 hK10 => ?_)
        refine TC.region ?_
        refine TL.v (Want.plain rfl) rfl rfl (PV.move rfl rfl) ?_
        refine TL.v (Want.plain rfl) rfl rfl (PV.move rfl rfl) ?_
        refine TL.v (Want.plain rfl) rfl rfl (PV.load1 (v := (.int .i64 ((l % 1024)))) rfl Try.underlying3 rfl rfl (Rd.own 0 rfl rfl) rfl) ?_
        refine TL.v (Want.plain rfl) rfl rfl (PV.lssT hlt rfl rfl rfl) ?_
        refine TL.v (Want.plain rfl) rfl rfl (PV.neqB rfl Try.underlying4 rfl rfl) ?_
        refine TL.v (Want.plain rfl) rfl rfl (PV.move rfl rfl) ?_
        refine TL.v (Want.met rfl rfl rfl) rfl rfl (PV.move rfl rfl) ?_
        refine TL.v (Want.met rfl rfl rfl) rfl rfl (PV.move rfl rfl) ?_
        refine TL.v (Want.met rfl rfl rfl) rfl rfl (PV.load1 (v := (.int .i64 ((n % 1024)))) rfl Try.underlying3 rfl rfl (Rd.own 1 rfl rfl) rfl) ?_
        refine TL.v (Want.met rfl rfl rfl) rfl rfl (PV.move rfl rfl) ?_
        refine TL.v (Want.met rfl rfl rfl) rfl rfl (PV.neqF rfl rfl rfl rfl) ?_
        refine TL.v (Want.met rfl rfl rfl) rfl rfl (PV.pick rfl rfl rfl) ?_
        refine TL.v (Want.plain rfl) rfl rfl (PV.pick rfl rfl rfl) ?_
        refine TL.nil ?_
        refine TE.next hK10 ?_
        clear hK10
        refine TC.no rfl ?_
        refine TC.skip ?_
        refine TE.next hK9 ?_
        clear hK9
        refine TC.seq (fun K11 hK11 => ?_)
        refine TC.region ?_
        refine TL.v (Want.plain rfl) rfl rfl (PV.fieldAddr (r := 0) rfl Try.underlying48 rfl sz3 rfl rfl) ?_
        refine TL.v (Want.plain rfl) rfl rfl (PV.load1 (v := (.int .i64 (e))) rfl Try.underlying3 rfl rfl (Rd.own 6 rfl rfl) rfl) ?_
        refine TL.v (Want.plain rfl) rfl rfl (PV.and (r := (e % 1024)) rfl rfl rfl (and10 _)) ?_
        refine TL.v (Want.plain rfl) rfl rfl (PV.fieldAddr (r := 1) rfl Try.underlying48 rfl sz3 rfl rfl) ?_
        refine TL.v (Want.plain rfl) rfl rfl (PV.load1 (v := (.int .i64 (m))) rfl Try.underlying3 rfl rfl (Rd.own 6 rfl rfl) rfl) ?_
        refine TL.v (Want.plain rfl) rfl rfl (PV.and (r := (m % 32)) rfl rfl rfl (and5 _)) ?_
        refine TL.v (Want.plain rfl) rfl rfl (PV.fieldAddr (r := 0) rfl Try.underlying48 rfl sz3 rfl rfl) ?_
        refine TL.store1 (i := 6) (H' := [blkA b4 [(.int .i64 ((l % 1024)))] 3, blkA b8 [(.int .i64 ((n % 1024)))] 3, blkA b7 [u1] 33, ownB u1 (encs [(n % 1024)]) 5, ownB y1 (encs [(n % 1024)]) 5, blkA b24 [(.int .i64 ((n % 1024)))] 3, blkA b5 [(.int .i64 ((e % 1024))), (.int .i64 (m)), (.int .i64 (h0)), (.int .i64 (h1)), (.int .i64 (h2)), (.int .i64 (h3)), (.int .i64 (h4))] 48]) (Want.plain rfl) rfl rfl rfl rfl rfl sz3 rfl rfl (lb rfl) rfl rfl ?_
        refine TL.v (Want.plain rfl) rfl rfl (PV.fieldAddr (r := 1) rfl Try.underlying48 rfl sz3 rfl rfl) ?_
        refine TL.store1 (i := 6) (H' := [blkA b4 [(.int .i64 ((l % 1024)))] 3, blkA b8 [(.int .i64 ((n % 1024)))] 3, blkA b7 [u1] 33, ownB u1 (encs [(n % 1024)]) 5, ownB y1 (encs [(n % 1024)]) 5, blkA b24 [(.int .i64 ((n % 1024)))] 3, blkA b5 [(.int .i64 ((e % 1024))), (.int .i64 ((m % 32))), (.int .i64 (h0)), (.int .i64 (h1)), (.int .i64 (h2)), (.int .i64 (h3)), (.int .i64 (h4))] 48]) (Want.plain rfl) rfl rfl rfl rfl rfl sz3 rfl rfl (lb rfl) rfl rfl ?_
        refine TL.nil ?_
        refine TE.next hK11 ?_
        clear hK11
        refine TC.seq (fun K12 hK12 => ?_)
        refine TC.seq (fun K13 hK13 => ?_)
        refine TC.region ?_
        refine TL.v (Want.plain rfl) rfl rfl (PV.move rfl rfl) ?_
        refine TL.nil ?_
        refine TE.next hK13 ?_
        clear hK13
        refine TC.block ?_
        refine TC.unroll 5 ?_
        refine TC.seq (fun K14 hK14 => ?_)
        refine TC.region ?_
        refine TL.v (Want.plain rfl) rfl rfl (PV.lss rfl rfl rfl) ?_
        refine TL.nil ?_
        refine TE.next hK14 ?_
        clear hK14
        refine TC.seq (fun K15 hK15 => ?_)
        refine TC.yes rfl ?_
        refine TC.skip ?_
        refine TE.next hK15 ?_
        clear hK15
        refine TC.seq (fun K16 hK16 => ?_)
        refine TC.block ?_
        refine TC.seq (fun K17 hK17 => ?_)
        refine TC.region ?_
        refine TL.v (Want.plain rfl) rfl rfl (PV.move rfl rfl) ?_
        refine TL.v (Want.plain rfl) rfl rfl (PV.assign rfl rfl) ?_
        refine TL.nil ?_
        refine TE.next hK17 ?_
        clear hK17
        refine TC.region ?_
        refine TL.v (Want.plain rfl) rfl rfl (PV.move rfl rfl) ?_
        refine TL.v (Want.plain rfl) rfl rfl (PV.move rfl rfl) ?_
        refine TL.v (Want.plain rfl) rfl rfl (PV.fieldAddr (r := 2) rfl Try.underlying48 rfl sz22 rfl rfl) ?_
        refine TL.v (Want.plain rfl) rfl rfl (PV.indexArr (r := 2) rfl Try.underlying22 sz3 rfl rfl (lz rfl) (lz rfl) rfl) ?_
        refine TL.v (Want.plain rfl) rfl rfl (PV.load1 (v := (.int .i64 (h0))) rfl Try.underlying3 rfl rfl (Rd.own 6 rfl rfl) rfl) ?_
        refine TL.v (Want.plain rfl) rfl rfl (PV.and (r := (h0 % 8)) rfl rfl rfl (and3 _)) ?_
        refine TL.v (Want.plain rfl) rfl rfl (PV.rem (r := (h0 % 8 % 6)) rfl rfl rfl (by decide) (rem6 _)) ?_
        refine TL.v (Want.plain rfl) rfl rfl (PV.fieldAddr (r := 2) rfl Try.underlying48 rfl sz22 rfl rfl) ?_
        refine TL.v (Want.plain rfl) rfl rfl (PV.indexArr (r := 2) rfl Try.underlying22 sz3 rfl rfl (lz rfl) (lz rfl) rfl) ?_
        refine TL.store1 (i := 6) (H' := [blkA b4 [(.int .i64 ((l % 1024)))] 3, blkA b8 [(.int .i64 ((n % 1024)))] 3, blkA b7 [u1] 33, ownB u1 (encs [(n % 1024)]) 5, ownB y1 (encs [(n % 1024)]) 5, blkA b24 [(.int .i64 ((n % 1024)))] 3, blkA b5 [(.int .i64 ((e % 1024))), (.int .i64 ((m % 32))), (.int .i64 ((h0 % 8 % 6))), (.int .i64 (h1)), (.int .i64 (h2)), (.int .i64 (h3)), (.int .i64 (h4))] 48]) (Want.plain rfl) rfl rfl rfl rfl rfl sz3 rfl rfl (lb rfl) rfl rfl ?_
        refine TL.nil ?_
        refine TE.blockEnd ?_
        refine TE.next hK16 ?_
        clear hK16
        refine TC.region ?_
        refine TL.v (Want.plain rfl) rfl rfl (PV.add (r := 1) rfl rfl rfl (by decide)) ?_
        refine TL.v (Want.plain rfl) rfl rfl (PV.move rfl rfl) ?_
        refine TL.nil ?_
        refine TE.again ?_
        refine TC.seq (fun K18 hK18 => ?_)
        refine TC.region ?_
        refine TL.v (Want.plain rfl) rfl rfl (PV.lss rfl rfl rfl) ?_
        refine TL.nil ?_
        refine TE.next hK18 ?_
        clear hK18
        refine TC.seq (fun K19 hK19 => ?_)
        refine TC.yes rfl ?_
        refine TC.skip ?_
        refine TE.next hK19 ?_
        clear hK19
        refine TC.seq (fun K20 hK20 => ?_)
        refine TC.block ?_
        refine TC.seq (fun K21 hK21 => ?_)
        refine TC.region ?_
        refine TL.v (Want.plain rfl) rfl rfl (PV.move rfl rfl) ?_
        refine TL.v (Want.plain rfl) rfl rfl (PV.assign rfl rfl) ?_
        refine TL.nil ?_
        refine TE.next hK21 ?_
        clear hK21
        refine TC.region ?_
        refine TL.v (Want.plain rfl) rfl rfl (PV.move rfl rfl) ?_
        refine TL.v (Want.plain rfl) rfl rfl (PV.move rfl rfl) ?_
        refine TL.v (Want.plain rfl) rfl rfl (PV.fieldAddr (r := 2) rfl Try.underlying48 rfl sz22 rfl rfl) ?_
        refine TL.v (Want.plain rfl) rfl rfl (PV.indexArr (r := 3) rfl Try.underlying22 sz3 rfl rfl (lz rfl) (lz rfl) rfl) ?_
        refine TL.v (Want.plain rfl) rfl rfl (PV.load1 (v := (.int .i64 (h1))) rfl Try.underlying3 rfl rfl (Rd.own 6 rfl rfl) rfl) ?_
        refine TL.v (Want.plain rfl) rfl rfl (PV.and (r := (h1 % 8)) rfl rfl rfl (and3 _)) ?_
        refine TL.v (Want.plain rfl) rfl rfl (PV.rem (r := (h1 % 8 % 6)) rfl rfl rfl (by decide) (rem6 _)) ?_
        refine TL.v (Want.plain rfl) rfl rfl (PV.fieldAddr (r := 2) rfl Try.underlying48 rfl sz22 rfl rfl) ?_
        refine TL.v (Want.plain rfl) rfl rfl (PV.indexArr (r := 3) rfl Try.underlying22 sz3 rfl rfl (lz rfl) (lz rfl) rfl) ?_
        refine TL.store1 (i := 6) (H' := [blkA b4 [(.int .i64 ((l % 1024)))] 3, blkA b8 [(.int .i64 ((n % 1024)))] 3, blkA b7 [u1] 33, ownB u1 (encs [(n % 1024)]) 5, ownB y1 (encs [(n % 1024)]) 5, blkA b24 [(.int .i64 ((n % 1024)))] 3, blkA b5 [(.int .i64 ((e % 1024))), (.int .i64 ((m % 32))), (.int .i64 ((h0 % 8 % 6))), (.int .i64 ((h1 % 8 % 6))), (.int .i64 (h2)), (.int .i64 (h3)), (.int .i64 (h4))] 48]) (Want.plain rfl) rfl rfl rfl rfl rfl sz3 rfl rfl (lb rfl) rfl rfl ?_
        refine TL.nil ?_
        refine TE.blockEnd ?_
        refine TE.next hK20 ?_
        clear hK20
        refine TC.region ?_
        refine TL.v (Want.plain rfl) rfl rfl (PV.add (r := 2) rfl rfl rfl (by decide)) ?_
        refine TL.v (Want.plain rfl) rfl rfl (PV.move rfl rfl) ?_
        refine TL.nil ?_
        refine TE.again ?_
        refine TC.seq (fun K22 hK22 => ?_)
        refine TC.region ?_
        refine TL.v (Want.plain rfl) rfl rfl (PV.lss rfl rfl rfl) ?_
        refine TL.nil ?_
        refine TE.next hK22 ?_
        clear hK22
        refine TC.seq (fun K23 hK23 => ?_)
        refine TC.yes rfl ?_
        refine TC.skip ?_
        refine TE.next hK23 ?_
        clear hK23
        refine TC.seq (fun K24 hK24 => ?_)
        refine TC.block ?_
        refine TC.seq (fun K25 hK25 => ?_)
        refine TC.region ?_
        refine TL.v (Want.plain rfl) rfl rfl (PV.move rfl rfl) ?_
        refine TL.v (Want.plain rfl) rfl rfl (PV.assign rfl rfl) ?_
        refine TL.nil ?_
        refine TE.next hK25 ?_
        clear hK25
        refine TC.region ?_
        refine TL.v (Want.plain rfl) rfl rfl (PV.move rfl rfl) ?_
        refine TL.v (Want.plain rfl) rfl rfl (PV.move rfl rfl) ?_
        refine TL.v (Want.plain rfl) rfl rfl (PV.fieldAddr (r := 2) rfl Try.underlying48 rfl sz22 rfl rfl) ?_
        refine TL.v (Want.plain rfl) rfl rfl (PV.indexArr (r := 4) rfl Try.underlying22 sz3 rfl rfl (lz rfl) (lz rfl) rfl) ?_
        refine TL.v (Want.plain rfl) rfl rfl (PV.load1 (v := (.int .i64 (h2))) rfl Try.underlying3 rfl rfl (Rd.own 6 rfl rfl) rfl) ?_
        refine TL.v (Want.plain rfl) rfl rfl (PV.and (r := (h2 % 8)) rfl rfl rfl (and3 _)) ?_
        refine TL.v (Want.plain rfl) rfl rfl (PV.rem (r := (h2 % 8 % 6)) rfl rfl rfl (by decide) (rem6 _)) ?_
        refine TL.v (Want.plain rfl) rfl rfl (PV.fieldAddr (r := 2) rfl Try.underlying48 rfl sz22 rfl rfl) ?_
        refine TL.v (Want.plain rfl) rfl rfl (PV.indexArr (r := 4) rfl Try.underlying22 sz3 rfl rfl (lz rfl) (lz rfl) rfl) ?_
        refine TL.store1 (i := 6) (H' := [blkA b4 [(.int .i64 ((l % 1024)))] 3, blkA b8 [(.int .i64 ((n % 1024)))] 3, blkA b7 [u1] 33, ownB u1 (encs [(n % 1024)]) 5, ownB y1 (encs [(n % 1024)]) 5, blkA b24 [(.int .i64 ((n % 1024)))] 3, blkA b5 [(.int .i64 ((e % 1024))), (.int .i64 ((m % 32))), (.int .i64 ((h0 % 8 % 6))), (.int .i64 ((h1 % 8 % 6))), (.int .i64 ((h2 % 8 % 6))), (.int .i64 (h3)), (.int .i64 (h4))] 48]) (Want.plain rfl) rfl rfl rfl rfl rfl sz3 rfl rfl (lb rfl) rfl rfl ?_
        refine TL.nil ?_
        refine TE.blockEnd ?_
        refine TE.next hK24 ?_
        clear hK24
        refine TC.region ?_
        refine TL.v (Want.plain rfl) rfl rfl (PV.add (r := 3) rfl rfl rfl (by decide)) ?_
        refine TL.v (Want.plain rfl) rfl rfl (PV.move rfl rfl) ?_
        refine TL.nil ?_
        refine TE.again ?_
        refine TC.seq (fun K26 hK26 => ?_)
        refine TC.region ?_
        refine TL.v (Want.plain rfl) rfl rfl (PV.lss rfl rfl rfl) ?_
        refine TL.nil ?_
        refine TE.next hK26 ?_
        clear hK26
        refine TC.seq (fun K27 hK27 => ?_)
        refine TC.yes rfl ?_
        refine TC.skip ?_
        refine TE.next hK27 ?_
        clear hK27
        refine TC.seq (fun K28 hK28 => ?_)
        refine TC.block ?_
        refine TC.seq (fun K29 hK29 => ?_)
        refine TC.region ?_
        refine TL.v (Want.plain rfl) rfl rfl (PV.move rfl rfl) ?_
        refine TL.v (Want.plain rfl) rfl rfl (PV.assign rfl rfl) ?_
        refine TL.nil ?_
        refine TE.next hK29 ?_
        clear hK29
        refine TC.region ?_
        refine TL.v (Want.plain rfl) rfl rfl (PV.move rfl rfl) ?_
        refine TL.v (Want.plain rfl) rfl rfl (PV.move rfl rfl) ?_
        refine TL.v (Want.plain rfl) rfl rfl (PV.fieldAddr (r := 2) rfl Try.underlying48 rfl sz22 rfl rfl) ?_
        refine TL.v (Want.plain rfl) rfl rfl (PV.indexArr (r := 5) rfl Try.underlying22 sz3 rfl rfl (lz rfl) (lz rfl) rfl) ?_
        refine TL.v (Want.plain rfl) rfl rfl (PV.load1 (v := (.int .i64 (h3))) rfl Try.underlying3 rfl rfl (Rd.own 6 rfl rfl) rfl) ?_
        refine TL.v (Want.plain rfl) rfl rfl (PV.and (r := (h3 % 8)) rfl rfl rfl (and3 _)) ?_
        refine TL.v (Want.plain rfl) rfl rfl (PV.rem (r := (h3 % 8 % 6)) rfl rfl rfl (by decide) (rem6 _)) ?_
        refine TL.v (Want.plain rfl) rfl rfl (PV.fieldAddr (r := 2) rfl Try.underlying48 rfl sz22 rfl rfl) ?_
        refine TL.v (Want.plain rfl) rfl rfl (PV.indexArr (r := 5) rfl Try.underlying22 sz3 rfl rfl (lz rfl) (lz rfl) rfl) ?_
        refine TL.store1 (i := 6) (H' := [blkA b4 [(.int .i64 ((l % 1024)))] 3, blkA b8 [(.int .i64 ((n % 1024)))] 3, blkA b7 [u1] 33, ownB u1 (encs [(n % 1024)]) 5, ownB y1 (encs [(n % 1024)]) 5, blkA b24 [(.int .i64 ((n % 1024)))] 3, blkA b5 [(.int .i64 ((e % 1024))), (.int .i64 ((m % 32))), (.int .i64 ((h0 % 8 % 6))), (.int .i64 ((h1 % 8 % 6))), (.int .i64 ((h2 % 8 % 6))), (.int .i64 ((h3 % 8 % 6))), (.int .i64 (h4))] 48]) (Want.plain rfl) rfl rfl rfl rfl rfl sz3 rfl rfl (lb rfl) rfl rfl ?_
        refine TL.nil ?_
        refine TE.blockEnd ?_
        refine TE.next hK28 ?_
        clear hK28
        refine TC.region ?_
        refine TL.v (Want.plain rfl) rfl rfl (PV.add (r := 4) rfl rfl rfl (by decide)) ?_
        refine TL.v (Want.plain rfl) rfl rfl (PV.move rfl rfl) ?_
        refine TL.nil ?_
        refine TE.again ?_
        refine TC.seq (fun K30 hK30 => ?_)
        refine TC.region ?_
        refine TL.v (Want.plain rfl) rfl rfl (PV.lss rfl rfl rfl) ?_
        refine TL.nil ?_
        refine TE.next hK30 ?_
        clear hK30
        refine TC.seq (fun K31 hK31 => ?_)
        refine TC.yes rfl ?_
        refine TC.skip ?_
        refine TE.next hK31 ?_
        clear hK31
        refine TC.seq (fun K32 hK32 => ?_)
        refine TC.block ?_
        refine TC.seq (fun K33 hK33 => ?_)
        refine TC.region ?_
        refine TL.v (Want.plain rfl) rfl rfl (PV.move rfl rfl) ?_
        refine TL.v (Want.plain rfl) rfl rfl (PV.assign rfl rfl) ?_
        refine TL.nil ?_
        refine TE.next hK33 ?_
        clear hK33
        refine TC.region ?_
        refine TL.v (Want.plain rfl) rfl rfl (PV.move rfl rfl) ?_
        refine TL.v (Want.plain rfl) rfl rfl (PV.move rfl rfl) ?_
        refine TL.v (Want.plain rfl) rfl rfl (PV.fieldAddr (r := 2) rfl Try.underlying48 rfl sz22 rfl rfl) ?_
        refine TL.v (Want.plain rfl) rfl rfl (PV.indexArr (r := 6) rfl Try.underlying22 sz3 rfl rfl (lz rfl) (lz rfl) rfl) ?_
        refine TL.v (Want.plain rfl) rfl rfl (PV.load1 (v := (.int .i64 (h4))) rfl Try.underlying3 rfl rfl (Rd.own 6 rfl rfl) rfl) ?_
        refine TL.v (Want.plain rfl) rfl rfl (PV.and (r := (h4 % 8)) rfl rfl rfl (and3 _)) ?_
        refine TL.v (Want.plain rfl) rfl rfl (PV.rem (r := (h4 % 8 % 6)) rfl rfl rfl (by decide) (rem6 _)) ?_
        refine TL.v (Want.plain rfl) rfl rfl (PV.fieldAddr (r := 2) rfl Try.underlying48 rfl sz22 rfl rfl) ?_
        refine TL.v (Want.plain rfl) rfl rfl (PV.indexArr (r := 6) rfl Try.underlying22 sz3 rfl rfl (lz rfl) (lz rfl) rfl) ?_
        refine TL.store1 (i := 6) (H' := [blkA b4 [(.int .i64 ((l % 1024)))] 3, blkA b8 [(.int .i64 ((n % 1024)))] 3, blkA b7 [u1] 33, ownB u1 (encs [(n % 1024)]) 5, ownB y1 (encs [(n % 1024)]) 5, blkA b24 [(.int .i64 ((n % 1024)))] 3, blkA b5 [(.int .i64 ((e % 1024))), (.int .i64 ((m % 32))), (.int .i64 ((h0 % 8 % 6))), (.int .i64 ((h1 % 8 % 6))), (.int .i64 ((h2 % 8 % 6))), (.int .i64 ((h3 % 8 % 6))), (.int .i64 ((h4 % 8 % 6)))] 48]) (Want.plain rfl) rfl rfl rfl rfl rfl sz3 rfl rfl (lb rfl) rfl rfl ?_
        refine TL.nil ?_
        refine TE.blockEnd ?_
        refine TE.next hK32 ?_
        clear hK32
        refine TC.region ?_
        refine TL.v (Want.plain rfl) rfl rfl (PV.add (r := 5) rfl rfl rfl (by decide)) ?_
        refine TL.v (Want.plain rfl) rfl rfl (PV.move rfl rfl) ?_
        refine TL.nil ?_
        refine TE.again ?_
        refine TC.seq (fun K34 hK34 => ?_)
        refine TC.region ?_
        refine TL.v (Want.plain rfl) rfl rfl (PV.lss rfl rfl rfl) ?_
        refine TL.nil ?_
        refine TE.next hK34 ?_
        clear hK34
        refine TC.seq (fun K35 hK35 => ?_)
        refine TC.no rfl ?_
        refine TC.exit ?_
        refine TE.pass ?_
        clear hK35
        refine TE.pass ?_
        refine TE.hit ?_
        refine TE.next hK12 ?_
        clear hK12
        refine TC.seq (fun K36 hK36 => ?_)
        refine TC.draw (fun w => Frm F w ∧ w.heap[b4]? = some (.cells ([(.int .i64 ((l % 1024)))]).toArray 3 (0, 0)) ∧ True) mixed rfl (fun _ s => ⟨Frm.of s, s.block 0 (lb rfl) rfl, trivial⟩) ?_
        refine TD.take (i := 0) rfl (by kernel_rfl) (by kernel_rfl) (by kernel_rfl) (fun _ _ _ _ h => h) (Want.plain rfl) rfl rfl (PV.move rfl rfl) ?_
        refine TD.take (i := 1) rfl (by kernel_rfl) (by kernel_rfl) (by kernel_rfl) (fun _ _ _ _ h => h) (Want.plain rfl) rfl rfl (PV.and (r := (n % 1024 % 2)) rfl rfl rfl (and1 _)) ?_
        refine TD.take (i := 2) rfl (by kernel_rfl) (by kernel_rfl) (by kernel_rfl) (fun _ _ _ _ h => h) (Want.plain rfl) rfl rfl (PV.move rfl rfl) ?_
        refine TD.take (i := 3) rfl (by kernel_rfl) (by kernel_rfl) (by kernel_rfl) (fun _ _ _ _ h => h) (Want.plain rfl) rfl rfl (PV.shr (r := (n % 1024 / 2)) rfl rfl rfl (by decide) (shrI _ 1 (by decide))) ?_
        refine TD.take (i := 4) rfl (by kernel_rfl) (by kernel_rfl) (by kernel_rfl) (fun _ _ _ _ h => h) (Want.plain rfl) rfl rfl (PV.and (r := (n % 1024 / 2 % 4)) rfl rfl rfl (and2 _)) ?_
        refine TD.take (i := 5) rfl (by kernel_rfl) (by kernel_rfl) (by kernel_rfl) (fun _ _ _ _ h => h) (Want.plain rfl) rfl rfl (PV.move rfl rfl) ?_
        refine TD.take (i := 6) rfl (by kernel_rfl) (by kernel_rfl) (by kernel_rfl) (fun _ _ _ _ h => h) (Want.plain rfl) rfl rfl (PV.shr (r := (n % 1024 / 8)) rfl rfl rfl (by decide) (shrI _ 3 (by decide))) ?_
        refine TD.take (i := 7) rfl (by kernel_rfl) (by kernel_rfl) (by kernel_rfl) (fun _ _ _ _ h => h) (Want.plain rfl) rfl rfl (PV.and (r := (n % 1024 / 8 % 4)) rfl rfl rfl (and2 _)) ?_
        refine TD.take (i := 8) rfl (by kernel_rfl) (by kernel_rfl) (by kernel_rfl) (fun _ _ _ _ h => h) (Want.plain rfl) rfl rfl (PV.build (cells := #[(.int .i64 ((n % 1024 % 2))), (.int .i64 ((n % 1024 / 2 % 4))), (.int .i64 ((n % 1024 / 8 % 4)))]) rfl rfl (by as_aux_lemma => kernel_rfl)) ?_
        refine TD.take (i := 9) rfl (by kernel_rfl) (by kernel_rfl) (by kernel_rfl) (fun _ _ _ _ h => h) (Want.plain rfl) rfl rfl (PV.load1 (v := (.int .i64 ((l % 1024)))) rfl Try.underlying3 rfl rfl (Rd.right (Rd.left)) rfl) ?_
        refine TD.take (i := 10) rfl (by kernel_rfl) (by kernel_rfl) (by kernel_rfl) (fun _ _ _ _ h => h) (Want.plain rfl) rfl rfl (PV.move rfl rfl) ?_
        refine TD.take (i := 11) rfl (by kernel_rfl) (by kernel_rfl) (by kernel_rfl) (fun _ _ _ _ h => h) (Want.plain rfl) rfl rfl (PV.shr (r := (n % 1024 / 32)) rfl rfl rfl (by decide) (shrI _ 5 (by decide))) ?_
        refine TD.take (i := 12) rfl (by kernel_rfl) (by kernel_rfl) (by kernel_rfl) (fun _ _ _ _ h => h) (Want.plain rfl) rfl rfl (PV.and (r := (n % 1024 / 32 % 4)) rfl rfl rfl (and2 _)) ?_
        refine TD.take (i := 13) rfl (by kernel_rfl) (by kernel_rfl) (by kernel_rfl) (fun _ _ _ _ h => h) (Want.plain rfl) rfl rfl (PV.build (cells := #[(.int .i64 ((l % 1024))), (.int .i64 ((n % 1024 / 32 % 4)))]) rfl rfl (by as_aux_lemma => kernel_rfl)) ?_
        refine TD.all [14, 15] (by kernel_rfl) rfl ?_
        refine AllT.cons rfl ?_ ?_
        · skip
          refine TL.alloc (Want.plain rfl) rfl rfl rfl z52 (fun b11 => ?_)
          change TL _ _ _ _ _ _ _ _ _ [blkA b11 [(.int .i64 0), (.int .i64 0), (.int .i64 0)] 52, blkA b4 [(.int .i64 ((l % 1024)))] 3, blkA b8 [(.int .i64 ((n % 1024)))] 3, blkA b7 [u1] 33, ownB u1 (encs [(n % 1024)]) 5, ownB y1 (encs [(n % 1024)]) 5, blkA b24 [(.int .i64 ((n % 1024)))] 3, blkA b5 [(.int .i64 ((e % 1024))), (.int .i64 ((m % 32))), (.int .i64 ((h0 % 8 % 6))), (.int .i64 ((h1 % 8 % 6))), (.int .i64 ((h2 % 8 % 6))), (.int .i64 ((h3 % 8 % 6))), (.int .i64 ((h4 % 8 % 6)))] 48]
          refine TL.nil ?_
          refine TE.draw (fun _ s => ⟨Frm.of s, s.block 1 (lb rfl) rfl, trivial⟩) ?_
          refine TD.all [15] (by kernel_rfl) rfl ?_
          refine AllT.cons rfl ?_ ?_
          · skip
            refine TL.alloc (Want.plain rfl) rfl rfl rfl z54 (fun b12 => ?_)
            change TL _ _ _ _ _ _ _ _ _ [blkA b12 [(.int .i64 0), (.int .i64 0)] 54, blkA b11 [(.int .i64 0), (.int .i64 0), (.int .i64 0)] 52, blkA b4 [(.int .i64 ((l % 1024)))] 3, blkA b8 [(.int .i64 ((n % 1024)))] 3, blkA b7 [u1] 33, ownB u1 (encs [(n % 1024)]) 5, ownB y1 (encs [(n % 1024)]) 5, blkA b24 [(.int .i64 ((n % 1024)))] 3, blkA b5 [(.int .i64 ((e % 1024))), (.int .i64 ((m % 32))), (.int .i64 ((h0 % 8 % 6))), (.int .i64 ((h1 % 8 % 6))), (.int .i64 ((h2 % 8 % 6))), (.int .i64 ((h3 % 8 % 6))), (.int .i64 ((h4 % 8 % 6)))] 48]
            refine TL.nil ?_
            refine TE.draw (fun _ s => ⟨Frm.of s, s.block 2 (lb rfl) rfl, trivial⟩) ?_
            refine TD.all [16] (by kernel_rfl) rfl ?_
            refine AllT.cons rfl ?_ ?_
            · skip
              refine TL.store (vs := [(.int .i64 ((n % 1024 % 2))), (.int .i64 ((n % 1024 / 2 % 4))), (.int .i64 ((n % 1024 / 8 % 4)))]) (i := 1) (H' := [blkA b12 [(.int .i64 0), (.int .i64 0)] 54, blkA b11 [(.int .i64 ((n % 1024 % 2))), (.int .i64 ((n % 1024 / 2 % 4))), (.int .i64 ((n % 1024 / 8 % 4)))] 52, blkA b4 [(.int .i64 ((l % 1024)))] 3, blkA b8 [(.int .i64 ((n % 1024)))] 3, blkA b7 [u1] 33, ownB u1 (encs [(n % 1024)]) 5, ownB y1 (encs [(n % 1024)]) 5, blkA b24 [(.int .i64 ((n % 1024)))] 3, blkA b5 [(.int .i64 ((e % 1024))), (.int .i64 ((m % 32))), (.int .i64 ((h0 % 8 % 6))), (.int .i64 ((h1 % 8 % 6))), (.int .i64 ((h2 % 8 % 6))), (.int .i64 ((h3 % 8 % 6))), (.int .i64 ((h4 % 8 % 6)))] 48]) (Want.plain rfl) rfl rfl rfl rfl rfl sz52 (by simp [Value.oneCell']) rfl rfl (lbe rfl) rfl rfl ?_
              refine TL.nil ?_
              refine TE.draw (fun _ s => ⟨Frm.of s, s.block 2 (lb rfl) rfl, trivial⟩) ?_
              refine TD.all [17] (by kernel_rfl) rfl ?_
              refine AllT.cons rfl ?_ ?_
              · skip
                refine TL.store (vs := [(.int .i64 ((l % 1024))), (.int .i64 ((n % 1024 / 32 % 4)))]) (i := 0) (H' := [blkA b12 [(.int .i64 ((l % 1024))), (.int .i64 ((n % 1024 / 32 % 4)))] 54, blkA b11 [(.int .i64 ((n % 1024 % 2))), (.int .i64 ((n % 1024 / 2 % 4))), (.int .i64 ((n % 1024 / 8 % 4)))] 52, blkA b4 [(.int .i64 ((l % 1024)))] 3, blkA b8 [(.int .i64 ((n % 1024)))] 3, blkA b7 [u1] 33, ownB u1 (encs [(n % 1024)]) 5, ownB y1 (encs [(n % 1024)]) 5, blkA b24 [(.int .i64 ((n % 1024)))] 3, blkA b5 [(.int .i64 ((e % 1024))), (.int .i64 ((m % 32))), (.int .i64 ((h0 % 8 % 6))), (.int .i64 ((h1 % 8 % 6))), (.int .i64 ((h2 % 8 % 6))), (.int .i64 ((h3 % 8 % 6))), (.int .i64 ((h4 % 8 % 6)))] 48]) (Want.plain rfl) rfl rfl rfl rfl rfl sz54 (by simp [Value.oneCell']) rfl rfl (lbe rfl) rfl rfl ?_
                refine TL.nil ?_
                refine TE.draw (fun _ s => ⟨Frm.of s, s.block 2 (lb rfl) rfl, trivial⟩) ?_
                refine TD.done (by kernel_rfl) ?_
                refine TE.next hK36 ?_
                clear hK36
                refine TC.seq (fun K37 hK37 => ?_)
                refine TC.region ?_
                refine TL.alloc (Want.plain rfl) rfl rfl rfl z33 (fun b13 => ?_)
                change TL _ _ _ _ _ _ _ _ _ [blkA b13 [(.slice none 0 0)] 33, blkA b12 [(.int .i64 ((l % 1024))), (.int .i64 ((n % 1024 / 32 % 4)))] 54, blkA b11 [(.int .i64 ((n % 1024 % 2))), (.int .i64 ((n % 1024 / 2 % 4))), (.int .i64 ((n % 1024 / 8 % 4)))] 52, blkA b4 [(.int .i64 ((l % 1024)))] 3, blkA b8 [(.int .i64 ((n % 1024)))] 3, blkA b7 [u1] 33, ownB u1 (encs [(n % 1024)]) 5, ownB y1 (encs [(n % 1024)]) 5, blkA b24 [(.int .i64 ((n % 1024)))] 3, blkA b5 [(.int .i64 ((e % 1024))), (.int .i64 ((m % 32))), (.int .i64 ((h0 % 8 % 6))), (.int .i64 ((h1 % 8 % 6))), (.int .i64 ((h2 % 8 % 6))), (.int .i64 ((h3 % 8 % 6))), (.int .i64 ((h4 % 8 % 6)))] 48]
                refine TL.ownNil 5 (fun on => ?_)
                clear on
                refine TL.nil ?_
                refine TE.next hK37 ?_
                clear hK37
                refine TC.seq (fun K38 hK38 => ?_)
                refine TC.draw (fun w => Frm F w ∧ w.heap[b5]? = some (.cells ([(.int .i64 ((e % 1024))), (.int .i64 ((m % 32))), (.int .i64 ((h0 % 8 % 6))), (.int .i64 ((h1 % 8 % 6))), (.int .i64 ((h2 % 8 % 6))), (.int .i64 ((h3 % 8 % 6))), (.int .i64 ((h4 % 8 % 6)))]).toArray 48 (0, 0)) ∧ w.heap[b11]? = some (.cells ([(.int .i64 ((n % 1024 % 2))), (.int .i64 ((n % 1024 / 2 % 4))), (.int .i64 ((n % 1024 / 8 % 4)))]).toArray 52 (0, 0)) ∧ w.heap[b12]? = some (.cells ([(.int .i64 ((l % 1024))), (.int .i64 ((n % 1024 / 32 % 4)))]).toArray 54 (0, 0)) ∧ True) mixed rfl (fun _ s => ⟨Frm.of s, s.block 10 (lb rfl) rfl, s.block 3 (lb rfl) rfl, s.block 2 (lb rfl) rfl, trivial⟩) ?_
                refine TD.take (i := 0) rfl (by kernel_rfl) (by kernel_rfl) (by kernel_rfl) (fun _ _ _ _ h => h) (Want.plain rfl) rfl rfl (PV.loadN (vs := [(.int .i64 ((e % 1024))), (.int .i64 ((m % 32))), (.int .i64 ((h0 % 8 % 6))), (.int .i64 ((h1 % 8 % 6))), (.int .i64 ((h2 % 8 % 6))), (.int .i64 ((h3 % 8 % 6))), (.int .i64 ((h4 % 8 % 6)))]) rfl Try.underlying48 rfl sz48 rfl (Rd.right (Rd.left)) rfl rfl) ?_
                refine TD.take (i := 2) rfl (by kernel_rfl) (by kernel_rfl) (by kernel_rfl) (fun _ _ _ _ h => h) (Want.plain rfl) rfl rfl (PV.loadN (vs := [(.int .i64 ((n % 1024 % 2))), (.int .i64 ((n % 1024 / 2 % 4))), (.int .i64 ((n % 1024 / 8 % 4)))]) rfl Try.underlying52 rfl sz52 rfl (Rd.right (Rd.right (Rd.left))) rfl rfl) ?_
                refine TD.take (i := 4) rfl (by kernel_rfl) (by kernel_rfl) (by kernel_rfl) (fun _ _ _ _ h => h) (Want.plain rfl) rfl rfl (PV.loadN (vs := [(.int .i64 ((l % 1024))), (.int .i64 ((n % 1024 / 32 % 4)))]) rfl Try.underlying54 rfl sz54 rfl (Rd.right (Rd.right (Rd.right (Rd.left)))) rfl rfl) ?_
                refine TD.all [1] (by kernel_rfl) rfl ?_
                refine AllT.cons rfl ?_ ?_
                · skip
                  refine TL.callR (A := [blkA b13 [(.slice none 0 0)] 33, ownB (.slice none 0 0) ([]) 5]) (B := [blkA b12 [(.int .i64 ((l % 1024))), (.int .i64 ((n % 1024 / 32 % 4)))] 54, blkA b11 [(.int .i64 ((n % 1024 % 2))), (.int .i64 ((n % 1024 / 2 % 4))), (.int .i64 ((n % 1024 / 8 % 4)))] 52, blkA b4 [(.int .i64 ((l % 1024)))] 3, blkA b8 [(.int .i64 ((n % 1024)))] 3, blkA b7 [u1] 33, ownB u1 (encs [(n % 1024)]) 5, ownB y1 (encs [(n % 1024)]) 5, blkA b24 [(.int .i64 ((n % 1024)))] 3, blkA b5 [(.int .i64 ((e % 1024))), (.int .i64 ((m % 32))), (.int .i64 ((h0 % 8 % 6))), (.int .i64 ((h1 % 8 % 6))), (.int .i64 ((h2 % 8 % 6))), (.int .i64 ((h3 % 8 % 6))), (.int .i64 ((h4 % 8 % 6)))] 48]) (Want.plain rfl) rfl rfl rfl nm21 rfl (wview_does b13 (.slice none 0 0) ([]) (⟨e % 1024, m % 32, #v[h0 % 8 % 6, h1 % 8 % 6, h2 % 8 % 6, h3 % 8 % 6, h4 % 8 % 6]⟩ : ViewT) (by have q1 := encs_len [n % 1024]; have q2 := encs_len (⟨e % 1024, m % 32, #v[h0 % 8 % 6, h1 % 8 % 6, h2 % 8 % 6, h3 % 8 % 6, h4 % 8 % 6]⟩ : ViewT).flat; have q3 := encs_len (⟨n % 1024 % 2, n % 1024 / 2 % 4, n % 1024 / 8 % 4⟩ : ChangeT).flat; have q4 := encs_len (⟨l % 1024, n % 1024 / 32 % 4⟩ : BallotT).flat; simp only [List.length_append, List.length_cons, List.length_nil, ViewT.flat, ChangeT.flat, BallotT.flat, Vector.toList_mk] at *; omega)) (fun _ s => sep_selR [1, 0] rfl s) (fun _ _ _ => trivial) (fun vR HR hR => ?_)
                  obtain ⟨u2, rfl, rfl⟩ := hR
                  change TL _ _ _ _ _ _ _ _ _ [blkA b13 [u2] 33, ownB u2 (encs (⟨e % 1024, m % 32, #v[h0 % 8 % 6, h1 % 8 % 6, h2 % 8 % 6, h3 % 8 % 6, h4 % 8 % 6]⟩ : ViewT).flat) 5, blkA b12 [(.int .i64 ((l % 1024))), (.int .i64 ((n % 1024 / 32 % 4)))] 54, blkA b11 [(.int .i64 ((n % 1024 % 2))), (.int .i64 ((n % 1024 / 2 % 4))), (.int .i64 ((n % 1024 / 8 % 4)))] 52, blkA b4 [(.int .i64 ((l % 1024)))] 3, blkA b8 [(.int .i64 ((n % 1024)))] 3, blkA b7 [u1] 33, ownB u1 (encs [(n % 1024)]) 5, ownB y1 (encs [(n % 1024)]) 5, blkA b24 [(.int .i64 ((n % 1024)))] 3, blkA b5 [(.int .i64 ((e % 1024))), (.int .i64 ((m % 32))), (.int .i64 ((h0 % 8 % 6))), (.int .i64 ((h1 % 8 % 6))), (.int .i64 ((h2 % 8 % 6))), (.int .i64 ((h3 % 8 % 6))), (.int .i64 ((h4 % 8 % 6)))] 48]
                  refine TL.nil ?_
                  refine TE.draw (fun _ s => ⟨Frm.of s, s.block 10 (lb rfl) rfl, s.block 3 (lb rfl) rfl, s.block 2 (lb rfl) rfl, trivial⟩) ?_
                  refine TD.all [3] (by kernel_rfl) rfl ?_
                  refine AllT.cons rfl ?_ ?_
                  · skip
                    refine TL.callR (A := [blkA b13 [u2] 33, ownB u2 (encs (⟨e % 1024, m % 32, #v[h0 % 8 % 6, h1 % 8 % 6, h2 % 8 % 6, h3 % 8 % 6, h4 % 8 % 6]⟩ : ViewT).flat) 5]) (B := [blkA b12 [(.int .i64 ((l % 1024))), (.int .i64 ((n % 1024 / 32 % 4)))] 54, blkA b11 [(.int .i64 ((n % 1024 % 2))), (.int .i64 ((n % 1024 / 2 % 4))), (.int .i64 ((n % 1024 / 8 % 4)))] 52, blkA b4 [(.int .i64 ((l % 1024)))] 3, blkA b8 [(.int .i64 ((n % 1024)))] 3, blkA b7 [u1] 33, ownB u1 (encs [(n % 1024)]) 5, ownB y1 (encs [(n % 1024)]) 5, blkA b24 [(.int .i64 ((n % 1024)))] 3, blkA b5 [(.int .i64 ((e % 1024))), (.int .i64 ((m % 32))), (.int .i64 ((h0 % 8 % 6))), (.int .i64 ((h1 % 8 % 6))), (.int .i64 ((h2 % 8 % 6))), (.int .i64 ((h3 % 8 % 6))), (.int .i64 ((h4 % 8 % 6)))] 48]) (Want.plain rfl) rfl rfl rfl nm22 rfl (wchange_does b13 u2 (encs (⟨e % 1024, m % 32, #v[h0 % 8 % 6, h1 % 8 % 6, h2 % 8 % 6, h3 % 8 % 6, h4 % 8 % 6]⟩ : ViewT).flat) (⟨n % 1024 % 2, n % 1024 / 2 % 4, n % 1024 / 8 % 4⟩ : ChangeT) (by have q1 := encs_len [n % 1024]; have q2 := encs_len (⟨e % 1024, m % 32, #v[h0 % 8 % 6, h1 % 8 % 6, h2 % 8 % 6, h3 % 8 % 6, h4 % 8 % 6]⟩ : ViewT).flat; have q3 := encs_len (⟨n % 1024 % 2, n % 1024 / 2 % 4, n % 1024 / 8 % 4⟩ : ChangeT).flat; have q4 := encs_len (⟨l % 1024, n % 1024 / 32 % 4⟩ : BallotT).flat; simp only [List.length_append, List.length_cons, List.length_nil, ViewT.flat, ChangeT.flat, BallotT.flat, Vector.toList_mk] at *; omega)) (fun _ s => s) (fun _ _ _ => trivial) (fun vR HR hR => ?_)
                    obtain ⟨u3, rfl, rfl⟩ := hR
                    change TL _ _ _ _ _ _ _ _ _ [blkA b13 [u3] 33, ownB u3 (encs (⟨e % 1024, m % 32, #v[h0 % 8 % 6, h1 % 8 % 6, h2 % 8 % 6, h3 % 8 % 6, h4 % 8 % 6]⟩ : ViewT).flat ++ encs (⟨n % 1024 % 2, n % 1024 / 2 % 4, n % 1024 / 8 % 4⟩ : ChangeT).flat) 5, blkA b12 [(.int .i64 ((l % 1024))), (.int .i64 ((n % 1024 / 32 % 4)))] 54, blkA b11 [(.int .i64 ((n % 1024 % 2))), (.int .i64 ((n % 1024 / 2 % 4))), (.int .i64 ((n % 1024 / 8 % 4)))] 52, blkA b4 [(.int .i64 ((l % 1024)))] 3, blkA b8 [(.int .i64 ((n % 1024)))] 3, blkA b7 [u1] 33, ownB u1 (encs [(n % 1024)]) 5, ownB y1 (encs [(n % 1024)]) 5, blkA b24 [(.int .i64 ((n % 1024)))] 3, blkA b5 [(.int .i64 ((e % 1024))), (.int .i64 ((m % 32))), (.int .i64 ((h0 % 8 % 6))), (.int .i64 ((h1 % 8 % 6))), (.int .i64 ((h2 % 8 % 6))), (.int .i64 ((h3 % 8 % 6))), (.int .i64 ((h4 % 8 % 6)))] 48]
                    refine TL.nil ?_
                    refine TE.draw (fun _ s => ⟨Frm.of s, s.block 10 (lb rfl) rfl, s.block 3 (lb rfl) rfl, s.block 2 (lb rfl) rfl, trivial⟩) ?_
                    refine TD.all [5] (by kernel_rfl) rfl ?_
                    refine AllT.cons rfl ?_ ?_
                    · skip
                      refine TL.callR (A := [blkA b13 [u3] 33, ownB u3 (encs (⟨e % 1024, m % 32, #v[h0 % 8 % 6, h1 % 8 % 6, h2 % 8 % 6, h3 % 8 % 6, h4 % 8 % 6]⟩ : ViewT).flat ++ encs (⟨n % 1024 % 2, n % 1024 / 2 % 4, n % 1024 / 8 % 4⟩ : ChangeT).flat) 5]) (B := [blkA b12 [(.int .i64 ((l % 1024))), (.int .i64 ((n % 1024 / 32 % 4)))] 54, blkA b11 [(.int .i64 ((n % 1024 % 2))), (.int .i64 ((n % 1024 / 2 % 4))), (.int .i64 ((n % 1024 / 8 % 4)))] 52, blkA b4 [(.int .i64 ((l % 1024)))] 3, blkA b8 [(.int .i64 ((n % 1024)))] 3, blkA b7 [u1] 33, ownB u1 (encs [(n % 1024)]) 5, ownB y1 (encs [(n % 1024)]) 5, blkA b24 [(.int .i64 ((n % 1024)))] 3, blkA b5 [(.int .i64 ((e % 1024))), (.int .i64 ((m % 32))), (.int .i64 ((h0 % 8 % 6))), (.int .i64 ((h1 % 8 % 6))), (.int .i64 ((h2 % 8 % 6))), (.int .i64 ((h3 % 8 % 6))), (.int .i64 ((h4 % 8 % 6)))] 48]) (Want.plain rfl) rfl rfl rfl nm23 rfl (wballot_does b13 u3 (encs (⟨e % 1024, m % 32, #v[h0 % 8 % 6, h1 % 8 % 6, h2 % 8 % 6, h3 % 8 % 6, h4 % 8 % 6]⟩ : ViewT).flat ++ encs (⟨n % 1024 % 2, n % 1024 / 2 % 4, n % 1024 / 8 % 4⟩ : ChangeT).flat) (⟨l % 1024, n % 1024 / 32 % 4⟩ : BallotT) (by have q1 := encs_len [n % 1024]; have q2 := encs_len (⟨e % 1024, m % 32, #v[h0 % 8 % 6, h1 % 8 % 6, h2 % 8 % 6, h3 % 8 % 6, h4 % 8 % 6]⟩ : ViewT).flat; have q3 := encs_len (⟨n % 1024 % 2, n % 1024 / 2 % 4, n % 1024 / 8 % 4⟩ : ChangeT).flat; have q4 := encs_len (⟨l % 1024, n % 1024 / 32 % 4⟩ : BallotT).flat; simp only [List.length_append, List.length_cons, List.length_nil, ViewT.flat, ChangeT.flat, BallotT.flat, Vector.toList_mk] at *; omega)) (fun _ s => s) (fun _ _ _ => trivial) (fun vR HR hR => ?_)
                      obtain ⟨u4, rfl, rfl⟩ := hR
                      change TL _ _ _ _ _ _ _ _ _ [blkA b13 [u4] 33, ownB u4 (encs (⟨e % 1024, m % 32, #v[h0 % 8 % 6, h1 % 8 % 6, h2 % 8 % 6, h3 % 8 % 6, h4 % 8 % 6]⟩ : ViewT).flat ++ encs (⟨n % 1024 % 2, n % 1024 / 2 % 4, n % 1024 / 8 % 4⟩ : ChangeT).flat ++ encs (⟨l % 1024, n % 1024 / 32 % 4⟩ : BallotT).flat) 5, blkA b12 [(.int .i64 ((l % 1024))), (.int .i64 ((n % 1024 / 32 % 4)))] 54, blkA b11 [(.int .i64 ((n % 1024 % 2))), (.int .i64 ((n % 1024 / 2 % 4))), (.int .i64 ((n % 1024 / 8 % 4)))] 52, blkA b4 [(.int .i64 ((l % 1024)))] 3, blkA b8 [(.int .i64 ((n % 1024)))] 3, blkA b7 [u1] 33, ownB u1 (encs [(n % 1024)]) 5, ownB y1 (encs [(n % 1024)]) 5, blkA b24 [(.int .i64 ((n % 1024)))] 3, blkA b5 [(.int .i64 ((e % 1024))), (.int .i64 ((m % 32))), (.int .i64 ((h0 % 8 % 6))), (.int .i64 ((h1 % 8 % 6))), (.int .i64 ((h2 % 8 % 6))), (.int .i64 ((h3 % 8 % 6))), (.int .i64 ((h4 % 8 % 6)))] 48]
                      refine TL.nil ?_
                      refine TE.draw (fun _ s => ⟨Frm.of s, s.block 10 (lb rfl) rfl, s.block 3 (lb rfl) rfl, s.block 2 (lb rfl) rfl, trivial⟩) ?_
                      refine TD.done (by kernel_rfl) ?_
                      refine TE.next hK38 ?_
                      clear hK38
                      refine TC.seq (fun K39 hK39 => ?_)
                      refine TC.region ?_
                      refine TL.alloc (Want.plain rfl) rfl rfl rfl z48 (fun b14 => ?_)
                      change TL _ _ _ _ _ _ _ _ _ [blkA b14 [(.int .i64 0), (.int .i64 0), (.int .i64 0), (.int .i64 0), (.int .i64 0), (.int .i64 0), (.int .i64 0)] 48, blkA b13 [u4] 33, ownB u4 (encs (⟨e % 1024, m % 32, #v[h0 % 8 % 6, h1 % 8 % 6, h2 % 8 % 6, h3 % 8 % 6, h4 % 8 % 6]⟩ : ViewT).flat ++ encs (⟨n % 1024 % 2, n % 1024 / 2 % 4, n % 1024 / 8 % 4⟩ : ChangeT).flat ++ encs (⟨l % 1024, n % 1024 / 32 % 4⟩ : BallotT).flat) 5, blkA b12 [(.int .i64 ((l % 1024))), (.int .i64 ((n % 1024 / 32 % 4)))] 54, blkA b11 [(.int .i64 ((n % 1024 % 2))), (.int .i64 ((n % 1024 / 2 % 4))), (.int .i64 ((n % 1024 / 8 % 4)))] 52, blkA b4 [(.int .i64 ((l % 1024)))] 3, blkA b8 [(.int .i64 ((n % 1024)))] 3, blkA b7 [u1] 33, ownB u1 (encs [(n % 1024)]) 5, ownB y1 (encs [(n % 1024)]) 5, blkA b24 [(.int .i64 ((n % 1024)))] 3, blkA b5 [(.int .i64 ((e % 1024))), (.int .i64 ((m % 32))), (.int .i64 ((h0 % 8 % 6))), (.int .i64 ((h1 % 8 % 6))), (.int .i64 ((h2 % 8 % 6))), (.int .i64 ((h3 % 8 % 6))), (.int .i64 ((h4 % 8 % 6)))] 48]
                      refine TL.nil ?_
                      refine TE.next hK39 ?_
                      clear hK39
                      refine TC.seq (fun K40 hK40 => ?_)
                      refine TC.region ?_
                      refine TL.alloc (Want.plain rfl) rfl rfl rfl z52 (fun b15 => ?_)
                      change TL _ _ _ _ _ _ _ _ _ [blkA b15 [(.int .i64 0), (.int .i64 0), (.int .i64 0)] 52, blkA b14 [(.int .i64 0), (.int .i64 0), (.int .i64 0), (.int .i64 0), (.int .i64 0), (.int .i64 0), (.int .i64 0)] 48, blkA b13 [u4] 33, ownB u4 (encs (⟨e % 1024, m % 32, #v[h0 % 8 % 6, h1 % 8 % 6, h2 % 8 % 6, h3 % 8 % 6, h4 % 8 % 6]⟩ : ViewT).flat ++ encs (⟨n % 1024 % 2, n % 1024 / 2 % 4, n % 1024 / 8 % 4⟩ : ChangeT).flat ++ encs (⟨l % 1024, n % 1024 / 32 % 4⟩ : BallotT).flat) 5, blkA b12 [(.int .i64 ((l % 1024))), (.int .i64 ((n % 1024 / 32 % 4)))] 54, blkA b11 [(.int .i64 ((n % 1024 % 2))), (.int .i64 ((n % 1024 / 2 % 4))), (.int .i64 ((n % 1024 / 8 % 4)))] 52, blkA b4 [(.int .i64 ((l % 1024)))] 3, blkA b8 [(.int .i64 ((n % 1024)))] 3, blkA b7 [u1] 33, ownB u1 (encs [(n % 1024)]) 5, ownB y1 (encs [(n % 1024)]) 5, blkA b24 [(.int .i64 ((n % 1024)))] 3, blkA b5 [(.int .i64 ((e % 1024))), (.int .i64 ((m % 32))), (.int .i64 ((h0 % 8 % 6))), (.int .i64 ((h1 % 8 % 6))), (.int .i64 ((h2 % 8 % 6))), (.int .i64 ((h3 % 8 % 6))), (.int .i64 ((h4 % 8 % 6)))] 48]
                      refine TL.nil ?_
                      refine TE.next hK40 ?_
                      clear hK40
                      refine TC.seq (fun K41 hK41 => ?_)
                      refine TC.region ?_
                      refine TL.alloc (Want.plain rfl) rfl rfl rfl z54 (fun b16 => ?_)
                      change TL _ _ _ _ _ _ _ _ _ [blkA b16 [(.int .i64 0), (.int .i64 0)] 54, blkA b15 [(.int .i64 0), (.int .i64 0), (.int .i64 0)] 52, blkA b14 [(.int .i64 0), (.int .i64 0), (.int .i64 0), (.int .i64 0), (.int .i64 0), (.int .i64 0), (.int .i64 0)] 48, blkA b13 [u4] 33, ownB u4 (encs (⟨e % 1024, m % 32, #v[h0 % 8 % 6, h1 % 8 % 6, h2 % 8 % 6, h3 % 8 % 6, h4 % 8 % 6]⟩ : ViewT).flat ++ encs (⟨n % 1024 % 2, n % 1024 / 2 % 4, n % 1024 / 8 % 4⟩ : ChangeT).flat ++ encs (⟨l % 1024, n % 1024 / 32 % 4⟩ : BallotT).flat) 5, blkA b12 [(.int .i64 ((l % 1024))), (.int .i64 ((n % 1024 / 32 % 4)))] 54, blkA b11 [(.int .i64 ((n % 1024 % 2))), (.int .i64 ((n % 1024 / 2 % 4))), (.int .i64 ((n % 1024 / 8 % 4)))] 52, blkA b4 [(.int .i64 ((l % 1024)))] 3, blkA b8 [(.int .i64 ((n % 1024)))] 3, blkA b7 [u1] 33, ownB u1 (encs [(n % 1024)]) 5, ownB y1 (encs [(n % 1024)]) 5, blkA b24 [(.int .i64 ((n % 1024)))] 3, blkA b5 [(.int .i64 ((e % 1024))), (.int .i64 ((m % 32))), (.int .i64 ((h0 % 8 % 6))), (.int .i64 ((h1 % 8 % 6))), (.int .i64 ((h2 % 8 % 6))), (.int .i64 ((h3 % 8 % 6))), (.int .i64 ((h4 % 8 % 6)))] 48]
                      refine TL.nil ?_
                      refine TE.next hK41 ?_
                      clear hK41
                      refine TC.seq (fun K42 hK42 => ?_)
                      refine TC.region ?_
                      refine TL.callR (A := [blkA b13 [u4] 33, ownB u4 (encs (⟨e % 1024, m % 32, #v[h0 % 8 % 6, h1 % 8 % 6, h2 % 8 % 6, h3 % 8 % 6, h4 % 8 % 6]⟩ : ViewT).flat ++ encs (⟨n % 1024 % 2, n % 1024 / 2 % 4, n % 1024 / 8 % 4⟩ : ChangeT).flat ++ encs (⟨l % 1024, n % 1024 / 32 % 4⟩ : BallotT).flat) 5]) (B := [blkA b16 [(.int .i64 0), (.int .i64 0)] 54, blkA b15 [(.int .i64 0), (.int .i64 0), (.int .i64 0)] 52, blkA b14 [(.int .i64 0), (.int .i64 0), (.int .i64 0), (.int .i64 0), (.int .i64 0), (.int .i64 0), (.int .i64 0)] 48, blkA b12 [(.int .i64 ((l % 1024))), (.int .i64 ((n % 1024 / 32 % 4)))] 54, blkA b11 [(.int .i64 ((n % 1024 % 2))), (.int .i64 ((n % 1024 / 2 % 4))), (.int .i64 ((n % 1024 / 8 % 4)))] 52, blkA b4 [(.int .i64 ((l % 1024)))] 3, blkA b8 [(.int .i64 ((n % 1024)))] 3, blkA b7 [u1] 33, ownB u1 (encs [(n % 1024)]) 5, ownB y1 (encs [(n % 1024)]) 5, blkA b24 [(.int .i64 ((n % 1024)))] 3, blkA b5 [(.int .i64 ((e % 1024))), (.int .i64 ((m % 32))), (.int .i64 ((h0 % 8 % 6))), (.int .i64 ((h1 % 8 % 6))), (.int .i64 ((h2 % 8 % 6))), (.int .i64 ((h3 % 8 % 6))), (.int .i64 ((h4 % 8 % 6)))] 48]) (Want.plain rfl) rfl rfl rfl nm12 rfl (wbytes_does b13 u4 (encs (⟨e % 1024, m % 32, #v[h0 % 8 % 6, h1 % 8 % 6, h2 % 8 % 6, h3 % 8 % 6, h4 % 8 % 6]⟩ : ViewT).flat ++ encs (⟨n % 1024 % 2, n % 1024 / 2 % 4, n % 1024 / 8 % 4⟩ : ChangeT).flat ++ encs (⟨l % 1024, n % 1024 / 32 % 4⟩ : BallotT).flat) (by have q1 := encs_len [n % 1024]; have q2 := encs_len (⟨e % 1024, m % 32, #v[h0 % 8 % 6, h1 % 8 % 6, h2 % 8 % 6, h3 % 8 % 6, h4 % 8 % 6]⟩ : ViewT).flat; have q3 := encs_len (⟨n % 1024 % 2, n % 1024 / 2 % 4, n % 1024 / 8 % 4⟩ : ChangeT).flat; have q4 := encs_len (⟨l % 1024, n % 1024 / 32 % 4⟩ : BallotT).flat; simp only [List.length_append, List.length_cons, List.length_nil, ViewT.flat, ChangeT.flat, BallotT.flat, Vector.toList_mk] at *; omega)) (fun _ s => sep_selR [3, 3] rfl s) (fun _ _ _ => trivial) (fun vR HR hR => ?_)
                      obtain ⟨y2, hy2, rfl⟩ := hR
                      subst vR
                      change TL _ _ _ _ _ _ _ _ _ [blkA b13 [u4] 33, ownB u4 (encs (⟨e % 1024, m % 32, #v[h0 % 8 % 6, h1 % 8 % 6, h2 % 8 % 6, h3 % 8 % 6, h4 % 8 % 6]⟩ : ViewT).flat ++ encs (⟨n % 1024 % 2, n % 1024 / 2 % 4, n % 1024 / 8 % 4⟩ : ChangeT).flat ++ encs (⟨l % 1024, n % 1024 / 32 % 4⟩ : BallotT).flat) 5, ownB y2 (encs (⟨e % 1024, m % 32, #v[h0 % 8 % 6, h1 % 8 % 6, h2 % 8 % 6, h3 % 8 % 6, h4 % 8 % 6]⟩ : ViewT).flat ++ encs (⟨n % 1024 % 2, n % 1024 / 2 % 4, n % 1024 / 8 % 4⟩ : ChangeT).flat ++ encs (⟨l % 1024, n % 1024 / 32 % 4⟩ : BallotT).flat) 5, blkA b16 [(.int .i64 0), (.int .i64 0)] 54, blkA b15 [(.int .i64 0), (.int .i64 0), (.int .i64 0)] 52, blkA b14 [(.int .i64 0), (.int .i64 0), (.int .i64 0), (.int .i64 0), (.int .i64 0), (.int .i64 0), (.int .i64 0)] 48, blkA b12 [(.int .i64 ((l % 1024))), (.int .i64 ((n % 1024 / 32 % 4)))] 54, blkA b11 [(.int .i64 ((n % 1024 % 2))), (.int .i64 ((n % 1024 / 2 % 4))), (.int .i64 ((n % 1024 / 8 % 4)))] 52, blkA b4 [(.int .i64 ((l % 1024)))] 3, blkA b8 [(.int .i64 ((n % 1024)))] 3, blkA b7 [u1] 33, ownB u1 (encs [(n % 1024)]) 5, ownB y1 (encs [(n % 1024)]) 5, blkA b24 [(.int .i64 ((n % 1024)))] 3, blkA b5 [(.int .i64 ((e % 1024))), (.int .i64 ((m % 32))), (.int .i64 ((h0 % 8 % 6))), (.int .i64 ((h1 % 8 % 6))), (.int .i64 ((h2 % 8 % 6))), (.int .i64 ((h3 % 8 % 6))), (.int .i64 ((h4 % 8 % 6)))] 48]
                      refine TL.v (Want.plain rfl) rfl rfl (PV.mkFunc rfl rfl) ?_
                      refine TL.callR (A := [blkA b14 [(.int .i64 0), (.int .i64 0), (.int .i64 0), (.int .i64 0), (.int .i64 0), (.int .i64 0), (.int .i64 0)] 48, blkA b15 [(.int .i64 0), (.int .i64 0), (.int .i64 0)] 52, blkA b16 [(.int .i64 0), (.int .i64 0)] 54]) (B := [blkA b13 [u4] 33, ownB u4 (encs (⟨e % 1024, m % 32, #v[h0 % 8 % 6, h1 % 8 % 6, h2 % 8 % 6, h3 % 8 % 6, h4 % 8 % 6]⟩ : ViewT).flat ++ encs (⟨n % 1024 % 2, n % 1024 / 2 % 4, n % 1024 / 8 % 4⟩ : ChangeT).flat ++ encs (⟨l % 1024, n % 1024 / 32 % 4⟩ : BallotT).flat) 5, ownB y2 (encs (⟨e % 1024, m % 32, #v[h0 % 8 % 6, h1 % 8 % 6, h2 % 8 % 6, h3 % 8 % 6, h4 % 8 % 6]⟩ : ViewT).flat ++ encs (⟨n % 1024 % 2, n % 1024 / 2 % 4, n % 1024 / 8 % 4⟩ : ChangeT).flat ++ encs (⟨l % 1024, n % 1024 / 32 % 4⟩ : BallotT).flat) 5, blkA b12 [(.int .i64 ((l % 1024))), (.int .i64 ((n % 1024 / 32 % 4)))] 54, blkA b11 [(.int .i64 ((n % 1024 % 2))), (.int .i64 ((n % 1024 / 2 % 4))), (.int .i64 ((n % 1024 / 8 % 4)))] 52, blkA b4 [(.int .i64 ((l % 1024)))] 3, blkA b8 [(.int .i64 ((n % 1024)))] 3, blkA b7 [u1] 33, ownB u1 (encs [(n % 1024)]) 5, ownB y1 (encs [(n % 1024)]) 5, blkA b24 [(.int .i64 ((n % 1024)))] 3, blkA b5 [(.int .i64 ((e % 1024))), (.int .i64 ((m % 32))), (.int .i64 ((h0 % 8 % 6))), (.int .i64 ((h1 % 8 % 6))), (.int .i64 ((h2 % 8 % 6))), (.int .i64 ((h3 % 8 % 6))), (.int .i64 ((h4 % 8 % 6)))] 48]) (Want.plain rfl) rfl rfl rfl nm14 rfl (read_with (bs := (encs (⟨e % 1024, m % 32, #v[h0 % 8 % 6, h1 % 8 % 6, h2 % 8 % 6, h3 % 8 % 6, h4 % 8 % 6]⟩ : ViewT).flat ++ encs (⟨n % 1024 % 2, n % 1024 / 2 % 4, n % 1024 / 8 % 4⟩ : ChangeT).flat ++ encs (⟨l % 1024, n % 1024 / 32 % 4⟩ : BallotT).flat)) (C := [blkA b14 [(.int .i64 0), (.int .i64 0), (.int .i64 0), (.int .i64 0), (.int .i64 0), (.int .i64 0), (.int .i64 0)] 48, blkA b15 [(.int .i64 0), (.int .i64 0), (.int .i64 0)] 52, blkA b16 [(.int .i64 0), (.int .i64 0)] 54]) (caps := [(.pointer (some ⟨b14, 0, none⟩)), (.pointer (some ⟨b15, 0, none⟩)), (.pointer (some ⟨b16, 0, none⟩))]) (A := fun t : ViewT × ChangeT × BallotT => [blkA b14 (ints t.1.flat) 48, blkA b15 (ints t.2.1.flat) 52, blkA b16 (ints t.2.2.flat) 54]) (G := fun _ : Unit => [blkA b14 [(.int .i64 0), (.int .i64 0), (.int .i64 0), (.int .i64 0), (.int .i64 0), (.int .i64 0), (.int .i64 0)] 48, blkA b15 [(.int .i64 0), (.int .i64 0), (.int .i64 0)] 52, blkA b16 [(.int .i64 0), (.int .i64 0)] 54]) (φ := fun t r => vcbP (encs (⟨e % 1024, m % 32, #v[h0 % 8 % 6, h1 % 8 % 6, h2 % 8 % 6, h3 % 8 % 6, h4 % 8 % 6]⟩ : ViewT).flat ++ encs (⟨n % 1024 % 2, n % 1024 / 2 % 4, n % 1024 / 8 % 4⟩ : ChangeT).flat ++ encs (⟨l % 1024, n % 1024 / 32 % 4⟩ : BallotT).flat) = some (t, r)) (ψ := fun _ => vcbP (encs (⟨e % 1024, m % 32, #v[h0 % 8 % 6, h1 % 8 % 6, h2 % 8 % 6, h3 % 8 % 6, h4 % 8 % 6]⟩ : ViewT).flat ++ encs (⟨n % 1024 % 2, n % 1024 / 2 % 4, n % 1024 / 8 % 4⟩ : ChangeT).flat ++ encs (⟨l % 1024, n % 1024 / 32 % 4⟩ : BallotT).flat) = none) (fun _ h => h) (fun _ _ h d => h.more d) nm24 (fun rb => small2_does rb b14 b15 b16 y2 (encs (⟨e % 1024, m % 32, #v[h0 % 8 % 6, h1 % 8 % 6, h2 % 8 % 6, h3 % 8 % 6, h4 % 8 % 6]⟩ : ViewT).flat ++ encs (⟨n % 1024 % 2, n % 1024 / 2 % 4, n % 1024 / 8 % 4⟩ : ChangeT).flat ++ encs (⟨l % 1024, n % 1024 / 32 % 4⟩ : BallotT).flat) (⟨0, 0, #v[0, 0, 0, 0, 0]⟩ : ViewT) (⟨0, 0, 0⟩ : ChangeT) (⟨0, 0⟩ : BallotT))) (fun _ s => sep_selR [5, 4, 3] rfl s) (isB_own 2 rfl rfl) (fun vR HR hR => ?_)
                      rcases hR with ⟨r, t, rfl, rfl, hs⟩ | ⟨_, _, _, hs⟩
                      · skip
                        rw [vcb_own] at hs
                        injection hs with hs
                        injection hs with e1 e2
                        subst e1
                        subst e2
                        change TL _ _ _ _ _ _ _ _ _ [blkA b14 (ints (⟨e % 1024, m % 32, #v[h0 % 8 % 6, h1 % 8 % 6, h2 % 8 % 6, h3 % 8 % 6, h4 % 8 % 6]⟩ : ViewT).flat) 48, blkA b15 (ints (⟨n % 1024 % 2, n % 1024 / 2 % 4, n % 1024 / 8 % 4⟩ : ChangeT).flat) 52, blkA b16 (ints (⟨l % 1024, n % 1024 / 32 % 4⟩ : BallotT).flat) 54, blkA b13 [u4] 33, ownB u4 (encs (⟨e % 1024, m % 32, #v[h0 % 8 % 6, h1 % 8 % 6, h2 % 8 % 6, h3 % 8 % 6, h4 % 8 % 6]⟩ : ViewT).flat ++ encs (⟨n % 1024 % 2, n % 1024 / 2 % 4, n % 1024 / 8 % 4⟩ : ChangeT).flat ++ encs (⟨l % 1024, n % 1024 / 32 % 4⟩ : BallotT).flat) 5, ownB y2 (encs (⟨e % 1024, m % 32, #v[h0 % 8 % 6, h1 % 8 % 6, h2 % 8 % 6, h3 % 8 % 6, h4 % 8 % 6]⟩ : ViewT).flat ++ encs (⟨n % 1024 % 2, n % 1024 / 2 % 4, n % 1024 / 8 % 4⟩ : ChangeT).flat ++ encs (⟨l % 1024, n % 1024 / 32 % 4⟩ : BallotT).flat) 5, blkA b12 [(.int .i64 ((l % 1024))), (.int .i64 ((n % 1024 / 32 % 4)))] 54, blkA b11 [(.int .i64 ((n % 1024 % 2))), (.int .i64 ((n % 1024 / 2 % 4))), (.int .i64 ((n % 1024 / 8 % 4)))] 52, blkA b4 [(.int .i64 ((l % 1024)))] 3, blkA b8 [(.int .i64 ((n % 1024)))] 3, blkA b7 [u1] 33, ownB u1 (encs [(n % 1024)]) 5, ownB y1 (encs [(n % 1024)]) 5, blkA b24 [(.int .i64 ((n % 1024)))] 3, blkA b5 [(.int .i64 ((e % 1024))), (.int .i64 ((m % 32))), (.int .i64 ((h0 % 8 % 6))), (.int .i64 ((h1 % 8 % 6))), (.int .i64 ((h2 % 8 % 6))), (.int .i64 ((h3 % 8 % 6))), (.int .i64 ((h4 % 8 % 6)))] 48]
                        refine TL.v (Want.plain rfl) rfl rfl (PV.move rfl rfl) ?_
                        refine TL.v (Want.met rfl rfl rfl) rfl rfl (PV.loadN (vs := ints (⟨e % 1024, m % 32, #v[h0 % 8 % 6, h1 % 8 % 6, h2 % 8 % 6, h3 % 8 % 6, h4 % 8 % 6]⟩ : ViewT).flat) rfl Try.underlying48 rfl sz48 rfl (Rd.own 0 rfl rfl) (ViewT.len _) (by rw [List.drop_zero, List.take_of_length_le (by rw [ViewT.len]; exact Nat.le_refl _)])) ?_
                        refine TL.v (Want.met rfl rfl rfl) rfl rfl (PV.loadN (vs := [(.int .i64 ((e % 1024))), (.int .i64 ((m % 32))), (.int .i64 ((h0 % 8 % 6))), (.int .i64 ((h1 % 8 % 6))), (.int .i64 ((h2 % 8 % 6))), (.int .i64 ((h3 % 8 % 6))), (.int .i64 ((h4 % 8 % 6)))]) rfl Try.underlying48 rfl sz48 rfl (Rd.own 14 rfl rfl) rfl rfl) ?_
                        refine TL.v (Want.met rfl rfl rfl) rfl rfl (PV.eqlAgg (a := (⟨e % 1024, m % 32, #v[h0 % 8 % 6, h1 % 8 % 6, h2 % 8 % 6, h3 % 8 % 6, h4 % 8 % 6]⟩ : ViewT).flat) (b := (⟨e % 1024, m % 32, #v[h0 % 8 % 6, h1 % 8 % 6, h2 % 8 % 6, h3 % 8 % 6, h4 % 8 % 6]⟩ : ViewT).flat) (m := 3) (c := 7) Try.eqGuardType48 (by kernel_rfl) rfl (by kernel_rfl) rfl rfl ⟨formed_ag (by kernel_rfl) (by kernel_rfl) rfl, formed_ag (by kernel_rfl) (by kernel_rfl) rfl⟩ (wf_list (by simp only [ViewT.flat, ChangeT.flat, BallotT.flat, Vector.toList_mk, List.forall_mem_cons, List.not_mem_nil, false_implies, implies_true, and_true]; omega)) (wf_list (by simp only [ViewT.flat, ChangeT.flat, BallotT.flat, Vector.toList_mk, List.forall_mem_cons, List.not_mem_nil, false_implies, implies_true, and_true]; omega)) rfl rfl rfl) ?_
                        refine TL.dec (fun h89 => ?_) (fun h89 => ?_)
                        · skip
                          refine TL.v (Want.plain rfl) rfl rfl (PV.pick rfl rfl rfl) ?_
                          refine TL.v (Want.plain rfl) rfl rfl (PV.move rfl rfl) ?_
                          refine TL.v (Want.met rfl rfl rfl) rfl rfl (PV.loadN (vs := ints (⟨n % 1024 % 2, n % 1024 / 2 % 4, n % 1024 / 8 % 4⟩ : ChangeT).flat) rfl Try.underlying52 rfl sz52 rfl (Rd.own 1 rfl rfl) (ChangeT.len _) (by rw [List.drop_zero, List.take_of_length_le (by rw [ChangeT.len]; exact Nat.le_refl _)])) ?_
                          refine TL.v (Want.met rfl rfl rfl) rfl rfl (PV.loadN (vs := [(.int .i64 ((n % 1024 % 2))), (.int .i64 ((n % 1024 / 2 % 4))), (.int .i64 ((n % 1024 / 8 % 4)))]) rfl Try.underlying52 rfl sz52 rfl (Rd.own 7 rfl rfl) rfl rfl) ?_
                          refine TL.v (Want.met rfl rfl rfl) rfl rfl (PV.eqlAgg (a := (⟨n % 1024 % 2, n % 1024 / 2 % 4, n % 1024 / 8 % 4⟩ : ChangeT).flat) (b := (⟨n % 1024 % 2, n % 1024 / 2 % 4, n % 1024 / 8 % 4⟩ : ChangeT).flat) (m := 3) (c := 3) Try.eqGuardType52 (by kernel_rfl) rfl (by kernel_rfl) rfl rfl ⟨formed_ag (by kernel_rfl) (by kernel_rfl) rfl, formed_ag (by kernel_rfl) (by kernel_rfl) rfl⟩ (wf_list (by simp only [ViewT.flat, ChangeT.flat, BallotT.flat, Vector.toList_mk, List.forall_mem_cons, List.not_mem_nil, false_implies, implies_true, and_true]; omega)) (wf_list (by simp only [ViewT.flat, ChangeT.flat, BallotT.flat, Vector.toList_mk, List.forall_mem_cons, List.not_mem_nil, false_implies, implies_true, and_true]; omega)) rfl rfl rfl) ?_
                          refine TL.dec (fun h94 => ?_) (fun h94 => ?_)
                          · skip
                            refine TL.v (Want.plain rfl) rfl rfl (PV.pick rfl rfl rfl) ?_
                            refine TL.v (Want.plain rfl) rfl rfl (PV.move rfl rfl) ?_
                            refine TL.v (Want.met rfl rfl rfl) rfl rfl (PV.loadN (vs := ints (⟨l % 1024, n % 1024 / 32 % 4⟩ : BallotT).flat) rfl Try.underlying54 rfl sz54 rfl (Rd.own 2 rfl rfl) (BallotT.len _) (by rw [List.drop_zero, List.take_of_length_le (by rw [BallotT.len]; exact Nat.le_refl _)])) ?_
                            refine TL.v (Want.met rfl rfl rfl) rfl rfl (PV.loadN (vs := [(.int .i64 ((l % 1024))), (.int .i64 ((n % 1024 / 32 % 4)))]) rfl Try.underlying54 rfl sz54 rfl (Rd.own 6 rfl rfl) rfl rfl) ?_
                            refine TL.v (Want.met rfl rfl rfl) rfl rfl (PV.eqlAgg (a := (⟨l % 1024, n % 1024 / 32 % 4⟩ : BallotT).flat) (b := (⟨l % 1024, n % 1024 / 32 % 4⟩ : BallotT).flat) (m := 3) (c := 2) Try.eqGuardType54 (by kernel_rfl) rfl (by kernel_rfl) rfl rfl ⟨formed_ag (by kernel_rfl) (by kernel_rfl) rfl, formed_ag (by kernel_rfl) (by kernel_rfl) rfl⟩ (wf_list (by simp only [ViewT.flat, ChangeT.flat, BallotT.flat, Vector.toList_mk, List.forall_mem_cons, List.not_mem_nil, false_implies, implies_true, and_true]; omega)) (wf_list (by simp only [ViewT.flat, ChangeT.flat, BallotT.flat, Vector.toList_mk, List.forall_mem_cons, List.not_mem_nil, false_implies, implies_true, and_true]; omega)) rfl rfl rfl) ?_
                            refine TL.v (Want.plain rfl) rfl rfl (PV.pick rfl rfl rfl) ?_
                            refine TL.v (Want.plain rfl) rfl rfl (PV.assign rfl rfl) ?_
                            refine TL.nil ?_
                            refine TE.next hK42 ?_
                            clear hK42
                            refine TC.ret ?_
                            refine TE.weak (Sub.refl _) (fun _ s => sep_keep [] rfl s) ?_
                            refine TE.ret1 rfl rfl ?_
                            exact ⟨by simp, rfl⟩
                          · exact absurd rfl h94
                        · exact absurd rfl h89
                      · exact absurd hs (by rw [vcb_own]; simp)
                    exact AllT.nil
                  exact AllT.nil
                exact AllT.nil
              exact AllT.nil
            exact AllT.nil
          exact AllT.nil
        refine AllT.cons rfl ?_ ?_
        · skip
          refine TL.alloc (Want.plain rfl) rfl rfl rfl z54 (fun b12 => ?_)
          change TL _ _ _ _ _ _ _ _ _ [blkA b12 [(.int .i64 0), (.int .i64 0)] 54, blkA b4 [(.int .i64 ((l % 1024)))] 3, blkA b8 [(.int .i64 ((n % 1024)))] 3, blkA b7 [u1] 33, ownB u1 (encs [(n % 1024)]) 5, ownB y1 (encs [(n % 1024)]) 5, blkA b24 [(.int .i64 ((n % 1024)))] 3, blkA b5 [(.int .i64 ((e % 1024))), (.int .i64 ((m % 32))), (.int .i64 ((h0 % 8 % 6))), (.int .i64 ((h1 % 8 % 6))), (.int .i64 ((h2 % 8 % 6))), (.int .i64 ((h3 % 8 % 6))), (.int .i64 ((h4 % 8 % 6)))] 48]
          refine TL.nil ?_
          refine TE.draw (fun _ s => ⟨Frm.of s, s.block 1 (lb rfl) rfl, trivial⟩) ?_
          refine TD.all [14] (by kernel_rfl) rfl ?_
          refine AllT.cons rfl ?_ ?_
          · skip
            refine TL.alloc (Want.plain rfl) rfl rfl rfl z52 (fun b11 => ?_)
            change TL _ _ _ _ _ _ _ _ _ [blkA b11 [(.int .i64 0), (.int .i64 0), (.int .i64 0)] 52, blkA b12 [(.int .i64 0), (.int .i64 0)] 54, blkA b4 [(.int .i64 ((l % 1024)))] 3, blkA b8 [(.int .i64 ((n % 1024)))] 3, blkA b7 [u1] 33, ownB u1 (encs [(n % 1024)]) 5, ownB y1 (encs [(n % 1024)]) 5, blkA b24 [(.int .i64 ((n % 1024)))] 3, blkA b5 [(.int .i64 ((e % 1024))), (.int .i64 ((m % 32))), (.int .i64 ((h0 % 8 % 6))), (.int .i64 ((h1 % 8 % 6))), (.int .i64 ((h2 % 8 % 6))), (.int .i64 ((h3 % 8 % 6))), (.int .i64 ((h4 % 8 % 6)))] 48]
            refine TL.nil ?_
            refine TE.draw (fun _ s => ⟨Frm.of s, s.block 2 (lb rfl) rfl, trivial⟩) ?_
            refine TD.all [16] (by kernel_rfl) rfl ?_
            refine AllT.cons rfl ?_ ?_
            · skip
              refine TL.store (vs := [(.int .i64 ((n % 1024 % 2))), (.int .i64 ((n % 1024 / 2 % 4))), (.int .i64 ((n % 1024 / 8 % 4)))]) (i := 0) (H' := [blkA b11 [(.int .i64 ((n % 1024 % 2))), (.int .i64 ((n % 1024 / 2 % 4))), (.int .i64 ((n % 1024 / 8 % 4)))] 52, blkA b12 [(.int .i64 0), (.int .i64 0)] 54, blkA b4 [(.int .i64 ((l % 1024)))] 3, blkA b8 [(.int .i64 ((n % 1024)))] 3, blkA b7 [u1] 33, ownB u1 (encs [(n % 1024)]) 5, ownB y1 (encs [(n % 1024)]) 5, blkA b24 [(.int .i64 ((n % 1024)))] 3, blkA b5 [(.int .i64 ((e % 1024))), (.int .i64 ((m % 32))), (.int .i64 ((h0 % 8 % 6))), (.int .i64 ((h1 % 8 % 6))), (.int .i64 ((h2 % 8 % 6))), (.int .i64 ((h3 % 8 % 6))), (.int .i64 ((h4 % 8 % 6)))] 48]) (Want.plain rfl) rfl rfl rfl rfl rfl sz52 (by simp [Value.oneCell']) rfl rfl (lbe rfl) rfl rfl ?_
              refine TL.nil ?_
              refine TE.draw (fun _ s => ⟨Frm.of s, s.block 2 (lb rfl) rfl, trivial⟩) ?_
              refine TD.all [17] (by kernel_rfl) rfl ?_
              refine AllT.cons rfl ?_ ?_
              · skip
                refine TL.store (vs := [(.int .i64 ((l % 1024))), (.int .i64 ((n % 1024 / 32 % 4)))]) (i := 1) (H' := [blkA b11 [(.int .i64 ((n % 1024 % 2))), (.int .i64 ((n % 1024 / 2 % 4))), (.int .i64 ((n % 1024 / 8 % 4)))] 52, blkA b12 [(.int .i64 ((l % 1024))), (.int .i64 ((n % 1024 / 32 % 4)))] 54, blkA b4 [(.int .i64 ((l % 1024)))] 3, blkA b8 [(.int .i64 ((n % 1024)))] 3, blkA b7 [u1] 33, ownB u1 (encs [(n % 1024)]) 5, ownB y1 (encs [(n % 1024)]) 5, blkA b24 [(.int .i64 ((n % 1024)))] 3, blkA b5 [(.int .i64 ((e % 1024))), (.int .i64 ((m % 32))), (.int .i64 ((h0 % 8 % 6))), (.int .i64 ((h1 % 8 % 6))), (.int .i64 ((h2 % 8 % 6))), (.int .i64 ((h3 % 8 % 6))), (.int .i64 ((h4 % 8 % 6)))] 48]) (Want.plain rfl) rfl rfl rfl rfl rfl sz54 (by simp [Value.oneCell']) rfl rfl (lbe rfl) rfl rfl ?_
                refine TL.nil ?_
                refine TE.draw (fun _ s => ⟨Frm.of s, s.block 2 (lb rfl) rfl, trivial⟩) ?_
                refine TD.done (by kernel_rfl) ?_
                refine TE.next hK36 ?_
                clear hK36
                refine TC.seq (fun K43 hK43 => ?_)
                refine TC.region ?_
                refine TL.alloc (Want.plain rfl) rfl rfl rfl z33 (fun b13 => ?_)
                change TL _ _ _ _ _ _ _ _ _ [blkA b13 [(.slice none 0 0)] 33, blkA b11 [(.int .i64 ((n % 1024 % 2))), (.int .i64 ((n % 1024 / 2 % 4))), (.int .i64 ((n % 1024 / 8 % 4)))] 52, blkA b12 [(.int .i64 ((l % 1024))), (.int .i64 ((n % 1024 / 32 % 4)))] 54, blkA b4 [(.int .i64 ((l % 1024)))] 3, blkA b8 [(.int .i64 ((n % 1024)))] 3, blkA b7 [u1] 33, ownB u1 (encs [(n % 1024)]) 5, ownB y1 (encs [(n % 1024)]) 5, blkA b24 [(.int .i64 ((n % 1024)))] 3, blkA b5 [(.int .i64 ((e % 1024))), (.int .i64 ((m % 32))), (.int .i64 ((h0 % 8 % 6))), (.int .i64 ((h1 % 8 % 6))), (.int .i64 ((h2 % 8 % 6))), (.int .i64 ((h3 % 8 % 6))), (.int .i64 ((h4 % 8 % 6)))] 48]
                refine TL.ownNil 5 (fun on => ?_)
                clear on
                refine TL.nil ?_
                refine TE.next hK43 ?_
                clear hK43
                refine TC.seq (fun K44 hK44 => ?_)
                refine TC.draw (fun w => Frm F w ∧ w.heap[b5]? = some (.cells ([(.int .i64 ((e % 1024))), (.int .i64 ((m % 32))), (.int .i64 ((h0 % 8 % 6))), (.int .i64 ((h1 % 8 % 6))), (.int .i64 ((h2 % 8 % 6))), (.int .i64 ((h3 % 8 % 6))), (.int .i64 ((h4 % 8 % 6)))]).toArray 48 (0, 0)) ∧ w.heap[b11]? = some (.cells ([(.int .i64 ((n % 1024 % 2))), (.int .i64 ((n % 1024 / 2 % 4))), (.int .i64 ((n % 1024 / 8 % 4)))]).toArray 52 (0, 0)) ∧ w.heap[b12]? = some (.cells ([(.int .i64 ((l % 1024))), (.int .i64 ((n % 1024 / 32 % 4)))]).toArray 54 (0, 0)) ∧ True) mixed rfl (fun _ s => ⟨Frm.of s, s.block 10 (lb rfl) rfl, s.block 2 (lb rfl) rfl, s.block 3 (lb rfl) rfl, trivial⟩) ?_
                refine TD.take (i := 0) rfl (by kernel_rfl) (by kernel_rfl) (by kernel_rfl) (fun _ _ _ _ h => h) (Want.plain rfl) rfl rfl (PV.loadN (vs := [(.int .i64 ((e % 1024))), (.int .i64 ((m % 32))), (.int .i64 ((h0 % 8 % 6))), (.int .i64 ((h1 % 8 % 6))), (.int .i64 ((h2 % 8 % 6))), (.int .i64 ((h3 % 8 % 6))), (.int .i64 ((h4 % 8 % 6)))]) rfl Try.underlying48 rfl sz48 rfl (Rd.right (Rd.left)) rfl rfl) ?_
                refine TD.take (i := 2) rfl (by kernel_rfl) (by kernel_rfl) (by kernel_rfl) (fun _ _ _ _ h => h) (Want.plain rfl) rfl rfl (PV.loadN (vs := [(.int .i64 ((n % 1024 % 2))), (.int .i64 ((n % 1024 / 2 % 4))), (.int .i64 ((n % 1024 / 8 % 4)))]) rfl Try.underlying52 rfl sz52 rfl (Rd.right (Rd.right (Rd.left))) rfl rfl) ?_
                refine TD.take (i := 4) rfl (by kernel_rfl) (by kernel_rfl) (by kernel_rfl) (fun _ _ _ _ h => h) (Want.plain rfl) rfl rfl (PV.loadN (vs := [(.int .i64 ((l % 1024))), (.int .i64 ((n % 1024 / 32 % 4)))]) rfl Try.underlying54 rfl sz54 rfl (Rd.right (Rd.right (Rd.right (Rd.left)))) rfl rfl) ?_
                refine TD.all [1] (by kernel_rfl) rfl ?_
                refine AllT.cons rfl ?_ ?_
                · skip
                  refine TL.callR (A := [blkA b13 [(.slice none 0 0)] 33, ownB (.slice none 0 0) ([]) 5]) (B := [blkA b11 [(.int .i64 ((n % 1024 % 2))), (.int .i64 ((n % 1024 / 2 % 4))), (.int .i64 ((n % 1024 / 8 % 4)))] 52, blkA b12 [(.int .i64 ((l % 1024))), (.int .i64 ((n % 1024 / 32 % 4)))] 54, blkA b4 [(.int .i64 ((l % 1024)))] 3, blkA b8 [(.int .i64 ((n % 1024)))] 3, blkA b7 [u1] 33, ownB u1 (encs [(n % 1024)]) 5, ownB y1 (encs [(n % 1024)]) 5, blkA b24 [(.int .i64 ((n % 1024)))] 3, blkA b5 [(.int .i64 ((e % 1024))), (.int .i64 ((m % 32))), (.int .i64 ((h0 % 8 % 6))), (.int .i64 ((h1 % 8 % 6))), (.int .i64 ((h2 % 8 % 6))), (.int .i64 ((h3 % 8 % 6))), (.int .i64 ((h4 % 8 % 6)))] 48]) (Want.plain rfl) rfl rfl rfl nm21 rfl (wview_does b13 (.slice none 0 0) ([]) (⟨e % 1024, m % 32, #v[h0 % 8 % 6, h1 % 8 % 6, h2 % 8 % 6, h3 % 8 % 6, h4 % 8 % 6]⟩ : ViewT) (by have q1 := encs_len [n % 1024]; have q2 := encs_len (⟨e % 1024, m % 32, #v[h0 % 8 % 6, h1 % 8 % 6, h2 % 8 % 6, h3 % 8 % 6, h4 % 8 % 6]⟩ : ViewT).flat; have q3 := encs_len (⟨n % 1024 % 2, n % 1024 / 2 % 4, n % 1024 / 8 % 4⟩ : ChangeT).flat; have q4 := encs_len (⟨l % 1024, n % 1024 / 32 % 4⟩ : BallotT).flat; simp only [List.length_append, List.length_cons, List.length_nil, ViewT.flat, ChangeT.flat, BallotT.flat, Vector.toList_mk] at *; omega)) (fun _ s => sep_selR [1, 0] rfl s) (fun _ _ _ => trivial) (fun vR HR hR => ?_)
                  obtain ⟨u2, rfl, rfl⟩ := hR
                  change TL _ _ _ _ _ _ _ _ _ [blkA b13 [u2] 33, ownB u2 (encs (⟨e % 1024, m % 32, #v[h0 % 8 % 6, h1 % 8 % 6, h2 % 8 % 6, h3 % 8 % 6, h4 % 8 % 6]⟩ : ViewT).flat) 5, blkA b11 [(.int .i64 ((n % 1024 % 2))), (.int .i64 ((n % 1024 / 2 % 4))), (.int .i64 ((n % 1024 / 8 % 4)))] 52, blkA b12 [(.int .i64 ((l % 1024))), (.int .i64 ((n % 1024 / 32 % 4)))] 54, blkA b4 [(.int .i64 ((l % 1024)))] 3, blkA b8 [(.int .i64 ((n % 1024)))] 3, blkA b7 [u1] 33, ownB u1 (encs [(n % 1024)]) 5, ownB y1 (encs [(n % 1024)]) 5, blkA b24 [(.int .i64 ((n % 1024)))] 3, blkA b5 [(.int .i64 ((e % 1024))), (.int .i64 ((m % 32))), (.int .i64 ((h0 % 8 % 6))), (.int .i64 ((h1 % 8 % 6))), (.int .i64 ((h2 % 8 % 6))), (.int .i64 ((h3 % 8 % 6))), (.int .i64 ((h4 % 8 % 6)))] 48]
                  refine TL.nil ?_
                  refine TE.draw (fun _ s => ⟨Frm.of s, s.block 10 (lb rfl) rfl, s.block 2 (lb rfl) rfl, s.block 3 (lb rfl) rfl, trivial⟩) ?_
                  refine TD.all [3] (by kernel_rfl) rfl ?_
                  refine AllT.cons rfl ?_ ?_
                  · skip
                    refine TL.callR (A := [blkA b13 [u2] 33, ownB u2 (encs (⟨e % 1024, m % 32, #v[h0 % 8 % 6, h1 % 8 % 6, h2 % 8 % 6, h3 % 8 % 6, h4 % 8 % 6]⟩ : ViewT).flat) 5]) (B := [blkA b11 [(.int .i64 ((n % 1024 % 2))), (.int .i64 ((n % 1024 / 2 % 4))), (.int .i64 ((n % 1024 / 8 % 4)))] 52, blkA b12 [(.int .i64 ((l % 1024))), (.int .i64 ((n % 1024 / 32 % 4)))] 54, blkA b4 [(.int .i64 ((l % 1024)))] 3, blkA b8 [(.int .i64 ((n % 1024)))] 3, blkA b7 [u1] 33, ownB u1 (encs [(n % 1024)]) 5, ownB y1 (encs [(n % 1024)]) 5, blkA b24 [(.int .i64 ((n % 1024)))] 3, blkA b5 [(.int .i64 ((e % 1024))), (.int .i64 ((m % 32))), (.int .i64 ((h0 % 8 % 6))), (.int .i64 ((h1 % 8 % 6))), (.int .i64 ((h2 % 8 % 6))), (.int .i64 ((h3 % 8 % 6))), (.int .i64 ((h4 % 8 % 6)))] 48]) (Want.plain rfl) rfl rfl rfl nm22 rfl (wchange_does b13 u2 (encs (⟨e % 1024, m % 32, #v[h0 % 8 % 6, h1 % 8 % 6, h2 % 8 % 6, h3 % 8 % 6, h4 % 8 % 6]⟩ : ViewT).flat) (⟨n % 1024 % 2, n % 1024 / 2 % 4, n % 1024 / 8 % 4⟩ : ChangeT) (by have q1 := encs_len [n % 1024]; have q2 := encs_len (⟨e % 1024, m % 32, #v[h0 % 8 % 6, h1 % 8 % 6, h2 % 8 % 6, h3 % 8 % 6, h4 % 8 % 6]⟩ : ViewT).flat; have q3 := encs_len (⟨n % 1024 % 2, n % 1024 / 2 % 4, n % 1024 / 8 % 4⟩ : ChangeT).flat; have q4 := encs_len (⟨l % 1024, n % 1024 / 32 % 4⟩ : BallotT).flat; simp only [List.length_append, List.length_cons, List.length_nil, ViewT.flat, ChangeT.flat, BallotT.flat, Vector.toList_mk] at *; omega)) (fun _ s => s) (fun _ _ _ => trivial) (fun vR HR hR => ?_)
                    obtain ⟨u3, rfl, rfl⟩ := hR
                    change TL _ _ _ _ _ _ _ _ _ [blkA b13 [u3] 33, ownB u3 (encs (⟨e % 1024, m % 32, #v[h0 % 8 % 6, h1 % 8 % 6, h2 % 8 % 6, h3 % 8 % 6, h4 % 8 % 6]⟩ : ViewT).flat ++ encs (⟨n % 1024 % 2, n % 1024 / 2 % 4, n % 1024 / 8 % 4⟩ : ChangeT).flat) 5, blkA b11 [(.int .i64 ((n % 1024 % 2))), (.int .i64 ((n % 1024 / 2 % 4))), (.int .i64 ((n % 1024 / 8 % 4)))] 52, blkA b12 [(.int .i64 ((l % 1024))), (.int .i64 ((n % 1024 / 32 % 4)))] 54, blkA b4 [(.int .i64 ((l % 1024)))] 3, blkA b8 [(.int .i64 ((n % 1024)))] 3, blkA b7 [u1] 33, ownB u1 (encs [(n % 1024)]) 5, ownB y1 (encs [(n % 1024)]) 5, blkA b24 [(.int .i64 ((n % 1024)))] 3, blkA b5 [(.int .i64 ((e % 1024))), (.int .i64 ((m % 32))), (.int .i64 ((h0 % 8 % 6))), (.int .i64 ((h1 % 8 % 6))), (.int .i64 ((h2 % 8 % 6))), (.int .i64 ((h3 % 8 % 6))), (.int .i64 ((h4 % 8 % 6)))] 48]
                    refine TL.nil ?_
                    refine TE.draw (fun _ s => ⟨Frm.of s, s.block 10 (lb rfl) rfl, s.block 2 (lb rfl) rfl, s.block 3 (lb rfl) rfl, trivial⟩) ?_
                    refine TD.all [5] (by kernel_rfl) rfl ?_
                    refine AllT.cons rfl ?_ ?_
                    · skip
                      refine TL.callR (A := [blkA b13 [u3] 33, ownB u3 (encs (⟨e % 1024, m % 32, #v[h0 % 8 % 6, h1 % 8 % 6, h2 % 8 % 6, h3 % 8 % 6, h4 % 8 % 6]⟩ : ViewT).flat ++ encs (⟨n % 1024 % 2, n % 1024 / 2 % 4, n % 1024 / 8 % 4⟩ : ChangeT).flat) 5]) (B := [blkA b11 [(.int .i64 ((n % 1024 % 2))), (.int .i64 ((n % 1024 / 2 % 4))), (.int .i64 ((n % 1024 / 8 % 4)))] 52, blkA b12 [(.int .i64 ((l % 1024))), (.int .i64 ((n % 1024 / 32 % 4)))] 54, blkA b4 [(.int .i64 ((l % 1024)))] 3, blkA b8 [(.int .i64 ((n % 1024)))] 3, blkA b7 [u1] 33, ownB u1 (encs [(n % 1024)]) 5, ownB y1 (encs [(n % 1024)]) 5, blkA b24 [(.int .i64 ((n % 1024)))] 3, blkA b5 [(.int .i64 ((e % 1024))), (.int .i64 ((m % 32))), (.int .i64 ((h0 % 8 % 6))), (.int .i64 ((h1 % 8 % 6))), (.int .i64 ((h2 % 8 % 6))), (.int .i64 ((h3 % 8 % 6))), (.int .i64 ((h4 % 8 % 6)))] 48]) (Want.plain rfl) rfl rfl rfl nm23 rfl (wballot_does b13 u3 (encs (⟨e % 1024, m % 32, #v[h0 % 8 % 6, h1 % 8 % 6, h2 % 8 % 6, h3 % 8 % 6, h4 % 8 % 6]⟩ : ViewT).flat ++ encs (⟨n % 1024 % 2, n % 1024 / 2 % 4, n % 1024 / 8 % 4⟩ : ChangeT).flat) (⟨l % 1024, n % 1024 / 32 % 4⟩ : BallotT) (by have q1 := encs_len [n % 1024]; have q2 := encs_len (⟨e % 1024, m % 32, #v[h0 % 8 % 6, h1 % 8 % 6, h2 % 8 % 6, h3 % 8 % 6, h4 % 8 % 6]⟩ : ViewT).flat; have q3 := encs_len (⟨n % 1024 % 2, n % 1024 / 2 % 4, n % 1024 / 8 % 4⟩ : ChangeT).flat; have q4 := encs_len (⟨l % 1024, n % 1024 / 32 % 4⟩ : BallotT).flat; simp only [List.length_append, List.length_cons, List.length_nil, ViewT.flat, ChangeT.flat, BallotT.flat, Vector.toList_mk] at *; omega)) (fun _ s => s) (fun _ _ _ => trivial) (fun vR HR hR => ?_)
                      obtain ⟨u4, rfl, rfl⟩ := hR
                      change TL _ _ _ _ _ _ _ _ _ [blkA b13 [u4] 33, ownB u4 (encs (⟨e % 1024, m % 32, #v[h0 % 8 % 6, h1 % 8 % 6, h2 % 8 % 6, h3 % 8 % 6, h4 % 8 % 6]⟩ : ViewT).flat ++ encs (⟨n % 1024 % 2, n % 1024 / 2 % 4, n % 1024 / 8 % 4⟩ : ChangeT).flat ++ encs (⟨l % 1024, n % 1024 / 32 % 4⟩ : BallotT).flat) 5, blkA b11 [(.int .i64 ((n % 1024 % 2))), (.int .i64 ((n % 1024 / 2 % 4))), (.int .i64 ((n % 1024 / 8 % 4)))] 52, blkA b12 [(.int .i64 ((l % 1024))), (.int .i64 ((n % 1024 / 32 % 4)))] 54, blkA b4 [(.int .i64 ((l % 1024)))] 3, blkA b8 [(.int .i64 ((n % 1024)))] 3, blkA b7 [u1] 33, ownB u1 (encs [(n % 1024)]) 5, ownB y1 (encs [(n % 1024)]) 5, blkA b24 [(.int .i64 ((n % 1024)))] 3, blkA b5 [(.int .i64 ((e % 1024))), (.int .i64 ((m % 32))), (.int .i64 ((h0 % 8 % 6))), (.int .i64 ((h1 % 8 % 6))), (.int .i64 ((h2 % 8 % 6))), (.int .i64 ((h3 % 8 % 6))), (.int .i64 ((h4 % 8 % 6)))] 48]
                      refine TL.nil ?_
                      refine TE.draw (fun _ s => ⟨Frm.of s, s.block 10 (lb rfl) rfl, s.block 2 (lb rfl) rfl, s.block 3 (lb rfl) rfl, trivial⟩) ?_
                      refine TD.done (by kernel_rfl) ?_
                      refine TE.next hK44 ?_
                      clear hK44
                      refine TC.seq (fun K45 hK45 => ?_)
                      refine TC.region ?_
                      refine TL.alloc (Want.plain rfl) rfl rfl rfl z48 (fun b14 => ?_)
                      change TL _ _ _ _ _ _ _ _ _ [blkA b14 [(.int .i64 0), (.int .i64 0), (.int .i64 0), (.int .i64 0), (.int .i64 0), (.int .i64 0), (.int .i64 0)] 48, blkA b13 [u4] 33, ownB u4 (encs (⟨e % 1024, m % 32, #v[h0 % 8 % 6, h1 % 8 % 6, h2 % 8 % 6, h3 % 8 % 6, h4 % 8 % 6]⟩ : ViewT).flat ++ encs (⟨n % 1024 % 2, n % 1024 / 2 % 4, n % 1024 / 8 % 4⟩ : ChangeT).flat ++ encs (⟨l % 1024, n % 1024 / 32 % 4⟩ : BallotT).flat) 5, blkA b11 [(.int .i64 ((n % 1024 % 2))), (.int .i64 ((n % 1024 / 2 % 4))), (.int .i64 ((n % 1024 / 8 % 4)))] 52, blkA b12 [(.int .i64 ((l % 1024))), (.int .i64 ((n % 1024 / 32 % 4)))] 54, blkA b4 [(.int .i64 ((l % 1024)))] 3, blkA b8 [(.int .i64 ((n % 1024)))] 3, blkA b7 [u1] 33, ownB u1 (encs [(n % 1024)]) 5, ownB y1 (encs [(n % 1024)]) 5, blkA b24 [(.int .i64 ((n % 1024)))] 3, blkA b5 [(.int .i64 ((e % 1024))), (.int .i64 ((m % 32))), (.int .i64 ((h0 % 8 % 6))), (.int .i64 ((h1 % 8 % 6))), (.int .i64 ((h2 % 8 % 6))), (.int .i64 ((h3 % 8 % 6))), (.int .i64 ((h4 % 8 % 6)))] 48]
                      refine TL.nil ?_
                      refine TE.next hK45 ?_
                      clear hK45
                      refine TC.seq (fun K46 hK46 => ?_)
                      refine TC.region ?_
                      refine TL.alloc (Want.plain rfl) rfl rfl rfl z52 (fun b15 => ?_)
                      change TL _ _ _ _ _ _ _ _ _ [blkA b15 [(.int .i64 0), (.int .i64 0), (.int .i64 0)] 52, blkA b14 [(.int .i64 0), (.int .i64 0), (.int .i64 0), (.int .i64 0), (.int .i64 0), (.int .i64 0), (.int .i64 0)] 48, blkA b13 [u4] 33, ownB u4 (encs (⟨e % 1024, m % 32, #v[h0 % 8 % 6, h1 % 8 % 6, h2 % 8 % 6, h3 % 8 % 6, h4 % 8 % 6]⟩ : ViewT).flat ++ encs (⟨n % 1024 % 2, n % 1024 / 2 % 4, n % 1024 / 8 % 4⟩ : ChangeT).flat ++ encs (⟨l % 1024, n % 1024 / 32 % 4⟩ : BallotT).flat) 5, blkA b11 [(.int .i64 ((n % 1024 % 2))), (.int .i64 ((n % 1024 / 2 % 4))), (.int .i64 ((n % 1024 / 8 % 4)))] 52, blkA b12 [(.int .i64 ((l % 1024))), (.int .i64 ((n % 1024 / 32 % 4)))] 54, blkA b4 [(.int .i64 ((l % 1024)))] 3, blkA b8 [(.int .i64 ((n % 1024)))] 3, blkA b7 [u1] 33, ownB u1 (encs [(n % 1024)]) 5, ownB y1 (encs [(n % 1024)]) 5, blkA b24 [(.int .i64 ((n % 1024)))] 3, blkA b5 [(.int .i64 ((e % 1024))), (.int .i64 ((m % 32))), (.int .i64 ((h0 % 8 % 6))), (.int .i64 ((h1 % 8 % 6))), (.int .i64 ((h2 % 8 % 6))), (.int .i64 ((h3 % 8 % 6))), (.int .i64 ((h4 % 8 % 6)))] 48]
                      refine TL.nil ?_
                      refine TE.next hK46 ?_
                      clear hK46
                      refine TC.seq (fun K47 hK47 => ?_)
                      refine TC.region ?_
                      refine TL.alloc (Want.plain rfl) rfl rfl rfl z54 (fun b16 => ?_)
                      change TL _ _ _ _ _ _ _ _ _ [blkA b16 [(.int .i64 0), (.int .i64 0)] 54, blkA b15 [(.int .i64 0), (.int .i64 0), (.int .i64 0)] 52, blkA b14 [(.int .i64 0), (.int .i64 0), (.int .i64 0), (.int .i64 0), (.int .i64 0), (.int .i64 0), (.int .i64 0)] 48, blkA b13 [u4] 33, ownB u4 (encs (⟨e % 1024, m % 32, #v[h0 % 8 % 6, h1 % 8 % 6, h2 % 8 % 6, h3 % 8 % 6, h4 % 8 % 6]⟩ : ViewT).flat ++ encs (⟨n % 1024 % 2, n % 1024 / 2 % 4, n % 1024 / 8 % 4⟩ : ChangeT).flat ++ encs (⟨l % 1024, n % 1024 / 32 % 4⟩ : BallotT).flat) 5, blkA b11 [(.int .i64 ((n % 1024 % 2))), (.int .i64 ((n % 1024 / 2 % 4))), (.int .i64 ((n % 1024 / 8 % 4)))] 52, blkA b12 [(.int .i64 ((l % 1024))), (.int .i64 ((n % 1024 / 32 % 4)))] 54, blkA b4 [(.int .i64 ((l % 1024)))] 3, blkA b8 [(.int .i64 ((n % 1024)))] 3, blkA b7 [u1] 33, ownB u1 (encs [(n % 1024)]) 5, ownB y1 (encs [(n % 1024)]) 5, blkA b24 [(.int .i64 ((n % 1024)))] 3, blkA b5 [(.int .i64 ((e % 1024))), (.int .i64 ((m % 32))), (.int .i64 ((h0 % 8 % 6))), (.int .i64 ((h1 % 8 % 6))), (.int .i64 ((h2 % 8 % 6))), (.int .i64 ((h3 % 8 % 6))), (.int .i64 ((h4 % 8 % 6)))] 48]
                      refine TL.nil ?_
                      refine TE.next hK47 ?_
                      clear hK47
                      refine TC.seq (fun K48 hK48 => ?_)
                      refine TC.region ?_
                      refine TL.callR (A := [blkA b13 [u4] 33, ownB u4 (encs (⟨e % 1024, m % 32, #v[h0 % 8 % 6, h1 % 8 % 6, h2 % 8 % 6, h3 % 8 % 6, h4 % 8 % 6]⟩ : ViewT).flat ++ encs (⟨n % 1024 % 2, n % 1024 / 2 % 4, n % 1024 / 8 % 4⟩ : ChangeT).flat ++ encs (⟨l % 1024, n % 1024 / 32 % 4⟩ : BallotT).flat) 5]) (B := [blkA b16 [(.int .i64 0), (.int .i64 0)] 54, blkA b15 [(.int .i64 0), (.int .i64 0), (.int .i64 0)] 52, blkA b14 [(.int .i64 0), (.int .i64 0), (.int .i64 0), (.int .i64 0), (.int .i64 0), (.int .i64 0), (.int .i64 0)] 48, blkA b11 [(.int .i64 ((n % 1024 % 2))), (.int .i64 ((n % 1024 / 2 % 4))), (.int .i64 ((n % 1024 / 8 % 4)))] 52, blkA b12 [(.int .i64 ((l % 1024))), (.int .i64 ((n % 1024 / 32 % 4)))] 54, blkA b4 [(.int .i64 ((l % 1024)))] 3, blkA b8 [(.int .i64 ((n % 1024)))] 3, blkA b7 [u1] 33, ownB u1 (encs [(n % 1024)]) 5, ownB y1 (encs [(n % 1024)]) 5, blkA b24 [(.int .i64 ((n % 1024)))] 3, blkA b5 [(.int .i64 ((e % 1024))), (.int .i64 ((m % 32))), (.int .i64 ((h0 % 8 % 6))), (.int .i64 ((h1 % 8 % 6))), (.int .i64 ((h2 % 8 % 6))), (.int .i64 ((h3 % 8 % 6))), (.int .i64 ((h4 % 8 % 6)))] 48]) (Want.plain rfl) rfl rfl rfl nm12 rfl (wbytes_does b13 u4 (encs (⟨e % 1024, m % 32, #v[h0 % 8 % 6, h1 % 8 % 6, h2 % 8 % 6, h3 % 8 % 6, h4 % 8 % 6]⟩ : ViewT).flat ++ encs (⟨n % 1024 % 2, n % 1024 / 2 % 4, n % 1024 / 8 % 4⟩ : ChangeT).flat ++ encs (⟨l % 1024, n % 1024 / 32 % 4⟩ : BallotT).flat) (by have q1 := encs_len [n % 1024]; have q2 := encs_len (⟨e % 1024, m % 32, #v[h0 % 8 % 6, h1 % 8 % 6, h2 % 8 % 6, h3 % 8 % 6, h4 % 8 % 6]⟩ : ViewT).flat; have q3 := encs_len (⟨n % 1024 % 2, n % 1024 / 2 % 4, n % 1024 / 8 % 4⟩ : ChangeT).flat; have q4 := encs_len (⟨l % 1024, n % 1024 / 32 % 4⟩ : BallotT).flat; simp only [List.length_append, List.length_cons, List.length_nil, ViewT.flat, ChangeT.flat, BallotT.flat, Vector.toList_mk] at *; omega)) (fun _ s => sep_selR [3, 3] rfl s) (fun _ _ _ => trivial) (fun vR HR hR => ?_)
                      obtain ⟨y2, hy2, rfl⟩ := hR
                      subst vR
                      change TL _ _ _ _ _ _ _ _ _ [blkA b13 [u4] 33, ownB u4 (encs (⟨e % 1024, m % 32, #v[h0 % 8 % 6, h1 % 8 % 6, h2 % 8 % 6, h3 % 8 % 6, h4 % 8 % 6]⟩ : ViewT).flat ++ encs (⟨n % 1024 % 2, n % 1024 / 2 % 4, n % 1024 / 8 % 4⟩ : ChangeT).flat ++ encs (⟨l % 1024, n % 1024 / 32 % 4⟩ : BallotT).flat) 5, ownB y2 (encs (⟨e % 1024, m % 32, #v[h0 % 8 % 6, h1 % 8 % 6, h2 % 8 % 6, h3 % 8 % 6, h4 % 8 % 6]⟩ : ViewT).flat ++ encs (⟨n % 1024 % 2, n % 1024 / 2 % 4, n % 1024 / 8 % 4⟩ : ChangeT).flat ++ encs (⟨l % 1024, n % 1024 / 32 % 4⟩ : BallotT).flat) 5, blkA b16 [(.int .i64 0), (.int .i64 0)] 54, blkA b15 [(.int .i64 0), (.int .i64 0), (.int .i64 0)] 52, blkA b14 [(.int .i64 0), (.int .i64 0), (.int .i64 0), (.int .i64 0), (.int .i64 0), (.int .i64 0), (.int .i64 0)] 48, blkA b11 [(.int .i64 ((n % 1024 % 2))), (.int .i64 ((n % 1024 / 2 % 4))), (.int .i64 ((n % 1024 / 8 % 4)))] 52, blkA b12 [(.int .i64 ((l % 1024))), (.int .i64 ((n % 1024 / 32 % 4)))] 54, blkA b4 [(.int .i64 ((l % 1024)))] 3, blkA b8 [(.int .i64 ((n % 1024)))] 3, blkA b7 [u1] 33, ownB u1 (encs [(n % 1024)]) 5, ownB y1 (encs [(n % 1024)]) 5, blkA b24 [(.int .i64 ((n % 1024)))] 3, blkA b5 [(.int .i64 ((e % 1024))), (.int .i64 ((m % 32))), (.int .i64 ((h0 % 8 % 6))), (.int .i64 ((h1 % 8 % 6))), (.int .i64 ((h2 % 8 % 6))), (.int .i64 ((h3 % 8 % 6))), (.int .i64 ((h4 % 8 % 6)))] 48]
                      refine TL.v (Want.plain rfl) rfl rfl (PV.mkFunc rfl rfl) ?_
                      refine TL.callR (A := [blkA b14 [(.int .i64 0), (.int .i64 0), (.int .i64 0), (.int .i64 0), (.int .i64 0), (.int .i64 0), (.int .i64 0)] 48, blkA b15 [(.int .i64 0), (.int .i64 0), (.int .i64 0)] 52, blkA b16 [(.int .i64 0), (.int .i64 0)] 54]) (B := [blkA b13 [u4] 33, ownB u4 (encs (⟨e % 1024, m % 32, #v[h0 % 8 % 6, h1 % 8 % 6, h2 % 8 % 6, h3 % 8 % 6, h4 % 8 % 6]⟩ : ViewT).flat ++ encs (⟨n % 1024 % 2, n % 1024 / 2 % 4, n % 1024 / 8 % 4⟩ : ChangeT).flat ++ encs (⟨l % 1024, n % 1024 / 32 % 4⟩ : BallotT).flat) 5, ownB y2 (encs (⟨e % 1024, m % 32, #v[h0 % 8 % 6, h1 % 8 % 6, h2 % 8 % 6, h3 % 8 % 6, h4 % 8 % 6]⟩ : ViewT).flat ++ encs (⟨n % 1024 % 2, n % 1024 / 2 % 4, n % 1024 / 8 % 4⟩ : ChangeT).flat ++ encs (⟨l % 1024, n % 1024 / 32 % 4⟩ : BallotT).flat) 5, blkA b11 [(.int .i64 ((n % 1024 % 2))), (.int .i64 ((n % 1024 / 2 % 4))), (.int .i64 ((n % 1024 / 8 % 4)))] 52, blkA b12 [(.int .i64 ((l % 1024))), (.int .i64 ((n % 1024 / 32 % 4)))] 54, blkA b4 [(.int .i64 ((l % 1024)))] 3, blkA b8 [(.int .i64 ((n % 1024)))] 3, blkA b7 [u1] 33, ownB u1 (encs [(n % 1024)]) 5, ownB y1 (encs [(n % 1024)]) 5, blkA b24 [(.int .i64 ((n % 1024)))] 3, blkA b5 [(.int .i64 ((e % 1024))), (.int .i64 ((m % 32))), (.int .i64 ((h0 % 8 % 6))), (.int .i64 ((h1 % 8 % 6))), (.int .i64 ((h2 % 8 % 6))), (.int .i64 ((h3 % 8 % 6))), (.int .i64 ((h4 % 8 % 6)))] 48]) (Want.plain rfl) rfl rfl rfl nm14 rfl (read_with (bs := (encs (⟨e % 1024, m % 32, #v[h0 % 8 % 6, h1 % 8 % 6, h2 % 8 % 6, h3 % 8 % 6, h4 % 8 % 6]⟩ : ViewT).flat ++ encs (⟨n % 1024 % 2, n % 1024 / 2 % 4, n % 1024 / 8 % 4⟩ : ChangeT).flat ++ encs (⟨l % 1024, n % 1024 / 32 % 4⟩ : BallotT).flat)) (C := [blkA b14 [(.int .i64 0), (.int .i64 0), (.int .i64 0), (.int .i64 0), (.int .i64 0), (.int .i64 0), (.int .i64 0)] 48, blkA b15 [(.int .i64 0), (.int .i64 0), (.int .i64 0)] 52, blkA b16 [(.int .i64 0), (.int .i64 0)] 54]) (caps := [(.pointer (some ⟨b14, 0, none⟩)), (.pointer (some ⟨b15, 0, none⟩)), (.pointer (some ⟨b16, 0, none⟩))]) (A := fun t : ViewT × ChangeT × BallotT => [blkA b14 (ints t.1.flat) 48, blkA b15 (ints t.2.1.flat) 52, blkA b16 (ints t.2.2.flat) 54]) (G := fun _ : Unit => [blkA b14 [(.int .i64 0), (.int .i64 0), (.int .i64 0), (.int .i64 0), (.int .i64 0), (.int .i64 0), (.int .i64 0)] 48, blkA b15 [(.int .i64 0), (.int .i64 0), (.int .i64 0)] 52, blkA b16 [(.int .i64 0), (.int .i64 0)] 54]) (φ := fun t r => vcbP (encs (⟨e % 1024, m % 32, #v[h0 % 8 % 6, h1 % 8 % 6, h2 % 8 % 6, h3 % 8 % 6, h4 % 8 % 6]⟩ : ViewT).flat ++ encs (⟨n % 1024 % 2, n % 1024 / 2 % 4, n % 1024 / 8 % 4⟩ : ChangeT).flat ++ encs (⟨l % 1024, n % 1024 / 32 % 4⟩ : BallotT).flat) = some (t, r)) (ψ := fun _ => vcbP (encs (⟨e % 1024, m % 32, #v[h0 % 8 % 6, h1 % 8 % 6, h2 % 8 % 6, h3 % 8 % 6, h4 % 8 % 6]⟩ : ViewT).flat ++ encs (⟨n % 1024 % 2, n % 1024 / 2 % 4, n % 1024 / 8 % 4⟩ : ChangeT).flat ++ encs (⟨l % 1024, n % 1024 / 32 % 4⟩ : BallotT).flat) = none) (fun _ h => h) (fun _ _ h d => h.more d) nm24 (fun rb => small2_does rb b14 b15 b16 y2 (encs (⟨e % 1024, m % 32, #v[h0 % 8 % 6, h1 % 8 % 6, h2 % 8 % 6, h3 % 8 % 6, h4 % 8 % 6]⟩ : ViewT).flat ++ encs (⟨n % 1024 % 2, n % 1024 / 2 % 4, n % 1024 / 8 % 4⟩ : ChangeT).flat ++ encs (⟨l % 1024, n % 1024 / 32 % 4⟩ : BallotT).flat) (⟨0, 0, #v[0, 0, 0, 0, 0]⟩ : ViewT) (⟨0, 0, 0⟩ : ChangeT) (⟨0, 0⟩ : BallotT))) (fun _ s => sep_selR [5, 4, 3] rfl s) (isB_own 2 rfl rfl) (fun vR HR hR => ?_)
                      rcases hR with ⟨r, t, rfl, rfl, hs⟩ | ⟨_, _, _, hs⟩
                      · skip
                        rw [vcb_own] at hs
                        injection hs with hs
                        injection hs with e1 e2
                        subst e1
                        subst e2
                        change TL _ _ _ _ _ _ _ _ _ [blkA b14 (ints (⟨e % 1024, m % 32, #v[h0 % 8 % 6, h1 % 8 % 6, h2 % 8 % 6, h3 % 8 % 6, h4 % 8 % 6]⟩ : ViewT).flat) 48, blkA b15 (ints (⟨n % 1024 % 2, n % 1024 / 2 % 4, n % 1024 / 8 % 4⟩ : ChangeT).flat) 52, blkA b16 (ints (⟨l % 1024, n % 1024 / 32 % 4⟩ : BallotT).flat) 54, blkA b13 [u4] 33, ownB u4 (encs (⟨e % 1024, m % 32, #v[h0 % 8 % 6, h1 % 8 % 6, h2 % 8 % 6, h3 % 8 % 6, h4 % 8 % 6]⟩ : ViewT).flat ++ encs (⟨n % 1024 % 2, n % 1024 / 2 % 4, n % 1024 / 8 % 4⟩ : ChangeT).flat ++ encs (⟨l % 1024, n % 1024 / 32 % 4⟩ : BallotT).flat) 5, ownB y2 (encs (⟨e % 1024, m % 32, #v[h0 % 8 % 6, h1 % 8 % 6, h2 % 8 % 6, h3 % 8 % 6, h4 % 8 % 6]⟩ : ViewT).flat ++ encs (⟨n % 1024 % 2, n % 1024 / 2 % 4, n % 1024 / 8 % 4⟩ : ChangeT).flat ++ encs (⟨l % 1024, n % 1024 / 32 % 4⟩ : BallotT).flat) 5, blkA b11 [(.int .i64 ((n % 1024 % 2))), (.int .i64 ((n % 1024 / 2 % 4))), (.int .i64 ((n % 1024 / 8 % 4)))] 52, blkA b12 [(.int .i64 ((l % 1024))), (.int .i64 ((n % 1024 / 32 % 4)))] 54, blkA b4 [(.int .i64 ((l % 1024)))] 3, blkA b8 [(.int .i64 ((n % 1024)))] 3, blkA b7 [u1] 33, ownB u1 (encs [(n % 1024)]) 5, ownB y1 (encs [(n % 1024)]) 5, blkA b24 [(.int .i64 ((n % 1024)))] 3, blkA b5 [(.int .i64 ((e % 1024))), (.int .i64 ((m % 32))), (.int .i64 ((h0 % 8 % 6))), (.int .i64 ((h1 % 8 % 6))), (.int .i64 ((h2 % 8 % 6))), (.int .i64 ((h3 % 8 % 6))), (.int .i64 ((h4 % 8 % 6)))] 48]
                        refine TL.v (Want.plain rfl) rfl rfl (PV.move rfl rfl) ?_
                        refine TL.v (Want.met rfl rfl rfl) rfl rfl (PV.loadN (vs := ints (⟨e % 1024, m % 32, #v[h0 % 8 % 6, h1 % 8 % 6, h2 % 8 % 6, h3 % 8 % 6, h4 % 8 % 6]⟩ : ViewT).flat) rfl Try.underlying48 rfl sz48 rfl (Rd.own 0 rfl rfl) (ViewT.len _) (by rw [List.drop_zero, List.take_of_length_le (by rw [ViewT.len]; exact Nat.le_refl _)])) ?_
                        refine TL.v (Want.met rfl rfl rfl) rfl rfl (PV.loadN (vs := [(.int .i64 ((e % 1024))), (.int .i64 ((m % 32))), (.int .i64 ((h0 % 8 % 6))), (.int .i64 ((h1 % 8 % 6))), (.int .i64 ((h2 % 8 % 6))), (.int .i64 ((h3 % 8 % 6))), (.int .i64 ((h4 % 8 % 6)))]) rfl Try.underlying48 rfl sz48 rfl (Rd.own 14 rfl rfl) rfl rfl) ?_
                        refine TL.v (Want.met rfl rfl rfl) rfl rfl (PV.eqlAgg (a := (⟨e % 1024, m % 32, #v[h0 % 8 % 6, h1 % 8 % 6, h2 % 8 % 6, h3 % 8 % 6, h4 % 8 % 6]⟩ : ViewT).flat) (b := (⟨e % 1024, m % 32, #v[h0 % 8 % 6, h1 % 8 % 6, h2 % 8 % 6, h3 % 8 % 6, h4 % 8 % 6]⟩ : ViewT).flat) (m := 3) (c := 7) Try.eqGuardType48 (by kernel_rfl) rfl (by kernel_rfl) rfl rfl ⟨formed_ag (by kernel_rfl) (by kernel_rfl) rfl, formed_ag (by kernel_rfl) (by kernel_rfl) rfl⟩ (wf_list (by simp only [ViewT.flat, ChangeT.flat, BallotT.flat, Vector.toList_mk, List.forall_mem_cons, List.not_mem_nil, false_implies, implies_true, and_true]; omega)) (wf_list (by simp only [ViewT.flat, ChangeT.flat, BallotT.flat, Vector.toList_mk, List.forall_mem_cons, List.not_mem_nil, false_implies, implies_true, and_true]; omega)) rfl rfl rfl) ?_
                        refine TL.dec (fun h89 => ?_) (fun h89 => ?_)
                        · skip
                          refine TL.v (Want.plain rfl) rfl rfl (PV.pick rfl rfl rfl) ?_
                          refine TL.v (Want.plain rfl) rfl rfl (PV.move rfl rfl) ?_
                          refine TL.v (Want.met rfl rfl rfl) rfl rfl (PV.loadN (vs := ints (⟨n % 1024 % 2, n % 1024 / 2 % 4, n % 1024 / 8 % 4⟩ : ChangeT).flat) rfl Try.underlying52 rfl sz52 rfl (Rd.own 1 rfl rfl) (ChangeT.len _) (by rw [List.drop_zero, List.take_of_length_le (by rw [ChangeT.len]; exact Nat.le_refl _)])) ?_
                          refine TL.v (Want.met rfl rfl rfl) rfl rfl (PV.loadN (vs := [(.int .i64 ((n % 1024 % 2))), (.int .i64 ((n % 1024 / 2 % 4))), (.int .i64 ((n % 1024 / 8 % 4)))]) rfl Try.underlying52 rfl sz52 rfl (Rd.own 6 rfl rfl) rfl rfl) ?_
                          refine TL.v (Want.met rfl rfl rfl) rfl rfl (PV.eqlAgg (a := (⟨n % 1024 % 2, n % 1024 / 2 % 4, n % 1024 / 8 % 4⟩ : ChangeT).flat) (b := (⟨n % 1024 % 2, n % 1024 / 2 % 4, n % 1024 / 8 % 4⟩ : ChangeT).flat) (m := 3) (c := 3) Try.eqGuardType52 (by kernel_rfl) rfl (by kernel_rfl) rfl rfl ⟨formed_ag (by kernel_rfl) (by kernel_rfl) rfl, formed_ag (by kernel_rfl) (by kernel_rfl) rfl⟩ (wf_list (by simp only [ViewT.flat, ChangeT.flat, BallotT.flat, Vector.toList_mk, List.forall_mem_cons, List.not_mem_nil, false_implies, implies_true, and_true]; omega)) (wf_list (by simp only [ViewT.flat, ChangeT.flat, BallotT.flat, Vector.toList_mk, List.forall_mem_cons, List.not_mem_nil, false_implies, implies_true, and_true]; omega)) rfl rfl rfl) ?_
                          refine TL.dec (fun h94 => ?_) (fun h94 => ?_)
                          · skip
                            refine TL.v (Want.plain rfl) rfl rfl (PV.pick rfl rfl rfl) ?_
                            refine TL.v (Want.plain rfl) rfl rfl (PV.move rfl rfl) ?_
                            refine TL.v (Want.met rfl rfl rfl) rfl rfl (PV.loadN (vs := ints (⟨l % 1024, n % 1024 / 32 % 4⟩ : BallotT).flat) rfl Try.underlying54 rfl sz54 rfl (Rd.own 2 rfl rfl) (BallotT.len _) (by rw [List.drop_zero, List.take_of_length_le (by rw [BallotT.len]; exact Nat.le_refl _)])) ?_
                            refine TL.v (Want.met rfl rfl rfl) rfl rfl (PV.loadN (vs := [(.int .i64 ((l % 1024))), (.int .i64 ((n % 1024 / 32 % 4)))]) rfl Try.underlying54 rfl sz54 rfl (Rd.own 7 rfl rfl) rfl rfl) ?_
                            refine TL.v (Want.met rfl rfl rfl) rfl rfl (PV.eqlAgg (a := (⟨l % 1024, n % 1024 / 32 % 4⟩ : BallotT).flat) (b := (⟨l % 1024, n % 1024 / 32 % 4⟩ : BallotT).flat) (m := 3) (c := 2) Try.eqGuardType54 (by kernel_rfl) rfl (by kernel_rfl) rfl rfl ⟨formed_ag (by kernel_rfl) (by kernel_rfl) rfl, formed_ag (by kernel_rfl) (by kernel_rfl) rfl⟩ (wf_list (by simp only [ViewT.flat, ChangeT.flat, BallotT.flat, Vector.toList_mk, List.forall_mem_cons, List.not_mem_nil, false_implies, implies_true, and_true]; omega)) (wf_list (by simp only [ViewT.flat, ChangeT.flat, BallotT.flat, Vector.toList_mk, List.forall_mem_cons, List.not_mem_nil, false_implies, implies_true, and_true]; omega)) rfl rfl rfl) ?_
                            refine TL.v (Want.plain rfl) rfl rfl (PV.pick rfl rfl rfl) ?_
                            refine TL.v (Want.plain rfl) rfl rfl (PV.assign rfl rfl) ?_
                            refine TL.nil ?_
                            refine TE.next hK48 ?_
                            clear hK48
                            refine TC.ret ?_
                            refine TE.weak (Sub.refl _) (fun _ s => sep_keep [] rfl s) ?_
                            refine TE.ret1 rfl rfl ?_
                            exact ⟨by simp, rfl⟩
                          · exact absurd rfl h94
                        · exact absurd rfl h89
                      · exact absurd hs (by rw [vcb_own]; simp)
                    exact AllT.nil
                  exact AllT.nil
                exact AllT.nil
              exact AllT.nil
            exact AllT.nil
          exact AllT.nil
        exact AllT.nil
      · skip
        have hlt := small_none (by omega) (by omega) hs
        change TL _ _ _ _ _ _ _ _ _ [blkA b4 [(.int .i64 ((l % 1024)))] 3, blkA b8 [(.int .i64 (-1))] 3, blkA b7 [u1] 33, ownB u1 (encs [(n % 1024)]) 5, ownB y1 (encs [(n % 1024)]) 5, blkA b24 [(.int .i64 ((n % 1024)))] 3, blkA b5 [(.int .i64 (e)), (.int .i64 (m)), (.int .i64 (h0)), (.int .i64 (h1)), (.int .i64 (h2)), (.int .i64 (h3)), (.int .i64 (h4))] 48]
        refine TL.v (Want.plain rfl) rfl rfl (PV.assign rfl rfl) ?_
        refine TL.nil ?_
        refine TE.next hK8 ?_
        clear hK8
        refine TC.seq (fun K49 hK49 => ?_)
        refine TC.seq (fun K50 hK50 => ?_)
        refine TC.region ?_
        refine TL.v (Want.plain rfl) rfl rfl (PV.move rfl rfl) ?_
        refine TL.v (Want.plain rfl) rfl rfl (PV.move rfl rfl) ?_
        refine TL.v (Want.plain rfl) rfl rfl (PV.load1 (v := (.int .i64 ((l % 1024)))) rfl Try.underlying3 rfl rfl (Rd.own 0 rfl rfl) rfl) ?_
        refine TL.v (Want.plain rfl) rfl rfl (PV.lssF hlt rfl rfl rfl) ?_
        refine TL.v (Want.plain rfl) rfl rfl (PV.neqB rfl Try.underlying4 rfl rfl) ?_
        refine TL.v (Want.plain rfl) rfl rfl (PV.move rfl rfl) ?_
        refine TL.v (Want.met rfl rfl rfl) rfl rfl (PV.move rfl rfl) ?_
        refine TL.v (Want.met rfl rfl rfl) rfl rfl (PV.move rfl rfl) ?_
        refine TL.unmet (b := false) rfl rfl rfl rfl (lb rfl) ?_
        refine TL.unmet (b := false) rfl rfl rfl rfl (lb rfl) ?_
        refine TL.unmet (b := false) rfl rfl rfl rfl (lb rfl) ?_
        refine TL.v (Want.met rfl rfl rfl) rfl rfl (PV.pick rfl rfl rfl) ?_
        refine TL.v (Want.plain rfl) rfl rfl (PV.pick rfl rfl rfl) ?_
        refine TL.nil ?_
        refine TE.next hK50 ?_
        clear hK50
        refine TC.no rfl ?_
        refine TC.skip ?_
        refine TE.next hK49 ?_
        clear hK49
        refine TC.seq (fun K51 hK51 => ?_)
        refine TC.region ?_
        refine TL.v (Want.plain rfl) rfl rfl (PV.fieldAddr (r := 0) rfl Try.underlying48 rfl sz3 rfl rfl) ?_
        refine TL.v (Want.plain rfl) rfl rfl (PV.load1 (v := (.int .i64 (e))) rfl Try.underlying3 rfl rfl (Rd.own 6 rfl rfl) rfl) ?_
        refine TL.v (Want.plain rfl) rfl rfl (PV.and (r := (e % 1024)) rfl rfl rfl (and10 _)) ?_
        refine TL.v (Want.plain rfl) rfl rfl (PV.fieldAddr (r := 1) rfl Try.underlying48 rfl sz3 rfl rfl) ?_
        refine TL.v (Want.plain rfl) rfl rfl (PV.load1 (v := (.int .i64 (m))) rfl Try.underlying3 rfl rfl (Rd.own 6 rfl rfl) rfl) ?_
        refine TL.v (Want.plain rfl) rfl rfl (PV.and (r := (m % 32)) rfl rfl rfl (and5 _)) ?_
        refine TL.v (Want.plain rfl) rfl rfl (PV.fieldAddr (r := 0) rfl Try.underlying48 rfl sz3 rfl rfl) ?_
        refine TL.store1 (i := 6) (H' := [blkA b4 [(.int .i64 ((l % 1024)))] 3, blkA b8 [(.int .i64 (-1))] 3, blkA b7 [u1] 33, ownB u1 (encs [(n % 1024)]) 5, ownB y1 (encs [(n % 1024)]) 5, blkA b24 [(.int .i64 ((n % 1024)))] 3, blkA b5 [(.int .i64 ((e % 1024))), (.int .i64 (m)), (.int .i64 (h0)), (.int .i64 (h1)), (.int .i64 (h2)), (.int .i64 (h3)), (.int .i64 (h4))] 48]) (Want.plain rfl) rfl rfl rfl rfl rfl sz3 rfl rfl (lb rfl) rfl rfl ?_
        refine TL.v (Want.plain rfl) rfl rfl (PV.fieldAddr (r := 1) rfl Try.underlying48 rfl sz3 rfl rfl) ?_
        refine TL.store1 (i := 6) (H' := [blkA b4 [(.int .i64 ((l % 1024)))] 3, blkA b8 [(.int .i64 (-1))] 3, blkA b7 [u1] 33, ownB u1 (encs [(n % 1024)]) 5, ownB y1 (encs [(n % 1024)]) 5, blkA b24 [(.int .i64 ((n % 1024)))] 3, blkA b5 [(.int .i64 ((e % 1024))), (.int .i64 ((m % 32))), (.int .i64 (h0)), (.int .i64 (h1)), (.int .i64 (h2)), (.int .i64 (h3)), (.int .i64 (h4))] 48]) (Want.plain rfl) rfl rfl rfl rfl rfl sz3 rfl rfl (lb rfl) rfl rfl ?_
        refine TL.nil ?_
        refine TE.next hK51 ?_
        clear hK51
        refine TC.seq (fun K52 hK52 => ?_)
        refine TC.seq (fun K53 hK53 => ?_)
        refine TC.region ?_
        refine TL.v (Want.plain rfl) rfl rfl (PV.move rfl rfl) ?_
        refine TL.nil ?_
        refine TE.next hK53 ?_
        clear hK53
        refine TC.block ?_
        refine TC.unroll 5 ?_
        refine TC.seq (fun K54 hK54 => ?_)
        refine TC.region ?_
        refine TL.v (Want.plain rfl) rfl rfl (PV.lss rfl rfl rfl) ?_
        refine TL.nil ?_
        refine TE.next hK54 ?_
        clear hK54
        refine TC.seq (fun K55 hK55 => ?_)
        refine TC.yes rfl ?_
        refine TC.skip ?_
        refine TE.next hK55 ?_
        clear hK55
        refine TC.seq (fun K56 hK56 => ?_)
        refine TC.block ?_
        refine TC.seq (fun K57 hK57 => ?_)
        refine TC.region ?_
        refine TL.v (Want.plain rfl) rfl rfl (PV.move rfl rfl) ?_
        refine TL.v (Want.plain rfl) rfl rfl (PV.assign rfl rfl) ?_
        refine TL.nil ?_
        refine TE.next hK57 ?_
        clear hK57
        refine TC.region ?_
        refine TL.v (Want.plain rfl) rfl rfl (PV.move rfl rfl) ?_
        refine TL.v (Want.plain rfl) rfl rfl (PV.move rfl rfl) ?_
        refine TL.v (Want.plain rfl) rfl rfl (PV.fieldAddr (r := 2) rfl Try.underlying48 rfl sz22 rfl rfl) ?_
        refine TL.v (Want.plain rfl) rfl rfl (PV.indexArr (r := 2) rfl Try.underlying22 sz3 rfl rfl (lz rfl) (lz rfl) rfl) ?_
        refine TL.v (Want.plain rfl) rfl rfl (PV.load1 (v := (.int .i64 (h0))) rfl Try.underlying3 rfl rfl (Rd.own 6 rfl rfl) rfl) ?_
        refine TL.v (Want.plain rfl) rfl rfl (PV.and (r := (h0 % 8)) rfl rfl rfl (and3 _)) ?_
        refine TL.v (Want.plain rfl) rfl rfl (PV.rem (r := (h0 % 8 % 6)) rfl rfl rfl (by decide) (rem6 _)) ?_
        refine TL.v (Want.plain rfl) rfl rfl (PV.fieldAddr (r := 2) rfl Try.underlying48 rfl sz22 rfl rfl) ?_
        refine TL.v (Want.plain rfl) rfl rfl (PV.indexArr (r := 2) rfl Try.underlying22 sz3 rfl rfl (lz rfl) (lz rfl) rfl) ?_
        refine TL.store1 (i := 6) (H' := [blkA b4 [(.int .i64 ((l % 1024)))] 3, blkA b8 [(.int .i64 (-1))] 3, blkA b7 [u1] 33, ownB u1 (encs [(n % 1024)]) 5, ownB y1 (encs [(n % 1024)]) 5, blkA b24 [(.int .i64 ((n % 1024)))] 3, blkA b5 [(.int .i64 ((e % 1024))), (.int .i64 ((m % 32))), (.int .i64 ((h0 % 8 % 6))), (.int .i64 (h1)), (.int .i64 (h2)), (.int .i64 (h3)), (.int .i64 (h4))] 48]) (Want.plain rfl) rfl rfl rfl rfl rfl sz3 rfl rfl (lb rfl) rfl rfl ?_
        refine TL.nil ?_
        refine TE.blockEnd ?_
        refine TE.next hK56 ?_
        clear hK56
        refine TC.region ?_
        refine TL.v (Want.plain rfl) rfl rfl (PV.add (r := 1) rfl rfl rfl (by decide)) ?_
        refine TL.v (Want.plain rfl) rfl rfl (PV.move rfl rfl) ?_
        refine TL.nil ?_
        refine TE.again ?_
        refine TC.seq (fun K58 hK58 => ?_)
        refine TC.region ?_
        refine TL.v (Want.plain rfl) rfl rfl (PV.lss rfl rfl rfl) ?_
        refine TL.nil ?_
        refine TE.next hK58 ?_
        clear hK58
        refine TC.seq (fun K59 hK59 => ?_)
        refine TC.yes rfl ?_
        refine TC.skip ?_
        refine TE.next hK59 ?_
        clear hK59
        refine TC.seq (fun K60 hK60 => ?_)
        refine TC.block ?_
        refine TC.seq (fun K61 hK61 => ?_)
        refine TC.region ?_
        refine TL.v (Want.plain rfl) rfl rfl (PV.move rfl rfl) ?_
        refine TL.v (Want.plain rfl) rfl rfl (PV.assign rfl rfl) ?_
        refine TL.nil ?_
        refine TE.next hK61 ?_
        clear hK61
        refine TC.region ?_
        refine TL.v (Want.plain rfl) rfl rfl (PV.move rfl rfl) ?_
        refine TL.v (Want.plain rfl) rfl rfl (PV.move rfl rfl) ?_
        refine TL.v (Want.plain rfl) rfl rfl (PV.fieldAddr (r := 2) rfl Try.underlying48 rfl sz22 rfl rfl) ?_
        refine TL.v (Want.plain rfl) rfl rfl (PV.indexArr (r := 3) rfl Try.underlying22 sz3 rfl rfl (lz rfl) (lz rfl) rfl) ?_
        refine TL.v (Want.plain rfl) rfl rfl (PV.load1 (v := (.int .i64 (h1))) rfl Try.underlying3 rfl rfl (Rd.own 6 rfl rfl) rfl) ?_
        refine TL.v (Want.plain rfl) rfl rfl (PV.and (r := (h1 % 8)) rfl rfl rfl (and3 _)) ?_
        refine TL.v (Want.plain rfl) rfl rfl (PV.rem (r := (h1 % 8 % 6)) rfl rfl rfl (by decide) (rem6 _)) ?_
        refine TL.v (Want.plain rfl) rfl rfl (PV.fieldAddr (r := 2) rfl Try.underlying48 rfl sz22 rfl rfl) ?_
        refine TL.v (Want.plain rfl) rfl rfl (PV.indexArr (r := 3) rfl Try.underlying22 sz3 rfl rfl (lz rfl) (lz rfl) rfl) ?_
        refine TL.store1 (i := 6) (H' := [blkA b4 [(.int .i64 ((l % 1024)))] 3, blkA b8 [(.int .i64 (-1))] 3, blkA b7 [u1] 33, ownB u1 (encs [(n % 1024)]) 5, ownB y1 (encs [(n % 1024)]) 5, blkA b24 [(.int .i64 ((n % 1024)))] 3, blkA b5 [(.int .i64 ((e % 1024))), (.int .i64 ((m % 32))), (.int .i64 ((h0 % 8 % 6))), (.int .i64 ((h1 % 8 % 6))), (.int .i64 (h2)), (.int .i64 (h3)), (.int .i64 (h4))] 48]) (Want.plain rfl) rfl rfl rfl rfl rfl sz3 rfl rfl (lb rfl) rfl rfl ?_
        refine TL.nil ?_
        refine TE.blockEnd ?_
        refine TE.next hK60 ?_
        clear hK60
        refine TC.region ?_
        refine TL.v (Want.plain rfl) rfl rfl (PV.add (r := 2) rfl rfl rfl (by decide)) ?_
        refine TL.v (Want.plain rfl) rfl rfl (PV.move rfl rfl) ?_
        refine TL.nil ?_
        refine TE.again ?_
        refine TC.seq (fun K62 hK62 => ?_)
        refine TC.region ?_
        refine TL.v (Want.plain rfl) rfl rfl (PV.lss rfl rfl rfl) ?_
        refine TL.nil ?_
        refine TE.next hK62 ?_
        clear hK62
        refine TC.seq (fun K63 hK63 => ?_)
        refine TC.yes rfl ?_
        refine TC.skip ?_
        refine TE.next hK63 ?_
        clear hK63
        refine TC.seq (fun K64 hK64 => ?_)
        refine TC.block ?_
        refine TC.seq (fun K65 hK65 => ?_)
        refine TC.region ?_
        refine TL.v (Want.plain rfl) rfl rfl (PV.move rfl rfl) ?_
        refine TL.v (Want.plain rfl) rfl rfl (PV.assign rfl rfl) ?_
        refine TL.nil ?_
        refine TE.next hK65 ?_
        clear hK65
        refine TC.region ?_
        refine TL.v (Want.plain rfl) rfl rfl (PV.move rfl rfl) ?_
        refine TL.v (Want.plain rfl) rfl rfl (PV.move rfl rfl) ?_
        refine TL.v (Want.plain rfl) rfl rfl (PV.fieldAddr (r := 2) rfl Try.underlying48 rfl sz22 rfl rfl) ?_
        refine TL.v (Want.plain rfl) rfl rfl (PV.indexArr (r := 4) rfl Try.underlying22 sz3 rfl rfl (lz rfl) (lz rfl) rfl) ?_
        refine TL.v (Want.plain rfl) rfl rfl (PV.load1 (v := (.int .i64 (h2))) rfl Try.underlying3 rfl rfl (Rd.own 6 rfl rfl) rfl) ?_
        refine TL.v (Want.plain rfl) rfl rfl (PV.and (r := (h2 % 8)) rfl rfl rfl (and3 _)) ?_
        refine TL.v (Want.plain rfl) rfl rfl (PV.rem (r := (h2 % 8 % 6)) rfl rfl rfl (by decide) (rem6 _)) ?_
        refine TL.v (Want.plain rfl) rfl rfl (PV.fieldAddr (r := 2) rfl Try.underlying48 rfl sz22 rfl rfl) ?_
        refine TL.v (Want.plain rfl) rfl rfl (PV.indexArr (r := 4) rfl Try.underlying22 sz3 rfl rfl (lz rfl) (lz rfl) rfl) ?_
        refine TL.store1 (i := 6) (H' := [blkA b4 [(.int .i64 ((l % 1024)))] 3, blkA b8 [(.int .i64 (-1))] 3, blkA b7 [u1] 33, ownB u1 (encs [(n % 1024)]) 5, ownB y1 (encs [(n % 1024)]) 5, blkA b24 [(.int .i64 ((n % 1024)))] 3, blkA b5 [(.int .i64 ((e % 1024))), (.int .i64 ((m % 32))), (.int .i64 ((h0 % 8 % 6))), (.int .i64 ((h1 % 8 % 6))), (.int .i64 ((h2 % 8 % 6))), (.int .i64 (h3)), (.int .i64 (h4))] 48]) (Want.plain rfl) rfl rfl rfl rfl rfl sz3 rfl rfl (lb rfl) rfl rfl ?_
        refine TL.nil ?_
        refine TE.blockEnd ?_
        refine TE.next hK64 ?_
        clear hK64
        refine TC.region ?_
        refine TL.v (Want.plain rfl) rfl rfl (PV.add (r := 3) rfl rfl rfl (by decide)) ?_
        refine TL.v (Want.plain rfl) rfl rfl (PV.move rfl rfl) ?_
        refine TL.nil ?_
        refine TE.again ?_
        refine TC.seq (fun K66 hK66 => ?_)
        refine TC.region ?_
        refine TL.v (Want.plain rfl) rfl rfl (PV.lss rfl rfl rfl) ?_
        refine TL.nil ?_
        refine TE.next hK66 ?_
        clear hK66
        refine TC.seq (fun K67 hK67 => ?_)
        refine TC.yes rfl ?_
        refine TC.skip ?_
        refine TE.next hK67 ?_
        clear hK67
        refine TC.seq (fun K68 hK68 => ?_)
        refine TC.block ?_
        refine TC.seq (fun K69 hK69 => ?_)
        refine TC.region ?_
        refine TL.v (Want.plain rfl) rfl rfl (PV.move rfl rfl) ?_
        refine TL.v (Want.plain rfl) rfl rfl (PV.assign rfl rfl) ?_
        refine TL.nil ?_
        refine TE.next hK69 ?_
        clear hK69
        refine TC.region ?_
        refine TL.v (Want.plain rfl) rfl rfl (PV.move rfl rfl) ?_
        refine TL.v (Want.plain rfl) rfl rfl (PV.move rfl rfl) ?_
        refine TL.v (Want.plain rfl) rfl rfl (PV.fieldAddr (r := 2) rfl Try.underlying48 rfl sz22 rfl rfl) ?_
        refine TL.v (Want.plain rfl) rfl rfl (PV.indexArr (r := 5) rfl Try.underlying22 sz3 rfl rfl (lz rfl) (lz rfl) rfl) ?_
        refine TL.v (Want.plain rfl) rfl rfl (PV.load1 (v := (.int .i64 (h3))) rfl Try.underlying3 rfl rfl (Rd.own 6 rfl rfl) rfl) ?_
        refine TL.v (Want.plain rfl) rfl rfl (PV.and (r := (h3 % 8)) rfl rfl rfl (and3 _)) ?_
        refine TL.v (Want.plain rfl) rfl rfl (PV.rem (r := (h3 % 8 % 6)) rfl rfl rfl (by decide) (rem6 _)) ?_
        refine TL.v (Want.plain rfl) rfl rfl (PV.fieldAddr (r := 2) rfl Try.underlying48 rfl sz22 rfl rfl) ?_
        refine TL.v (Want.plain rfl) rfl rfl (PV.indexArr (r := 5) rfl Try.underlying22 sz3 rfl rfl (lz rfl) (lz rfl) rfl) ?_
        refine TL.store1 (i := 6) (H' := [blkA b4 [(.int .i64 ((l % 1024)))] 3, blkA b8 [(.int .i64 (-1))] 3, blkA b7 [u1] 33, ownB u1 (encs [(n % 1024)]) 5, ownB y1 (encs [(n % 1024)]) 5, blkA b24 [(.int .i64 ((n % 1024)))] 3, blkA b5 [(.int .i64 ((e % 1024))), (.int .i64 ((m % 32))), (.int .i64 ((h0 % 8 % 6))), (.int .i64 ((h1 % 8 % 6))), (.int .i64 ((h2 % 8 % 6))), (.int .i64 ((h3 % 8 % 6))), (.int .i64 (h4))] 48]) (Want.plain rfl) rfl rfl rfl rfl rfl sz3 rfl rfl (lb rfl) rfl rfl ?_
        refine TL.nil ?_
        refine TE.blockEnd ?_
        refine TE.next hK68 ?_
        clear hK68
        refine TC.region ?_
        refine TL.v (Want.plain rfl) rfl rfl (PV.add (r := 4) rfl rfl rfl (by decide)) ?_
        refine TL.v (Want.plain rfl) rfl rfl (PV.move rfl rfl) ?_
        refine TL.nil ?_
        refine TE.again ?_
        refine TC.seq (fun K70 hK70 => ?_)
        refine TC.region ?_
        refine TL.v (Want.plain rfl) rfl rfl (PV.lss rfl rfl rfl) ?_
        refine TL.nil ?_
        refine TE.next hK70 ?_
        clear hK70
        refine TC.seq (fun K71 hK71 => ?_)
        refine TC.yes rfl ?_
        refine TC.skip ?_
        refine TE.next hK71 ?_
        clear hK71
        refine TC.seq (fun K72 hK72 => ?_)
        refine TC.block ?_
        refine TC.seq (fun K73 hK73 => ?_)
        refine TC.region ?_
        refine TL.v (Want.plain rfl) rfl rfl (PV.move rfl rfl) ?_
        refine TL.v (Want.plain rfl) rfl rfl (PV.assign rfl rfl) ?_
        refine TL.nil ?_
        refine TE.next hK73 ?_
        clear hK73
        refine TC.region ?_
        refine TL.v (Want.plain rfl) rfl rfl (PV.move rfl rfl) ?_
        refine TL.v (Want.plain rfl) rfl rfl (PV.move rfl rfl) ?_
        refine TL.v (Want.plain rfl) rfl rfl (PV.fieldAddr (r := 2) rfl Try.underlying48 rfl sz22 rfl rfl) ?_
        refine TL.v (Want.plain rfl) rfl rfl (PV.indexArr (r := 6) rfl Try.underlying22 sz3 rfl rfl (lz rfl) (lz rfl) rfl) ?_
        refine TL.v (Want.plain rfl) rfl rfl (PV.load1 (v := (.int .i64 (h4))) rfl Try.underlying3 rfl rfl (Rd.own 6 rfl rfl) rfl) ?_
        refine TL.v (Want.plain rfl) rfl rfl (PV.and (r := (h4 % 8)) rfl rfl rfl (and3 _)) ?_
        refine TL.v (Want.plain rfl) rfl rfl (PV.rem (r := (h4 % 8 % 6)) rfl rfl rfl (by decide) (rem6 _)) ?_
        refine TL.v (Want.plain rfl) rfl rfl (PV.fieldAddr (r := 2) rfl Try.underlying48 rfl sz22 rfl rfl) ?_
        refine TL.v (Want.plain rfl) rfl rfl (PV.indexArr (r := 6) rfl Try.underlying22 sz3 rfl rfl (lz rfl) (lz rfl) rfl) ?_
        refine TL.store1 (i := 6) (H' := [blkA b4 [(.int .i64 ((l % 1024)))] 3, blkA b8 [(.int .i64 (-1))] 3, blkA b7 [u1] 33, ownB u1 (encs [(n % 1024)]) 5, ownB y1 (encs [(n % 1024)]) 5, blkA b24 [(.int .i64 ((n % 1024)))] 3, blkA b5 [(.int .i64 ((e % 1024))), (.int .i64 ((m % 32))), (.int .i64 ((h0 % 8 % 6))), (.int .i64 ((h1 % 8 % 6))), (.int .i64 ((h2 % 8 % 6))), (.int .i64 ((h3 % 8 % 6))), (.int .i64 ((h4 % 8 % 6)))] 48]) (Want.plain rfl) rfl rfl rfl rfl rfl sz3 rfl rfl (lb rfl) rfl rfl ?_
        refine TL.nil ?_
        refine TE.blockEnd ?_
        refine TE.next hK72 ?_
        clear hK72
        refine TC.region ?_
        refine TL.v (Want.plain rfl) rfl rfl (PV.add (r := 5) rfl rfl rfl (by decide)) ?_
        refine TL.v (Want.plain rfl) rfl rfl (PV.move rfl rfl) ?_
        refine TL.nil ?_
        refine TE.again ?_
        refine TC.seq (fun K74 hK74 => ?_)
        refine TC.region ?_
        refine TL.v (Want.plain rfl) rfl rfl (PV.lss rfl rfl rfl) ?_
        refine TL.nil ?_
        refine TE.next hK74 ?_
        clear hK74
        refine TC.seq (fun K75 hK75 => ?_)
        refine TC.no rfl ?_
        refine TC.exit ?_
        refine TE.pass ?_
        clear hK75
        refine TE.pass ?_
        refine TE.hit ?_
        refine TE.next hK52 ?_
        clear hK52
        refine TC.seq (fun K76 hK76 => ?_)
        refine TC.draw (fun w => Frm F w ∧ w.heap[b4]? = some (.cells ([(.int .i64 ((l % 1024)))]).toArray 3 (0, 0)) ∧ True) mixed rfl (fun _ s => ⟨Frm.of s, s.block 0 (lb rfl) rfl, trivial⟩) ?_
        refine TD.take (i := 0) rfl (by kernel_rfl) (by kernel_rfl) (by kernel_rfl) (fun _ _ _ _ h => h) (Want.plain rfl) rfl rfl (PV.move rfl rfl) ?_
        refine TD.take (i := 1) rfl (by kernel_rfl) (by kernel_rfl) (by kernel_rfl) (fun _ _ _ _ h => h) (Want.plain rfl) rfl rfl (PV.and (r := (n % 1024 % 2)) rfl rfl rfl (and1 _)) ?_
        refine TD.take (i := 2) rfl (by kernel_rfl) (by kernel_rfl) (by kernel_rfl) (fun _ _ _ _ h => h) (Want.plain rfl) rfl rfl (PV.move rfl rfl) ?_
        refine TD.take (i := 3) rfl (by kernel_rfl) (by kernel_rfl) (by kernel_rfl) (fun _ _ _ _ h => h) (Want.plain rfl) rfl rfl (PV.shr (r := (n % 1024 / 2)) rfl rfl rfl (by decide) (shrI _ 1 (by decide))) ?_
        refine TD.take (i := 4) rfl (by kernel_rfl) (by kernel_rfl) (by kernel_rfl) (fun _ _ _ _ h => h) (Want.plain rfl) rfl rfl (PV.and (r := (n % 1024 / 2 % 4)) rfl rfl rfl (and2 _)) ?_
        refine TD.take (i := 5) rfl (by kernel_rfl) (by kernel_rfl) (by kernel_rfl) (fun _ _ _ _ h => h) (Want.plain rfl) rfl rfl (PV.move rfl rfl) ?_
        refine TD.take (i := 6) rfl (by kernel_rfl) (by kernel_rfl) (by kernel_rfl) (fun _ _ _ _ h => h) (Want.plain rfl) rfl rfl (PV.shr (r := (n % 1024 / 8)) rfl rfl rfl (by decide) (shrI _ 3 (by decide))) ?_
        refine TD.take (i := 7) rfl (by kernel_rfl) (by kernel_rfl) (by kernel_rfl) (fun _ _ _ _ h => h) (Want.plain rfl) rfl rfl (PV.and (r := (n % 1024 / 8 % 4)) rfl rfl rfl (and2 _)) ?_
        refine TD.take (i := 8) rfl (by kernel_rfl) (by kernel_rfl) (by kernel_rfl) (fun _ _ _ _ h => h) (Want.plain rfl) rfl rfl (PV.build (cells := #[(.int .i64 ((n % 1024 % 2))), (.int .i64 ((n % 1024 / 2 % 4))), (.int .i64 ((n % 1024 / 8 % 4)))]) rfl rfl (by as_aux_lemma => kernel_rfl)) ?_
        refine TD.take (i := 9) rfl (by kernel_rfl) (by kernel_rfl) (by kernel_rfl) (fun _ _ _ _ h => h) (Want.plain rfl) rfl rfl (PV.load1 (v := (.int .i64 ((l % 1024)))) rfl Try.underlying3 rfl rfl (Rd.right (Rd.left)) rfl) ?_
        refine TD.take (i := 10) rfl (by kernel_rfl) (by kernel_rfl) (by kernel_rfl) (fun _ _ _ _ h => h) (Want.plain rfl) rfl rfl (PV.move rfl rfl) ?_
        refine TD.take (i := 11) rfl (by kernel_rfl) (by kernel_rfl) (by kernel_rfl) (fun _ _ _ _ h => h) (Want.plain rfl) rfl rfl (PV.shr (r := (n % 1024 / 32)) rfl rfl rfl (by decide) (shrI _ 5 (by decide))) ?_
        refine TD.take (i := 12) rfl (by kernel_rfl) (by kernel_rfl) (by kernel_rfl) (fun _ _ _ _ h => h) (Want.plain rfl) rfl rfl (PV.and (r := (n % 1024 / 32 % 4)) rfl rfl rfl (and2 _)) ?_
        refine TD.take (i := 13) rfl (by kernel_rfl) (by kernel_rfl) (by kernel_rfl) (fun _ _ _ _ h => h) (Want.plain rfl) rfl rfl (PV.build (cells := #[(.int .i64 ((l % 1024))), (.int .i64 ((n % 1024 / 32 % 4)))]) rfl rfl (by as_aux_lemma => kernel_rfl)) ?_
        refine TD.all [14, 15] (by kernel_rfl) rfl ?_
        refine AllT.cons rfl ?_ ?_
        · skip
          refine TL.alloc (Want.plain rfl) rfl rfl rfl z52 (fun b11 => ?_)
          change TL _ _ _ _ _ _ _ _ _ [blkA b11 [(.int .i64 0), (.int .i64 0), (.int .i64 0)] 52, blkA b4 [(.int .i64 ((l % 1024)))] 3, blkA b8 [(.int .i64 (-1))] 3, blkA b7 [u1] 33, ownB u1 (encs [(n % 1024)]) 5, ownB y1 (encs [(n % 1024)]) 5, blkA b24 [(.int .i64 ((n % 1024)))] 3, blkA b5 [(.int .i64 ((e % 1024))), (.int .i64 ((m % 32))), (.int .i64 ((h0 % 8 % 6))), (.int .i64 ((h1 % 8 % 6))), (.int .i64 ((h2 % 8 % 6))), (.int .i64 ((h3 % 8 % 6))), (.int .i64 ((h4 % 8 % 6)))] 48]
          refine TL.nil ?_
          refine TE.draw (fun _ s => ⟨Frm.of s, s.block 1 (lb rfl) rfl, trivial⟩) ?_
          refine TD.all [15] (by kernel_rfl) rfl ?_
          refine AllT.cons rfl ?_ ?_
          · skip
            refine TL.alloc (Want.plain rfl) rfl rfl rfl z54 (fun b12 => ?_)
            change TL _ _ _ _ _ _ _ _ _ [blkA b12 [(.int .i64 0), (.int .i64 0)] 54, blkA b11 [(.int .i64 0), (.int .i64 0), (.int .i64 0)] 52, blkA b4 [(.int .i64 ((l % 1024)))] 3, blkA b8 [(.int .i64 (-1))] 3, blkA b7 [u1] 33, ownB u1 (encs [(n % 1024)]) 5, ownB y1 (encs [(n % 1024)]) 5, blkA b24 [(.int .i64 ((n % 1024)))] 3, blkA b5 [(.int .i64 ((e % 1024))), (.int .i64 ((m % 32))), (.int .i64 ((h0 % 8 % 6))), (.int .i64 ((h1 % 8 % 6))), (.int .i64 ((h2 % 8 % 6))), (.int .i64 ((h3 % 8 % 6))), (.int .i64 ((h4 % 8 % 6)))] 48]
            refine TL.nil ?_
            refine TE.draw (fun _ s => ⟨Frm.of s, s.block 2 (lb rfl) rfl, trivial⟩) ?_
            refine TD.all [16] (by kernel_rfl) rfl ?_
            refine AllT.cons rfl ?_ ?_
            · skip
              refine TL.store (vs := [(.int .i64 ((n % 1024 % 2))), (.int .i64 ((n % 1024 / 2 % 4))), (.int .i64 ((n % 1024 / 8 % 4)))]) (i := 1) (H' := [blkA b12 [(.int .i64 0), (.int .i64 0)] 54, blkA b11 [(.int .i64 ((n % 1024 % 2))), (.int .i64 ((n % 1024 / 2 % 4))), (.int .i64 ((n % 1024 / 8 % 4)))] 52, blkA b4 [(.int .i64 ((l % 1024)))] 3, blkA b8 [(.int .i64 (-1))] 3, blkA b7 [u1] 33, ownB u1 (encs [(n % 1024)]) 5, ownB y1 (encs [(n % 1024)]) 5, blkA b24 [(.int .i64 ((n % 1024)))] 3, blkA b5 [(.int .i64 ((e % 1024))), (.int .i64 ((m % 32))), (.int .i64 ((h0 % 8 % 6))), (.int .i64 ((h1 % 8 % 6))), (.int .i64 ((h2 % 8 % 6))), (.int .i64 ((h3 % 8 % 6))), (.int .i64 ((h4 % 8 % 6)))] 48]) (Want.plain rfl) rfl rfl rfl rfl rfl sz52 (by simp [Value.oneCell']) rfl rfl (lbe rfl) rfl rfl ?_
              refine TL.nil ?_
              refine TE.draw (fun _ s => ⟨Frm.of s, s.block 2 (lb rfl) rfl, trivial⟩) ?_
              refine TD.all [17] (by kernel_rfl) rfl ?_
              refine AllT.cons rfl ?_ ?_
              · skip
                refine TL.store (vs := [(.int .i64 ((l % 1024))), (.int .i64 ((n % 1024 / 32 % 4)))]) (i := 0) (H' := [blkA b12 [(.int .i64 ((l % 1024))), (.int .i64 ((n % 1024 / 32 % 4)))] 54, blkA b11 [(.int .i64 ((n % 1024 % 2))), (.int .i64 ((n % 1024 / 2 % 4))), (.int .i64 ((n % 1024 / 8 % 4)))] 52, blkA b4 [(.int .i64 ((l % 1024)))] 3, blkA b8 [(.int .i64 (-1))] 3, blkA b7 [u1] 33, ownB u1 (encs [(n % 1024)]) 5, ownB y1 (encs [(n % 1024)]) 5, blkA b24 [(.int .i64 ((n % 1024)))] 3, blkA b5 [(.int .i64 ((e % 1024))), (.int .i64 ((m % 32))), (.int .i64 ((h0 % 8 % 6))), (.int .i64 ((h1 % 8 % 6))), (.int .i64 ((h2 % 8 % 6))), (.int .i64 ((h3 % 8 % 6))), (.int .i64 ((h4 % 8 % 6)))] 48]) (Want.plain rfl) rfl rfl rfl rfl rfl sz54 (by simp [Value.oneCell']) rfl rfl (lbe rfl) rfl rfl ?_
                refine TL.nil ?_
                refine TE.draw (fun _ s => ⟨Frm.of s, s.block 2 (lb rfl) rfl, trivial⟩) ?_
                refine TD.done (by kernel_rfl) ?_
                refine TE.next hK76 ?_
                clear hK76
                refine TC.seq (fun K77 hK77 => ?_)
                refine TC.region ?_
                refine TL.alloc (Want.plain rfl) rfl rfl rfl z33 (fun b13 => ?_)
                change TL _ _ _ _ _ _ _ _ _ [blkA b13 [(.slice none 0 0)] 33, blkA b12 [(.int .i64 ((l % 1024))), (.int .i64 ((n % 1024 / 32 % 4)))] 54, blkA b11 [(.int .i64 ((n % 1024 % 2))), (.int .i64 ((n % 1024 / 2 % 4))), (.int .i64 ((n % 1024 / 8 % 4)))] 52, blkA b4 [(.int .i64 ((l % 1024)))] 3, blkA b8 [(.int .i64 (-1))] 3, blkA b7 [u1] 33, ownB u1 (encs [(n % 1024)]) 5, ownB y1 (encs [(n % 1024)]) 5, blkA b24 [(.int .i64 ((n % 1024)))] 3, blkA b5 [(.int .i64 ((e % 1024))), (.int .i64 ((m % 32))), (.int .i64 ((h0 % 8 % 6))), (.int .i64 ((h1 % 8 % 6))), (.int .i64 ((h2 % 8 % 6))), (.int .i64 ((h3 % 8 % 6))), (.int .i64 ((h4 % 8 % 6)))] 48]
                refine TL.ownNil 5 (fun on => ?_)
                clear on
                refine TL.nil ?_
                refine TE.next hK77 ?_
                clear hK77
                refine TC.seq (fun K78 hK78 => ?_)
                refine TC.draw (fun w => Frm F w ∧ w.heap[b5]? = some (.cells ([(.int .i64 ((e % 1024))), (.int .i64 ((m % 32))), (.int .i64 ((h0 % 8 % 6))), (.int .i64 ((h1 % 8 % 6))), (.int .i64 ((h2 % 8 % 6))), (.int .i64 ((h3 % 8 % 6))), (.int .i64 ((h4 % 8 % 6)))]).toArray 48 (0, 0)) ∧ w.heap[b11]? = some (.cells ([(.int .i64 ((n % 1024 % 2))), (.int .i64 ((n % 1024 / 2 % 4))), (.int .i64 ((n % 1024 / 8 % 4)))]).toArray 52 (0, 0)) ∧ w.heap[b12]? = some (.cells ([(.int .i64 ((l % 1024))), (.int .i64 ((n % 1024 / 32 % 4)))]).toArray 54 (0, 0)) ∧ True) mixed rfl (fun _ s => ⟨Frm.of s, s.block 10 (lb rfl) rfl, s.block 3 (lb rfl) rfl, s.block 2 (lb rfl) rfl, trivial⟩) ?_
                refine TD.take (i := 0) rfl (by kernel_rfl) (by kernel_rfl) (by kernel_rfl) (fun _ _ _ _ h => h) (Want.plain rfl) rfl rfl (PV.loadN (vs := [(.int .i64 ((e % 1024))), (.int .i64 ((m % 32))), (.int .i64 ((h0 % 8 % 6))), (.int .i64 ((h1 % 8 % 6))), (.int .i64 ((h2 % 8 % 6))), (.int .i64 ((h3 % 8 % 6))), (.int .i64 ((h4 % 8 % 6)))]) rfl Try.underlying48 rfl sz48 rfl (Rd.right (Rd.left)) rfl rfl) ?_
                refine TD.take (i := 2) rfl (by kernel_rfl) (by kernel_rfl) (by kernel_rfl) (fun _ _ _ _ h => h) (Want.plain rfl) rfl rfl (PV.loadN (vs := [(.int .i64 ((n % 1024 % 2))), (.int .i64 ((n % 1024 / 2 % 4))), (.int .i64 ((n % 1024 / 8 % 4)))]) rfl Try.underlying52 rfl sz52 rfl (Rd.right (Rd.right (Rd.left))) rfl rfl) ?_
                refine TD.take (i := 4) rfl (by kernel_rfl) (by kernel_rfl) (by kernel_rfl) (fun _ _ _ _ h => h) (Want.plain rfl) rfl rfl (PV.loadN (vs := [(.int .i64 ((l % 1024))), (.int .i64 ((n % 1024 / 32 % 4)))]) rfl Try.underlying54 rfl sz54 rfl (Rd.right (Rd.right (Rd.right (Rd.left)))) rfl rfl) ?_
                refine TD.all [1] (by kernel_rfl) rfl ?_
                refine AllT.cons rfl ?_ ?_
                · skip
                  refine TL.callR (A := [blkA b13 [(.slice none 0 0)] 33, ownB (.slice none 0 0) ([]) 5]) (B := [blkA b12 [(.int .i64 ((l % 1024))), (.int .i64 ((n % 1024 / 32 % 4)))] 54, blkA b11 [(.int .i64 ((n % 1024 % 2))), (.int .i64 ((n % 1024 / 2 % 4))), (.int .i64 ((n % 1024 / 8 % 4)))] 52, blkA b4 [(.int .i64 ((l % 1024)))] 3, blkA b8 [(.int .i64 (-1))] 3, blkA b7 [u1] 33, ownB u1 (encs [(n % 1024)]) 5, ownB y1 (encs [(n % 1024)]) 5, blkA b24 [(.int .i64 ((n % 1024)))] 3, blkA b5 [(.int .i64 ((e % 1024))), (.int .i64 ((m % 32))), (.int .i64 ((h0 % 8 % 6))), (.int .i64 ((h1 % 8 % 6))), (.int .i64 ((h2 % 8 % 6))), (.int .i64 ((h3 % 8 % 6))), (.int .i64 ((h4 % 8 % 6)))] 48]) (Want.plain rfl) rfl rfl rfl nm21 rfl (wview_does b13 (.slice none 0 0) ([]) (⟨e % 1024, m % 32, #v[h0 % 8 % 6, h1 % 8 % 6, h2 % 8 % 6, h3 % 8 % 6, h4 % 8 % 6]⟩ : ViewT) (by have q1 := encs_len [n % 1024]; have q2 := encs_len (⟨e % 1024, m % 32, #v[h0 % 8 % 6, h1 % 8 % 6, h2 % 8 % 6, h3 % 8 % 6, h4 % 8 % 6]⟩ : ViewT).flat; have q3 := encs_len (⟨n % 1024 % 2, n % 1024 / 2 % 4, n % 1024 / 8 % 4⟩ : ChangeT).flat; have q4 := encs_len (⟨l % 1024, n % 1024 / 32 % 4⟩ : BallotT).flat; simp only [List.length_append, List.length_cons, List.length_nil, ViewT.flat, ChangeT.flat, BallotT.flat, Vector.toList_mk] at *; omega)) (fun _ s => sep_selR [1, 0] rfl s) (fun _ _ _ => trivial) (fun vR HR hR => ?_)
                  obtain ⟨u2, rfl, rfl⟩ := hR
                  change TL _ _ _ _ _ _ _ _ _ [blkA b13 [u2] 33, ownB u2 (encs (⟨e % 1024, m % 32, #v[h0 % 8 % 6, h1 % 8 % 6, h2 % 8 % 6, h3 % 8 % 6, h4 % 8 % 6]⟩ : ViewT).flat) 5, blkA b12 [(.int .i64 ((l % 1024))), (.int .i64 ((n % 1024 / 32 % 4)))] 54, blkA b11 [(.int .i64 ((n % 1024 % 2))), (.int .i64 ((n % 1024 / 2 % 4))), (.int .i64 ((n % 1024 / 8 % 4)))] 52, blkA b4 [(.int .i64 ((l % 1024)))] 3, blkA b8 [(.int .i64 (-1))] 3, blkA b7 [u1] 33, ownB u1 (encs [(n % 1024)]) 5, ownB y1 (encs [(n % 1024)]) 5, blkA b24 [(.int .i64 ((n % 1024)))] 3, blkA b5 [(.int .i64 ((e % 1024))), (.int .i64 ((m % 32))), (.int .i64 ((h0 % 8 % 6))), (.int .i64 ((h1 % 8 % 6))), (.int .i64 ((h2 % 8 % 6))), (.int .i64 ((h3 % 8 % 6))), (.int .i64 ((h4 % 8 % 6)))] 48]
                  refine TL.nil ?_
                  refine TE.draw (fun _ s => ⟨Frm.of s, s.block 10 (lb rfl) rfl, s.block 3 (lb rfl) rfl, s.block 2 (lb rfl) rfl, trivial⟩) ?_
                  refine TD.all [3] (by kernel_rfl) rfl ?_
                  refine AllT.cons rfl ?_ ?_
                  · skip
                    refine TL.callR (A := [blkA b13 [u2] 33, ownB u2 (encs (⟨e % 1024, m % 32, #v[h0 % 8 % 6, h1 % 8 % 6, h2 % 8 % 6, h3 % 8 % 6, h4 % 8 % 6]⟩ : ViewT).flat) 5]) (B := [blkA b12 [(.int .i64 ((l % 1024))), (.int .i64 ((n % 1024 / 32 % 4)))] 54, blkA b11 [(.int .i64 ((n % 1024 % 2))), (.int .i64 ((n % 1024 / 2 % 4))), (.int .i64 ((n % 1024 / 8 % 4)))] 52, blkA b4 [(.int .i64 ((l % 1024)))] 3, blkA b8 [(.int .i64 (-1))] 3, blkA b7 [u1] 33, ownB u1 (encs [(n % 1024)]) 5, ownB y1 (encs [(n % 1024)]) 5, blkA b24 [(.int .i64 ((n % 1024)))] 3, blkA b5 [(.int .i64 ((e % 1024))), (.int .i64 ((m % 32))), (.int .i64 ((h0 % 8 % 6))), (.int .i64 ((h1 % 8 % 6))), (.int .i64 ((h2 % 8 % 6))), (.int .i64 ((h3 % 8 % 6))), (.int .i64 ((h4 % 8 % 6)))] 48]) (Want.plain rfl) rfl rfl rfl nm22 rfl (wchange_does b13 u2 (encs (⟨e % 1024, m % 32, #v[h0 % 8 % 6, h1 % 8 % 6, h2 % 8 % 6, h3 % 8 % 6, h4 % 8 % 6]⟩ : ViewT).flat) (⟨n % 1024 % 2, n % 1024 / 2 % 4, n % 1024 / 8 % 4⟩ : ChangeT) (by have q1 := encs_len [n % 1024]; have q2 := encs_len (⟨e % 1024, m % 32, #v[h0 % 8 % 6, h1 % 8 % 6, h2 % 8 % 6, h3 % 8 % 6, h4 % 8 % 6]⟩ : ViewT).flat; have q3 := encs_len (⟨n % 1024 % 2, n % 1024 / 2 % 4, n % 1024 / 8 % 4⟩ : ChangeT).flat; have q4 := encs_len (⟨l % 1024, n % 1024 / 32 % 4⟩ : BallotT).flat; simp only [List.length_append, List.length_cons, List.length_nil, ViewT.flat, ChangeT.flat, BallotT.flat, Vector.toList_mk] at *; omega)) (fun _ s => s) (fun _ _ _ => trivial) (fun vR HR hR => ?_)
                    obtain ⟨u3, rfl, rfl⟩ := hR
                    change TL _ _ _ _ _ _ _ _ _ [blkA b13 [u3] 33, ownB u3 (encs (⟨e % 1024, m % 32, #v[h0 % 8 % 6, h1 % 8 % 6, h2 % 8 % 6, h3 % 8 % 6, h4 % 8 % 6]⟩ : ViewT).flat ++ encs (⟨n % 1024 % 2, n % 1024 / 2 % 4, n % 1024 / 8 % 4⟩ : ChangeT).flat) 5, blkA b12 [(.int .i64 ((l % 1024))), (.int .i64 ((n % 1024 / 32 % 4)))] 54, blkA b11 [(.int .i64 ((n % 1024 % 2))), (.int .i64 ((n % 1024 / 2 % 4))), (.int .i64 ((n % 1024 / 8 % 4)))] 52, blkA b4 [(.int .i64 ((l % 1024)))] 3, blkA b8 [(.int .i64 (-1))] 3, blkA b7 [u1] 33, ownB u1 (encs [(n % 1024)]) 5, ownB y1 (encs [(n % 1024)]) 5, blkA b24 [(.int .i64 ((n % 1024)))] 3, blkA b5 [(.int .i64 ((e % 1024))), (.int .i64 ((m % 32))), (.int .i64 ((h0 % 8 % 6))), (.int .i64 ((h1 % 8 % 6))), (.int .i64 ((h2 % 8 % 6))), (.int .i64 ((h3 % 8 % 6))), (.int .i64 ((h4 % 8 % 6)))] 48]
                    refine TL.nil ?_
                    refine TE.draw (fun _ s => ⟨Frm.of s, s.block 10 (lb rfl) rfl, s.block 3 (lb rfl) rfl, s.block 2 (lb rfl) rfl, trivial⟩) ?_
                    refine TD.all [5] (by kernel_rfl) rfl ?_
                    refine AllT.cons rfl ?_ ?_
                    · skip
                      refine TL.callR (A := [blkA b13 [u3] 33, ownB u3 (encs (⟨e % 1024, m % 32, #v[h0 % 8 % 6, h1 % 8 % 6, h2 % 8 % 6, h3 % 8 % 6, h4 % 8 % 6]⟩ : ViewT).flat ++ encs (⟨n % 1024 % 2, n % 1024 / 2 % 4, n % 1024 / 8 % 4⟩ : ChangeT).flat) 5]) (B := [blkA b12 [(.int .i64 ((l % 1024))), (.int .i64 ((n % 1024 / 32 % 4)))] 54, blkA b11 [(.int .i64 ((n % 1024 % 2))), (.int .i64 ((n % 1024 / 2 % 4))), (.int .i64 ((n % 1024 / 8 % 4)))] 52, blkA b4 [(.int .i64 ((l % 1024)))] 3, blkA b8 [(.int .i64 (-1))] 3, blkA b7 [u1] 33, ownB u1 (encs [(n % 1024)]) 5, ownB y1 (encs [(n % 1024)]) 5, blkA b24 [(.int .i64 ((n % 1024)))] 3, blkA b5 [(.int .i64 ((e % 1024))), (.int .i64 ((m % 32))), (.int .i64 ((h0 % 8 % 6))), (.int .i64 ((h1 % 8 % 6))), (.int .i64 ((h2 % 8 % 6))), (.int .i64 ((h3 % 8 % 6))), (.int .i64 ((h4 % 8 % 6)))] 48]) (Want.plain rfl) rfl rfl rfl nm23 rfl (wballot_does b13 u3 (encs (⟨e % 1024, m % 32, #v[h0 % 8 % 6, h1 % 8 % 6, h2 % 8 % 6, h3 % 8 % 6, h4 % 8 % 6]⟩ : ViewT).flat ++ encs (⟨n % 1024 % 2, n % 1024 / 2 % 4, n % 1024 / 8 % 4⟩ : ChangeT).flat) (⟨l % 1024, n % 1024 / 32 % 4⟩ : BallotT) (by have q1 := encs_len [n % 1024]; have q2 := encs_len (⟨e % 1024, m % 32, #v[h0 % 8 % 6, h1 % 8 % 6, h2 % 8 % 6, h3 % 8 % 6, h4 % 8 % 6]⟩ : ViewT).flat; have q3 := encs_len (⟨n % 1024 % 2, n % 1024 / 2 % 4, n % 1024 / 8 % 4⟩ : ChangeT).flat; have q4 := encs_len (⟨l % 1024, n % 1024 / 32 % 4⟩ : BallotT).flat; simp only [List.length_append, List.length_cons, List.length_nil, ViewT.flat, ChangeT.flat, BallotT.flat, Vector.toList_mk] at *; omega)) (fun _ s => s) (fun _ _ _ => trivial) (fun vR HR hR => ?_)
                      obtain ⟨u4, rfl, rfl⟩ := hR
                      change TL _ _ _ _ _ _ _ _ _ [blkA b13 [u4] 33, ownB u4 (encs (⟨e % 1024, m % 32, #v[h0 % 8 % 6, h1 % 8 % 6, h2 % 8 % 6, h3 % 8 % 6, h4 % 8 % 6]⟩ : ViewT).flat ++ encs (⟨n % 1024 % 2, n % 1024 / 2 % 4, n % 1024 / 8 % 4⟩ : ChangeT).flat ++ encs (⟨l % 1024, n % 1024 / 32 % 4⟩ : BallotT).flat) 5, blkA b12 [(.int .i64 ((l % 1024))), (.int .i64 ((n % 1024 / 32 % 4)))] 54, blkA b11 [(.int .i64 ((n % 1024 % 2))), (.int .i64 ((n % 1024 / 2 % 4))), (.int .i64 ((n % 1024 / 8 % 4)))] 52, blkA b4 [(.int .i64 ((l % 1024)))] 3, blkA b8 [(.int .i64 (-1))] 3, blkA b7 [u1] 33, ownB u1 (encs [(n % 1024)]) 5, ownB y1 (encs [(n % 1024)]) 5, blkA b24 [(.int .i64 ((n % 1024)))] 3, blkA b5 [(.int .i64 ((e % 1024))), (.int .i64 ((m % 32))), (.int .i64 ((h0 % 8 % 6))), (.int .i64 ((h1 % 8 % 6))), (.int .i64 ((h2 % 8 % 6))), (.int .i64 ((h3 % 8 % 6))), (.int .i64 ((h4 % 8 % 6)))] 48]
                      refine TL.nil ?_
                      refine TE.draw (fun _ s => ⟨Frm.of s, s.block 10 (lb rfl) rfl, s.block 3 (lb rfl) rfl, s.block 2 (lb rfl) rfl, trivial⟩) ?_
                      refine TD.done (by kernel_rfl) ?_
                      refine TE.next hK78 ?_
                      clear hK78
                      refine TC.seq (fun K79 hK79 => ?_)
                      refine TC.region ?_
                      refine TL.alloc (Want.plain rfl) rfl rfl rfl z48 (fun b14 => ?_)
                      change TL _ _ _ _ _ _ _ _ _ [blkA b14 [(.int .i64 0), (.int .i64 0), (.int .i64 0), (.int .i64 0), (.int .i64 0), (.int .i64 0), (.int .i64 0)] 48, blkA b13 [u4] 33, ownB u4 (encs (⟨e % 1024, m % 32, #v[h0 % 8 % 6, h1 % 8 % 6, h2 % 8 % 6, h3 % 8 % 6, h4 % 8 % 6]⟩ : ViewT).flat ++ encs (⟨n % 1024 % 2, n % 1024 / 2 % 4, n % 1024 / 8 % 4⟩ : ChangeT).flat ++ encs (⟨l % 1024, n % 1024 / 32 % 4⟩ : BallotT).flat) 5, blkA b12 [(.int .i64 ((l % 1024))), (.int .i64 ((n % 1024 / 32 % 4)))] 54, blkA b11 [(.int .i64 ((n % 1024 % 2))), (.int .i64 ((n % 1024 / 2 % 4))), (.int .i64 ((n % 1024 / 8 % 4)))] 52, blkA b4 [(.int .i64 ((l % 1024)))] 3, blkA b8 [(.int .i64 (-1))] 3, blkA b7 [u1] 33, ownB u1 (encs [(n % 1024)]) 5, ownB y1 (encs [(n % 1024)]) 5, blkA b24 [(.int .i64 ((n % 1024)))] 3, blkA b5 [(.int .i64 ((e % 1024))), (.int .i64 ((m % 32))), (.int .i64 ((h0 % 8 % 6))), (.int .i64 ((h1 % 8 % 6))), (.int .i64 ((h2 % 8 % 6))), (.int .i64 ((h3 % 8 % 6))), (.int .i64 ((h4 % 8 % 6)))] 48]
                      refine TL.nil ?_
                      refine TE.next hK79 ?_
                      clear hK79
                      refine TC.seq (fun K80 hK80 => ?_)
                      refine TC.region ?_
                      refine TL.alloc (Want.plain rfl) rfl rfl rfl z52 (fun b15 => ?_)
                      change TL _ _ _ _ _ _ _ _ _ [blkA b15 [(.int .i64 0), (.int .i64 0), (.int .i64 0)] 52, blkA b14 [(.int .i64 0), (.int .i64 0), (.int .i64 0), (.int .i64 0), (.int .i64 0), (.int .i64 0), (.int .i64 0)] 48, blkA b13 [u4] 33, ownB u4 (encs (⟨e % 1024, m % 32, #v[h0 % 8 % 6, h1 % 8 % 6, h2 % 8 % 6, h3 % 8 % 6, h4 % 8 % 6]⟩ : ViewT).flat ++ encs (⟨n % 1024 % 2, n % 1024 / 2 % 4, n % 1024 / 8 % 4⟩ : ChangeT).flat ++ encs (⟨l % 1024, n % 1024 / 32 % 4⟩ : BallotT).flat) 5, blkA b12 [(.int .i64 ((l % 1024))), (.int .i64 ((n % 1024 / 32 % 4)))] 54, blkA b11 [(.int .i64 ((n % 1024 % 2))), (.int .i64 ((n % 1024 / 2 % 4))), (.int .i64 ((n % 1024 / 8 % 4)))] 52, blkA b4 [(.int .i64 ((l % 1024)))] 3, blkA b8 [(.int .i64 (-1))] 3, blkA b7 [u1] 33, ownB u1 (encs [(n % 1024)]) 5, ownB y1 (encs [(n % 1024)]) 5, blkA b24 [(.int .i64 ((n % 1024)))] 3, blkA b5 [(.int .i64 ((e % 1024))), (.int .i64 ((m % 32))), (.int .i64 ((h0 % 8 % 6))), (.int .i64 ((h1 % 8 % 6))), (.int .i64 ((h2 % 8 % 6))), (.int .i64 ((h3 % 8 % 6))), (.int .i64 ((h4 % 8 % 6)))] 48]
                      refine TL.nil ?_
                      refine TE.next hK80 ?_
                      clear hK80
                      refine TC.seq (fun K81 hK81 => ?_)
                      refine TC.region ?_
                      refine TL.alloc (Want.plain rfl) rfl rfl rfl z54 (fun b16 => ?_)
                      change TL _ _ _ _ _ _ _ _ _ [blkA b16 [(.int .i64 0), (.int .i64 0)] 54, blkA b15 [(.int .i64 0), (.int .i64 0), (.int .i64 0)] 52, blkA b14 [(.int .i64 0), (.int .i64 0), (.int .i64 0), (.int .i64 0), (.int .i64 0), (.int .i64 0), (.int .i64 0)] 48, blkA b13 [u4] 33, ownB u4 (encs (⟨e % 1024, m % 32, #v[h0 % 8 % 6, h1 % 8 % 6, h2 % 8 % 6, h3 % 8 % 6, h4 % 8 % 6]⟩ : ViewT).flat ++ encs (⟨n % 1024 % 2, n % 1024 / 2 % 4, n % 1024 / 8 % 4⟩ : ChangeT).flat ++ encs (⟨l % 1024, n % 1024 / 32 % 4⟩ : BallotT).flat) 5, blkA b12 [(.int .i64 ((l % 1024))), (.int .i64 ((n % 1024 / 32 % 4)))] 54, blkA b11 [(.int .i64 ((n % 1024 % 2))), (.int .i64 ((n % 1024 / 2 % 4))), (.int .i64 ((n % 1024 / 8 % 4)))] 52, blkA b4 [(.int .i64 ((l % 1024)))] 3, blkA b8 [(.int .i64 (-1))] 3, blkA b7 [u1] 33, ownB u1 (encs [(n % 1024)]) 5, ownB y1 (encs [(n % 1024)]) 5, blkA b24 [(.int .i64 ((n % 1024)))] 3, blkA b5 [(.int .i64 ((e % 1024))), (.int .i64 ((m % 32))), (.int .i64 ((h0 % 8 % 6))), (.int .i64 ((h1 % 8 % 6))), (.int .i64 ((h2 % 8 % 6))), (.int .i64 ((h3 % 8 % 6))), (.int .i64 ((h4 % 8 % 6)))] 48]
                      refine TL.nil ?_
                      refine TE.next hK81 ?_
                      clear hK81
                      refine TC.seq (fun K82 hK82 => ?_)
                      refine TC.region ?_
                      refine TL.callR (A := [blkA b13 [u4] 33, ownB u4 (encs (⟨e % 1024, m % 32, #v[h0 % 8 % 6, h1 % 8 % 6, h2 % 8 % 6, h3 % 8 % 6, h4 % 8 % 6]⟩ : ViewT).flat ++ encs (⟨n % 1024 % 2, n % 1024 / 2 % 4, n % 1024 / 8 % 4⟩ : ChangeT).flat ++ encs (⟨l % 1024, n % 1024 / 32 % 4⟩ : BallotT).flat) 5]) (B := [blkA b16 [(.int .i64 0), (.int .i64 0)] 54, blkA b15 [(.int .i64 0), (.int .i64 0), (.int .i64 0)] 52, blkA b14 [(.int .i64 0), (.int .i64 0), (.int .i64 0), (.int .i64 0), (.int .i64 0), (.int .i64 0), (.int .i64 0)] 48, blkA b12 [(.int .i64 ((l % 1024))), (.int .i64 ((n % 1024 / 32 % 4)))] 54, blkA b11 [(.int .i64 ((n % 1024 % 2))), (.int .i64 ((n % 1024 / 2 % 4))), (.int .i64 ((n % 1024 / 8 % 4)))] 52, blkA b4 [(.int .i64 ((l % 1024)))] 3, blkA b8 [(.int .i64 (-1))] 3, blkA b7 [u1] 33, ownB u1 (encs [(n % 1024)]) 5, ownB y1 (encs [(n % 1024)]) 5, blkA b24 [(.int .i64 ((n % 1024)))] 3, blkA b5 [(.int .i64 ((e % 1024))), (.int .i64 ((m % 32))), (.int .i64 ((h0 % 8 % 6))), (.int .i64 ((h1 % 8 % 6))), (.int .i64 ((h2 % 8 % 6))), (.int .i64 ((h3 % 8 % 6))), (.int .i64 ((h4 % 8 % 6)))] 48]) (Want.plain rfl) rfl rfl rfl nm12 rfl (wbytes_does b13 u4 (encs (⟨e % 1024, m % 32, #v[h0 % 8 % 6, h1 % 8 % 6, h2 % 8 % 6, h3 % 8 % 6, h4 % 8 % 6]⟩ : ViewT).flat ++ encs (⟨n % 1024 % 2, n % 1024 / 2 % 4, n % 1024 / 8 % 4⟩ : ChangeT).flat ++ encs (⟨l % 1024, n % 1024 / 32 % 4⟩ : BallotT).flat) (by have q1 := encs_len [n % 1024]; have q2 := encs_len (⟨e % 1024, m % 32, #v[h0 % 8 % 6, h1 % 8 % 6, h2 % 8 % 6, h3 % 8 % 6, h4 % 8 % 6]⟩ : ViewT).flat; have q3 := encs_len (⟨n % 1024 % 2, n % 1024 / 2 % 4, n % 1024 / 8 % 4⟩ : ChangeT).flat; have q4 := encs_len (⟨l % 1024, n % 1024 / 32 % 4⟩ : BallotT).flat; simp only [List.length_append, List.length_cons, List.length_nil, ViewT.flat, ChangeT.flat, BallotT.flat, Vector.toList_mk] at *; omega)) (fun _ s => sep_selR [3, 3] rfl s) (fun _ _ _ => trivial) (fun vR HR hR => ?_)
                      obtain ⟨y2, hy2, rfl⟩ := hR
                      subst vR
                      change TL _ _ _ _ _ _ _ _ _ [blkA b13 [u4] 33, ownB u4 (encs (⟨e % 1024, m % 32, #v[h0 % 8 % 6, h1 % 8 % 6, h2 % 8 % 6, h3 % 8 % 6, h4 % 8 % 6]⟩ : ViewT).flat ++ encs (⟨n % 1024 % 2, n % 1024 / 2 % 4, n % 1024 / 8 % 4⟩ : ChangeT).flat ++ encs (⟨l % 1024, n % 1024 / 32 % 4⟩ : BallotT).flat) 5, ownB y2 (encs (⟨e % 1024, m % 32, #v[h0 % 8 % 6, h1 % 8 % 6, h2 % 8 % 6, h3 % 8 % 6, h4 % 8 % 6]⟩ : ViewT).flat ++ encs (⟨n % 1024 % 2, n % 1024 / 2 % 4, n % 1024 / 8 % 4⟩ : ChangeT).flat ++ encs (⟨l % 1024, n % 1024 / 32 % 4⟩ : BallotT).flat) 5, blkA b16 [(.int .i64 0), (.int .i64 0)] 54, blkA b15 [(.int .i64 0), (.int .i64 0), (.int .i64 0)] 52, blkA b14 [(.int .i64 0), (.int .i64 0), (.int .i64 0), (.int .i64 0), (.int .i64 0), (.int .i64 0), (.int .i64 0)] 48, blkA b12 [(.int .i64 ((l % 1024))), (.int .i64 ((n % 1024 / 32 % 4)))] 54, blkA b11 [(.int .i64 ((n % 1024 % 2))), (.int .i64 ((n % 1024 / 2 % 4))), (.int .i64 ((n % 1024 / 8 % 4)))] 52, blkA b4 [(.int .i64 ((l % 1024)))] 3, blkA b8 [(.int .i64 (-1))] 3, blkA b7 [u1] 33, ownB u1 (encs [(n % 1024)]) 5, ownB y1 (encs [(n % 1024)]) 5, blkA b24 [(.int .i64 ((n % 1024)))] 3, blkA b5 [(.int .i64 ((e % 1024))), (.int .i64 ((m % 32))), (.int .i64 ((h0 % 8 % 6))), (.int .i64 ((h1 % 8 % 6))), (.int .i64 ((h2 % 8 % 6))), (.int .i64 ((h3 % 8 % 6))), (.int .i64 ((h4 % 8 % 6)))] 48]
                      refine TL.v (Want.plain rfl) rfl rfl (PV.mkFunc rfl rfl) ?_
                      refine TL.callR (A := [blkA b14 [(.int .i64 0), (.int .i64 0), (.int .i64 0), (.int .i64 0), (.int .i64 0), (.int .i64 0), (.int .i64 0)] 48, blkA b15 [(.int .i64 0), (.int .i64 0), (.int .i64 0)] 52, blkA b16 [(.int .i64 0), (.int .i64 0)] 54]) (B := [blkA b13 [u4] 33, ownB u4 (encs (⟨e % 1024, m % 32, #v[h0 % 8 % 6, h1 % 8 % 6, h2 % 8 % 6, h3 % 8 % 6, h4 % 8 % 6]⟩ : ViewT).flat ++ encs (⟨n % 1024 % 2, n % 1024 / 2 % 4, n % 1024 / 8 % 4⟩ : ChangeT).flat ++ encs (⟨l % 1024, n % 1024 / 32 % 4⟩ : BallotT).flat) 5, ownB y2 (encs (⟨e % 1024, m % 32, #v[h0 % 8 % 6, h1 % 8 % 6, h2 % 8 % 6, h3 % 8 % 6, h4 % 8 % 6]⟩ : ViewT).flat ++ encs (⟨n % 1024 % 2, n % 1024 / 2 % 4, n % 1024 / 8 % 4⟩ : ChangeT).flat ++ encs (⟨l % 1024, n % 1024 / 32 % 4⟩ : BallotT).flat) 5, blkA b12 [(.int .i64 ((l % 1024))), (.int .i64 ((n % 1024 / 32 % 4)))] 54, blkA b11 [(.int .i64 ((n % 1024 % 2))), (.int .i64 ((n % 1024 / 2 % 4))), (.int .i64 ((n % 1024 / 8 % 4)))] 52, blkA b4 [(.int .i64 ((l % 1024)))] 3, blkA b8 [(.int .i64 (-1))] 3, blkA b7 [u1] 33, ownB u1 (encs [(n % 1024)]) 5, ownB y1 (encs [(n % 1024)]) 5, blkA b24 [(.int .i64 ((n % 1024)))] 3, blkA b5 [(.int .i64 ((e % 1024))), (.int .i64 ((m % 32))), (.int .i64 ((h0 % 8 % 6))), (.int .i64 ((h1 % 8 % 6))), (.int .i64 ((h2 % 8 % 6))), (.int .i64 ((h3 % 8 % 6))), (.int .i64 ((h4 % 8 % 6)))] 48]) (Want.plain rfl) rfl rfl rfl nm14 rfl (read_with (bs := (encs (⟨e % 1024, m % 32, #v[h0 % 8 % 6, h1 % 8 % 6, h2 % 8 % 6, h3 % 8 % 6, h4 % 8 % 6]⟩ : ViewT).flat ++ encs (⟨n % 1024 % 2, n % 1024 / 2 % 4, n % 1024 / 8 % 4⟩ : ChangeT).flat ++ encs (⟨l % 1024, n % 1024 / 32 % 4⟩ : BallotT).flat)) (C := [blkA b14 [(.int .i64 0), (.int .i64 0), (.int .i64 0), (.int .i64 0), (.int .i64 0), (.int .i64 0), (.int .i64 0)] 48, blkA b15 [(.int .i64 0), (.int .i64 0), (.int .i64 0)] 52, blkA b16 [(.int .i64 0), (.int .i64 0)] 54]) (caps := [(.pointer (some ⟨b14, 0, none⟩)), (.pointer (some ⟨b15, 0, none⟩)), (.pointer (some ⟨b16, 0, none⟩))]) (A := fun t : ViewT × ChangeT × BallotT => [blkA b14 (ints t.1.flat) 48, blkA b15 (ints t.2.1.flat) 52, blkA b16 (ints t.2.2.flat) 54]) (G := fun _ : Unit => [blkA b14 [(.int .i64 0), (.int .i64 0), (.int .i64 0), (.int .i64 0), (.int .i64 0), (.int .i64 0), (.int .i64 0)] 48, blkA b15 [(.int .i64 0), (.int .i64 0), (.int .i64 0)] 52, blkA b16 [(.int .i64 0), (.int .i64 0)] 54]) (φ := fun t r => vcbP (encs (⟨e % 1024, m % 32, #v[h0 % 8 % 6, h1 % 8 % 6, h2 % 8 % 6, h3 % 8 % 6, h4 % 8 % 6]⟩ : ViewT).flat ++ encs (⟨n % 1024 % 2, n % 1024 / 2 % 4, n % 1024 / 8 % 4⟩ : ChangeT).flat ++ encs (⟨l % 1024, n % 1024 / 32 % 4⟩ : BallotT).flat) = some (t, r)) (ψ := fun _ => vcbP (encs (⟨e % 1024, m % 32, #v[h0 % 8 % 6, h1 % 8 % 6, h2 % 8 % 6, h3 % 8 % 6, h4 % 8 % 6]⟩ : ViewT).flat ++ encs (⟨n % 1024 % 2, n % 1024 / 2 % 4, n % 1024 / 8 % 4⟩ : ChangeT).flat ++ encs (⟨l % 1024, n % 1024 / 32 % 4⟩ : BallotT).flat) = none) (fun _ h => h) (fun _ _ h d => h.more d) nm24 (fun rb => small2_does rb b14 b15 b16 y2 (encs (⟨e % 1024, m % 32, #v[h0 % 8 % 6, h1 % 8 % 6, h2 % 8 % 6, h3 % 8 % 6, h4 % 8 % 6]⟩ : ViewT).flat ++ encs (⟨n % 1024 % 2, n % 1024 / 2 % 4, n % 1024 / 8 % 4⟩ : ChangeT).flat ++ encs (⟨l % 1024, n % 1024 / 32 % 4⟩ : BallotT).flat) (⟨0, 0, #v[0, 0, 0, 0, 0]⟩ : ViewT) (⟨0, 0, 0⟩ : ChangeT) (⟨0, 0⟩ : BallotT))) (fun _ s => sep_selR [5, 4, 3] rfl s) (isB_own 2 rfl rfl) (fun vR HR hR => ?_)
                      rcases hR with ⟨r, t, rfl, rfl, hs⟩ | ⟨_, _, _, hs⟩
                      · skip
                        rw [vcb_own] at hs
                        injection hs with hs
                        injection hs with e1 e2
                        subst e1
                        subst e2
                        change TL _ _ _ _ _ _ _ _ _ [blkA b14 (ints (⟨e % 1024, m % 32, #v[h0 % 8 % 6, h1 % 8 % 6, h2 % 8 % 6, h3 % 8 % 6, h4 % 8 % 6]⟩ : ViewT).flat) 48, blkA b15 (ints (⟨n % 1024 % 2, n % 1024 / 2 % 4, n % 1024 / 8 % 4⟩ : ChangeT).flat) 52, blkA b16 (ints (⟨l % 1024, n % 1024 / 32 % 4⟩ : BallotT).flat) 54, blkA b13 [u4] 33, ownB u4 (encs (⟨e % 1024, m % 32, #v[h0 % 8 % 6, h1 % 8 % 6, h2 % 8 % 6, h3 % 8 % 6, h4 % 8 % 6]⟩ : ViewT).flat ++ encs (⟨n % 1024 % 2, n % 1024 / 2 % 4, n % 1024 / 8 % 4⟩ : ChangeT).flat ++ encs (⟨l % 1024, n % 1024 / 32 % 4⟩ : BallotT).flat) 5, ownB y2 (encs (⟨e % 1024, m % 32, #v[h0 % 8 % 6, h1 % 8 % 6, h2 % 8 % 6, h3 % 8 % 6, h4 % 8 % 6]⟩ : ViewT).flat ++ encs (⟨n % 1024 % 2, n % 1024 / 2 % 4, n % 1024 / 8 % 4⟩ : ChangeT).flat ++ encs (⟨l % 1024, n % 1024 / 32 % 4⟩ : BallotT).flat) 5, blkA b12 [(.int .i64 ((l % 1024))), (.int .i64 ((n % 1024 / 32 % 4)))] 54, blkA b11 [(.int .i64 ((n % 1024 % 2))), (.int .i64 ((n % 1024 / 2 % 4))), (.int .i64 ((n % 1024 / 8 % 4)))] 52, blkA b4 [(.int .i64 ((l % 1024)))] 3, blkA b8 [(.int .i64 (-1))] 3, blkA b7 [u1] 33, ownB u1 (encs [(n % 1024)]) 5, ownB y1 (encs [(n % 1024)]) 5, blkA b24 [(.int .i64 ((n % 1024)))] 3, blkA b5 [(.int .i64 ((e % 1024))), (.int .i64 ((m % 32))), (.int .i64 ((h0 % 8 % 6))), (.int .i64 ((h1 % 8 % 6))), (.int .i64 ((h2 % 8 % 6))), (.int .i64 ((h3 % 8 % 6))), (.int .i64 ((h4 % 8 % 6)))] 48]
                        refine TL.v (Want.plain rfl) rfl rfl (PV.move rfl rfl) ?_
                        refine TL.v (Want.met rfl rfl rfl) rfl rfl (PV.loadN (vs := ints (⟨e % 1024, m % 32, #v[h0 % 8 % 6, h1 % 8 % 6, h2 % 8 % 6, h3 % 8 % 6, h4 % 8 % 6]⟩ : ViewT).flat) rfl Try.underlying48 rfl sz48 rfl (Rd.own 0 rfl rfl) (ViewT.len _) (by rw [List.drop_zero, List.take_of_length_le (by rw [ViewT.len]; exact Nat.le_refl _)])) ?_
                        refine TL.v (Want.met rfl rfl rfl) rfl rfl (PV.loadN (vs := [(.int .i64 ((e % 1024))), (.int .i64 ((m % 32))), (.int .i64 ((h0 % 8 % 6))), (.int .i64 ((h1 % 8 % 6))), (.int .i64 ((h2 % 8 % 6))), (.int .i64 ((h3 % 8 % 6))), (.int .i64 ((h4 % 8 % 6)))]) rfl Try.underlying48 rfl sz48 rfl (Rd.own 14 rfl rfl) rfl rfl) ?_
                        refine TL.v (Want.met rfl rfl rfl) rfl rfl (PV.eqlAgg (a := (⟨e % 1024, m % 32, #v[h0 % 8 % 6, h1 % 8 % 6, h2 % 8 % 6, h3 % 8 % 6, h4 % 8 % 6]⟩ : ViewT).flat) (b := (⟨e % 1024, m % 32, #v[h0 % 8 % 6, h1 % 8 % 6, h2 % 8 % 6, h3 % 8 % 6, h4 % 8 % 6]⟩ : ViewT).flat) (m := 3) (c := 7) Try.eqGuardType48 (by kernel_rfl) rfl (by kernel_rfl) rfl rfl ⟨formed_ag (by kernel_rfl) (by kernel_rfl) rfl, formed_ag (by kernel_rfl) (by kernel_rfl) rfl⟩ (wf_list (by simp only [ViewT.flat, ChangeT.flat, BallotT.flat, Vector.toList_mk, List.forall_mem_cons, List.not_mem_nil, false_implies, implies_true, and_true]; omega)) (wf_list (by simp only [ViewT.flat, ChangeT.flat, BallotT.flat, Vector.toList_mk, List.forall_mem_cons, List.not_mem_nil, false_implies, implies_true, and_true]; omega)) rfl rfl rfl) ?_
                        refine TL.dec (fun h89 => ?_) (fun h89 => ?_)
                        · skip
                          refine TL.v (Want.plain rfl) rfl rfl (PV.pick rfl rfl rfl) ?_
                          refine TL.v (Want.plain rfl) rfl rfl (PV.move rfl rfl) ?_
                          refine TL.v (Want.met rfl rfl rfl) rfl rfl (PV.loadN (vs := ints (⟨n % 1024 % 2, n % 1024 / 2 % 4, n % 1024 / 8 % 4⟩ : ChangeT).flat) rfl Try.underlying52 rfl sz52 rfl (Rd.own 1 rfl rfl) (ChangeT.len _) (by rw [List.drop_zero, List.take_of_length_le (by rw [ChangeT.len]; exact Nat.le_refl _)])) ?_
                          refine TL.v (Want.met rfl rfl rfl) rfl rfl (PV.loadN (vs := [(.int .i64 ((n % 1024 % 2))), (.int .i64 ((n % 1024 / 2 % 4))), (.int .i64 ((n % 1024 / 8 % 4)))]) rfl Try.underlying52 rfl sz52 rfl (Rd.own 7 rfl rfl) rfl rfl) ?_
                          refine TL.v (Want.met rfl rfl rfl) rfl rfl (PV.eqlAgg (a := (⟨n % 1024 % 2, n % 1024 / 2 % 4, n % 1024 / 8 % 4⟩ : ChangeT).flat) (b := (⟨n % 1024 % 2, n % 1024 / 2 % 4, n % 1024 / 8 % 4⟩ : ChangeT).flat) (m := 3) (c := 3) Try.eqGuardType52 (by kernel_rfl) rfl (by kernel_rfl) rfl rfl ⟨formed_ag (by kernel_rfl) (by kernel_rfl) rfl, formed_ag (by kernel_rfl) (by kernel_rfl) rfl⟩ (wf_list (by simp only [ViewT.flat, ChangeT.flat, BallotT.flat, Vector.toList_mk, List.forall_mem_cons, List.not_mem_nil, false_implies, implies_true, and_true]; omega)) (wf_list (by simp only [ViewT.flat, ChangeT.flat, BallotT.flat, Vector.toList_mk, List.forall_mem_cons, List.not_mem_nil, false_implies, implies_true, and_true]; omega)) rfl rfl rfl) ?_
                          refine TL.dec (fun h94 => ?_) (fun h94 => ?_)
                          · skip
                            refine TL.v (Want.plain rfl) rfl rfl (PV.pick rfl rfl rfl) ?_
                            refine TL.v (Want.plain rfl) rfl rfl (PV.move rfl rfl) ?_
                            refine TL.v (Want.met rfl rfl rfl) rfl rfl (PV.loadN (vs := ints (⟨l % 1024, n % 1024 / 32 % 4⟩ : BallotT).flat) rfl Try.underlying54 rfl sz54 rfl (Rd.own 2 rfl rfl) (BallotT.len _) (by rw [List.drop_zero, List.take_of_length_le (by rw [BallotT.len]; exact Nat.le_refl _)])) ?_
                            refine TL.v (Want.met rfl rfl rfl) rfl rfl (PV.loadN (vs := [(.int .i64 ((l % 1024))), (.int .i64 ((n % 1024 / 32 % 4)))]) rfl Try.underlying54 rfl sz54 rfl (Rd.own 6 rfl rfl) rfl rfl) ?_
                            refine TL.v (Want.met rfl rfl rfl) rfl rfl (PV.eqlAgg (a := (⟨l % 1024, n % 1024 / 32 % 4⟩ : BallotT).flat) (b := (⟨l % 1024, n % 1024 / 32 % 4⟩ : BallotT).flat) (m := 3) (c := 2) Try.eqGuardType54 (by kernel_rfl) rfl (by kernel_rfl) rfl rfl ⟨formed_ag (by kernel_rfl) (by kernel_rfl) rfl, formed_ag (by kernel_rfl) (by kernel_rfl) rfl⟩ (wf_list (by simp only [ViewT.flat, ChangeT.flat, BallotT.flat, Vector.toList_mk, List.forall_mem_cons, List.not_mem_nil, false_implies, implies_true, and_true]; omega)) (wf_list (by simp only [ViewT.flat, ChangeT.flat, BallotT.flat, Vector.toList_mk, List.forall_mem_cons, List.not_mem_nil, false_implies, implies_true, and_true]; omega)) rfl rfl rfl) ?_
                            refine TL.v (Want.plain rfl) rfl rfl (PV.pick rfl rfl rfl) ?_
                            refine TL.v (Want.plain rfl) rfl rfl (PV.assign rfl rfl) ?_
                            refine TL.nil ?_
                            refine TE.next hK82 ?_
                            clear hK82
                            refine TC.ret ?_
                            refine TE.weak (Sub.refl _) (fun _ s => sep_keep [] rfl s) ?_
                            refine TE.ret1 rfl rfl ?_
                            exact ⟨by simp, rfl⟩
                          · exact absurd rfl h94
                        · exact absurd rfl h89
                      · exact absurd hs (by rw [vcb_own]; simp)
                    exact AllT.nil
                  exact AllT.nil
                exact AllT.nil
              exact AllT.nil
            exact AllT.nil
          exact AllT.nil
        refine AllT.cons rfl ?_ ?_
        · skip
          refine TL.alloc (Want.plain rfl) rfl rfl rfl z54 (fun b12 => ?_)
          change TL _ _ _ _ _ _ _ _ _ [blkA b12 [(.int .i64 0), (.int .i64 0)] 54, blkA b4 [(.int .i64 ((l % 1024)))] 3, blkA b8 [(.int .i64 (-1))] 3, blkA b7 [u1] 33, ownB u1 (encs [(n % 1024)]) 5, ownB y1 (encs [(n % 1024)]) 5, blkA b24 [(.int .i64 ((n % 1024)))] 3, blkA b5 [(.int .i64 ((e % 1024))), (.int .i64 ((m % 32))), (.int .i64 ((h0 % 8 % 6))), (.int .i64 ((h1 % 8 % 6))), (.int .i64 ((h2 % 8 % 6))), (.int .i64 ((h3 % 8 % 6))), (.int .i64 ((h4 % 8 % 6)))] 48]
          refine TL.nil ?_
          refine TE.draw (fun _ s => ⟨Frm.of s, s.block 1 (lb rfl) rfl, trivial⟩) ?_
          refine TD.all [14] (by kernel_rfl) rfl ?_
          refine AllT.cons rfl ?_ ?_
          · skip
            refine TL.alloc (Want.plain rfl) rfl rfl rfl z52 (fun b11 => ?_)
            change TL _ _ _ _ _ _ _ _ _ [blkA b11 [(.int .i64 0), (.int .i64 0), (.int .i64 0)] 52, blkA b12 [(.int .i64 0), (.int .i64 0)] 54, blkA b4 [(.int .i64 ((l % 1024)))] 3, blkA b8 [(.int .i64 (-1))] 3, blkA b7 [u1] 33, ownB u1 (encs [(n % 1024)]) 5, ownB y1 (encs [(n % 1024)]) 5, blkA b24 [(.int .i64 ((n % 1024)))] 3, blkA b5 [(.int .i64 ((e % 1024))), (.int .i64 ((m % 32))), (.int .i64 ((h0 % 8 % 6))), (.int .i64 ((h1 % 8 % 6))), (.int .i64 ((h2 % 8 % 6))), (.int .i64 ((h3 % 8 % 6))), (.int .i64 ((h4 % 8 % 6)))] 48]
            refine TL.nil ?_
            refine TE.draw (fun _ s => ⟨Frm.of s, s.block 2 (lb rfl) rfl, trivial⟩) ?_
            refine TD.all [16] (by kernel_rfl) rfl ?_
            refine AllT.cons rfl ?_ ?_
            · skip
              refine TL.store (vs := [(.int .i64 ((n % 1024 % 2))), (.int .i64 ((n % 1024 / 2 % 4))), (.int .i64 ((n % 1024 / 8 % 4)))]) (i := 0) (H' := [blkA b11 [(.int .i64 ((n % 1024 % 2))), (.int .i64 ((n % 1024 / 2 % 4))), (.int .i64 ((n % 1024 / 8 % 4)))] 52, blkA b12 [(.int .i64 0), (.int .i64 0)] 54, blkA b4 [(.int .i64 ((l % 1024)))] 3, blkA b8 [(.int .i64 (-1))] 3, blkA b7 [u1] 33, ownB u1 (encs [(n % 1024)]) 5, ownB y1 (encs [(n % 1024)]) 5, blkA b24 [(.int .i64 ((n % 1024)))] 3, blkA b5 [(.int .i64 ((e % 1024))), (.int .i64 ((m % 32))), (.int .i64 ((h0 % 8 % 6))), (.int .i64 ((h1 % 8 % 6))), (.int .i64 ((h2 % 8 % 6))), (.int .i64 ((h3 % 8 % 6))), (.int .i64 ((h4 % 8 % 6)))] 48]) (Want.plain rfl) rfl rfl rfl rfl rfl sz52 (by simp [Value.oneCell']) rfl rfl (lbe rfl) rfl rfl ?_
              refine TL.nil ?_
              refine TE.draw (fun _ s => ⟨Frm.of s, s.block 2 (lb rfl) rfl, trivial⟩) ?_
              refine TD.all [17] (by kernel_rfl) rfl ?_
              refine AllT.cons rfl ?_ ?_
              · skip
                refine TL.store (vs := [(.int .i64 ((l % 1024))), (.int .i64 ((n % 1024 / 32 % 4)))]) (i := 1) (H' := [blkA b11 [(.int .i64 ((n % 1024 % 2))), (.int .i64 ((n % 1024 / 2 % 4))), (.int .i64 ((n % 1024 / 8 % 4)))] 52, blkA b12 [(.int .i64 ((l % 1024))), (.int .i64 ((n % 1024 / 32 % 4)))] 54, blkA b4 [(.int .i64 ((l % 1024)))] 3, blkA b8 [(.int .i64 (-1))] 3, blkA b7 [u1] 33, ownB u1 (encs [(n % 1024)]) 5, ownB y1 (encs [(n % 1024)]) 5, blkA b24 [(.int .i64 ((n % 1024)))] 3, blkA b5 [(.int .i64 ((e % 1024))), (.int .i64 ((m % 32))), (.int .i64 ((h0 % 8 % 6))), (.int .i64 ((h1 % 8 % 6))), (.int .i64 ((h2 % 8 % 6))), (.int .i64 ((h3 % 8 % 6))), (.int .i64 ((h4 % 8 % 6)))] 48]) (Want.plain rfl) rfl rfl rfl rfl rfl sz54 (by simp [Value.oneCell']) rfl rfl (lbe rfl) rfl rfl ?_
                refine TL.nil ?_
                refine TE.draw (fun _ s => ⟨Frm.of s, s.block 2 (lb rfl) rfl, trivial⟩) ?_
                refine TD.done (by kernel_rfl) ?_
                refine TE.next hK76 ?_
                clear hK76
                refine TC.seq (fun K83 hK83 => ?_)
                refine TC.region ?_
                refine TL.alloc (Want.plain rfl) rfl rfl rfl z33 (fun b13 => ?_)
                change TL _ _ _ _ _ _ _ _ _ [blkA b13 [(.slice none 0 0)] 33, blkA b11 [(.int .i64 ((n % 1024 % 2))), (.int .i64 ((n % 1024 / 2 % 4))), (.int .i64 ((n % 1024 / 8 % 4)))] 52, blkA b12 [(.int .i64 ((l % 1024))), (.int .i64 ((n % 1024 / 32 % 4)))] 54, blkA b4 [(.int .i64 ((l % 1024)))] 3, blkA b8 [(.int .i64 (-1))] 3, blkA b7 [u1] 33, ownB u1 (encs [(n % 1024)]) 5, ownB y1 (encs [(n % 1024)]) 5, blkA b24 [(.int .i64 ((n % 1024)))] 3, blkA b5 [(.int .i64 ((e % 1024))), (.int .i64 ((m % 32))), (.int .i64 ((h0 % 8 % 6))), (.int .i64 ((h1 % 8 % 6))), (.int .i64 ((h2 % 8 % 6))), (.int .i64 ((h3 % 8 % 6))), (.int .i64 ((h4 % 8 % 6)))] 48]
                refine TL.ownNil 5 (fun on => ?_)
                clear on
                refine TL.nil ?_
                refine TE.next hK83 ?_
                clear hK83
                refine TC.seq (fun K84 hK84 => ?_)
                refine TC.draw (fun w => Frm F w ∧ w.heap[b5]? = some (.cells ([(.int .i64 ((e % 1024))), (.int .i64 ((m % 32))), (.int .i64 ((h0 % 8 % 6))), (.int .i64 ((h1 % 8 % 6))), (.int .i64 ((h2 % 8 % 6))), (.int .i64 ((h3 % 8 % 6))), (.int .i64 ((h4 % 8 % 6)))]).toArray 48 (0, 0)) ∧ w.heap[b11]? = some (.cells ([(.int .i64 ((n % 1024 % 2))), (.int .i64 ((n % 1024 / 2 % 4))), (.int .i64 ((n % 1024 / 8 % 4)))]).toArray 52 (0, 0)) ∧ w.heap[b12]? = some (.cells ([(.int .i64 ((l % 1024))), (.int .i64 ((n % 1024 / 32 % 4)))]).toArray 54 (0, 0)) ∧ True) mixed rfl (fun _ s => ⟨Frm.of s, s.block 10 (lb rfl) rfl, s.block 2 (lb rfl) rfl, s.block 3 (lb rfl) rfl, trivial⟩) ?_
                refine TD.take (i := 0) rfl (by kernel_rfl) (by kernel_rfl) (by kernel_rfl) (fun _ _ _ _ h => h) (Want.plain rfl) rfl rfl (PV.loadN (vs := [(.int .i64 ((e % 1024))), (.int .i64 ((m % 32))), (.int .i64 ((h0 % 8 % 6))), (.int .i64 ((h1 % 8 % 6))), (.int .i64 ((h2 % 8 % 6))), (.int .i64 ((h3 % 8 % 6))), (.int .i64 ((h4 % 8 % 6)))]) rfl Try.underlying48 rfl sz48 rfl (Rd.right (Rd.left)) rfl rfl) ?_
                refine TD.take (i := 2) rfl (by kernel_rfl) (by kernel_rfl) (by kernel_rfl) (fun _ _ _ _ h => h) (Want.plain rfl) rfl rfl (PV.loadN (vs := [(.int .i64 ((n % 1024 % 2))), (.int .i64 ((n % 1024 / 2 % 4))), (.int .i64 ((n % 1024 / 8 % 4)))]) rfl Try.underlying52 rfl sz52 rfl (Rd.right (Rd.right (Rd.left))) rfl rfl) ?_
                refine TD.take (i := 4) rfl (by kernel_rfl) (by kernel_rfl) (by kernel_rfl) (fun _ _ _ _ h => h) (Want.plain rfl) rfl rfl (PV.loadN (vs := [(.int .i64 ((l % 1024))), (.int .i64 ((n % 1024 / 32 % 4)))]) rfl Try.underlying54 rfl sz54 rfl (Rd.right (Rd.right (Rd.right (Rd.left)))) rfl rfl) ?_
                refine TD.all [1] (by kernel_rfl) rfl ?_
                refine AllT.cons rfl ?_ ?_
                · skip
                  refine TL.callR (A := [blkA b13 [(.slice none 0 0)] 33, ownB (.slice none 0 0) ([]) 5]) (B := [blkA b11 [(.int .i64 ((n % 1024 % 2))), (.int .i64 ((n % 1024 / 2 % 4))), (.int .i64 ((n % 1024 / 8 % 4)))] 52, blkA b12 [(.int .i64 ((l % 1024))), (.int .i64 ((n % 1024 / 32 % 4)))] 54, blkA b4 [(.int .i64 ((l % 1024)))] 3, blkA b8 [(.int .i64 (-1))] 3, blkA b7 [u1] 33, ownB u1 (encs [(n % 1024)]) 5, ownB y1 (encs [(n % 1024)]) 5, blkA b24 [(.int .i64 ((n % 1024)))] 3, blkA b5 [(.int .i64 ((e % 1024))), (.int .i64 ((m % 32))), (.int .i64 ((h0 % 8 % 6))), (.int .i64 ((h1 % 8 % 6))), (.int .i64 ((h2 % 8 % 6))), (.int .i64 ((h3 % 8 % 6))), (.int .i64 ((h4 % 8 % 6)))] 48]) (Want.plain rfl) rfl rfl rfl nm21 rfl (wview_does b13 (.slice none 0 0) ([]) (⟨e % 1024, m % 32, #v[h0 % 8 % 6, h1 % 8 % 6, h2 % 8 % 6, h3 % 8 % 6, h4 % 8 % 6]⟩ : ViewT) (by have q1 := encs_len [n % 1024]; have q2 := encs_len (⟨e % 1024, m % 32, #v[h0 % 8 % 6, h1 % 8 % 6, h2 % 8 % 6, h3 % 8 % 6, h4 % 8 % 6]⟩ : ViewT).flat; have q3 := encs_len (⟨n % 1024 % 2, n % 1024 / 2 % 4, n % 1024 / 8 % 4⟩ : ChangeT).flat; have q4 := encs_len (⟨l % 1024, n % 1024 / 32 % 4⟩ : BallotT).flat; simp only [List.length_append, List.length_cons, List.length_nil, ViewT.flat, ChangeT.flat, BallotT.flat, Vector.toList_mk] at *; omega)) (fun _ s => sep_selR [1, 0] rfl s) (fun _ _ _ => trivial) (fun vR HR hR => ?_)
                  obtain ⟨u2, rfl, rfl⟩ := hR
                  change TL _ _ _ _ _ _ _ _ _ [blkA b13 [u2] 33, ownB u2 (encs (⟨e % 1024, m % 32, #v[h0 % 8 % 6, h1 % 8 % 6, h2 % 8 % 6, h3 % 8 % 6, h4 % 8 % 6]⟩ : ViewT).flat) 5, blkA b11 [(.int .i64 ((n % 1024 % 2))), (.int .i64 ((n % 1024 / 2 % 4))), (.int .i64 ((n % 1024 / 8 % 4)))] 52, blkA b12 [(.int .i64 ((l % 1024))), (.int .i64 ((n % 1024 / 32 % 4)))] 54, blkA b4 [(.int .i64 ((l % 1024)))] 3, blkA b8 [(.int .i64 (-1))] 3, blkA b7 [u1] 33, ownB u1 (encs [(n % 1024)]) 5, ownB y1 (encs [(n % 1024)]) 5, blkA b24 [(.int .i64 ((n % 1024)))] 3, blkA b5 [(.int .i64 ((e % 1024))), (.int .i64 ((m % 32))), (.int .i64 ((h0 % 8 % 6))), (.int .i64 ((h1 % 8 % 6))), (.int .i64 ((h2 % 8 % 6))), (.int .i64 ((h3 % 8 % 6))), (.int .i64 ((h4 % 8 % 6)))] 48]
                  refine TL.nil ?_
                  refine TE.draw (fun _ s => ⟨Frm.of s, s.block 10 (lb rfl) rfl, s.block 2 (lb rfl) rfl, s.block 3 (lb rfl) rfl, trivial⟩) ?_
                  refine TD.all [3] (by kernel_rfl) rfl ?_
                  refine AllT.cons rfl ?_ ?_
                  · skip
                    refine TL.callR (A := [blkA b13 [u2] 33, ownB u2 (encs (⟨e % 1024, m % 32, #v[h0 % 8 % 6, h1 % 8 % 6, h2 % 8 % 6, h3 % 8 % 6, h4 % 8 % 6]⟩ : ViewT).flat) 5]) (B := [blkA b11 [(.int .i64 ((n % 1024 % 2))), (.int .i64 ((n % 1024 / 2 % 4))), (.int .i64 ((n % 1024 / 8 % 4)))] 52, blkA b12 [(.int .i64 ((l % 1024))), (.int .i64 ((n % 1024 / 32 % 4)))] 54, blkA b4 [(.int .i64 ((l % 1024)))] 3, blkA b8 [(.int .i64 (-1))] 3, blkA b7 [u1] 33, ownB u1 (encs [(n % 1024)]) 5, ownB y1 (encs [(n % 1024)]) 5, blkA b24 [(.int .i64 ((n % 1024)))] 3, blkA b5 [(.int .i64 ((e % 1024))), (.int .i64 ((m % 32))), (.int .i64 ((h0 % 8 % 6))), (.int .i64 ((h1 % 8 % 6))), (.int .i64 ((h2 % 8 % 6))), (.int .i64 ((h3 % 8 % 6))), (.int .i64 ((h4 % 8 % 6)))] 48]) (Want.plain rfl) rfl rfl rfl nm22 rfl (wchange_does b13 u2 (encs (⟨e % 1024, m % 32, #v[h0 % 8 % 6, h1 % 8 % 6, h2 % 8 % 6, h3 % 8 % 6, h4 % 8 % 6]⟩ : ViewT).flat) (⟨n % 1024 % 2, n % 1024 / 2 % 4, n % 1024 / 8 % 4⟩ : ChangeT) (by have q1 := encs_len [n % 1024]; have q2 := encs_len (⟨e % 1024, m % 32, #v[h0 % 8 % 6, h1 % 8 % 6, h2 % 8 % 6, h3 % 8 % 6, h4 % 8 % 6]⟩ : ViewT).flat; have q3 := encs_len (⟨n % 1024 % 2, n % 1024 / 2 % 4, n % 1024 / 8 % 4⟩ : ChangeT).flat; have q4 := encs_len (⟨l % 1024, n % 1024 / 32 % 4⟩ : BallotT).flat; simp only [List.length_append, List.length_cons, List.length_nil, ViewT.flat, ChangeT.flat, BallotT.flat, Vector.toList_mk] at *; omega)) (fun _ s => s) (fun _ _ _ => trivial) (fun vR HR hR => ?_)
                    obtain ⟨u3, rfl, rfl⟩ := hR
                    change TL _ _ _ _ _ _ _ _ _ [blkA b13 [u3] 33, ownB u3 (encs (⟨e % 1024, m % 32, #v[h0 % 8 % 6, h1 % 8 % 6, h2 % 8 % 6, h3 % 8 % 6, h4 % 8 % 6]⟩ : ViewT).flat ++ encs (⟨n % 1024 % 2, n % 1024 / 2 % 4, n % 1024 / 8 % 4⟩ : ChangeT).flat) 5, blkA b11 [(.int .i64 ((n % 1024 % 2))), (.int .i64 ((n % 1024 / 2 % 4))), (.int .i64 ((n % 1024 / 8 % 4)))] 52, blkA b12 [(.int .i64 ((l % 1024))), (.int .i64 ((n % 1024 / 32 % 4)))] 54, blkA b4 [(.int .i64 ((l % 1024)))] 3, blkA b8 [(.int .i64 (-1))] 3, blkA b7 [u1] 33, ownB u1 (encs [(n % 1024)]) 5, ownB y1 (encs [(n % 1024)]) 5, blkA b24 [(.int .i64 ((n % 1024)))] 3, blkA b5 [(.int .i64 ((e % 1024))), (.int .i64 ((m % 32))), (.int .i64 ((h0 % 8 % 6))), (.int .i64 ((h1 % 8 % 6))), (.int .i64 ((h2 % 8 % 6))), (.int .i64 ((h3 % 8 % 6))), (.int .i64 ((h4 % 8 % 6)))] 48]
                    refine TL.nil ?_
                    refine TE.draw (fun _ s => ⟨Frm.of s, s.block 10 (lb rfl) rfl, s.block 2 (lb rfl) rfl, s.block 3 (lb rfl) rfl, trivial⟩) ?_
                    refine TD.all [5] (by kernel_rfl) rfl ?_
                    refine AllT.cons rfl ?_ ?_
                    · skip
                      refine TL.callR (A := [blkA b13 [u3] 33, ownB u3 (encs (⟨e % 1024, m % 32, #v[h0 % 8 % 6, h1 % 8 % 6, h2 % 8 % 6, h3 % 8 % 6, h4 % 8 % 6]⟩ : ViewT).flat ++ encs (⟨n % 1024 % 2, n % 1024 / 2 % 4, n % 1024 / 8 % 4⟩ : ChangeT).flat) 5]) (B := [blkA b11 [(.int .i64 ((n % 1024 % 2))), (.int .i64 ((n % 1024 / 2 % 4))), (.int .i64 ((n % 1024 / 8 % 4)))] 52, blkA b12 [(.int .i64 ((l % 1024))), (.int .i64 ((n % 1024 / 32 % 4)))] 54, blkA b4 [(.int .i64 ((l % 1024)))] 3, blkA b8 [(.int .i64 (-1))] 3, blkA b7 [u1] 33, ownB u1 (encs [(n % 1024)]) 5, ownB y1 (encs [(n % 1024)]) 5, blkA b24 [(.int .i64 ((n % 1024)))] 3, blkA b5 [(.int .i64 ((e % 1024))), (.int .i64 ((m % 32))), (.int .i64 ((h0 % 8 % 6))), (.int .i64 ((h1 % 8 % 6))), (.int .i64 ((h2 % 8 % 6))), (.int .i64 ((h3 % 8 % 6))), (.int .i64 ((h4 % 8 % 6)))] 48]) (Want.plain rfl) rfl rfl rfl nm23 rfl (wballot_does b13 u3 (encs (⟨e % 1024, m % 32, #v[h0 % 8 % 6, h1 % 8 % 6, h2 % 8 % 6, h3 % 8 % 6, h4 % 8 % 6]⟩ : ViewT).flat ++ encs (⟨n % 1024 % 2, n % 1024 / 2 % 4, n % 1024 / 8 % 4⟩ : ChangeT).flat) (⟨l % 1024, n % 1024 / 32 % 4⟩ : BallotT) (by have q1 := encs_len [n % 1024]; have q2 := encs_len (⟨e % 1024, m % 32, #v[h0 % 8 % 6, h1 % 8 % 6, h2 % 8 % 6, h3 % 8 % 6, h4 % 8 % 6]⟩ : ViewT).flat; have q3 := encs_len (⟨n % 1024 % 2, n % 1024 / 2 % 4, n % 1024 / 8 % 4⟩ : ChangeT).flat; have q4 := encs_len (⟨l % 1024, n % 1024 / 32 % 4⟩ : BallotT).flat; simp only [List.length_append, List.length_cons, List.length_nil, ViewT.flat, ChangeT.flat, BallotT.flat, Vector.toList_mk] at *; omega)) (fun _ s => s) (fun _ _ _ => trivial) (fun vR HR hR => ?_)
                      obtain ⟨u4, rfl, rfl⟩ := hR
                      change TL _ _ _ _ _ _ _ _ _ [blkA b13 [u4] 33, ownB u4 (encs (⟨e % 1024, m % 32, #v[h0 % 8 % 6, h1 % 8 % 6, h2 % 8 % 6, h3 % 8 % 6, h4 % 8 % 6]⟩ : ViewT).flat ++ encs (⟨n % 1024 % 2, n % 1024 / 2 % 4, n % 1024 / 8 % 4⟩ : ChangeT).flat ++ encs (⟨l % 1024, n % 1024 / 32 % 4⟩ : BallotT).flat) 5, blkA b11 [(.int .i64 ((n % 1024 % 2))), (.int .i64 ((n % 1024 / 2 % 4))), (.int .i64 ((n % 1024 / 8 % 4)))] 52, blkA b12 [(.int .i64 ((l % 1024))), (.int .i64 ((n % 1024 / 32 % 4)))] 54, blkA b4 [(.int .i64 ((l % 1024)))] 3, blkA b8 [(.int .i64 (-1))] 3, blkA b7 [u1] 33, ownB u1 (encs [(n % 1024)]) 5, ownB y1 (encs [(n % 1024)]) 5, blkA b24 [(.int .i64 ((n % 1024)))] 3, blkA b5 [(.int .i64 ((e % 1024))), (.int .i64 ((m % 32))), (.int .i64 ((h0 % 8 % 6))), (.int .i64 ((h1 % 8 % 6))), (.int .i64 ((h2 % 8 % 6))), (.int .i64 ((h3 % 8 % 6))), (.int .i64 ((h4 % 8 % 6)))] 48]
                      refine TL.nil ?_
                      refine TE.draw (fun _ s => ⟨Frm.of s, s.block 10 (lb rfl) rfl, s.block 2 (lb rfl) rfl, s.block 3 (lb rfl) rfl, trivial⟩) ?_
                      refine TD.done (by kernel_rfl) ?_
                      refine TE.next hK84 ?_
                      clear hK84
                      refine TC.seq (fun K85 hK85 => ?_)
                      refine TC.region ?_
                      refine TL.alloc (Want.plain rfl) rfl rfl rfl z48 (fun b14 => ?_)
                      change TL _ _ _ _ _ _ _ _ _ [blkA b14 [(.int .i64 0), (.int .i64 0), (.int .i64 0), (.int .i64 0), (.int .i64 0), (.int .i64 0), (.int .i64 0)] 48, blkA b13 [u4] 33, ownB u4 (encs (⟨e % 1024, m % 32, #v[h0 % 8 % 6, h1 % 8 % 6, h2 % 8 % 6, h3 % 8 % 6, h4 % 8 % 6]⟩ : ViewT).flat ++ encs (⟨n % 1024 % 2, n % 1024 / 2 % 4, n % 1024 / 8 % 4⟩ : ChangeT).flat ++ encs (⟨l % 1024, n % 1024 / 32 % 4⟩ : BallotT).flat) 5, blkA b11 [(.int .i64 ((n % 1024 % 2))), (.int .i64 ((n % 1024 / 2 % 4))), (.int .i64 ((n % 1024 / 8 % 4)))] 52, blkA b12 [(.int .i64 ((l % 1024))), (.int .i64 ((n % 1024 / 32 % 4)))] 54, blkA b4 [(.int .i64 ((l % 1024)))] 3, blkA b8 [(.int .i64 (-1))] 3, blkA b7 [u1] 33, ownB u1 (encs [(n % 1024)]) 5, ownB y1 (encs [(n % 1024)]) 5, blkA b24 [(.int .i64 ((n % 1024)))] 3, blkA b5 [(.int .i64 ((e % 1024))), (.int .i64 ((m % 32))), (.int .i64 ((h0 % 8 % 6))), (.int .i64 ((h1 % 8 % 6))), (.int .i64 ((h2 % 8 % 6))), (.int .i64 ((h3 % 8 % 6))), (.int .i64 ((h4 % 8 % 6)))] 48]
                      refine TL.nil ?_
                      refine TE.next hK85 ?_
                      clear hK85
                      refine TC.seq (fun K86 hK86 => ?_)
                      refine TC.region ?_
                      refine TL.alloc (Want.plain rfl) rfl rfl rfl z52 (fun b15 => ?_)
                      change TL _ _ _ _ _ _ _ _ _ [blkA b15 [(.int .i64 0), (.int .i64 0), (.int .i64 0)] 52, blkA b14 [(.int .i64 0), (.int .i64 0), (.int .i64 0), (.int .i64 0), (.int .i64 0), (.int .i64 0), (.int .i64 0)] 48, blkA b13 [u4] 33, ownB u4 (encs (⟨e % 1024, m % 32, #v[h0 % 8 % 6, h1 % 8 % 6, h2 % 8 % 6, h3 % 8 % 6, h4 % 8 % 6]⟩ : ViewT).flat ++ encs (⟨n % 1024 % 2, n % 1024 / 2 % 4, n % 1024 / 8 % 4⟩ : ChangeT).flat ++ encs (⟨l % 1024, n % 1024 / 32 % 4⟩ : BallotT).flat) 5, blkA b11 [(.int .i64 ((n % 1024 % 2))), (.int .i64 ((n % 1024 / 2 % 4))), (.int .i64 ((n % 1024 / 8 % 4)))] 52, blkA b12 [(.int .i64 ((l % 1024))), (.int .i64 ((n % 1024 / 32 % 4)))] 54, blkA b4 [(.int .i64 ((l % 1024)))] 3, blkA b8 [(.int .i64 (-1))] 3, blkA b7 [u1] 33, ownB u1 (encs [(n % 1024)]) 5, ownB y1 (encs [(n % 1024)]) 5, blkA b24 [(.int .i64 ((n % 1024)))] 3, blkA b5 [(.int .i64 ((e % 1024))), (.int .i64 ((m % 32))), (.int .i64 ((h0 % 8 % 6))), (.int .i64 ((h1 % 8 % 6))), (.int .i64 ((h2 % 8 % 6))), (.int .i64 ((h3 % 8 % 6))), (.int .i64 ((h4 % 8 % 6)))] 48]
                      refine TL.nil ?_
                      refine TE.next hK86 ?_
                      clear hK86
                      refine TC.seq (fun K87 hK87 => ?_)
                      refine TC.region ?_
                      refine TL.alloc (Want.plain rfl) rfl rfl rfl z54 (fun b16 => ?_)
                      change TL _ _ _ _ _ _ _ _ _ [blkA b16 [(.int .i64 0), (.int .i64 0)] 54, blkA b15 [(.int .i64 0), (.int .i64 0), (.int .i64 0)] 52, blkA b14 [(.int .i64 0), (.int .i64 0), (.int .i64 0), (.int .i64 0), (.int .i64 0), (.int .i64 0), (.int .i64 0)] 48, blkA b13 [u4] 33, ownB u4 (encs (⟨e % 1024, m % 32, #v[h0 % 8 % 6, h1 % 8 % 6, h2 % 8 % 6, h3 % 8 % 6, h4 % 8 % 6]⟩ : ViewT).flat ++ encs (⟨n % 1024 % 2, n % 1024 / 2 % 4, n % 1024 / 8 % 4⟩ : ChangeT).flat ++ encs (⟨l % 1024, n % 1024 / 32 % 4⟩ : BallotT).flat) 5, blkA b11 [(.int .i64 ((n % 1024 % 2))), (.int .i64 ((n % 1024 / 2 % 4))), (.int .i64 ((n % 1024 / 8 % 4)))] 52, blkA b12 [(.int .i64 ((l % 1024))), (.int .i64 ((n % 1024 / 32 % 4)))] 54, blkA b4 [(.int .i64 ((l % 1024)))] 3, blkA b8 [(.int .i64 (-1))] 3, blkA b7 [u1] 33, ownB u1 (encs [(n % 1024)]) 5, ownB y1 (encs [(n % 1024)]) 5, blkA b24 [(.int .i64 ((n % 1024)))] 3, blkA b5 [(.int .i64 ((e % 1024))), (.int .i64 ((m % 32))), (.int .i64 ((h0 % 8 % 6))), (.int .i64 ((h1 % 8 % 6))), (.int .i64 ((h2 % 8 % 6))), (.int .i64 ((h3 % 8 % 6))), (.int .i64 ((h4 % 8 % 6)))] 48]
                      refine TL.nil ?_
                      refine TE.next hK87 ?_
                      clear hK87
                      refine TC.seq (fun K88 hK88 => ?_)
                      refine TC.region ?_
                      refine TL.callR (A := [blkA b13 [u4] 33, ownB u4 (encs (⟨e % 1024, m % 32, #v[h0 % 8 % 6, h1 % 8 % 6, h2 % 8 % 6, h3 % 8 % 6, h4 % 8 % 6]⟩ : ViewT).flat ++ encs (⟨n % 1024 % 2, n % 1024 / 2 % 4, n % 1024 / 8 % 4⟩ : ChangeT).flat ++ encs (⟨l % 1024, n % 1024 / 32 % 4⟩ : BallotT).flat) 5]) (B := [blkA b16 [(.int .i64 0), (.int .i64 0)] 54, blkA b15 [(.int .i64 0), (.int .i64 0), (.int .i64 0)] 52, blkA b14 [(.int .i64 0), (.int .i64 0), (.int .i64 0), (.int .i64 0), (.int .i64 0), (.int .i64 0), (.int .i64 0)] 48, blkA b11 [(.int .i64 ((n % 1024 % 2))), (.int .i64 ((n % 1024 / 2 % 4))), (.int .i64 ((n % 1024 / 8 % 4)))] 52, blkA b12 [(.int .i64 ((l % 1024))), (.int .i64 ((n % 1024 / 32 % 4)))] 54, blkA b4 [(.int .i64 ((l % 1024)))] 3, blkA b8 [(.int .i64 (-1))] 3, blkA b7 [u1] 33, ownB u1 (encs [(n % 1024)]) 5, ownB y1 (encs [(n % 1024)]) 5, blkA b24 [(.int .i64 ((n % 1024)))] 3, blkA b5 [(.int .i64 ((e % 1024))), (.int .i64 ((m % 32))), (.int .i64 ((h0 % 8 % 6))), (.int .i64 ((h1 % 8 % 6))), (.int .i64 ((h2 % 8 % 6))), (.int .i64 ((h3 % 8 % 6))), (.int .i64 ((h4 % 8 % 6)))] 48]) (Want.plain rfl) rfl rfl rfl nm12 rfl (wbytes_does b13 u4 (encs (⟨e % 1024, m % 32, #v[h0 % 8 % 6, h1 % 8 % 6, h2 % 8 % 6, h3 % 8 % 6, h4 % 8 % 6]⟩ : ViewT).flat ++ encs (⟨n % 1024 % 2, n % 1024 / 2 % 4, n % 1024 / 8 % 4⟩ : ChangeT).flat ++ encs (⟨l % 1024, n % 1024 / 32 % 4⟩ : BallotT).flat) (by have q1 := encs_len [n % 1024]; have q2 := encs_len (⟨e % 1024, m % 32, #v[h0 % 8 % 6, h1 % 8 % 6, h2 % 8 % 6, h3 % 8 % 6, h4 % 8 % 6]⟩ : ViewT).flat; have q3 := encs_len (⟨n % 1024 % 2, n % 1024 / 2 % 4, n % 1024 / 8 % 4⟩ : ChangeT).flat; have q4 := encs_len (⟨l % 1024, n % 1024 / 32 % 4⟩ : BallotT).flat; simp only [List.length_append, List.length_cons, List.length_nil, ViewT.flat, ChangeT.flat, BallotT.flat, Vector.toList_mk] at *; omega)) (fun _ s => sep_selR [3, 3] rfl s) (fun _ _ _ => trivial) (fun vR HR hR => ?_)
                      obtain ⟨y2, hy2, rfl⟩ := hR
                      subst vR
                      change TL _ _ _ _ _ _ _ _ _ [blkA b13 [u4] 33, ownB u4 (encs (⟨e % 1024, m % 32, #v[h0 % 8 % 6, h1 % 8 % 6, h2 % 8 % 6, h3 % 8 % 6, h4 % 8 % 6]⟩ : ViewT).flat ++ encs (⟨n % 1024 % 2, n % 1024 / 2 % 4, n % 1024 / 8 % 4⟩ : ChangeT).flat ++ encs (⟨l % 1024, n % 1024 / 32 % 4⟩ : BallotT).flat) 5, ownB y2 (encs (⟨e % 1024, m % 32, #v[h0 % 8 % 6, h1 % 8 % 6, h2 % 8 % 6, h3 % 8 % 6, h4 % 8 % 6]⟩ : ViewT).flat ++ encs (⟨n % 1024 % 2, n % 1024 / 2 % 4, n % 1024 / 8 % 4⟩ : ChangeT).flat ++ encs (⟨l % 1024, n % 1024 / 32 % 4⟩ : BallotT).flat) 5, blkA b16 [(.int .i64 0), (.int .i64 0)] 54, blkA b15 [(.int .i64 0), (.int .i64 0), (.int .i64 0)] 52, blkA b14 [(.int .i64 0), (.int .i64 0), (.int .i64 0), (.int .i64 0), (.int .i64 0), (.int .i64 0), (.int .i64 0)] 48, blkA b11 [(.int .i64 ((n % 1024 % 2))), (.int .i64 ((n % 1024 / 2 % 4))), (.int .i64 ((n % 1024 / 8 % 4)))] 52, blkA b12 [(.int .i64 ((l % 1024))), (.int .i64 ((n % 1024 / 32 % 4)))] 54, blkA b4 [(.int .i64 ((l % 1024)))] 3, blkA b8 [(.int .i64 (-1))] 3, blkA b7 [u1] 33, ownB u1 (encs [(n % 1024)]) 5, ownB y1 (encs [(n % 1024)]) 5, blkA b24 [(.int .i64 ((n % 1024)))] 3, blkA b5 [(.int .i64 ((e % 1024))), (.int .i64 ((m % 32))), (.int .i64 ((h0 % 8 % 6))), (.int .i64 ((h1 % 8 % 6))), (.int .i64 ((h2 % 8 % 6))), (.int .i64 ((h3 % 8 % 6))), (.int .i64 ((h4 % 8 % 6)))] 48]
                      refine TL.v (Want.plain rfl) rfl rfl (PV.mkFunc rfl rfl) ?_
                      refine TL.callR (A := [blkA b14 [(.int .i64 0), (.int .i64 0), (.int .i64 0), (.int .i64 0), (.int .i64 0), (.int .i64 0), (.int .i64 0)] 48, blkA b15 [(.int .i64 0), (.int .i64 0), (.int .i64 0)] 52, blkA b16 [(.int .i64 0), (.int .i64 0)] 54]) (B := [blkA b13 [u4] 33, ownB u4 (encs (⟨e % 1024, m % 32, #v[h0 % 8 % 6, h1 % 8 % 6, h2 % 8 % 6, h3 % 8 % 6, h4 % 8 % 6]⟩ : ViewT).flat ++ encs (⟨n % 1024 % 2, n % 1024 / 2 % 4, n % 1024 / 8 % 4⟩ : ChangeT).flat ++ encs (⟨l % 1024, n % 1024 / 32 % 4⟩ : BallotT).flat) 5, ownB y2 (encs (⟨e % 1024, m % 32, #v[h0 % 8 % 6, h1 % 8 % 6, h2 % 8 % 6, h3 % 8 % 6, h4 % 8 % 6]⟩ : ViewT).flat ++ encs (⟨n % 1024 % 2, n % 1024 / 2 % 4, n % 1024 / 8 % 4⟩ : ChangeT).flat ++ encs (⟨l % 1024, n % 1024 / 32 % 4⟩ : BallotT).flat) 5, blkA b11 [(.int .i64 ((n % 1024 % 2))), (.int .i64 ((n % 1024 / 2 % 4))), (.int .i64 ((n % 1024 / 8 % 4)))] 52, blkA b12 [(.int .i64 ((l % 1024))), (.int .i64 ((n % 1024 / 32 % 4)))] 54, blkA b4 [(.int .i64 ((l % 1024)))] 3, blkA b8 [(.int .i64 (-1))] 3, blkA b7 [u1] 33, ownB u1 (encs [(n % 1024)]) 5, ownB y1 (encs [(n % 1024)]) 5, blkA b24 [(.int .i64 ((n % 1024)))] 3, blkA b5 [(.int .i64 ((e % 1024))), (.int .i64 ((m % 32))), (.int .i64 ((h0 % 8 % 6))), (.int .i64 ((h1 % 8 % 6))), (.int .i64 ((h2 % 8 % 6))), (.int .i64 ((h3 % 8 % 6))), (.int .i64 ((h4 % 8 % 6)))] 48]) (Want.plain rfl) rfl rfl rfl nm14 rfl (read_with (bs := (encs (⟨e % 1024, m % 32, #v[h0 % 8 % 6, h1 % 8 % 6, h2 % 8 % 6, h3 % 8 % 6, h4 % 8 % 6]⟩ : ViewT).flat ++ encs (⟨n % 1024 % 2, n % 1024 / 2 % 4, n % 1024 / 8 % 4⟩ : ChangeT).flat ++ encs (⟨l % 1024, n % 1024 / 32 % 4⟩ : BallotT).flat)) (C := [blkA b14 [(.int .i64 0), (.int .i64 0), (.int .i64 0), (.int .i64 0), (.int .i64 0), (.int .i64 0), (.int .i64 0)] 48, blkA b15 [(.int .i64 0), (.int .i64 0), (.int .i64 0)] 52, blkA b16 [(.int .i64 0), (.int .i64 0)] 54]) (caps := [(.pointer (some ⟨b14, 0, none⟩)), (.pointer (some ⟨b15, 0, none⟩)), (.pointer (some ⟨b16, 0, none⟩))]) (A := fun t : ViewT × ChangeT × BallotT => [blkA b14 (ints t.1.flat) 48, blkA b15 (ints t.2.1.flat) 52, blkA b16 (ints t.2.2.flat) 54]) (G := fun _ : Unit => [blkA b14 [(.int .i64 0), (.int .i64 0), (.int .i64 0), (.int .i64 0), (.int .i64 0), (.int .i64 0), (.int .i64 0)] 48, blkA b15 [(.int .i64 0), (.int .i64 0), (.int .i64 0)] 52, blkA b16 [(.int .i64 0), (.int .i64 0)] 54]) (φ := fun t r => vcbP (encs (⟨e % 1024, m % 32, #v[h0 % 8 % 6, h1 % 8 % 6, h2 % 8 % 6, h3 % 8 % 6, h4 % 8 % 6]⟩ : ViewT).flat ++ encs (⟨n % 1024 % 2, n % 1024 / 2 % 4, n % 1024 / 8 % 4⟩ : ChangeT).flat ++ encs (⟨l % 1024, n % 1024 / 32 % 4⟩ : BallotT).flat) = some (t, r)) (ψ := fun _ => vcbP (encs (⟨e % 1024, m % 32, #v[h0 % 8 % 6, h1 % 8 % 6, h2 % 8 % 6, h3 % 8 % 6, h4 % 8 % 6]⟩ : ViewT).flat ++ encs (⟨n % 1024 % 2, n % 1024 / 2 % 4, n % 1024 / 8 % 4⟩ : ChangeT).flat ++ encs (⟨l % 1024, n % 1024 / 32 % 4⟩ : BallotT).flat) = none) (fun _ h => h) (fun _ _ h d => h.more d) nm24 (fun rb => small2_does rb b14 b15 b16 y2 (encs (⟨e % 1024, m % 32, #v[h0 % 8 % 6, h1 % 8 % 6, h2 % 8 % 6, h3 % 8 % 6, h4 % 8 % 6]⟩ : ViewT).flat ++ encs (⟨n % 1024 % 2, n % 1024 / 2 % 4, n % 1024 / 8 % 4⟩ : ChangeT).flat ++ encs (⟨l % 1024, n % 1024 / 32 % 4⟩ : BallotT).flat) (⟨0, 0, #v[0, 0, 0, 0, 0]⟩ : ViewT) (⟨0, 0, 0⟩ : ChangeT) (⟨0, 0⟩ : BallotT))) (fun _ s => sep_selR [5, 4, 3] rfl s) (isB_own 2 rfl rfl) (fun vR HR hR => ?_)
                      rcases hR with ⟨r, t, rfl, rfl, hs⟩ | ⟨_, _, _, hs⟩
                      · skip
                        rw [vcb_own] at hs
                        injection hs with hs
                        injection hs with e1 e2
                        subst e1
                        subst e2
                        change TL _ _ _ _ _ _ _ _ _ [blkA b14 (ints (⟨e % 1024, m % 32, #v[h0 % 8 % 6, h1 % 8 % 6, h2 % 8 % 6, h3 % 8 % 6, h4 % 8 % 6]⟩ : ViewT).flat) 48, blkA b15 (ints (⟨n % 1024 % 2, n % 1024 / 2 % 4, n % 1024 / 8 % 4⟩ : ChangeT).flat) 52, blkA b16 (ints (⟨l % 1024, n % 1024 / 32 % 4⟩ : BallotT).flat) 54, blkA b13 [u4] 33, ownB u4 (encs (⟨e % 1024, m % 32, #v[h0 % 8 % 6, h1 % 8 % 6, h2 % 8 % 6, h3 % 8 % 6, h4 % 8 % 6]⟩ : ViewT).flat ++ encs (⟨n % 1024 % 2, n % 1024 / 2 % 4, n % 1024 / 8 % 4⟩ : ChangeT).flat ++ encs (⟨l % 1024, n % 1024 / 32 % 4⟩ : BallotT).flat) 5, ownB y2 (encs (⟨e % 1024, m % 32, #v[h0 % 8 % 6, h1 % 8 % 6, h2 % 8 % 6, h3 % 8 % 6, h4 % 8 % 6]⟩ : ViewT).flat ++ encs (⟨n % 1024 % 2, n % 1024 / 2 % 4, n % 1024 / 8 % 4⟩ : ChangeT).flat ++ encs (⟨l % 1024, n % 1024 / 32 % 4⟩ : BallotT).flat) 5, blkA b11 [(.int .i64 ((n % 1024 % 2))), (.int .i64 ((n % 1024 / 2 % 4))), (.int .i64 ((n % 1024 / 8 % 4)))] 52, blkA b12 [(.int .i64 ((l % 1024))), (.int .i64 ((n % 1024 / 32 % 4)))] 54, blkA b4 [(.int .i64 ((l % 1024)))] 3, blkA b8 [(.int .i64 (-1))] 3, blkA b7 [u1] 33, ownB u1 (encs [(n % 1024)]) 5, ownB y1 (encs [(n % 1024)]) 5, blkA b24 [(.int .i64 ((n % 1024)))] 3, blkA b5 [(.int .i64 ((e % 1024))), (.int .i64 ((m % 32))), (.int .i64 ((h0 % 8 % 6))), (.int .i64 ((h1 % 8 % 6))), (.int .i64 ((h2 % 8 % 6))), (.int .i64 ((h3 % 8 % 6))), (.int .i64 ((h4 % 8 % 6)))] 48]
                        refine TL.v (Want.plain rfl) rfl rfl (PV.move rfl rfl) ?_
                        refine TL.v (Want.met rfl rfl rfl) rfl rfl (PV.loadN (vs := ints (⟨e % 1024, m % 32, #v[h0 % 8 % 6, h1 % 8 % 6, h2 % 8 % 6, h3 % 8 % 6, h4 % 8 % 6]⟩ : ViewT).flat) rfl Try.underlying48 rfl sz48 rfl (Rd.own 0 rfl rfl) (ViewT.len _) (by rw [List.drop_zero, List.take_of_length_le (by rw [ViewT.len]; exact Nat.le_refl _)])) ?_
                        refine TL.v (Want.met rfl rfl rfl) rfl rfl (PV.loadN (vs := [(.int .i64 ((e % 1024))), (.int .i64 ((m % 32))), (.int .i64 ((h0 % 8 % 6))), (.int .i64 ((h1 % 8 % 6))), (.int .i64 ((h2 % 8 % 6))), (.int .i64 ((h3 % 8 % 6))), (.int .i64 ((h4 % 8 % 6)))]) rfl Try.underlying48 rfl sz48 rfl (Rd.own 14 rfl rfl) rfl rfl) ?_
                        refine TL.v (Want.met rfl rfl rfl) rfl rfl (PV.eqlAgg (a := (⟨e % 1024, m % 32, #v[h0 % 8 % 6, h1 % 8 % 6, h2 % 8 % 6, h3 % 8 % 6, h4 % 8 % 6]⟩ : ViewT).flat) (b := (⟨e % 1024, m % 32, #v[h0 % 8 % 6, h1 % 8 % 6, h2 % 8 % 6, h3 % 8 % 6, h4 % 8 % 6]⟩ : ViewT).flat) (m := 3) (c := 7) Try.eqGuardType48 (by kernel_rfl) rfl (by kernel_rfl) rfl rfl ⟨formed_ag (by kernel_rfl) (by kernel_rfl) rfl, formed_ag (by kernel_rfl) (by kernel_rfl) rfl⟩ (wf_list (by simp only [ViewT.flat, ChangeT.flat, BallotT.flat, Vector.toList_mk, List.forall_mem_cons, List.not_mem_nil, false_implies, implies_true, and_true]; omega)) (wf_list (by simp only [ViewT.flat, ChangeT.flat, BallotT.flat, Vector.toList_mk, List.forall_mem_cons, List.not_mem_nil, false_implies, implies_true, and_true]; omega)) rfl rfl rfl) ?_
                        refine TL.dec (fun h89 => ?_) (fun h89 => ?_)
                        · skip
                          refine TL.v (Want.plain rfl) rfl rfl (PV.pick rfl rfl rfl) ?_
                          refine TL.v (Want.plain rfl) rfl rfl (PV.move rfl rfl) ?_
                          refine TL.v (Want.met rfl rfl rfl) rfl rfl (PV.loadN (vs := ints (⟨n % 1024 % 2, n % 1024 / 2 % 4, n % 1024 / 8 % 4⟩ : ChangeT).flat) rfl Try.underlying52 rfl sz52 rfl (Rd.own 1 rfl rfl) (ChangeT.len _) (by rw [List.drop_zero, List.take_of_length_le (by rw [ChangeT.len]; exact Nat.le_refl _)])) ?_
                          refine TL.v (Want.met rfl rfl rfl) rfl rfl (PV.loadN (vs := [(.int .i64 ((n % 1024 % 2))), (.int .i64 ((n % 1024 / 2 % 4))), (.int .i64 ((n % 1024 / 8 % 4)))]) rfl Try.underlying52 rfl sz52 rfl (Rd.own 6 rfl rfl) rfl rfl) ?_
                          refine TL.v (Want.met rfl rfl rfl) rfl rfl (PV.eqlAgg (a := (⟨n % 1024 % 2, n % 1024 / 2 % 4, n % 1024 / 8 % 4⟩ : ChangeT).flat) (b := (⟨n % 1024 % 2, n % 1024 / 2 % 4, n % 1024 / 8 % 4⟩ : ChangeT).flat) (m := 3) (c := 3) Try.eqGuardType52 (by kernel_rfl) rfl (by kernel_rfl) rfl rfl ⟨formed_ag (by kernel_rfl) (by kernel_rfl) rfl, formed_ag (by kernel_rfl) (by kernel_rfl) rfl⟩ (wf_list (by simp only [ViewT.flat, ChangeT.flat, BallotT.flat, Vector.toList_mk, List.forall_mem_cons, List.not_mem_nil, false_implies, implies_true, and_true]; omega)) (wf_list (by simp only [ViewT.flat, ChangeT.flat, BallotT.flat, Vector.toList_mk, List.forall_mem_cons, List.not_mem_nil, false_implies, implies_true, and_true]; omega)) rfl rfl rfl) ?_
                          refine TL.dec (fun h94 => ?_) (fun h94 => ?_)
                          · skip
                            refine TL.v (Want.plain rfl) rfl rfl (PV.pick rfl rfl rfl) ?_
                            refine TL.v (Want.plain rfl) rfl rfl (PV.move rfl rfl) ?_
                            refine TL.v (Want.met rfl rfl rfl) rfl rfl (PV.loadN (vs := ints (⟨l % 1024, n % 1024 / 32 % 4⟩ : BallotT).flat) rfl Try.underlying54 rfl sz54 rfl (Rd.own 2 rfl rfl) (BallotT.len _) (by rw [List.drop_zero, List.take_of_length_le (by rw [BallotT.len]; exact Nat.le_refl _)])) ?_
                            refine TL.v (Want.met rfl rfl rfl) rfl rfl (PV.loadN (vs := [(.int .i64 ((l % 1024))), (.int .i64 ((n % 1024 / 32 % 4)))]) rfl Try.underlying54 rfl sz54 rfl (Rd.own 7 rfl rfl) rfl rfl) ?_
                            refine TL.v (Want.met rfl rfl rfl) rfl rfl (PV.eqlAgg (a := (⟨l % 1024, n % 1024 / 32 % 4⟩ : BallotT).flat) (b := (⟨l % 1024, n % 1024 / 32 % 4⟩ : BallotT).flat) (m := 3) (c := 2) Try.eqGuardType54 (by kernel_rfl) rfl (by kernel_rfl) rfl rfl ⟨formed_ag (by kernel_rfl) (by kernel_rfl) rfl, formed_ag (by kernel_rfl) (by kernel_rfl) rfl⟩ (wf_list (by simp only [ViewT.flat, ChangeT.flat, BallotT.flat, Vector.toList_mk, List.forall_mem_cons, List.not_mem_nil, false_implies, implies_true, and_true]; omega)) (wf_list (by simp only [ViewT.flat, ChangeT.flat, BallotT.flat, Vector.toList_mk, List.forall_mem_cons, List.not_mem_nil, false_implies, implies_true, and_true]; omega)) rfl rfl rfl) ?_
                            refine TL.v (Want.plain rfl) rfl rfl (PV.pick rfl rfl rfl) ?_
                            refine TL.v (Want.plain rfl) rfl rfl (PV.assign rfl rfl) ?_
                            refine TL.nil ?_
                            refine TE.next hK88 ?_
                            clear hK88
                            refine TC.ret ?_
                            refine TE.weak (Sub.refl _) (fun _ s => sep_keep [] rfl s) ?_
                            refine TE.ret1 rfl rfl ?_
                            exact ⟨by simp, rfl⟩
                          · exact absurd rfl h94
                        · exact absurd rfl h89
                      · exact absurd hs (by rw [vcb_own]; simp)
                    exact AllT.nil
                  exact AllT.nil
                exact AllT.nil
              exact AllT.nil
            exact AllT.nil
          exact AllT.nil
        exact AllT.nil
    exact AllT.nil
  exact AllT.nil


theorem smalls_list (n l : Int) : ∀ xs : List Int, xs.length = 7 → Does Try.prog 7 #[.int .i64 n, .int .i64 l, agI xs] (fun _ => True) [] (Ret (fun v H => v = .bool true ∧ H = []))
  | [e, m, h0, h1, h2, h3, h4], _ => smalls_does n l e m h0 h1 h2 h3 h4

end Go.Proofs.Ytlhpkgcchomndaa
