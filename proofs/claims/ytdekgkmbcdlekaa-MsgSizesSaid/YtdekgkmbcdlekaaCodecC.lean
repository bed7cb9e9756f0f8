/-
  The contracts of package codec's Writer, walked.
-/

import Derived.Test.YtdekgkmbcdlekaaCodecB
import Derived.Test.YtdekgkmbcdlekaaCodecW

namespace Go.Proofs.Ytdekgkmbcdlekaa

open Go Leg Codec Api

set_option maxRecDepth 100000

theorem wnum_cells (wb b off cap : Nat) (v : Value) (bs : List UInt8) (l : List Int) (cs : List Value) (T : TypeId) (z : Nat × Nat) (hlen : bs.length + 10 * l.length ≤ 140737488355328) (hb : ∀ j, j < l.length → cs[off + j]? = some (.int .i64 (l.getD j 0))) :
    Does Try.prog 11 #[(.pointer (some ⟨wb, 0, none⟩)), (.slice (some ⟨b, off, none⟩) (l.length) (cap))] (fun F => F b = some (.cells cs.toArray T z)) [blkA wb [v] 29, ownB v (bs) 5] (WPost 29 5 wb (bs ++ encs l)) := by
  refine Does.body (vs := [(.pointer (some ⟨wb, 0, none⟩)), (.slice (some ⟨b, off, none⟩) (l.length) (cap))]) (n := 45) Try.func11 rfl rfl rfl (fun w0 F hF => ?_)
  refine TC.seq (fun K1 hK1 => ?_)
  refine TC.region ?_
  refine TL.v (Want.plain rfl) rfl rfl (PV.assign rfl rfl) ?_
  refine TL.nil ?_
  refine TE.next hK1 ?_
  clear hK1
  refine TC.seq (fun K2 hK2 => ?_)
  refine TC.seq (fun K3 hK3 => ?_)
  refine TC.region ?_
  refine TL.v (Want.plain rfl) rfl rfl (PV.move rfl rfl) ?_
  refine TL.v (Want.plain rfl) rfl rfl (PV.lenSl rfl Try.underlying79 rfl) ?_
  refine TL.v (Want.plain rfl) rfl rfl (PV.move rfl rfl) ?_
  refine TL.nil ?_
  refine TE.next hK3 ?_
  clear hK3
  refine TC.block ?_
  refine TC.loop (α := (Nat) × (Value) × (List UInt8)) (fun ⟨k, u, laid⟩ => k ≤ l.length ∧ laid ++ encs (l.drop k) = bs ++ encs l) (fun ⟨k, u, laid⟩ => [(0, (.pointer (some ⟨wb, 0, none⟩))), (4, (.pointer none)), (8, (.slice (some ⟨b, off, none⟩) (l.length) (cap))), (9, (.int .i64 (((l.length : Nat) : Int)))), (10, (.int .i64 ((k : Nat))))]) (fun ⟨k, u, laid⟩ => [blkA wb [u] 29, ownB u (laid) 5]) (fun ⟨k, u, laid⟩ => l.length - k) (0, v, bs)
      ⟨by omega, rfl⟩ (Sub.r (Sub.r (Sub.r (Sub.r (Sub.cons rfl (by congr 1) (Sub.nil _))))))
      (fun _ s => s) (fun ⟨k, u, laid⟩ hinv => ?_)
  obtain ⟨hk, hL⟩ := hinv
  refine TC.seq (fun K4 hK4 => ?_)
  refine TC.region ?_
  refine TL.v (Want.plain rfl) rfl rfl (PV.lss rfl rfl rfl) ?_
  refine TL.dec (fun h11 => ?_) (fun h11 => ?_)
  · skip
    refine TL.nil ?_
    refine TE.next hK4 ?_
    clear hK4
    refine TC.seq (fun K5 hK5 => ?_)
    refine TC.yes rfl ?_
    refine TC.skip ?_
    refine TE.next hK5 ?_
    clear hK5
    refine TC.seq (fun K6 hK6 => ?_)
    refine TC.block ?_
    refine TC.seq (fun K7 hK7 => ?_)
    refine TC.region ?_
    refine TL.v (Want.plain rfl) rfl rfl (PV.indexSl (r := off + k) rfl Try.underlying79 sz3 rfl rfl (by first | omega | decide) (by first | omega | decide) (by omega)) ?_
    refine TL.v (Want.plain rfl) rfl rfl (PV.load1 (v := (.int .i64 ((l.getD k 0)))) rfl Try.underlying3 rfl rfl (Rd.ro hF) (hb k (by omega))) ?_
    refine TL.v (Want.plain rfl) rfl rfl (PV.assign rfl rfl) ?_
    refine TL.nil ?_
    refine TE.next hK7 ?_
    clear hK7
    refine TC.seq (fun K8 hK8 => ?_)
    refine TC.region ?_
    refine TL.v (Want.plain rfl) rfl rfl (PV.move rfl rfl) ?_
    refine TL.v (Want.plain rfl) rfl rfl (PV.convI (r := ((((l.getD k 0 % 18446744073709551616).toNat : Nat)) : Int)) rfl Try.underlying3 Try.underlying80 rfl (wrap_u64_nat _)) ?_
    refine TL.v (Want.plain rfl) rfl rfl (PV.assign rfl rfl) ?_
    refine TL.nil ?_
    refine TE.next hK8 ?_
    clear hK8
    refine TC.seq (fun K9 hK9 => ?_)
    refine TC.block ?_
    refine TC.loop (α := (Nat) × (Value) × (List UInt8)) (fun ⟨m, u2, laid2⟩ => laid2 ++ (encU m ++ encs (l.drop (k + 1))) = bs ++ encs l) (fun ⟨m, u2, laid2⟩ => [(0, (.pointer (some ⟨wb, 0, none⟩))), (4, (.pointer none)), (7, (.int .u64 ((m : Nat)))), (8, (.slice (some ⟨b, off, none⟩) (l.length) (cap))), (9, (.int .i64 (((l.length : Nat) : Int)))), (10, (.int .i64 ((k : Nat))))]) (fun ⟨m, u2, laid2⟩ => [blkA wb [u2] 29, ownB u2 (laid2) 5]) (fun ⟨m, u2, laid2⟩ => m) ((l.getD k 0 % 18446744073709551616).toNat, u, laid)
        (by rw [← hL, encs_drop (l := l) (k := k) (by omega)]; rfl) (Sub.r (Sub.r (Sub.cons rfl (by congr 1) (Sub.r (Sub.r (Sub.r (Sub.nil _)))))))
        (fun _ s => s) (fun ⟨m, u2, laid2⟩ hinv => ?_)
    have hM := hinv
    refine TC.seq (fun K10 hK10 => ?_)
    refine TC.seq (fun K11 hK11 => ?_)
    refine TC.region ?_
    refine TL.v (Want.plain rfl) rfl rfl (PV.move rfl rfl) ?_
    refine TL.v (Want.plain rfl) rfl rfl (PV.geq rfl rfl rfl) ?_
    refine TL.dec (fun h17 => ?_) (fun h17 => ?_)
    · skip
      refine TL.nil ?_
      refine TE.next hK11 ?_
      clear hK11
      refine TC.yes rfl ?_
      refine TC.skip ?_
      refine TE.next hK10 ?_
      clear hK10
      refine TC.block ?_
      refine TC.seq (fun K12 hK12 => ?_)
      refine TC.region ?_
      refine TL.v (Want.plain rfl) rfl rfl (PV.move rfl rfl) ?_
      refine TL.v (Want.plain rfl) rfl rfl (PV.move rfl rfl) ?_
      refine TL.v (Want.plain rfl) rfl rfl (PV.nilCheck rfl rfl) ?_
      refine TL.v (Want.plain rfl) rfl rfl (PV.fieldAddr (r := 0) rfl Try.underlying29 rfl sz27 rfl rfl) ?_
      refine TL.v (Want.plain rfl) rfl rfl (PV.load1 (v := u2) rfl Try.underlying27 rfl rfl (Rd.own 0 rfl rfl) rfl) ?_
      refine TL.v (Want.plain rfl) rfl rfl (PV.move rfl rfl) ?_
      refine TL.v (Want.plain rfl) rfl rfl (PV.convI (r := (IntKind.u8.wrap ((m : Nat) : Int))) rfl Try.underlying80 Try.underlying5 rfl rfl) ?_
      refine TL.v (Want.plain rfl) rfl rfl (PV.or (r := (((UInt8.ofNat (m % 128 + 128)).toNat : Nat) : Int)) rfl rfl rfl (or128 m)) ?_
      refine TL.buildSlice (cells := #[(.int .u8 ((((UInt8.ofNat (m % 128 + 128)).toNat : Nat) : Int)))]) (Want.plain rfl) rfl rfl rfl Try.underlying27 in5 rfl rfl rfl (by as_aux_lemma => kernel_rfl) (fun b26 => ?_)
      change TL _ _ _ _ _ _ _ _ _ [blkA b26 [(.int .u8 ((((UInt8.ofNat (m % 128 + 128)).toNat : Nat) : Int)))] 5, blkA wb [u2] 29, ownB u2 (laid2) 5]
      refine TL.append (k := 2) (news := u8s ([(UInt8.ofNat (m % 128 + 128))])) (nn' := (laid2 ++ [(UInt8.ofNat (m % 128 + 128))] : List UInt8).length) (xs' := u8s (laid2 ++ [(UInt8.ofNat (m % 128 + 128))])) (Want.plain rfl) rfl rfl rfl Try.underlying27 in5 rfl rfl rfl rfl rfl rfl (fun _ _ => Src.rd rfl (Rd.own 0 rfl rfl) rfl) (u8s_one [(UInt8.ofNat (m % 128 + 128))]) (by have := congrArg List.length hM; have := encs_len l; have := encU_pos m; simp only [List.length_append, maxLen] at *; omega) (by have := congrArg List.length hM; have := encs_len l; have := encU_pos m; simp only [List.length_append] at *; omega) (by simp) (u8s_append _ _).symm (fun v27 ov27 => ?_)
      change TL _ _ _ _ _ _ _ _ _ [blkA b26 [(.int .u8 ((((UInt8.ofNat (m % 128 + 128)).toNat : Nat) : Int)))] 5, blkA wb [u2] 29, ownB v27 (laid2 ++ [(UInt8.ofNat (m % 128 + 128))]) 5]
      refine TL.v (Want.plain rfl) rfl rfl (PV.nilCheck rfl rfl) ?_
      refine TL.v (Want.plain rfl) rfl rfl (PV.fieldAddr (r := 0) rfl Try.underlying29 rfl sz27 rfl rfl) ?_
      refine TL.store1 (i := 1) (H' := [blkA b26 [(.int .u8 ((((UInt8.ofNat (m % 128 + 128)).toNat : Nat) : Int)))] 5, blkA wb [v27] 29, ownB v27 (laid2 ++ [(UInt8.ofNat (m % 128 + 128))]) 5]) (Want.plain rfl) rfl rfl rfl rfl ov27 sz27 rfl rfl (lb rfl) rfl rfl ?_
      refine TL.nil ?_
      refine TE.next hK12 ?_
      clear hK12
      refine TC.region ?_
      refine TL.v (Want.plain rfl) rfl rfl (PV.move rfl rfl) ?_
      refine TL.v (Want.plain rfl) rfl rfl (PV.shr (r := ((m / 128 : Nat) : Int)) rfl rfl rfl (by omega) (shr7 m)) ?_
      refine TL.v (Want.plain rfl) rfl rfl (PV.assign rfl rfl) ?_
      refine TL.nil ?_
      refine TE.blockEnd ?_
      exact TE.round ((m / 128, v27, laid2 ++ [(UInt8.ofNat (m % 128 + 128))]) : (Nat) × (Value) × (List UInt8)) (by rw [← hM, encU_hi (by omega)]; simp) (by show m / 128 < m; omega)
        (Sub.r (Sub.r (Sub.r (Sub.r (Sub.r (Sub.r (Sub.nil _)))))))
        (fun _ s => sep_keep [1, 1] rfl s)
    · skip
      refine TL.nil ?_
      refine TE.next hK11 ?_
      clear hK11
      refine TC.no rfl ?_
      refine TC.exit ?_
      refine TE.pass ?_
      clear hK10
      refine TE.pass ?_
      refine TE.hit ?_
      refine TE.next hK9 ?_
      clear hK9
      refine TC.region ?_
      refine TL.v (Want.plain rfl) rfl rfl (PV.move rfl rfl) ?_
      refine TL.v (Want.plain rfl) rfl rfl (PV.move rfl rfl) ?_
      refine TL.v (Want.plain rfl) rfl rfl (PV.nilCheck rfl rfl) ?_
      refine TL.v (Want.plain rfl) rfl rfl (PV.fieldAddr (r := 0) rfl Try.underlying29 rfl sz27 rfl rfl) ?_
      refine TL.v (Want.plain rfl) rfl rfl (PV.load1 (v := u2) rfl Try.underlying27 rfl rfl (Rd.own 0 rfl rfl) rfl) ?_
      refine TL.v (Want.plain rfl) rfl rfl (PV.move rfl rfl) ?_
      refine TL.v (Want.plain rfl) rfl rfl (PV.convI (r := (((UInt8.ofNat m).toNat : Nat) : Int)) rfl Try.underlying80 Try.underlying5 rfl (byte_lo (by omega))) ?_
      refine TL.buildSlice (cells := #[(.int .u8 ((((UInt8.ofNat m).toNat : Nat) : Int)))]) (Want.plain rfl) rfl rfl rfl Try.underlying27 in5 rfl rfl rfl (by as_aux_lemma => kernel_rfl) (fun b39 => ?_)
      change TL _ _ _ _ _ _ _ _ _ [blkA b39 [(.int .u8 ((((UInt8.ofNat m).toNat : Nat) : Int)))] 5, blkA wb [u2] 29, ownB u2 (laid2) 5]
      refine TL.append (k := 2) (news := u8s ([(UInt8.ofNat m)])) (nn' := (laid2 ++ [(UInt8.ofNat m)] : List UInt8).length) (xs' := u8s (laid2 ++ [(UInt8.ofNat m)])) (Want.plain rfl) rfl rfl rfl Try.underlying27 in5 rfl rfl rfl rfl rfl rfl (fun _ _ => Src.rd rfl (Rd.own 0 rfl rfl) rfl) (u8s_one [(UInt8.ofNat m)]) (by have := congrArg List.length hM; have := encs_len l; have := encU_pos m; simp only [List.length_append, maxLen] at *; omega) (by have := congrArg List.length hM; have := encs_len l; have := encU_pos m; simp only [List.length_append] at *; omega) (by simp) (u8s_append _ _).symm (fun v40 ov40 => ?_)
      change TL _ _ _ _ _ _ _ _ _ [blkA b39 [(.int .u8 ((((UInt8.ofNat m).toNat : Nat) : Int)))] 5, blkA wb [u2] 29, ownB v40 (laid2 ++ [(UInt8.ofNat m)]) 5]
      refine TL.v (Want.plain rfl) rfl rfl (PV.nilCheck rfl rfl) ?_
      refine TL.v (Want.plain rfl) rfl rfl (PV.fieldAddr (r := 0) rfl Try.underlying29 rfl sz27 rfl rfl) ?_
      refine TL.store1 (i := 1) (H' := [blkA b39 [(.int .u8 ((((UInt8.ofNat m).toNat : Nat) : Int)))] 5, blkA wb [v40] 29, ownB v40 (laid2 ++ [(UInt8.ofNat m)]) 5]) (Want.plain rfl) rfl rfl rfl rfl ov40 sz27 rfl rfl (lb rfl) rfl rfl ?_
      refine TL.nil ?_
      refine TE.blockEnd ?_
      refine TE.next hK6 ?_
      clear hK6
      refine TC.region ?_
      refine TL.v (Want.plain rfl) rfl rfl (PV.add rfl rfl rfl (wrap_i64 (by omega) (by omega))) ?_
      refine TL.v (Want.plain rfl) rfl rfl (PV.move rfl rfl) ?_
      refine TL.nil ?_
      exact TE.round ((k + 1, v40, laid2 ++ [(UInt8.ofNat m)]) : (Nat) × (Value) × (List UInt8)) ⟨by omega, by rw [← hM, encU_lo (by omega)]; simp⟩ (by show _ - _ < _ - _; omega)
        (Sub.r (Sub.r (Sub.r (Sub.r (Sub.r (Sub.nil _))))))
        (fun _ s => sep_keep [1, 1] rfl s)
  · skip
    refine TL.nil ?_
    refine TE.next hK4 ?_
    clear hK4
    refine TC.seq (fun K13 hK13 => ?_)
    refine TC.no rfl ?_
    refine TC.exit ?_
    refine TE.pass ?_
    clear hK13
    refine TE.pass ?_
    refine TE.hit ?_
    refine TE.next hK2 ?_
    clear hK2
    refine TC.seq (fun K14 hK14 => ?_)
    refine TC.region ?_
    refine TL.v (Want.plain rfl) rfl rfl (PV.move rfl rfl) ?_
    refine TL.v (Want.plain rfl) rfl rfl (PV.assign rfl rfl) ?_
    refine TL.nil ?_
    refine TE.next hK14 ?_
    clear hK14
    refine TC.ret ?_
    refine TE.weak (Sub.refl _) (fun _ s => sep_keep [0, 0] rfl s) ?_
    refine TE.ret1 rfl rfl ?_
    obtain rfl : laid = bs ++ encs l := by rw [← hL, List.drop_eq_nil_of_le (by omega)]; simp [encs]
    exact ⟨u, rfl, rfl⟩


theorem wnum_nil (wb : Nat) (v : Value) (bs : List UInt8) :
    Does Try.prog 11 #[(.pointer (some ⟨wb, 0, none⟩)), (.slice none 0 0)] (fun _ => True) [blkA wb [v] 29, ownB v (bs) 5] (WPost 29 5 wb (bs ++ encs [])) := by
  refine Does.body (vs := [(.pointer (some ⟨wb, 0, none⟩)), (.slice none 0 0)]) (n := 45) Try.func11 rfl rfl rfl (fun w0 F hF => ?_)
  refine TC.seq (fun K1 hK1 => ?_)
  refine TC.region ?_
  refine TL.v (Want.plain rfl) rfl rfl (PV.assign rfl rfl) ?_
  refine TL.nil ?_
  refine TE.next hK1 ?_
  clear hK1
  refine TC.seq (fun K2 hK2 => ?_)
  refine TC.seq (fun K3 hK3 => ?_)
  refine TC.region ?_
  refine TL.v (Want.plain rfl) rfl rfl (PV.move rfl rfl) ?_
  refine TL.v (Want.plain rfl) rfl rfl (PV.lenSl rfl Try.underlying79 rfl) ?_
  refine TL.v (Want.plain rfl) rfl rfl (PV.move rfl rfl) ?_
  refine TL.nil ?_
  refine TE.next hK3 ?_
  clear hK3
  refine TC.block ?_
  refine TC.loop (α := Unit) (fun _u => True) (fun _u => [(0, (.pointer (some ⟨wb, 0, none⟩))), (4, (.pointer none)), (8, (.slice none 0 0)), (9, (.int .i64 0)), (10, (.int .i64 0))]) (fun _u => [blkA wb [v] 29, ownB v (bs) 5]) (fun _u => 0) ()
      trivial (Sub.r (Sub.r (Sub.r (Sub.r (Sub.r (Sub.nil _))))))
      (fun _ s => s) (fun _u hinv => ?_)
  obtain _ := hinv
  refine TC.seq (fun K4 hK4 => ?_)
  refine TC.region ?_
  refine TL.v (Want.plain rfl) rfl rfl (PV.lss rfl rfl rfl) ?_
  refine TL.nil ?_
  refine TE.next hK4 ?_
  clear hK4
  refine TC.seq (fun K5 hK5 => ?_)
  refine TC.no rfl ?_
  refine TC.exit ?_
  refine TE.pass ?_
  clear hK5
  refine TE.pass ?_
  refine TE.hit ?_
  refine TE.next hK2 ?_
  clear hK2
  refine TC.seq (fun K6 hK6 => ?_)
  refine TC.region ?_
  refine TL.v (Want.plain rfl) rfl rfl (PV.move rfl rfl) ?_
  refine TL.v (Want.plain rfl) rfl rfl (PV.assign rfl rfl) ?_
  refine TL.nil ?_
  refine TE.next hK6 ?_
  clear hK6
  refine TC.ret ?_
  refine TE.ret1 rfl rfl ?_
  exact ⟨v, rfl, by rw [encs_nil, List.append_nil]⟩


theorem wnum_does (wb : Nat) (v : Value) (bs : List UInt8) (x : Value) (l : List Int) (hlen : bs.length + 10 * l.length ≤ 140737488355328) : Does Try.prog 11 #[(.pointer (some ⟨wb, 0, none⟩)), x] (IsN x l) [blkA wb [v] 29, ownB v bs 5] (WPost 29 5 wb (bs ++ encs l)) := by
  refine Does.of fun F hF => ?_
  rcases id hF with ⟨rfl, rfl⟩ | ⟨b, off, cap, cs, T, z, rfl, h3, h4⟩
  · exact ⟨_, trivial, wnum_nil wb v bs⟩
  · exact ⟨_, h3, wnum_cells wb b off cap v bs l cs T z hlen h4⟩

theorem wbytes_does (wb : Nat) (v : Value) (bs : List UInt8) (hlen : bs.length ≤ 140737488355328) :
    Does Try.prog 14 #[(.pointer (some ⟨wb, 0, none⟩))] (fun _ => True) [blkA wb [v] 29, ownB v (bs) 5] (Ret (fun x H => ∃ u, x = u ∧ H = [blkA wb [v] 29, ownB v bs 5, ownB u bs 5])) := by
  refine Does.body (vs := [(.pointer (some ⟨wb, 0, none⟩))]) (n := 9) Try.func14 rfl rfl rfl (fun w0 F hF => ?_)
  refine TC.seq (fun K1 hK1 => ?_)
  refine TC.region ?_
  refine TL.v (Want.plain rfl) rfl rfl (PV.assign rfl rfl) ?_
  refine TL.nil ?_
  refine TE.next hK1 ?_
  clear hK1
  refine TC.seq (fun K2 hK2 => ?_)
  refine TC.region ?_
  refine TL.buildSlice0 (Want.plain rfl) rfl rfl rfl Try.underlying27 sz5 (fun v3 => ?_)
  change TL _ _ _ _ _ _ _ _ _ [ownB v3 ([]) 5, blkA wb [v] 29, ownB v (bs) 5]
  refine TL.v (Want.plain rfl) rfl rfl (PV.move rfl rfl) ?_
  refine TL.v (Want.plain rfl) rfl rfl (PV.nilCheck rfl rfl) ?_
  refine TL.v (Want.plain rfl) rfl rfl (PV.fieldAddr (r := 0) rfl Try.underlying29 rfl sz27 rfl rfl) ?_
  refine TL.v (Want.plain rfl) rfl rfl (PV.load1 (v := v) rfl Try.underlying27 rfl rfl (Rd.own 1 rfl rfl) rfl) ?_
  refine TL.append (k := 0) (news := u8s (bs)) (nn' := (bs : List UInt8).length) (xs' := u8s (bs)) (Want.plain rfl) rfl rfl rfl Try.underlying27 in5 rfl rfl rfl rfl rfl rfl (fun _ s => Src.own 2 rfl rfl s) (u8s_one _) (by simp only [maxLen, List.length_cons, List.length_nil]; omega) (by simp only [List.length_cons, List.length_nil]; omega) (by simp) (List.nil_append _) (fun v8 ov8 => ?_)
  change TL _ _ _ _ _ _ _ _ _ [ownB v8 (bs) 5, blkA wb [v] 29, ownB v (bs) 5]
  refine TL.v (Want.plain rfl) rfl rfl (PV.assign rfl rfl) ?_
  refine TL.nil ?_
  refine TE.next hK2 ?_
  clear hK2
  refine TC.ret ?_
  refine TE.weak (Sub.refl _) (fun _ s => sep_keep [1, 1, 0] rfl s) ?_
  refine TE.ret1 rfl rfl ?_
  exact ⟨v8, rfl, rfl⟩


theorem wview_cells (wb : Nat) (v : Value) (bs : List UInt8) (a0 a1 g0 g1 g2 g3 g4 : Int) (hlen : bs.length + 70 ≤ 140737488355328) :
    Does Try.prog 12 #[(.pointer (some ⟨wb, 0, none⟩)), (.agg #[(.int .i64 (a0)), (.int .i64 (a1)), (.int .i64 (g0)), (.int .i64 (g1)), (.int .i64 (g2)), (.int .i64 (g3)), (.int .i64 (g4))])] (fun _ => True) [blkA wb [v] 29, ownB v (bs) 5] (WPost 29 5 wb (bs ++ encs [a0, a1, g0, g1, g2, g3, g4])) := by
  refine Does.body (vs := [(.pointer (some ⟨wb, 0, none⟩)), (.agg #[(.int .i64 (a0)), (.int .i64 (a1)), (.int .i64 (g0)), (.int .i64 (g1)), (.int .i64 (g2)), (.int .i64 (g3)), (.int .i64 (g4))])]) (n := 15) Try.func12 rfl rfl rfl (fun w0 F hF => ?_)
  refine TC.seq (fun K1 hK1 => ?_)
  refine TC.region ?_
  refine TL.box (Want.plain rfl) rfl rfl rfl rfl (fun b3 => ?_)
  change TL _ _ _ _ _ _ _ _ _ [blkA b3 [(.int .i64 (a0)), (.int .i64 (a1)), (.int .i64 (g0)), (.int .i64 (g1)), (.int .i64 (g2)), (.int .i64 (g3)), (.int .i64 (g4))] 25, blkA wb [v] 29, ownB v (bs) 5]
  refine TL.v (Want.plain rfl) rfl rfl (PV.assign rfl rfl) ?_
  refine TL.nil ?_
  refine TE.next hK1 ?_
  clear hK1
  refine TC.seq (fun K2 hK2 => ?_)
  refine TC.draw (fun w => Frm F w ∧ w.heap[b3]? = some (.cells ([(.int .i64 (a0)), (.int .i64 (a1)), (.int .i64 (g0)), (.int .i64 (g1)), (.int .i64 (g2)), (.int .i64 (g3)), (.int .i64 (g4))]).toArray 25 (0, 0)) ∧ True) mixed rfl (fun _ s => ⟨Frm.of s, s.block 0 (lb rfl) rfl, trivial⟩) ?_
  refine TD.take (i := 0) rfl (by kernel_rfl) (by kernel_rfl) (by kernel_rfl) (fun _ _ _ _ h => h) (Want.plain rfl) rfl rfl (PV.move rfl rfl) ?_
  refine TD.take (i := 1) rfl (by kernel_rfl) (by kernel_rfl) (by kernel_rfl) (fun _ _ _ _ h => h) (Want.plain rfl) rfl rfl (PV.fieldAddr (r := 0) rfl Try.underlying25 rfl sz3 rfl rfl) ?_
  refine TD.take (i := 2) rfl (by kernel_rfl) (by kernel_rfl) (by kernel_rfl) (fun _ _ _ _ h => h) (Want.plain rfl) rfl rfl (PV.load1 (v := (.int .i64 (a0))) rfl Try.underlying3 rfl rfl (fun _ h => h.2.1) rfl) ?_
  refine TD.take (i := 3) rfl (by kernel_rfl) (by kernel_rfl) (by kernel_rfl) (fun _ _ _ _ h => h) (Want.plain rfl) rfl rfl (PV.fieldAddr (r := 1) rfl Try.underlying25 rfl sz3 rfl rfl) ?_
  refine TD.take (i := 4) rfl (by kernel_rfl) (by kernel_rfl) (by kernel_rfl) (fun _ _ _ _ h => h) (Want.plain rfl) rfl rfl (PV.load1 (v := (.int .i64 (a1))) rfl Try.underlying3 rfl rfl (fun _ h => h.2.1) rfl) ?_
  refine TD.take (i := 7) rfl (by kernel_rfl) (by kernel_rfl) (by kernel_rfl) (fun _ _ _ _ h => h) (Want.plain rfl) rfl rfl (PV.fieldAddr (r := 2) rfl Try.underlying25 rfl sz23 rfl rfl) ?_
  refine TD.take (i := 8) rfl (by kernel_rfl) (by kernel_rfl) (by kernel_rfl) (fun _ _ _ _ h => h) (Want.plain rfl) rfl rfl (PV.sliceArr rfl Try.underlying23 sz3 rfl) ?_
  refine TD.all [5] (by kernel_rfl) rfl ?_
  refine AllT.cons rfl ?_ ?_
  · skip
    refine TL.buildSlice (cells := #[(.int .i64 (a0)), (.int .i64 (a1))]) (Want.plain rfl) rfl rfl rfl Try.underlying79 in3 rfl rfl rfl (by as_aux_lemma => kernel_rfl) (fun b10 => ?_)
    change TL _ _ _ _ _ _ _ _ _ [blkA b10 [(.int .i64 (a0)), (.int .i64 (a1))] 3, blkA b3 [(.int .i64 (a0)), (.int .i64 (a1)), (.int .i64 (g0)), (.int .i64 (g1)), (.int .i64 (g2)), (.int .i64 (g3)), (.int .i64 (g4))] 25, blkA wb [v] 29, ownB v (bs) 5]
    refine TL.nil ?_
    refine TE.draw (fun _ s => ⟨Frm.of s, s.block 1 (lb rfl) rfl, trivial⟩) ?_
    refine TD.all [6] (by kernel_rfl) rfl ?_
    refine AllT.cons rfl ?_ ?_
    · skip
      refine TL.callR (A := [blkA wb [v] 29, ownB v (bs) 5]) (B := [blkA b10 [(.int .i64 (a0)), (.int .i64 (a1))] 3, blkA b3 [(.int .i64 (a0)), (.int .i64 (a1)), (.int .i64 (g0)), (.int .i64 (g1)), (.int .i64 (g2)), (.int .i64 (g3)), (.int .i64 (g4))] 25]) (Want.plain rfl) rfl rfl rfl nm11 rfl (wnum_does wb v (bs) (.slice (some ⟨b10, 0, none⟩) (2) (2)) [a0, a1] (by simp only [List.length_append, List.length_cons, List.length_nil, Vector.length_toList]; first | omega | (have := encs_len [a0, a1]; simp only [List.length_cons, List.length_nil] at this; omega))) (fun _ s => sep_selR [2, 2] rfl s) (isN_piece 0 rfl rfl rfl rfl) (fun vR HR hR => ?_)
      obtain ⟨u1, rfl, rfl⟩ := hR
      change TL _ _ _ _ _ _ _ _ _ [blkA wb [u1] 29, ownB u1 (bs ++ encs [a0, a1]) 5, blkA b10 [(.int .i64 (a0)), (.int .i64 (a1))] 3, blkA b3 [(.int .i64 (a0)), (.int .i64 (a1)), (.int .i64 (g0)), (.int .i64 (g1)), (.int .i64 (g2)), (.int .i64 (g3)), (.int .i64 (g4))] 25]
      refine TL.nil ?_
      refine TE.draw (fun _ s => ⟨Frm.of s, s.block 3 (lb rfl) rfl, trivial⟩) ?_
      refine TD.all [9] (by kernel_rfl) rfl ?_
      refine AllT.cons rfl ?_ ?_
      · skip
        refine TL.callR (A := [blkA wb [u1] 29, ownB u1 (bs ++ encs [a0, a1]) 5]) (B := [blkA b10 [(.int .i64 (a0)), (.int .i64 (a1))] 3, blkA b3 [(.int .i64 (a0)), (.int .i64 (a1)), (.int .i64 (g0)), (.int .i64 (g1)), (.int .i64 (g2)), (.int .i64 (g3)), (.int .i64 (g4))] 25]) (Want.plain rfl) rfl rfl rfl nm11 rfl (wnum_does wb u1 (bs ++ encs [a0, a1]) (.slice (some ⟨b3, 2, none⟩) (5) (5)) [g0, g1, g2, g3, g4] (by simp only [List.length_append, List.length_cons, List.length_nil, Vector.length_toList]; first | omega | (have := encs_len [a0, a1]; simp only [List.length_cons, List.length_nil] at this; omega))) (fun _ s => s) (isN_piece 1 rfl rfl rfl rfl) (fun vR HR hR => ?_)
        obtain ⟨u2, rfl, rfl⟩ := hR
        change TL _ _ _ _ _ _ _ _ _ [blkA wb [u2] 29, ownB u2 (bs ++ encs [a0, a1] ++ encs [g0, g1, g2, g3, g4]) 5, blkA b10 [(.int .i64 (a0)), (.int .i64 (a1))] 3, blkA b3 [(.int .i64 (a0)), (.int .i64 (a1)), (.int .i64 (g0)), (.int .i64 (g1)), (.int .i64 (g2)), (.int .i64 (g3)), (.int .i64 (g4))] 25]
        refine TL.nil ?_
        refine TE.draw (fun _ s => ⟨Frm.of s, s.block 3 (lb rfl) rfl, trivial⟩) ?_
        refine TD.take (i := 10) rfl (by kernel_rfl) (by kernel_rfl) (by kernel_rfl) (fun _ _ _ _ h => h) (Want.plain rfl) rfl rfl (PV.assign rfl rfl) ?_
        refine TD.done (by kernel_rfl) ?_
        refine TE.next hK2 ?_
        clear hK2
        refine TC.ret ?_
        refine TE.weak (Sub.refl _) (fun _ s => sep_keep [0, 0] rfl s) ?_
        refine TE.ret1 rfl rfl ?_
        exact ⟨_, rfl, by rw [List.append_assoc, ← encs_append]; rfl⟩
      exact AllT.nil
    exact AllT.nil
  exact AllT.nil


theorem wchange_cells (wb : Nat) (v : Value) (bs : List UInt8) (a0 a1 a2 : Int) (hlen : bs.length + 30 ≤ 140737488355328) :
    Does Try.prog 38 #[(.pointer (some ⟨wb, 0, none⟩)), (.agg #[(.int .i64 (a0)), (.int .i64 (a1)), (.int .i64 (a2))])] (fun _ => True) [blkA wb [v] 29, ownB v (bs) 5] (WPost 29 5 wb (bs ++ encs [a0, a1, a2])) := by
  refine Does.body (vs := [(.pointer (some ⟨wb, 0, none⟩)), (.agg #[(.int .i64 (a0)), (.int .i64 (a1)), (.int .i64 (a2))])]) (n := 14) Try.func38 rfl rfl rfl (fun w0 F hF => ?_)
  refine TC.seq (fun K1 hK1 => ?_)
  refine TC.region ?_
  refine TL.box (Want.plain rfl) rfl rfl rfl rfl (fun b3 => ?_)
  change TL _ _ _ _ _ _ _ _ _ [blkA b3 [(.int .i64 (a0)), (.int .i64 (a1)), (.int .i64 (a2))] 42, blkA wb [v] 29, ownB v (bs) 5]
  refine TL.v (Want.plain rfl) rfl rfl (PV.assign rfl rfl) ?_
  refine TL.nil ?_
  refine TE.next hK1 ?_
  clear hK1
  refine TC.seq (fun K2 hK2 => ?_)
  refine TC.region ?_
  refine TL.v (Want.plain rfl) rfl rfl (PV.move rfl rfl) ?_
  refine TL.v (Want.plain rfl) rfl rfl (PV.fieldAddr (r := 0) rfl Try.underlying42 rfl sz3 rfl rfl) ?_
  refine TL.v (Want.plain rfl) rfl rfl (PV.load1 (v := (.int .i64 (a0))) rfl Try.underlying3 rfl rfl (Rd.own 0 rfl rfl) rfl) ?_
  refine TL.v (Want.plain rfl) rfl rfl (PV.fieldAddr (r := 1) rfl Try.underlying42 rfl sz3 rfl rfl) ?_
  refine TL.v (Want.plain rfl) rfl rfl (PV.load1 (v := (.int .i64 (a1))) rfl Try.underlying3 rfl rfl (Rd.own 0 rfl rfl) rfl) ?_
  refine TL.v (Want.plain rfl) rfl rfl (PV.fieldAddr (r := 2) rfl Try.underlying42 rfl sz3 rfl rfl) ?_
  refine TL.v (Want.plain rfl) rfl rfl (PV.load1 (v := (.int .i64 (a2))) rfl Try.underlying3 rfl rfl (Rd.own 0 rfl rfl) rfl) ?_
  refine TL.buildSlice (cells := #[(.int .i64 (a0)), (.int .i64 (a1)), (.int .i64 (a2))]) (Want.plain rfl) rfl rfl rfl Try.underlying79 in3 rfl rfl rfl (by as_aux_lemma => kernel_rfl) (fun b12 => ?_)
  change TL _ _ _ _ _ _ _ _ _ [blkA b12 [(.int .i64 (a0)), (.int .i64 (a1)), (.int .i64 (a2))] 3, blkA b3 [(.int .i64 (a0)), (.int .i64 (a1)), (.int .i64 (a2))] 42, blkA wb [v] 29, ownB v (bs) 5]
  refine TL.callR (A := [blkA wb [v] 29, ownB v (bs) 5]) (B := [blkA b12 [(.int .i64 (a0)), (.int .i64 (a1)), (.int .i64 (a2))] 3, blkA b3 [(.int .i64 (a0)), (.int .i64 (a1)), (.int .i64 (a2))] 42]) (Want.plain rfl) rfl rfl rfl nm11 rfl (wnum_does wb v (bs) (.slice (some ⟨b12, 0, none⟩) (3) (3)) [a0, a1, a2] (by simp only [List.length_append, List.length_cons, List.length_nil, Vector.length_toList]; first | omega | (have := encs_len [a0, a1]; simp only [List.length_cons, List.length_nil] at this; omega))) (fun _ s => sep_selR [2, 2] rfl s) (isN_piece 0 rfl rfl rfl rfl) (fun vR HR hR => ?_)
  obtain ⟨u1, rfl, rfl⟩ := hR
  change TL _ _ _ _ _ _ _ _ _ [blkA wb [u1] 29, ownB u1 (bs ++ encs [a0, a1, a2]) 5, blkA b12 [(.int .i64 (a0)), (.int .i64 (a1)), (.int .i64 (a2))] 3, blkA b3 [(.int .i64 (a0)), (.int .i64 (a1)), (.int .i64 (a2))] 42]
  refine TL.v (Want.plain rfl) rfl rfl (PV.assign rfl rfl) ?_
  refine TL.nil ?_
  refine TE.next hK2 ?_
  clear hK2
  refine TC.ret ?_
  refine TE.weak (Sub.refl _) (fun _ s => sep_keep [0, 0] rfl s) ?_
  refine TE.ret1 rfl rfl ?_
  exact ⟨_, rfl, rfl⟩


theorem wballot_cells (wb : Nat) (v : Value) (bs : List UInt8) (a0 a1 : Int) (hlen : bs.length + 20 ≤ 140737488355328) :
    Does Try.prog 37 #[(.pointer (some ⟨wb, 0, none⟩)), (.agg #[(.int .i64 (a0)), (.int .i64 (a1))])] (fun _ => True) [blkA wb [v] 29, ownB v (bs) 5] (WPost 29 5 wb (bs ++ encs [a0, a1])) := by
  refine Does.body (vs := [(.pointer (some ⟨wb, 0, none⟩)), (.agg #[(.int .i64 (a0)), (.int .i64 (a1))])]) (n := 12) Try.func37 rfl rfl rfl (fun w0 F hF => ?_)
  refine TC.seq (fun K1 hK1 => ?_)
  refine TC.region ?_
  refine TL.box (Want.plain rfl) rfl rfl rfl rfl (fun b3 => ?_)
  change TL _ _ _ _ _ _ _ _ _ [blkA b3 [(.int .i64 (a0)), (.int .i64 (a1))] 40, blkA wb [v] 29, ownB v (bs) 5]
  refine TL.v (Want.plain rfl) rfl rfl (PV.assign rfl rfl) ?_
  refine TL.nil ?_
  refine TE.next hK1 ?_
  clear hK1
  refine TC.seq (fun K2 hK2 => ?_)
  refine TC.region ?_
  refine TL.v (Want.plain rfl) rfl rfl (PV.move rfl rfl) ?_
  refine TL.v (Want.plain rfl) rfl rfl (PV.fieldAddr (r := 0) rfl Try.underlying40 rfl sz3 rfl rfl) ?_
  refine TL.v (Want.plain rfl) rfl rfl (PV.load1 (v := (.int .i64 (a0))) rfl Try.underlying3 rfl rfl (Rd.own 0 rfl rfl) rfl) ?_
  refine TL.v (Want.plain rfl) rfl rfl (PV.fieldAddr (r := 1) rfl Try.underlying40 rfl sz3 rfl rfl) ?_
  refine TL.v (Want.plain rfl) rfl rfl (PV.load1 (v := (.int .i64 (a1))) rfl Try.underlying3 rfl rfl (Rd.own 0 rfl rfl) rfl) ?_
  refine TL.buildSlice (cells := #[(.int .i64 (a0)), (.int .i64 (a1))]) (Want.plain rfl) rfl rfl rfl Try.underlying79 in3 rfl rfl rfl (by as_aux_lemma => kernel_rfl) (fun b10 => ?_)
  change TL _ _ _ _ _ _ _ _ _ [blkA b10 [(.int .i64 (a0)), (.int .i64 (a1))] 3, blkA b3 [(.int .i64 (a0)), (.int .i64 (a1))] 40, blkA wb [v] 29, ownB v (bs) 5]
  refine TL.callR (A := [blkA wb [v] 29, ownB v (bs) 5]) (B := [blkA b10 [(.int .i64 (a0)), (.int .i64 (a1))] 3, blkA b3 [(.int .i64 (a0)), (.int .i64 (a1))] 40]) (Want.plain rfl) rfl rfl rfl nm11 rfl (wnum_does wb v (bs) (.slice (some ⟨b10, 0, none⟩) (2) (2)) [a0, a1] (by simp only [List.length_append, List.length_cons, List.length_nil, Vector.length_toList]; first | omega | (have := encs_len [a0, a1]; simp only [List.length_cons, List.length_nil] at this; omega))) (fun _ s => sep_selR [2, 2] rfl s) (isN_piece 0 rfl rfl rfl rfl) (fun vR HR hR => ?_)
  obtain ⟨u1, rfl, rfl⟩ := hR
  change TL _ _ _ _ _ _ _ _ _ [blkA wb [u1] 29, ownB u1 (bs ++ encs [a0, a1]) 5, blkA b10 [(.int .i64 (a0)), (.int .i64 (a1))] 3, blkA b3 [(.int .i64 (a0)), (.int .i64 (a1))] 40]
  refine TL.v (Want.plain rfl) rfl rfl (PV.assign rfl rfl) ?_
  refine TL.nil ?_
  refine TE.next hK2 ?_
  clear hK2
  refine TC.ret ?_
  refine TE.weak (Sub.refl _) (fun _ s => sep_keep [0, 0] rfl s) ?_
  refine TE.ret1 rfl rfl ?_
  exact ⟨_, rfl, rfl⟩


theorem wcell_cells (wb : Nat) (v : Value) (bs : List UInt8) (a0 a1 g0 g1 g2 g3 g4 : Int) (hlen : bs.length + 70 ≤ 140737488355328) :
    Does Try.prog 33 #[(.pointer (some ⟨wb, 0, none⟩)), (.agg #[(.int .i64 (a0)), (.int .i64 (a1)), (.int .i64 (g0)), (.int .i64 (g1)), (.int .i64 (g2)), (.int .i64 (g3)), (.int .i64 (g4))])] (fun _ => True) [blkA wb [v] 29, ownB v (bs) 5] (Ret (fun x H => ∃ v', x = .tuple #[] ∧ H = [blkA wb [v'] 29, ownB v' (bs ++ encs [a0, a1, g0, g1, g2, g3, g4]) 5])) := by
  refine Does.body (vs := [(.pointer (some ⟨wb, 0, none⟩)), (.agg #[(.int .i64 (a0)), (.int .i64 (a1)), (.int .i64 (g0)), (.int .i64 (g1)), (.int .i64 (g2)), (.int .i64 (g3)), (.int .i64 (g4))])]) (n := 14) Try.func33 rfl rfl rfl (fun w0 F hF => ?_)
  refine TC.seq (fun K1 hK1 => ?_)
  refine TC.region ?_
  refine TL.box (Want.plain rfl) rfl rfl rfl rfl (fun b3 => ?_)
  change TL _ _ _ _ _ _ _ _ _ [blkA b3 [(.int .i64 (a0)), (.int .i64 (a1)), (.int .i64 (g0)), (.int .i64 (g1)), (.int .i64 (g2)), (.int .i64 (g3)), (.int .i64 (g4))] 34, blkA wb [v] 29, ownB v (bs) 5]
  refine TL.nil ?_
  refine TE.next hK1 ?_
  clear hK1
  refine TC.draw (fun w => Frm F w ∧ w.heap[b3]? = some (.cells ([(.int .i64 (a0)), (.int .i64 (a1)), (.int .i64 (g0)), (.int .i64 (g1)), (.int .i64 (g2)), (.int .i64 (g3)), (.int .i64 (g4))]).toArray 34 (0, 0)) ∧ True) mixed rfl (fun _ s => ⟨Frm.of s, s.block 0 (lb rfl) rfl, trivial⟩) ?_
  refine TD.take (i := 0) rfl (by kernel_rfl) (by kernel_rfl) (by kernel_rfl) (fun _ _ _ _ h => h) (Want.plain rfl) rfl rfl (PV.move rfl rfl) ?_
  refine TD.take (i := 1) rfl (by kernel_rfl) (by kernel_rfl) (by kernel_rfl) (fun _ _ _ _ h => h) (Want.plain rfl) rfl rfl (PV.fieldAddr (r := 0) rfl Try.underlying34 rfl sz3 rfl rfl) ?_
  refine TD.take (i := 2) rfl (by kernel_rfl) (by kernel_rfl) (by kernel_rfl) (fun _ _ _ _ h => h) (Want.plain rfl) rfl rfl (PV.load1 (v := (.int .i64 (a0))) rfl Try.underlying3 rfl rfl (fun _ h => h.2.1) rfl) ?_
  refine TD.take (i := 3) rfl (by kernel_rfl) (by kernel_rfl) (by kernel_rfl) (fun _ _ _ _ h => h) (Want.plain rfl) rfl rfl (PV.fieldAddr (r := 1) rfl Try.underlying34 rfl sz3 rfl rfl) ?_
  refine TD.take (i := 4) rfl (by kernel_rfl) (by kernel_rfl) (by kernel_rfl) (fun _ _ _ _ h => h) (Want.plain rfl) rfl rfl (PV.load1 (v := (.int .i64 (a1))) rfl Try.underlying3 rfl rfl (fun _ h => h.2.1) rfl) ?_
  refine TD.take (i := 7) rfl (by kernel_rfl) (by kernel_rfl) (by kernel_rfl) (fun _ _ _ _ h => h) (Want.plain rfl) rfl rfl (PV.fieldAddr (r := 2) rfl Try.underlying34 rfl sz23 rfl rfl) ?_
  refine TD.take (i := 8) rfl (by kernel_rfl) (by kernel_rfl) (by kernel_rfl) (fun _ _ _ _ h => h) (Want.plain rfl) rfl rfl (PV.sliceArr rfl Try.underlying23 sz3 rfl) ?_
  refine TD.all [5] (by kernel_rfl) rfl ?_
  refine AllT.cons rfl ?_ ?_
  · skip
    refine TL.buildSlice (cells := #[(.int .i64 (a0)), (.int .i64 (a1))]) (Want.plain rfl) rfl rfl rfl Try.underlying79 in3 rfl rfl rfl (by as_aux_lemma => kernel_rfl) (fun b9 => ?_)
    change TL _ _ _ _ _ _ _ _ _ [blkA b9 [(.int .i64 (a0)), (.int .i64 (a1))] 3, blkA b3 [(.int .i64 (a0)), (.int .i64 (a1)), (.int .i64 (g0)), (.int .i64 (g1)), (.int .i64 (g2)), (.int .i64 (g3)), (.int .i64 (g4))] 34, blkA wb [v] 29, ownB v (bs) 5]
    refine TL.nil ?_
    refine TE.draw (fun _ s => ⟨Frm.of s, s.block 1 (lb rfl) rfl, trivial⟩) ?_
    refine TD.all [6] (by kernel_rfl) rfl ?_
    refine AllT.cons rfl ?_ ?_
    · skip
      refine TL.callR (A := [blkA wb [v] 29, ownB v (bs) 5]) (B := [blkA b9 [(.int .i64 (a0)), (.int .i64 (a1))] 3, blkA b3 [(.int .i64 (a0)), (.int .i64 (a1)), (.int .i64 (g0)), (.int .i64 (g1)), (.int .i64 (g2)), (.int .i64 (g3)), (.int .i64 (g4))] 34]) (Want.plain rfl) rfl rfl rfl nm11 rfl (wnum_does wb v (bs) (.slice (some ⟨b9, 0, none⟩) (2) (2)) [a0, a1] (by simp only [List.length_append, List.length_cons, List.length_nil, Vector.length_toList]; first | omega | (have := encs_len [a0, a1]; simp only [List.length_cons, List.length_nil] at this; omega))) (fun _ s => sep_selR [2, 2] rfl s) (isN_piece 0 rfl rfl rfl rfl) (fun vR HR hR => ?_)
      obtain ⟨u1, rfl, rfl⟩ := hR
      change TL _ _ _ _ _ _ _ _ _ [blkA wb [u1] 29, ownB u1 (bs ++ encs [a0, a1]) 5, blkA b9 [(.int .i64 (a0)), (.int .i64 (a1))] 3, blkA b3 [(.int .i64 (a0)), (.int .i64 (a1)), (.int .i64 (g0)), (.int .i64 (g1)), (.int .i64 (g2)), (.int .i64 (g3)), (.int .i64 (g4))] 34]
      refine TL.nil ?_
      refine TE.draw (fun _ s => ⟨Frm.of s, s.block 3 (lb rfl) rfl, trivial⟩) ?_
      refine TD.all [9] (by kernel_rfl) rfl ?_
      refine AllT.cons rfl ?_ ?_
      · skip
        refine TL.callR (A := [blkA wb [u1] 29, ownB u1 (bs ++ encs [a0, a1]) 5]) (B := [blkA b9 [(.int .i64 (a0)), (.int .i64 (a1))] 3, blkA b3 [(.int .i64 (a0)), (.int .i64 (a1)), (.int .i64 (g0)), (.int .i64 (g1)), (.int .i64 (g2)), (.int .i64 (g3)), (.int .i64 (g4))] 34]) (Want.plain rfl) rfl rfl rfl nm11 rfl (wnum_does wb u1 (bs ++ encs [a0, a1]) (.slice (some ⟨b3, 2, none⟩) (5) (5)) [g0, g1, g2, g3, g4] (by simp only [List.length_append, List.length_cons, List.length_nil, Vector.length_toList]; first | omega | (have := encs_len [a0, a1]; simp only [List.length_cons, List.length_nil] at this; omega))) (fun _ s => s) (isN_piece 1 rfl rfl rfl rfl) (fun vR HR hR => ?_)
        obtain ⟨u2, rfl, rfl⟩ := hR
        change TL _ _ _ _ _ _ _ _ _ [blkA wb [u2] 29, ownB u2 (bs ++ encs [a0, a1] ++ encs [g0, g1, g2, g3, g4]) 5, blkA b9 [(.int .i64 (a0)), (.int .i64 (a1))] 3, blkA b3 [(.int .i64 (a0)), (.int .i64 (a1)), (.int .i64 (g0)), (.int .i64 (g1)), (.int .i64 (g2)), (.int .i64 (g3)), (.int .i64 (g4))] 34]
        refine TL.nil ?_
        refine TE.draw (fun _ s => ⟨Frm.of s, s.block 3 (lb rfl) rfl, trivial⟩) ?_
        refine TD.done (by kernel_rfl) ?_
        refine TE.weak (Sub.refl _) (fun _ s => sep_keep [0, 0] rfl s) ?_
        refine TE.end0 rfl ?_
        exact ⟨_, rfl, by rw [List.append_assoc, ← encs_append]; rfl⟩
      exact AllT.nil
    exact AllT.nil
  exact AllT.nil


theorem wcell_does (wb : Nat) (v : Value) (bs : List UInt8) (c : CellT) (hlen : bs.length + 70 ≤ 140737488355328) : Does Try.prog 33 #[(.pointer (some ⟨wb, 0, none⟩)), c.val] (fun _ => True) [blkA wb [v] 29, ownB v bs 5] (Ret (fun x H => ∃ v', x = .tuple #[] ∧ H = [blkA wb [v'] 29, ownB v' (bs ++ encs c.flat) 5])) := by
  obtain ⟨i, o, g⟩ := c
  exact vec5 (p := fun g => Does Try.prog 33 #[(.pointer (some ⟨wb, 0, none⟩)), CellT.val ⟨i, o, g⟩] (fun _ => True) [blkA wb [v] 29, ownB v bs 5] (Ret (fun x H => ∃ v', x = .tuple #[] ∧ H = [blkA wb [v'] 29, ownB v' (bs ++ encs (CellT.flat ⟨i, o, g⟩)) 5]))) (fun a b c d e => wcell_cells wb v bs i o a b c d e hlen) g

theorem wview_does (wb : Nat) (v : Value) (bs : List UInt8) (x : ViewT) (hlen : bs.length + 70 ≤ 140737488355328) : Does Try.prog 12 #[(.pointer (some ⟨wb, 0, none⟩)), x.val] (fun _ => True) [blkA wb [v] 29, ownB v bs 5] (WPost 29 5 wb (bs ++ encs x.flat)) := by
  obtain ⟨i, o, g⟩ := x
  exact vec5 (p := fun g => Does Try.prog 12 #[(.pointer (some ⟨wb, 0, none⟩)), ViewT.val ⟨i, o, g⟩] (fun _ => True) [blkA wb [v] 29, ownB v bs 5] (WPost 29 5 wb (bs ++ encs (ViewT.flat ⟨i, o, g⟩)))) (fun a b c d e => wview_cells wb v bs i o a b c d e hlen) g

theorem wchange_does (wb : Nat) (v : Value) (bs : List UInt8) (x : ChangeT) (hlen : bs.length + 30 ≤ 140737488355328) : Does Try.prog 38 #[(.pointer (some ⟨wb, 0, none⟩)), x.val] (fun _ => True) [blkA wb [v] 29, ownB v bs 5] (WPost 29 5 wb (bs ++ encs x.flat)) := wchange_cells wb v bs x.kind x.who x.heir (by omega)

theorem wballot_does (wb : Nat) (v : Value) (bs : List UInt8) (x : BallotT) (hlen : bs.length + 30 ≤ 140737488355328) : Does Try.prog 37 #[(.pointer (some ⟨wb, 0, none⟩)), x.val] (fun _ => True) [blkA wb [v] 29, ownB v bs 5] (WPost 29 5 wb (bs ++ encs x.flat)) := wballot_cells wb v bs x.round x.who (by omega)

theorem wrow_does (wb : Nat) (v : Value) (bs : List UInt8) (x : RowT) (hlen : bs.length + 2000 ≤ 140737488355328) :
    Does Try.prog 15 #[(.pointer (some ⟨wb, 0, none⟩)), (.agg (ints x.flat).toArray)] (fun _ => True) [blkA wb [v] 29, ownB v (bs) 5] (WPost 29 5 wb (bs ++ encRow x)) := by
  refine Does.body (vs := [(.pointer (some ⟨wb, 0, none⟩)), (.agg (ints x.flat).toArray)]) (n := 50) Try.func15 rfl rfl rfl (fun w0 F hF => ?_)
  refine TC.seq (fun K1 hK1 => ?_)
  refine TC.region ?_
  refine TL.box (Want.plain rfl) rfl rfl rfl rfl (fun b3 => ?_)
  change TL _ _ _ _ _ _ _ _ _ [blkA b3 (ints x.flat) 38, blkA wb [v] 29, ownB v (bs) 5]
  refine TL.v (Want.plain rfl) rfl rfl (PV.assign rfl rfl) ?_
  refine TL.nil ?_
  refine TE.next hK1 ?_
  clear hK1
  refine TC.seq (fun K2 hK2 => ?_)
  refine TC.region ?_
  refine TL.v (Want.plain rfl) rfl rfl (PV.move rfl rfl) ?_
  refine TL.v (Want.plain rfl) rfl rfl (PV.fieldAddr (r := 0) rfl Try.underlying38 rfl sz3 rfl rfl) ?_
  refine TL.v (Want.plain rfl) rfl rfl (PV.load1 (v := (.int .i64 (x.version))) rfl Try.underlying3 rfl rfl (Rd.own 0 rfl rfl) (RowT.get_version _)) ?_
  refine TL.buildSlice (cells := #[(.int .i64 (x.version))]) (Want.plain rfl) rfl rfl rfl Try.underlying79 in3 rfl rfl rfl (by as_aux_lemma => kernel_rfl) (fun b14 => ?_)
  change TL _ _ _ _ _ _ _ _ _ [blkA b14 [(.int .i64 (x.version))] 3, blkA b3 (ints x.flat) 38, blkA wb [v] 29, ownB v (bs) 5]
  refine TL.callR (A := [blkA wb [v] 29, ownB v (bs) 5]) (B := [blkA b14 [(.int .i64 (x.version))] 3, blkA b3 (ints x.flat) 38]) (Want.plain rfl) rfl rfl rfl nm11 rfl (wnum_does wb v (bs) (.slice (some ⟨b14, 0, none⟩) (1) (1)) [x.version] (by have := congrArg List.length (Eq.refl bs); have := encRow_len x; simp only [List.length_append, List.length_cons, List.length_nil] at *; omega)) (fun _ s => sep_selR [2, 2] rfl s) (isN_piece 0 rfl rfl rfl rfl) (fun vR HR hR => ?_)
  obtain ⟨u1, rfl, rfl⟩ := hR
  change TL _ _ _ _ _ _ _ _ _ [blkA wb [u1] 29, ownB u1 (bs ++ encs [x.version]) 5, blkA b14 [(.int .i64 (x.version))] 3, blkA b3 (ints x.flat) 38]
  refine TL.nil ?_
  refine TE.next hK2 ?_
  clear hK2
  refine TC.seq (fun K3 hK3 => ?_)
  refine TC.seq (fun K4 hK4 => ?_)
  refine TC.region ?_
  refine TL.v (Want.plain rfl) rfl rfl (PV.fieldAddr (r := 1) rfl Try.underlying38 rfl sz35 rfl rfl) ?_
  refine TL.v (Want.plain rfl) rfl rfl (PV.loadN (vs := ints (flats x.cells.toList)) rfl Try.underlying35 rfl sz35 rfl (Rd.own 3 rfl rfl) (by rw [ints_length, flats_length]; simp) (RowT.get_cells _)) ?_
  refine TL.v (Want.plain rfl) rfl rfl (PV.move rfl rfl) ?_
  refine TL.nil ?_
  refine TE.next hK4 ?_
  clear hK4
  refine TC.block ?_
  refine TC.loop (α := (Nat) × (Value) × (List UInt8)) (fun ⟨k, u, laid⟩ => k ≤ 4 ∧ laid ++ (encs (flats (x.cells.toList.drop k)) ++ encHeirs x 5 0) = bs ++ encRow x) (fun ⟨k, u, laid⟩ => [(0, (.pointer (some ⟨wb, 0, none⟩))), (3, (.pointer (some ⟨b3, 0, none⟩))), (4, (.pointer none)), (17, (.agg (ints (flats x.cells.toList)).toArray)), (18, (.int .i64 ((k : Nat))))]) (fun ⟨k, u, laid⟩ => [blkA b3 (ints x.flat) 38, blkA wb [u] 29, ownB u (laid) 5]) (fun ⟨k, u, laid⟩ => 4 - k) (0, u1, bs ++ encs [x.version])
      ⟨by omega, by simp [encRow, encs]⟩ (Sub.r (Sub.r (Sub.r (Sub.r (Sub.cons rfl (by congr 1) (Sub.nil _))))))
      (fun _ s => sep_keep [3, 0, 0] rfl s) (fun ⟨k, u, laid⟩ hinv => ?_)
  obtain ⟨hk, hL⟩ := hinv
  have hE := hL
  rw [show encs (flats (x.cells.toList.drop k)) = encs (flats (x.cells.toList.drop k)) from rfl] at hE
  refine TC.seq (fun K5 hK5 => ?_)
  refine TC.region ?_
  refine TL.v (Want.plain rfl) rfl rfl (PV.lss rfl rfl rfl) ?_
  refine TL.dec (fun h19 => ?_) (fun h19 => ?_)
  · skip
    refine TL.nil ?_
    refine TE.next hK5 ?_
    clear hK5
    refine TC.seq (fun K6 hK6 => ?_)
    refine TC.yes rfl ?_
    refine TC.skip ?_
    refine TE.next hK6 ?_
    clear hK6
    refine TC.seq (fun K7 hK7 => ?_)
    refine TC.block ?_
    refine TC.seq (fun K8 hK8 => ?_)
    refine TC.region ?_
    refine TL.v (Want.plain rfl) rfl rfl (PV.indexN (cs := ints (flats (x.cells.toList))) (r := k * 7) rfl Try.underlying35 Try.underlying34 rfl sz34 rfl rfl (by omega) (by omega) (by omega) (flats_get (by simp; omega))) ?_
    refine TL.alloc (Want.plain rfl) rfl rfl rfl z34 (fun b6 => ?_)
    change TL _ _ _ _ _ _ _ _ _ [blkA b6 [(.int .i64 0), (.int .i64 0), (.int .i64 0), (.int .i64 0), (.int .i64 0), (.int .i64 0), (.int .i64 0)] 34, blkA b3 (ints x.flat) 38, blkA wb [u] 29, ownB u (laid) 5]
    refine TL.store (vs := ints ((x.cells.toList)[k]'(by simp; omega)).flat) (cs' := ints ((x.cells.toList)[k]'(by simp; omega)).flat) (i := 0) (H' := [blkA b6 (ints ((x.cells.toList)[k]'(by simp; omega)).flat) 34, blkA b3 (ints x.flat) 38, blkA wb [u] 29, ownB u (laid) 5]) (Want.plain rfl) rfl rfl rfl rfl rfl (by rw [CellT.len]; exact sz34) (ints_one _) rfl rfl (by rw [CellT.len]; exact Nat.le_refl _) (wr_whole (by rw [CellT.len]; rfl)) rfl ?_
    refine TL.nil ?_
    refine TE.next hK8 ?_
    clear hK8
    refine TC.region ?_
    refine TL.v (Want.plain rfl) rfl rfl (PV.move rfl rfl) ?_
    refine TL.v (Want.plain rfl) rfl rfl (PV.loadN (vs := ints ((x.cells.toList)[k]'(by simp; omega)).flat) rfl Try.underlying34 rfl sz34 rfl (Rd.own 0 rfl rfl) (CellT.len _) (by rw [List.drop_zero, List.take_of_length_le (by rw [CellT.len]; decide)])) ?_
    refine TL.callR (A := [blkA wb [u] 29, ownB u (laid) 5]) (B := [blkA b6 (ints ((x.cells.toList)[k]'(by simp; omega)).flat) 34, blkA b3 (ints x.flat) 38]) (Want.plain rfl) rfl rfl rfl nm33 rfl (wcell_does wb u (laid) ((x.cells.toList)[k]'(by simp; omega)) (by have := congrArg List.length hE; have := encRow_len x; have := encs_len ((x.cells.toList)[k]'(by simp; omega)).flat; rw [CellT.flat_length] at this; simp only [List.length_append] at *; omega)) (fun _ s => sep_selR [2, 2] rfl s) (fun _ _ _ => trivial) (fun vR HR hR => ?_)
    obtain ⟨u2, rfl, rfl⟩ := hR
    change TL _ _ _ _ _ _ _ _ _ [blkA wb [u2] 29, ownB u2 (laid ++ encs ((x.cells.toList)[k]'(by simp; omega)).flat) 5, blkA b6 (ints ((x.cells.toList)[k]'(by simp; omega)).flat) 34, blkA b3 (ints x.flat) 38]
    refine TL.nil ?_
    refine TE.blockEnd ?_
    refine TE.next hK7 ?_
    clear hK7
    refine TC.region ?_
    refine TL.v (Want.plain rfl) rfl rfl (PV.add rfl rfl rfl (wrap_i64 (by omega) (by omega))) ?_
    refine TL.v (Want.plain rfl) rfl rfl (PV.move rfl rfl) ?_
    refine TL.nil ?_
    exact TE.round ((k + 1, u2, laid ++ encs ((x.cells.toList)[k]'(by simp; omega)).flat) : (Nat) × (Value) × (List UInt8)) ⟨by omega, by rw [← hL, flats_drop (l := x.cells.toList) (k := k) (by simp; omega)]; simp⟩ (by show _ - _ < _ - _; omega)
      (Sub.r (Sub.r (Sub.r (Sub.r (Sub.r (Sub.nil _))))))
      (fun _ s => sep_keep [3, 0, 0] rfl s)
  · skip
    refine TL.nil ?_
    refine TE.next hK5 ?_
    clear hK5
    refine TC.seq (fun K9 hK9 => ?_)
    refine TC.no rfl ?_
    refine TC.exit ?_
    refine TE.pass ?_
    clear hK9
    refine TE.pass ?_
    refine TE.hit ?_
    refine TE.next hK3 ?_
    clear hK3
    refine TC.seq (fun K10 hK10 => ?_)
    refine TC.seq (fun K11 hK11 => ?_)
    refine TC.region ?_
    refine TL.v (Want.plain rfl) rfl rfl (PV.fieldAddr (r := 29) rfl Try.underlying38 rfl sz23 rfl rfl) ?_
    refine TL.v (Want.plain rfl) rfl rfl (PV.loadN (vs := ints x.heir.toList) rfl Try.underlying23 rfl sz23 rfl (Rd.own 0 rfl rfl) (by rw [ints_length]; simp) (RowT.get_heirs _)) ?_
    refine TL.v (Want.plain rfl) rfl rfl (PV.move rfl rfl) ?_
    refine TL.nil ?_
    refine TE.next hK11 ?_
    clear hK11
    refine TC.block ?_
    refine TC.loop (α := (Nat) × (Value) × (List UInt8)) (fun ⟨i, u, laid⟩ => i ≤ 5 ∧ laid ++ encHeirs x (5 - i) i = bs ++ encRow x) (fun ⟨i, u, laid⟩ => [(0, (.pointer (some ⟨wb, 0, none⟩))), (3, (.pointer (some ⟨b3, 0, none⟩))), (4, (.pointer none)), (26, (.agg (ints x.heir.toList).toArray)), (27, (.int .i64 ((i : Nat))))]) (fun ⟨i, u, laid⟩ => [blkA b3 (ints x.flat) 38, blkA wb [u] 29, ownB u (laid) 5]) (fun ⟨i, u, laid⟩ => 5 - i) (0, u, laid)
        ⟨by omega, by rw [← hL, List.drop_eq_nil_of_le (by simp; omega)]; simp [flats, encs]⟩ (Sub.r (Sub.r (Sub.r (Sub.r (Sub.cons rfl (by congr 1) (Sub.nil _))))))
        (fun _ s => sep_keep [0, 0, 0] rfl s) (fun ⟨i, u, laid⟩ hinv => ?_)
    obtain ⟨hi, hL⟩ := hinv
    have hE := hL
    refine TC.seq (fun K12 hK12 => ?_)
    refine TC.region ?_
    refine TL.v (Want.plain rfl) rfl rfl (PV.lss rfl rfl rfl) ?_
    refine TL.dec (fun h28 => ?_) (fun h28 => ?_)
    · skip
      refine TL.nil ?_
      refine TE.next hK12 ?_
      clear hK12
      refine TC.seq (fun K13 hK13 => ?_)
      refine TC.yes rfl ?_
      refine TC.skip ?_
      refine TE.next hK13 ?_
      clear hK13
      refine TC.seq (fun K14 hK14 => ?_)
      refine TC.block ?_
      refine TC.seq (fun K15 hK15 => ?_)
      refine TC.region ?_
      refine TL.v (Want.plain rfl) rfl rfl (PV.move rfl rfl) ?_
      refine TL.v (Want.plain rfl) rfl rfl (PV.index1 (cs := ints x.heir.toList) (v := .int .i64 (x.heir[i]'(by omega))) (r := i) rfl Try.underlying23 Try.underlying3 rfl sz3 rfl rfl (by omega) (by omega) (by omega) (by rw [ints_get _ _ (by simp; omega)]; simp [List.getD_eq_getElem?_getD, show i < 5 by omega])) ?_
      refine TL.v (Want.plain rfl) rfl rfl (PV.assign rfl rfl) ?_
      refine TL.v (Want.plain rfl) rfl rfl (PV.assign rfl rfl) ?_
      refine TL.nil ?_
      refine TE.next hK15 ?_
      clear hK15
      refine TC.seq (fun K16 hK16 => ?_)
      refine TC.region ?_
      refine TL.v (Want.plain rfl) rfl rfl (PV.move rfl rfl) ?_
      refine TL.v (Want.plain rfl) rfl rfl (PV.move rfl rfl) ?_
      refine TL.buildSlice (cells := #[(.int .i64 (x.heir[i]'(by omega)))]) (Want.plain rfl) rfl rfl rfl Try.underlying79 in3 rfl rfl rfl (by as_aux_lemma => kernel_rfl) (fun b33 => ?_)
      change TL _ _ _ _ _ _ _ _ _ [blkA b33 [(.int .i64 (x.heir[i]'(by omega)))] 3, blkA b3 (ints x.flat) 38, blkA wb [u] 29, ownB u (laid) 5]
      refine TL.callR (A := [blkA wb [u] 29, ownB u (laid) 5]) (B := [blkA b33 [(.int .i64 (x.heir[i]'(by omega)))] 3, blkA b3 (ints x.flat) 38]) (Want.plain rfl) rfl rfl rfl nm11 rfl (wnum_does wb u (laid) (.slice (some ⟨b33, 0, none⟩) (1) (1)) [x.heir[i]'(by omega)] (by have := congrArg List.length hE; have := encRow_len x; simp only [List.length_append, List.length_cons, List.length_nil] at *; omega)) (fun _ s => sep_selR [2, 2] rfl s) (isN_piece 0 rfl rfl rfl rfl) (fun vR HR hR => ?_)
      obtain ⟨u2, rfl, rfl⟩ := hR
      change TL _ _ _ _ _ _ _ _ _ [blkA wb [u2] 29, ownB u2 (laid ++ encs [x.heir[i]'(by omega)]) 5, blkA b33 [(.int .i64 (x.heir[i]'(by omega)))] 3, blkA b3 (ints x.flat) 38]
      refine TL.nil ?_
      refine TE.next hK16 ?_
      clear hK16
      refine TC.seq (fun K17 hK17 => ?_)
      refine TC.region ?_
      refine TL.v (Want.plain rfl) rfl rfl (PV.move rfl rfl) ?_
      refine TL.v (Want.plain rfl) rfl rfl (PV.gtr rfl rfl rfl) ?_
      refine TL.dec (fun h36 => ?_) (fun h36 => ?_)
      · skip
        refine TL.nil ?_
        refine TE.next hK17 ?_
        clear hK17
        refine TC.yes rfl ?_
        refine TC.seq (fun K18 hK18 => ?_)
        refine TC.region ?_
        refine TL.v (Want.plain rfl) rfl rfl (PV.move rfl rfl) ?_
        refine TL.v (Want.plain rfl) rfl rfl (PV.fieldAddr (r := 34) rfl Try.underlying38 rfl sz36 rfl rfl) ?_
        refine TL.v (Want.plain rfl) rfl rfl (PV.indexArr (r := 34 + i * 28) rfl Try.underlying36 sz35 rfl rfl (by omega) (by omega) (by omega)) ?_
        refine TL.v (Want.plain rfl) rfl rfl (PV.loadN (vs := ints (flats (x.left[i]'(by omega)).toList)) rfl Try.underlying35 rfl sz35 rfl (Rd.own 3 rfl rfl) (by rw [ints_length, flats_length]; simp) (RowT.get_left _ i (by omega))) ?_
        refine TL.v (Want.plain rfl) rfl rfl (PV.move rfl rfl) ?_
        refine TL.nil ?_
        refine TE.next hK18 ?_
        clear hK18
        refine TC.block ?_
        refine TC.loop (α := (Nat) × (Value) × (List UInt8)) (fun ⟨k, u3, laid3⟩ => k ≤ 4 ∧ laid3 ++ (encs (flats ((x.left[i]'(by omega)).toList.drop k)) ++ encHeirs x (5 - (i + 1)) (i + 1)) = bs ++ encRow x) (fun ⟨k, u3, laid3⟩ => [(0, (.pointer (some ⟨wb, 0, none⟩))), (3, (.pointer (some ⟨b3, 0, none⟩))), (4, (.pointer none)), (26, (.agg (ints x.heir.toList).toArray)), (27, (.int .i64 ((i : Nat)))), (40, (.agg (ints (flats (x.left[i]'(by omega)).toList)).toArray)), (41, (.int .i64 ((k : Nat))))]) (fun ⟨k, u3, laid3⟩ => [blkA b3 (ints x.flat) 38, blkA wb [u3] 29, ownB u3 (laid3) 5]) (fun ⟨k, u3, laid3⟩ => 4 - k) (0, u2, laid ++ encs [x.heir[i]'(by omega)])
            ⟨by omega, by rw [← hL, encHeirs_step (i := i) (by omega), if_pos h36]; simp [encs]⟩ (Sub.r (Sub.r (Sub.r (Sub.r (Sub.r (Sub.r (Sub.cons rfl (by congr 1) (Sub.nil _))))))))
            (fun _ s => sep_keep [3, 0, 0] rfl s) (fun ⟨k, u3, laid3⟩ hinv => ?_)
        obtain ⟨hk, hM⟩ := hinv
        have hE := hM
        refine TC.seq (fun K19 hK19 => ?_)
        refine TC.region ?_
        refine TL.v (Want.plain rfl) rfl rfl (PV.lss rfl rfl rfl) ?_
        refine TL.dec (fun h42 => ?_) (fun h42 => ?_)
        · skip
          refine TL.nil ?_
          refine TE.next hK19 ?_
          clear hK19
          refine TC.seq (fun K20 hK20 => ?_)
          refine TC.yes rfl ?_
          refine TC.skip ?_
          refine TE.next hK20 ?_
          clear hK20
          refine TC.seq (fun K21 hK21 => ?_)
          refine TC.block ?_
          refine TC.seq (fun K22 hK22 => ?_)
          refine TC.region ?_
          refine TL.v (Want.plain rfl) rfl rfl (PV.indexN (cs := ints (flats ((x.left[i]'(by omega)).toList))) (r := k * 7) rfl Try.underlying35 Try.underlying34 rfl sz34 rfl rfl (by omega) (by omega) (by omega) (flats_get (by simp; omega))) ?_
          refine TL.alloc (Want.plain rfl) rfl rfl rfl z34 (fun b10 => ?_)
          change TL _ _ _ _ _ _ _ _ _ [blkA b10 [(.int .i64 0), (.int .i64 0), (.int .i64 0), (.int .i64 0), (.int .i64 0), (.int .i64 0), (.int .i64 0)] 34, blkA b3 (ints x.flat) 38, blkA wb [u3] 29, ownB u3 (laid3) 5]
          refine TL.store (vs := ints (((x.left[i]'(by omega)).toList)[k]'(by simp; omega)).flat) (cs' := ints (((x.left[i]'(by omega)).toList)[k]'(by simp; omega)).flat) (i := 0) (H' := [blkA b10 (ints (((x.left[i]'(by omega)).toList)[k]'(by simp; omega)).flat) 34, blkA b3 (ints x.flat) 38, blkA wb [u3] 29, ownB u3 (laid3) 5]) (Want.plain rfl) rfl rfl rfl rfl rfl (by rw [CellT.len]; exact sz34) (ints_one _) rfl rfl (by rw [CellT.len]; exact Nat.le_refl _) (wr_whole (by rw [CellT.len]; rfl)) rfl ?_
          refine TL.nil ?_
          refine TE.next hK22 ?_
          clear hK22
          refine TC.region ?_
          refine TL.v (Want.plain rfl) rfl rfl (PV.move rfl rfl) ?_
          refine TL.v (Want.plain rfl) rfl rfl (PV.loadN (vs := ints (((x.left[i]'(by omega)).toList)[k]'(by simp; omega)).flat) rfl Try.underlying34 rfl sz34 rfl (Rd.own 0 rfl rfl) (CellT.len _) (by rw [List.drop_zero, List.take_of_length_le (by rw [CellT.len]; decide)])) ?_
          refine TL.callR (A := [blkA wb [u3] 29, ownB u3 (laid3) 5]) (B := [blkA b10 (ints (((x.left[i]'(by omega)).toList)[k]'(by simp; omega)).flat) 34, blkA b3 (ints x.flat) 38]) (Want.plain rfl) rfl rfl rfl nm33 rfl (wcell_does wb u3 (laid3) (((x.left[i]'(by omega)).toList)[k]'(by simp; omega)) (by have := congrArg List.length hE; have := encRow_len x; have := encs_len (((x.left[i]'(by omega)).toList)[k]'(by simp; omega)).flat; rw [CellT.flat_length] at this; simp only [List.length_append] at *; omega)) (fun _ s => sep_selR [2, 2] rfl s) (fun _ _ _ => trivial) (fun vR HR hR => ?_)
          obtain ⟨u3, rfl, rfl⟩ := hR
          change TL _ _ _ _ _ _ _ _ _ [blkA wb [u3] 29, ownB u3 (laid3 ++ encs (((x.left[i]'(by omega)).toList)[k]'(by simp; omega)).flat) 5, blkA b10 (ints (((x.left[i]'(by omega)).toList)[k]'(by simp; omega)).flat) 34, blkA b3 (ints x.flat) 38]
          refine TL.nil ?_
          refine TE.blockEnd ?_
          refine TE.next hK21 ?_
          clear hK21
          refine TC.region ?_
          refine TL.v (Want.plain rfl) rfl rfl (PV.add rfl rfl rfl (wrap_i64 (by omega) (by omega))) ?_
          refine TL.v (Want.plain rfl) rfl rfl (PV.move rfl rfl) ?_
          refine TL.nil ?_
          exact TE.round ((k + 1, u3, laid3 ++ encs (((x.left[i]'(by omega)).toList)[k]'(by simp; omega)).flat) : (Nat) × (Value) × (List UInt8)) ⟨by omega, by rw [← hM, flats_drop (l := (x.left[i]'(by omega)).toList) (k := k) (by simp; omega)]; simp⟩ (by show _ - _ < _ - _; omega)
            (Sub.r (Sub.r (Sub.r (Sub.r (Sub.r (Sub.r (Sub.r (Sub.nil _))))))))
            (fun _ s => sep_keep [3, 0, 0] rfl s)
        · skip
          refine TL.nil ?_
          refine TE.next hK19 ?_
          clear hK19
          refine TC.seq (fun K23 hK23 => ?_)
          refine TC.no rfl ?_
          refine TC.exit ?_
          refine TE.pass ?_
          clear hK23
          refine TE.pass ?_
          refine TE.hit ?_
          refine TE.blockEnd ?_
          refine TE.next hK14 ?_
          clear hK14
          refine TC.region ?_
          refine TL.v (Want.plain rfl) rfl rfl (PV.add rfl rfl rfl (wrap_i64 (by omega) (by omega))) ?_
          refine TL.v (Want.plain rfl) rfl rfl (PV.move rfl rfl) ?_
          refine TL.nil ?_
          exact TE.round ((i + 1, u3, laid3) : (Nat) × (Value) × (List UInt8)) ⟨by omega, by rw [← hM, List.drop_eq_nil_of_le (by simp; omega)]; simp [flats, encs]⟩ (by show _ - _ < _ - _; omega)
            (Sub.r (Sub.r (Sub.r (Sub.r (Sub.r (Sub.nil _))))))
            (fun _ s => sep_keep [0, 0, 0] rfl s)
      · skip
        refine TL.nil ?_
        refine TE.next hK17 ?_
        clear hK17
        refine TC.no rfl ?_
        refine TC.skip ?_
        refine TE.blockEnd ?_
        refine TE.next hK14 ?_
        clear hK14
        refine TC.region ?_
        refine TL.v (Want.plain rfl) rfl rfl (PV.add rfl rfl rfl (wrap_i64 (by omega) (by omega))) ?_
        refine TL.v (Want.plain rfl) rfl rfl (PV.move rfl rfl) ?_
        refine TL.nil ?_
        exact TE.round ((i + 1, u2, laid ++ encs [x.heir[i]'(by omega)]) : (Nat) × (Value) × (List UInt8)) ⟨by omega, by rw [← hL, encHeirs_step (i := i) (by omega), if_neg h36]; simp [encs]⟩ (by show _ - _ < _ - _; omega)
          (Sub.r (Sub.r (Sub.r (Sub.r (Sub.r (Sub.nil _))))))
          (fun _ s => sep_keep [3, 0, 0] rfl s)
    · skip
      refine TL.nil ?_
      refine TE.next hK12 ?_
      clear hK12
      refine TC.seq (fun K24 hK24 => ?_)
      refine TC.no rfl ?_
      refine TC.exit ?_
      refine TE.pass ?_
      clear hK24
      refine TE.pass ?_
      refine TE.hit ?_
      refine TE.next hK10 ?_
      clear hK10
      refine TC.seq (fun K25 hK25 => ?_)
      refine TC.region ?_
      refine TL.v (Want.plain rfl) rfl rfl (PV.move rfl rfl) ?_
      refine TL.v (Want.plain rfl) rfl rfl (PV.assign rfl rfl) ?_
      refine TL.nil ?_
      refine TE.next hK25 ?_
      clear hK25
      refine TC.ret ?_
      refine TE.weak (Sub.refl _) (fun _ s => sep_keep [1, 1] rfl s) ?_
      refine TE.ret1 rfl rfl ?_
      obtain rfl : laid = bs ++ encRow x := by rw [← hL, show 5 - i = 0 by omega]; simp [encHeirs]
      exact ⟨u, rfl, rfl⟩


end Go.Proofs.Ytdekgkmbcdlekaa
