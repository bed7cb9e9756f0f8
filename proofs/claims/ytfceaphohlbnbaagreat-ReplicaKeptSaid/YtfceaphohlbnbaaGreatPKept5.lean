/-
  Joined texts: what a statement's proof reaches.
-/
import Derived.Test.YtfceaphohlbnbaaGreatPKept4
section
namespace Go.Proofs.YtfceaphohlbnbaaGreat

open Go Leg Codec Api

set_option maxRecDepth 100000

theorem wnum_cells (wb b off cap : Nat) (v : Value) (bs : List UInt8) (l : List Int) (cs : List Value) (T : TypeId) (z : Nat × Nat) (hlen : bs.length + 10 * l.length ≤ 140737488355328) (hb : ∀ j, j < l.length → cs[off + j]? = some (.int .i64 (l.getD j 0))) :
    Does Tryz.prog 124 #[(.pointer (some ⟨wb, 0, none⟩)), (.slice (some ⟨b, off, none⟩) (l.length) (cap))] (fun F => F b = some (.cells cs.toArray T z)) [blkA wb [v] 200, ownB v (bs) 5] (WPost 200 5 wb (bs ++ encs l)) := by
  refine Does.body (vs := [(.pointer (some ⟨wb, 0, none⟩)), (.slice (some ⟨b, off, none⟩) (l.length) (cap))]) (n := 45) Tryz.func124 rfl rfl rfl (fun w0 F hF => ?_)
  refine TC.seq (fun K1 hK1 => ?_)
  refine TC.region ?_
  refine tp rfl rfl rfl (PV.assign rfl rfl) ?_
  refine TL.nil ?_
  refine TE.next hK1 ?_
  clear hK1
  refine TC.seq (fun K2 hK2 => ?_)
  refine TC.seq (fun K3 hK3 => ?_)
  refine TC.region ?_
  refine tp rfl rfl rfl (PV.move rfl rfl) ?_
  refine tp rfl rfl rfl (PV.lenSl rfl Tryz.underlying74 rfl) ?_
  refine tp rfl rfl rfl (PV.move rfl rfl) ?_
  refine TL.nil ?_
  refine TE.next hK3 ?_
  clear hK3
  refine TC.block ?_
  refine TC.loop (α := (Nat) × (Value) × (List UInt8)) (fun ⟨k, u, laid⟩ => k ≤ l.length ∧ laid ++ encs (l.drop k) = bs ++ encs l) (fun ⟨k, u, laid⟩ => [(0, (.pointer (some ⟨wb, 0, none⟩))), (4, (.pointer none)), (8, (.slice (some ⟨b, off, none⟩) (l.length) (cap))), (9, (.int .i64 (((l.length : Nat) : Int)))), (10, (.int .i64 ((k : Nat))))]) (fun ⟨k, u, laid⟩ => [blkA wb [u] 200, ownB u (laid) 5]) (fun ⟨k, u, laid⟩ => l.length - k) (0, v, bs)
      ⟨by omega, rfl⟩ (Sub.r (Sub.r (Sub.r (Sub.r (Sub.cons rfl (by congr 1) (Sub.nil _))))))
      (fun _ s => s) (fun ⟨k, u, laid⟩ hinv => ?_)
  obtain ⟨hk, hL⟩ := hinv
  refine TC.seq (fun K4 hK4 => ?_)
  refine TC.region ?_
  refine tp rfl rfl rfl (PV.lss rfl rfl rfl) ?_
  refine TL.dec (fun h11 => ?_) (fun h11 => ?_)
  refine TL.nil ?_
  refine TE.next hK4 ?_
  clear hK4
  refine TC.seq (fun K5 hK5 => ?_)
  refine TC.yes rfl ?_
  refine TC.skip ?_
  refine TE.next hK5 ?_
  clear hK5
  refine TC.seq (fun K6 hK6 => ?_)
  refine TC.block ?_
  refine TC.seq (fun K7 hK7 => ?_)
  refine TC.region ?_
  refine tp rfl rfl rfl (PV.indexSl (r := off + k) rfl Tryz.underlying74 sz3 rfl rfl (by first | omega | decide) (by first | omega | decide) (by omega)) ?_
  refine tp rfl rfl rfl (PV.load1 (v := (.int .i64 ((l.getD k 0)))) rfl Tryz.underlying3 rfl rfl (Rd.ro hF) (hb k (by omega))) ?_
  refine tp rfl rfl rfl (PV.assign rfl rfl) ?_
  refine TL.nil ?_
  refine TE.next hK7 ?_
  clear hK7
  refine TC.seq (fun K8 hK8 => ?_)
  refine TC.region ?_
  refine tp rfl rfl rfl (PV.move rfl rfl) ?_
  refine tp rfl rfl rfl (PV.convI (r := ((((l.getD k 0 % 18446744073709551616).toNat : Nat)) : Int)) rfl Tryz.underlying3 Tryz.underlying210 rfl (wrap_u64_nat _)) ?_
  refine tp rfl rfl rfl (PV.assign rfl rfl) ?_
  refine TL.nil ?_
  refine TE.next hK8 ?_
  clear hK8
  refine TC.seq (fun K9 hK9 => ?_)
  refine TC.block ?_
  refine TC.loop (α := (Nat) × (Value) × (List UInt8)) (fun ⟨m, u2, laid2⟩ => laid2 ++ (encU m ++ encs (l.drop (k + 1))) = bs ++ encs l) (fun ⟨m, u2, laid2⟩ => [(0, (.pointer (some ⟨wb, 0, none⟩))), (4, (.pointer none)), (7, (.int .u64 ((m : Nat)))), (8, (.slice (some ⟨b, off, none⟩) (l.length) (cap))), (9, (.int .i64 (((l.length : Nat) : Int)))), (10, (.int .i64 ((k : Nat))))]) (fun ⟨m, u2, laid2⟩ => [blkA wb [u2] 200, ownB u2 (laid2) 5]) (fun ⟨m, u2, laid2⟩ => m) ((l.getD k 0 % 18446744073709551616).toNat, u, laid)
      (by rw [← hL, encs_drop (l := l) (k := k) (by omega)]; rfl) (Sub.r (Sub.r (Sub.cons rfl (by congr 1) (Sub.r (Sub.r (Sub.r (Sub.nil _)))))))
      (fun _ s => s) (fun ⟨m, u2, laid2⟩ hinv => ?_)
  have hM := hinv
  refine TC.seq (fun K10 hK10 => ?_)
  refine TC.seq (fun K11 hK11 => ?_)
  refine TC.region ?_
  refine tp rfl rfl rfl (PV.move rfl rfl) ?_
  refine tp rfl rfl rfl (PV.geq rfl rfl rfl) ?_
  refine TL.dec (fun h17 => ?_) (fun h17 => ?_)
  refine TL.nil ?_
  refine TE.next hK11 ?_
  clear hK11
  refine TC.yes rfl ?_
  refine TC.skip ?_
  refine TE.next hK10 ?_
  clear hK10
  refine TC.block ?_
  refine TC.seq (fun K12 hK12 => ?_)
  refine TC.region ?_
  refine tp rfl rfl rfl (PV.move rfl rfl) ?_
  refine tp rfl rfl rfl (PV.move rfl rfl) ?_
  refine tp rfl rfl rfl (PV.nilCheck rfl rfl) ?_
  refine tp rfl rfl rfl (PV.fieldAddr (r := 0) rfl Tryz.underlying200 rfl sz106 rfl rfl) ?_
  refine tp rfl rfl rfl (PV.load1 (v := u2) rfl Tryz.underlying106 rfl rfl (Rd.own 0 rfl rfl) rfl) ?_
  refine tp rfl rfl rfl (PV.move rfl rfl) ?_
  refine tp rfl rfl rfl (PV.convI (r := (IntKind.u8.wrap ((m : Nat) : Int))) rfl Tryz.underlying210 Tryz.underlying5 rfl rfl) ?_
  refine tp rfl rfl rfl (PV.or (r := (((UInt8.ofNat (m % 128 + 128)).toNat : Nat) : Int)) rfl rfl rfl (or128 m)) ?_
  refine TL.buildSlice (cells := #[(.int .u8 ((((UInt8.ofNat (m % 128 + 128)).toNat : Nat) : Int)))]) (Want.plain rfl) rfl rfl rfl Tryz.underlying106 in5 rfl rfl rfl (by as_aux_lemma => kernel_rfl) (fun b26 => ?_)
  change TL _ _ _ _ _ _ _ _ _ [blkA b26 [(.int .u8 ((((UInt8.ofNat (m % 128 + 128)).toNat : Nat) : Int)))] 5, blkA wb [u2] 200, ownB u2 (laid2) 5]
  refine TL.append (k := 2) (news := u8s ([(UInt8.ofNat (m % 128 + 128))])) (nn' := (laid2 ++ [(UInt8.ofNat (m % 128 + 128))] : List UInt8).length) (xs' := u8s (laid2 ++ [(UInt8.ofNat (m % 128 + 128))])) (Want.plain rfl) rfl rfl rfl Tryz.underlying106 in5 rfl rfl rfl rfl rfl rfl (fun _ _ => Src.rd rfl (Rd.own 0 rfl rfl) rfl) (u8s_one [(UInt8.ofNat (m % 128 + 128))]) (by have := congrArg List.length hM; have := encs_len l; have := encU_pos m; simp only [List.length_append, maxLen] at *; omega) (by have := congrArg List.length hM; have := encs_len l; have := encU_pos m; simp only [List.length_append] at *; omega) (by simp) (u8s_append _ _).symm (fun v27 ov27 => ?_)
  change TL _ _ _ _ _ _ _ _ _ [blkA b26 [(.int .u8 ((((UInt8.ofNat (m % 128 + 128)).toNat : Nat) : Int)))] 5, blkA wb [u2] 200, ownB v27 (laid2 ++ [(UInt8.ofNat (m % 128 + 128))]) 5]
  refine tp rfl rfl rfl (PV.nilCheck rfl rfl) ?_
  refine tp rfl rfl rfl (PV.fieldAddr (r := 0) rfl Tryz.underlying200 rfl sz106 rfl rfl) ?_
  refine TL.store1 (i := 1) (H' := [blkA b26 [(.int .u8 ((((UInt8.ofNat (m % 128 + 128)).toNat : Nat) : Int)))] 5, blkA wb [v27] 200, ownB v27 (laid2 ++ [(UInt8.ofNat (m % 128 + 128))]) 5]) (Want.plain rfl) rfl rfl rfl rfl ov27 sz106 rfl rfl (lb rfl) rfl rfl ?_
  refine TL.nil ?_
  refine TE.next hK12 ?_
  clear hK12
  refine TC.region ?_
  refine tp rfl rfl rfl (PV.move rfl rfl) ?_
  refine tp rfl rfl rfl (PV.shr (r := ((m / 128 : Nat) : Int)) rfl rfl rfl (by omega) (shr7 m)) ?_
  refine tp rfl rfl rfl (PV.assign rfl rfl) ?_
  refine TL.nil ?_
  refine TE.blockEnd ?_
  exact TE.round ((m / 128, v27, laid2 ++ [(UInt8.ofNat (m % 128 + 128))]) : (Nat) × (Value) × (List UInt8)) (by rw [← hM, encU_hi (by omega)]; simp) (by show m / 128 < m; omega)
    (Sub.r (Sub.r (Sub.r (Sub.r (Sub.r (Sub.r (Sub.nil _)))))))
    (fun _ s => sep_keep [1, 1] rfl s)
  refine TL.nil ?_
  refine TE.next hK11 ?_
  clear hK11
  refine TC.no rfl ?_
  refine TC.exit ?_
  refine TE.pass ?_
  clear hK10
  refine TE.pass ?_
  refine TE.hit ?_
  refine TE.next hK9 ?_
  clear hK9
  refine TC.region ?_
  refine tp rfl rfl rfl (PV.move rfl rfl) ?_
  refine tp rfl rfl rfl (PV.move rfl rfl) ?_
  refine tp rfl rfl rfl (PV.nilCheck rfl rfl) ?_
  refine tp rfl rfl rfl (PV.fieldAddr (r := 0) rfl Tryz.underlying200 rfl sz106 rfl rfl) ?_
  refine tp rfl rfl rfl (PV.load1 (v := u2) rfl Tryz.underlying106 rfl rfl (Rd.own 0 rfl rfl) rfl) ?_
  refine tp rfl rfl rfl (PV.move rfl rfl) ?_
  refine tp rfl rfl rfl (PV.convI (r := (((UInt8.ofNat m).toNat : Nat) : Int)) rfl Tryz.underlying210 Tryz.underlying5 rfl (byte_lo (by omega))) ?_
  refine TL.buildSlice (cells := #[(.int .u8 ((((UInt8.ofNat m).toNat : Nat) : Int)))]) (Want.plain rfl) rfl rfl rfl Tryz.underlying106 in5 rfl rfl rfl (by as_aux_lemma => kernel_rfl) (fun b39 => ?_)
  change TL _ _ _ _ _ _ _ _ _ [blkA b39 [(.int .u8 ((((UInt8.ofNat m).toNat : Nat) : Int)))] 5, blkA wb [u2] 200, ownB u2 (laid2) 5]
  refine TL.append (k := 2) (news := u8s ([(UInt8.ofNat m)])) (nn' := (laid2 ++ [(UInt8.ofNat m)] : List UInt8).length) (xs' := u8s (laid2 ++ [(UInt8.ofNat m)])) (Want.plain rfl) rfl rfl rfl Tryz.underlying106 in5 rfl rfl rfl rfl rfl rfl (fun _ _ => Src.rd rfl (Rd.own 0 rfl rfl) rfl) (u8s_one [(UInt8.ofNat m)]) (by have := congrArg List.length hM; have := encs_len l; have := encU_pos m; simp only [List.length_append, maxLen] at *; omega) (by have := congrArg List.length hM; have := encs_len l; have := encU_pos m; simp only [List.length_append] at *; omega) (by simp) (u8s_append _ _).symm (fun v40 ov40 => ?_)
  change TL _ _ _ _ _ _ _ _ _ [blkA b39 [(.int .u8 ((((UInt8.ofNat m).toNat : Nat) : Int)))] 5, blkA wb [u2] 200, ownB v40 (laid2 ++ [(UInt8.ofNat m)]) 5]
  refine tp rfl rfl rfl (PV.nilCheck rfl rfl) ?_
  refine tp rfl rfl rfl (PV.fieldAddr (r := 0) rfl Tryz.underlying200 rfl sz106 rfl rfl) ?_
  refine TL.store1 (i := 1) (H' := [blkA b39 [(.int .u8 ((((UInt8.ofNat m).toNat : Nat) : Int)))] 5, blkA wb [v40] 200, ownB v40 (laid2 ++ [(UInt8.ofNat m)]) 5]) (Want.plain rfl) rfl rfl rfl rfl ov40 sz106 rfl rfl (lb rfl) rfl rfl ?_
  refine TL.nil ?_
  refine TE.blockEnd ?_
  refine TE.next hK6 ?_
  clear hK6
  refine TC.region ?_
  refine tp rfl rfl rfl (PV.add rfl rfl rfl (wrap_i64 (by omega) (by omega))) ?_
  refine tp rfl rfl rfl (PV.move rfl rfl) ?_
  refine TL.nil ?_
  exact TE.round ((k + 1, v40, laid2 ++ [(UInt8.ofNat m)]) : (Nat) × (Value) × (List UInt8)) ⟨by omega, by rw [← hM, encU_lo (by omega)]; simp⟩ (by show _ - _ < _ - _; omega)
    (Sub.r (Sub.r (Sub.r (Sub.r (Sub.r (Sub.nil _))))))
    (fun _ s => sep_keep [1, 1] rfl s)
  refine TL.nil ?_
  refine TE.next hK4 ?_
  clear hK4
  refine TC.seq (fun K13 hK13 => ?_)
  refine TC.no rfl ?_
  refine TC.exit ?_
  refine TE.pass ?_
  clear hK13
  refine TE.pass ?_
  refine TE.hit ?_
  refine TE.next hK2 ?_
  clear hK2
  refine TC.seq (fun K14 hK14 => ?_)
  refine TC.region ?_
  refine tp rfl rfl rfl (PV.move rfl rfl) ?_
  refine tp rfl rfl rfl (PV.assign rfl rfl) ?_
  refine TL.nil ?_
  refine TE.next hK14 ?_
  clear hK14
  refine TC.ret ?_
  refine TE.weak (Sub.refl _) (fun _ s => sep_keep [0, 0] rfl s) ?_
  refine TE.ret1 rfl rfl ?_
  obtain rfl : laid = bs ++ encs l := by rw [← hL, List.drop_eq_nil_of_le (by omega)]; simp [encs]
  exact ⟨u, rfl, rfl⟩
theorem wnum_nil (wb : Nat) (v : Value) (bs : List UInt8) :
    Does Tryz.prog 124 #[(.pointer (some ⟨wb, 0, none⟩)), (.slice none 0 0)] (fun _ => True) [blkA wb [v] 200, ownB v (bs) 5] (WPost 200 5 wb (bs ++ encs [])) := by
  refine Does.body (vs := [(.pointer (some ⟨wb, 0, none⟩)), (.slice none 0 0)]) (n := 45) Tryz.func124 rfl rfl rfl (fun w0 F hF => ?_)
  refine TC.seq (fun K1 hK1 => ?_)
  refine TC.region ?_
  refine tp rfl rfl rfl (PV.assign rfl rfl) ?_
  refine TL.nil ?_
  refine TE.next hK1 ?_
  clear hK1
  refine TC.seq (fun K2 hK2 => ?_)
  refine TC.seq (fun K3 hK3 => ?_)
  refine TC.region ?_
  refine tp rfl rfl rfl (PV.move rfl rfl) ?_
  refine tp rfl rfl rfl (PV.lenSl rfl Tryz.underlying74 rfl) ?_
  refine tp rfl rfl rfl (PV.move rfl rfl) ?_
  refine TL.nil ?_
  refine TE.next hK3 ?_
  clear hK3
  refine TC.block ?_
  refine TC.loop (α := Unit) (fun _u => True) (fun _u => [(0, (.pointer (some ⟨wb, 0, none⟩))), (4, (.pointer none)), (8, (.slice none 0 0)), (9, (.int .i64 0)), (10, (.int .i64 0))]) (fun _u => [blkA wb [v] 200, ownB v (bs) 5]) (fun _u => 0) ()
      trivial (Sub.r (Sub.r (Sub.r (Sub.r (Sub.r (Sub.nil _))))))
      (fun _ s => s) (fun _u hinv => ?_)
  obtain _ := hinv
  refine TC.seq (fun K4 hK4 => ?_)
  refine TC.region ?_
  refine tp rfl rfl rfl (PV.lss rfl rfl rfl) ?_
  refine TL.nil ?_
  refine TE.next hK4 ?_
  clear hK4
  refine TC.seq (fun K5 hK5 => ?_)
  refine TC.no rfl ?_
  refine TC.exit ?_
  refine TE.pass ?_
  clear hK5
  refine TE.pass ?_
  refine TE.hit ?_
  refine TE.next hK2 ?_
  clear hK2
  refine TC.seq (fun K6 hK6 => ?_)
  refine TC.region ?_
  refine tp rfl rfl rfl (PV.move rfl rfl) ?_
  refine tp rfl rfl rfl (PV.assign rfl rfl) ?_
  refine TL.nil ?_
  refine TE.next hK6 ?_
  clear hK6
  refine TC.ret ?_
  refine TE.ret1 rfl rfl ?_
  exact ⟨v, rfl, by rw [encs_nil, List.append_nil]⟩
theorem wnum_does (wb : Nat) (v : Value) (bs : List UInt8) (x : Value) (l : List Int) (hlen : bs.length + 10 * l.length ≤ 140737488355328) : Does Tryz.prog 124 #[(.pointer (some ⟨wb, 0, none⟩)), x] (IsN x l) [blkA wb [v] 200, ownB v bs 5] (WPost 200 5 wb (bs ++ encs l)) := by
  refine Does.of fun F hF => ?_
  rcases id hF with ⟨rfl, rfl⟩ | ⟨b, off, cap, cs, T, z, rfl, h3, h4⟩
  · exact ⟨_, trivial, wnum_nil wb v bs⟩
  · exact ⟨_, h3, wnum_cells wb b off cap v bs l cs T z hlen h4⟩

theorem wbytes_does (wb : Nat) (v : Value) (bs : List UInt8) (hlen : bs.length ≤ 140737488355328) :
    Does Tryz.prog 129 #[(.pointer (some ⟨wb, 0, none⟩))] (fun _ => True) [blkA wb [v] 200, ownB v (bs) 5] (Ret (fun x H => ∃ u, x = u ∧ H = [blkA wb [v] 200, ownB v bs 5, ownB u bs 5])) := by
  refine Does.body (vs := [(.pointer (some ⟨wb, 0, none⟩))]) (n := 9) Tryz.func129 rfl rfl rfl (fun w0 F hF => ?_)
  refine TC.seq (fun K1 hK1 => ?_)
  refine TC.region ?_
  refine tp rfl rfl rfl (PV.assign rfl rfl) ?_
  refine TL.nil ?_
  refine TE.next hK1 ?_
  clear hK1
  refine TC.seq (fun K2 hK2 => ?_)
  refine TC.region ?_
  refine TL.buildSlice0 (Want.plain rfl) rfl rfl rfl Tryz.underlying106 sz5 (fun v3 => ?_)
  change TL _ _ _ _ _ _ _ _ _ [ownB v3 ([]) 5, blkA wb [v] 200, ownB v (bs) 5]
  refine tp rfl rfl rfl (PV.move rfl rfl) ?_
  refine tp rfl rfl rfl (PV.nilCheck rfl rfl) ?_
  refine tp rfl rfl rfl (PV.fieldAddr (r := 0) rfl Tryz.underlying200 rfl sz106 rfl rfl) ?_
  refine tp rfl rfl rfl (PV.load1 (v := v) rfl Tryz.underlying106 rfl rfl (Rd.own 1 rfl rfl) rfl) ?_
  refine TL.append (k := 0) (news := u8s (bs)) (nn' := (bs : List UInt8).length) (xs' := u8s (bs)) (Want.plain rfl) rfl rfl rfl Tryz.underlying106 in5 rfl rfl rfl rfl rfl rfl (fun _ s => Src.own 2 rfl rfl s) (u8s_one _) (by simp only [maxLen, List.length_cons, List.length_nil]; omega) (by simp only [List.length_cons, List.length_nil]; omega) (by simp) (List.nil_append _) (fun v8 ov8 => ?_)
  change TL _ _ _ _ _ _ _ _ _ [ownB v8 (bs) 5, blkA wb [v] 200, ownB v (bs) 5]
  refine tp rfl rfl rfl (PV.assign rfl rfl) ?_
  refine TL.nil ?_
  refine TE.next hK2 ?_
  clear hK2
  refine TC.ret ?_
  refine TE.weak (Sub.refl _) (fun _ s => sep_keep [1, 1, 0] rfl s) ?_
  refine TE.ret1 rfl rfl ?_
  exact ⟨v8, rfl, rfl⟩
theorem wview_cells (wb : Nat) (v : Value) (bs : List UInt8) (a0 a1 g0 g1 g2 g3 g4 : Int) (hlen : bs.length + 70 ≤ 140737488355328) :
    Does Tryz.prog 128 #[(.pointer (some ⟨wb, 0, none⟩)), (.agg #[(.int .i64 (a0)), (.int .i64 (a1)), (.int .i64 (g0)), (.int .i64 (g1)), (.int .i64 (g2)), (.int .i64 (g3)), (.int .i64 (g4))])] (fun _ => True) [blkA wb [v] 200, ownB v (bs) 5] (WPost 200 5 wb (bs ++ encs [a0, a1, g0, g1, g2, g3, g4])) := by
  refine Does.body (vs := [(.pointer (some ⟨wb, 0, none⟩)), (.agg #[(.int .i64 (a0)), (.int .i64 (a1)), (.int .i64 (g0)), (.int .i64 (g1)), (.int .i64 (g2)), (.int .i64 (g3)), (.int .i64 (g4))])]) (n := 15) Tryz.func128 rfl rfl rfl (fun w0 F hF => ?_)
  refine TC.seq (fun K1 hK1 => ?_)
  refine TC.region ?_
  refine TL.box (Want.plain rfl) rfl rfl rfl rfl (fun b3 => ?_)
  change TL _ _ _ _ _ _ _ _ _ [blkA b3 [(.int .i64 (a0)), (.int .i64 (a1)), (.int .i64 (g0)), (.int .i64 (g1)), (.int .i64 (g2)), (.int .i64 (g3)), (.int .i64 (g4))] 52, blkA wb [v] 200, ownB v (bs) 5]
  refine tp rfl rfl rfl (PV.assign rfl rfl) ?_
  refine TL.nil ?_
  refine TE.next hK1 ?_
  clear hK1
  refine TC.seq (fun K2 hK2 => ?_)
  refine TC.draw (fun w => Frm F w ∧ w.heap[b3]? = some (.cells ([(.int .i64 (a0)), (.int .i64 (a1)), (.int .i64 (g0)), (.int .i64 (g1)), (.int .i64 (g2)), (.int .i64 (g3)), (.int .i64 (g4))]).toArray 52 (0, 0)) ∧ True) mixed rfl (fun _ s => ⟨Frm.of s, s.block 0 (lb rfl) rfl, trivial⟩) ?_
  refine TD.take (i := 0) rfl (by kernel_rfl) (by kernel_rfl) (by kernel_rfl) (fun _ _ _ _ h => h) (Want.plain rfl) rfl rfl (PV.move rfl rfl) ?_
  refine TD.take (i := 1) rfl (by kernel_rfl) (by kernel_rfl) (by kernel_rfl) (fun _ _ _ _ h => h) (Want.plain rfl) rfl rfl (PV.fieldAddr (r := 0) rfl Tryz.underlying52 rfl sz3 rfl rfl) ?_
  refine TD.take (i := 2) rfl (by kernel_rfl) (by kernel_rfl) (by kernel_rfl) (fun _ _ _ _ h => h) (Want.plain rfl) rfl rfl (PV.load1 (v := (.int .i64 (a0))) rfl Tryz.underlying3 rfl rfl (fun _ h => h.2.1) rfl) ?_
  refine TD.take (i := 3) rfl (by kernel_rfl) (by kernel_rfl) (by kernel_rfl) (fun _ _ _ _ h => h) (Want.plain rfl) rfl rfl (PV.fieldAddr (r := 1) rfl Tryz.underlying52 rfl sz3 rfl rfl) ?_
  refine TD.take (i := 4) rfl (by kernel_rfl) (by kernel_rfl) (by kernel_rfl) (fun _ _ _ _ h => h) (Want.plain rfl) rfl rfl (PV.load1 (v := (.int .i64 (a1))) rfl Tryz.underlying3 rfl rfl (fun _ h => h.2.1) rfl) ?_
  refine TD.take (i := 7) rfl (by kernel_rfl) (by kernel_rfl) (by kernel_rfl) (fun _ _ _ _ h => h) (Want.plain rfl) rfl rfl (PV.fieldAddr (r := 2) rfl Tryz.underlying52 rfl sz42 rfl rfl) ?_
  refine TD.take (i := 8) rfl (by kernel_rfl) (by kernel_rfl) (by kernel_rfl) (fun _ _ _ _ h => h) (Want.plain rfl) rfl rfl (PV.sliceArr rfl Tryz.underlying42 sz3 rfl) ?_
  refine TD.all [5] (by kernel_rfl) rfl ?_
  refine AllT.cons rfl ?_ ?_
  refine TL.buildSlice (cells := #[(.int .i64 (a0)), (.int .i64 (a1))]) (Want.plain rfl) rfl rfl rfl Tryz.underlying74 in3 rfl rfl rfl (by as_aux_lemma => kernel_rfl) (fun b10 => ?_)
  change TL _ _ _ _ _ _ _ _ _ [blkA b10 [(.int .i64 (a0)), (.int .i64 (a1))] 3, blkA b3 [(.int .i64 (a0)), (.int .i64 (a1)), (.int .i64 (g0)), (.int .i64 (g1)), (.int .i64 (g2)), (.int .i64 (g3)), (.int .i64 (g4))] 52, blkA wb [v] 200, ownB v (bs) 5]
  refine TL.nil ?_
  refine TE.draw (fun _ s => ⟨Frm.of s, s.block 1 (lb rfl) rfl, trivial⟩) ?_
  refine TD.all [6] (by kernel_rfl) rfl ?_
  refine AllT.cons rfl ?_ ?_
  refine TL.callR (A := [blkA wb [v] 200, ownB v (bs) 5]) (B := [blkA b10 [(.int .i64 (a0)), (.int .i64 (a1))] 3, blkA b3 [(.int .i64 (a0)), (.int .i64 (a1)), (.int .i64 (g0)), (.int .i64 (g1)), (.int .i64 (g2)), (.int .i64 (g3)), (.int .i64 (g4))] 52]) (Want.plain rfl) rfl rfl rfl nm124 rfl (wnum_does wb v (bs) (.slice (some ⟨b10, 0, none⟩) (2) (2)) [a0, a1] (by simp only [List.length_append, List.length_cons, List.length_nil, Vector.length_toList]; first | omega | (have := encs_len [a0, a1]; simp only [List.length_cons, List.length_nil] at this; omega))) (fun _ s => sep_selR [2, 2] rfl s) (isN_piece 0 rfl rfl rfl rfl) (fun vR HR hR => ?_)
  obtain ⟨u1, rfl, rfl⟩ := hR
  change TL _ _ _ _ _ _ _ _ _ [blkA wb [u1] 200, ownB u1 (bs ++ encs [a0, a1]) 5, blkA b10 [(.int .i64 (a0)), (.int .i64 (a1))] 3, blkA b3 [(.int .i64 (a0)), (.int .i64 (a1)), (.int .i64 (g0)), (.int .i64 (g1)), (.int .i64 (g2)), (.int .i64 (g3)), (.int .i64 (g4))] 52]
  refine TL.nil ?_
  refine TE.draw (fun _ s => ⟨Frm.of s, s.block 3 (lb rfl) rfl, trivial⟩) ?_
  refine TD.all [9] (by kernel_rfl) rfl ?_
  refine AllT.cons rfl ?_ ?_
  refine TL.callR (A := [blkA wb [u1] 200, ownB u1 (bs ++ encs [a0, a1]) 5]) (B := [blkA b10 [(.int .i64 (a0)), (.int .i64 (a1))] 3, blkA b3 [(.int .i64 (a0)), (.int .i64 (a1)), (.int .i64 (g0)), (.int .i64 (g1)), (.int .i64 (g2)), (.int .i64 (g3)), (.int .i64 (g4))] 52]) (Want.plain rfl) rfl rfl rfl nm124 rfl (wnum_does wb u1 (bs ++ encs [a0, a1]) (.slice (some ⟨b3, 2, none⟩) (5) (5)) [g0, g1, g2, g3, g4] (by simp only [List.length_append, List.length_cons, List.length_nil, Vector.length_toList]; first | omega | (have := encs_len [a0, a1]; simp only [List.length_cons, List.length_nil] at this; omega))) (fun _ s => s) (isN_piece 1 rfl rfl rfl rfl) (fun vR HR hR => ?_)
  obtain ⟨u2, rfl, rfl⟩ := hR
  change TL _ _ _ _ _ _ _ _ _ [blkA wb [u2] 200, ownB u2 (bs ++ encs [a0, a1] ++ encs [g0, g1, g2, g3, g4]) 5, blkA b10 [(.int .i64 (a0)), (.int .i64 (a1))] 3, blkA b3 [(.int .i64 (a0)), (.int .i64 (a1)), (.int .i64 (g0)), (.int .i64 (g1)), (.int .i64 (g2)), (.int .i64 (g3)), (.int .i64 (g4))] 52]
  refine TL.nil ?_
  refine TE.draw (fun _ s => ⟨Frm.of s, s.block 3 (lb rfl) rfl, trivial⟩) ?_
  refine TD.take (i := 10) rfl (by kernel_rfl) (by kernel_rfl) (by kernel_rfl) (fun _ _ _ _ h => h) (Want.plain rfl) rfl rfl (PV.assign rfl rfl) ?_
  refine TD.done (by kernel_rfl) ?_
  refine TE.next hK2 ?_
  clear hK2
  refine TC.ret ?_
  refine TE.weak (Sub.refl _) (fun _ s => sep_keep [0, 0] rfl s) ?_
  refine TE.ret1 rfl rfl ?_
  exact ⟨_, rfl, by rw [List.append_assoc, ← encs_append]; rfl⟩
  exact AllT.nil
  exact AllT.nil
  exact AllT.nil
theorem wchange_cells (wb : Nat) (v : Value) (bs : List UInt8) (a0 a1 a2 : Int) (hlen : bs.length + 30 ≤ 140737488355328) :
    Does Tryz.prog 127 #[(.pointer (some ⟨wb, 0, none⟩)), (.agg #[(.int .i64 (a0)), (.int .i64 (a1)), (.int .i64 (a2))])] (fun _ => True) [blkA wb [v] 200, ownB v (bs) 5] (WPost 200 5 wb (bs ++ encs [a0, a1, a2])) := by
  refine Does.body (vs := [(.pointer (some ⟨wb, 0, none⟩)), (.agg #[(.int .i64 (a0)), (.int .i64 (a1)), (.int .i64 (a2))])]) (n := 14) Tryz.func127 rfl rfl rfl (fun w0 F hF => ?_)
  refine TC.seq (fun K1 hK1 => ?_)
  refine TC.region ?_
  refine TL.box (Want.plain rfl) rfl rfl rfl rfl (fun b3 => ?_)
  change TL _ _ _ _ _ _ _ _ _ [blkA b3 [(.int .i64 (a0)), (.int .i64 (a1)), (.int .i64 (a2))] 36, blkA wb [v] 200, ownB v (bs) 5]
  refine tp rfl rfl rfl (PV.assign rfl rfl) ?_
  refine TL.nil ?_
  refine TE.next hK1 ?_
  clear hK1
  refine TC.seq (fun K2 hK2 => ?_)
  refine TC.region ?_
  refine tp rfl rfl rfl (PV.move rfl rfl) ?_
  refine tp rfl rfl rfl (PV.fieldAddr (r := 0) rfl Tryz.underlying36 rfl sz3 rfl rfl) ?_
  refine tp rfl rfl rfl (PV.load1 (v := (.int .i64 (a0))) rfl Tryz.underlying3 rfl rfl (Rd.own 0 rfl rfl) rfl) ?_
  refine tp rfl rfl rfl (PV.fieldAddr (r := 1) rfl Tryz.underlying36 rfl sz3 rfl rfl) ?_
  refine tp rfl rfl rfl (PV.load1 (v := (.int .i64 (a1))) rfl Tryz.underlying3 rfl rfl (Rd.own 0 rfl rfl) rfl) ?_
  refine tp rfl rfl rfl (PV.fieldAddr (r := 2) rfl Tryz.underlying36 rfl sz3 rfl rfl) ?_
  refine tp rfl rfl rfl (PV.load1 (v := (.int .i64 (a2))) rfl Tryz.underlying3 rfl rfl (Rd.own 0 rfl rfl) rfl) ?_
  refine TL.buildSlice (cells := #[(.int .i64 (a0)), (.int .i64 (a1)), (.int .i64 (a2))]) (Want.plain rfl) rfl rfl rfl Tryz.underlying74 in3 rfl rfl rfl (by as_aux_lemma => kernel_rfl) (fun b12 => ?_)
  change TL _ _ _ _ _ _ _ _ _ [blkA b12 [(.int .i64 (a0)), (.int .i64 (a1)), (.int .i64 (a2))] 3, blkA b3 [(.int .i64 (a0)), (.int .i64 (a1)), (.int .i64 (a2))] 36, blkA wb [v] 200, ownB v (bs) 5]
  refine TL.callR (A := [blkA wb [v] 200, ownB v (bs) 5]) (B := [blkA b12 [(.int .i64 (a0)), (.int .i64 (a1)), (.int .i64 (a2))] 3, blkA b3 [(.int .i64 (a0)), (.int .i64 (a1)), (.int .i64 (a2))] 36]) (Want.plain rfl) rfl rfl rfl nm124 rfl (wnum_does wb v (bs) (.slice (some ⟨b12, 0, none⟩) (3) (3)) [a0, a1, a2] (by simp only [List.length_append, List.length_cons, List.length_nil, Vector.length_toList]; first | omega | (have := encs_len [a0, a1]; simp only [List.length_cons, List.length_nil] at this; omega))) (fun _ s => sep_selR [2, 2] rfl s) (isN_piece 0 rfl rfl rfl rfl) (fun vR HR hR => ?_)
  obtain ⟨u1, rfl, rfl⟩ := hR
  change TL _ _ _ _ _ _ _ _ _ [blkA wb [u1] 200, ownB u1 (bs ++ encs [a0, a1, a2]) 5, blkA b12 [(.int .i64 (a0)), (.int .i64 (a1)), (.int .i64 (a2))] 3, blkA b3 [(.int .i64 (a0)), (.int .i64 (a1)), (.int .i64 (a2))] 36]
  refine tp rfl rfl rfl (PV.assign rfl rfl) ?_
  refine TL.nil ?_
  refine TE.next hK2 ?_
  clear hK2
  refine TC.ret ?_
  refine TE.weak (Sub.refl _) (fun _ s => sep_keep [0, 0] rfl s) ?_
  refine TE.ret1 rfl rfl ?_
  exact ⟨_, rfl, rfl⟩
theorem wballot_cells (wb : Nat) (v : Value) (bs : List UInt8) (a0 a1 : Int) (hlen : bs.length + 20 ≤ 140737488355328) :
    Does Tryz.prog 126 #[(.pointer (some ⟨wb, 0, none⟩)), (.agg #[(.int .i64 (a0)), (.int .i64 (a1))])] (fun _ => True) [blkA wb [v] 200, ownB v (bs) 5] (WPost 200 5 wb (bs ++ encs [a0, a1])) := by
  refine Does.body (vs := [(.pointer (some ⟨wb, 0, none⟩)), (.agg #[(.int .i64 (a0)), (.int .i64 (a1))])]) (n := 12) Tryz.func126 rfl rfl rfl (fun w0 F hF => ?_)
  refine TC.seq (fun K1 hK1 => ?_)
  refine TC.region ?_
  refine TL.box (Want.plain rfl) rfl rfl rfl rfl (fun b3 => ?_)
  change TL _ _ _ _ _ _ _ _ _ [blkA b3 [(.int .i64 (a0)), (.int .i64 (a1))] 50, blkA wb [v] 200, ownB v (bs) 5]
  refine tp rfl rfl rfl (PV.assign rfl rfl) ?_
  refine TL.nil ?_
  refine TE.next hK1 ?_
  clear hK1
  refine TC.seq (fun K2 hK2 => ?_)
  refine TC.region ?_
  refine tp rfl rfl rfl (PV.move rfl rfl) ?_
  refine tp rfl rfl rfl (PV.fieldAddr (r := 0) rfl Tryz.underlying50 rfl sz3 rfl rfl) ?_
  refine tp rfl rfl rfl (PV.load1 (v := (.int .i64 (a0))) rfl Tryz.underlying3 rfl rfl (Rd.own 0 rfl rfl) rfl) ?_
  refine tp rfl rfl rfl (PV.fieldAddr (r := 1) rfl Tryz.underlying50 rfl sz3 rfl rfl) ?_
  refine tp rfl rfl rfl (PV.load1 (v := (.int .i64 (a1))) rfl Tryz.underlying3 rfl rfl (Rd.own 0 rfl rfl) rfl) ?_
  refine TL.buildSlice (cells := #[(.int .i64 (a0)), (.int .i64 (a1))]) (Want.plain rfl) rfl rfl rfl Tryz.underlying74 in3 rfl rfl rfl (by as_aux_lemma => kernel_rfl) (fun b10 => ?_)
  change TL _ _ _ _ _ _ _ _ _ [blkA b10 [(.int .i64 (a0)), (.int .i64 (a1))] 3, blkA b3 [(.int .i64 (a0)), (.int .i64 (a1))] 50, blkA wb [v] 200, ownB v (bs) 5]
  refine TL.callR (A := [blkA wb [v] 200, ownB v (bs) 5]) (B := [blkA b10 [(.int .i64 (a0)), (.int .i64 (a1))] 3, blkA b3 [(.int .i64 (a0)), (.int .i64 (a1))] 50]) (Want.plain rfl) rfl rfl rfl nm124 rfl (wnum_does wb v (bs) (.slice (some ⟨b10, 0, none⟩) (2) (2)) [a0, a1] (by simp only [List.length_append, List.length_cons, List.length_nil, Vector.length_toList]; first | omega | (have := encs_len [a0, a1]; simp only [List.length_cons, List.length_nil] at this; omega))) (fun _ s => sep_selR [2, 2] rfl s) (isN_piece 0 rfl rfl rfl rfl) (fun vR HR hR => ?_)
  obtain ⟨u1, rfl, rfl⟩ := hR
  change TL _ _ _ _ _ _ _ _ _ [blkA wb [u1] 200, ownB u1 (bs ++ encs [a0, a1]) 5, blkA b10 [(.int .i64 (a0)), (.int .i64 (a1))] 3, blkA b3 [(.int .i64 (a0)), (.int .i64 (a1))] 50]
  refine tp rfl rfl rfl (PV.assign rfl rfl) ?_
  refine TL.nil ?_
  refine TE.next hK2 ?_
  clear hK2
  refine TC.ret ?_
  refine TE.weak (Sub.refl _) (fun _ s => sep_keep [0, 0] rfl s) ?_
  refine TE.ret1 rfl rfl ?_
  exact ⟨_, rfl, rfl⟩
theorem wcell_cells (wb : Nat) (v : Value) (bs : List UInt8) (a0 a1 g0 g1 g2 g3 g4 : Int) (hlen : bs.length + 70 ≤ 140737488355328) :
    Does Tryz.prog 133 #[(.pointer (some ⟨wb, 0, none⟩)), (.agg #[(.int .i64 (a0)), (.int .i64 (a1)), (.int .i64 (g0)), (.int .i64 (g1)), (.int .i64 (g2)), (.int .i64 (g3)), (.int .i64 (g4))])] (fun _ => True) [blkA wb [v] 200, ownB v (bs) 5] (Ret (fun x H => ∃ v', x = .tuple #[] ∧ H = [blkA wb [v'] 200, ownB v' (bs ++ encs [a0, a1, g0, g1, g2, g3, g4]) 5])) := by
  refine Does.body (vs := [(.pointer (some ⟨wb, 0, none⟩)), (.agg #[(.int .i64 (a0)), (.int .i64 (a1)), (.int .i64 (g0)), (.int .i64 (g1)), (.int .i64 (g2)), (.int .i64 (g3)), (.int .i64 (g4))])]) (n := 14) Tryz.func133 rfl rfl rfl (fun w0 F hF => ?_)
  refine TC.seq (fun K1 hK1 => ?_)
  refine TC.region ?_
  refine TL.box (Want.plain rfl) rfl rfl rfl rfl (fun b3 => ?_)
  change TL _ _ _ _ _ _ _ _ _ [blkA b3 [(.int .i64 (a0)), (.int .i64 (a1)), (.int .i64 (g0)), (.int .i64 (g1)), (.int .i64 (g2)), (.int .i64 (g3)), (.int .i64 (g4))] 44, blkA wb [v] 200, ownB v (bs) 5]
  refine TL.nil ?_
  refine TE.next hK1 ?_
  clear hK1
  refine TC.draw (fun w => Frm F w ∧ w.heap[b3]? = some (.cells ([(.int .i64 (a0)), (.int .i64 (a1)), (.int .i64 (g0)), (.int .i64 (g1)), (.int .i64 (g2)), (.int .i64 (g3)), (.int .i64 (g4))]).toArray 44 (0, 0)) ∧ True) mixed rfl (fun _ s => ⟨Frm.of s, s.block 0 (lb rfl) rfl, trivial⟩) ?_
  refine TD.take (i := 0) rfl (by kernel_rfl) (by kernel_rfl) (by kernel_rfl) (fun _ _ _ _ h => h) (Want.plain rfl) rfl rfl (PV.move rfl rfl) ?_
  refine TD.take (i := 1) rfl (by kernel_rfl) (by kernel_rfl) (by kernel_rfl) (fun _ _ _ _ h => h) (Want.plain rfl) rfl rfl (PV.fieldAddr (r := 0) rfl Tryz.underlying44 rfl sz3 rfl rfl) ?_
  refine TD.take (i := 2) rfl (by kernel_rfl) (by kernel_rfl) (by kernel_rfl) (fun _ _ _ _ h => h) (Want.plain rfl) rfl rfl (PV.load1 (v := (.int .i64 (a0))) rfl Tryz.underlying3 rfl rfl (fun _ h => h.2.1) rfl) ?_
  refine TD.take (i := 3) rfl (by kernel_rfl) (by kernel_rfl) (by kernel_rfl) (fun _ _ _ _ h => h) (Want.plain rfl) rfl rfl (PV.fieldAddr (r := 1) rfl Tryz.underlying44 rfl sz3 rfl rfl) ?_
  refine TD.take (i := 4) rfl (by kernel_rfl) (by kernel_rfl) (by kernel_rfl) (fun _ _ _ _ h => h) (Want.plain rfl) rfl rfl (PV.load1 (v := (.int .i64 (a1))) rfl Tryz.underlying3 rfl rfl (fun _ h => h.2.1) rfl) ?_
  refine TD.take (i := 7) rfl (by kernel_rfl) (by kernel_rfl) (by kernel_rfl) (fun _ _ _ _ h => h) (Want.plain rfl) rfl rfl (PV.fieldAddr (r := 2) rfl Tryz.underlying44 rfl sz42 rfl rfl) ?_
  refine TD.take (i := 8) rfl (by kernel_rfl) (by kernel_rfl) (by kernel_rfl) (fun _ _ _ _ h => h) (Want.plain rfl) rfl rfl (PV.sliceArr rfl Tryz.underlying42 sz3 rfl) ?_
  refine TD.all [5] (by kernel_rfl) rfl ?_
  refine AllT.cons rfl ?_ ?_
  refine TL.buildSlice (cells := #[(.int .i64 (a0)), (.int .i64 (a1))]) (Want.plain rfl) rfl rfl rfl Tryz.underlying74 in3 rfl rfl rfl (by as_aux_lemma => kernel_rfl) (fun b9 => ?_)
  change TL _ _ _ _ _ _ _ _ _ [blkA b9 [(.int .i64 (a0)), (.int .i64 (a1))] 3, blkA b3 [(.int .i64 (a0)), (.int .i64 (a1)), (.int .i64 (g0)), (.int .i64 (g1)), (.int .i64 (g2)), (.int .i64 (g3)), (.int .i64 (g4))] 44, blkA wb [v] 200, ownB v (bs) 5]
  refine TL.nil ?_
  refine TE.draw (fun _ s => ⟨Frm.of s, s.block 1 (lb rfl) rfl, trivial⟩) ?_
  refine TD.all [6] (by kernel_rfl) rfl ?_
  refine AllT.cons rfl ?_ ?_
  refine TL.callR (A := [blkA wb [v] 200, ownB v (bs) 5]) (B := [blkA b9 [(.int .i64 (a0)), (.int .i64 (a1))] 3, blkA b3 [(.int .i64 (a0)), (.int .i64 (a1)), (.int .i64 (g0)), (.int .i64 (g1)), (.int .i64 (g2)), (.int .i64 (g3)), (.int .i64 (g4))] 44]) (Want.plain rfl) rfl rfl rfl nm124 rfl (wnum_does wb v (bs) (.slice (some ⟨b9, 0, none⟩) (2) (2)) [a0, a1] (by simp only [List.length_append, List.length_cons, List.length_nil, Vector.length_toList]; first | omega | (have := encs_len [a0, a1]; simp only [List.length_cons, List.length_nil] at this; omega))) (fun _ s => sep_selR [2, 2] rfl s) (isN_piece 0 rfl rfl rfl rfl) (fun vR HR hR => ?_)
  obtain ⟨u1, rfl, rfl⟩ := hR
  change TL _ _ _ _ _ _ _ _ _ [blkA wb [u1] 200, ownB u1 (bs ++ encs [a0, a1]) 5, blkA b9 [(.int .i64 (a0)), (.int .i64 (a1))] 3, blkA b3 [(.int .i64 (a0)), (.int .i64 (a1)), (.int .i64 (g0)), (.int .i64 (g1)), (.int .i64 (g2)), (.int .i64 (g3)), (.int .i64 (g4))] 44]
  refine TL.nil ?_
  refine TE.draw (fun _ s => ⟨Frm.of s, s.block 3 (lb rfl) rfl, trivial⟩) ?_
  refine TD.all [9] (by kernel_rfl) rfl ?_
  refine AllT.cons rfl ?_ ?_
  refine TL.callR (A := [blkA wb [u1] 200, ownB u1 (bs ++ encs [a0, a1]) 5]) (B := [blkA b9 [(.int .i64 (a0)), (.int .i64 (a1))] 3, blkA b3 [(.int .i64 (a0)), (.int .i64 (a1)), (.int .i64 (g0)), (.int .i64 (g1)), (.int .i64 (g2)), (.int .i64 (g3)), (.int .i64 (g4))] 44]) (Want.plain rfl) rfl rfl rfl nm124 rfl (wnum_does wb u1 (bs ++ encs [a0, a1]) (.slice (some ⟨b3, 2, none⟩) (5) (5)) [g0, g1, g2, g3, g4] (by simp only [List.length_append, List.length_cons, List.length_nil, Vector.length_toList]; first | omega | (have := encs_len [a0, a1]; simp only [List.length_cons, List.length_nil] at this; omega))) (fun _ s => s) (isN_piece 1 rfl rfl rfl rfl) (fun vR HR hR => ?_)
  obtain ⟨u2, rfl, rfl⟩ := hR
  change TL _ _ _ _ _ _ _ _ _ [blkA wb [u2] 200, ownB u2 (bs ++ encs [a0, a1] ++ encs [g0, g1, g2, g3, g4]) 5, blkA b9 [(.int .i64 (a0)), (.int .i64 (a1))] 3, blkA b3 [(.int .i64 (a0)), (.int .i64 (a1)), (.int .i64 (g0)), (.int .i64 (g1)), (.int .i64 (g2)), (.int .i64 (g3)), (.int .i64 (g4))] 44]
  refine TL.nil ?_
  refine TE.draw (fun _ s => ⟨Frm.of s, s.block 3 (lb rfl) rfl, trivial⟩) ?_
  refine TD.done (by kernel_rfl) ?_
  refine TE.weak (Sub.refl _) (fun _ s => sep_keep [0, 0] rfl s) ?_
  refine TE.end0 rfl ?_
  exact ⟨_, rfl, by rw [List.append_assoc, ← encs_append]; rfl⟩
  exact AllT.nil
  exact AllT.nil
  exact AllT.nil
theorem wcell_does (wb : Nat) (v : Value) (bs : List UInt8) (c : CellT) (hlen : bs.length + 70 ≤ 140737488355328) : Does Tryz.prog 133 #[(.pointer (some ⟨wb, 0, none⟩)), c.val] (fun _ => True) [blkA wb [v] 200, ownB v bs 5] (Ret (fun x H => ∃ v', x = .tuple #[] ∧ H = [blkA wb [v'] 200, ownB v' (bs ++ encs c.flat) 5])) := by
  obtain ⟨i, o, g⟩ := c
  exact vec5 (p := fun g => Does Tryz.prog 133 #[(.pointer (some ⟨wb, 0, none⟩)), CellT.val ⟨i, o, g⟩] (fun _ => True) [blkA wb [v] 200, ownB v bs 5] (Ret (fun x H => ∃ v', x = .tuple #[] ∧ H = [blkA wb [v'] 200, ownB v' (bs ++ encs (CellT.flat ⟨i, o, g⟩)) 5]))) (fun a b c d e => wcell_cells wb v bs i o a b c d e hlen) g

theorem wview_does (wb : Nat) (v : Value) (bs : List UInt8) (x : ViewT) (hlen : bs.length + 70 ≤ 140737488355328) : Does Tryz.prog 128 #[(.pointer (some ⟨wb, 0, none⟩)), x.val] (fun _ => True) [blkA wb [v] 200, ownB v bs 5] (WPost 200 5 wb (bs ++ encs x.flat)) := by
  obtain ⟨i, o, g⟩ := x
  exact vec5 (p := fun g => Does Tryz.prog 128 #[(.pointer (some ⟨wb, 0, none⟩)), ViewT.val ⟨i, o, g⟩] (fun _ => True) [blkA wb [v] 200, ownB v bs 5] (WPost 200 5 wb (bs ++ encs (ViewT.flat ⟨i, o, g⟩)))) (fun a b c d e => wview_cells wb v bs i o a b c d e hlen) g

theorem wchange_does (wb : Nat) (v : Value) (bs : List UInt8) (x : ChangeT) (hlen : bs.length + 30 ≤ 140737488355328) : Does Tryz.prog 127 #[(.pointer (some ⟨wb, 0, none⟩)), x.val] (fun _ => True) [blkA wb [v] 200, ownB v bs 5] (WPost 200 5 wb (bs ++ encs x.flat)) := wchange_cells wb v bs x.kind x.who x.heir (by omega)

theorem wballot_does (wb : Nat) (v : Value) (bs : List UInt8) (x : BallotT) (hlen : bs.length + 30 ≤ 140737488355328) : Does Tryz.prog 126 #[(.pointer (some ⟨wb, 0, none⟩)), x.val] (fun _ => True) [blkA wb [v] 200, ownB v bs 5] (WPost 200 5 wb (bs ++ encs x.flat)) := wballot_cells wb v bs x.round x.who (by omega)

theorem wrow_does (wb : Nat) (v : Value) (bs : List UInt8) (x : RowT) (hlen : bs.length + 2000 ≤ 140737488355328) :
    Does Tryz.prog 125 #[(.pointer (some ⟨wb, 0, none⟩)), (.agg (ints x.flat).toArray)] (fun _ => True) [blkA wb [v] 200, ownB v (bs) 5] (WPost 200 5 wb (bs ++ encRow x)) := by
  refine Does.body (vs := [(.pointer (some ⟨wb, 0, none⟩)), (.agg (ints x.flat).toArray)]) (n := 50) Tryz.func125 rfl rfl rfl (fun w0 F hF => ?_)
  refine TC.seq (fun K1 hK1 => ?_)
  refine TC.region ?_
  refine TL.box (Want.plain rfl) rfl rfl rfl rfl (fun b3 => ?_)
  change TL _ _ _ _ _ _ _ _ _ [blkA b3 (ints x.flat) 48, blkA wb [v] 200, ownB v (bs) 5]
  refine tp rfl rfl rfl (PV.assign rfl rfl) ?_
  refine TL.nil ?_
  refine TE.next hK1 ?_
  clear hK1
  refine TC.seq (fun K2 hK2 => ?_)
  refine TC.region ?_
  refine tp rfl rfl rfl (PV.move rfl rfl) ?_
  refine tp rfl rfl rfl (PV.fieldAddr (r := 0) rfl Tryz.underlying48 rfl sz3 rfl rfl) ?_
  refine tp rfl rfl rfl (PV.load1 (v := (.int .i64 (x.version))) rfl Tryz.underlying3 rfl rfl (Rd.own 0 rfl rfl) (RowT.get_version _)) ?_
  refine TL.buildSlice (cells := #[(.int .i64 (x.version))]) (Want.plain rfl) rfl rfl rfl Tryz.underlying74 in3 rfl rfl rfl (by as_aux_lemma => kernel_rfl) (fun b14 => ?_)
  change TL _ _ _ _ _ _ _ _ _ [blkA b14 [(.int .i64 (x.version))] 3, blkA b3 (ints x.flat) 48, blkA wb [v] 200, ownB v (bs) 5]
  refine TL.callR (A := [blkA wb [v] 200, ownB v (bs) 5]) (B := [blkA b14 [(.int .i64 (x.version))] 3, blkA b3 (ints x.flat) 48]) (Want.plain rfl) rfl rfl rfl nm124 rfl (wnum_does wb v (bs) (.slice (some ⟨b14, 0, none⟩) (1) (1)) [x.version] (by have := congrArg List.length (Eq.refl bs); have := encRow_len x; simp only [List.length_append, List.length_cons, List.length_nil] at *; omega)) (fun _ s => sep_selR [2, 2] rfl s) (isN_piece 0 rfl rfl rfl rfl) (fun vR HR hR => ?_)
  obtain ⟨u1, rfl, rfl⟩ := hR
  change TL _ _ _ _ _ _ _ _ _ [blkA wb [u1] 200, ownB u1 (bs ++ encs [x.version]) 5, blkA b14 [(.int .i64 (x.version))] 3, blkA b3 (ints x.flat) 48]
  refine TL.nil ?_
  refine TE.next hK2 ?_
  clear hK2
  refine TC.seq (fun K3 hK3 => ?_)
  refine TC.seq (fun K4 hK4 => ?_)
  refine TC.region ?_
  refine tp rfl rfl rfl (PV.fieldAddr (r := 1) rfl Tryz.underlying48 rfl sz45 rfl rfl) ?_
  refine tp rfl rfl rfl (PV.loadN (vs := ints (flats x.cells.toList)) rfl Tryz.underlying45 rfl sz45 rfl (Rd.own 3 rfl rfl) (by rw [ints_length, flats_length]; simp) (RowT.get_cells _)) ?_
  refine tp rfl rfl rfl (PV.move rfl rfl) ?_
  refine TL.nil ?_
  refine TE.next hK4 ?_
  clear hK4
  refine TC.block ?_
  refine TC.loop (α := (Nat) × (Value) × (List UInt8)) (fun ⟨k, u, laid⟩ => k ≤ 4 ∧ laid ++ (encs (flats (x.cells.toList.drop k)) ++ encHeirs x 5 0) = bs ++ encRow x) (fun ⟨k, u, laid⟩ => [(0, (.pointer (some ⟨wb, 0, none⟩))), (3, (.pointer (some ⟨b3, 0, none⟩))), (4, (.pointer none)), (17, (.agg (ints (flats x.cells.toList)).toArray)), (18, (.int .i64 ((k : Nat))))]) (fun ⟨k, u, laid⟩ => [blkA b3 (ints x.flat) 48, blkA wb [u] 200, ownB u (laid) 5]) (fun ⟨k, u, laid⟩ => 4 - k) (0, u1, bs ++ encs [x.version])
      ⟨by omega, by simp [encRow, encs]⟩ (Sub.r (Sub.r (Sub.r (Sub.r (Sub.cons rfl (by congr 1) (Sub.nil _))))))
      (fun _ s => sep_keep [3, 0, 0] rfl s) (fun ⟨k, u, laid⟩ hinv => ?_)
  obtain ⟨hk, hL⟩ := hinv
  have hE := hL
  rw [show encs (flats (x.cells.toList.drop k)) = encs (flats (x.cells.toList.drop k)) from rfl] at hE
  refine TC.seq (fun K5 hK5 => ?_)
  refine TC.region ?_
  refine tp rfl rfl rfl (PV.lss rfl rfl rfl) ?_
  refine TL.dec (fun h19 => ?_) (fun h19 => ?_)
  refine TL.nil ?_
  refine TE.next hK5 ?_
  clear hK5
  refine TC.seq (fun K6 hK6 => ?_)
  refine TC.yes rfl ?_
  refine TC.skip ?_
  refine TE.next hK6 ?_
  clear hK6
  refine TC.seq (fun K7 hK7 => ?_)
  refine TC.block ?_
  refine TC.seq (fun K8 hK8 => ?_)
  refine TC.region ?_
  refine tp rfl rfl rfl (PV.indexN (cs := ints (flats (x.cells.toList))) (r := k * 7) rfl Tryz.underlying45 Tryz.underlying44 rfl sz44 rfl rfl (by omega) (by omega) (by omega) (flats_get (by simp; omega))) ?_
  refine TL.alloc (Want.plain rfl) rfl rfl rfl z44 (fun b6 => ?_)
  change TL _ _ _ _ _ _ _ _ _ [blkA b6 [(.int .i64 0), (.int .i64 0), (.int .i64 0), (.int .i64 0), (.int .i64 0), (.int .i64 0), (.int .i64 0)] 44, blkA b3 (ints x.flat) 48, blkA wb [u] 200, ownB u (laid) 5]
  refine TL.store (vs := ints ((x.cells.toList)[k]'(by simp; omega)).flat) (cs' := ints ((x.cells.toList)[k]'(by simp; omega)).flat) (i := 0) (H' := [blkA b6 (ints ((x.cells.toList)[k]'(by simp; omega)).flat) 44, blkA b3 (ints x.flat) 48, blkA wb [u] 200, ownB u (laid) 5]) (Want.plain rfl) rfl rfl rfl rfl rfl (by rw [CellT.len]; exact sz44) (ints_one _) rfl rfl (by rw [CellT.len]; exact Nat.le_refl _) (wr_whole (by rw [CellT.len]; rfl)) rfl ?_
  refine TL.nil ?_
  refine TE.next hK8 ?_
  clear hK8
  refine TC.region ?_
  refine tp rfl rfl rfl (PV.move rfl rfl) ?_
  refine tp rfl rfl rfl (PV.loadN (vs := ints ((x.cells.toList)[k]'(by simp; omega)).flat) rfl Tryz.underlying44 rfl sz44 rfl (Rd.own 0 rfl rfl) (CellT.len _) (by rw [List.drop_zero, List.take_of_length_le (by rw [CellT.len]; decide)])) ?_
  refine TL.callR (A := [blkA wb [u] 200, ownB u (laid) 5]) (B := [blkA b6 (ints ((x.cells.toList)[k]'(by simp; omega)).flat) 44, blkA b3 (ints x.flat) 48]) (Want.plain rfl) rfl rfl rfl nm133 rfl (wcell_does wb u (laid) ((x.cells.toList)[k]'(by simp; omega)) (by have := congrArg List.length hE; have := encRow_len x; have := encs_len ((x.cells.toList)[k]'(by simp; omega)).flat; rw [CellT.flat_length] at this; simp only [List.length_append] at *; omega)) (fun _ s => sep_selR [2, 2] rfl s) (fun _ _ _ => trivial) (fun vR HR hR => ?_)
  obtain ⟨u2, rfl, rfl⟩ := hR
  change TL _ _ _ _ _ _ _ _ _ [blkA wb [u2] 200, ownB u2 (laid ++ encs ((x.cells.toList)[k]'(by simp; omega)).flat) 5, blkA b6 (ints ((x.cells.toList)[k]'(by simp; omega)).flat) 44, blkA b3 (ints x.flat) 48]
  refine TL.nil ?_
  refine TE.blockEnd ?_
  refine TE.next hK7 ?_
  clear hK7
  refine TC.region ?_
  refine tp rfl rfl rfl (PV.add rfl rfl rfl (wrap_i64 (by omega) (by omega))) ?_
  refine tp rfl rfl rfl (PV.move rfl rfl) ?_
  refine TL.nil ?_
  exact TE.round ((k + 1, u2, laid ++ encs ((x.cells.toList)[k]'(by simp; omega)).flat) : (Nat) × (Value) × (List UInt8)) ⟨by omega, by rw [← hL, flats_drop (l := x.cells.toList) (k := k) (by simp; omega)]; simp⟩ (by show _ - _ < _ - _; omega)
    (Sub.r (Sub.r (Sub.r (Sub.r (Sub.r (Sub.nil _))))))
    (fun _ s => sep_keep [3, 0, 0] rfl s)
  refine TL.nil ?_
  refine TE.next hK5 ?_
  clear hK5
  refine TC.seq (fun K9 hK9 => ?_)
  refine TC.no rfl ?_
  refine TC.exit ?_
  refine TE.pass ?_
  clear hK9
  refine TE.pass ?_
  refine TE.hit ?_
  refine TE.next hK3 ?_
  clear hK3
  refine TC.seq (fun K10 hK10 => ?_)
  refine TC.seq (fun K11 hK11 => ?_)
  refine TC.region ?_
  refine tp rfl rfl rfl (PV.fieldAddr (r := 29) rfl Tryz.underlying48 rfl sz42 rfl rfl) ?_
  refine tp rfl rfl rfl (PV.loadN (vs := ints x.heir.toList) rfl Tryz.underlying42 rfl sz42 rfl (Rd.own 0 rfl rfl) (by rw [ints_length]; simp) (RowT.get_heirs _)) ?_
  refine tp rfl rfl rfl (PV.move rfl rfl) ?_
  refine TL.nil ?_
  refine TE.next hK11 ?_
  clear hK11
  refine TC.block ?_
  refine TC.loop (α := (Nat) × (Value) × (List UInt8)) (fun ⟨i, u, laid⟩ => i ≤ 5 ∧ laid ++ encHeirs x (5 - i) i = bs ++ encRow x) (fun ⟨i, u, laid⟩ => [(0, (.pointer (some ⟨wb, 0, none⟩))), (3, (.pointer (some ⟨b3, 0, none⟩))), (4, (.pointer none)), (26, (.agg (ints x.heir.toList).toArray)), (27, (.int .i64 ((i : Nat))))]) (fun ⟨i, u, laid⟩ => [blkA b3 (ints x.flat) 48, blkA wb [u] 200, ownB u (laid) 5]) (fun ⟨i, u, laid⟩ => 5 - i) (0, u, laid)
      ⟨by omega, by rw [← hL, List.drop_eq_nil_of_le (by simp; omega)]; simp [flats, encs]⟩ (Sub.r (Sub.r (Sub.r (Sub.r (Sub.cons rfl (by congr 1) (Sub.nil _))))))
      (fun _ s => sep_keep [0, 0, 0] rfl s) (fun ⟨i, u, laid⟩ hinv => ?_)
  obtain ⟨hi, hL⟩ := hinv
  have hE := hL
  refine TC.seq (fun K12 hK12 => ?_)
  refine TC.region ?_
  refine tp rfl rfl rfl (PV.lss rfl rfl rfl) ?_
  refine TL.dec (fun h28 => ?_) (fun h28 => ?_)
  refine TL.nil ?_
  refine TE.next hK12 ?_
  clear hK12
  refine TC.seq (fun K13 hK13 => ?_)
  refine TC.yes rfl ?_
  refine TC.skip ?_
  refine TE.next hK13 ?_
  clear hK13
  refine TC.seq (fun K14 hK14 => ?_)
  refine TC.block ?_
  refine TC.seq (fun K15 hK15 => ?_)
  refine TC.region ?_
  refine tp rfl rfl rfl (PV.move rfl rfl) ?_
  refine tp rfl rfl rfl (PV.index1 (cs := ints x.heir.toList) (v := .int .i64 (x.heir[i]'(by omega))) (r := i) rfl Tryz.underlying42 Tryz.underlying3 rfl sz3 rfl rfl (by omega) (by omega) (by omega) (by rw [ints_get _ _ (by simp; omega)]; simp [List.getD_eq_getElem?_getD, show i < 5 by omega])) ?_
  refine tp rfl rfl rfl (PV.assign rfl rfl) ?_
  refine tp rfl rfl rfl (PV.assign rfl rfl) ?_
  refine TL.nil ?_
  refine TE.next hK15 ?_
  clear hK15
  refine TC.seq (fun K16 hK16 => ?_)
  refine TC.region ?_
  refine tp rfl rfl rfl (PV.move rfl rfl) ?_
  refine tp rfl rfl rfl (PV.move rfl rfl) ?_
  refine TL.buildSlice (cells := #[(.int .i64 (x.heir[i]'(by omega)))]) (Want.plain rfl) rfl rfl rfl Tryz.underlying74 in3 rfl rfl rfl (by as_aux_lemma => kernel_rfl) (fun b33 => ?_)
  change TL _ _ _ _ _ _ _ _ _ [blkA b33 [(.int .i64 (x.heir[i]'(by omega)))] 3, blkA b3 (ints x.flat) 48, blkA wb [u] 200, ownB u (laid) 5]
  refine TL.callR (A := [blkA wb [u] 200, ownB u (laid) 5]) (B := [blkA b33 [(.int .i64 (x.heir[i]'(by omega)))] 3, blkA b3 (ints x.flat) 48]) (Want.plain rfl) rfl rfl rfl nm124 rfl (wnum_does wb u (laid) (.slice (some ⟨b33, 0, none⟩) (1) (1)) [x.heir[i]'(by omega)] (by have := congrArg List.length hE; have := encRow_len x; simp only [List.length_append, List.length_cons, List.length_nil] at *; omega)) (fun _ s => sep_selR [2, 2] rfl s) (isN_piece 0 rfl rfl rfl rfl) (fun vR HR hR => ?_)
  obtain ⟨u2, rfl, rfl⟩ := hR
  change TL _ _ _ _ _ _ _ _ _ [blkA wb [u2] 200, ownB u2 (laid ++ encs [x.heir[i]'(by omega)]) 5, blkA b33 [(.int .i64 (x.heir[i]'(by omega)))] 3, blkA b3 (ints x.flat) 48]
  refine TL.nil ?_
  refine TE.next hK16 ?_
  clear hK16
  refine TC.seq (fun K17 hK17 => ?_)
  refine TC.region ?_
  refine tp rfl rfl rfl (PV.move rfl rfl) ?_
  refine tp rfl rfl rfl (PV.gtr rfl rfl rfl) ?_
  refine TL.dec (fun h36 => ?_) (fun h36 => ?_)
  refine TL.nil ?_
  refine TE.next hK17 ?_
  clear hK17
  refine TC.yes rfl ?_
  refine TC.seq (fun K18 hK18 => ?_)
  refine TC.region ?_
  refine tp rfl rfl rfl (PV.move rfl rfl) ?_
  refine tp rfl rfl rfl (PV.fieldAddr (r := 34) rfl Tryz.underlying48 rfl sz46 rfl rfl) ?_
  refine tp rfl rfl rfl (PV.indexArr (r := 34 + i * 28) rfl Tryz.underlying46 sz45 rfl rfl (by omega) (by omega) (by omega)) ?_
  refine tp rfl rfl rfl (PV.loadN (vs := ints (flats (x.left[i]'(by omega)).toList)) rfl Tryz.underlying45 rfl sz45 rfl (Rd.own 3 rfl rfl) (by rw [ints_length, flats_length]; simp) (RowT.get_left _ i (by omega))) ?_
  refine tp rfl rfl rfl (PV.move rfl rfl) ?_
  refine TL.nil ?_
  refine TE.next hK18 ?_
  clear hK18
  refine TC.block ?_
  refine TC.loop (α := (Nat) × (Value) × (List UInt8)) (fun ⟨k, u3, laid3⟩ => k ≤ 4 ∧ laid3 ++ (encs (flats ((x.left[i]'(by omega)).toList.drop k)) ++ encHeirs x (5 - (i + 1)) (i + 1)) = bs ++ encRow x) (fun ⟨k, u3, laid3⟩ => [(0, (.pointer (some ⟨wb, 0, none⟩))), (3, (.pointer (some ⟨b3, 0, none⟩))), (4, (.pointer none)), (26, (.agg (ints x.heir.toList).toArray)), (27, (.int .i64 ((i : Nat)))), (40, (.agg (ints (flats (x.left[i]'(by omega)).toList)).toArray)), (41, (.int .i64 ((k : Nat))))]) (fun ⟨k, u3, laid3⟩ => [blkA b3 (ints x.flat) 48, blkA wb [u3] 200, ownB u3 (laid3) 5]) (fun ⟨k, u3, laid3⟩ => 4 - k) (0, u2, laid ++ encs [x.heir[i]'(by omega)])
      ⟨by omega, by rw [← hL, encHeirs_step (i := i) (by omega), if_pos h36]; simp [encs]⟩ (Sub.r (Sub.r (Sub.r (Sub.r (Sub.r (Sub.r (Sub.cons rfl (by congr 1) (Sub.nil _))))))))
      (fun _ s => sep_keep [3, 0, 0] rfl s) (fun ⟨k, u3, laid3⟩ hinv => ?_)
  obtain ⟨hk, hM⟩ := hinv
  have hE := hM
  refine TC.seq (fun K19 hK19 => ?_)
  refine TC.region ?_
  refine tp rfl rfl rfl (PV.lss rfl rfl rfl) ?_
  refine TL.dec (fun h42 => ?_) (fun h42 => ?_)
  refine TL.nil ?_
  refine TE.next hK19 ?_
  clear hK19
  refine TC.seq (fun K20 hK20 => ?_)
  refine TC.yes rfl ?_
  refine TC.skip ?_
  refine TE.next hK20 ?_
  clear hK20
  refine TC.seq (fun K21 hK21 => ?_)
  refine TC.block ?_
  refine TC.seq (fun K22 hK22 => ?_)
  refine TC.region ?_
  refine tp rfl rfl rfl (PV.indexN (cs := ints (flats ((x.left[i]'(by omega)).toList))) (r := k * 7) rfl Tryz.underlying45 Tryz.underlying44 rfl sz44 rfl rfl (by omega) (by omega) (by omega) (flats_get (by simp; omega))) ?_
  refine TL.alloc (Want.plain rfl) rfl rfl rfl z44 (fun b10 => ?_)
  change TL _ _ _ _ _ _ _ _ _ [blkA b10 [(.int .i64 0), (.int .i64 0), (.int .i64 0), (.int .i64 0), (.int .i64 0), (.int .i64 0), (.int .i64 0)] 44, blkA b3 (ints x.flat) 48, blkA wb [u3] 200, ownB u3 (laid3) 5]
  refine TL.store (vs := ints (((x.left[i]'(by omega)).toList)[k]'(by simp; omega)).flat) (cs' := ints (((x.left[i]'(by omega)).toList)[k]'(by simp; omega)).flat) (i := 0) (H' := [blkA b10 (ints (((x.left[i]'(by omega)).toList)[k]'(by simp; omega)).flat) 44, blkA b3 (ints x.flat) 48, blkA wb [u3] 200, ownB u3 (laid3) 5]) (Want.plain rfl) rfl rfl rfl rfl rfl (by rw [CellT.len]; exact sz44) (ints_one _) rfl rfl (by rw [CellT.len]; exact Nat.le_refl _) (wr_whole (by rw [CellT.len]; rfl)) rfl ?_
  refine TL.nil ?_
  refine TE.next hK22 ?_
  clear hK22
  refine TC.region ?_
  refine tp rfl rfl rfl (PV.move rfl rfl) ?_
  refine tp rfl rfl rfl (PV.loadN (vs := ints (((x.left[i]'(by omega)).toList)[k]'(by simp; omega)).flat) rfl Tryz.underlying44 rfl sz44 rfl (Rd.own 0 rfl rfl) (CellT.len _) (by rw [List.drop_zero, List.take_of_length_le (by rw [CellT.len]; decide)])) ?_
  refine TL.callR (A := [blkA wb [u3] 200, ownB u3 (laid3) 5]) (B := [blkA b10 (ints (((x.left[i]'(by omega)).toList)[k]'(by simp; omega)).flat) 44, blkA b3 (ints x.flat) 48]) (Want.plain rfl) rfl rfl rfl nm133 rfl (wcell_does wb u3 (laid3) (((x.left[i]'(by omega)).toList)[k]'(by simp; omega)) (by have := congrArg List.length hE; have := encRow_len x; have := encs_len (((x.left[i]'(by omega)).toList)[k]'(by simp; omega)).flat; rw [CellT.flat_length] at this; simp only [List.length_append] at *; omega)) (fun _ s => sep_selR [2, 2] rfl s) (fun _ _ _ => trivial) (fun vR HR hR => ?_)
  obtain ⟨u3, rfl, rfl⟩ := hR
  change TL _ _ _ _ _ _ _ _ _ [blkA wb [u3] 200, ownB u3 (laid3 ++ encs (((x.left[i]'(by omega)).toList)[k]'(by simp; omega)).flat) 5, blkA b10 (ints (((x.left[i]'(by omega)).toList)[k]'(by simp; omega)).flat) 44, blkA b3 (ints x.flat) 48]
  refine TL.nil ?_
  refine TE.blockEnd ?_
  refine TE.next hK21 ?_
  clear hK21
  refine TC.region ?_
  refine tp rfl rfl rfl (PV.add rfl rfl rfl (wrap_i64 (by omega) (by omega))) ?_
  refine tp rfl rfl rfl (PV.move rfl rfl) ?_
  refine TL.nil ?_
  exact TE.round ((k + 1, u3, laid3 ++ encs (((x.left[i]'(by omega)).toList)[k]'(by simp; omega)).flat) : (Nat) × (Value) × (List UInt8)) ⟨by omega, by rw [← hM, flats_drop (l := (x.left[i]'(by omega)).toList) (k := k) (by simp; omega)]; simp⟩ (by show _ - _ < _ - _; omega)
    (Sub.r (Sub.r (Sub.r (Sub.r (Sub.r (Sub.r (Sub.r (Sub.nil _))))))))
    (fun _ s => sep_keep [3, 0, 0] rfl s)
  refine TL.nil ?_
  refine TE.next hK19 ?_
  clear hK19
  refine TC.seq (fun K23 hK23 => ?_)
  refine TC.no rfl ?_
  refine TC.exit ?_
  refine TE.pass ?_
  clear hK23
  refine TE.pass ?_
  refine TE.hit ?_
  refine TE.blockEnd ?_
  refine TE.next hK14 ?_
  clear hK14
  refine TC.region ?_
  refine tp rfl rfl rfl (PV.add rfl rfl rfl (wrap_i64 (by omega) (by omega))) ?_
  refine tp rfl rfl rfl (PV.move rfl rfl) ?_
  refine TL.nil ?_
  exact TE.round ((i + 1, u3, laid3) : (Nat) × (Value) × (List UInt8)) ⟨by omega, by rw [← hM, List.drop_eq_nil_of_le (by simp; omega)]; simp [flats, encs]⟩ (by show _ - _ < _ - _; omega)
    (Sub.r (Sub.r (Sub.r (Sub.r (Sub.r (Sub.nil _))))))
    (fun _ s => sep_keep [0, 0, 0] rfl s)
  refine TL.nil ?_
  refine TE.next hK17 ?_
  clear hK17
  refine TC.no rfl ?_
  refine TC.skip ?_
  refine TE.blockEnd ?_
  refine TE.next hK14 ?_
  clear hK14
  refine TC.region ?_
  refine tp rfl rfl rfl (PV.add rfl rfl rfl (wrap_i64 (by omega) (by omega))) ?_
  refine tp rfl rfl rfl (PV.move rfl rfl) ?_
  refine TL.nil ?_
  exact TE.round ((i + 1, u2, laid ++ encs [x.heir[i]'(by omega)]) : (Nat) × (Value) × (List UInt8)) ⟨by omega, by rw [← hL, encHeirs_step (i := i) (by omega), if_neg h36]; simp [encs]⟩ (by show _ - _ < _ - _; omega)
    (Sub.r (Sub.r (Sub.r (Sub.r (Sub.r (Sub.nil _))))))
    (fun _ s => sep_keep [3, 0, 0] rfl s)
  refine TL.nil ?_
  refine TE.next hK12 ?_
  clear hK12
  refine TC.seq (fun K24 hK24 => ?_)
  refine TC.no rfl ?_
  refine TC.exit ?_
  refine TE.pass ?_
  clear hK24
  refine TE.pass ?_
  refine TE.hit ?_
  refine TE.next hK10 ?_
  clear hK10
  refine TC.seq (fun K25 hK25 => ?_)
  refine TC.region ?_
  refine tp rfl rfl rfl (PV.move rfl rfl) ?_
  refine tp rfl rfl rfl (PV.assign rfl rfl) ?_
  refine TL.nil ?_
  refine TE.next hK25 ?_
  clear hK25
  refine TC.ret ?_
  refine TE.weak (Sub.refl _) (fun _ s => sep_keep [1, 1] rfl s) ?_
  refine TE.ret1 rfl rfl ?_
  obtain rfl : laid = bs ++ encRow x := by rw [← hL, show 5 - i = 0 by omega]; simp [encHeirs]
  exact ⟨u, rfl, rfl⟩
end Go.Proofs.YtfceaphohlbnbaaGreat
end

section
namespace Go.Proofs.YtfceaphohlbnbaaGreat

open Go Leg Codec Api

set_option linter.unusedSimpArgs false
set_option linter.unusedVariables false

set_option maxRecDepth 100000

set_option maxHeartbeats 8000000

theorem record_does (m : RecT) :
    Does Tryz.prog 113 #[(.agg (ints m.flat).toArray)] (fun _ => True) [] (Ret (fun r' H => ∃ u, r' = u ∧ H = [ownB u (encR m) 5])) := by
  refine Does.body (vs := [(.agg (ints m.flat).toArray)]) (n := 77) Tryz.func113 rfl rfl rfl (fun w0 F hF => ?_)
  refine TC.seq (fun K1 hK1 => ?_)
  refine TC.region ?_
  refine TL.box (Want.plain rfl) rfl rfl rfl rfl (fun b1 => ?_)
  change TL _ _ _ _ _ _ _ _ _ [blkA b1 (ints m.flat) 108]
  refine tp rfl rfl rfl (PV.assign rfl rfl) ?_
  refine TL.nil ?_
  refine TE.next hK1 ?_
  clear hK1
  refine TC.seq (fun K2 hK2 => ?_)
  refine TC.region ?_
  refine TL.alloc (Want.plain rfl) rfl rfl rfl z200 (fun b4 => ?_)
  change TL _ _ _ _ _ _ _ _ _ [blkA b4 [(.slice none 0 0)] 200, blkA b1 (ints m.flat) 108]
  refine TL.ownNil 5 (fun on => ?_)
  clear on
  refine tp rfl rfl rfl (PV.assign rfl rfl) ?_
  refine TL.nil ?_
  refine TE.next hK2 ?_
  clear hK2
  refine TC.seq (fun K3 hK3 => ?_)
  refine TC.seq (fun K4 hK4 => ?_)
  refine TC.region ?_
  refine tp rfl rfl rfl (PV.fieldAddr (r := 0) rfl Tryz.underlying108 rfl sz3 rfl rfl) ?_
  refine tp rfl rfl rfl (PV.load1 (v := (.int .i64 (m.kind))) rfl Tryz.underlying3 rfl rfl (Rd.own 2 rfl rfl) (RecT.at_kind m rfl)) ?_
  refine TL.nil ?_
  refine TE.next hK4 ?_
  clear hK4
  refine TC.block ?_
  refine TC.seq (fun K5 hK5 => ?_)
  refine TC.region ?_
  refine tp rfl rfl rfl (PV.eql rfl rfl rfl) ?_
  refine TL.dec (fun h8 => ?_) (fun h8 => ?_)
  refine tp rfl rfl rfl (PV.assign rfl rfl) ?_
  refine TL.nil ?_
  refine TE.next hK5 ?_
  clear hK5
  refine TC.yes rfl ?_
  refine TC.draw (fun w => Frm F w ∧ w.heap[b1]? = some (.cells (ints m.flat).toArray 108 (0, 0)) ∧ True) mixed rfl (fun _ s => ⟨Frm.of s, s.block 2 (lb rfl) rfl, trivial⟩) ?_
  refine TD.take (i := 0) rfl (by kernel_rfl) (by kernel_rfl) (by kernel_rfl) (fun _ _ _ _ h => h) (Want.plain rfl) rfl rfl (PV.move rfl rfl) ?_
  refine TD.take (i := 1) rfl (by kernel_rfl) (by kernel_rfl) (by kernel_rfl) (fun _ _ _ _ h => h) (Want.plain rfl) rfl rfl (PV.fieldAddr (r := 0) rfl Tryz.underlying108 rfl sz3 rfl rfl) ?_
  refine TD.take (i := 2) rfl (by kernel_rfl) (by kernel_rfl) (by kernel_rfl) (fun _ _ _ _ h => h) (Want.plain rfl) rfl rfl (PV.load1 (v := (.int .i64 (m.kind))) rfl Tryz.underlying3 rfl rfl (fun _ h => h.2.1) (RecT.at_kind m rfl)) ?_
  refine TD.take (i := 5) rfl (by kernel_rfl) (by kernel_rfl) (by kernel_rfl) (fun _ _ _ _ h => h) (Want.plain rfl) rfl rfl (PV.fieldAddr (r := 2) rfl Tryz.underlying108 rfl sz48 rfl rfl) ?_
  refine TD.take (i := 6) rfl (by kernel_rfl) (by kernel_rfl) (by kernel_rfl) (fun _ _ _ _ h => h) (Want.plain rfl) rfl rfl (PV.loadN (vs := ints m.row.flat) rfl Tryz.underlying48 rfl sz48 rfl (fun _ h => h.2.1) (RowT.len m.row) (RecT.sub_row m 0 rfl (by decide) (whole (RowT.len m.row)))) ?_
  refine TD.all [3] (by kernel_rfl) rfl ?_
  refine AllT.cons rfl ?_ ?_
  refine TL.buildSlice (cells := #[(.int .i64 (m.kind))]) (Want.plain rfl) rfl rfl rfl Tryz.underlying74 in3 rfl rfl rfl (by as_aux_lemma => kernel_rfl) (fun b12 => ?_)
  change TL _ _ _ _ _ _ _ _ _ [blkA b12 [(.int .i64 (m.kind))] 3, ownB (.slice none 0 0) ([]) 5, blkA b4 [(.slice none 0 0)] 200, blkA b1 (ints m.flat) 108]
  refine TL.nil ?_
  refine TE.draw (fun _ s => ⟨Frm.of s, s.block 3 (lb rfl) rfl, trivial⟩) ?_
  refine TD.all [4] (by kernel_rfl) rfl ?_
  refine AllT.cons rfl ?_ ?_
  refine TL.callR (A := [blkA b4 [(.slice none 0 0)] 200, ownB (.slice none 0 0) ([]) 5]) (B := [blkA b12 [(.int .i64 (m.kind))] 3, blkA b1 (ints m.flat) 108]) (Want.plain rfl) rfl rfl rfl nm124 rfl (wnum_does b4 (.slice none 0 0) ([]) (.slice (some ⟨b12, 0, none⟩) (1) (1)) [m.kind] (by simp)) (fun _ s => sep_selR [2, 1] rfl s) (isN_piece 0 rfl rfl rfl rfl) (fun vR HR hR => ?_)
  obtain ⟨u1, rfl, rfl⟩ := hR
  change TL _ _ _ _ _ _ _ _ _ [blkA b4 [u1] 200, ownB u1 (encs [m.kind]) 5, blkA b12 [(.int .i64 (m.kind))] 3, blkA b1 (ints m.flat) 108]
  refine TL.nil ?_
  refine TE.draw (fun _ s => ⟨Frm.of s, s.block 3 (lb rfl) rfl, trivial⟩) ?_
  refine TD.all [7] (by kernel_rfl) rfl ?_
  refine AllT.cons rfl ?_ ?_
  refine TL.callR (A := [blkA b4 [u1] 200, ownB u1 (encs [m.kind]) 5]) (B := [blkA b12 [(.int .i64 (m.kind))] 3, blkA b1 (ints m.flat) 108]) (Want.plain rfl) rfl rfl rfl nm125 rfl (wrow_does b4 u1 (encs [m.kind]) m.row (by (have := encs_len [m.kind]); simp only [BallotT.flat, ViewT.flat, ChangeT.flat, List.length_cons, List.length_nil, Vector.length_toList, List.length_append] at *; omega)) (fun _ s => s) (fun _ _ _ => trivial) (fun vR HR hR => ?_)
  obtain ⟨u2, rfl, rfl⟩ := hR
  change TL _ _ _ _ _ _ _ _ _ [blkA b4 [u2] 200, ownB u2 (encs [m.kind] ++ encRow m.row) 5, blkA b12 [(.int .i64 (m.kind))] 3, blkA b1 (ints m.flat) 108]
  refine TL.nil ?_
  refine TE.draw (fun _ s => ⟨Frm.of s, s.block 3 (lb rfl) rfl, trivial⟩) ?_
  refine TD.done (by kernel_rfl) ?_
  refine TE.blockEnd ?_
  refine TE.next hK3 ?_
  clear hK3
  refine TC.seq (fun K6 hK6 => ?_)
  refine TC.region ?_
  refine tp rfl rfl rfl (PV.move rfl rfl) ?_
  refine TL.callR (A := [blkA b4 [u2] 200, ownB u2 (encs [m.kind] ++ encRow m.row) 5]) (B := [blkA b12 [(.int .i64 (m.kind))] 3, blkA b1 (ints m.flat) 108]) (Want.plain rfl) rfl rfl rfl nm129 rfl (wbytes_does b4 u2 (encs [m.kind] ++ encRow m.row) (by (have := encs_len [m.kind]); (have := encRow_len m.row); simp only [BallotT.flat, ViewT.flat, ChangeT.flat, List.length_cons, List.length_nil, Vector.length_toList, List.length_append] at *; omega)) (fun _ s => s) (fun _ _ _ => trivial) (fun vR HR hR => ?_)
  obtain ⟨_, rfl, rfl⟩ := hR
  revert vR
  intro u3
  change TL _ _ _ _ _ _ _ _ _ [blkA b4 [u2] 200, ownB u2 (encs [m.kind] ++ encRow m.row) 5, ownB u3 (encs [m.kind] ++ encRow m.row) 5, blkA b12 [(.int .i64 (m.kind))] 3, blkA b1 (ints m.flat) 108]
  refine tp rfl rfl rfl (PV.assign rfl rfl) ?_
  refine TL.nil ?_
  refine TE.next hK6 ?_
  clear hK6
  refine TC.ret ?_
  refine TE.weak (Sub.refl _) (fun _ s => sep_keep [2] rfl s) ?_
  refine TE.ret1 rfl rfl ?_
  exact ⟨_, rfl, congrArg (fun b => [ownB u3 b 5]) (show (encs [m.kind] ++ encRow m.row) = encR m by simp [encR, kRow, kAsk, encs, *])⟩
  exact AllT.nil
  exact AllT.nil
  exact AllT.nil
  refine tp rfl rfl rfl (PV.assign rfl rfl) ?_
  refine TL.nil ?_
  refine TE.next hK5 ?_
  clear hK5
  refine TC.no rfl ?_
  refine TC.seq (fun K7 hK7 => ?_)
  refine TC.region ?_
  refine tp rfl rfl rfl (PV.eql rfl rfl rfl) ?_
  refine TL.dec (fun h18 => ?_) (fun h18 => ?_)
  refine tp rfl rfl rfl (PV.assign rfl rfl) ?_
  refine TL.nil ?_
  refine TE.next hK7 ?_
  clear hK7
  refine TC.yes rfl ?_
  refine TC.draw (fun w => Frm F w ∧ w.heap[b1]? = some (.cells (ints m.flat).toArray 108 (0, 0)) ∧ True) mixed rfl (fun _ s => ⟨Frm.of s, s.block 2 (lb rfl) rfl, trivial⟩) ?_
  refine TD.take (i := 0) rfl (by kernel_rfl) (by kernel_rfl) (by kernel_rfl) (fun _ _ _ _ h => h) (Want.plain rfl) rfl rfl (PV.move rfl rfl) ?_
  refine TD.take (i := 1) rfl (by kernel_rfl) (by kernel_rfl) (by kernel_rfl) (fun _ _ _ _ h => h) (Want.plain rfl) rfl rfl (PV.fieldAddr (r := 0) rfl Tryz.underlying108 rfl sz3 rfl rfl) ?_
  refine TD.take (i := 2) rfl (by kernel_rfl) (by kernel_rfl) (by kernel_rfl) (fun _ _ _ _ h => h) (Want.plain rfl) rfl rfl (PV.load1 (v := (.int .i64 (m.kind))) rfl Tryz.underlying3 rfl rfl (fun _ h => h.2.1) (RecT.at_kind m rfl)) ?_
  refine TD.take (i := 3) rfl (by kernel_rfl) (by kernel_rfl) (by kernel_rfl) (fun _ _ _ _ h => h) (Want.plain rfl) rfl rfl (PV.fieldAddr (r := 1) rfl Tryz.underlying108 rfl sz3 rfl rfl) ?_
  refine TD.take (i := 4) rfl (by kernel_rfl) (by kernel_rfl) (by kernel_rfl) (fun _ _ _ _ h => h) (Want.plain rfl) rfl rfl (PV.load1 (v := (.int .i64 (m.whose))) rfl Tryz.underlying3 rfl rfl (fun _ h => h.2.1) (RecT.at_whose m rfl)) ?_
  refine TD.take (i := 7) rfl (by kernel_rfl) (by kernel_rfl) (by kernel_rfl) (fun _ _ _ _ h => h) (Want.plain rfl) rfl rfl (PV.fieldAddr (r := 2) rfl Tryz.underlying108 rfl sz48 rfl rfl) ?_
  refine TD.take (i := 8) rfl (by kernel_rfl) (by kernel_rfl) (by kernel_rfl) (fun _ _ _ _ h => h) (Want.plain rfl) rfl rfl (PV.loadN (vs := ints m.row.flat) rfl Tryz.underlying48 rfl sz48 rfl (fun _ h => h.2.1) (RowT.len m.row) (RecT.sub_row m 0 rfl (by decide) (whole (RowT.len m.row)))) ?_
  refine TD.all [5] (by kernel_rfl) rfl ?_
  refine AllT.cons rfl ?_ ?_
  refine TL.buildSlice (cells := #[(.int .i64 (m.kind)), (.int .i64 (m.whose))]) (Want.plain rfl) rfl rfl rfl Tryz.underlying74 in3 rfl rfl rfl (by as_aux_lemma => kernel_rfl) (fun b24 => ?_)
  change TL _ _ _ _ _ _ _ _ _ [blkA b24 [(.int .i64 (m.kind)), (.int .i64 (m.whose))] 3, ownB (.slice none 0 0) ([]) 5, blkA b4 [(.slice none 0 0)] 200, blkA b1 (ints m.flat) 108]
  refine TL.nil ?_
  refine TE.draw (fun _ s => ⟨Frm.of s, s.block 3 (lb rfl) rfl, trivial⟩) ?_
  refine TD.all [6] (by kernel_rfl) rfl ?_
  refine AllT.cons rfl ?_ ?_
  refine TL.callR (A := [blkA b4 [(.slice none 0 0)] 200, ownB (.slice none 0 0) ([]) 5]) (B := [blkA b24 [(.int .i64 (m.kind)), (.int .i64 (m.whose))] 3, blkA b1 (ints m.flat) 108]) (Want.plain rfl) rfl rfl rfl nm124 rfl (wnum_does b4 (.slice none 0 0) ([]) (.slice (some ⟨b24, 0, none⟩) (2) (2)) [m.kind, m.whose] (by simp)) (fun _ s => sep_selR [2, 1] rfl s) (isN_piece 0 rfl rfl rfl rfl) (fun vR HR hR => ?_)
  obtain ⟨u1, rfl, rfl⟩ := hR
  change TL _ _ _ _ _ _ _ _ _ [blkA b4 [u1] 200, ownB u1 (encs [m.kind, m.whose]) 5, blkA b24 [(.int .i64 (m.kind)), (.int .i64 (m.whose))] 3, blkA b1 (ints m.flat) 108]
  refine TL.nil ?_
  refine TE.draw (fun _ s => ⟨Frm.of s, s.block 3 (lb rfl) rfl, trivial⟩) ?_
  refine TD.all [9] (by kernel_rfl) rfl ?_
  refine AllT.cons rfl ?_ ?_
  refine TL.callR (A := [blkA b4 [u1] 200, ownB u1 (encs [m.kind, m.whose]) 5]) (B := [blkA b24 [(.int .i64 (m.kind)), (.int .i64 (m.whose))] 3, blkA b1 (ints m.flat) 108]) (Want.plain rfl) rfl rfl rfl nm125 rfl (wrow_does b4 u1 (encs [m.kind, m.whose]) m.row (by (have := encs_len [m.kind, m.whose]); simp only [BallotT.flat, ViewT.flat, ChangeT.flat, List.length_cons, List.length_nil, Vector.length_toList, List.length_append] at *; omega)) (fun _ s => s) (fun _ _ _ => trivial) (fun vR HR hR => ?_)
  obtain ⟨u2, rfl, rfl⟩ := hR
  change TL _ _ _ _ _ _ _ _ _ [blkA b4 [u2] 200, ownB u2 (encs [m.kind, m.whose] ++ encRow m.row) 5, blkA b24 [(.int .i64 (m.kind)), (.int .i64 (m.whose))] 3, blkA b1 (ints m.flat) 108]
  refine TL.nil ?_
  refine TE.draw (fun _ s => ⟨Frm.of s, s.block 3 (lb rfl) rfl, trivial⟩) ?_
  refine TD.done (by kernel_rfl) ?_
  refine TE.blockEnd ?_
  refine TE.next hK3 ?_
  clear hK3
  refine TC.seq (fun K8 hK8 => ?_)
  refine TC.region ?_
  refine tp rfl rfl rfl (PV.move rfl rfl) ?_
  refine TL.callR (A := [blkA b4 [u2] 200, ownB u2 (encs [m.kind, m.whose] ++ encRow m.row) 5]) (B := [blkA b24 [(.int .i64 (m.kind)), (.int .i64 (m.whose))] 3, blkA b1 (ints m.flat) 108]) (Want.plain rfl) rfl rfl rfl nm129 rfl (wbytes_does b4 u2 (encs [m.kind, m.whose] ++ encRow m.row) (by (have := encs_len [m.kind, m.whose]); (have := encRow_len m.row); simp only [BallotT.flat, ViewT.flat, ChangeT.flat, List.length_cons, List.length_nil, Vector.length_toList, List.length_append] at *; omega)) (fun _ s => s) (fun _ _ _ => trivial) (fun vR HR hR => ?_)
  obtain ⟨_, rfl, rfl⟩ := hR
  revert vR
  intro u3
  change TL _ _ _ _ _ _ _ _ _ [blkA b4 [u2] 200, ownB u2 (encs [m.kind, m.whose] ++ encRow m.row) 5, ownB u3 (encs [m.kind, m.whose] ++ encRow m.row) 5, blkA b24 [(.int .i64 (m.kind)), (.int .i64 (m.whose))] 3, blkA b1 (ints m.flat) 108]
  refine tp rfl rfl rfl (PV.assign rfl rfl) ?_
  refine TL.nil ?_
  refine TE.next hK8 ?_
  clear hK8
  refine TC.ret ?_
  refine TE.weak (Sub.refl _) (fun _ s => sep_keep [2] rfl s) ?_
  refine TE.ret1 rfl rfl ?_
  exact ⟨_, rfl, congrArg (fun b => [ownB u3 b 5]) (show (encs [m.kind, m.whose] ++ encRow m.row) = encR m by simp [encR, kRow, kAsk, encs, *])⟩
  exact AllT.nil
  exact AllT.nil
  exact AllT.nil
  refine tp rfl rfl rfl (PV.assign rfl rfl) ?_
  refine TL.nil ?_
  refine TE.next hK7 ?_
  clear hK7
  refine TC.no rfl ?_
  refine TC.seq (fun K9 hK9 => ?_)
  refine TC.region ?_
  refine tp rfl rfl rfl (PV.eql rfl rfl rfl) ?_
  refine TL.dec (fun h30 => ?_) (fun h30 => ?_)
  refine tp rfl rfl rfl (PV.assign rfl rfl) ?_
  refine TL.nil ?_
  refine TE.next hK9 ?_
  clear hK9
  refine TC.yes rfl ?_
  refine TC.region ?_
  refine tp rfl rfl rfl (PV.move rfl rfl) ?_
  refine tp rfl rfl rfl (PV.fieldAddr (r := 0) rfl Tryz.underlying108 rfl sz3 rfl rfl) ?_
  refine tp rfl rfl rfl (PV.load1 (v := (.int .i64 (m.kind))) rfl Tryz.underlying3 rfl rfl (Rd.own 2 rfl rfl) (RecT.at_kind m rfl)) ?_
  refine tp rfl rfl rfl (PV.fieldAddr (r := 1) rfl Tryz.underlying108 rfl sz3 rfl rfl) ?_
  refine tp rfl rfl rfl (PV.load1 (v := (.int .i64 (m.whose))) rfl Tryz.underlying3 rfl rfl (Rd.own 2 rfl rfl) (RecT.at_whose m rfl)) ?_
  refine TL.buildSlice (cells := #[(.int .i64 (m.kind)), (.int .i64 (m.whose))]) (Want.plain rfl) rfl rfl rfl Tryz.underlying74 in3 rfl rfl rfl (by as_aux_lemma => kernel_rfl) (fun b36 => ?_)
  change TL _ _ _ _ _ _ _ _ _ [blkA b36 [(.int .i64 (m.kind)), (.int .i64 (m.whose))] 3, ownB (.slice none 0 0) ([]) 5, blkA b4 [(.slice none 0 0)] 200, blkA b1 (ints m.flat) 108]
  refine TL.callR (A := [blkA b4 [(.slice none 0 0)] 200, ownB (.slice none 0 0) ([]) 5]) (B := [blkA b36 [(.int .i64 (m.kind)), (.int .i64 (m.whose))] 3, blkA b1 (ints m.flat) 108]) (Want.plain rfl) rfl rfl rfl nm124 rfl (wnum_does b4 (.slice none 0 0) ([]) (.slice (some ⟨b36, 0, none⟩) (2) (2)) [m.kind, m.whose] (by simp)) (fun _ s => sep_selR [2, 1] rfl s) (isN_piece 0 rfl rfl rfl rfl) (fun vR HR hR => ?_)
  obtain ⟨u1, rfl, rfl⟩ := hR
  change TL _ _ _ _ _ _ _ _ _ [blkA b4 [u1] 200, ownB u1 (encs [m.kind, m.whose]) 5, blkA b36 [(.int .i64 (m.kind)), (.int .i64 (m.whose))] 3, blkA b1 (ints m.flat) 108]
  refine TL.nil ?_
  refine TE.blockEnd ?_
  refine TE.next hK3 ?_
  clear hK3
  refine TC.seq (fun K10 hK10 => ?_)
  refine TC.region ?_
  refine tp rfl rfl rfl (PV.move rfl rfl) ?_
  refine TL.callR (A := [blkA b4 [u1] 200, ownB u1 (encs [m.kind, m.whose]) 5]) (B := [blkA b36 [(.int .i64 (m.kind)), (.int .i64 (m.whose))] 3, blkA b1 (ints m.flat) 108]) (Want.plain rfl) rfl rfl rfl nm129 rfl (wbytes_does b4 u1 (encs [m.kind, m.whose]) (by (have := encs_len [m.kind, m.whose]); simp only [BallotT.flat, ViewT.flat, ChangeT.flat, List.length_cons, List.length_nil, Vector.length_toList, List.length_append] at *; omega)) (fun _ s => s) (fun _ _ _ => trivial) (fun vR HR hR => ?_)
  obtain ⟨_, rfl, rfl⟩ := hR
  revert vR
  intro u2
  change TL _ _ _ _ _ _ _ _ _ [blkA b4 [u1] 200, ownB u1 (encs [m.kind, m.whose]) 5, ownB u2 (encs [m.kind, m.whose]) 5, blkA b36 [(.int .i64 (m.kind)), (.int .i64 (m.whose))] 3, blkA b1 (ints m.flat) 108]
  refine tp rfl rfl rfl (PV.assign rfl rfl) ?_
  refine TL.nil ?_
  refine TE.next hK10 ?_
  clear hK10
  refine TC.ret ?_
  refine TE.weak (Sub.refl _) (fun _ s => sep_keep [2] rfl s) ?_
  refine TE.ret1 rfl rfl ?_
  exact ⟨_, rfl, congrArg (fun b => [ownB u2 b 5]) (show (encs [m.kind, m.whose]) = encR m by simp [encR, kRow, kAsk, encs, *])⟩
  refine tp rfl rfl rfl (PV.assign rfl rfl) ?_
  refine TL.nil ?_
  refine TE.next hK9 ?_
  clear hK9
  refine TC.no rfl ?_
  refine TC.seq (fun K11 hK11 => ?_)
  refine TC.region ?_
  refine tp rfl rfl rfl (PV.eql rfl rfl rfl) ?_
  refine TL.dec (fun h39 => ?_) (fun h39 => ?_)
  refine tp rfl rfl rfl (PV.assign rfl rfl) ?_
  refine TL.nil ?_
  refine TE.next hK11 ?_
  clear hK11
  refine TC.yes rfl ?_
  refine TC.draw (fun w => Frm F w ∧ w.heap[b1]? = some (.cells (ints m.flat).toArray 108 (0, 0)) ∧ True) mixed rfl (fun _ s => ⟨Frm.of s, s.block 2 (lb rfl) rfl, trivial⟩) ?_
  refine TD.take (i := 0) rfl (by kernel_rfl) (by kernel_rfl) (by kernel_rfl) (fun _ _ _ _ h => h) (Want.plain rfl) rfl rfl (PV.move rfl rfl) ?_
  refine TD.take (i := 1) rfl (by kernel_rfl) (by kernel_rfl) (by kernel_rfl) (fun _ _ _ _ h => h) (Want.plain rfl) rfl rfl (PV.fieldAddr (r := 0) rfl Tryz.underlying108 rfl sz3 rfl rfl) ?_
  refine TD.take (i := 2) rfl (by kernel_rfl) (by kernel_rfl) (by kernel_rfl) (fun _ _ _ _ h => h) (Want.plain rfl) rfl rfl (PV.load1 (v := (.int .i64 (m.kind))) rfl Tryz.underlying3 rfl rfl (fun _ h => h.2.1) (RecT.at_kind m rfl)) ?_
  refine TD.take (i := 3) rfl (by kernel_rfl) (by kernel_rfl) (by kernel_rfl) (fun _ _ _ _ h => h) (Want.plain rfl) rfl rfl (PV.fieldAddr (r := 176) rfl Tryz.underlying108 rfl sz3 rfl rfl) ?_
  refine TD.take (i := 4) rfl (by kernel_rfl) (by kernel_rfl) (by kernel_rfl) (fun _ _ _ _ h => h) (Want.plain rfl) rfl rfl (PV.load1 (v := (.int .i64 (m.epoch))) rfl Tryz.underlying3 rfl rfl (fun _ h => h.2.1) (RecT.at_epoch m rfl)) ?_
  refine TD.take (i := 7) rfl (by kernel_rfl) (by kernel_rfl) (by kernel_rfl) (fun _ _ _ _ h => h) (Want.plain rfl) rfl rfl (PV.fieldAddr (r := 177) rfl Tryz.underlying108 rfl sz50 rfl rfl) ?_
  refine TD.take (i := 8) rfl (by kernel_rfl) (by kernel_rfl) (by kernel_rfl) (fun _ _ _ _ h => h) (Want.plain rfl) rfl rfl (PV.loadN (vs := ints m.ballot.flat) rfl Tryz.underlying50 rfl sz50 rfl (fun _ h => h.2.1) (BallotT.len m.ballot) (RecT.sub_ballot m 0 rfl (by decide) (whole (BallotT.len m.ballot)))) ?_
  refine TD.all [5] (by kernel_rfl) rfl ?_
  refine AllT.cons rfl ?_ ?_
  refine TL.buildSlice (cells := #[(.int .i64 (m.kind)), (.int .i64 (m.epoch))]) (Want.plain rfl) rfl rfl rfl Tryz.underlying74 in3 rfl rfl rfl (by as_aux_lemma => kernel_rfl) (fun b45 => ?_)
  change TL _ _ _ _ _ _ _ _ _ [blkA b45 [(.int .i64 (m.kind)), (.int .i64 (m.epoch))] 3, ownB (.slice none 0 0) ([]) 5, blkA b4 [(.slice none 0 0)] 200, blkA b1 (ints m.flat) 108]
  refine TL.nil ?_
  refine TE.draw (fun _ s => ⟨Frm.of s, s.block 3 (lb rfl) rfl, trivial⟩) ?_
  refine TD.all [6] (by kernel_rfl) rfl ?_
  refine AllT.cons rfl ?_ ?_
  refine TL.callR (A := [blkA b4 [(.slice none 0 0)] 200, ownB (.slice none 0 0) ([]) 5]) (B := [blkA b45 [(.int .i64 (m.kind)), (.int .i64 (m.epoch))] 3, blkA b1 (ints m.flat) 108]) (Want.plain rfl) rfl rfl rfl nm124 rfl (wnum_does b4 (.slice none 0 0) ([]) (.slice (some ⟨b45, 0, none⟩) (2) (2)) [m.kind, m.epoch] (by simp)) (fun _ s => sep_selR [2, 1] rfl s) (isN_piece 0 rfl rfl rfl rfl) (fun vR HR hR => ?_)
  obtain ⟨u1, rfl, rfl⟩ := hR
  change TL _ _ _ _ _ _ _ _ _ [blkA b4 [u1] 200, ownB u1 (encs [m.kind, m.epoch]) 5, blkA b45 [(.int .i64 (m.kind)), (.int .i64 (m.epoch))] 3, blkA b1 (ints m.flat) 108]
  refine TL.nil ?_
  refine TE.draw (fun _ s => ⟨Frm.of s, s.block 3 (lb rfl) rfl, trivial⟩) ?_
  refine TD.all [9] (by kernel_rfl) rfl ?_
  refine AllT.cons rfl ?_ ?_
  refine TL.callR (A := [blkA b4 [u1] 200, ownB u1 (encs [m.kind, m.epoch]) 5]) (B := [blkA b45 [(.int .i64 (m.kind)), (.int .i64 (m.epoch))] 3, blkA b1 (ints m.flat) 108]) (Want.plain rfl) rfl rfl rfl nm126 rfl (wballot_does b4 u1 (encs [m.kind, m.epoch]) m.ballot (by (have := encs_len [m.kind, m.epoch]); simp only [BallotT.flat, ViewT.flat, ChangeT.flat, List.length_cons, List.length_nil, Vector.length_toList, List.length_append] at *; omega)) (fun _ s => s) (fun _ _ _ => trivial) (fun vR HR hR => ?_)
  obtain ⟨u2, rfl, rfl⟩ := hR
  change TL _ _ _ _ _ _ _ _ _ [blkA b4 [u2] 200, ownB u2 (encs [m.kind, m.epoch] ++ encs m.ballot.flat) 5, blkA b45 [(.int .i64 (m.kind)), (.int .i64 (m.epoch))] 3, blkA b1 (ints m.flat) 108]
  refine TL.nil ?_
  refine TE.draw (fun _ s => ⟨Frm.of s, s.block 3 (lb rfl) rfl, trivial⟩) ?_
  refine TD.done (by kernel_rfl) ?_
  refine TE.blockEnd ?_
  refine TE.next hK3 ?_
  clear hK3
  refine TC.seq (fun K12 hK12 => ?_)
  refine TC.region ?_
  refine tp rfl rfl rfl (PV.move rfl rfl) ?_
  refine TL.callR (A := [blkA b4 [u2] 200, ownB u2 (encs [m.kind, m.epoch] ++ encs m.ballot.flat) 5]) (B := [blkA b45 [(.int .i64 (m.kind)), (.int .i64 (m.epoch))] 3, blkA b1 (ints m.flat) 108]) (Want.plain rfl) rfl rfl rfl nm129 rfl (wbytes_does b4 u2 (encs [m.kind, m.epoch] ++ encs m.ballot.flat) (by (have := encs_len [m.kind, m.epoch]); (have := encs_len (m.ballot.flat)); simp only [BallotT.flat, ViewT.flat, ChangeT.flat, List.length_cons, List.length_nil, Vector.length_toList, List.length_append] at *; omega)) (fun _ s => s) (fun _ _ _ => trivial) (fun vR HR hR => ?_)
  obtain ⟨_, rfl, rfl⟩ := hR
  revert vR
  intro u3
  change TL _ _ _ _ _ _ _ _ _ [blkA b4 [u2] 200, ownB u2 (encs [m.kind, m.epoch] ++ encs m.ballot.flat) 5, ownB u3 (encs [m.kind, m.epoch] ++ encs m.ballot.flat) 5, blkA b45 [(.int .i64 (m.kind)), (.int .i64 (m.epoch))] 3, blkA b1 (ints m.flat) 108]
  refine tp rfl rfl rfl (PV.assign rfl rfl) ?_
  refine TL.nil ?_
  refine TE.next hK12 ?_
  clear hK12
  refine TC.ret ?_
  refine TE.weak (Sub.refl _) (fun _ s => sep_keep [2] rfl s) ?_
  refine TE.ret1 rfl rfl ?_
  exact ⟨_, rfl, congrArg (fun b => [ownB u3 b 5]) (show (encs [m.kind, m.epoch] ++ encs m.ballot.flat) = encR m by simp [encR, kRow, kAsk, encs, *])⟩
  exact AllT.nil
  exact AllT.nil
  exact AllT.nil
  refine tp rfl rfl rfl (PV.assign rfl rfl) ?_
  refine TL.nil ?_
  refine TE.next hK11 ?_
  clear hK11
  refine TC.no rfl ?_
  refine TC.seq (fun K13 hK13 => ?_)
  refine TC.region ?_
  refine tp rfl rfl rfl (PV.eql rfl rfl rfl) ?_
  refine TL.dec (fun h51 => ?_) (fun h51 => ?_)
  refine tp rfl rfl rfl (PV.assign rfl rfl) ?_
  refine TL.nil ?_
  refine TE.next hK13 ?_
  clear hK13
  refine TC.yes rfl ?_
  refine TC.draw (fun w => Frm F w ∧ w.heap[b1]? = some (.cells (ints m.flat).toArray 108 (0, 0)) ∧ True) mixed rfl (fun _ s => ⟨Frm.of s, s.block 2 (lb rfl) rfl, trivial⟩) ?_
  refine TD.take (i := 0) rfl (by kernel_rfl) (by kernel_rfl) (by kernel_rfl) (fun _ _ _ _ h => h) (Want.plain rfl) rfl rfl (PV.move rfl rfl) ?_
  refine TD.take (i := 1) rfl (by kernel_rfl) (by kernel_rfl) (by kernel_rfl) (fun _ _ _ _ h => h) (Want.plain rfl) rfl rfl (PV.fieldAddr (r := 0) rfl Tryz.underlying108 rfl sz3 rfl rfl) ?_
  refine TD.take (i := 2) rfl (by kernel_rfl) (by kernel_rfl) (by kernel_rfl) (fun _ _ _ _ h => h) (Want.plain rfl) rfl rfl (PV.load1 (v := (.int .i64 (m.kind))) rfl Tryz.underlying3 rfl rfl (fun _ h => h.2.1) (RecT.at_kind m rfl)) ?_
  refine TD.take (i := 3) rfl (by kernel_rfl) (by kernel_rfl) (by kernel_rfl) (fun _ _ _ _ h => h) (Want.plain rfl) rfl rfl (PV.fieldAddr (r := 176) rfl Tryz.underlying108 rfl sz3 rfl rfl) ?_
  refine TD.take (i := 4) rfl (by kernel_rfl) (by kernel_rfl) (by kernel_rfl) (fun _ _ _ _ h => h) (Want.plain rfl) rfl rfl (PV.load1 (v := (.int .i64 (m.epoch))) rfl Tryz.underlying3 rfl rfl (fun _ h => h.2.1) (RecT.at_epoch m rfl)) ?_
  refine TD.take (i := 7) rfl (by kernel_rfl) (by kernel_rfl) (by kernel_rfl) (fun _ _ _ _ h => h) (Want.plain rfl) rfl rfl (PV.fieldAddr (r := 177) rfl Tryz.underlying108 rfl sz50 rfl rfl) ?_
  refine TD.take (i := 8) rfl (by kernel_rfl) (by kernel_rfl) (by kernel_rfl) (fun _ _ _ _ h => h) (Want.plain rfl) rfl rfl (PV.loadN (vs := ints m.ballot.flat) rfl Tryz.underlying50 rfl sz50 rfl (fun _ h => h.2.1) (BallotT.len m.ballot) (RecT.sub_ballot m 0 rfl (by decide) (whole (BallotT.len m.ballot)))) ?_
  refine TD.take (i := 10) rfl (by kernel_rfl) (by kernel_rfl) (by kernel_rfl) (fun _ _ _ _ h => h) (Want.plain rfl) rfl rfl (PV.fieldAddr (r := 179) rfl Tryz.underlying108 rfl sz36 rfl rfl) ?_
  refine TD.take (i := 11) rfl (by kernel_rfl) (by kernel_rfl) (by kernel_rfl) (fun _ _ _ _ h => h) (Want.plain rfl) rfl rfl (PV.loadN (vs := ints m.change.flat) rfl Tryz.underlying36 rfl sz36 rfl (fun _ h => h.2.1) (ChangeT.len m.change) (RecT.sub_change m 0 rfl (by decide) (whole (ChangeT.len m.change)))) ?_
  refine TD.all [5] (by kernel_rfl) rfl ?_
  refine AllT.cons rfl ?_ ?_
  refine TL.buildSlice (cells := #[(.int .i64 (m.kind)), (.int .i64 (m.epoch))]) (Want.plain rfl) rfl rfl rfl Tryz.underlying74 in3 rfl rfl rfl (by as_aux_lemma => kernel_rfl) (fun b57 => ?_)
  change TL _ _ _ _ _ _ _ _ _ [blkA b57 [(.int .i64 (m.kind)), (.int .i64 (m.epoch))] 3, ownB (.slice none 0 0) ([]) 5, blkA b4 [(.slice none 0 0)] 200, blkA b1 (ints m.flat) 108]
  refine TL.nil ?_
  refine TE.draw (fun _ s => ⟨Frm.of s, s.block 3 (lb rfl) rfl, trivial⟩) ?_
  refine TD.all [6] (by kernel_rfl) rfl ?_
  refine AllT.cons rfl ?_ ?_
  refine TL.callR (A := [blkA b4 [(.slice none 0 0)] 200, ownB (.slice none 0 0) ([]) 5]) (B := [blkA b57 [(.int .i64 (m.kind)), (.int .i64 (m.epoch))] 3, blkA b1 (ints m.flat) 108]) (Want.plain rfl) rfl rfl rfl nm124 rfl (wnum_does b4 (.slice none 0 0) ([]) (.slice (some ⟨b57, 0, none⟩) (2) (2)) [m.kind, m.epoch] (by simp)) (fun _ s => sep_selR [2, 1] rfl s) (isN_piece 0 rfl rfl rfl rfl) (fun vR HR hR => ?_)
  obtain ⟨u1, rfl, rfl⟩ := hR
  change TL _ _ _ _ _ _ _ _ _ [blkA b4 [u1] 200, ownB u1 (encs [m.kind, m.epoch]) 5, blkA b57 [(.int .i64 (m.kind)), (.int .i64 (m.epoch))] 3, blkA b1 (ints m.flat) 108]
  refine TL.nil ?_
  refine TE.draw (fun _ s => ⟨Frm.of s, s.block 3 (lb rfl) rfl, trivial⟩) ?_
  refine TD.all [9] (by kernel_rfl) rfl ?_
  refine AllT.cons rfl ?_ ?_
  refine TL.callR (A := [blkA b4 [u1] 200, ownB u1 (encs [m.kind, m.epoch]) 5]) (B := [blkA b57 [(.int .i64 (m.kind)), (.int .i64 (m.epoch))] 3, blkA b1 (ints m.flat) 108]) (Want.plain rfl) rfl rfl rfl nm126 rfl (wballot_does b4 u1 (encs [m.kind, m.epoch]) m.ballot (by (have := encs_len [m.kind, m.epoch]); simp only [BallotT.flat, ViewT.flat, ChangeT.flat, List.length_cons, List.length_nil, Vector.length_toList, List.length_append] at *; omega)) (fun _ s => s) (fun _ _ _ => trivial) (fun vR HR hR => ?_)
  obtain ⟨u2, rfl, rfl⟩ := hR
  change TL _ _ _ _ _ _ _ _ _ [blkA b4 [u2] 200, ownB u2 (encs [m.kind, m.epoch] ++ encs m.ballot.flat) 5, blkA b57 [(.int .i64 (m.kind)), (.int .i64 (m.epoch))] 3, blkA b1 (ints m.flat) 108]
  refine TL.nil ?_
  refine TE.draw (fun _ s => ⟨Frm.of s, s.block 3 (lb rfl) rfl, trivial⟩) ?_
  refine TD.all [12] (by kernel_rfl) rfl ?_
  refine AllT.cons rfl ?_ ?_
  refine TL.callR (A := [blkA b4 [u2] 200, ownB u2 (encs [m.kind, m.epoch] ++ encs m.ballot.flat) 5]) (B := [blkA b57 [(.int .i64 (m.kind)), (.int .i64 (m.epoch))] 3, blkA b1 (ints m.flat) 108]) (Want.plain rfl) rfl rfl rfl nm127 rfl (wchange_does b4 u2 (encs [m.kind, m.epoch] ++ encs m.ballot.flat) m.change (by (have := encs_len [m.kind, m.epoch]); (have := encs_len (m.ballot.flat)); simp only [BallotT.flat, ViewT.flat, ChangeT.flat, List.length_cons, List.length_nil, Vector.length_toList, List.length_append] at *; omega)) (fun _ s => s) (fun _ _ _ => trivial) (fun vR HR hR => ?_)
  obtain ⟨u3, rfl, rfl⟩ := hR
  change TL _ _ _ _ _ _ _ _ _ [blkA b4 [u3] 200, ownB u3 (encs [m.kind, m.epoch] ++ encs m.ballot.flat ++ encs m.change.flat) 5, blkA b57 [(.int .i64 (m.kind)), (.int .i64 (m.epoch))] 3, blkA b1 (ints m.flat) 108]
  refine TL.nil ?_
  refine TE.draw (fun _ s => ⟨Frm.of s, s.block 3 (lb rfl) rfl, trivial⟩) ?_
  refine TD.done (by kernel_rfl) ?_
  refine TE.blockEnd ?_
  refine TE.next hK3 ?_
  clear hK3
  refine TC.seq (fun K14 hK14 => ?_)
  refine TC.region ?_
  refine tp rfl rfl rfl (PV.move rfl rfl) ?_
  refine TL.callR (A := [blkA b4 [u3] 200, ownB u3 (encs [m.kind, m.epoch] ++ encs m.ballot.flat ++ encs m.change.flat) 5]) (B := [blkA b57 [(.int .i64 (m.kind)), (.int .i64 (m.epoch))] 3, blkA b1 (ints m.flat) 108]) (Want.plain rfl) rfl rfl rfl nm129 rfl (wbytes_does b4 u3 (encs [m.kind, m.epoch] ++ encs m.ballot.flat ++ encs m.change.flat) (by (have := encs_len [m.kind, m.epoch]); (have := encs_len (m.ballot.flat)); (have := encs_len (m.change.flat)); simp only [BallotT.flat, ViewT.flat, ChangeT.flat, List.length_cons, List.length_nil, Vector.length_toList, List.length_append] at *; omega)) (fun _ s => s) (fun _ _ _ => trivial) (fun vR HR hR => ?_)
  obtain ⟨_, rfl, rfl⟩ := hR
  revert vR
  intro u4
  change TL _ _ _ _ _ _ _ _ _ [blkA b4 [u3] 200, ownB u3 (encs [m.kind, m.epoch] ++ encs m.ballot.flat ++ encs m.change.flat) 5, ownB u4 (encs [m.kind, m.epoch] ++ encs m.ballot.flat ++ encs m.change.flat) 5, blkA b57 [(.int .i64 (m.kind)), (.int .i64 (m.epoch))] 3, blkA b1 (ints m.flat) 108]
  refine tp rfl rfl rfl (PV.assign rfl rfl) ?_
  refine TL.nil ?_
  refine TE.next hK14 ?_
  clear hK14
  refine TC.ret ?_
  refine TE.weak (Sub.refl _) (fun _ s => sep_keep [2] rfl s) ?_
  refine TE.ret1 rfl rfl ?_
  exact ⟨_, rfl, congrArg (fun b => [ownB u4 b 5]) (show (encs [m.kind, m.epoch] ++ encs m.ballot.flat ++ encs m.change.flat) = encR m by simp [encR, kRow, kAsk, encs, *])⟩
  exact AllT.nil
  exact AllT.nil
  exact AllT.nil
  exact AllT.nil
  refine tp rfl rfl rfl (PV.assign rfl rfl) ?_
  refine TL.nil ?_
  refine TE.next hK13 ?_
  clear hK13
  refine TC.no rfl ?_
  refine TC.seq (fun K15 hK15 => ?_)
  refine TC.region ?_
  refine tp rfl rfl rfl (PV.eql rfl rfl rfl) ?_
  refine TL.dec (fun h66 => ?_) (fun h66 => ?_)
  refine tp rfl rfl rfl (PV.assign rfl rfl) ?_
  refine TL.nil ?_
  refine TE.next hK15 ?_
  clear hK15
  refine TC.yes rfl ?_
  refine TC.draw (fun w => Frm F w ∧ w.heap[b1]? = some (.cells (ints m.flat).toArray 108 (0, 0)) ∧ True) mixed rfl (fun _ s => ⟨Frm.of s, s.block 2 (lb rfl) rfl, trivial⟩) ?_
  refine TD.take (i := 0) rfl (by kernel_rfl) (by kernel_rfl) (by kernel_rfl) (fun _ _ _ _ h => h) (Want.plain rfl) rfl rfl (PV.move rfl rfl) ?_
  refine TD.take (i := 1) rfl (by kernel_rfl) (by kernel_rfl) (by kernel_rfl) (fun _ _ _ _ h => h) (Want.plain rfl) rfl rfl (PV.fieldAddr (r := 0) rfl Tryz.underlying108 rfl sz3 rfl rfl) ?_
  refine TD.take (i := 2) rfl (by kernel_rfl) (by kernel_rfl) (by kernel_rfl) (fun _ _ _ _ h => h) (Want.plain rfl) rfl rfl (PV.load1 (v := (.int .i64 (m.kind))) rfl Tryz.underlying3 rfl rfl (fun _ h => h.2.1) (RecT.at_kind m rfl)) ?_
  refine TD.take (i := 5) rfl (by kernel_rfl) (by kernel_rfl) (by kernel_rfl) (fun _ _ _ _ h => h) (Want.plain rfl) rfl rfl (PV.fieldAddr (r := 182) rfl Tryz.underlying108 rfl sz52 rfl rfl) ?_
  refine TD.take (i := 6) rfl (by kernel_rfl) (by kernel_rfl) (by kernel_rfl) (fun _ _ _ _ h => h) (Want.plain rfl) rfl rfl (PV.loadN (vs := ints m.view.flat) rfl Tryz.underlying52 rfl sz52 rfl (fun _ h => h.2.1) (ViewT.len m.view) (RecT.sub_view m 0 rfl (by decide) (whole (ViewT.len m.view)))) ?_
  refine TD.all [3] (by kernel_rfl) rfl ?_
  refine AllT.cons rfl ?_ ?_
  refine TL.buildSlice (cells := #[(.int .i64 (m.kind))]) (Want.plain rfl) rfl rfl rfl Tryz.underlying74 in3 rfl rfl rfl (by as_aux_lemma => kernel_rfl) (fun b70 => ?_)
  change TL _ _ _ _ _ _ _ _ _ [blkA b70 [(.int .i64 (m.kind))] 3, ownB (.slice none 0 0) ([]) 5, blkA b4 [(.slice none 0 0)] 200, blkA b1 (ints m.flat) 108]
  refine TL.nil ?_
  refine TE.draw (fun _ s => ⟨Frm.of s, s.block 3 (lb rfl) rfl, trivial⟩) ?_
  refine TD.all [4] (by kernel_rfl) rfl ?_
  refine AllT.cons rfl ?_ ?_
  refine TL.callR (A := [blkA b4 [(.slice none 0 0)] 200, ownB (.slice none 0 0) ([]) 5]) (B := [blkA b70 [(.int .i64 (m.kind))] 3, blkA b1 (ints m.flat) 108]) (Want.plain rfl) rfl rfl rfl nm124 rfl (wnum_does b4 (.slice none 0 0) ([]) (.slice (some ⟨b70, 0, none⟩) (1) (1)) [m.kind] (by simp)) (fun _ s => sep_selR [2, 1] rfl s) (isN_piece 0 rfl rfl rfl rfl) (fun vR HR hR => ?_)
  obtain ⟨u1, rfl, rfl⟩ := hR
  change TL _ _ _ _ _ _ _ _ _ [blkA b4 [u1] 200, ownB u1 (encs [m.kind]) 5, blkA b70 [(.int .i64 (m.kind))] 3, blkA b1 (ints m.flat) 108]
  refine TL.nil ?_
  refine TE.draw (fun _ s => ⟨Frm.of s, s.block 3 (lb rfl) rfl, trivial⟩) ?_
  refine TD.all [7] (by kernel_rfl) rfl ?_
  refine AllT.cons rfl ?_ ?_
  refine TL.callR (A := [blkA b4 [u1] 200, ownB u1 (encs [m.kind]) 5]) (B := [blkA b70 [(.int .i64 (m.kind))] 3, blkA b1 (ints m.flat) 108]) (Want.plain rfl) rfl rfl rfl nm128 rfl (wview_does b4 u1 (encs [m.kind]) m.view (by (have := encs_len [m.kind]); simp only [BallotT.flat, ViewT.flat, ChangeT.flat, List.length_cons, List.length_nil, Vector.length_toList, List.length_append] at *; omega)) (fun _ s => s) (fun _ _ _ => trivial) (fun vR HR hR => ?_)
  obtain ⟨u2, rfl, rfl⟩ := hR
  change TL _ _ _ _ _ _ _ _ _ [blkA b4 [u2] 200, ownB u2 (encs [m.kind] ++ encs m.view.flat) 5, blkA b70 [(.int .i64 (m.kind))] 3, blkA b1 (ints m.flat) 108]
  refine TL.nil ?_
  refine TE.draw (fun _ s => ⟨Frm.of s, s.block 3 (lb rfl) rfl, trivial⟩) ?_
  refine TD.done (by kernel_rfl) ?_
  refine TE.blockEnd ?_
  refine TE.next hK3 ?_
  clear hK3
  refine TC.seq (fun K16 hK16 => ?_)
  refine TC.region ?_
  refine tp rfl rfl rfl (PV.move rfl rfl) ?_
  refine TL.callR (A := [blkA b4 [u2] 200, ownB u2 (encs [m.kind] ++ encs m.view.flat) 5]) (B := [blkA b70 [(.int .i64 (m.kind))] 3, blkA b1 (ints m.flat) 108]) (Want.plain rfl) rfl rfl rfl nm129 rfl (wbytes_does b4 u2 (encs [m.kind] ++ encs m.view.flat) (by (have := encs_len [m.kind]); (have := encs_len (m.view.flat)); simp only [BallotT.flat, ViewT.flat, ChangeT.flat, List.length_cons, List.length_nil, Vector.length_toList, List.length_append] at *; omega)) (fun _ s => s) (fun _ _ _ => trivial) (fun vR HR hR => ?_)
  obtain ⟨_, rfl, rfl⟩ := hR
  revert vR
  intro u3
  change TL _ _ _ _ _ _ _ _ _ [blkA b4 [u2] 200, ownB u2 (encs [m.kind] ++ encs m.view.flat) 5, ownB u3 (encs [m.kind] ++ encs m.view.flat) 5, blkA b70 [(.int .i64 (m.kind))] 3, blkA b1 (ints m.flat) 108]
  refine tp rfl rfl rfl (PV.assign rfl rfl) ?_
  refine TL.nil ?_
  refine TE.next hK16 ?_
  clear hK16
  refine TC.ret ?_
  refine TE.weak (Sub.refl _) (fun _ s => sep_keep [2] rfl s) ?_
  refine TE.ret1 rfl rfl ?_
  exact ⟨_, rfl, congrArg (fun b => [ownB u3 b 5]) (show (encs [m.kind] ++ encs m.view.flat) = encR m by simp [encR, kRow, kAsk, encs, *])⟩
  exact AllT.nil
  exact AllT.nil
  exact AllT.nil
  refine tp rfl rfl rfl (PV.assign rfl rfl) ?_
  refine TL.nil ?_
  refine TE.next hK15 ?_
  clear hK15
  refine TC.no rfl ?_
  refine TC.skip ?_
  refine TE.blockEnd ?_
  refine TE.next hK3 ?_
  clear hK3
  refine TC.seq (fun K17 hK17 => ?_)
  refine TC.region ?_
  refine tp rfl rfl rfl (PV.move rfl rfl) ?_
  refine TL.callR (A := [blkA b4 [(.slice none 0 0)] 200, ownB (.slice none 0 0) ([]) 5]) (B := [blkA b1 (ints m.flat) 108]) (Want.plain rfl) rfl rfl rfl nm129 rfl (wbytes_does b4 (.slice none 0 0) ([]) (by simp)) (fun _ s => sep_selR [1, 0] rfl s) (fun _ _ _ => trivial) (fun vR HR hR => ?_)
  obtain ⟨_, rfl, rfl⟩ := hR
  revert vR
  intro u1
  change TL _ _ _ _ _ _ _ _ _ [blkA b4 [(.slice none 0 0)] 200, ownB (.slice none 0 0) ([]) 5, ownB u1 ([]) 5, blkA b1 (ints m.flat) 108]
  refine tp rfl rfl rfl (PV.assign rfl rfl) ?_
  refine TL.nil ?_
  refine TE.next hK17 ?_
  clear hK17
  refine TC.ret ?_
  refine TE.weak (Sub.refl _) (fun _ s => sep_keep [2] rfl s) ?_
  refine TE.ret1 rfl rfl ?_
  exact ⟨_, rfl, congrArg (fun b => [ownB u1 b 5]) (show ([] : List UInt8) = encR m by simp [encR, kRow, kAsk, encs, *])⟩
end Go.Proofs.YtfceaphohlbnbaaGreat
end

section
namespace Go.Proofs.YtfceaphohlbnbaaGreat

open Go Leg Codec Api Dsk Wal

set_option linter.unusedSimpArgs false
set_option linter.unusedVariables false

set_option maxRecDepth 100000

set_option maxHeartbeats 8000000

abbrev dkL (d : Nat) (recs : List (List UInt8)) : HP := pack (fun D : { D : DS // LogD D recs ∧ D.dn = false ∧ D.ar = false } => [dk d D.1])
abbrev lgL (lg d : Nat) (recs : List (List UInt8)) : HP := lgP lg d (((recs).length : Nat) : Int) ((sizeS (recs) : Nat) : Int)
theorem ReplyT.flat_length (x : ReplyT) : x.flat.length = 3 := rfl
theorem logPut_does (lg d : Nat) (x : Value) (bs : List UInt8) (recs : List (List UInt8)) (hroom : sizeS recs + piecesN bs.length ≤ 2048) (hlen : bs.length ≤ 3000) : Does Tryz.prog 112 #[.pointer (some ⟨lg, 0, none⟩), x] (IsW x bs) [lgL lg d recs, dkL d recs] (Ret (fun v H => v = .int .i64 0 ∧ H = [lgL lg d (recs ++ [bs]), dkL d (recs ++ [bs])])) := by
  refine Does.ex (A' := fun D : { D : DS // LogD D recs ∧ D.dn = false ∧ D.ar = false } => [lgL lg d recs, dk d D.1]) (fun h s => ?_) fun ⟨D, hD, hd, ha⟩ => ?_
  · obtain ⟨D, s'⟩ := sep_open (sep_perm (List.Perm.swap _ _ _) s)
    exact ⟨D, sep_perm (List.Perm.swap _ _ _) s'⟩
  · have hro := hD.room
    refine Does.fold (walPut_does lg d recs.length ((sizeS recs : Nat) : Int) x bs D hD.ok (by rw [hD.ws]; simp) (by omega) (by have := hD.len; omega)) fun e H hp => ?_
    cases e with
    | returned v =>
      obtain ⟨h1, h2⟩ := hp
      rcases put_spec (bs := bs) hD hd hlen with ⟨h, _⟩ | ⟨_, D', e1, h3, h4, h5⟩ | ⟨h, _⟩
      · omega
      · rw [e1] at h1 h2
        refine ⟨[lgL lg d (recs ++ [bs]), dkL d (recs ++ [bs])], fun g s => ?_, h1, rfl⟩
        rw [h2] at s
        have s2 := sep_close (p := fun D : { D : DS // LogD D (recs ++ [bs]) ∧ D.dn = false ∧ D.ar = false } => [dk d D.1]) ⟨D', h3, h4, h5.trans ha⟩ (sep_perm (List.Perm.swap _ _ _) s)
        have s3 := sep_perm (List.Perm.swap _ _ _) s2
        show sep [lgP lg d (((recs ++ [bs]).length : Nat) : Int) ((sizeS (recs ++ [bs]) : Nat) : Int), dkL d (recs ++ [bs])] g
        rw [List.length_append]
        exact s3
      · rw [ha] at h; cases h
    | panicked c => exact hp.elim
    | outgrown => exact hp.elim

theorem put_does (r lg d : Nat) (x : RepT) (m : RecT) (recs : List (List UInt8)) (hlog : x.log = .pointer (some ⟨lg, 0, none⟩)) (hroom : sizeS recs + piecesN (encR m).length ≤ 2048) (hlen : (encR m).length ≤ 3000) :
    Does Tryz.prog 78 #[(.pointer (some ⟨r, 0, none⟩)), (.agg (ints m.flat).toArray)] (fun _ => True) [blkA r (RepT.cells x) 104, lgP lg d (((recs).length : Nat) : Int) ((sizeS (recs) : Nat) : Int), dkL d (recs)] (Ret (fun r' H => r' = .int .i64 0 ∧ H = [blkA r (RepT.cells x) 104, lgL lg d (recs ++ [encR m]), dkL d (recs ++ [encR m])])) := by
  refine Does.body (vs := [(.pointer (some ⟨r, 0, none⟩)), (.agg (ints m.flat).toArray)]) (n := 12) Tryz.func78 rfl rfl rfl (fun w0 F hF => ?_)
  refine TC.seq (fun K1 hK1 => ?_)
  refine TC.region ?_
  refine TL.box (Want.plain rfl) rfl rfl rfl rfl (fun b3 => ?_)
  change TL _ _ _ _ _ _ _ _ _ [blkA b3 (ints m.flat) 108, blkA r (RepT.cells x) 104, lgP lg d (((recs).length : Nat) : Int) ((sizeS (recs) : Nat) : Int), dkL d (recs)]
  refine tp rfl rfl rfl (PV.assign rfl rfl) ?_
  refine TL.nil ?_
  refine TE.next hK1 ?_
  clear hK1
  refine TC.seq (fun K2 hK2 => ?_)
  refine TC.draw (fun w => Frm F w ∧ w.heap[r]? = some (.cells (RepT.cells x).toArray 104 (0, 0)) ∧ w.heap[b3]? = some (.cells (ints m.flat).toArray 108 (0, 0)) ∧ True) mixed rfl (fun _ s => ⟨Frm.of s, s.block 1 (lb rfl) rfl, s.block 0 (lb rfl) rfl, trivial⟩) ?_
  refine TD.take (i := 0) rfl (by kernel_rfl) (by kernel_rfl) (by kernel_rfl) (fun _ _ _ _ h => h) (Want.plain rfl) rfl rfl (PV.move rfl rfl) ?_
  refine TD.take (i := 1) rfl (by kernel_rfl) (by kernel_rfl) (by kernel_rfl) (fun _ _ _ _ h => h) (Want.plain rfl) rfl rfl (PV.nilCheck rfl rfl) ?_
  refine TD.take (i := 2) rfl (by kernel_rfl) (by kernel_rfl) (by kernel_rfl) (fun _ _ _ _ h => h) (Want.plain rfl) rfl rfl (PV.fieldAddr (r := 1) rfl Tryz.underlying104 rfl sz96 rfl rfl) ?_
  refine TD.take (i := 3) rfl (by kernel_rfl) (by kernel_rfl) (by kernel_rfl) (fun _ _ _ _ h => h) (Want.plain rfl) rfl rfl (PV.load1 (v := (.pointer (some ⟨lg, 0, none⟩))) rfl Tryz.underlying96 rfl rfl (fun _ h => h.2.1) ((RepT.at_log x rfl).trans (congrArg some hlog))) ?_
  refine TD.take (i := 4) rfl (by kernel_rfl) (by kernel_rfl) (by kernel_rfl) (fun _ _ _ _ h => h) (Want.plain rfl) rfl rfl (PV.loadN (vs := ints m.flat) rfl Tryz.underlying108 rfl sz108 rfl (fun _ h => h.2.2.1) (RecT.len m) (whole (RecT.len m))) ?_
  refine TD.all [5] (by kernel_rfl) rfl ?_
  refine AllT.cons rfl ?_ ?_
  refine TL.callR (A := []) (B := [blkA b3 (ints m.flat) 108, blkA r (RepT.cells x) 104, lgP lg d (((recs).length : Nat) : Int) ((sizeS (recs) : Nat) : Int), dkL d (recs)]) (Want.plain rfl) rfl rfl rfl nm113 rfl (record_does m) (fun _ s => s) (fun _ _ _ => trivial) (fun vR HR hR => ?_)
  obtain ⟨_, rfl, rfl⟩ := hR
  revert vR
  intro ue
  change TL _ _ _ _ _ _ _ _ _ [ownB ue (encR m) 5, blkA b3 (ints m.flat) 108, blkA r (RepT.cells x) 104, lgP lg d (((recs).length : Nat) : Int) ((sizeS (recs) : Nat) : Int), dkL d (recs)]
  refine TL.nil ?_
  refine TE.draw (fun _ s => ⟨Frm.of s, s.block 2 (lb rfl) rfl, s.block 1 (lb rfl) rfl, trivial⟩) ?_
  refine TD.all [6] (by kernel_rfl) rfl ?_
  refine AllT.cons rfl ?_ ?_
  refine TL.callR (A := [lgP lg d (((recs).length : Nat) : Int) ((sizeS (recs) : Nat) : Int), dkL d (recs)]) (B := [ownB ue (encR m) 5, blkA b3 (ints m.flat) 108, blkA r (RepT.cells x) 104]) (Want.plain rfl) rfl rfl rfl nm112 rfl (logPut_does lg d ue (encR m) (recs) hroom hlen) (fun _ s => sep_selR [3, 3] rfl s) (fun g d s => IsB.w (isB_own 0 rfl rfl g d s)) (fun vR HR hR => ?_)
  obtain ⟨rfl, rfl⟩ := hR
  change TL _ _ _ _ _ _ _ _ _ [lgP lg d (((recs ++ [encR m]).length : Nat) : Int) ((sizeS (recs ++ [encR m]) : Nat) : Int), dkL d (recs ++ [encR m]), ownB ue (encR m) 5, blkA b3 (ints m.flat) 108, blkA r (RepT.cells x) 104]
  refine TL.nil ?_
  refine TE.draw (fun _ s => ⟨Frm.of s, s.block 4 (lb rfl) rfl, s.block 3 (lb rfl) rfl, trivial⟩) ?_
  refine TD.take (i := 7) rfl (by kernel_rfl) (by kernel_rfl) (by kernel_rfl) (fun _ _ _ _ h => h) (Want.plain rfl) rfl rfl (PV.assign rfl rfl) ?_
  refine TD.done (by kernel_rfl) ?_
  refine TE.next hK2 ?_
  clear hK2
  refine TC.ret ?_
  refine TE.weak (Sub.refl _) (fun _ s => sep_keep [4, 0, 0] rfl s) ?_
  refine TE.ret1 rfl rfl ?_
  exact ⟨rfl, rfl⟩
  exact AllT.nil
  exact AllT.nil
theorem reply_does (r : Nat) (x : RepT) (op err val : Int) (rs : List ReplyT) (hrs : rs.length ≤ 1000000) :
    Does Tryz.prog 41 #[(.pointer (some ⟨r, 0, none⟩)), (.int .i64 (op)), (.int .i64 (err)), (.int .i64 (val))] (fun _ => True) [blkA r (RepT.cells x) 104, own x.replies ((rs).length) (ints (List.flatMap ReplyT.flat (rs))) 92 3] (Ret (fun _ H => ∃ v', v'.oneCell' = true ∧ H = [blkA r (RepT.cells { x with replies := v' }) 104, own v' (rs ++ [ReplyT.mk op err val]).length (ints (List.flatMap ReplyT.flat (rs ++ [ReplyT.mk op err val]))) 92 3])) := by
  refine Does.body (vs := [(.pointer (some ⟨r, 0, none⟩)), (.int .i64 (op)), (.int .i64 (err)), (.int .i64 (val))]) (n := 21) Tryz.func41 rfl rfl rfl (fun w0 F hF => ?_)
  refine TC.region ?_
  refine tp rfl rfl rfl (PV.move rfl rfl) ?_
  refine tp rfl rfl rfl (PV.move rfl rfl) ?_
  refine tp rfl rfl rfl (PV.nilCheck rfl rfl) ?_
  refine tp rfl rfl rfl (PV.fieldAddr (r := 1942) rfl Tryz.underlying104 rfl sz55 rfl rfl) ?_
  refine tp rfl rfl rfl (PV.load1 (v := x.replies) rfl Tryz.underlying55 rfl rfl (Rd.own 0 rfl rfl) (RepT.at_replies x rfl)) ?_
  refine tp rfl rfl rfl (PV.move rfl rfl) ?_
  refine tp rfl rfl rfl (PV.move rfl rfl) ?_
  refine tp rfl rfl rfl (PV.move rfl rfl) ?_
  refine tp rfl rfl rfl (PV.buildSegs (cs := ints (ReplyT.mk op err val).flat) (segs := [[Value.int .i64 0], [Value.int .i64 0], [Value.int .i64 0]]) (res := [[Value.int .i64 op], [Value.int .i64 err], [Value.int .i64 val]]) (parts := [(0, [Value.int .i64 op]), (1, [Value.int .i64 err]), (2, [Value.int .i64 val])]) rfl rfl Tryz.underlying92 (by kernel_rfl) (by kernel_rfl) rfl (putSegs_step rfl ((rfl : [Value.int .i64 op].length = 1).trans (rfl : [Value.int .i64 0].length = 1).symm) (putSegs_step rfl ((rfl : [Value.int .i64 err].length = 1).trans (rfl : [Value.int .i64 0].length = 1).symm) (putSegs_step rfl ((rfl : [Value.int .i64 val].length = 1).trans (rfl : [Value.int .i64 0].length = 1).symm) putSegs_nil))) (ReplyT.eq (ReplyT.mk op err val)).symm) ?_
  refine TL.buildSlice (cells := (ints (ReplyT.mk op err val).flat).toArray) (Want.plain rfl) rfl rfl rfl Tryz.underlying55 in92 rfl rfl rfl (fill_at (ReplyT.len (ReplyT.mk op err val)) (by simp)) (fun b17 => ?_)
  change TL _ _ _ _ _ _ _ _ _ [blkA b17 (ints (ReplyT.mk op err val).flat) 92, blkA r (RepT.cells x) 104, own x.replies ((rs).length) (ints (List.flatMap ReplyT.flat (rs))) 92 3]
  refine TL.append (k := 2) (news := ints (ReplyT.mk op err val).flat) (nn' := (rs ++ [ReplyT.mk op err val]).length) (xs' := ints (List.flatMap ReplyT.flat (rs ++ [ReplyT.mk op err val]))) (Want.plain rfl) rfl rfl rfl Tryz.underlying55 in92 rfl rfl rfl rfl rfl rfl (fun _ _ => Src.rd (ReplyT.len _) (Rd.own 0 rfl rfl) (by rw [List.drop_zero, List.take_length])) (ints_one _) (by simp only [maxLen]; omega) (by omega) (by simp) (by simp [ints]) (fun v18 ov18 => ?_)
  change TL _ _ _ _ _ _ _ _ _ [blkA b17 (ints (ReplyT.mk op err val).flat) 92, blkA r (RepT.cells x) 104, own v18 ((rs ++ [ReplyT.mk op err val]).length) (ints (List.flatMap ReplyT.flat (rs ++ [ReplyT.mk op err val]))) 92 3]
  refine tp rfl rfl rfl (PV.nilCheck rfl rfl) ?_
  refine tp rfl rfl rfl (PV.fieldAddr (r := 1942) rfl Tryz.underlying104 rfl sz55 rfl rfl) ?_
  refine TL.store1 (i := 1) (H' := [blkA b17 (ints (ReplyT.mk op err val).flat) 92, blkA r (RepT.cells (RepT.mk x.id x.log x.view x.own x.mirror x.acc x.round x.vote x.book x.busy x.kept x.waits x.ops v18 x.told x.last)) 104, own v18 ((rs ++ [ReplyT.mk op err val]).length) (ints (List.flatMap ReplyT.flat (rs ++ [ReplyT.mk op err val]))) 92 3]) (Want.plain rfl) rfl rfl rfl rfl ov18 sz55 rfl rfl (by have h0 := (RepT.len x); omega) (RepT.set_replies x rfl _) rfl ?_
  refine TL.nil ?_
  refine TE.weak (Sub.refl _) (fun _ s => sep_keep [1, 1] rfl s) ?_
  refine TE.end0 rfl ?_
  exact ⟨_, ov18, rfl⟩
theorem rValue_does (r : Nat) (x : RepT) (key : Int) :
    Does Tryz.prog 16 #[(.pointer (some ⟨r, 0, none⟩)), (.int .i64 (key))] (fun _ => True) [blkA r (RepT.cells x) 104] (Ret (fun r' H => r' = .int .i64 (bookValue x.book key) ∧ H = [blkA r (RepT.cells x) 104])) := by
  refine Does.body (vs := [(.pointer (some ⟨r, 0, none⟩)), (.int .i64 (key))]) (n := 10) Tryz.func16 rfl rfl rfl (fun w0 F hF => ?_)
  refine TC.seq (fun K1 hK1 => ?_)
  refine TC.region ?_
  refine tp rfl rfl rfl (PV.assign rfl rfl) ?_
  refine TL.nil ?_
  refine TE.next hK1 ?_
  clear hK1
  refine TC.seq (fun K2 hK2 => ?_)
  refine TC.region ?_
  refine tp rfl rfl rfl (PV.move rfl rfl) ?_
  refine tp rfl rfl rfl (PV.nilCheck rfl rfl) ?_
  refine tp rfl rfl rfl (PV.fieldAddr (r := 1068) rfl Tryz.underlying104 rfl sz71 rfl rfl) ?_
  refine tp rfl rfl rfl (PV.move rfl rfl) ?_
  refine TL.callR (A := [blkA r (RepT.cells x) 104]) (B := []) (Want.plain rfl) rfl rfl rfl nm22 rfl (bookValue_does r 1068 104 (fun u => RepT.cells { x with book := u }) (RepT.arnd_book x) x.book key) (fun _ s => s) (fun _ _ _ => trivial) (fun vR HR hR => ?_)
  obtain ⟨rfl, rfl⟩ := hR
  change TL _ _ _ _ _ _ _ _ _ [blkA r (RepT.cells x) 104]
  refine tp rfl rfl rfl (PV.assign rfl rfl) ?_
  refine TL.nil ?_
  refine TE.next hK2 ?_
  clear hK2
  refine TC.ret ?_
  refine TE.weak (Sub.refl _) (fun _ s => sep_keep [0] rfl s) ?_
  refine TE.ret1 rfl rfl ?_
  exact ⟨rfl, rfl⟩
theorem rOwn_does (r : Nat) (x : RepT) :
    Does Tryz.prog 18 #[(.pointer (some ⟨r, 0, none⟩))] (fun _ => True) [blkA r (RepT.cells x) 104] (Ret (fun r' H => r' = .agg (ints x.own.flat).toArray ∧ H = [blkA r (RepT.cells x) 104])) := by
  refine Does.body (vs := [(.pointer (some ⟨r, 0, none⟩))]) (n := 7) Tryz.func18 rfl rfl rfl (fun w0 F hF => ?_)
  refine TC.seq (fun K1 hK1 => ?_)
  refine TC.region ?_
  refine TL.alloc (Want.plain rfl) rfl rfl rfl z48 (fun b2 => ?_)
  change TL _ _ _ _ _ _ _ _ _ [blkA b2 (ints RowT.zero.flat) 48, blkA r (RepT.cells x) 104]
  refine TL.nil ?_
  refine TE.next hK1 ?_
  clear hK1
  refine TC.seq (fun K2 hK2 => ?_)
  refine TC.region ?_
  refine tp rfl rfl rfl (PV.move rfl rfl) ?_
  refine tp rfl rfl rfl (PV.nilCheck rfl rfl) ?_
  refine tp rfl rfl rfl (PV.fieldAddr (r := 9) rfl Tryz.underlying104 rfl sz48 rfl rfl) ?_
  refine tp rfl rfl rfl (PV.loadN (vs := ints x.own.flat) rfl Tryz.underlying48 rfl sz48 rfl (Rd.own 1 rfl rfl) (RowT.len x.own) (RepT.sub_own x 0 rfl (by decide) (whole (RowT.len x.own)))) ?_
  refine TL.store (vs := ints x.own.flat) (i := 0) (H' := [blkA b2 (ints x.own.flat) 48, blkA r (RepT.cells x) 104]) (Want.plain rfl) rfl rfl rfl rfl rfl (by rw [(RowT.len x.own)]; exact sz48) (ints_one _) rfl rfl (by have h0 := (RowT.len RowT.zero); have h1 := (RowT.len x.own); omega) (wwhole ((RowT.len RowT.zero).trans (RowT.len x.own).symm)) rfl ?_
  refine TL.nil ?_
  refine TE.next hK2 ?_
  clear hK2
  refine TC.ret ?_
  refine TE.retC (H' := [blkA r (RepT.cells x) 104]) rfl rfl Tryz.underlying48 rfl sz48 (Rd.own 0 rfl rfl) (RowT.len x.own) (fun _ s => sep_keep [1] rfl s) ?_
  exact ⟨rfl, rfl⟩
theorem rBusy_does (r : Nat) (x : RepT) :
    Does Tryz.prog 14 #[(.pointer (some ⟨r, 0, none⟩))] (fun _ => True) [blkA r (RepT.cells x) 104] (Ret (fun r' H => r' = .bool x.busy ∧ H = [blkA r (RepT.cells x) 104])) := by
  refine Does.body (vs := [(.pointer (some ⟨r, 0, none⟩))]) (n := 7) Tryz.func14 rfl rfl rfl (fun w0 F hF => ?_)
  refine TC.seq (fun K1 hK1 => ?_)
  refine TC.region ?_
  refine tp rfl rfl rfl (PV.assign rfl rfl) ?_
  refine TL.nil ?_
  refine TE.next hK1 ?_
  clear hK1
  refine TC.seq (fun K2 hK2 => ?_)
  refine TC.region ?_
  refine tp rfl rfl rfl (PV.move rfl rfl) ?_
  refine tp rfl rfl rfl (PV.nilCheck rfl rfl) ?_
  refine tp rfl rfl rfl (PV.fieldAddr (r := 1938) rfl Tryz.underlying104 rfl sz4 rfl rfl) ?_
  refine tp rfl rfl rfl (PV.load1 (v := (.bool (x.busy))) rfl Tryz.underlying4 rfl rfl (Rd.own 0 rfl rfl) (RepT.at_busy x rfl)) ?_
  refine tp rfl rfl rfl (PV.assign rfl rfl) ?_
  refine TL.nil ?_
  refine TE.next hK2 ?_
  clear hK2
  refine TC.ret ?_
  refine TE.weak (Sub.refl _) (fun _ s => sep_keep [0] rfl s) ?_
  refine TE.ret1 rfl rfl ?_
  exact ⟨rfl, rfl⟩
end Go.Proofs.YtfceaphohlbnbaaGreat
end

section
namespace Go.Proofs.YtfceaphohlbnbaaGreat

open Go Leg Codec Api Dsk Wal

set_option linter.unusedSimpArgs false
set_option linter.unusedVariables false

set_option maxRecDepth 100000

set_option maxHeartbeats 8000000

theorem grow_does (r ob lg d : Nat) (x : RepT) (y : RowT) (op : Int) (recs : List (List UInt8)) (l : List SaidT) (hlog : x.log = .pointer (some ⟨lg, 0, none⟩)) (hroom : sizeS recs + piecesN (encR (rowRec y)).length ≤ 2048) (hl : l.length ≤ 900000) (hid : machB x.id = true) :
    Does Tryz.prog 42 #[(.pointer (some ⟨r, 0, none⟩)), (.iface 34 (.pointer (some ⟨ob, 0, none⟩))), (.agg (ints y.flat).toArray), (.int .i64 (op))] (fun _ => True) [blkA r (RepT.cells x) 104, lgP lg d (((recs).length : Nat) : Int) ((sizeS (recs) : Nat) : Int), dkL d (recs), outP ob (l)] (Ret (fun r' H => r' = .int .i64 0 ∧ H = [blkA r (RepT.cells (growF x y op)) 104, lgL lg d (recs ++ [encR (rowRec y)]), dkL d (recs ++ [encR (rowRec y)]), outP ob (l ++ tellL (growF x y op))])) := by
  refine Does.body (vs := [(.pointer (some ⟨r, 0, none⟩)), (.iface 34 (.pointer (some ⟨ob, 0, none⟩))), (.agg (ints y.flat).toArray), (.int .i64 (op))]) (n := 34) Tryz.func42 rfl rfl rfl (fun w0 F hF => ?_)
  refine TC.seq (fun K1 hK1 => ?_)
  refine TC.region ?_
  refine TL.box (Want.plain rfl) rfl rfl rfl rfl (fun b6 => ?_)
  change TL _ _ _ _ _ _ _ _ _ [blkA b6 (ints y.flat) 48, blkA r (RepT.cells x) 104, lgP lg d (((recs).length : Nat) : Int) ((sizeS (recs) : Nat) : Int), dkL d (recs), outP ob (l)]
  refine tp rfl rfl rfl (PV.assign rfl rfl) ?_
  refine TL.nil ?_
  refine TE.next hK1 ?_
  clear hK1
  refine TC.seq (fun K2 hK2 => ?_)
  refine TC.seq (fun K3 hK3 => ?_)
  refine TC.region ?_
  refine tp rfl rfl rfl (PV.move rfl rfl) ?_
  refine tp rfl rfl rfl (PV.loadN (vs := ints y.flat) rfl Tryz.underlying48 rfl sz48 rfl (Rd.own 0 rfl rfl) (RowT.len y) (whole (RowT.len y))) ?_
  refine tp rfl rfl rfl (PV.buildSegs (cs := ints (RecT.mk 0 0 y 0 BallotT.zero ChangeT.zero ViewT.zero).flat) (segs := [[Value.int .i64 0], [Value.int .i64 0], ints RowT.zero.flat, [Value.int .i64 0], ints BallotT.zero.flat, ints ChangeT.zero.flat, ints ViewT.zero.flat]) (res := [[Value.int .i64 0], [Value.int .i64 0], ints y.flat, [Value.int .i64 0], ints BallotT.zero.flat, ints ChangeT.zero.flat, ints ViewT.zero.flat]) (parts := [(0, [Value.int .i64 0]), (2, ints y.flat)]) rfl rfl Tryz.underlying108 (by kernel_rfl) (by kernel_rfl) rfl (putSegs_step rfl ((rfl : [Value.int .i64 0].length = 1).trans (rfl : [Value.int .i64 0].length = 1).symm) (putSegs_step rfl ((RowT.len y).trans (RowT.len RowT.zero).symm) putSegs_nil)) (RecT.eq (RecT.mk 0 0 y 0 BallotT.zero ChangeT.zero ViewT.zero)).symm) ?_
  refine TL.callR (A := [blkA r (RepT.cells x) 104, lgP lg d (((recs).length : Nat) : Int) ((sizeS (recs) : Nat) : Int), dkL d (recs)]) (B := [blkA b6 (ints y.flat) 48, outP ob (l)]) (Want.plain rfl) rfl rfl rfl nm78 rfl (put_does r lg d x (RecT.mk 0 0 y 0 BallotT.zero ChangeT.zero ViewT.zero) (recs) hlog hroom (Nat.le_trans (rowRec_len y) (by decide))) (fun _ s => sep_selR [1, 1, 1] rfl s) (fun _ _ _ => trivial) (fun vR HR hR => ?_)
  obtain ⟨rfl, rfl⟩ := hR
  change TL _ _ _ _ _ _ _ _ _ [blkA r (RepT.cells x) 104, lgP lg d (((recs ++ [encR (RecT.mk 0 0 y 0 BallotT.zero ChangeT.zero ViewT.zero)]).length : Nat) : Int) ((sizeS (recs ++ [encR (RecT.mk 0 0 y 0 BallotT.zero ChangeT.zero ViewT.zero)]) : Nat) : Int), dkL d (recs ++ [encR (RecT.mk 0 0 y 0 BallotT.zero ChangeT.zero ViewT.zero)]), blkA b6 (ints y.flat) 48, outP ob (l)]
  refine tp rfl rfl rfl (PV.assign rfl rfl) ?_
  refine TL.nil ?_
  refine TE.next hK3 ?_
  clear hK3
  refine TC.seq (fun K4 hK4 => ?_)
  refine TC.region ?_
  refine tp rfl rfl rfl (PV.move rfl rfl) ?_
  refine tp rfl rfl rfl (PV.neq rfl rfl rfl) ?_
  refine TL.nil ?_
  refine TE.next hK4 ?_
  clear hK4
  refine TC.no rfl ?_
  refine TC.skip ?_
  refine TE.next hK2 ?_
  clear hK2
  refine TC.seq (fun K5 hK5 => ?_)
  refine TC.region ?_
  refine tp rfl rfl rfl (PV.move rfl rfl) ?_
  refine tp rfl rfl rfl (PV.move rfl rfl) ?_
  refine tp rfl rfl rfl (PV.move rfl rfl) ?_
  refine tp rfl rfl rfl (PV.move rfl rfl) ?_
  refine tp rfl rfl rfl (PV.loadN (vs := ints y.flat) rfl Tryz.underlying48 rfl sz48 rfl (Rd.own 3 rfl rfl) (RowT.len y) (whole (RowT.len y))) ?_
  refine tp rfl rfl rfl (PV.move rfl rfl) ?_
  refine tp rfl rfl rfl (PV.nilCheck rfl rfl) ?_
  refine tp rfl rfl rfl (PV.fieldAddr (r := 9) rfl Tryz.underlying104 rfl sz48 rfl rfl) ?_
  refine TL.store (vs := ints y.flat) (i := 0) (H' := [blkA r (RepT.cells (RepT.mk x.id x.log x.view y x.mirror x.acc x.round x.vote x.book x.busy x.kept x.waits x.ops x.replies x.told x.last)) 104, lgP lg d (((recs ++ [encR (RecT.mk 0 0 y 0 BallotT.zero ChangeT.zero ViewT.zero)]).length : Nat) : Int) ((sizeS (recs ++ [encR (RecT.mk 0 0 y 0 BallotT.zero ChangeT.zero ViewT.zero)]) : Nat) : Int), dkL d (recs ++ [encR (RecT.mk 0 0 y 0 BallotT.zero ChangeT.zero ViewT.zero)]), blkA b6 (ints y.flat) 48, outP ob (l)]) (Want.plain rfl) rfl rfl rfl rfl rfl (by rw [(RowT.len y)]; exact sz48) (ints_one _) rfl rfl (by have h0 := (RepT.len x); have h1 := (RowT.len y); omega) (RepT.wr_own_ x 0 rfl (by have h1 := (RowT.len y); omega) (wwhole ((RowT.len x.own).trans (RowT.len y).symm))) rfl ?_
  refine tp rfl rfl rfl (PV.nilCheck rfl rfl) ?_
  refine tp rfl rfl rfl (PV.fieldAddr (r := 1938) rfl Tryz.underlying104 rfl sz4 rfl rfl) ?_
  refine TL.store1 (i := 0) (H' := [blkA r (RepT.cells (RepT.mk x.id x.log x.view y x.mirror x.acc x.round x.vote x.book true x.kept x.waits x.ops x.replies x.told x.last)) 104, lgP lg d (((recs ++ [encR (RecT.mk 0 0 y 0 BallotT.zero ChangeT.zero ViewT.zero)]).length : Nat) : Int) ((sizeS (recs ++ [encR (RecT.mk 0 0 y 0 BallotT.zero ChangeT.zero ViewT.zero)]) : Nat) : Int), dkL d (recs ++ [encR (RecT.mk 0 0 y 0 BallotT.zero ChangeT.zero ViewT.zero)]), blkA b6 (ints y.flat) 48, outP ob (l)]) (Want.plain rfl) rfl rfl rfl rfl rfl sz4 rfl rfl (by have h0 := (RepT.len (RepT.mk x.id x.log x.view y x.mirror x.acc x.round x.vote x.book x.busy x.kept x.waits x.ops x.replies x.told x.last)); omega) (RepT.set_busy (RepT.mk x.id x.log x.view y x.mirror x.acc x.round x.vote x.book x.busy x.kept x.waits x.ops x.replies x.told x.last) rfl _) rfl ?_
  refine tp rfl rfl rfl (PV.nilCheck rfl rfl) ?_
  refine tp rfl rfl rfl (PV.fieldAddr (r := 1939) rfl Tryz.underlying104 rfl sz3 rfl rfl) ?_
  refine TL.store1 (i := 0) (H' := [blkA r (RepT.cells (RepT.mk x.id x.log x.view y x.mirror x.acc x.round x.vote x.book true 0 x.waits x.ops x.replies x.told x.last)) 104, lgP lg d (((recs ++ [encR (RecT.mk 0 0 y 0 BallotT.zero ChangeT.zero ViewT.zero)]).length : Nat) : Int) ((sizeS (recs ++ [encR (RecT.mk 0 0 y 0 BallotT.zero ChangeT.zero ViewT.zero)]) : Nat) : Int), dkL d (recs ++ [encR (RecT.mk 0 0 y 0 BallotT.zero ChangeT.zero ViewT.zero)]), blkA b6 (ints y.flat) 48, outP ob (l)]) (Want.plain rfl) rfl rfl rfl rfl rfl sz3 rfl rfl (by have h0 := (RepT.len (RepT.mk x.id x.log x.view y x.mirror x.acc x.round x.vote x.book true x.kept x.waits x.ops x.replies x.told x.last)); omega) (RepT.set_kept (RepT.mk x.id x.log x.view y x.mirror x.acc x.round x.vote x.book true x.kept x.waits x.ops x.replies x.told x.last) rfl _) rfl ?_
  refine tp rfl rfl rfl (PV.nilCheck rfl rfl) ?_
  refine tp rfl rfl rfl (PV.fieldAddr (r := 1940) rfl Tryz.underlying104 rfl sz3 rfl rfl) ?_
  refine TL.store1 (i := 0) (H' := [blkA r (RepT.cells (RepT.mk x.id x.log x.view y x.mirror x.acc x.round x.vote x.book true 0 op x.ops x.replies x.told x.last)) 104, lgP lg d (((recs ++ [encR (RecT.mk 0 0 y 0 BallotT.zero ChangeT.zero ViewT.zero)]).length : Nat) : Int) ((sizeS (recs ++ [encR (RecT.mk 0 0 y 0 BallotT.zero ChangeT.zero ViewT.zero)]) : Nat) : Int), dkL d (recs ++ [encR (RecT.mk 0 0 y 0 BallotT.zero ChangeT.zero ViewT.zero)]), blkA b6 (ints y.flat) 48, outP ob (l)]) (Want.plain rfl) rfl rfl rfl rfl rfl sz3 rfl rfl (by have h0 := (RepT.len (RepT.mk x.id x.log x.view y x.mirror x.acc x.round x.vote x.book true 0 x.waits x.ops x.replies x.told x.last)); omega) (RepT.set_waits (RepT.mk x.id x.log x.view y x.mirror x.acc x.round x.vote x.book true 0 x.waits x.ops x.replies x.told x.last) rfl _) rfl ?_
  refine TL.nil ?_
  refine TE.next hK5 ?_
  clear hK5
  refine TC.seq (fun K6 hK6 => ?_)
  refine TC.region ?_
  refine tp rfl rfl rfl (PV.move rfl rfl) ?_
  refine tp rfl rfl rfl (PV.move rfl rfl) ?_
  refine TL.callR (A := [blkA r (RepT.cells (RepT.mk x.id x.log x.view y x.mirror x.acc x.round x.vote x.book true 0 op x.ops x.replies x.told x.last)) 104, outP ob (l)]) (B := [lgP lg d (((recs ++ [encR (RecT.mk 0 0 y 0 BallotT.zero ChangeT.zero ViewT.zero)]).length : Nat) : Int) ((sizeS (recs ++ [encR (RecT.mk 0 0 y 0 BallotT.zero ChangeT.zero ViewT.zero)]) : Nat) : Int), dkL d (recs ++ [encR (RecT.mk 0 0 y 0 BallotT.zero ChangeT.zero ViewT.zero)]), blkA b6 (ints y.flat) 48]) (Want.plain rfl) rfl rfl rfl nm58 rfl (tellRow_does r ob (RepT.mk x.id x.log x.view y x.mirror x.acc x.round x.vote x.book true 0 op x.ops x.replies x.told x.last) (l) hl hid) (fun _ s => sep_selR [0, 3] rfl s) (fun _ _ _ => trivial) (fun vR HR hR => ?_)
  obtain rfl := hR
  change TL _ _ _ _ _ _ _ _ _ [blkA r (RepT.cells (RepT.mk x.id x.log x.view y x.mirror x.acc x.round x.vote x.book true 0 op x.ops x.replies x.told x.last)) 104, outP ob (l ++ tellL (RepT.mk x.id x.log x.view y x.mirror x.acc x.round x.vote x.book true 0 op x.ops x.replies x.told x.last)), lgP lg d (((recs ++ [encR (RecT.mk 0 0 y 0 BallotT.zero ChangeT.zero ViewT.zero)]).length : Nat) : Int) ((sizeS (recs ++ [encR (RecT.mk 0 0 y 0 BallotT.zero ChangeT.zero ViewT.zero)]) : Nat) : Int), dkL d (recs ++ [encR (RecT.mk 0 0 y 0 BallotT.zero ChangeT.zero ViewT.zero)]), blkA b6 (ints y.flat) 48]
  refine TL.nil ?_
  refine TE.next hK6 ?_
  clear hK6
  refine TC.seq (fun K7 hK7 => ?_)
  refine TC.region ?_
  refine tp rfl rfl rfl (PV.assign rfl rfl) ?_
  refine TL.nil ?_
  refine TE.next hK7 ?_
  clear hK7
  refine TC.ret ?_
  refine TE.weak (Sub.refl _) (fun _ s => sep_keep [0, 1, 1, 0] rfl s) ?_
  refine TE.ret1 rfl rfl ?_
  exact ⟨rfl, rfl⟩
theorem plan_does (r : Nat) (x : RepT) (o : OpT) :
    Does Tryz.prog 40 #[(.pointer (some ⟨r, 0, none⟩)), (.agg (ints o.flat).toArray)] (fun _ => True) [blkA r (RepT.cells x) 104] (Ret (fun r' H => r' = .tuple #[.agg (ints (planF x o).1.flat).toArray, .int .i64 (planF x o).2.1, .int .i64 (planF x o).2.2] ∧ H = [blkA r (RepT.cells x) 104])) := by
  refine Does.body (vs := [(.pointer (some ⟨r, 0, none⟩)), (.agg (ints o.flat).toArray)]) (n := 121) Tryz.func40 rfl rfl rfl (fun w0 F hF => ?_)
  refine TC.seq (fun K1 hK1 => ?_)
  refine TC.region ?_
  refine TL.box (Want.plain rfl) rfl rfl rfl rfl (fun b3 => ?_)
  change TL _ _ _ _ _ _ _ _ _ [blkA b3 (ints o.flat) 38, blkA r (RepT.cells x) 104]
  refine TL.alloc (Want.plain rfl) rfl rfl rfl z48 (fun b4 => ?_)
  change TL _ _ _ _ _ _ _ _ _ [blkA b4 (ints RowT.zero.flat) 48, blkA b3 (ints o.flat) 38, blkA r (RepT.cells x) 104]
  refine tp rfl rfl rfl (PV.assign rfl rfl) ?_
  refine tp rfl rfl rfl (PV.assign rfl rfl) ?_
  refine TL.nil ?_
  refine TE.next hK1 ?_
  clear hK1
  refine TC.seq (fun K2 hK2 => ?_)
  refine TC.seq (fun K3 hK3 => ?_)
  refine TC.draw (fun w => Frm F w ∧ w.heap[r]? = some (.cells (RepT.cells x).toArray 104 (0, 0)) ∧ True) mixed rfl (fun _ s => ⟨Frm.of s, s.block 2 (lb rfl) rfl, trivial⟩) ?_
  refine TD.take (i := 0) rfl (by kernel_rfl) (by kernel_rfl) (by kernel_rfl) (fun _ _ _ _ h => h) (Want.plain rfl) rfl rfl (PV.move rfl rfl) ?_
  refine TD.take (i := 1) rfl (by kernel_rfl) (by kernel_rfl) (by kernel_rfl) (fun _ _ _ _ h => h) (Want.plain rfl) rfl rfl (PV.nilCheck rfl rfl) ?_
  refine TD.take (i := 2) rfl (by kernel_rfl) (by kernel_rfl) (by kernel_rfl) (fun _ _ _ _ h => h) (Want.plain rfl) rfl rfl (PV.fieldAddr (r := 2) rfl Tryz.underlying104 rfl sz52 rfl rfl) ?_
  refine TD.take (i := 3) rfl (by kernel_rfl) (by kernel_rfl) (by kernel_rfl) (fun _ _ _ _ h => h) (Want.plain rfl) rfl rfl (PV.loadN (vs := ints x.view.flat) rfl Tryz.underlying52 rfl sz52 rfl (fun _ h => h.2.1) (ViewT.len x.view) (RepT.sub_view x 0 rfl (by decide) (whole (ViewT.len x.view)))) ?_
  refine TD.take (i := 4) rfl (by kernel_rfl) (by kernel_rfl) (by kernel_rfl) (fun _ _ _ _ h => h) (Want.plain rfl) rfl rfl (PV.move rfl rfl) ?_
  refine TD.take (i := 5) rfl (by kernel_rfl) (by kernel_rfl) (by kernel_rfl) (fun _ _ _ _ h => h) (Want.plain rfl) rfl rfl (PV.nilCheck rfl rfl) ?_
  refine TD.take (i := 6) rfl (by kernel_rfl) (by kernel_rfl) (by kernel_rfl) (fun _ _ _ _ h => h) (Want.plain rfl) rfl rfl (PV.fieldAddr (r := 0) rfl Tryz.underlying104 rfl sz3 rfl rfl) ?_
  refine TD.take (i := 7) rfl (by kernel_rfl) (by kernel_rfl) (by kernel_rfl) (fun _ _ _ _ h => h) (Want.plain rfl) rfl rfl (PV.load1 (v := (.int .i64 (x.id))) rfl Tryz.underlying3 rfl rfl (fun _ h => h.2.1) (RepT.at_id x rfl)) ?_
  refine TD.all [8] (by kernel_rfl) rfl ?_
  refine AllT.cons rfl ?_ ?_
  refine TL.callR (A := []) (B := [blkA b4 (ints RowT.zero.flat) 48, blkA b3 (ints o.flat) 38, blkA r (RepT.cells x) 104]) (Want.plain rfl) rfl rfl rfl nm38 rfl (member_does x.view x.id) (fun _ s => s) (fun _ _ _ => trivial) (fun vR HR hR => ?_)
  obtain ⟨rfl, rfl⟩ := hR
  change TL _ _ _ _ _ _ _ _ _ [blkA b4 (ints RowT.zero.flat) 48, blkA b3 (ints o.flat) 38, blkA r (RepT.cells x) 104]
  refine TL.decB (fun h17 => ?_) (fun h17 => ?_)
  refine TL.nil ?_
  refine TE.draw (fun _ s => ⟨Frm.of s, s.block 2 (lb rfl) rfl, trivial⟩) ?_
  refine TD.take (i := 9) rfl (by kernel_rfl) (by kernel_rfl) (by kernel_rfl) (fun _ _ _ _ h => h) (Want.plain rfl) rfl rfl (PV.not (r := false) rfl rfl rfl) ?_
  refine TD.done (by kernel_rfl) ?_
  refine TE.next hK3 ?_
  clear hK3
  refine TC.no rfl ?_
  refine TC.skip ?_
  refine TE.next hK2 ?_
  clear hK2
  refine TC.seq (fun K4 hK4 => ?_)
  refine TC.seq (fun K5 hK5 => ?_)
  refine TC.region ?_
  refine tp rfl rfl rfl (PV.fieldAddr (r := 3) rfl Tryz.underlying38 rfl sz3 rfl rfl) ?_
  refine tp rfl rfl rfl (PV.load1 (v := (.int .i64 (o.key))) rfl Tryz.underlying3 rfl rfl (Rd.own 1 rfl rfl) (OpT.at_key o rfl)) ?_
  refine tp rfl rfl rfl (PV.lss rfl rfl rfl) ?_
  refine TL.dec (fun h22 => ?_) (fun h22 => ?_)
  have hkb : keyB o.key = false := decide_eq_false (by omega)
  refine tp rfl rfl rfl (PV.move rfl rfl) ?_
  refine TL.unmet (b := true) rfl rfl rfl rfl (lb rfl) ?_
  refine TL.unmet (b := true) rfl rfl rfl rfl (lb rfl) ?_
  refine TL.unmet (b := true) rfl rfl rfl rfl (lb rfl) ?_
  refine tp rfl rfl rfl (PV.pick rfl rfl rfl) ?_
  refine TL.nil ?_
  refine TE.next hK5 ?_
  clear hK5
  refine TC.yes rfl ?_
  refine TC.seq (fun K6 hK6 => ?_)
  refine TC.region ?_
  refine tp rfl rfl rfl (PV.build (cells := (ints RowT.zero.flat).toArray) rfl rfl (by as_aux_lemma => kernel_rfl)) ?_
  refine TL.store (vs := ints RowT.zero.flat) (i := 0) (H' := [blkA b4 (ints RowT.zero.flat) 48, blkA b3 (ints o.flat) 38, blkA r (RepT.cells x) 104]) (Want.plain rfl) rfl rfl rfl rfl rfl (by rw [(RowT.len RowT.zero)]; exact sz48) (ints_one _) rfl rfl (by have h0 := (RowT.len RowT.zero); have h1 := (RowT.len RowT.zero); omega) (wwhole ((RowT.len RowT.zero).trans (RowT.len RowT.zero).symm)) rfl ?_
  refine tp rfl rfl rfl (PV.assign rfl rfl) ?_
  refine tp rfl rfl rfl (PV.assign rfl rfl) ?_
  refine TL.nil ?_
  refine TE.next hK6 ?_
  clear hK6
  refine TC.ret ?_
  refine TE.passRet ?_
  clear hK4
  refine TE.retCTT (H' := [blkA r (RepT.cells x) 104]) rfl rfl rfl rfl Tryz.underlying48 rfl sz48 (Rd.own 0 rfl rfl) (RowT.len RowT.zero) (fun _ s => sep_keep [2] rfl s) ?_
  exact ⟨by simp [planF, growOf, *], rfl⟩
  refine tp rfl rfl rfl (PV.move rfl rfl) ?_
  refine tq rfl rfl rfl rfl rfl (PV.fieldAddr (r := 3) rfl Tryz.underlying38 rfl sz3 rfl rfl) ?_
  refine tq rfl rfl rfl rfl rfl (PV.load1 (v := (.int .i64 (o.key))) rfl Tryz.underlying3 rfl rfl (Rd.own 1 rfl rfl) (OpT.at_key o rfl)) ?_
  refine tq rfl rfl rfl rfl rfl (PV.geq rfl rfl rfl) ?_
  refine TL.dec (fun h26 => ?_) (fun h26 => ?_)
  have hkb : keyB o.key = false := decide_eq_false (by omega)
  refine tp rfl rfl rfl (PV.pick rfl rfl rfl) ?_
  refine TL.nil ?_
  refine TE.next hK5 ?_
  clear hK5
  refine TC.yes rfl ?_
  refine TC.seq (fun K7 hK7 => ?_)
  refine TC.region ?_
  refine tp rfl rfl rfl (PV.build (cells := (ints RowT.zero.flat).toArray) rfl rfl (by as_aux_lemma => kernel_rfl)) ?_
  refine TL.store (vs := ints RowT.zero.flat) (i := 0) (H' := [blkA b4 (ints RowT.zero.flat) 48, blkA b3 (ints o.flat) 38, blkA r (RepT.cells x) 104]) (Want.plain rfl) rfl rfl rfl rfl rfl (by rw [(RowT.len RowT.zero)]; exact sz48) (ints_one _) rfl rfl (by have h0 := (RowT.len RowT.zero); have h1 := (RowT.len RowT.zero); omega) (wwhole ((RowT.len RowT.zero).trans (RowT.len RowT.zero).symm)) rfl ?_
  refine tp rfl rfl rfl (PV.assign rfl rfl) ?_
  refine tp rfl rfl rfl (PV.assign rfl rfl) ?_
  refine TL.nil ?_
  refine TE.next hK7 ?_
  clear hK7
  refine TC.ret ?_
  refine TE.passRet ?_
  clear hK4
  refine TE.retCTT (H' := [blkA r (RepT.cells x) 104]) rfl rfl rfl rfl Tryz.underlying48 rfl sz48 (Rd.own 0 rfl rfl) (RowT.len RowT.zero) (fun _ s => sep_keep [2] rfl s) ?_
  exact ⟨by simp [planF, growOf, *], rfl⟩
  have hkb : keyB o.key = true := decide_eq_true (by omega)
  refine tp rfl rfl rfl (PV.pick rfl rfl rfl) ?_
  refine TL.nil ?_
  refine TE.next hK5 ?_
  clear hK5
  refine TC.no rfl ?_
  refine TC.skip ?_
  refine TE.next hK4 ?_
  clear hK4
  refine TC.seq (fun K8 hK8 => ?_)
  refine TC.seq (fun K9 hK9 => ?_)
  refine TC.region ?_
  refine tp rfl rfl rfl (PV.fieldAddr (r := 0) rfl Tryz.underlying38 rfl sz3 rfl rfl) ?_
  refine tp rfl rfl rfl (PV.load1 (v := (.int .i64 (o.kind))) rfl Tryz.underlying3 rfl rfl (Rd.own 1 rfl rfl) (OpT.at_kind o rfl)) ?_
  refine tp rfl rfl rfl (PV.eql rfl rfl rfl) ?_
  refine TL.dec (fun h31 => ?_) (fun h31 => ?_)
  refine TL.nil ?_
  refine TE.next hK9 ?_
  clear hK9
  refine TC.yes rfl ?_
  refine TC.seq (fun K10 hK10 => ?_)
  refine TC.draw (fun w => Frm F w ∧ w.heap[b3]? = some (.cells (ints o.flat).toArray 38 (0, 0)) ∧ True) mixed rfl (fun _ s => ⟨Frm.of s, s.block 1 (lb rfl) rfl, trivial⟩) ?_
  refine TD.take (i := 0) rfl (by kernel_rfl) (by kernel_rfl) (by kernel_rfl) (fun _ _ _ _ h => h) (Want.plain rfl) rfl rfl (PV.build (cells := (ints RowT.zero.flat).toArray) rfl rfl (by as_aux_lemma => kernel_rfl)) ?_
  refine TD.take (i := 1) rfl (by kernel_rfl) (by kernel_rfl) (by kernel_rfl) (fun _ _ _ _ h => h) (Want.plain rfl) rfl rfl (PV.move rfl rfl) ?_
  refine TD.take (i := 2) rfl (by kernel_rfl) (by kernel_rfl) (by kernel_rfl) (fun _ _ _ _ h => h) (Want.plain rfl) rfl rfl (PV.nilCheck rfl rfl) ?_
  refine TD.take (i := 3) rfl (by kernel_rfl) (by kernel_rfl) (by kernel_rfl) (fun _ _ _ _ h => h) (Want.plain rfl) rfl rfl (PV.fieldAddr (r := 1068) rfl Tryz.underlying104 rfl sz71 rfl rfl) ?_
  refine TD.take (i := 4) rfl (by kernel_rfl) (by kernel_rfl) (by kernel_rfl) (fun _ _ _ _ h => h) (Want.plain rfl) rfl rfl (PV.fieldAddr (r := 3) rfl Tryz.underlying38 rfl sz3 rfl rfl) ?_
  refine TD.take (i := 5) rfl (by kernel_rfl) (by kernel_rfl) (by kernel_rfl) (fun _ _ _ _ h => h) (Want.plain rfl) rfl rfl (PV.load1 (v := (.int .i64 (o.key))) rfl Tryz.underlying3 rfl rfl (fun _ h => h.2.1) (OpT.at_key o rfl)) ?_
  refine TD.all [6] (by kernel_rfl) rfl ?_
  refine AllT.cons rfl ?_ ?_
  refine TL.callR (A := [blkA r (RepT.cells x) 104]) (B := [blkA b4 (ints RowT.zero.flat) 48, blkA b3 (ints o.flat) 38]) (Want.plain rfl) rfl rfl rfl nm22 rfl (bookValue_does r 1068 104 (fun u => RepT.cells { x with book := u }) (RepT.arnd_book x) x.book o.key) (fun _ s => sep_selR [2] rfl s) (fun _ _ _ => trivial) (fun vR HR hR => ?_)
  obtain ⟨rfl, rfl⟩ := hR
  change TL _ _ _ _ _ _ _ _ _ [blkA r (RepT.cells x) 104, blkA b4 (ints RowT.zero.flat) 48, blkA b3 (ints o.flat) 38]
  refine TL.nil ?_
  refine TE.draw (fun _ s => ⟨Frm.of s, s.block 2 (lb rfl) rfl, trivial⟩) ?_
  refine TD.all [7] (by kernel_rfl) rfl ?_
  refine AllT.cons rfl ?_ ?_
  refine TL.store (vs := ints RowT.zero.flat) (i := 1) (H' := [blkA r (RepT.cells x) 104, blkA b4 (ints RowT.zero.flat) 48, blkA b3 (ints o.flat) 38]) (Want.plain rfl) rfl rfl rfl rfl rfl (by rw [(RowT.len RowT.zero)]; exact sz48) (ints_one _) rfl rfl (by have h0 := (RowT.len RowT.zero); have h1 := (RowT.len RowT.zero); omega) (wwhole ((RowT.len RowT.zero).trans (RowT.len RowT.zero).symm)) rfl ?_
  refine TL.nil ?_
  refine TE.draw (fun _ s => ⟨Frm.of s, s.block 2 (lb rfl) rfl, trivial⟩) ?_
  refine TD.take (i := 8) rfl (by kernel_rfl) (by kernel_rfl) (by kernel_rfl) (fun _ _ _ _ h => h) (Want.plain rfl) rfl rfl (PV.assign rfl rfl) ?_
  refine TD.take (i := 9) rfl (by kernel_rfl) (by kernel_rfl) (by kernel_rfl) (fun _ _ _ _ h => h) (Want.plain rfl) rfl rfl (PV.assign rfl rfl) ?_
  refine TD.done (by kernel_rfl) ?_
  refine TE.next hK10 ?_
  clear hK10
  refine TC.ret ?_
  refine TE.passRet ?_
  clear hK8
  refine TE.retCTT (H' := [blkA r (RepT.cells x) 104]) rfl rfl rfl rfl Tryz.underlying48 rfl sz48 (Rd.own 1 rfl rfl) (RowT.len RowT.zero) (fun _ s => sep_keep [0] rfl s) ?_
  exact ⟨by simp [planF, growOf, *], rfl⟩
  exact AllT.nil
  exact AllT.nil
  refine TL.nil ?_
  refine TE.next hK9 ?_
  clear hK9
  refine TC.no rfl ?_
  refine TC.skip ?_
  refine TE.next hK8 ?_
  clear hK8
  refine TC.seq (fun K11 hK11 => ?_)
  refine TC.seq (fun K12 hK12 => ?_)
  refine TC.region ?_
  refine tp rfl rfl rfl (PV.move rfl rfl) ?_
  refine tp rfl rfl rfl (PV.nilCheck rfl rfl) ?_
  refine tp rfl rfl rfl (PV.fieldAddr (r := 1938) rfl Tryz.underlying104 rfl sz4 rfl rfl) ?_
  refine tp rfl rfl rfl (PV.load1 (v := (.bool (x.busy))) rfl Tryz.underlying4 rfl rfl (Rd.own 2 rfl rfl) (RepT.at_busy x rfl)) ?_
  refine TL.decB (fun h42 => ?_) (fun h42 => ?_)
  refine TL.nil ?_
  refine TE.next hK12 ?_
  clear hK12
  refine TC.yes rfl ?_
  refine TC.seq (fun K13 hK13 => ?_)
  refine TC.region ?_
  refine tp rfl rfl rfl (PV.build (cells := (ints RowT.zero.flat).toArray) rfl rfl (by as_aux_lemma => kernel_rfl)) ?_
  refine TL.store (vs := ints RowT.zero.flat) (i := 0) (H' := [blkA b4 (ints RowT.zero.flat) 48, blkA b3 (ints o.flat) 38, blkA r (RepT.cells x) 104]) (Want.plain rfl) rfl rfl rfl rfl rfl (by rw [(RowT.len RowT.zero)]; exact sz48) (ints_one _) rfl rfl (by have h0 := (RowT.len RowT.zero); have h1 := (RowT.len RowT.zero); omega) (wwhole ((RowT.len RowT.zero).trans (RowT.len RowT.zero).symm)) rfl ?_
  refine tp rfl rfl rfl (PV.assign rfl rfl) ?_
  refine tp rfl rfl rfl (PV.assign rfl rfl) ?_
  refine TL.nil ?_
  refine TE.next hK13 ?_
  clear hK13
  refine TC.ret ?_
  refine TE.passRet ?_
  clear hK11
  refine TE.retCTT (H' := [blkA r (RepT.cells x) 104]) rfl rfl rfl rfl Tryz.underlying48 rfl sz48 (Rd.own 0 rfl rfl) (RowT.len RowT.zero) (fun _ s => sep_keep [2] rfl s) ?_
  exact ⟨by simp [planF, growOf, *], rfl⟩
  refine TL.nil ?_
  refine TE.next hK12 ?_
  clear hK12
  refine TC.no rfl ?_
  refine TC.skip ?_
  refine TE.next hK11 ?_
  clear hK11
  refine TC.seq (fun K14 hK14 => ?_)
  refine TC.region ?_
  refine TL.alloc (Want.plain rfl) rfl rfl rfl z48 (fun b7 => ?_)
  change TL _ _ _ _ _ _ _ _ _ [blkA b7 (ints RowT.zero.flat) 48, blkA b4 (ints RowT.zero.flat) 48, blkA b3 (ints o.flat) 38, blkA r (RepT.cells x) 104]
  refine TL.nil ?_
  refine TE.next hK14 ?_
  clear hK14
  refine TC.seq (fun K15 hK15 => ?_)
  refine TC.region ?_
  refine tp rfl rfl rfl (PV.assign rfl rfl) ?_
  refine TL.nil ?_
  refine TE.next hK15 ?_
  clear hK15
  refine TC.seq (fun K16 hK16 => ?_)
  refine TC.seq (fun K17 hK17 => ?_)
  refine TC.region ?_
  refine tp rfl rfl rfl (PV.fieldAddr (r := 0) rfl Tryz.underlying38 rfl sz3 rfl rfl) ?_
  refine tp rfl rfl rfl (PV.load1 (v := (.int .i64 (o.kind))) rfl Tryz.underlying3 rfl rfl (Rd.own 2 rfl rfl) (OpT.at_kind o rfl)) ?_
  refine TL.nil ?_
  refine TE.next hK17 ?_
  clear hK17
  refine TC.block ?_
  refine TC.seq (fun K18 hK18 => ?_)
  refine TC.region ?_
  refine tp rfl rfl rfl (PV.eql rfl rfl rfl) ?_
  refine TL.dec (fun h47 => ?_) (fun h47 => ?_)
  refine tp rfl rfl rfl (PV.assign rfl rfl) ?_
  refine TL.nil ?_
  refine TE.next hK18 ?_
  clear hK18
  refine TC.yes rfl ?_
  refine TC.draw (fun w => Frm F w ∧ w.heap[r]? = some (.cells (RepT.cells x).toArray 104 (0, 0)) ∧ w.heap[b3]? = some (.cells (ints o.flat).toArray 38 (0, 0)) ∧ True) mixed rfl (fun _ s => ⟨Frm.of s, s.block 3 (lb rfl) rfl, s.block 2 (lb rfl) rfl, trivial⟩) ?_
  refine TD.take (i := 0) rfl (by kernel_rfl) (by kernel_rfl) (by kernel_rfl) (fun _ _ _ _ h => h) (Want.plain rfl) rfl rfl (PV.move rfl rfl) ?_
  refine TD.take (i := 1) rfl (by kernel_rfl) (by kernel_rfl) (by kernel_rfl) (fun _ _ _ _ h => h) (Want.plain rfl) rfl rfl (PV.nilCheck rfl rfl) ?_
  refine TD.take (i := 2) rfl (by kernel_rfl) (by kernel_rfl) (by kernel_rfl) (fun _ _ _ _ h => h) (Want.plain rfl) rfl rfl (PV.fieldAddr (r := 9) rfl Tryz.underlying104 rfl sz48 rfl rfl) ?_
  refine TD.take (i := 3) rfl (by kernel_rfl) (by kernel_rfl) (by kernel_rfl) (fun _ _ _ _ h => h) (Want.plain rfl) rfl rfl (PV.loadN (vs := ints x.own.flat) rfl Tryz.underlying48 rfl sz48 rfl (fun _ h => h.2.1) (RowT.len x.own) (RepT.sub_own x 0 rfl (by decide) (whole (RowT.len x.own)))) ?_
  refine TD.take (i := 4) rfl (by kernel_rfl) (by kernel_rfl) (by kernel_rfl) (fun _ _ _ _ h => h) (Want.plain rfl) rfl rfl (PV.fieldAddr (r := 3) rfl Tryz.underlying38 rfl sz3 rfl rfl) ?_
  refine TD.take (i := 5) rfl (by kernel_rfl) (by kernel_rfl) (by kernel_rfl) (fun _ _ _ _ h => h) (Want.plain rfl) rfl rfl (PV.load1 (v := (.int .i64 (o.key))) rfl Tryz.underlying3 rfl rfl (fun _ h => h.2.2.1) (OpT.at_key o rfl)) ?_
  refine TD.take (i := 6) rfl (by kernel_rfl) (by kernel_rfl) (by kernel_rfl) (fun _ _ _ _ h => h) (Want.plain rfl) rfl rfl (PV.fieldAddr (r := 4) rfl Tryz.underlying38 rfl sz3 rfl rfl) ?_
  refine TD.take (i := 7) rfl (by kernel_rfl) (by kernel_rfl) (by kernel_rfl) (fun _ _ _ _ h => h) (Want.plain rfl) rfl rfl (PV.load1 (v := (.int .i64 (o.n))) rfl Tryz.underlying3 rfl rfl (fun _ h => h.2.2.1) (OpT.at_n o rfl)) ?_
  refine TD.all [8] (by kernel_rfl) rfl ?_
  refine AllT.cons rfl ?_ ?_
  refine TL.callR (A := []) (B := [blkA b7 (ints RowT.zero.flat) 48, blkA b4 (ints RowT.zero.flat) 48, blkA b3 (ints o.flat) 38, blkA r (RepT.cells x) 104]) (Want.plain rfl) rfl rfl rfl nm75 rfl (rowInc_does x.own o.key o.n) (fun _ s => s) (fun _ _ _ => trivial) (fun vR HR hR => ?_)
  obtain ⟨rfl, rfl⟩ := hR
  change TL _ _ _ _ _ _ _ _ _ [blkA b7 (ints RowT.zero.flat) 48, blkA b4 (ints RowT.zero.flat) 48, blkA b3 (ints o.flat) 38, blkA r (RepT.cells x) 104]
  refine TL.nil ?_
  refine TE.draw (fun _ s => ⟨Frm.of s, s.block 3 (lb rfl) rfl, s.block 2 (lb rfl) rfl, trivial⟩) ?_
  refine TD.take (i := 9) rfl (by kernel_rfl) (by kernel_rfl) (by kernel_rfl) (fun _ _ _ _ h => h) (Want.plain rfl) rfl rfl (PV.move rfl rfl) ?_
  refine TD.take (i := 10) rfl (by kernel_rfl) (by kernel_rfl) (by kernel_rfl) (fun _ _ _ _ h => h) (Want.plain rfl) rfl rfl (PV.extract (vs := [(.agg (ints ((rowInc x.own o.key o.n).1).flat).toArray), (.int .i64 ((rowInc x.own o.key o.n).2))]) rfl rfl rfl) ?_
  refine TD.take (i := 11) rfl (by kernel_rfl) (by kernel_rfl) (by kernel_rfl) (fun _ _ _ _ h => h) (Want.plain rfl) rfl rfl (PV.extract (vs := [(.agg (ints ((rowInc x.own o.key o.n).1).flat).toArray), (.int .i64 ((rowInc x.own o.key o.n).2))]) rfl rfl rfl) ?_
  refine TD.all [12] (by kernel_rfl) rfl ?_
  refine AllT.cons rfl ?_ ?_
  refine TL.store (vs := ints ((rowInc x.own o.key o.n).1).flat) (i := 0) (H' := [blkA b7 (ints ((rowInc x.own o.key o.n).1).flat) 48, blkA b4 (ints RowT.zero.flat) 48, blkA b3 (ints o.flat) 38, blkA r (RepT.cells x) 104]) (Want.plain rfl) rfl rfl rfl rfl rfl (by rw [(RowT.len ((rowInc x.own o.key o.n).1))]; exact sz48) (ints_one _) rfl rfl (by have h0 := (RowT.len RowT.zero); have h1 := (RowT.len ((rowInc x.own o.key o.n).1)); omega) (wwhole ((RowT.len RowT.zero).trans (RowT.len ((rowInc x.own o.key o.n).1)).symm)) rfl ?_
  refine TL.nil ?_
  refine TE.draw (fun _ s => ⟨Frm.of s, s.block 3 (lb rfl) rfl, s.block 2 (lb rfl) rfl, trivial⟩) ?_
  refine TD.take (i := 13) rfl (by kernel_rfl) (by kernel_rfl) (by kernel_rfl) (fun _ _ _ _ h => h) (Want.plain rfl) rfl rfl (PV.assign rfl rfl) ?_
  refine TD.done (by kernel_rfl) ?_
  refine TE.blockEnd ?_
  refine TE.next hK16 ?_
  clear hK16
  refine TC.seq (fun K19 hK19 => ?_)
  refine TC.seq (fun K20 hK20 => ?_)
  refine TC.region ?_
  refine tp rfl rfl rfl (PV.move rfl rfl) ?_
  refine tp rfl rfl rfl (PV.neq rfl rfl rfl) ?_
  refine TL.dec (fun h98 => ?_) (fun h98 => ?_)
  refine TL.nil ?_
  refine TE.next hK20 ?_
  clear hK20
  refine TC.yes rfl ?_
  refine TC.seq (fun K21 hK21 => ?_)
  refine TC.region ?_
  refine tp rfl rfl rfl (PV.build (cells := (ints RowT.zero.flat).toArray) rfl rfl (by as_aux_lemma => kernel_rfl)) ?_
  refine tp rfl rfl rfl (PV.move rfl rfl) ?_
  refine TL.store (vs := ints RowT.zero.flat) (i := 1) (H' := [blkA b7 (ints ((rowInc x.own o.key o.n).1).flat) 48, blkA b4 (ints RowT.zero.flat) 48, blkA b3 (ints o.flat) 38, blkA r (RepT.cells x) 104]) (Want.plain rfl) rfl rfl rfl rfl rfl (by rw [(RowT.len RowT.zero)]; exact sz48) (ints_one _) rfl rfl (by have h0 := (RowT.len RowT.zero); have h1 := (RowT.len RowT.zero); omega) (wwhole ((RowT.len RowT.zero).trans (RowT.len RowT.zero).symm)) rfl ?_
  refine tp rfl rfl rfl (PV.assign rfl rfl) ?_
  refine tp rfl rfl rfl (PV.assign rfl rfl) ?_
  refine TL.nil ?_
  refine TE.next hK21 ?_
  clear hK21
  refine TC.ret ?_
  refine TE.passRet ?_
  clear hK19
  refine TE.retCTT (H' := [blkA r (RepT.cells x) 104]) rfl rfl rfl rfl Tryz.underlying48 rfl sz48 (Rd.own 1 rfl rfl) (RowT.len RowT.zero) (fun _ s => sep_keep [3] rfl s) ?_
  exact ⟨by simp [planF, growOf, *], rfl⟩
  refine TL.nil ?_
  refine TE.next hK20 ?_
  clear hK20
  refine TC.no rfl ?_
  refine TC.skip ?_
  refine TE.next hK19 ?_
  clear hK19
  refine TC.seq (fun K22 hK22 => ?_)
  refine TC.seq (fun K23 hK23 => ?_)
  refine TC.draw (fun w => Frm F w ∧ w.heap[b3]? = some (.cells (ints o.flat).toArray 38 (0, 0)) ∧ w.heap[r]? = some (.cells (RepT.cells x).toArray 104 (0, 0)) ∧ True) mixed rfl (fun _ s => ⟨Frm.of s, s.block 2 (lb rfl) rfl, s.block 3 (lb rfl) rfl, trivial⟩) ?_
  refine TD.take (i := 0) rfl (by kernel_rfl) (by kernel_rfl) (by kernel_rfl) (fun _ _ _ _ h => h) (Want.plain rfl) rfl rfl (PV.fieldAddr (r := 0) rfl Tryz.underlying38 rfl sz3 rfl rfl) ?_
  refine TD.take (i := 1) rfl (by kernel_rfl) (by kernel_rfl) (by kernel_rfl) (fun _ _ _ _ h => h) (Want.plain rfl) rfl rfl (PV.load1 (v := (.int .i64 (o.kind))) rfl Tryz.underlying3 rfl rfl (fun _ h => h.2.1) (OpT.at_kind o rfl)) ?_
  refine TD.take (i := 2) rfl (by kernel_rfl) (by kernel_rfl) (by kernel_rfl) (fun _ _ _ _ h => h) (Want.plain rfl) rfl rfl (PV.neq rfl rfl rfl) ?_
  refine TD.dec (fun h103 => ?_) (fun h103 => ?_)
  · exact absurd h47 h103
  refine TD.take (i := 3) rfl (by kernel_rfl) (by kernel_rfl) (by kernel_rfl) (fun _ _ _ _ h => h) (Want.plain rfl) rfl rfl (PV.move rfl rfl) ?_
  refine TD.takeNot (i := 4) (b := false) rfl (by kernel_rfl) (by kernel_rfl) (by kernel_rfl) (fun _ _ _ _ h => h) rfl rfl rfl rfl rfl ?_
  refine TD.takeNot (i := 5) (b := false) rfl (by kernel_rfl) (by kernel_rfl) (by kernel_rfl) (fun _ _ _ _ h => h) rfl rfl rfl rfl rfl ?_
  refine TD.takeNot (i := 6) (b := false) rfl (by kernel_rfl) (by kernel_rfl) (by kernel_rfl) (fun _ _ _ _ h => h) rfl rfl rfl rfl rfl ?_
  refine TD.takeNot (i := 7) (b := false) rfl (by kernel_rfl) (by kernel_rfl) (by kernel_rfl) (fun _ _ _ _ h => h) rfl rfl rfl rfl rfl ?_
  refine TD.takeNot (i := 8) (b := false) rfl (by kernel_rfl) (by kernel_rfl) (by kernel_rfl) (fun _ _ _ _ h => h) rfl rfl rfl rfl rfl ?_
  refine TD.takeNot (i := 9) (b := false) rfl (by kernel_rfl) (by kernel_rfl) (by kernel_rfl) (fun _ _ _ _ h => h) rfl rfl rfl rfl rfl ?_
  refine TD.takeNot (i := 10) (b := false) rfl (by kernel_rfl) (by kernel_rfl) (by kernel_rfl) (fun _ _ _ _ h => h) rfl rfl rfl rfl rfl ?_
  refine TD.takeNot (i := 11) (b := false) rfl (by kernel_rfl) (by kernel_rfl) (by kernel_rfl) (fun _ _ _ _ h => h) rfl rfl rfl rfl rfl ?_
  refine TD.takeNot (i := 12) (b := false) rfl (by kernel_rfl) (by kernel_rfl) (by kernel_rfl) (fun _ _ _ _ h => h) rfl rfl rfl rfl rfl ?_
  refine TD.takeNot (i := 13) (b := false) rfl (by kernel_rfl) (by kernel_rfl) (by kernel_rfl) (fun _ _ _ _ h => h) rfl rfl rfl rfl rfl ?_
  refine TD.takeNot (i := 14) (b := false) rfl (by kernel_rfl) (by kernel_rfl) (by kernel_rfl) (fun _ _ _ _ h => h) rfl rfl rfl rfl rfl ?_
  refine TD.takeNot (i := 15) (b := false) rfl (by kernel_rfl) (by kernel_rfl) (by kernel_rfl) (fun _ _ _ _ h => h) rfl rfl rfl rfl rfl ?_
  refine TD.takeNot (i := 16) (b := false) rfl (by kernel_rfl) (by kernel_rfl) (by kernel_rfl) (fun _ _ _ _ h => h) rfl rfl rfl rfl rfl ?_
  refine TD.take (i := 17) rfl (by kernel_rfl) (by kernel_rfl) (by kernel_rfl) (fun _ _ _ _ h => h) (Want.plain rfl) rfl rfl (PV.pick rfl rfl rfl) ?_
  refine TD.done (by kernel_rfl) ?_
  refine TE.next hK23 ?_
  clear hK23
  refine TC.no rfl ?_
  refine TC.skip ?_
  refine TE.next hK22 ?_
  clear hK22
  refine TC.seq (fun K24 hK24 => ?_)
  refine TC.region ?_
  refine tp rfl rfl rfl (PV.loadN (vs := ints ((rowInc x.own o.key o.n).1).flat) rfl Tryz.underlying48 rfl sz48 rfl (Rd.own 0 rfl rfl) (RowT.len ((rowInc x.own o.key o.n).1)) (whole (RowT.len ((rowInc x.own o.key o.n).1)))) ?_
  refine TL.store (vs := ints ((rowInc x.own o.key o.n).1).flat) (i := 1) (H' := [blkA b7 (ints ((rowInc x.own o.key o.n).1).flat) 48, blkA b4 (ints ((rowInc x.own o.key o.n).1).flat) 48, blkA b3 (ints o.flat) 38, blkA r (RepT.cells x) 104]) (Want.plain rfl) rfl rfl rfl rfl rfl (by rw [(RowT.len ((rowInc x.own o.key o.n).1))]; exact sz48) (ints_one _) rfl rfl (by have h0 := (RowT.len RowT.zero); have h1 := (RowT.len ((rowInc x.own o.key o.n).1)); omega) (wwhole ((RowT.len RowT.zero).trans (RowT.len ((rowInc x.own o.key o.n).1)).symm)) rfl ?_
  refine tp rfl rfl rfl (PV.assign rfl rfl) ?_
  refine tp rfl rfl rfl (PV.assign rfl rfl) ?_
  refine TL.nil ?_
  refine TE.next hK24 ?_
  clear hK24
  refine TC.ret ?_
  refine TE.retCTT (H' := [blkA r (RepT.cells x) 104]) rfl rfl rfl rfl Tryz.underlying48 rfl sz48 (Rd.own 1 rfl rfl) (RowT.len ((rowInc x.own o.key o.n).1)) (fun _ s => sep_keep [3] rfl s) ?_
  exact ⟨by simp [planF, growOf, *], rfl⟩
  exact AllT.nil
  exact AllT.nil
  refine tp rfl rfl rfl (PV.assign rfl rfl) ?_
  refine TL.nil ?_
  refine TE.next hK18 ?_
  clear hK18
  refine TC.no rfl ?_
  refine TC.seq (fun K25 hK25 => ?_)
  refine TC.region ?_
  refine tp rfl rfl rfl (PV.eql rfl rfl rfl) ?_
  refine TL.dec (fun h61 => ?_) (fun h61 => ?_)
  refine tp rfl rfl rfl (PV.assign rfl rfl) ?_
  refine TL.nil ?_
  refine TE.next hK25 ?_
  clear hK25
  refine TC.yes rfl ?_
  refine TC.draw (fun w => Frm F w ∧ w.heap[r]? = some (.cells (RepT.cells x).toArray 104 (0, 0)) ∧ w.heap[b3]? = some (.cells (ints o.flat).toArray 38 (0, 0)) ∧ True) mixed rfl (fun _ s => ⟨Frm.of s, s.block 3 (lb rfl) rfl, s.block 2 (lb rfl) rfl, trivial⟩) ?_
  refine TD.take (i := 0) rfl (by kernel_rfl) (by kernel_rfl) (by kernel_rfl) (fun _ _ _ _ h => h) (Want.plain rfl) rfl rfl (PV.move rfl rfl) ?_
  refine TD.take (i := 1) rfl (by kernel_rfl) (by kernel_rfl) (by kernel_rfl) (fun _ _ _ _ h => h) (Want.plain rfl) rfl rfl (PV.nilCheck rfl rfl) ?_
  refine TD.take (i := 2) rfl (by kernel_rfl) (by kernel_rfl) (by kernel_rfl) (fun _ _ _ _ h => h) (Want.plain rfl) rfl rfl (PV.fieldAddr (r := 9) rfl Tryz.underlying104 rfl sz48 rfl rfl) ?_
  refine TD.take (i := 3) rfl (by kernel_rfl) (by kernel_rfl) (by kernel_rfl) (fun _ _ _ _ h => h) (Want.plain rfl) rfl rfl (PV.loadN (vs := ints x.own.flat) rfl Tryz.underlying48 rfl sz48 rfl (fun _ h => h.2.1) (RowT.len x.own) (RepT.sub_own x 0 rfl (by decide) (whole (RowT.len x.own)))) ?_
  refine TD.take (i := 4) rfl (by kernel_rfl) (by kernel_rfl) (by kernel_rfl) (fun _ _ _ _ h => h) (Want.plain rfl) rfl rfl (PV.fieldAddr (r := 3) rfl Tryz.underlying38 rfl sz3 rfl rfl) ?_
  refine TD.take (i := 5) rfl (by kernel_rfl) (by kernel_rfl) (by kernel_rfl) (fun _ _ _ _ h => h) (Want.plain rfl) rfl rfl (PV.load1 (v := (.int .i64 (o.key))) rfl Tryz.underlying3 rfl rfl (fun _ h => h.2.2.1) (OpT.at_key o rfl)) ?_
  refine TD.take (i := 6) rfl (by kernel_rfl) (by kernel_rfl) (by kernel_rfl) (fun _ _ _ _ h => h) (Want.plain rfl) rfl rfl (PV.fieldAddr (r := 4) rfl Tryz.underlying38 rfl sz3 rfl rfl) ?_
  refine TD.take (i := 7) rfl (by kernel_rfl) (by kernel_rfl) (by kernel_rfl) (fun _ _ _ _ h => h) (Want.plain rfl) rfl rfl (PV.load1 (v := (.int .i64 (o.n))) rfl Tryz.underlying3 rfl rfl (fun _ h => h.2.2.1) (OpT.at_n o rfl)) ?_
  refine TD.all [8] (by kernel_rfl) rfl ?_
  refine AllT.cons rfl ?_ ?_
  refine TL.callR (A := []) (B := [blkA b7 (ints RowT.zero.flat) 48, blkA b4 (ints RowT.zero.flat) 48, blkA b3 (ints o.flat) 38, blkA r (RepT.cells x) 104]) (Want.plain rfl) rfl rfl rfl nm76 rfl (rowDec_does x.own o.key o.n) (fun _ s => s) (fun _ _ _ => trivial) (fun vR HR hR => ?_)
  obtain ⟨rfl, rfl⟩ := hR
  change TL _ _ _ _ _ _ _ _ _ [blkA b7 (ints RowT.zero.flat) 48, blkA b4 (ints RowT.zero.flat) 48, blkA b3 (ints o.flat) 38, blkA r (RepT.cells x) 104]
  refine TL.nil ?_
  refine TE.draw (fun _ s => ⟨Frm.of s, s.block 3 (lb rfl) rfl, s.block 2 (lb rfl) rfl, trivial⟩) ?_
  refine TD.take (i := 9) rfl (by kernel_rfl) (by kernel_rfl) (by kernel_rfl) (fun _ _ _ _ h => h) (Want.plain rfl) rfl rfl (PV.move rfl rfl) ?_
  refine TD.take (i := 10) rfl (by kernel_rfl) (by kernel_rfl) (by kernel_rfl) (fun _ _ _ _ h => h) (Want.plain rfl) rfl rfl (PV.extract (vs := [(.agg (ints ((rowDec x.own o.key o.n).1).flat).toArray), (.int .i64 ((rowDec x.own o.key o.n).2))]) rfl rfl rfl) ?_
  refine TD.take (i := 11) rfl (by kernel_rfl) (by kernel_rfl) (by kernel_rfl) (fun _ _ _ _ h => h) (Want.plain rfl) rfl rfl (PV.extract (vs := [(.agg (ints ((rowDec x.own o.key o.n).1).flat).toArray), (.int .i64 ((rowDec x.own o.key o.n).2))]) rfl rfl rfl) ?_
  refine TD.all [12] (by kernel_rfl) rfl ?_
  refine AllT.cons rfl ?_ ?_
  refine TL.store (vs := ints ((rowDec x.own o.key o.n).1).flat) (i := 0) (H' := [blkA b7 (ints ((rowDec x.own o.key o.n).1).flat) 48, blkA b4 (ints RowT.zero.flat) 48, blkA b3 (ints o.flat) 38, blkA r (RepT.cells x) 104]) (Want.plain rfl) rfl rfl rfl rfl rfl (by rw [(RowT.len ((rowDec x.own o.key o.n).1))]; exact sz48) (ints_one _) rfl rfl (by have h0 := (RowT.len RowT.zero); have h1 := (RowT.len ((rowDec x.own o.key o.n).1)); omega) (wwhole ((RowT.len RowT.zero).trans (RowT.len ((rowDec x.own o.key o.n).1)).symm)) rfl ?_
  refine TL.nil ?_
  refine TE.draw (fun _ s => ⟨Frm.of s, s.block 3 (lb rfl) rfl, s.block 2 (lb rfl) rfl, trivial⟩) ?_
  refine TD.take (i := 13) rfl (by kernel_rfl) (by kernel_rfl) (by kernel_rfl) (fun _ _ _ _ h => h) (Want.plain rfl) rfl rfl (PV.assign rfl rfl) ?_
  refine TD.done (by kernel_rfl) ?_
  refine TE.blockEnd ?_
  refine TE.next hK16 ?_
  clear hK16
  refine TC.seq (fun K26 hK26 => ?_)
  refine TC.seq (fun K27 hK27 => ?_)
  refine TC.region ?_
  refine tp rfl rfl rfl (PV.move rfl rfl) ?_
  refine tp rfl rfl rfl (PV.neq rfl rfl rfl) ?_
  refine TL.dec (fun h98 => ?_) (fun h98 => ?_)
  refine TL.nil ?_
  refine TE.next hK27 ?_
  clear hK27
  refine TC.yes rfl ?_
  refine TC.seq (fun K28 hK28 => ?_)
  refine TC.region ?_
  refine tp rfl rfl rfl (PV.build (cells := (ints RowT.zero.flat).toArray) rfl rfl (by as_aux_lemma => kernel_rfl)) ?_
  refine tp rfl rfl rfl (PV.move rfl rfl) ?_
  refine TL.store (vs := ints RowT.zero.flat) (i := 1) (H' := [blkA b7 (ints ((rowDec x.own o.key o.n).1).flat) 48, blkA b4 (ints RowT.zero.flat) 48, blkA b3 (ints o.flat) 38, blkA r (RepT.cells x) 104]) (Want.plain rfl) rfl rfl rfl rfl rfl (by rw [(RowT.len RowT.zero)]; exact sz48) (ints_one _) rfl rfl (by have h0 := (RowT.len RowT.zero); have h1 := (RowT.len RowT.zero); omega) (wwhole ((RowT.len RowT.zero).trans (RowT.len RowT.zero).symm)) rfl ?_
  refine tp rfl rfl rfl (PV.assign rfl rfl) ?_
  refine tp rfl rfl rfl (PV.assign rfl rfl) ?_
  refine TL.nil ?_
  refine TE.next hK28 ?_
  clear hK28
  refine TC.ret ?_
  refine TE.passRet ?_
  clear hK26
  refine TE.retCTT (H' := [blkA r (RepT.cells x) 104]) rfl rfl rfl rfl Tryz.underlying48 rfl sz48 (Rd.own 1 rfl rfl) (RowT.len RowT.zero) (fun _ s => sep_keep [3] rfl s) ?_
  exact ⟨by simp [planF, growOf, *], rfl⟩
  refine TL.nil ?_
  refine TE.next hK27 ?_
  clear hK27
  refine TC.no rfl ?_
  refine TC.skip ?_
  refine TE.next hK26 ?_
  clear hK26
  refine TC.seq (fun K29 hK29 => ?_)
  refine TC.seq (fun K30 hK30 => ?_)
  refine TC.draw (fun w => Frm F w ∧ w.heap[b3]? = some (.cells (ints o.flat).toArray 38 (0, 0)) ∧ w.heap[r]? = some (.cells (RepT.cells x).toArray 104 (0, 0)) ∧ True) mixed rfl (fun _ s => ⟨Frm.of s, s.block 2 (lb rfl) rfl, s.block 3 (lb rfl) rfl, trivial⟩) ?_
  refine TD.take (i := 0) rfl (by kernel_rfl) (by kernel_rfl) (by kernel_rfl) (fun _ _ _ _ h => h) (Want.plain rfl) rfl rfl (PV.fieldAddr (r := 0) rfl Tryz.underlying38 rfl sz3 rfl rfl) ?_
  refine TD.take (i := 1) rfl (by kernel_rfl) (by kernel_rfl) (by kernel_rfl) (fun _ _ _ _ h => h) (Want.plain rfl) rfl rfl (PV.load1 (v := (.int .i64 (o.kind))) rfl Tryz.underlying3 rfl rfl (fun _ h => h.2.1) (OpT.at_kind o rfl)) ?_
  refine TD.take (i := 2) rfl (by kernel_rfl) (by kernel_rfl) (by kernel_rfl) (fun _ _ _ _ h => h) (Want.plain rfl) rfl rfl (PV.neq rfl rfl rfl) ?_
  refine TD.dec (fun h103 => ?_) (fun h103 => ?_)
  refine TD.take (i := 3) rfl (by kernel_rfl) (by kernel_rfl) (by kernel_rfl) (fun _ _ _ _ h => h) (Want.plain rfl) rfl rfl (PV.move rfl rfl) ?_
  refine TD.take (i := 4) rfl (by kernel_rfl) (by kernel_rfl) (by kernel_rfl) (fun _ _ _ _ h => h) (Want.met rfl rfl rfl) rfl rfl (PV.move rfl rfl) ?_
  refine TD.take (i := 5) rfl (by kernel_rfl) (by kernel_rfl) (by kernel_rfl) (fun _ _ _ _ h => h) (Want.met rfl rfl rfl) rfl rfl (PV.nilCheck rfl rfl) ?_
  refine TD.take (i := 6) rfl (by kernel_rfl) (by kernel_rfl) (by kernel_rfl) (fun _ _ _ _ h => h) (Want.met rfl rfl rfl) rfl rfl (PV.fieldAddr (r := 1068) rfl Tryz.underlying104 rfl sz71 rfl rfl) ?_
  refine TD.take (i := 7) rfl (by kernel_rfl) (by kernel_rfl) (by kernel_rfl) (fun _ _ _ _ h => h) (Want.met rfl rfl rfl) rfl rfl (PV.move rfl rfl) ?_
  refine TD.take (i := 8) rfl (by kernel_rfl) (by kernel_rfl) (by kernel_rfl) (fun _ _ _ _ h => h) (Want.met rfl rfl rfl) rfl rfl (PV.nilCheck rfl rfl) ?_
  refine TD.take (i := 9) rfl (by kernel_rfl) (by kernel_rfl) (by kernel_rfl) (fun _ _ _ _ h => h) (Want.met rfl rfl rfl) rfl rfl (PV.fieldAddr (r := 0) rfl Tryz.underlying104 rfl sz3 rfl rfl) ?_
  refine TD.take (i := 10) rfl (by kernel_rfl) (by kernel_rfl) (by kernel_rfl) (fun _ _ _ _ h => h) (Want.met rfl rfl rfl) rfl rfl (PV.load1 (v := (.int .i64 (x.id))) rfl Tryz.underlying3 rfl rfl (fun _ h => h.2.2.1) (RepT.at_id x rfl)) ?_
  refine TD.take (i := 11) rfl (by kernel_rfl) (by kernel_rfl) (by kernel_rfl) (fun _ _ _ _ h => h) (Want.met rfl rfl rfl) rfl rfl (PV.fieldAddr (r := 3) rfl Tryz.underlying38 rfl sz3 rfl rfl) ?_
  refine TD.take (i := 12) rfl (by kernel_rfl) (by kernel_rfl) (by kernel_rfl) (fun _ _ _ _ h => h) (Want.met rfl rfl rfl) rfl rfl (PV.load1 (v := (.int .i64 (o.key))) rfl Tryz.underlying3 rfl rfl (fun _ h => h.2.1) (OpT.at_key o rfl)) ?_
  refine TD.take (i := 14) rfl (by kernel_rfl) (by kernel_rfl) (by kernel_rfl) (fun _ _ _ _ h => h) (Want.met rfl rfl rfl) rfl rfl (PV.fieldAddr (r := 4) rfl Tryz.underlying38 rfl sz3 rfl rfl) ?_
  refine TD.take (i := 15) rfl (by kernel_rfl) (by kernel_rfl) (by kernel_rfl) (fun _ _ _ _ h => h) (Want.met rfl rfl rfl) rfl rfl (PV.load1 (v := (.int .i64 (o.n))) rfl Tryz.underlying3 rfl rfl (fun _ h => h.2.1) (OpT.at_n o rfl)) ?_
  refine TD.all [13] (by kernel_rfl) rfl ?_
  refine AllT.cons rfl ?_ ?_
  refine TL.callR (A := [blkA r (RepT.cells x) 104]) (B := [blkA b7 (ints ((rowDec x.own o.key o.n).1).flat) 48, blkA b4 (ints RowT.zero.flat) 48, blkA b3 (ints o.flat) 38]) (Want.met rfl rfl rfl) rfl rfl rfl nm21 rfl (bookRights_does r 1068 104 (fun u => RepT.cells { x with book := u }) (RepT.arnd_book x) x.book x.id o.key) (fun _ s => sep_selR [3] rfl s) (fun _ _ _ => trivial) (fun vR HR hR => ?_)
  obtain ⟨rfl, rfl⟩ := hR
  change TL _ _ _ _ _ _ _ _ _ [blkA r (RepT.cells x) 104, blkA b7 (ints ((rowDec x.own o.key o.n).1).flat) 48, blkA b4 (ints RowT.zero.flat) 48, blkA b3 (ints o.flat) 38]
  refine TL.nil ?_
  refine TE.draw (fun _ s => ⟨Frm.of s, s.block 3 (lb rfl) rfl, s.block 0 (lb rfl) rfl, trivial⟩) ?_
  refine TD.take (i := 16) rfl (by kernel_rfl) (by kernel_rfl) (by kernel_rfl) (fun _ _ _ _ h => h) (Want.met rfl rfl rfl) rfl rfl (PV.lss rfl rfl rfl) ?_
  refine TD.dec (fun h117 => ?_) (fun h117 => ?_)
  refine TD.take (i := 17) rfl (by kernel_rfl) (by kernel_rfl) (by kernel_rfl) (fun _ _ _ _ h => h) (Want.plain rfl) rfl rfl (PV.pick rfl rfl rfl) ?_
  refine TD.done (by kernel_rfl) ?_
  refine TE.next hK30 ?_
  clear hK30
  refine TC.yes rfl ?_
  refine TC.seq (fun K31 hK31 => ?_)
  refine TC.region ?_
  refine tp rfl rfl rfl (PV.build (cells := (ints RowT.zero.flat).toArray) rfl rfl (by as_aux_lemma => kernel_rfl)) ?_
  refine TL.store (vs := ints RowT.zero.flat) (i := 2) (H' := [blkA r (RepT.cells x) 104, blkA b7 (ints ((rowDec x.own o.key o.n).1).flat) 48, blkA b4 (ints RowT.zero.flat) 48, blkA b3 (ints o.flat) 38]) (Want.plain rfl) rfl rfl rfl rfl rfl (by rw [(RowT.len RowT.zero)]; exact sz48) (ints_one _) rfl rfl (by have h0 := (RowT.len RowT.zero); have h1 := (RowT.len RowT.zero); omega) (wwhole ((RowT.len RowT.zero).trans (RowT.len RowT.zero).symm)) rfl ?_
  refine tp rfl rfl rfl (PV.assign rfl rfl) ?_
  refine tp rfl rfl rfl (PV.assign rfl rfl) ?_
  refine TL.nil ?_
  refine TE.next hK31 ?_
  clear hK31
  refine TC.ret ?_
  refine TE.passRet ?_
  clear hK29
  refine TE.retCTT (H' := [blkA r (RepT.cells x) 104]) rfl rfl rfl rfl Tryz.underlying48 rfl sz48 (Rd.own 2 rfl rfl) (RowT.len RowT.zero) (fun _ s => sep_keep [0] rfl s) ?_
  exact ⟨by simp [planF, growOf, *], rfl⟩
  refine TD.take (i := 17) rfl (by kernel_rfl) (by kernel_rfl) (by kernel_rfl) (fun _ _ _ _ h => h) (Want.plain rfl) rfl rfl (PV.pick rfl rfl rfl) ?_
  refine TD.done (by kernel_rfl) ?_
  refine TE.next hK30 ?_
  clear hK30
  refine TC.no rfl ?_
  refine TC.skip ?_
  refine TE.next hK29 ?_
  clear hK29
  refine TC.seq (fun K32 hK32 => ?_)
  refine TC.region ?_
  refine tp rfl rfl rfl (PV.loadN (vs := ints ((rowDec x.own o.key o.n).1).flat) rfl Tryz.underlying48 rfl sz48 rfl (Rd.own 1 rfl rfl) (RowT.len ((rowDec x.own o.key o.n).1)) (whole (RowT.len ((rowDec x.own o.key o.n).1)))) ?_
  refine TL.store (vs := ints ((rowDec x.own o.key o.n).1).flat) (i := 2) (H' := [blkA r (RepT.cells x) 104, blkA b7 (ints ((rowDec x.own o.key o.n).1).flat) 48, blkA b4 (ints ((rowDec x.own o.key o.n).1).flat) 48, blkA b3 (ints o.flat) 38]) (Want.plain rfl) rfl rfl rfl rfl rfl (by rw [(RowT.len ((rowDec x.own o.key o.n).1))]; exact sz48) (ints_one _) rfl rfl (by have h0 := (RowT.len RowT.zero); have h1 := (RowT.len ((rowDec x.own o.key o.n).1)); omega) (wwhole ((RowT.len RowT.zero).trans (RowT.len ((rowDec x.own o.key o.n).1)).symm)) rfl ?_
  refine tp rfl rfl rfl (PV.assign rfl rfl) ?_
  refine tp rfl rfl rfl (PV.assign rfl rfl) ?_
  refine TL.nil ?_
  refine TE.next hK32 ?_
  clear hK32
  refine TC.ret ?_
  refine TE.retCTT (H' := [blkA r (RepT.cells x) 104]) rfl rfl rfl rfl Tryz.underlying48 rfl sz48 (Rd.own 2 rfl rfl) (RowT.len ((rowDec x.own o.key o.n).1)) (fun _ s => sep_keep [0] rfl s) ?_
  exact ⟨by simp [planF, growOf, *], rfl⟩
  exact AllT.nil
  · exact absurd h47 h103
  exact AllT.nil
  exact AllT.nil
  refine tp rfl rfl rfl (PV.assign rfl rfl) ?_
  refine TL.nil ?_
  refine TE.next hK25 ?_
  clear hK25
  refine TC.no rfl ?_
  refine TC.seq (fun K33 hK33 => ?_)
  refine TC.region ?_
  refine tp rfl rfl rfl (PV.eql rfl rfl rfl) ?_
  refine TL.dec (fun h75 => ?_) (fun h75 => ?_)
  refine tp rfl rfl rfl (PV.assign rfl rfl) ?_
  refine TL.nil ?_
  refine TE.next hK33 ?_
  clear hK33
  refine TC.yes rfl ?_
  refine TC.seq (fun K34 hK34 => ?_)
  refine TC.draw (fun w => Frm F w ∧ w.heap[b3]? = some (.cells (ints o.flat).toArray 38 (0, 0)) ∧ w.heap[r]? = some (.cells (RepT.cells x).toArray 104 (0, 0)) ∧ True) mixed rfl (fun _ s => ⟨Frm.of s, s.block 2 (lb rfl) rfl, s.block 3 (lb rfl) rfl, trivial⟩) ?_
  refine TD.take (i := 0) rfl (by kernel_rfl) (by kernel_rfl) (by kernel_rfl) (fun _ _ _ _ h => h) (Want.plain rfl) rfl rfl (PV.fieldAddr (r := 2) rfl Tryz.underlying38 rfl sz3 rfl rfl) ?_
  refine TD.take (i := 1) rfl (by kernel_rfl) (by kernel_rfl) (by kernel_rfl) (fun _ _ _ _ h => h) (Want.plain rfl) rfl rfl (PV.load1 (v := (.int .i64 (o.to'))) rfl Tryz.underlying3 rfl rfl (fun _ h => h.2.1) (OpT.at_to' o rfl)) ?_
  refine TD.take (i := 2) rfl (by kernel_rfl) (by kernel_rfl) (by kernel_rfl) (fun _ _ _ _ h => h) (Want.plain rfl) rfl rfl (PV.move rfl rfl) ?_
  refine TD.take (i := 3) rfl (by kernel_rfl) (by kernel_rfl) (by kernel_rfl) (fun _ _ _ _ h => h) (Want.plain rfl) rfl rfl (PV.nilCheck rfl rfl) ?_
  refine TD.take (i := 4) rfl (by kernel_rfl) (by kernel_rfl) (by kernel_rfl) (fun _ _ _ _ h => h) (Want.plain rfl) rfl rfl (PV.fieldAddr (r := 0) rfl Tryz.underlying104 rfl sz3 rfl rfl) ?_
  refine TD.take (i := 5) rfl (by kernel_rfl) (by kernel_rfl) (by kernel_rfl) (fun _ _ _ _ h => h) (Want.plain rfl) rfl rfl (PV.load1 (v := (.int .i64 (x.id))) rfl Tryz.underlying3 rfl rfl (fun _ h => h.2.2.1) (RepT.at_id x rfl)) ?_
  refine TD.take (i := 6) rfl (by kernel_rfl) (by kernel_rfl) (by kernel_rfl) (fun _ _ _ _ h => h) (Want.plain rfl) rfl rfl (PV.neq rfl rfl rfl) ?_
  refine TD.dec (fun h82 => ?_) (fun h82 => ?_)
  refine TD.done (by kernel_rfl) ?_
  refine TE.next hK34 ?_
  clear hK34
  refine TC.yes rfl ?_
  refine TC.draw (fun w => Frm F w ∧ w.heap[r]? = some (.cells (RepT.cells x).toArray 104 (0, 0)) ∧ w.heap[b3]? = some (.cells (ints o.flat).toArray 38 (0, 0)) ∧ True) mixed rfl (fun _ s => ⟨Frm.of s, s.block 3 (lb rfl) rfl, s.block 2 (lb rfl) rfl, trivial⟩) ?_
  refine TD.take (i := 0) rfl (by kernel_rfl) (by kernel_rfl) (by kernel_rfl) (fun _ _ _ _ h => h) (Want.plain rfl) rfl rfl (PV.move rfl rfl) ?_
  refine TD.take (i := 1) rfl (by kernel_rfl) (by kernel_rfl) (by kernel_rfl) (fun _ _ _ _ h => h) (Want.plain rfl) rfl rfl (PV.nilCheck rfl rfl) ?_
  refine TD.take (i := 2) rfl (by kernel_rfl) (by kernel_rfl) (by kernel_rfl) (fun _ _ _ _ h => h) (Want.plain rfl) rfl rfl (PV.fieldAddr (r := 9) rfl Tryz.underlying104 rfl sz48 rfl rfl) ?_
  refine TD.take (i := 3) rfl (by kernel_rfl) (by kernel_rfl) (by kernel_rfl) (fun _ _ _ _ h => h) (Want.plain rfl) rfl rfl (PV.loadN (vs := ints x.own.flat) rfl Tryz.underlying48 rfl sz48 rfl (fun _ h => h.2.1) (RowT.len x.own) (RepT.sub_own x 0 rfl (by decide) (whole (RowT.len x.own)))) ?_
  refine TD.take (i := 4) rfl (by kernel_rfl) (by kernel_rfl) (by kernel_rfl) (fun _ _ _ _ h => h) (Want.plain rfl) rfl rfl (PV.fieldAddr (r := 3) rfl Tryz.underlying38 rfl sz3 rfl rfl) ?_
  refine TD.take (i := 5) rfl (by kernel_rfl) (by kernel_rfl) (by kernel_rfl) (fun _ _ _ _ h => h) (Want.plain rfl) rfl rfl (PV.load1 (v := (.int .i64 (o.key))) rfl Tryz.underlying3 rfl rfl (fun _ h => h.2.2.1) (OpT.at_key o rfl)) ?_
  refine TD.take (i := 6) rfl (by kernel_rfl) (by kernel_rfl) (by kernel_rfl) (fun _ _ _ _ h => h) (Want.plain rfl) rfl rfl (PV.fieldAddr (r := 4) rfl Tryz.underlying38 rfl sz3 rfl rfl) ?_
  refine TD.take (i := 7) rfl (by kernel_rfl) (by kernel_rfl) (by kernel_rfl) (fun _ _ _ _ h => h) (Want.plain rfl) rfl rfl (PV.load1 (v := (.int .i64 (o.n))) rfl Tryz.underlying3 rfl rfl (fun _ h => h.2.2.1) (OpT.at_n o rfl)) ?_
  refine TD.take (i := 8) rfl (by kernel_rfl) (by kernel_rfl) (by kernel_rfl) (fun _ _ _ _ h => h) (Want.plain rfl) rfl rfl (PV.fieldAddr (r := 2) rfl Tryz.underlying38 rfl sz3 rfl rfl) ?_
  refine TD.take (i := 9) rfl (by kernel_rfl) (by kernel_rfl) (by kernel_rfl) (fun _ _ _ _ h => h) (Want.plain rfl) rfl rfl (PV.load1 (v := (.int .i64 (o.to'))) rfl Tryz.underlying3 rfl rfl (fun _ h => h.2.2.1) (OpT.at_to' o rfl)) ?_
  refine TD.all [10] (by kernel_rfl) rfl ?_
  refine AllT.cons rfl ?_ ?_
  refine TL.callR (A := []) (B := [blkA b7 (ints RowT.zero.flat) 48, blkA b4 (ints RowT.zero.flat) 48, blkA b3 (ints o.flat) 38, blkA r (RepT.cells x) 104]) (Want.plain rfl) rfl rfl rfl nm77 rfl (rowGive_does x.own o.key o.n o.to') (fun _ s => s) (fun _ _ _ => trivial) (fun vR HR hR => ?_)
  obtain ⟨rfl, rfl⟩ := hR
  change TL _ _ _ _ _ _ _ _ _ [blkA b7 (ints RowT.zero.flat) 48, blkA b4 (ints RowT.zero.flat) 48, blkA b3 (ints o.flat) 38, blkA r (RepT.cells x) 104]
  refine TL.nil ?_
  refine TE.draw (fun _ s => ⟨Frm.of s, s.block 3 (lb rfl) rfl, s.block 2 (lb rfl) rfl, trivial⟩) ?_
  refine TD.take (i := 11) rfl (by kernel_rfl) (by kernel_rfl) (by kernel_rfl) (fun _ _ _ _ h => h) (Want.plain rfl) rfl rfl (PV.move rfl rfl) ?_
  refine TD.take (i := 12) rfl (by kernel_rfl) (by kernel_rfl) (by kernel_rfl) (fun _ _ _ _ h => h) (Want.plain rfl) rfl rfl (PV.extract (vs := [(.agg (ints ((rowGive x.own o.key o.n o.to').1).flat).toArray), (.int .i64 ((rowGive x.own o.key o.n o.to').2))]) rfl rfl rfl) ?_
  refine TD.take (i := 13) rfl (by kernel_rfl) (by kernel_rfl) (by kernel_rfl) (fun _ _ _ _ h => h) (Want.plain rfl) rfl rfl (PV.extract (vs := [(.agg (ints ((rowGive x.own o.key o.n o.to').1).flat).toArray), (.int .i64 ((rowGive x.own o.key o.n o.to').2))]) rfl rfl rfl) ?_
  refine TD.all [14] (by kernel_rfl) rfl ?_
  refine AllT.cons rfl ?_ ?_
  refine TL.store (vs := ints ((rowGive x.own o.key o.n o.to').1).flat) (i := 0) (H' := [blkA b7 (ints ((rowGive x.own o.key o.n o.to').1).flat) 48, blkA b4 (ints RowT.zero.flat) 48, blkA b3 (ints o.flat) 38, blkA r (RepT.cells x) 104]) (Want.plain rfl) rfl rfl rfl rfl rfl (by rw [(RowT.len ((rowGive x.own o.key o.n o.to').1))]; exact sz48) (ints_one _) rfl rfl (by have h0 := (RowT.len RowT.zero); have h1 := (RowT.len ((rowGive x.own o.key o.n o.to').1)); omega) (wwhole ((RowT.len RowT.zero).trans (RowT.len ((rowGive x.own o.key o.n o.to').1)).symm)) rfl ?_
  refine TL.nil ?_
  refine TE.draw (fun _ s => ⟨Frm.of s, s.block 3 (lb rfl) rfl, s.block 2 (lb rfl) rfl, trivial⟩) ?_
  refine TD.take (i := 15) rfl (by kernel_rfl) (by kernel_rfl) (by kernel_rfl) (fun _ _ _ _ h => h) (Want.plain rfl) rfl rfl (PV.assign rfl rfl) ?_
  refine TD.done (by kernel_rfl) ?_
  refine TE.blockEnd ?_
  refine TE.next hK16 ?_
  clear hK16
  refine TC.seq (fun K35 hK35 => ?_)
  refine TC.seq (fun K36 hK36 => ?_)
  refine TC.region ?_
  refine tp rfl rfl rfl (PV.move rfl rfl) ?_
  refine tp rfl rfl rfl (PV.neq rfl rfl rfl) ?_
  refine TL.dec (fun h98 => ?_) (fun h98 => ?_)
  refine TL.nil ?_
  refine TE.next hK36 ?_
  clear hK36
  refine TC.yes rfl ?_
  refine TC.seq (fun K37 hK37 => ?_)
  refine TC.region ?_
  refine tp rfl rfl rfl (PV.build (cells := (ints RowT.zero.flat).toArray) rfl rfl (by as_aux_lemma => kernel_rfl)) ?_
  refine tp rfl rfl rfl (PV.move rfl rfl) ?_
  refine TL.store (vs := ints RowT.zero.flat) (i := 1) (H' := [blkA b7 (ints ((rowGive x.own o.key o.n o.to').1).flat) 48, blkA b4 (ints RowT.zero.flat) 48, blkA b3 (ints o.flat) 38, blkA r (RepT.cells x) 104]) (Want.plain rfl) rfl rfl rfl rfl rfl (by rw [(RowT.len RowT.zero)]; exact sz48) (ints_one _) rfl rfl (by have h0 := (RowT.len RowT.zero); have h1 := (RowT.len RowT.zero); omega) (wwhole ((RowT.len RowT.zero).trans (RowT.len RowT.zero).symm)) rfl ?_
  refine tp rfl rfl rfl (PV.assign rfl rfl) ?_
  refine tp rfl rfl rfl (PV.assign rfl rfl) ?_
  refine TL.nil ?_
  refine TE.next hK37 ?_
  clear hK37
  refine TC.ret ?_
  refine TE.passRet ?_
  clear hK35
  refine TE.retCTT (H' := [blkA r (RepT.cells x) 104]) rfl rfl rfl rfl Tryz.underlying48 rfl sz48 (Rd.own 1 rfl rfl) (RowT.len RowT.zero) (fun _ s => sep_keep [3] rfl s) ?_
  exact ⟨by simp [planF, growOf, *], rfl⟩
  refine TL.nil ?_
  refine TE.next hK36 ?_
  clear hK36
  refine TC.no rfl ?_
  refine TC.skip ?_
  refine TE.next hK35 ?_
  clear hK35
  refine TC.seq (fun K38 hK38 => ?_)
  refine TC.seq (fun K39 hK39 => ?_)
  refine TC.draw (fun w => Frm F w ∧ w.heap[b3]? = some (.cells (ints o.flat).toArray 38 (0, 0)) ∧ w.heap[r]? = some (.cells (RepT.cells x).toArray 104 (0, 0)) ∧ True) mixed rfl (fun _ s => ⟨Frm.of s, s.block 2 (lb rfl) rfl, s.block 3 (lb rfl) rfl, trivial⟩) ?_
  refine TD.take (i := 0) rfl (by kernel_rfl) (by kernel_rfl) (by kernel_rfl) (fun _ _ _ _ h => h) (Want.plain rfl) rfl rfl (PV.fieldAddr (r := 0) rfl Tryz.underlying38 rfl sz3 rfl rfl) ?_
  refine TD.take (i := 1) rfl (by kernel_rfl) (by kernel_rfl) (by kernel_rfl) (fun _ _ _ _ h => h) (Want.plain rfl) rfl rfl (PV.load1 (v := (.int .i64 (o.kind))) rfl Tryz.underlying3 rfl rfl (fun _ h => h.2.1) (OpT.at_kind o rfl)) ?_
  refine TD.take (i := 2) rfl (by kernel_rfl) (by kernel_rfl) (by kernel_rfl) (fun _ _ _ _ h => h) (Want.plain rfl) rfl rfl (PV.neq rfl rfl rfl) ?_
  refine TD.dec (fun h103 => ?_) (fun h103 => ?_)
  refine TD.take (i := 3) rfl (by kernel_rfl) (by kernel_rfl) (by kernel_rfl) (fun _ _ _ _ h => h) (Want.plain rfl) rfl rfl (PV.move rfl rfl) ?_
  refine TD.take (i := 4) rfl (by kernel_rfl) (by kernel_rfl) (by kernel_rfl) (fun _ _ _ _ h => h) (Want.met rfl rfl rfl) rfl rfl (PV.move rfl rfl) ?_
  refine TD.take (i := 5) rfl (by kernel_rfl) (by kernel_rfl) (by kernel_rfl) (fun _ _ _ _ h => h) (Want.met rfl rfl rfl) rfl rfl (PV.nilCheck rfl rfl) ?_
  refine TD.take (i := 6) rfl (by kernel_rfl) (by kernel_rfl) (by kernel_rfl) (fun _ _ _ _ h => h) (Want.met rfl rfl rfl) rfl rfl (PV.fieldAddr (r := 1068) rfl Tryz.underlying104 rfl sz71 rfl rfl) ?_
  refine TD.take (i := 7) rfl (by kernel_rfl) (by kernel_rfl) (by kernel_rfl) (fun _ _ _ _ h => h) (Want.met rfl rfl rfl) rfl rfl (PV.move rfl rfl) ?_
  refine TD.take (i := 8) rfl (by kernel_rfl) (by kernel_rfl) (by kernel_rfl) (fun _ _ _ _ h => h) (Want.met rfl rfl rfl) rfl rfl (PV.nilCheck rfl rfl) ?_
  refine TD.take (i := 9) rfl (by kernel_rfl) (by kernel_rfl) (by kernel_rfl) (fun _ _ _ _ h => h) (Want.met rfl rfl rfl) rfl rfl (PV.fieldAddr (r := 0) rfl Tryz.underlying104 rfl sz3 rfl rfl) ?_
  refine TD.take (i := 10) rfl (by kernel_rfl) (by kernel_rfl) (by kernel_rfl) (fun _ _ _ _ h => h) (Want.met rfl rfl rfl) rfl rfl (PV.load1 (v := (.int .i64 (x.id))) rfl Tryz.underlying3 rfl rfl (fun _ h => h.2.2.1) (RepT.at_id x rfl)) ?_
  refine TD.take (i := 11) rfl (by kernel_rfl) (by kernel_rfl) (by kernel_rfl) (fun _ _ _ _ h => h) (Want.met rfl rfl rfl) rfl rfl (PV.fieldAddr (r := 3) rfl Tryz.underlying38 rfl sz3 rfl rfl) ?_
  refine TD.take (i := 12) rfl (by kernel_rfl) (by kernel_rfl) (by kernel_rfl) (fun _ _ _ _ h => h) (Want.met rfl rfl rfl) rfl rfl (PV.load1 (v := (.int .i64 (o.key))) rfl Tryz.underlying3 rfl rfl (fun _ h => h.2.1) (OpT.at_key o rfl)) ?_
  refine TD.take (i := 14) rfl (by kernel_rfl) (by kernel_rfl) (by kernel_rfl) (fun _ _ _ _ h => h) (Want.met rfl rfl rfl) rfl rfl (PV.fieldAddr (r := 4) rfl Tryz.underlying38 rfl sz3 rfl rfl) ?_
  refine TD.take (i := 15) rfl (by kernel_rfl) (by kernel_rfl) (by kernel_rfl) (fun _ _ _ _ h => h) (Want.met rfl rfl rfl) rfl rfl (PV.load1 (v := (.int .i64 (o.n))) rfl Tryz.underlying3 rfl rfl (fun _ h => h.2.1) (OpT.at_n o rfl)) ?_
  refine TD.all [13] (by kernel_rfl) rfl ?_
  refine AllT.cons rfl ?_ ?_
  refine TL.callR (A := [blkA r (RepT.cells x) 104]) (B := [blkA b7 (ints ((rowGive x.own o.key o.n o.to').1).flat) 48, blkA b4 (ints RowT.zero.flat) 48, blkA b3 (ints o.flat) 38]) (Want.met rfl rfl rfl) rfl rfl rfl nm21 rfl (bookRights_does r 1068 104 (fun u => RepT.cells { x with book := u }) (RepT.arnd_book x) x.book x.id o.key) (fun _ s => sep_selR [3] rfl s) (fun _ _ _ => trivial) (fun vR HR hR => ?_)
  obtain ⟨rfl, rfl⟩ := hR
  change TL _ _ _ _ _ _ _ _ _ [blkA r (RepT.cells x) 104, blkA b7 (ints ((rowGive x.own o.key o.n o.to').1).flat) 48, blkA b4 (ints RowT.zero.flat) 48, blkA b3 (ints o.flat) 38]
  refine TL.nil ?_
  refine TE.draw (fun _ s => ⟨Frm.of s, s.block 3 (lb rfl) rfl, s.block 0 (lb rfl) rfl, trivial⟩) ?_
  refine TD.take (i := 16) rfl (by kernel_rfl) (by kernel_rfl) (by kernel_rfl) (fun _ _ _ _ h => h) (Want.met rfl rfl rfl) rfl rfl (PV.lss rfl rfl rfl) ?_
  refine TD.dec (fun h117 => ?_) (fun h117 => ?_)
  refine TD.take (i := 17) rfl (by kernel_rfl) (by kernel_rfl) (by kernel_rfl) (fun _ _ _ _ h => h) (Want.plain rfl) rfl rfl (PV.pick rfl rfl rfl) ?_
  refine TD.done (by kernel_rfl) ?_
  refine TE.next hK39 ?_
  clear hK39
  refine TC.yes rfl ?_
  refine TC.seq (fun K40 hK40 => ?_)
  refine TC.region ?_
  refine tp rfl rfl rfl (PV.build (cells := (ints RowT.zero.flat).toArray) rfl rfl (by as_aux_lemma => kernel_rfl)) ?_
  refine TL.store (vs := ints RowT.zero.flat) (i := 2) (H' := [blkA r (RepT.cells x) 104, blkA b7 (ints ((rowGive x.own o.key o.n o.to').1).flat) 48, blkA b4 (ints RowT.zero.flat) 48, blkA b3 (ints o.flat) 38]) (Want.plain rfl) rfl rfl rfl rfl rfl (by rw [(RowT.len RowT.zero)]; exact sz48) (ints_one _) rfl rfl (by have h0 := (RowT.len RowT.zero); have h1 := (RowT.len RowT.zero); omega) (wwhole ((RowT.len RowT.zero).trans (RowT.len RowT.zero).symm)) rfl ?_
  refine tp rfl rfl rfl (PV.assign rfl rfl) ?_
  refine tp rfl rfl rfl (PV.assign rfl rfl) ?_
  refine TL.nil ?_
  refine TE.next hK40 ?_
  clear hK40
  refine TC.ret ?_
  refine TE.passRet ?_
  clear hK38
  refine TE.retCTT (H' := [blkA r (RepT.cells x) 104]) rfl rfl rfl rfl Tryz.underlying48 rfl sz48 (Rd.own 2 rfl rfl) (RowT.len RowT.zero) (fun _ s => sep_keep [0] rfl s) ?_
  exact ⟨by simp [planF, growOf, *], rfl⟩
  refine TD.take (i := 17) rfl (by kernel_rfl) (by kernel_rfl) (by kernel_rfl) (fun _ _ _ _ h => h) (Want.plain rfl) rfl rfl (PV.pick rfl rfl rfl) ?_
  refine TD.done (by kernel_rfl) ?_
  refine TE.next hK39 ?_
  clear hK39
  refine TC.no rfl ?_
  refine TC.skip ?_
  refine TE.next hK38 ?_
  clear hK38
  refine TC.seq (fun K41 hK41 => ?_)
  refine TC.region ?_
  refine tp rfl rfl rfl (PV.loadN (vs := ints ((rowGive x.own o.key o.n o.to').1).flat) rfl Tryz.underlying48 rfl sz48 rfl (Rd.own 1 rfl rfl) (RowT.len ((rowGive x.own o.key o.n o.to').1)) (whole (RowT.len ((rowGive x.own o.key o.n o.to').1)))) ?_
  refine TL.store (vs := ints ((rowGive x.own o.key o.n o.to').1).flat) (i := 2) (H' := [blkA r (RepT.cells x) 104, blkA b7 (ints ((rowGive x.own o.key o.n o.to').1).flat) 48, blkA b4 (ints ((rowGive x.own o.key o.n o.to').1).flat) 48, blkA b3 (ints o.flat) 38]) (Want.plain rfl) rfl rfl rfl rfl rfl (by rw [(RowT.len ((rowGive x.own o.key o.n o.to').1))]; exact sz48) (ints_one _) rfl rfl (by have h0 := (RowT.len RowT.zero); have h1 := (RowT.len ((rowGive x.own o.key o.n o.to').1)); omega) (wwhole ((RowT.len RowT.zero).trans (RowT.len ((rowGive x.own o.key o.n o.to').1)).symm)) rfl ?_
  refine tp rfl rfl rfl (PV.assign rfl rfl) ?_
  refine tp rfl rfl rfl (PV.assign rfl rfl) ?_
  refine TL.nil ?_
  refine TE.next hK41 ?_
  clear hK41
  refine TC.ret ?_
  refine TE.retCTT (H' := [blkA r (RepT.cells x) 104]) rfl rfl rfl rfl Tryz.underlying48 rfl sz48 (Rd.own 2 rfl rfl) (RowT.len ((rowGive x.own o.key o.n o.to').1)) (fun _ s => sep_keep [0] rfl s) ?_
  exact ⟨by simp [planF, growOf, *], rfl⟩
  exact AllT.nil
  · exact absurd h47 h103
  exact AllT.nil
  exact AllT.nil
  refine TD.done (by kernel_rfl) ?_
  refine TE.next hK34 ?_
  clear hK34
  refine TC.no rfl ?_
  refine TC.skip ?_
  refine TE.blockEnd ?_
  refine TE.next hK16 ?_
  clear hK16
  refine TC.seq (fun K42 hK42 => ?_)
  refine TC.seq (fun K43 hK43 => ?_)
  refine TC.region ?_
  refine tp rfl rfl rfl (PV.move rfl rfl) ?_
  refine tp rfl rfl rfl (PV.neq rfl rfl rfl) ?_
  refine TL.nil ?_
  refine TE.next hK43 ?_
  clear hK43
  refine TC.yes rfl ?_
  refine TC.seq (fun K44 hK44 => ?_)
  refine TC.region ?_
  refine tp rfl rfl rfl (PV.build (cells := (ints RowT.zero.flat).toArray) rfl rfl (by as_aux_lemma => kernel_rfl)) ?_
  refine tp rfl rfl rfl (PV.move rfl rfl) ?_
  refine TL.store (vs := ints RowT.zero.flat) (i := 1) (H' := [blkA b7 (ints RowT.zero.flat) 48, blkA b4 (ints RowT.zero.flat) 48, blkA b3 (ints o.flat) 38, blkA r (RepT.cells x) 104]) (Want.plain rfl) rfl rfl rfl rfl rfl (by rw [(RowT.len RowT.zero)]; exact sz48) (ints_one _) rfl rfl (by have h0 := (RowT.len RowT.zero); have h1 := (RowT.len RowT.zero); omega) (wwhole ((RowT.len RowT.zero).trans (RowT.len RowT.zero).symm)) rfl ?_
  refine tp rfl rfl rfl (PV.assign rfl rfl) ?_
  refine tp rfl rfl rfl (PV.assign rfl rfl) ?_
  refine TL.nil ?_
  refine TE.next hK44 ?_
  clear hK44
  refine TC.ret ?_
  refine TE.passRet ?_
  clear hK42
  refine TE.retCTT (H' := [blkA r (RepT.cells x) 104]) rfl rfl rfl rfl Tryz.underlying48 rfl sz48 (Rd.own 1 rfl rfl) (RowT.len RowT.zero) (fun _ s => sep_keep [3] rfl s) ?_
  exact ⟨by simp [planF, growOf, *], rfl⟩
  refine tp rfl rfl rfl (PV.assign rfl rfl) ?_
  refine TL.nil ?_
  refine TE.next hK33 ?_
  clear hK33
  refine TC.no rfl ?_
  refine TC.skip ?_
  refine TE.blockEnd ?_
  refine TE.next hK16 ?_
  clear hK16
  refine TC.seq (fun K45 hK45 => ?_)
  refine TC.seq (fun K46 hK46 => ?_)
  refine TC.region ?_
  refine tp rfl rfl rfl (PV.move rfl rfl) ?_
  refine tp rfl rfl rfl (PV.neq rfl rfl rfl) ?_
  refine TL.nil ?_
  refine TE.next hK46 ?_
  clear hK46
  refine TC.yes rfl ?_
  refine TC.seq (fun K47 hK47 => ?_)
  refine TC.region ?_
  refine tp rfl rfl rfl (PV.build (cells := (ints RowT.zero.flat).toArray) rfl rfl (by as_aux_lemma => kernel_rfl)) ?_
  refine tp rfl rfl rfl (PV.move rfl rfl) ?_
  refine TL.store (vs := ints RowT.zero.flat) (i := 1) (H' := [blkA b7 (ints RowT.zero.flat) 48, blkA b4 (ints RowT.zero.flat) 48, blkA b3 (ints o.flat) 38, blkA r (RepT.cells x) 104]) (Want.plain rfl) rfl rfl rfl rfl rfl (by rw [(RowT.len RowT.zero)]; exact sz48) (ints_one _) rfl rfl (by have h0 := (RowT.len RowT.zero); have h1 := (RowT.len RowT.zero); omega) (wwhole ((RowT.len RowT.zero).trans (RowT.len RowT.zero).symm)) rfl ?_
  refine tp rfl rfl rfl (PV.assign rfl rfl) ?_
  refine tp rfl rfl rfl (PV.assign rfl rfl) ?_
  refine TL.nil ?_
  refine TE.next hK47 ?_
  clear hK47
  refine TC.ret ?_
  refine TE.passRet ?_
  clear hK45
  refine TE.retCTT (H' := [blkA r (RepT.cells x) 104]) rfl rfl rfl rfl Tryz.underlying48 rfl sz48 (Rd.own 1 rfl rfl) (RowT.len RowT.zero) (fun _ s => sep_keep [3] rfl s) ?_
  exact ⟨by simp [planF, growOf, *], rfl⟩
  refine TL.nil ?_
  refine TE.draw (fun _ s => ⟨Frm.of s, s.block 2 (lb rfl) rfl, trivial⟩) ?_
  refine TD.take (i := 9) rfl (by kernel_rfl) (by kernel_rfl) (by kernel_rfl) (fun _ _ _ _ h => h) (Want.plain rfl) rfl rfl (PV.not (r := true) rfl rfl rfl) ?_
  refine TD.done (by kernel_rfl) ?_
  refine TE.next hK3 ?_
  clear hK3
  refine TC.yes rfl ?_
  refine TC.seq (fun K48 hK48 => ?_)
  refine TC.region ?_
  refine tp rfl rfl rfl (PV.build (cells := (ints RowT.zero.flat).toArray) rfl rfl (by as_aux_lemma => kernel_rfl)) ?_
  refine TL.store (vs := ints RowT.zero.flat) (i := 0) (H' := [blkA b4 (ints RowT.zero.flat) 48, blkA b3 (ints o.flat) 38, blkA r (RepT.cells x) 104]) (Want.plain rfl) rfl rfl rfl rfl rfl (by rw [(RowT.len RowT.zero)]; exact sz48) (ints_one _) rfl rfl (by have h0 := (RowT.len RowT.zero); have h1 := (RowT.len RowT.zero); omega) (wwhole ((RowT.len RowT.zero).trans (RowT.len RowT.zero).symm)) rfl ?_
  refine tp rfl rfl rfl (PV.assign rfl rfl) ?_
  refine tp rfl rfl rfl (PV.assign rfl rfl) ?_
  refine TL.nil ?_
  refine TE.next hK48 ?_
  clear hK48
  refine TC.ret ?_
  refine TE.passRet ?_
  clear hK2
  refine TE.retCTT (H' := [blkA r (RepT.cells x) 104]) rfl rfl rfl rfl Tryz.underlying48 rfl sz48 (Rd.own 0 rfl rfl) (RowT.len RowT.zero) (fun _ s => sep_keep [2] rfl s) ?_
  exact ⟨by simp [planF, growOf, *], rfl⟩
  exact AllT.nil
theorem client_does (r ob lg d : Nat) (x : RepT) (o : OpT) (recs : List (List UInt8)) (rs : List ReplyT) (l : List SaidT) (hlog : x.log = .pointer (some ⟨lg, 0, none⟩)) (hroom : (cN x o).2.2 = 0 → ¬ o.kind = 3 → sizeS recs + piecesN (encR (rowRec (cN x o).1)).length ≤ 2048) (hl : l.length ≤ 900000) (hrs : rs.length ≤ 1000000) (hid : machB x.id = true) (hkind : memb x.view x.id = true → o.kind ≠ 4) :
    Does Tryz.prog 12 #[(.pointer (some ⟨r, 0, none⟩)), (.iface 34 (.pointer (some ⟨ob, 0, none⟩))), (.agg (ints o.flat).toArray)] (fun _ => True) [blkA r (RepT.cells x) 104, lgP lg d (((recs).length : Nat) : Int) ((sizeS (recs) : Nat) : Int), dkL d (recs), own x.replies ((rs).length) (ints (List.flatMap ReplyT.flat (rs))) 92 3, outP ob (l)] (Ret (fun r' H => r' = .int .i64 (cN x o).2.2 ∧ ∃ v', v'.oneCell' = true ∧ H = [blkA r (RepT.cells { clientX x o with replies := v' }) 104, lgL lg d (clientC x o recs), dkL d (clientC x o recs), own v' (clientR x o rs).length (ints (List.flatMap ReplyT.flat (clientR x o rs))) 92 3, outP ob (l ++ clientO x o)])) := by
  refine Does.body (vs := [(.pointer (some ⟨r, 0, none⟩)), (.iface 34 (.pointer (some ⟨ob, 0, none⟩))), (.agg (ints o.flat).toArray)]) (n := 74) Tryz.func12 rfl rfl rfl (fun w0 F hF => ?_)
  refine TC.seq (fun K1 hK1 => ?_)
  refine TC.region ?_
  refine TL.ownLen 3 rfl rfl (fun _ hone => ?_)
  refine TL.box (Want.plain rfl) rfl rfl rfl rfl (fun b5 => ?_)
  change TL _ _ _ _ _ _ _ _ _ [blkA b5 (ints o.flat) 38, blkA r (RepT.cells x) 104, lgP lg d (((recs).length : Nat) : Int) ((sizeS (recs) : Nat) : Int), dkL d (recs), own x.replies ((rs).length) (ints (List.flatMap ReplyT.flat (rs))) 92 3, outP ob (l)]
  refine tp rfl rfl rfl (PV.assign rfl rfl) ?_
  refine TL.nil ?_
  refine TE.next hK1 ?_
  clear hK1
  refine TC.seq (fun K2 hK2 => ?_)
  refine TC.region ?_
  refine tp rfl rfl rfl (PV.move rfl rfl) ?_
  refine tp rfl rfl rfl (PV.nilCheck rfl rfl) ?_
  refine tp rfl rfl rfl (PV.fieldAddr (r := 1941) rfl Tryz.underlying104 rfl sz3 rfl rfl) ?_
  refine tp rfl rfl rfl (PV.load1 (v := (.int .i64 (x.ops))) rfl Tryz.underlying3 rfl rfl (Rd.own 1 rfl rfl) (RepT.at_ops x rfl)) ?_
  refine tp rfl rfl rfl (PV.add (r := (w64 (x.ops + 1))) rfl rfl rfl rfl) ?_
  refine tp rfl rfl rfl (PV.nilCheck rfl rfl) ?_
  refine tp rfl rfl rfl (PV.fieldAddr (r := 1941) rfl Tryz.underlying104 rfl sz3 rfl rfl) ?_
  refine TL.store1 (i := 1) (H' := [blkA b5 (ints o.flat) 38, blkA r (RepT.cells (RepT.mk x.id x.log x.view x.own x.mirror x.acc x.round x.vote x.book x.busy x.kept x.waits (w64 (x.ops + 1)) x.replies x.told x.last)) 104, lgP lg d (((recs).length : Nat) : Int) ((sizeS (recs) : Nat) : Int), dkL d (recs), own x.replies ((rs).length) (ints (List.flatMap ReplyT.flat (rs))) 92 3, outP ob (l)]) (Want.plain rfl) rfl rfl rfl rfl rfl sz3 rfl rfl (by have h0 := (RepT.len x); omega) (RepT.set_ops x rfl _) rfl ?_
  refine TL.nil ?_
  refine TE.next hK2 ?_
  clear hK2
  refine TC.seq (fun K3 hK3 => ?_)
  refine TC.region ?_
  refine tp rfl rfl rfl (PV.move rfl rfl) ?_
  refine tp rfl rfl rfl (PV.nilCheck rfl rfl) ?_
  refine tp rfl rfl rfl (PV.fieldAddr (r := 1941) rfl Tryz.underlying104 rfl sz3 rfl rfl) ?_
  refine tp rfl rfl rfl (PV.load1 (v := (.int .i64 ((w64 (x.ops + 1))))) rfl Tryz.underlying3 rfl rfl (Rd.own 1 rfl rfl) (RepT.at_ops (RepT.mk x.id x.log x.view x.own x.mirror x.acc x.round x.vote x.book x.busy x.kept x.waits (w64 (x.ops + 1)) x.replies x.told x.last) rfl)) ?_
  refine tp rfl rfl rfl (PV.assign rfl rfl) ?_
  refine TL.nil ?_
  refine TE.next hK3 ?_
  clear hK3
  refine TC.seq (fun K4 hK4 => ?_)
  refine TC.seq (fun K5 hK5 => ?_)
  refine TC.draw (fun w => Frm F w ∧ w.heap[r]? = some (.cells (RepT.cells (RepT.mk x.id x.log x.view x.own x.mirror x.acc x.round x.vote x.book x.busy x.kept x.waits (w64 (x.ops + 1)) x.replies x.told x.last)).toArray 104 (0, 0)) ∧ w.heap[b5]? = some (.cells (ints o.flat).toArray 38 (0, 0)) ∧ True) mixed rfl (fun _ s => ⟨Frm.of s, s.block 1 (lb rfl) rfl, s.block 0 (lb rfl) rfl, trivial⟩) ?_
  refine TD.take (i := 0) rfl (by kernel_rfl) (by kernel_rfl) (by kernel_rfl) (fun _ _ _ _ h => h) (Want.plain rfl) rfl rfl (PV.move rfl rfl) ?_
  refine TD.take (i := 1) rfl (by kernel_rfl) (by kernel_rfl) (by kernel_rfl) (fun _ _ _ _ h => h) (Want.plain rfl) rfl rfl (PV.nilCheck rfl rfl) ?_
  refine TD.take (i := 2) rfl (by kernel_rfl) (by kernel_rfl) (by kernel_rfl) (fun _ _ _ _ h => h) (Want.plain rfl) rfl rfl (PV.fieldAddr (r := 2) rfl Tryz.underlying104 rfl sz52 rfl rfl) ?_
  refine TD.take (i := 3) rfl (by kernel_rfl) (by kernel_rfl) (by kernel_rfl) (fun _ _ _ _ h => h) (Want.plain rfl) rfl rfl (PV.loadN (vs := ints x.view.flat) rfl Tryz.underlying52 rfl sz52 rfl (fun _ h => h.2.1) (ViewT.len x.view) (RepT.sub_view (RepT.mk x.id x.log x.view x.own x.mirror x.acc x.round x.vote x.book x.busy x.kept x.waits (w64 (x.ops + 1)) x.replies x.told x.last) 0 rfl (by decide) (whole (ViewT.len x.view)))) ?_
  refine TD.take (i := 4) rfl (by kernel_rfl) (by kernel_rfl) (by kernel_rfl) (fun _ _ _ _ h => h) (Want.plain rfl) rfl rfl (PV.move rfl rfl) ?_
  refine TD.take (i := 5) rfl (by kernel_rfl) (by kernel_rfl) (by kernel_rfl) (fun _ _ _ _ h => h) (Want.plain rfl) rfl rfl (PV.nilCheck rfl rfl) ?_
  refine TD.take (i := 6) rfl (by kernel_rfl) (by kernel_rfl) (by kernel_rfl) (fun _ _ _ _ h => h) (Want.plain rfl) rfl rfl (PV.fieldAddr (r := 0) rfl Tryz.underlying104 rfl sz3 rfl rfl) ?_
  refine TD.take (i := 7) rfl (by kernel_rfl) (by kernel_rfl) (by kernel_rfl) (fun _ _ _ _ h => h) (Want.plain rfl) rfl rfl (PV.load1 (v := (.int .i64 (x.id))) rfl Tryz.underlying3 rfl rfl (fun _ h => h.2.1) (RepT.at_id (RepT.mk x.id x.log x.view x.own x.mirror x.acc x.round x.vote x.book x.busy x.kept x.waits (w64 (x.ops + 1)) x.replies x.told x.last) rfl)) ?_
  refine TD.all [8] (by kernel_rfl) rfl ?_
  refine AllT.cons rfl ?_ ?_
  refine TL.callR (A := []) (B := [blkA b5 (ints o.flat) 38, blkA r (RepT.cells (RepT.mk x.id x.log x.view x.own x.mirror x.acc x.round x.vote x.book x.busy x.kept x.waits (w64 (x.ops + 1)) x.replies x.told x.last)) 104, lgP lg d (((recs).length : Nat) : Int) ((sizeS (recs) : Nat) : Int), dkL d (recs), own x.replies ((rs).length) (ints (List.flatMap ReplyT.flat (rs))) 92 3, outP ob (l)]) (Want.plain rfl) rfl rfl rfl nm38 rfl (member_does x.view x.id) (fun _ s => s) (fun _ _ _ => trivial) (fun vR HR hR => ?_)
  obtain ⟨rfl, rfl⟩ := hR
  change TL _ _ _ _ _ _ _ _ _ [blkA b5 (ints o.flat) 38, blkA r (RepT.cells (RepT.mk x.id x.log x.view x.own x.mirror x.acc x.round x.vote x.book x.busy x.kept x.waits (w64 (x.ops + 1)) x.replies x.told x.last)) 104, lgP lg d (((recs).length : Nat) : Int) ((sizeS (recs) : Nat) : Int), dkL d (recs), own x.replies ((rs).length) (ints (List.flatMap ReplyT.flat (rs))) 92 3, outP ob (l)]
  refine TL.decB (fun h30 => ?_) (fun h30 => ?_)
  refine TL.nil ?_
  refine TE.draw (fun _ s => ⟨Frm.of s, s.block 1 (lb rfl) rfl, s.block 0 (lb rfl) rfl, trivial⟩) ?_
  refine TD.take (i := 9) rfl (by kernel_rfl) (by kernel_rfl) (by kernel_rfl) (fun _ _ _ _ h => h) (Want.plain rfl) rfl rfl (PV.move rfl rfl) ?_
  refine TD.take (i := 10) rfl (by kernel_rfl) (by kernel_rfl) (by kernel_rfl) (fun _ _ _ _ h => h) (Want.met rfl rfl rfl) rfl rfl (PV.fieldAddr (r := 0) rfl Tryz.underlying38 rfl sz3 rfl rfl) ?_
  refine TD.take (i := 11) rfl (by kernel_rfl) (by kernel_rfl) (by kernel_rfl) (fun _ _ _ _ h => h) (Want.met rfl rfl rfl) rfl rfl (PV.load1 (v := (.int .i64 (o.kind))) rfl Tryz.underlying3 rfl rfl (fun _ h => h.2.2.1) (OpT.at_kind o rfl)) ?_
  refine TD.take (i := 12) rfl (by kernel_rfl) (by kernel_rfl) (by kernel_rfl) (fun _ _ _ _ h => h) (Want.met rfl rfl rfl) rfl rfl (PV.eql rfl rfl rfl) ?_
  refine TD.dec (fun h34 => ?_) (fun h34 => ?_)
  · exact absurd h34 (hkind h30)
  refine TD.take (i := 13) rfl (by kernel_rfl) (by kernel_rfl) (by kernel_rfl) (fun _ _ _ _ h => h) (Want.plain rfl) rfl rfl (PV.pick rfl rfl rfl) ?_
  refine TD.done (by kernel_rfl) ?_
  refine TE.next hK5 ?_
  clear hK5
  refine TC.no rfl ?_
  refine TC.skip ?_
  refine TE.next hK4 ?_
  clear hK4
  refine TC.seq (fun K6 hK6 => ?_)
  refine TC.region ?_
  refine tp rfl rfl rfl (PV.move rfl rfl) ?_
  refine tp rfl rfl rfl (PV.loadN (vs := ints o.flat) rfl Tryz.underlying38 rfl sz38 rfl (Rd.own 0 rfl rfl) (OpT.len o) (whole (OpT.len o))) ?_
  refine TL.callR (A := [blkA r (RepT.cells (RepT.mk x.id x.log x.view x.own x.mirror x.acc x.round x.vote x.book x.busy x.kept x.waits (w64 (x.ops + 1)) x.replies x.told x.last)) 104]) (B := [blkA b5 (ints o.flat) 38, lgP lg d (((recs).length : Nat) : Int) ((sizeS (recs) : Nat) : Int), dkL d (recs), own x.replies ((rs).length) (ints (List.flatMap ReplyT.flat (rs))) 92 3, outP ob (l)]) (Want.plain rfl) rfl rfl rfl nm40 rfl (plan_does r (RepT.mk x.id x.log x.view x.own x.mirror x.acc x.round x.vote x.book x.busy x.kept x.waits (w64 (x.ops + 1)) x.replies x.told x.last) o) (fun _ s => sep_selR [1] rfl s) (fun _ _ _ => trivial) (fun vR HR hR => ?_)
  obtain ⟨rfl, rfl⟩ := hR
  change TL _ _ _ _ _ _ _ _ _ [blkA r (RepT.cells (RepT.mk x.id x.log x.view x.own x.mirror x.acc x.round x.vote x.book x.busy x.kept x.waits (w64 (x.ops + 1)) x.replies x.told x.last)) 104, blkA b5 (ints o.flat) 38, lgP lg d (((recs).length : Nat) : Int) ((sizeS (recs) : Nat) : Int), dkL d (recs), own x.replies ((rs).length) (ints (List.flatMap ReplyT.flat (rs))) 92 3, outP ob (l)]
  refine tp rfl rfl rfl (PV.move rfl rfl) ?_
  refine tp rfl rfl rfl (PV.extract (vs := [(.agg (ints ((planF (opsF x) o).1).flat).toArray), (.int .i64 ((planF (opsF x) o).2.1)), (.int .i64 ((planF (opsF x) o).2.2))]) rfl rfl rfl) ?_
  refine tp rfl rfl rfl (PV.extract (vs := [(.agg (ints ((planF (opsF x) o).1).flat).toArray), (.int .i64 ((planF (opsF x) o).2.1)), (.int .i64 ((planF (opsF x) o).2.2))]) rfl rfl rfl) ?_
  refine tp rfl rfl rfl (PV.extract (vs := [(.agg (ints ((planF (opsF x) o).1).flat).toArray), (.int .i64 ((planF (opsF x) o).2.1)), (.int .i64 ((planF (opsF x) o).2.2))]) rfl rfl rfl) ?_
  refine TL.alloc (Want.plain rfl) rfl rfl rfl z48 (fun b8 => ?_)
  change TL _ _ _ _ _ _ _ _ _ [blkA b8 (ints RowT.zero.flat) 48, blkA r (RepT.cells (RepT.mk x.id x.log x.view x.own x.mirror x.acc x.round x.vote x.book x.busy x.kept x.waits (w64 (x.ops + 1)) x.replies x.told x.last)) 104, blkA b5 (ints o.flat) 38, lgP lg d (((recs).length : Nat) : Int) ((sizeS (recs) : Nat) : Int), dkL d (recs), own x.replies ((rs).length) (ints (List.flatMap ReplyT.flat (rs))) 92 3, outP ob (l)]
  refine TL.store (vs := ints ((planF (opsF x) o).1).flat) (i := 0) (H' := [blkA b8 (ints ((planF (opsF x) o).1).flat) 48, blkA r (RepT.cells (RepT.mk x.id x.log x.view x.own x.mirror x.acc x.round x.vote x.book x.busy x.kept x.waits (w64 (x.ops + 1)) x.replies x.told x.last)) 104, blkA b5 (ints o.flat) 38, lgP lg d (((recs).length : Nat) : Int) ((sizeS (recs) : Nat) : Int), dkL d (recs), own x.replies ((rs).length) (ints (List.flatMap ReplyT.flat (rs))) 92 3, outP ob (l)]) (Want.plain rfl) rfl rfl rfl rfl rfl (by rw [(RowT.len ((planF (opsF x) o).1))]; exact sz48) (ints_one _) rfl rfl (by have h0 := (RowT.len RowT.zero); have h1 := (RowT.len ((planF (opsF x) o).1)); omega) (wwhole ((RowT.len RowT.zero).trans (RowT.len ((planF (opsF x) o).1)).symm)) rfl ?_
  refine tp rfl rfl rfl (PV.assign rfl rfl) ?_
  refine tp rfl rfl rfl (PV.assign rfl rfl) ?_
  refine TL.nil ?_
  refine TE.next hK6 ?_
  clear hK6
  refine TC.seq (fun K7 hK7 => ?_)
  refine TC.seq (fun K8 hK8 => ?_)
  refine TC.region ?_
  refine tp rfl rfl rfl (PV.move rfl rfl) ?_
  refine tp rfl rfl rfl (PV.neq rfl rfl rfl) ?_
  refine TL.dec (fun h50 => ?_) (fun h50 => ?_)
  refine tp rfl rfl rfl (PV.move rfl rfl) ?_
  refine TL.unmet (b := true) rfl rfl rfl rfl (lb rfl) ?_
  refine TL.unmet (b := true) rfl rfl rfl rfl (lb rfl) ?_
  refine TL.unmet (b := true) rfl rfl rfl rfl (lb rfl) ?_
  refine tp rfl rfl rfl (PV.pick rfl rfl rfl) ?_
  refine TL.nil ?_
  refine TE.next hK8 ?_
  clear hK8
  refine TC.yes rfl ?_
  refine TC.seq (fun K9 hK9 => ?_)
  refine TC.region ?_
  refine tp rfl rfl rfl (PV.move rfl rfl) ?_
  refine tp rfl rfl rfl (PV.move rfl rfl) ?_
  refine tp rfl rfl rfl (PV.move rfl rfl) ?_
  refine tp rfl rfl rfl (PV.move rfl rfl) ?_
  refine TL.callR (A := [blkA r (RepT.cells (RepT.mk x.id x.log x.view x.own x.mirror x.acc x.round x.vote x.book x.busy x.kept x.waits (w64 (x.ops + 1)) x.replies x.told x.last)) 104, own x.replies ((rs).length) (ints (List.flatMap ReplyT.flat (rs))) 92 3]) (B := [blkA b8 (ints ((planF (opsF x) o).1).flat) 48, blkA b5 (ints o.flat) 38, lgP lg d (((recs).length : Nat) : Int) ((sizeS (recs) : Nat) : Int), dkL d (recs), outP ob (l)]) (Want.plain rfl) rfl rfl rfl nm41 rfl (reply_does r (RepT.mk x.id x.log x.view x.own x.mirror x.acc x.round x.vote x.book x.busy x.kept x.waits (w64 (x.ops + 1)) x.replies x.told x.last) (w64 (x.ops + 1)) ((planF (opsF x) o).2.2) ((planF (opsF x) o).2.1) (rs) hrs) (fun _ s => sep_selR [1, 4] rfl s) (fun _ _ _ => trivial) (fun vR HR hR => ?_)
  obtain ⟨vr1, hovr1, rfl⟩ := hR
  change TL _ _ _ _ _ _ _ _ _ [blkA r (RepT.cells (RepT.mk x.id x.log x.view x.own x.mirror x.acc x.round x.vote x.book x.busy x.kept x.waits (w64 (x.ops + 1)) vr1 x.told x.last)) 104, own vr1 ((rs ++ [ReplyT.mk (w64 (x.ops + 1)) ((planF (opsF x) o).2.2) ((planF (opsF x) o).2.1)]).length) (ints (List.flatMap ReplyT.flat (rs ++ [ReplyT.mk (w64 (x.ops + 1)) ((planF (opsF x) o).2.2) ((planF (opsF x) o).2.1)]))) 92 3, blkA b8 (ints ((planF (opsF x) o).1).flat) 48, blkA b5 (ints o.flat) 38, lgP lg d (((recs).length : Nat) : Int) ((sizeS (recs) : Nat) : Int), dkL d (recs), outP ob (l)]
  refine TL.nil ?_
  refine TE.next hK9 ?_
  clear hK9
  refine TC.seq (fun K10 hK10 => ?_)
  refine TC.region ?_
  refine tp rfl rfl rfl (PV.move rfl rfl) ?_
  refine tp rfl rfl rfl (PV.assign rfl rfl) ?_
  refine TL.nil ?_
  refine TE.next hK10 ?_
  clear hK10
  refine TC.ret ?_
  refine TE.passRet ?_
  clear hK7
  refine TE.weak (Sub.refl _) (fun _ s => sep_keep [0, 3, 3, 0, 2] rfl s) ?_
  refine TE.ret1 rfl rfl ?_
  have e : doneB x o = true := decide_eq_true (.inl h50)
  simp only [clientX, clientC, clientR, clientO, e, Bool.false_eq_true, ↓reduceIte, List.append_nil]
  exact ⟨rfl, _, hovr1, rfl⟩
  refine tp rfl rfl rfl (PV.move rfl rfl) ?_
  refine tq rfl rfl rfl rfl rfl (PV.fieldAddr (r := 0) rfl Tryz.underlying38 rfl sz3 rfl rfl) ?_
  refine tq rfl rfl rfl rfl rfl (PV.load1 (v := (.int .i64 (o.kind))) rfl Tryz.underlying3 rfl rfl (Rd.own 2 rfl rfl) (OpT.at_kind o rfl)) ?_
  refine tq rfl rfl rfl rfl rfl (PV.eql rfl rfl rfl) ?_
  refine TL.dec (fun h54 => ?_) (fun h54 => ?_)
  refine tp rfl rfl rfl (PV.pick rfl rfl rfl) ?_
  refine TL.nil ?_
  refine TE.next hK8 ?_
  clear hK8
  refine TC.yes rfl ?_
  refine TC.seq (fun K11 hK11 => ?_)
  refine TC.region ?_
  refine tp rfl rfl rfl (PV.move rfl rfl) ?_
  refine tp rfl rfl rfl (PV.move rfl rfl) ?_
  refine tp rfl rfl rfl (PV.move rfl rfl) ?_
  refine tp rfl rfl rfl (PV.move rfl rfl) ?_
  refine TL.callR (A := [blkA r (RepT.cells (RepT.mk x.id x.log x.view x.own x.mirror x.acc x.round x.vote x.book x.busy x.kept x.waits (w64 (x.ops + 1)) x.replies x.told x.last)) 104, own x.replies ((rs).length) (ints (List.flatMap ReplyT.flat (rs))) 92 3]) (B := [blkA b8 (ints ((planF (opsF x) o).1).flat) 48, blkA b5 (ints o.flat) 38, lgP lg d (((recs).length : Nat) : Int) ((sizeS (recs) : Nat) : Int), dkL d (recs), outP ob (l)]) (Want.plain rfl) rfl rfl rfl nm41 rfl (reply_does r (RepT.mk x.id x.log x.view x.own x.mirror x.acc x.round x.vote x.book x.busy x.kept x.waits (w64 (x.ops + 1)) x.replies x.told x.last) (w64 (x.ops + 1)) ((planF (opsF x) o).2.2) ((planF (opsF x) o).2.1) (rs) hrs) (fun _ s => sep_selR [1, 4] rfl s) (fun _ _ _ => trivial) (fun vR HR hR => ?_)
  obtain ⟨vr1, hovr1, rfl⟩ := hR
  change TL _ _ _ _ _ _ _ _ _ [blkA r (RepT.cells (RepT.mk x.id x.log x.view x.own x.mirror x.acc x.round x.vote x.book x.busy x.kept x.waits (w64 (x.ops + 1)) vr1 x.told x.last)) 104, own vr1 ((rs ++ [ReplyT.mk (w64 (x.ops + 1)) ((planF (opsF x) o).2.2) ((planF (opsF x) o).2.1)]).length) (ints (List.flatMap ReplyT.flat (rs ++ [ReplyT.mk (w64 (x.ops + 1)) ((planF (opsF x) o).2.2) ((planF (opsF x) o).2.1)]))) 92 3, blkA b8 (ints ((planF (opsF x) o).1).flat) 48, blkA b5 (ints o.flat) 38, lgP lg d (((recs).length : Nat) : Int) ((sizeS (recs) : Nat) : Int), dkL d (recs), outP ob (l)]
  refine TL.nil ?_
  refine TE.next hK11 ?_
  clear hK11
  refine TC.seq (fun K12 hK12 => ?_)
  refine TC.region ?_
  refine tp rfl rfl rfl (PV.move rfl rfl) ?_
  refine tp rfl rfl rfl (PV.assign rfl rfl) ?_
  refine TL.nil ?_
  refine TE.next hK12 ?_
  clear hK12
  refine TC.ret ?_
  refine TE.passRet ?_
  clear hK7
  refine TE.weak (Sub.refl _) (fun _ s => sep_keep [0, 3, 3, 0, 2] rfl s) ?_
  refine TE.ret1 rfl rfl ?_
  have e : doneB x o = true := decide_eq_true (.inr h54)
  simp only [clientX, clientC, clientR, clientO, e, Bool.false_eq_true, ↓reduceIte, List.append_nil]
  exact ⟨rfl, _, hovr1, rfl⟩
  refine tp rfl rfl rfl (PV.pick rfl rfl rfl) ?_
  refine TL.nil ?_
  refine TE.next hK8 ?_
  clear hK8
  refine TC.no rfl ?_
  refine TC.skip ?_
  refine TE.next hK7 ?_
  clear hK7
  refine TC.seq (fun K13 hK13 => ?_)
  refine TC.seq (fun K14 hK14 => ?_)
  refine TC.region ?_
  refine tp rfl rfl rfl (PV.move rfl rfl) ?_
  refine tp rfl rfl rfl (PV.move rfl rfl) ?_
  refine tp rfl rfl rfl (PV.loadN (vs := ints ((planF (opsF x) o).1).flat) rfl Tryz.underlying48 rfl sz48 rfl (Rd.own 0 rfl rfl) (RowT.len ((planF (opsF x) o).1)) (whole (RowT.len ((planF (opsF x) o).1)))) ?_
  refine tp rfl rfl rfl (PV.move rfl rfl) ?_
  refine TL.callR (A := [blkA r (RepT.cells (RepT.mk x.id x.log x.view x.own x.mirror x.acc x.round x.vote x.book x.busy x.kept x.waits (w64 (x.ops + 1)) x.replies x.told x.last)) 104, lgP lg d (((recs).length : Nat) : Int) ((sizeS (recs) : Nat) : Int), dkL d (recs), outP ob (l)]) (B := [blkA b8 (ints ((planF (opsF x) o).1).flat) 48, blkA b5 (ints o.flat) 38, own x.replies ((rs).length) (ints (List.flatMap ReplyT.flat (rs))) 92 3]) (Want.plain rfl) rfl rfl rfl nm42 rfl (grow_does r ob lg d (RepT.mk x.id x.log x.view x.own x.mirror x.acc x.round x.vote x.book x.busy x.kept x.waits (w64 (x.ops + 1)) x.replies x.told x.last) ((planF (opsF x) o).1) (w64 (x.ops + 1)) (recs) (l) hlog (hroom (show (planF (opsF x) o).2.2 = 0 by omega) h54) hl hid) (fun _ s => sep_selR [1, 2, 2, 3] rfl s) (fun _ _ _ => trivial) (fun vR HR hR => ?_)
  obtain ⟨rfl, rfl⟩ := hR
  change TL _ _ _ _ _ _ _ _ _ [blkA r (RepT.cells (growF (opsF x) ((planF (opsF x) o).1) (opsF x).ops)) 104, lgP lg d (((recs ++ [encR (rowRec ((planF (opsF x) o).1))]).length : Nat) : Int) ((sizeS (recs ++ [encR (rowRec ((planF (opsF x) o).1))]) : Nat) : Int), dkL d (recs ++ [encR (rowRec ((planF (opsF x) o).1))]), outP ob (l ++ tellL (growF (opsF x) ((planF (opsF x) o).1) (opsF x).ops)), blkA b8 (ints ((planF (opsF x) o).1).flat) 48, blkA b5 (ints o.flat) 38, own x.replies ((rs).length) (ints (List.flatMap ReplyT.flat (rs))) 92 3]
  refine tp rfl rfl rfl (PV.assign rfl rfl) ?_
  refine TL.nil ?_
  refine TE.next hK14 ?_
  clear hK14
  refine TC.seq (fun K15 hK15 => ?_)
  refine TC.region ?_
  refine tp rfl rfl rfl (PV.move rfl rfl) ?_
  refine tp rfl rfl rfl (PV.neq rfl rfl rfl) ?_
  refine TL.nil ?_
  refine TE.next hK15 ?_
  clear hK15
  refine TC.no rfl ?_
  refine TC.skip ?_
  refine TE.next hK13 ?_
  clear hK13
  refine TC.seq (fun K16 hK16 => ?_)
  refine TC.region ?_
  refine tp rfl rfl rfl (PV.move rfl rfl) ?_
  refine tp rfl rfl rfl (PV.assign rfl rfl) ?_
  refine TL.nil ?_
  refine TE.next hK16 ?_
  clear hK16
  refine TC.ret ?_
  refine TE.weak (Sub.refl _) (fun _ s => sep_keep [0, 0, 0, 3, 0] rfl s) ?_
  refine TE.ret1 rfl rfl ?_
  have e0 : (cN x o).2.2 = 0 := by show (planF (opsF x) o).2.2 = 0; omega
  have e : doneB x o = false := decide_eq_false (fun h => by rcases h with h | h; exact h e0; exact h54 h)
  simp only [clientX, clientC, clientR, clientO, e, Bool.false_eq_true, ↓reduceIte, List.append_nil]
  exact ⟨by rw [e0], _, hone, rfl⟩
  refine TL.nil ?_
  refine TE.draw (fun _ s => ⟨Frm.of s, s.block 1 (lb rfl) rfl, s.block 0 (lb rfl) rfl, trivial⟩) ?_
  refine TD.take (i := 9) rfl (by kernel_rfl) (by kernel_rfl) (by kernel_rfl) (fun _ _ _ _ h => h) (Want.plain rfl) rfl rfl (PV.move rfl rfl) ?_
  refine TD.takeNot (i := 10) (b := false) rfl (by kernel_rfl) (by kernel_rfl) (by kernel_rfl) (fun _ _ _ _ h => h) rfl rfl rfl rfl rfl ?_
  refine TD.takeNot (i := 11) (b := false) rfl (by kernel_rfl) (by kernel_rfl) (by kernel_rfl) (fun _ _ _ _ h => h) rfl rfl rfl rfl rfl ?_
  refine TD.takeNot (i := 12) (b := false) rfl (by kernel_rfl) (by kernel_rfl) (by kernel_rfl) (fun _ _ _ _ h => h) rfl rfl rfl rfl rfl ?_
  refine TD.take (i := 13) rfl (by kernel_rfl) (by kernel_rfl) (by kernel_rfl) (fun _ _ _ _ h => h) (Want.plain rfl) rfl rfl (PV.pick rfl rfl rfl) ?_
  refine TD.done (by kernel_rfl) ?_
  refine TE.next hK5 ?_
  clear hK5
  refine TC.no rfl ?_
  refine TC.skip ?_
  refine TE.next hK4 ?_
  clear hK4
  refine TC.seq (fun K17 hK17 => ?_)
  refine TC.region ?_
  refine tp rfl rfl rfl (PV.move rfl rfl) ?_
  refine tp rfl rfl rfl (PV.loadN (vs := ints o.flat) rfl Tryz.underlying38 rfl sz38 rfl (Rd.own 0 rfl rfl) (OpT.len o) (whole (OpT.len o))) ?_
  refine TL.callR (A := [blkA r (RepT.cells (RepT.mk x.id x.log x.view x.own x.mirror x.acc x.round x.vote x.book x.busy x.kept x.waits (w64 (x.ops + 1)) x.replies x.told x.last)) 104]) (B := [blkA b5 (ints o.flat) 38, lgP lg d (((recs).length : Nat) : Int) ((sizeS (recs) : Nat) : Int), dkL d (recs), own x.replies ((rs).length) (ints (List.flatMap ReplyT.flat (rs))) 92 3, outP ob (l)]) (Want.plain rfl) rfl rfl rfl nm40 rfl (plan_does r (RepT.mk x.id x.log x.view x.own x.mirror x.acc x.round x.vote x.book x.busy x.kept x.waits (w64 (x.ops + 1)) x.replies x.told x.last) o) (fun _ s => sep_selR [1] rfl s) (fun _ _ _ => trivial) (fun vR HR hR => ?_)
  obtain ⟨rfl, rfl⟩ := hR
  change TL _ _ _ _ _ _ _ _ _ [blkA r (RepT.cells (RepT.mk x.id x.log x.view x.own x.mirror x.acc x.round x.vote x.book x.busy x.kept x.waits (w64 (x.ops + 1)) x.replies x.told x.last)) 104, blkA b5 (ints o.flat) 38, lgP lg d (((recs).length : Nat) : Int) ((sizeS (recs) : Nat) : Int), dkL d (recs), own x.replies ((rs).length) (ints (List.flatMap ReplyT.flat (rs))) 92 3, outP ob (l)]
  refine tp rfl rfl rfl (PV.move rfl rfl) ?_
  refine tp rfl rfl rfl (PV.extract (vs := [(.agg (ints ((planF (opsF x) o).1).flat).toArray), (.int .i64 ((planF (opsF x) o).2.1)), (.int .i64 ((planF (opsF x) o).2.2))]) rfl rfl rfl) ?_
  refine tp rfl rfl rfl (PV.extract (vs := [(.agg (ints ((planF (opsF x) o).1).flat).toArray), (.int .i64 ((planF (opsF x) o).2.1)), (.int .i64 ((planF (opsF x) o).2.2))]) rfl rfl rfl) ?_
  refine tp rfl rfl rfl (PV.extract (vs := [(.agg (ints ((planF (opsF x) o).1).flat).toArray), (.int .i64 ((planF (opsF x) o).2.1)), (.int .i64 ((planF (opsF x) o).2.2))]) rfl rfl rfl) ?_
  refine TL.alloc (Want.plain rfl) rfl rfl rfl z48 (fun b8 => ?_)
  change TL _ _ _ _ _ _ _ _ _ [blkA b8 (ints RowT.zero.flat) 48, blkA r (RepT.cells (RepT.mk x.id x.log x.view x.own x.mirror x.acc x.round x.vote x.book x.busy x.kept x.waits (w64 (x.ops + 1)) x.replies x.told x.last)) 104, blkA b5 (ints o.flat) 38, lgP lg d (((recs).length : Nat) : Int) ((sizeS (recs) : Nat) : Int), dkL d (recs), own x.replies ((rs).length) (ints (List.flatMap ReplyT.flat (rs))) 92 3, outP ob (l)]
  refine TL.store (vs := ints ((planF (opsF x) o).1).flat) (i := 0) (H' := [blkA b8 (ints ((planF (opsF x) o).1).flat) 48, blkA r (RepT.cells (RepT.mk x.id x.log x.view x.own x.mirror x.acc x.round x.vote x.book x.busy x.kept x.waits (w64 (x.ops + 1)) x.replies x.told x.last)) 104, blkA b5 (ints o.flat) 38, lgP lg d (((recs).length : Nat) : Int) ((sizeS (recs) : Nat) : Int), dkL d (recs), own x.replies ((rs).length) (ints (List.flatMap ReplyT.flat (rs))) 92 3, outP ob (l)]) (Want.plain rfl) rfl rfl rfl rfl rfl (by rw [(RowT.len ((planF (opsF x) o).1))]; exact sz48) (ints_one _) rfl rfl (by have h0 := (RowT.len RowT.zero); have h1 := (RowT.len ((planF (opsF x) o).1)); omega) (wwhole ((RowT.len RowT.zero).trans (RowT.len ((planF (opsF x) o).1)).symm)) rfl ?_
  refine tp rfl rfl rfl (PV.assign rfl rfl) ?_
  refine tp rfl rfl rfl (PV.assign rfl rfl) ?_
  refine TL.nil ?_
  refine TE.next hK17 ?_
  clear hK17
  refine TC.seq (fun K18 hK18 => ?_)
  refine TC.seq (fun K19 hK19 => ?_)
  refine TC.region ?_
  refine tp rfl rfl rfl (PV.move rfl rfl) ?_
  refine tp rfl rfl rfl (PV.neq rfl rfl rfl) ?_
  refine TL.dec (fun h50 => ?_) (fun h50 => ?_)
  refine tp rfl rfl rfl (PV.move rfl rfl) ?_
  refine TL.unmet (b := true) rfl rfl rfl rfl (lb rfl) ?_
  refine TL.unmet (b := true) rfl rfl rfl rfl (lb rfl) ?_
  refine TL.unmet (b := true) rfl rfl rfl rfl (lb rfl) ?_
  refine tp rfl rfl rfl (PV.pick rfl rfl rfl) ?_
  refine TL.nil ?_
  refine TE.next hK19 ?_
  clear hK19
  refine TC.yes rfl ?_
  refine TC.seq (fun K20 hK20 => ?_)
  refine TC.region ?_
  refine tp rfl rfl rfl (PV.move rfl rfl) ?_
  refine tp rfl rfl rfl (PV.move rfl rfl) ?_
  refine tp rfl rfl rfl (PV.move rfl rfl) ?_
  refine tp rfl rfl rfl (PV.move rfl rfl) ?_
  refine TL.callR (A := [blkA r (RepT.cells (RepT.mk x.id x.log x.view x.own x.mirror x.acc x.round x.vote x.book x.busy x.kept x.waits (w64 (x.ops + 1)) x.replies x.told x.last)) 104, own x.replies ((rs).length) (ints (List.flatMap ReplyT.flat (rs))) 92 3]) (B := [blkA b8 (ints ((planF (opsF x) o).1).flat) 48, blkA b5 (ints o.flat) 38, lgP lg d (((recs).length : Nat) : Int) ((sizeS (recs) : Nat) : Int), dkL d (recs), outP ob (l)]) (Want.plain rfl) rfl rfl rfl nm41 rfl (reply_does r (RepT.mk x.id x.log x.view x.own x.mirror x.acc x.round x.vote x.book x.busy x.kept x.waits (w64 (x.ops + 1)) x.replies x.told x.last) (w64 (x.ops + 1)) ((planF (opsF x) o).2.2) ((planF (opsF x) o).2.1) (rs) hrs) (fun _ s => sep_selR [1, 4] rfl s) (fun _ _ _ => trivial) (fun vR HR hR => ?_)
  obtain ⟨vr1, hovr1, rfl⟩ := hR
  change TL _ _ _ _ _ _ _ _ _ [blkA r (RepT.cells (RepT.mk x.id x.log x.view x.own x.mirror x.acc x.round x.vote x.book x.busy x.kept x.waits (w64 (x.ops + 1)) vr1 x.told x.last)) 104, own vr1 ((rs ++ [ReplyT.mk (w64 (x.ops + 1)) ((planF (opsF x) o).2.2) ((planF (opsF x) o).2.1)]).length) (ints (List.flatMap ReplyT.flat (rs ++ [ReplyT.mk (w64 (x.ops + 1)) ((planF (opsF x) o).2.2) ((planF (opsF x) o).2.1)]))) 92 3, blkA b8 (ints ((planF (opsF x) o).1).flat) 48, blkA b5 (ints o.flat) 38, lgP lg d (((recs).length : Nat) : Int) ((sizeS (recs) : Nat) : Int), dkL d (recs), outP ob (l)]
  refine TL.nil ?_
  refine TE.next hK20 ?_
  clear hK20
  refine TC.seq (fun K21 hK21 => ?_)
  refine TC.region ?_
  refine tp rfl rfl rfl (PV.move rfl rfl) ?_
  refine tp rfl rfl rfl (PV.assign rfl rfl) ?_
  refine TL.nil ?_
  refine TE.next hK21 ?_
  clear hK21
  refine TC.ret ?_
  refine TE.passRet ?_
  clear hK18
  refine TE.weak (Sub.refl _) (fun _ s => sep_keep [0, 3, 3, 0, 2] rfl s) ?_
  refine TE.ret1 rfl rfl ?_
  have e : doneB x o = true := decide_eq_true (.inl h50)
  simp only [clientX, clientC, clientR, clientO, e, Bool.false_eq_true, ↓reduceIte, List.append_nil]
  exact ⟨rfl, _, hovr1, rfl⟩
  refine tp rfl rfl rfl (PV.move rfl rfl) ?_
  refine tq rfl rfl rfl rfl rfl (PV.fieldAddr (r := 0) rfl Tryz.underlying38 rfl sz3 rfl rfl) ?_
  refine tq rfl rfl rfl rfl rfl (PV.load1 (v := (.int .i64 (o.kind))) rfl Tryz.underlying3 rfl rfl (Rd.own 2 rfl rfl) (OpT.at_kind o rfl)) ?_
  refine tq rfl rfl rfl rfl rfl (PV.eql rfl rfl rfl) ?_
  refine TL.dec (fun h54 => ?_) (fun h54 => ?_)
  refine tp rfl rfl rfl (PV.pick rfl rfl rfl) ?_
  refine TL.nil ?_
  refine TE.next hK19 ?_
  clear hK19
  refine TC.yes rfl ?_
  refine TC.seq (fun K22 hK22 => ?_)
  refine TC.region ?_
  refine tp rfl rfl rfl (PV.move rfl rfl) ?_
  refine tp rfl rfl rfl (PV.move rfl rfl) ?_
  refine tp rfl rfl rfl (PV.move rfl rfl) ?_
  refine tp rfl rfl rfl (PV.move rfl rfl) ?_
  refine TL.callR (A := [blkA r (RepT.cells (RepT.mk x.id x.log x.view x.own x.mirror x.acc x.round x.vote x.book x.busy x.kept x.waits (w64 (x.ops + 1)) x.replies x.told x.last)) 104, own x.replies ((rs).length) (ints (List.flatMap ReplyT.flat (rs))) 92 3]) (B := [blkA b8 (ints ((planF (opsF x) o).1).flat) 48, blkA b5 (ints o.flat) 38, lgP lg d (((recs).length : Nat) : Int) ((sizeS (recs) : Nat) : Int), dkL d (recs), outP ob (l)]) (Want.plain rfl) rfl rfl rfl nm41 rfl (reply_does r (RepT.mk x.id x.log x.view x.own x.mirror x.acc x.round x.vote x.book x.busy x.kept x.waits (w64 (x.ops + 1)) x.replies x.told x.last) (w64 (x.ops + 1)) ((planF (opsF x) o).2.2) ((planF (opsF x) o).2.1) (rs) hrs) (fun _ s => sep_selR [1, 4] rfl s) (fun _ _ _ => trivial) (fun vR HR hR => ?_)
  obtain ⟨vr1, hovr1, rfl⟩ := hR
  change TL _ _ _ _ _ _ _ _ _ [blkA r (RepT.cells (RepT.mk x.id x.log x.view x.own x.mirror x.acc x.round x.vote x.book x.busy x.kept x.waits (w64 (x.ops + 1)) vr1 x.told x.last)) 104, own vr1 ((rs ++ [ReplyT.mk (w64 (x.ops + 1)) ((planF (opsF x) o).2.2) ((planF (opsF x) o).2.1)]).length) (ints (List.flatMap ReplyT.flat (rs ++ [ReplyT.mk (w64 (x.ops + 1)) ((planF (opsF x) o).2.2) ((planF (opsF x) o).2.1)]))) 92 3, blkA b8 (ints ((planF (opsF x) o).1).flat) 48, blkA b5 (ints o.flat) 38, lgP lg d (((recs).length : Nat) : Int) ((sizeS (recs) : Nat) : Int), dkL d (recs), outP ob (l)]
  refine TL.nil ?_
  refine TE.next hK22 ?_
  clear hK22
  refine TC.seq (fun K23 hK23 => ?_)
  refine TC.region ?_
  refine tp rfl rfl rfl (PV.move rfl rfl) ?_
  refine tp rfl rfl rfl (PV.assign rfl rfl) ?_
  refine TL.nil ?_
  refine TE.next hK23 ?_
  clear hK23
  refine TC.ret ?_
  refine TE.passRet ?_
  clear hK18
  refine TE.weak (Sub.refl _) (fun _ s => sep_keep [0, 3, 3, 0, 2] rfl s) ?_
  refine TE.ret1 rfl rfl ?_
  have e : doneB x o = true := decide_eq_true (.inr h54)
  simp only [clientX, clientC, clientR, clientO, e, Bool.false_eq_true, ↓reduceIte, List.append_nil]
  exact ⟨rfl, _, hovr1, rfl⟩
  refine tp rfl rfl rfl (PV.pick rfl rfl rfl) ?_
  refine TL.nil ?_
  refine TE.next hK19 ?_
  clear hK19
  refine TC.no rfl ?_
  refine TC.skip ?_
  refine TE.next hK18 ?_
  clear hK18
  refine TC.seq (fun K24 hK24 => ?_)
  refine TC.seq (fun K25 hK25 => ?_)
  refine TC.region ?_
  refine tp rfl rfl rfl (PV.move rfl rfl) ?_
  refine tp rfl rfl rfl (PV.move rfl rfl) ?_
  refine tp rfl rfl rfl (PV.loadN (vs := ints ((planF (opsF x) o).1).flat) rfl Tryz.underlying48 rfl sz48 rfl (Rd.own 0 rfl rfl) (RowT.len ((planF (opsF x) o).1)) (whole (RowT.len ((planF (opsF x) o).1)))) ?_
  refine tp rfl rfl rfl (PV.move rfl rfl) ?_
  refine TL.callR (A := [blkA r (RepT.cells (RepT.mk x.id x.log x.view x.own x.mirror x.acc x.round x.vote x.book x.busy x.kept x.waits (w64 (x.ops + 1)) x.replies x.told x.last)) 104, lgP lg d (((recs).length : Nat) : Int) ((sizeS (recs) : Nat) : Int), dkL d (recs), outP ob (l)]) (B := [blkA b8 (ints ((planF (opsF x) o).1).flat) 48, blkA b5 (ints o.flat) 38, own x.replies ((rs).length) (ints (List.flatMap ReplyT.flat (rs))) 92 3]) (Want.plain rfl) rfl rfl rfl nm42 rfl (grow_does r ob lg d (RepT.mk x.id x.log x.view x.own x.mirror x.acc x.round x.vote x.book x.busy x.kept x.waits (w64 (x.ops + 1)) x.replies x.told x.last) ((planF (opsF x) o).1) (w64 (x.ops + 1)) (recs) (l) hlog (hroom (show (planF (opsF x) o).2.2 = 0 by omega) h54) hl hid) (fun _ s => sep_selR [1, 2, 2, 3] rfl s) (fun _ _ _ => trivial) (fun vR HR hR => ?_)
  obtain ⟨rfl, rfl⟩ := hR
  change TL _ _ _ _ _ _ _ _ _ [blkA r (RepT.cells (growF (opsF x) ((planF (opsF x) o).1) (opsF x).ops)) 104, lgP lg d (((recs ++ [encR (rowRec ((planF (opsF x) o).1))]).length : Nat) : Int) ((sizeS (recs ++ [encR (rowRec ((planF (opsF x) o).1))]) : Nat) : Int), dkL d (recs ++ [encR (rowRec ((planF (opsF x) o).1))]), outP ob (l ++ tellL (growF (opsF x) ((planF (opsF x) o).1) (opsF x).ops)), blkA b8 (ints ((planF (opsF x) o).1).flat) 48, blkA b5 (ints o.flat) 38, own x.replies ((rs).length) (ints (List.flatMap ReplyT.flat (rs))) 92 3]
  refine tp rfl rfl rfl (PV.assign rfl rfl) ?_
  refine TL.nil ?_
  refine TE.next hK25 ?_
  clear hK25
  refine TC.seq (fun K26 hK26 => ?_)
  refine TC.region ?_
  refine tp rfl rfl rfl (PV.move rfl rfl) ?_
  refine tp rfl rfl rfl (PV.neq rfl rfl rfl) ?_
  refine TL.nil ?_
  refine TE.next hK26 ?_
  clear hK26
  refine TC.no rfl ?_
  refine TC.skip ?_
  refine TE.next hK24 ?_
  clear hK24
  refine TC.seq (fun K27 hK27 => ?_)
  refine TC.region ?_
  refine tp rfl rfl rfl (PV.move rfl rfl) ?_
  refine tp rfl rfl rfl (PV.assign rfl rfl) ?_
  refine TL.nil ?_
  refine TE.next hK27 ?_
  clear hK27
  refine TC.ret ?_
  refine TE.weak (Sub.refl _) (fun _ s => sep_keep [0, 0, 0, 3, 0] rfl s) ?_
  refine TE.ret1 rfl rfl ?_
  have e0 : (cN x o).2.2 = 0 := by show (planF (opsF x) o).2.2 = 0; omega
  have e : doneB x o = false := decide_eq_false (fun h => by rcases h with h | h; exact h e0; exact h54 h)
  simp only [clientX, clientC, clientR, clientO, e, Bool.false_eq_true, ↓reduceIte, List.append_nil]
  exact ⟨by rw [e0], _, hone, rfl⟩
  exact AllT.nil
end Go.Proofs.YtfceaphohlbnbaaGreat
end
