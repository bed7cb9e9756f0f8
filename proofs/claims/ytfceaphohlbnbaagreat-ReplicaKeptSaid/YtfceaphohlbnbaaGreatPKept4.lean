/-
  Joined texts: what a statement's proof reaches.
-/
import Derived.Test.YtfceaphohlbnbaaGreatPKept3
section
namespace Go.Proofs.YtfceaphohlbnbaaGreat

open Go Leg Codec Api Dsk Wal

set_option maxRecDepth 100000

theorem of_does (x : Value) (ps : List (List UInt8)) :
    Does Tryz.prog 131 #[x] (IsBB x ps) [] (Ret (fun v H => v = .int .u32 (crcOf ps.flatten) ∧ H = [])) := by
  refine Does.body (vs := [x]) (n := 39) Tryz.func131 rfl rfl rfl (fun w0 F hF => ?_)
  refine TC.seq (fun K1 hK1 => ?_)
  refine TC.region ?_
  refine tp rfl rfl rfl (PV.assign rfl rfl) ?_
  refine TL.nil ?_
  refine TE.next hK1 ?_
  clear hK1
  refine TC.seq (fun K2 hK2 => ?_)
  refine TC.region ?_
  refine tp rfl rfl rfl (PV.assign rfl rfl) ?_
  refine TL.nil ?_
  refine TE.next hK2 ?_
  clear hK2
  refine TC.seq (fun K3 hK3 => ?_)
  refine TC.seq (fun K4 hK4 => ?_)
  refine TC.region ?_
  refine tp rfl rfl rfl (PV.move rfl rfl) ?_
  refine tp rfl rfl rfl (PV.lenV rfl Tryz.underlying97 rfl hF.len) ?_
  refine tp rfl rfl rfl (PV.move rfl rfl) ?_
  refine TL.nil ?_
  refine TE.next hK4 ?_
  clear hK4
  refine TC.block ?_
  refine TC.loop (α := (Nat)) (fun k => k ≤ ps.length) (fun k => [(2, (.int .u32 0)), (3, (.int .u32 (crcRun 4294967295 (ps.take k).flatten))), (8, x), (9, (.int .i64 (((ps.length : Nat) : Int)))), (10, (.int .i64 (((k : Nat) : Int))))]) (fun k => []) (fun k => ps.length - k) 0
      (Nat.zero_le _) (Sub.r (Sub.cons rfl (by congr 1) (Sub.r (Sub.r (Sub.cons rfl (by congr 1) (Sub.nil _))))))
      (fun _ s => s) (fun k hinv => ?_)
  obtain hk := hinv
  refine TC.seq (fun K5 hK5 => ?_)
  refine TC.region ?_
  refine tp rfl rfl rfl (PV.lss rfl rfl rfl) ?_
  refine TL.dec (fun h11 => ?_) (fun h11 => ?_)
  obtain ⟨b_a, off_a, cap_a, cs_a, T_a, z_a, us_a, hv_a, hc_a, hb_a, hl_a, hs_a, hE_a⟩ := IsL.at hF (j := k) (by omega)
  obtain ⟨u_a, rfl, hu_a⟩ := hE_a
  refine TL.nil ?_
  refine TE.next hK5 ?_
  clear hK5
  refine TC.seq (fun K6 hK6 => ?_)
  refine TC.yes rfl ?_
  refine TC.skip ?_
  refine TE.next hK6 ?_
  clear hK6
  refine TC.seq (fun K7 hK7 => ?_)
  refine TC.block ?_
  refine TC.seq (fun K8 hK8 => ?_)
  refine TC.region ?_
  refine tp rfl rfl rfl (PV.indexSlV (r := off_a + k) hv_a rfl Tryz.underlying97 sz106 rfl rfl (by omega) (by omega) (by omega)) ?_
  refine tp rfl rfl rfl (PV.load1X (v := u_a) rfl Tryz.underlying106 rfl rfl (RdX.frm hb_a (fun _ h => Frm.of h)) (by have := stretch_get (j := 0) hs_a rfl; simpa using this)) ?_
  refine tp rfl rfl rfl (PV.assign rfl rfl) ?_
  refine TL.nil ?_
  refine TE.next hK8 ?_
  clear hK8
  refine TC.seq (fun K9 hK9 => ?_)
  refine TC.region ?_
  refine tp rfl rfl rfl (PV.move rfl rfl) ?_
  refine tp rfl rfl rfl (PV.lenV rfl Tryz.underlying106 rfl hu_a.len) ?_
  refine tp rfl rfl rfl (PV.move rfl rfl) ?_
  refine TL.nil ?_
  refine TE.next hK9 ?_
  clear hK9
  refine TC.block ?_
  refine TC.loop (α := (Nat)) (fun j => j ≤ ps[k].length) (fun j => [(2, (.int .u32 0)), (3, (.int .u32 (crcRun (crcRun 4294967295 (ps.take k).flatten) (ps[k].take j)))), (8, x), (9, (.int .i64 (((ps.length : Nat) : Int)))), (10, (.int .i64 (((k : Nat) : Int)))), (14, u_a), (15, (.int .i64 (((ps[k].length : Nat) : Int)))), (16, (.int .i64 (((j : Nat) : Int))))]) (fun j => []) (fun j => ps[k].length - j) 0
      (Nat.zero_le _) (Sub.r (Sub.cons rfl (by congr 1) (Sub.r (Sub.r (Sub.r (Sub.r (Sub.r (Sub.cons rfl (by congr 1) (Sub.nil _)))))))))
      (fun _ s => s) (fun j hinv => ?_)
  obtain hj := hinv
  refine TC.seq (fun K10 hK10 => ?_)
  refine TC.region ?_
  refine tp rfl rfl rfl (PV.lss rfl rfl rfl) ?_
  refine TL.dec (fun h17 => ?_) (fun h17 => ?_)
  obtain ⟨b_b, off_b, cap_b, cs_b, T_b, z_b, hv_b, hb_b, hcs_b, hcp_b⟩ := IsW.at hu_a (j := j) (by omega)
  have hlt_b := IsW.lt hu_a
  refine TL.nil ?_
  refine TE.next hK10 ?_
  clear hK10
  refine TC.seq (fun K11 hK11 => ?_)
  refine TC.yes rfl ?_
  refine TC.skip ?_
  refine TE.next hK11 ?_
  clear hK11
  refine TC.seq (fun K12 hK12 => ?_)
  refine TC.block ?_
  refine TC.seq (fun K13 hK13 => ?_)
  refine TC.region ?_
  refine tp rfl rfl rfl (PV.indexSlV (r := off_b + j) hv_b rfl Tryz.underlying106 sz5 rfl rfl (by omega) (by omega) (by omega)) ?_
  refine tp rfl rfl rfl (PV.load1X (v := (.int .u8 (((((ps[k]).getD j 0).toNat : Nat) : Int)))) rfl Tryz.underlying5 rfl rfl (RdX.frm hb_b (fun _ h => Frm.of h)) (hcs_b j (by omega))) ?_
  refine tp rfl rfl rfl (PV.assign rfl rfl) ?_
  refine TL.nil ?_
  refine TE.next hK13 ?_
  clear hK13
  refine TC.seq (fun K14 hK14 => ?_)
  refine TC.region ?_
  refine tp rfl rfl rfl (PV.move rfl rfl) ?_
  refine tp rfl rfl rfl (PV.move rfl rfl) ?_
  refine tp rfl rfl rfl (PV.convI (r := ((((ps[k]).getD j 0).toNat : Nat) : Int)) rfl Tryz.underlying5 Tryz.underlying207 rfl (wrap_u32 (by omega) (by have := (ps[k].getD j 0).toNat_lt; omega))) ?_
  refine tp rfl rfl rfl (PV.xor (r := xorI .u32 (crcRun (crcRun 4294967295 (ps.take k).flatten) (ps[k].take j)) (((((ps[k]).getD j 0).toNat : Nat) : Int))) rfl rfl rfl rfl) ?_
  refine tp rfl rfl rfl (PV.assign rfl rfl) ?_
  refine TL.nil ?_
  refine TE.next hK14 ?_
  clear hK14
  refine TC.seq (fun K15 hK15 => ?_)
  refine TC.region ?_
  refine tp rfl rfl rfl (PV.move rfl rfl) ?_
  refine TL.nil ?_
  refine TE.next hK15 ?_
  clear hK15
  refine TC.block ?_
  refine TC.loop (α := (Nat)) (fun i => i ≤ 8) (fun i => [(2, (.int .u32 0)), (3, (.int .u32 (crcBits (xorI .u32 (crcRun (crcRun 4294967295 (ps.take k).flatten) (ps[k].take j)) ((((ps[k]).getD j 0).toNat : Nat) : Int)) i))), (8, x), (9, (.int .i64 (((ps.length : Nat) : Int)))), (10, (.int .i64 (((k : Nat) : Int)))), (14, u_a), (15, (.int .i64 (((ps[k].length : Nat) : Int)))), (16, (.int .i64 (((j : Nat) : Int)))), (24, (.int .i64 (((i : Nat) : Int))))]) (fun i => []) (fun i => 8 - i) 0
      (Nat.zero_le _) (Sub.r (Sub.cons rfl (by congr 1) (Sub.r (Sub.r (Sub.r (Sub.r (Sub.r (Sub.r (Sub.cons rfl (by congr 1) (Sub.nil _))))))))))
      (fun _ s => s) (fun i hinv => ?_)
  obtain hi := hinv
  refine TC.seq (fun K16 hK16 => ?_)
  refine TC.region ?_
  refine tp rfl rfl rfl (PV.lss rfl rfl rfl) ?_
  refine TL.dec (fun h25 => ?_) (fun h25 => ?_)
  refine TL.nil ?_
  refine TE.next hK16 ?_
  clear hK16
  refine TC.seq (fun K17 hK17 => ?_)
  refine TC.yes rfl ?_
  refine TC.skip ?_
  refine TE.next hK17 ?_
  clear hK17
  refine TC.seq (fun K18 hK18 => ?_)
  refine TC.block ?_
  refine TC.seq (fun K19 hK19 => ?_)
  refine TC.region ?_
  refine tp rfl rfl rfl (PV.move rfl rfl) ?_
  refine tp rfl rfl rfl (PV.and (r := andI .u32 (crcBits (xorI .u32 (crcRun (crcRun 4294967295 (ps.take k).flatten) (ps[k].take j)) ((((ps[k]).getD j 0).toNat : Nat) : Int)) i) 1) rfl rfl rfl rfl) ?_
  refine tp rfl rfl rfl (PV.eql rfl rfl rfl) ?_
  refine TL.dec (fun h28 => ?_) (fun h28 => ?_)
  refine TL.nil ?_
  refine TE.next hK19 ?_
  clear hK19
  refine TC.yes rfl ?_
  refine TC.region ?_
  refine tp rfl rfl rfl (PV.move rfl rfl) ?_
  refine tp rfl rfl rfl (PV.shr (r := (crcBits (xorI .u32 (crcRun (crcRun 4294967295 (ps.take k).flatten) (ps[k].take j)) ((((ps[k]).getD j 0).toNat : Nat) : Int)) i).fdiv 2) rfl rfl rfl (by omega) rfl) ?_
  refine tp rfl rfl rfl (PV.xor (r := xorI .u32 ((crcBits (xorI .u32 (crcRun (crcRun 4294967295 (ps.take k).flatten) (ps[k].take j)) ((((ps[k]).getD j 0).toNat : Nat) : Int)) i).fdiv 2) 3988292384) rfl rfl rfl rfl) ?_
  refine tp rfl rfl rfl (PV.assign rfl rfl) ?_
  refine TL.nil ?_
  refine TE.blockEnd ?_
  refine TE.next hK18 ?_
  clear hK18
  refine TC.region ?_
  refine tp rfl rfl rfl (PV.add rfl rfl rfl (wrap_i64 (by omega) (by omega))) ?_
  refine tp rfl rfl rfl (PV.move rfl rfl) ?_
  refine TL.nil ?_
  exact TE.round ((i + 1) : (Nat)) (by omega) (by show 8 - (i + 1) < 8 - i; omega)
    (Sub.r (Sub.cons rfl (congrArg (Value.int .u32) (by rw [crcBits, crcBit, if_pos h28])) (Sub.r (Sub.r (Sub.r (Sub.r (Sub.r (Sub.r (Sub.cons rfl (by simp) (Sub.nil _))))))))))
    (fun _ s => s)
  refine TL.nil ?_
  refine TE.next hK19 ?_
  clear hK19
  refine TC.no rfl ?_
  refine TC.region ?_
  refine tp rfl rfl rfl (PV.move rfl rfl) ?_
  refine tp rfl rfl rfl (PV.shr (r := (crcBits (xorI .u32 (crcRun (crcRun 4294967295 (ps.take k).flatten) (ps[k].take j)) ((((ps[k]).getD j 0).toNat : Nat) : Int)) i).fdiv 2) rfl rfl rfl (by omega) rfl) ?_
  refine tp rfl rfl rfl (PV.assign rfl rfl) ?_
  refine TL.nil ?_
  refine TE.blockEnd ?_
  refine TE.next hK18 ?_
  clear hK18
  refine TC.region ?_
  refine tp rfl rfl rfl (PV.add rfl rfl rfl (wrap_i64 (by omega) (by omega))) ?_
  refine tp rfl rfl rfl (PV.move rfl rfl) ?_
  refine TL.nil ?_
  exact TE.round ((i + 1) : (Nat)) (by omega) (by show 8 - (i + 1) < 8 - i; omega)
    (Sub.r (Sub.cons rfl (congrArg (Value.int .u32) (by rw [crcBits, crcBit, if_neg h28])) (Sub.r (Sub.r (Sub.r (Sub.r (Sub.r (Sub.r (Sub.cons rfl (by simp) (Sub.nil _))))))))))
    (fun _ s => s)
  refine TL.nil ?_
  refine TE.next hK16 ?_
  clear hK16
  refine TC.seq (fun K20 hK20 => ?_)
  refine TC.no rfl ?_
  refine TC.exit ?_
  refine TE.pass ?_
  clear hK20
  refine TE.pass ?_
  refine TE.hit ?_
  refine TE.blockEnd ?_
  refine TE.next hK12 ?_
  clear hK12
  refine TC.region ?_
  refine tp rfl rfl rfl (PV.add rfl rfl rfl (wrap_i64 (by omega) (by omega))) ?_
  refine tp rfl rfl rfl (PV.move rfl rfl) ?_
  refine TL.nil ?_
  exact TE.round ((j + 1) : (Nat)) (by omega) (by show ps[k].length - (j + 1) < ps[k].length - j; omega)
    (Sub.r (Sub.cons rfl (congrArg (Value.int .u32) (by obtain rfl : i = 8 := (by omega); rw [crcRun_take (by omega)]; rfl)) (Sub.r (Sub.r (Sub.r (Sub.r (Sub.r (Sub.cons rfl (by simp) (Sub.nil _)))))))))
    (fun _ s => s)
  refine TL.nil ?_
  refine TE.next hK10 ?_
  clear hK10
  refine TC.seq (fun K21 hK21 => ?_)
  refine TC.no rfl ?_
  refine TC.exit ?_
  refine TE.pass ?_
  clear hK21
  refine TE.pass ?_
  refine TE.hit ?_
  refine TE.blockEnd ?_
  refine TE.next hK7 ?_
  clear hK7
  refine TC.region ?_
  refine tp rfl rfl rfl (PV.add rfl rfl rfl (wrap_i64 (by omega) (by omega))) ?_
  refine tp rfl rfl rfl (PV.move rfl rfl) ?_
  refine TL.nil ?_
  exact TE.round ((k + 1) : (Nat)) (by omega) (by show ps.length - (k + 1) < ps.length - k; omega)
    (Sub.r (Sub.cons rfl (congrArg (Value.int .u32) (by rw [show j = ps[k].length by omega, List.take_length, crcRun_flat (by omega)])) (Sub.r (Sub.r (Sub.cons rfl (by simp) (Sub.nil _))))))
    (fun _ s => s)
  refine TL.nil ?_
  refine TE.next hK5 ?_
  clear hK5
  refine TC.seq (fun K22 hK22 => ?_)
  refine TC.no rfl ?_
  refine TC.exit ?_
  refine TE.pass ?_
  clear hK22
  refine TE.pass ?_
  refine TE.hit ?_
  refine TE.next hK3 ?_
  clear hK3
  refine TC.seq (fun K23 hK23 => ?_)
  refine TC.region ?_
  refine tp rfl rfl rfl (PV.move rfl rfl) ?_
  refine tp rfl rfl rfl (PV.com (r := xorI .u32 4294967295 (crcRun 4294967295 (ps.take k).flatten)) rfl rfl rfl) ?_
  refine tp rfl rfl rfl (PV.assign rfl rfl) ?_
  refine TL.nil ?_
  refine TE.next hK23 ?_
  clear hK23
  refine TC.ret ?_
  refine TE.weak (Sub.refl _) (fun _ s => sep_keep [] rfl s) ?_
  refine TE.ret1 rfl rfl ?_
  obtain rfl : k = ps.length := by omega
  rw [List.take_length]
  exact ⟨rfl, rfl⟩
theorem sumPut_does (x : Value) (bs : List UInt8) (hb : bs.length ≤ 1000000000) :
    Does Tryz.prog 132 #[x] (IsW x bs) [] (Ret (fun v H => H = [ownB v (putP bs) 5])) := by
  refine Does.body (vs := [x]) (n := 29) Tryz.func132 rfl rfl rfl (fun w0 F hF => ?_)
  refine TC.seq (fun K1 hK1 => ?_)
  refine TC.region ?_
  refine tp rfl rfl rfl (PV.assign rfl rfl) ?_
  refine TL.nil ?_
  refine TE.next hK1 ?_
  clear hK1
  refine TC.seq (fun K2 hK2 => ?_)
  refine TC.region ?_
  refine tp rfl rfl rfl (PV.move rfl rfl) ?_
  refine TL.buildSlice (cells := #[x]) (Want.plain rfl) rfl rfl rfl Tryz.underlying97 in106 rfl rfl rfl (fill_one hF.one (by simp)) (fun b6 => ?_)
  change TL _ _ _ _ _ _ _ _ _ [blkA b6 [x] 106]
  refine TL.callR (A := []) (B := [blkA b6 [x] 106]) (Want.plain rfl) rfl rfl rfl nm131 rfl (of_does (.slice (some ⟨b6, 0, none⟩) (1) (1)) [bs]) (fun _ s => s) (isBB_one hF 0 rfl rfl) (fun vR HR hR => ?_)
  obtain ⟨rfl, rfl⟩ := hR
  rw [show [bs].flatten = bs by simp]
  change TL _ _ _ _ _ _ _ _ _ [blkA b6 [x] 106]
  refine tp rfl rfl rfl (PV.assign rfl rfl) ?_
  refine TL.nil ?_
  refine TE.next hK2 ?_
  clear hK2
  refine TC.seq (fun K3 hK3 => ?_)
  refine TC.region ?_
  refine tp rfl rfl rfl (PV.move rfl rfl) ?_
  refine tp rfl rfl rfl (PV.lenV rfl Tryz.underlying106 rfl hF.len) ?_
  refine tp rfl rfl rfl (PV.add rfl rfl rfl (wrap_i64 (by omega) (by omega))) ?_
  refine TL.makeB (0) (bs.length + 4) (Want.plain rfl) rfl rfl rfl Tryz.underlying106 in5 rfl rfl rfl (by omega) (by omega) (by omega) (fun b11 => ?_)
  refine TL.mono (H' := [ownB (.slice (some ⟨b11, 0, none⟩) 0 (bs.length + 4)) ([]) 5, blkA b6 [x] 106]) (fun _ s => sep_own 0 rfl rfl (by omega) (by simp only [maxLen]; omega) (by simp [u8s]) rfl s) ?_
  refine tp rfl rfl rfl (PV.assign rfl rfl) ?_
  refine TL.nil ?_
  refine TE.next hK3 ?_
  clear hK3
  refine TC.seq (fun K4 hK4 => ?_)
  refine TC.region ?_
  refine tp rfl rfl rfl (PV.move rfl rfl) ?_
  refine tp rfl rfl rfl (PV.move rfl rfl) ?_
  refine TL.append (k := 0) (news := u8s (bs)) (nn' := (bs : List UInt8).length) (xs' := u8s (bs)) (Want.plain rfl) rfl rfl rfl Tryz.underlying106 in5 rfl rfl rfl rfl rfl rfl (fun _ _ => hF.src (fun _ h => Frm.of h)) (u8s_one _) (by simp only [maxLen, List.length_nil]; omega) (by simp only [List.length_nil]; omega) (by simp) (List.nil_append _) (fun v14 ov14 => ?_)
  change TL _ _ _ _ _ _ _ _ _ [ownB v14 (bs) 5, blkA b6 [x] 106]
  refine tp rfl rfl rfl (PV.assign rfl rfl) ?_
  refine TL.nil ?_
  refine TE.next hK4 ?_
  clear hK4
  refine TC.seq (fun K5 hK5 => ?_)
  refine TC.region ?_
  refine tp rfl rfl rfl (PV.move rfl rfl) ?_
  refine tp rfl rfl rfl (PV.move rfl rfl) ?_
  refine tp rfl rfl rfl (PV.convI (r := (((r8 (crcOf bs)).toNat : Nat) : Int)) rfl Tryz.underlying207 Tryz.underlying5 rfl (r8_wrap _)) ?_
  refine tp rfl rfl rfl (PV.move rfl rfl) ?_
  refine tp rfl rfl rfl (PV.shr (r := (crcOf bs).fdiv 256) rfl rfl rfl (by omega) rfl) ?_
  refine tp rfl rfl rfl (PV.convI (r := (((r8 ((crcOf bs).fdiv 256)).toNat : Nat) : Int)) rfl Tryz.underlying207 Tryz.underlying5 rfl (r8_wrap _)) ?_
  refine tp rfl rfl rfl (PV.move rfl rfl) ?_
  refine tp rfl rfl rfl (PV.shr (r := (crcOf bs).fdiv 65536) rfl rfl rfl (by omega) rfl) ?_
  refine tp rfl rfl rfl (PV.convI (r := (((r8 ((crcOf bs).fdiv 65536)).toNat : Nat) : Int)) rfl Tryz.underlying207 Tryz.underlying5 rfl (r8_wrap _)) ?_
  refine tp rfl rfl rfl (PV.move rfl rfl) ?_
  refine tp rfl rfl rfl (PV.shr (r := (crcOf bs).fdiv 16777216) rfl rfl rfl (by omega) rfl) ?_
  refine tp rfl rfl rfl (PV.convI (r := (((r8 ((crcOf bs).fdiv 16777216)).toNat : Nat) : Int)) rfl Tryz.underlying207 Tryz.underlying5 rfl (r8_wrap _)) ?_
  refine TL.buildSlice (cells := #[(.int .u8 ((((r8 (crcOf bs)).toNat : Nat) : Int))), (.int .u8 ((((r8 ((crcOf bs).fdiv 256)).toNat : Nat) : Int))), (.int .u8 ((((r8 ((crcOf bs).fdiv 65536)).toNat : Nat) : Int))), (.int .u8 ((((r8 ((crcOf bs).fdiv 16777216)).toNat : Nat) : Int)))]) (Want.plain rfl) rfl rfl rfl Tryz.underlying106 in5 rfl rfl rfl (by as_aux_lemma => kernel_rfl) (fun b27 => ?_)
  change TL _ _ _ _ _ _ _ _ _ [blkA b27 [(.int .u8 ((((r8 (crcOf bs)).toNat : Nat) : Int))), (.int .u8 ((((r8 ((crcOf bs).fdiv 256)).toNat : Nat) : Int))), (.int .u8 ((((r8 ((crcOf bs).fdiv 65536)).toNat : Nat) : Int))), (.int .u8 ((((r8 ((crcOf bs).fdiv 16777216)).toNat : Nat) : Int)))] 5, ownB v14 (bs) 5, blkA b6 [x] 106]
  refine TL.append (k := 1) (news := u8s ([(r8 (crcOf bs)), (r8 ((crcOf bs).fdiv 256)), (r8 ((crcOf bs).fdiv 65536)), (r8 ((crcOf bs).fdiv 16777216))])) (nn' := (bs ++ [(r8 (crcOf bs)), (r8 ((crcOf bs).fdiv 256)), (r8 ((crcOf bs).fdiv 65536)), (r8 ((crcOf bs).fdiv 16777216))] : List UInt8).length) (xs' := u8s (bs ++ [(r8 (crcOf bs)), (r8 ((crcOf bs).fdiv 256)), (r8 ((crcOf bs).fdiv 65536)), (r8 ((crcOf bs).fdiv 16777216))])) (Want.plain rfl) rfl rfl rfl Tryz.underlying106 in5 rfl rfl rfl rfl rfl rfl (fun _ _ => Src.rd rfl (Rd.own 0 rfl rfl) rfl) (u8s_one [(r8 (crcOf bs)), (r8 ((crcOf bs).fdiv 256)), (r8 ((crcOf bs).fdiv 65536)), (r8 ((crcOf bs).fdiv 16777216))]) (by simp only [maxLen]; omega) (by omega) (by simp) (u8s_append _ _).symm (fun v28 ov28 => ?_)
  change TL _ _ _ _ _ _ _ _ _ [blkA b27 [(.int .u8 ((((r8 (crcOf bs)).toNat : Nat) : Int))), (.int .u8 ((((r8 ((crcOf bs).fdiv 256)).toNat : Nat) : Int))), (.int .u8 ((((r8 ((crcOf bs).fdiv 65536)).toNat : Nat) : Int))), (.int .u8 ((((r8 ((crcOf bs).fdiv 16777216)).toNat : Nat) : Int)))] 5, ownB v28 (bs ++ [(r8 (crcOf bs)), (r8 ((crcOf bs).fdiv 256)), (r8 ((crcOf bs).fdiv 65536)), (r8 ((crcOf bs).fdiv 16777216))]) 5, blkA b6 [x] 106]
  refine tp rfl rfl rfl (PV.assign rfl rfl) ?_
  refine TL.nil ?_
  refine TE.next hK5 ?_
  clear hK5
  refine TC.ret ?_
  refine TE.weak (Sub.refl _) (fun _ s => sep_keep [1] rfl s) ?_
  refine TE.ret1 rfl rfl ?_
  exact rfl
theorem take_form (a : Option Addr) (c : Nat) (bs : List UInt8) (hc : bs.length ≤ c) (hb : bs.length ≤ 1000000000) :
    Does Tryz.prog 119 #[(.slice a bs.length c)] (IsW (.slice a bs.length c) bs) [] (Ret (fun v H => (takeP bs = none ∧ v = .tuple #[.slice none 0 0, .bool false] ∧ H = []) ∨ ∃ t u, takeP bs = some t ∧ v = .tuple #[u, .bool true] ∧ H = [ownB u t 5])) := by
  refine Does.body (vs := [(.slice a bs.length c)]) (n := 50) Tryz.func119 rfl rfl rfl (fun w0 F hF => ?_)
  refine TC.seq (fun K1 hK1 => ?_)
  refine TC.region ?_
  refine tp rfl rfl rfl (PV.assign rfl rfl) ?_
  refine tp rfl rfl rfl (PV.assign rfl rfl) ?_
  refine TL.nil ?_
  refine TE.next hK1 ?_
  clear hK1
  refine TC.seq (fun K2 hK2 => ?_)
  refine TC.seq (fun K3 hK3 => ?_)
  refine TC.region ?_
  refine tp rfl rfl rfl (PV.move rfl rfl) ?_
  refine tp rfl rfl rfl (PV.lenV rfl Tryz.underlying106 rfl ⟨_, _, rfl⟩) ?_
  refine tp rfl rfl rfl (PV.lss rfl rfl rfl) ?_
  refine TL.dec (fun h9 => ?_) (fun h9 => ?_)
  refine TL.nil ?_
  refine TE.next hK3 ?_
  clear hK3
  refine TC.yes rfl ?_
  refine TC.seq (fun K4 hK4 => ?_)
  refine TC.region ?_
  refine tp rfl rfl rfl (PV.assign rfl rfl) ?_
  refine tp rfl rfl rfl (PV.assign rfl rfl) ?_
  refine TL.nil ?_
  refine TE.next hK4 ?_
  clear hK4
  refine TC.ret ?_
  refine TE.passRet ?_
  clear hK2
  refine TE.weak (Sub.refl _) (fun _ s => sep_keep [] rfl s) ?_
  refine TE.ret2 rfl rfl rfl ?_
  exact .inl ⟨by rw [takeP, if_pos (by omega)], rfl, rfl⟩
  have hT : IsW (cutLH (.slice a bs.length c) 0 (bs.length - 4)) (bs.take (bs.length - 4)) F := by have := hF.cut (lo := 0) (hi := bs.length - 4) (by omega) (by omega); simpa using this
  have hU : IsW (cutLH (.slice a bs.length c) (bs.length - 4) bs.length) (bs.drop (bs.length - 4)) F := by have := hF.cut (lo := bs.length - 4) (hi := bs.length) (by omega) (by omega); rwa [List.take_length] at this
  have hq : (bs.drop (bs.length - 4)).length = 4 := by rw [List.length_drop]; omega
  obtain ⟨b_b, off_b, cap_b, cs_b, T_b, z_b, hv_b, hb_b, hcs_b, hcp_b⟩ := IsW.at hU (j := 0) (by omega)
  have hlt_b := IsW.lt hU
  refine TL.nil ?_
  refine TE.next hK3 ?_
  clear hK3
  refine TC.no rfl ?_
  refine TC.skip ?_
  refine TE.next hK2 ?_
  clear hK2
  refine TC.seq (fun K5 hK5 => ?_)
  refine TC.draw (fun w => Frm F w ∧ True) mixedD rfl (fun _ s => ⟨Frm.of s, trivial⟩) ?_
  refine TD.take (i := 0) rfl (by kernel_rfl) (by kernel_rfl) (by kernel_rfl) (fun _ _ _ _ h => h) (Want.plain rfl) rfl rfl (PV.move rfl rfl) ?_
  refine TD.take (i := 1) rfl (by kernel_rfl) (by kernel_rfl) (by kernel_rfl) (fun _ _ _ _ h => h) (Want.plain rfl) rfl rfl (PV.move rfl rfl) ?_
  refine TD.take (i := 2) rfl (by kernel_rfl) (by kernel_rfl) (by kernel_rfl) (fun _ _ _ _ h => h) (Want.plain rfl) rfl rfl (PV.lenV rfl Tryz.underlying106 rfl ⟨_, _, rfl⟩) ?_
  refine TD.take (i := 3) rfl (by kernel_rfl) (by kernel_rfl) (by kernel_rfl) (fun _ _ _ _ h => h) (Want.plain rfl) rfl rfl (PV.sub (r := (((bs.length - 4 : Nat) : Nat) : Int)) rfl rfl rfl (by rw [show (((bs.length : Nat) : Int) - 4) = ((bs.length - 4 : Nat) : Int) by omega]; exact wrap_i64 (by omega) (by omega))) ?_
  refine TD.take (i := 4) rfl (by kernel_rfl) (by kernel_rfl) (by kernel_rfl) (fun _ _ _ _ h => h) (Want.plain rfl) rfl rfl (PV.sliceH (hi := bs.length - 4) rfl Tryz.underlying106 sz5 rfl rfl rfl (by omega)) ?_
  refine TD.take (i := 5) rfl (by kernel_rfl) (by kernel_rfl) (by kernel_rfl) (fun _ _ _ _ h => h) (Want.plain rfl) rfl rfl (PV.move rfl rfl) ?_
  refine TD.take (i := 6) rfl (by kernel_rfl) (by kernel_rfl) (by kernel_rfl) (fun _ _ _ _ h => h) (Want.plain rfl) rfl rfl (PV.move rfl rfl) ?_
  refine TD.take (i := 7) rfl (by kernel_rfl) (by kernel_rfl) (by kernel_rfl) (fun _ _ _ _ h => h) (Want.plain rfl) rfl rfl (PV.lenV rfl Tryz.underlying106 rfl ⟨_, _, rfl⟩) ?_
  refine TD.take (i := 8) rfl (by kernel_rfl) (by kernel_rfl) (by kernel_rfl) (fun _ _ _ _ h => h) (Want.plain rfl) rfl rfl (PV.sub (r := (((bs.length - 4 : Nat) : Nat) : Int)) rfl rfl rfl (by rw [show (((bs.length : Nat) : Int) - 4) = ((bs.length - 4 : Nat) : Int) by omega]; exact wrap_i64 (by omega) (by omega))) ?_
  refine TD.take (i := 9) rfl (by kernel_rfl) (by kernel_rfl) (by kernel_rfl) (fun _ _ _ _ h => h) (Want.plain rfl) rfl rfl (PV.sliceL (lo := bs.length - 4) rfl Tryz.underlying106 sz5 rfl rfl rfl (by omega)) ?_
  refine TD.take (i := 10) rfl (by kernel_rfl) (by kernel_rfl) (by kernel_rfl) (fun _ _ _ _ h => h) (Want.plain rfl) rfl rfl (PV.assign rfl rfl) ?_
  refine TD.take (i := 11) rfl (by kernel_rfl) (by kernel_rfl) (by kernel_rfl) (fun _ _ _ _ h => h) (Want.plain rfl) rfl rfl (PV.assign rfl rfl) ?_
  refine TD.done (by kernel_rfl) ?_
  refine TE.next hK5 ?_
  clear hK5
  refine TC.seq (fun K6 hK6 => ?_)
  refine TC.draw (fun w => Frm F w ∧ True) mixedD rfl (fun _ s => ⟨Frm.of s, trivial⟩) ?_
  refine TD.take (i := 0) rfl (by kernel_rfl) (by kernel_rfl) (by kernel_rfl) (fun _ _ _ _ h => h) (Want.plain rfl) rfl rfl (PV.move rfl rfl) ?_
  refine TD.take (i := 1) rfl (by kernel_rfl) (by kernel_rfl) (by kernel_rfl) (fun _ _ _ _ h => h) (Want.plain rfl) rfl rfl (PV.indexSlV (r := off_b) hv_b rfl Tryz.underlying106 sz5 rfl rfl (by omega) (by omega) (by omega)) ?_
  refine TD.take (i := 2) rfl (by kernel_rfl) (by kernel_rfl) (by kernel_rfl) (fun _ _ _ _ h => h) (Want.plain rfl) rfl rfl (PV.load1X (v := (.int .u8 ((((((bs.drop (bs.length - 4))).getD 0 0).toNat : Nat) : Int)))) rfl Tryz.underlying5 rfl rfl (RdX.frm hb_b (fun _ h => h.1)) (hcs_b 0 (by omega))) ?_
  refine TD.take (i := 3) rfl (by kernel_rfl) (by kernel_rfl) (by kernel_rfl) (fun _ _ _ _ h => h) (Want.plain rfl) rfl rfl (PV.convI (r := (((((bs.drop (bs.length - 4))).getD 0 0).toNat : Nat) : Int)) rfl Tryz.underlying5 Tryz.underlying207 rfl (wrap_u32 (by omega) (by have := UInt8.toNat_lt (n := (bs.drop (bs.length - 4)).getD 0 0); omega))) ?_
  refine TD.take (i := 4) rfl (by kernel_rfl) (by kernel_rfl) (by kernel_rfl) (fun _ _ _ _ h => h) (Want.plain rfl) rfl rfl (PV.move rfl rfl) ?_
  refine TD.take (i := 5) rfl (by kernel_rfl) (by kernel_rfl) (by kernel_rfl) (fun _ _ _ _ h => h) (Want.plain rfl) rfl rfl (PV.indexSlV (r := off_b + 1) hv_b rfl Tryz.underlying106 sz5 rfl rfl (by omega) (by omega) (by omega)) ?_
  refine TD.take (i := 6) rfl (by kernel_rfl) (by kernel_rfl) (by kernel_rfl) (fun _ _ _ _ h => h) (Want.plain rfl) rfl rfl (PV.load1X (v := (.int .u8 ((((((bs.drop (bs.length - 4))).getD 1 0).toNat : Nat) : Int)))) rfl Tryz.underlying5 rfl rfl (RdX.frm hb_b (fun _ h => h.1)) (hcs_b 1 (by omega))) ?_
  refine TD.take (i := 7) rfl (by kernel_rfl) (by kernel_rfl) (by kernel_rfl) (fun _ _ _ _ h => h) (Want.plain rfl) rfl rfl (PV.convI (r := (((((bs.drop (bs.length - 4))).getD 1 0).toNat : Nat) : Int)) rfl Tryz.underlying5 Tryz.underlying207 rfl (wrap_u32 (by omega) (by have := UInt8.toNat_lt (n := (bs.drop (bs.length - 4)).getD 1 0); omega))) ?_
  refine TD.take (i := 8) rfl (by kernel_rfl) (by kernel_rfl) (by kernel_rfl) (fun _ _ _ _ h => h) (Want.plain rfl) rfl rfl (PV.shl (r := IntKind.u32.wrap ((((((bs.drop (bs.length - 4))).getD 1 0).toNat : Nat) : Int) * 2 ^ 8)) rfl rfl rfl (by omega) rfl) ?_
  refine TD.take (i := 9) rfl (by kernel_rfl) (by kernel_rfl) (by kernel_rfl) (fun _ _ _ _ h => h) (Want.plain rfl) rfl rfl (PV.or (r := orI .u32 (((((bs.drop (bs.length - 4))).getD 0 0).toNat : Nat) : Int) (IntKind.u32.wrap ((((((bs.drop (bs.length - 4))).getD 1 0).toNat : Nat) : Int) * 2 ^ 8))) rfl rfl rfl rfl) ?_
  refine TD.take (i := 10) rfl (by kernel_rfl) (by kernel_rfl) (by kernel_rfl) (fun _ _ _ _ h => h) (Want.plain rfl) rfl rfl (PV.move rfl rfl) ?_
  refine TD.take (i := 11) rfl (by kernel_rfl) (by kernel_rfl) (by kernel_rfl) (fun _ _ _ _ h => h) (Want.plain rfl) rfl rfl (PV.indexSlV (r := off_b + 2) hv_b rfl Tryz.underlying106 sz5 rfl rfl (by omega) (by omega) (by omega)) ?_
  refine TD.take (i := 12) rfl (by kernel_rfl) (by kernel_rfl) (by kernel_rfl) (fun _ _ _ _ h => h) (Want.plain rfl) rfl rfl (PV.load1X (v := (.int .u8 ((((((bs.drop (bs.length - 4))).getD 2 0).toNat : Nat) : Int)))) rfl Tryz.underlying5 rfl rfl (RdX.frm hb_b (fun _ h => h.1)) (hcs_b 2 (by omega))) ?_
  refine TD.take (i := 13) rfl (by kernel_rfl) (by kernel_rfl) (by kernel_rfl) (fun _ _ _ _ h => h) (Want.plain rfl) rfl rfl (PV.convI (r := (((((bs.drop (bs.length - 4))).getD 2 0).toNat : Nat) : Int)) rfl Tryz.underlying5 Tryz.underlying207 rfl (wrap_u32 (by omega) (by have := UInt8.toNat_lt (n := (bs.drop (bs.length - 4)).getD 2 0); omega))) ?_
  refine TD.take (i := 14) rfl (by kernel_rfl) (by kernel_rfl) (by kernel_rfl) (fun _ _ _ _ h => h) (Want.plain rfl) rfl rfl (PV.shl (r := IntKind.u32.wrap ((((((bs.drop (bs.length - 4))).getD 2 0).toNat : Nat) : Int) * 2 ^ 16)) rfl rfl rfl (by omega) rfl) ?_
  refine TD.take (i := 15) rfl (by kernel_rfl) (by kernel_rfl) (by kernel_rfl) (fun _ _ _ _ h => h) (Want.plain rfl) rfl rfl (PV.or (r := orI .u32 (orI .u32 (((((bs.drop (bs.length - 4))).getD 0 0).toNat : Nat) : Int) (IntKind.u32.wrap ((((((bs.drop (bs.length - 4))).getD 1 0).toNat : Nat) : Int) * 2 ^ 8))) (IntKind.u32.wrap ((((((bs.drop (bs.length - 4))).getD 2 0).toNat : Nat) : Int) * 2 ^ 16))) rfl rfl rfl rfl) ?_
  refine TD.take (i := 16) rfl (by kernel_rfl) (by kernel_rfl) (by kernel_rfl) (fun _ _ _ _ h => h) (Want.plain rfl) rfl rfl (PV.move rfl rfl) ?_
  refine TD.take (i := 17) rfl (by kernel_rfl) (by kernel_rfl) (by kernel_rfl) (fun _ _ _ _ h => h) (Want.plain rfl) rfl rfl (PV.indexSlV (r := off_b + 3) hv_b rfl Tryz.underlying106 sz5 rfl rfl (by omega) (by omega) (by omega)) ?_
  refine TD.take (i := 18) rfl (by kernel_rfl) (by kernel_rfl) (by kernel_rfl) (fun _ _ _ _ h => h) (Want.plain rfl) rfl rfl (PV.load1X (v := (.int .u8 ((((((bs.drop (bs.length - 4))).getD 3 0).toNat : Nat) : Int)))) rfl Tryz.underlying5 rfl rfl (RdX.frm hb_b (fun _ h => h.1)) (hcs_b 3 (by omega))) ?_
  refine TD.take (i := 19) rfl (by kernel_rfl) (by kernel_rfl) (by kernel_rfl) (fun _ _ _ _ h => h) (Want.plain rfl) rfl rfl (PV.convI (r := (((((bs.drop (bs.length - 4))).getD 3 0).toNat : Nat) : Int)) rfl Tryz.underlying5 Tryz.underlying207 rfl (wrap_u32 (by omega) (by have := UInt8.toNat_lt (n := (bs.drop (bs.length - 4)).getD 3 0); omega))) ?_
  refine TD.take (i := 20) rfl (by kernel_rfl) (by kernel_rfl) (by kernel_rfl) (fun _ _ _ _ h => h) (Want.plain rfl) rfl rfl (PV.shl (r := IntKind.u32.wrap ((((((bs.drop (bs.length - 4))).getD 3 0).toNat : Nat) : Int) * 2 ^ 24)) rfl rfl rfl (by omega) rfl) ?_
  refine TD.take (i := 21) rfl (by kernel_rfl) (by kernel_rfl) (by kernel_rfl) (fun _ _ _ _ h => h) (Want.plain rfl) rfl rfl (PV.or (r := le32 ((bs.drop (bs.length - 4)).getD 0 0) ((bs.drop (bs.length - 4)).getD 1 0) ((bs.drop (bs.length - 4)).getD 2 0) ((bs.drop (bs.length - 4)).getD 3 0)) rfl rfl rfl rfl) ?_
  refine TD.take (i := 22) rfl (by kernel_rfl) (by kernel_rfl) (by kernel_rfl) (fun _ _ _ _ h => h) (Want.plain rfl) rfl rfl (PV.assign rfl rfl) ?_
  refine TD.done (by kernel_rfl) ?_
  refine TE.next hK6 ?_
  clear hK6
  refine TC.seq (fun K7 hK7 => ?_)
  refine TC.seq (fun K8 hK8 => ?_)
  refine TC.region ?_
  refine tp rfl rfl rfl (PV.move rfl rfl) ?_
  refine TL.buildSlice (cells := #[(cutLH (.slice a bs.length c) 0 (bs.length - 4))]) (Want.plain rfl) rfl rfl rfl Tryz.underlying97 in106 rfl rfl rfl (fill_one hT.one (by simp)) (fun b43 => ?_)
  change TL _ _ _ _ _ _ _ _ _ [blkA b43 [(cutLH (.slice a bs.length c) 0 (bs.length - 4))] 106]
  refine TL.callR (A := []) (B := [blkA b43 [(cutLH (.slice a bs.length c) 0 (bs.length - 4))] 106]) (Want.plain rfl) rfl rfl rfl nm131 rfl (of_does (.slice (some ⟨b43, 0, none⟩) (1) (1)) [(bs.take (bs.length - 4))]) (fun _ s => s) (isBB_one hT 0 rfl rfl) (fun vR HR hR => ?_)
  obtain ⟨rfl, rfl⟩ := hR
  rw [show [(bs.take (bs.length - 4))].flatten = (bs.take (bs.length - 4)) by simp]
  change TL _ _ _ _ _ _ _ _ _ [blkA b43 [(cutLH (.slice a bs.length c) 0 (bs.length - 4))] 106]
  refine tp rfl rfl rfl (PV.move rfl rfl) ?_
  refine tp rfl rfl rfl (PV.neq rfl rfl rfl) ?_
  refine TL.dec (fun h46 => ?_) (fun h46 => ?_)
  refine TL.nil ?_
  refine TE.next hK8 ?_
  clear hK8
  refine TC.yes rfl ?_
  refine TC.seq (fun K9 hK9 => ?_)
  refine TC.region ?_
  refine tp rfl rfl rfl (PV.assign rfl rfl) ?_
  refine tp rfl rfl rfl (PV.assign rfl rfl) ?_
  refine TL.nil ?_
  refine TE.next hK9 ?_
  clear hK9
  refine TC.ret ?_
  refine TE.passRet ?_
  clear hK7
  refine TE.weak (Sub.refl _) (fun _ s => sep_keep [] rfl s) ?_
  refine TE.ret2 rfl rfl rfl ?_
  exact .inl ⟨by rw [takeP, if_neg (by omega), if_neg h46], rfl, rfl⟩
  refine TL.nil ?_
  refine TE.next hK8 ?_
  clear hK8
  refine TC.no rfl ?_
  refine TC.skip ?_
  refine TE.next hK7 ?_
  clear hK7
  refine TC.seq (fun K10 hK10 => ?_)
  refine TC.region ?_
  refine TL.buildSlice0 (Want.plain rfl) rfl rfl rfl Tryz.underlying106 sz5 (fun v47 => ?_)
  change TL _ _ _ _ _ _ _ _ _ [ownB v47 ([]) 5, blkA b43 [(cutLH (.slice a bs.length c) 0 (bs.length - 4))] 106]
  refine tp rfl rfl rfl (PV.move rfl rfl) ?_
  refine TL.append (k := 0) (news := u8s ((bs.take (bs.length - 4)))) (nn' := ((bs.take (bs.length - 4)) : List UInt8).length) (xs' := u8s ((bs.take (bs.length - 4)))) (Want.plain rfl) rfl rfl rfl Tryz.underlying106 in5 rfl rfl rfl rfl rfl rfl (fun _ _ => hT.src (fun _ h => Frm.of h)) (u8s_one _) (by simp only [maxLen, List.length_nil, List.length_take]; omega) (by simp only [List.length_nil, List.length_take]; omega) (by simp) (List.nil_append _) (fun v49 ov49 => ?_)
  change TL _ _ _ _ _ _ _ _ _ [ownB v49 ((bs.take (bs.length - 4))) 5, blkA b43 [(cutLH (.slice a bs.length c) 0 (bs.length - 4))] 106]
  refine tp rfl rfl rfl (PV.assign rfl rfl) ?_
  refine tp rfl rfl rfl (PV.assign rfl rfl) ?_
  refine TL.nil ?_
  refine TE.next hK10 ?_
  clear hK10
  refine TC.ret ?_
  refine TE.weak (Sub.refl _) (fun _ s => sep_keep [0] rfl s) ?_
  refine TE.ret2 rfl rfl rfl ?_
  exact .inr ⟨_, _, by rw [takeP, if_neg (by omega), if_pos (by simpa using h46)], rfl, rfl⟩
theorem take_does (x : Value) (bs : List UInt8) (hb : bs.length ≤ 1000000000) : Does Tryz.prog 119 #[x] (IsW x bs) [] (Ret (fun v H => (takeP bs = none ∧ v = .tuple #[.slice none 0 0, .bool false] ∧ H = []) ∨ ∃ t u, takeP bs = some t ∧ v = .tuple #[u, .bool true] ∧ H = [ownB u t 5])) := fun w G h m => by
  obtain ⟨a, c, rfl, hc, _⟩ := h.form
  exact take_form a c bs hc hb w G h m

theorem pieces_does (n : Nat) (hn : n ≤ 1000000000000) :
    Does Tryz.prog 121 #[(.int .i64 (((n : Nat) : Int)))] (fun _ => True) [] (Ret (fun v H => v = .int .i64 ((piecesN n : Nat) : Int) ∧ H = [])) := by
  refine Does.body (vs := [(.int .i64 (((n : Nat) : Int)))]) (n := 9) Tryz.func121 rfl rfl rfl (fun w0 F hF => ?_)
  refine TC.seq (fun K1 hK1 => ?_)
  refine TC.region ?_
  refine tp rfl rfl rfl (PV.assign rfl rfl) ?_
  refine TL.nil ?_
  refine TE.next hK1 ?_
  clear hK1
  refine TC.seq (fun K2 hK2 => ?_)
  refine TC.seq (fun K3 hK3 => ?_)
  refine TC.region ?_
  refine tp rfl rfl rfl (PV.move rfl rfl) ?_
  refine tp rfl rfl rfl (PV.leq rfl rfl rfl) ?_
  refine TL.dec (fun h4 => ?_) (fun h4 => ?_)
  refine TL.nil ?_
  refine TE.next hK3 ?_
  clear hK3
  refine TC.yes rfl ?_
  refine TC.seq (fun K4 hK4 => ?_)
  refine TC.region ?_
  refine tp rfl rfl rfl (PV.assign rfl rfl) ?_
  refine TL.nil ?_
  refine TE.next hK4 ?_
  clear hK4
  refine TC.ret ?_
  refine TE.passRet ?_
  clear hK2
  refine TE.weak (Sub.refl _) (fun _ s => sep_keep [] rfl s) ?_
  refine TE.ret1 rfl rfl ?_
  obtain rfl : n = 0 := by omega
  exact ⟨rfl, rfl⟩
  refine TL.nil ?_
  refine TE.next hK3 ?_
  clear hK3
  refine TC.no rfl ?_
  refine TC.skip ?_
  refine TE.next hK2 ?_
  clear hK2
  refine TC.seq (fun K5 hK5 => ?_)
  refine TC.region ?_
  refine tp rfl rfl rfl (PV.move rfl rfl) ?_
  refine tp rfl rfl rfl (PV.sub rfl rfl rfl (wrap_i64 (by omega) (by omega))) ?_
  refine tp rfl rfl rfl (PV.quo (r := (((n - 1) / 52 : Nat) : Int)) rfl rfl rfl (by omega) (by rw [show (((n : Nat) : Int) - 1) = ((n - 1 : Nat) : Int) by omega]; exact quoNat (n - 1) 52 (by omega))) ?_
  refine tp rfl rfl rfl (PV.add rfl rfl rfl (wrap_i64 (by omega) (by omega))) ?_
  refine tp rfl rfl rfl (PV.assign rfl rfl) ?_
  refine TL.nil ?_
  refine TE.next hK5 ?_
  clear hK5
  refine TC.ret ?_
  refine TE.weak (Sub.refl _) (fun _ s => sep_keep [] rfl s) ?_
  refine TE.ret1 rfl rfl ?_
  rw [piecesN, if_neg (by omega)]
  exact ⟨by simp, rfl⟩
theorem secsN_sect {number : Int} {bs : List UInt8} {k : Nat} : secsN number bs (k + 1) = secsN number bs k ++ [putP (textP number k (piecesN bs.length) (partP bs k)) ++ [1]] := secsN_succ number bs k

theorem sectors_form (a : Option Addr) (c number : Nat) (bs : List UInt8) (hc : bs.length ≤ c) (hb : bs.length ≤ 3000) :
    Does Tryz.prog 123 #[(.int .i64 (((number : Nat) : Int))), (.slice a bs.length c)] (IsW (.slice a bs.length c) bs) [] (Ret (fun v H => H = [recsP 106 5 v (sectorsP ((number : Nat) : Int) bs)])) := by
  refine Does.body (vs := [(.int .i64 (((number : Nat) : Int))), (.slice a bs.length c)]) (n := 68) Tryz.func123 rfl rfl rfl (fun w0 F hF => ?_)
  refine TC.seq (fun K1 hK1 => ?_)
  refine TC.region ?_
  refine tp rfl rfl rfl (PV.assign rfl rfl) ?_
  refine TL.nil ?_
  refine TE.next hK1 ?_
  clear hK1
  refine TC.seq (fun K2 hK2 => ?_)
  refine TC.region ?_
  refine tp rfl rfl rfl (PV.move rfl rfl) ?_
  refine tp rfl rfl rfl (PV.lenV rfl Tryz.underlying106 rfl ⟨_, _, rfl⟩) ?_
  refine TL.callR (A := []) (B := []) (Want.plain rfl) rfl rfl rfl nm121 rfl (pieces_does bs.length (by omega)) (fun _ s => s) (fun _ _ _ => trivial) (fun vR HR hR => ?_)
  obtain ⟨rfl, rfl⟩ := hR
  change TL _ _ _ _ _ _ _ _ _ []
  refine tp rfl rfl rfl (PV.assign rfl rfl) ?_
  refine TL.nil ?_
  refine TE.next hK2 ?_
  clear hK2
  refine TC.seq (fun K3 hK3 => ?_)
  refine TC.region ?_
  refine tp rfl rfl rfl (PV.assign rfl rfl) ?_
  refine TL.nil ?_
  refine TE.next hK3 ?_
  clear hK3
  refine TC.seq (fun K4 hK4 => ?_)
  refine TC.seq (fun K5 hK5 => ?_)
  refine TC.region ?_
  refine tp rfl rfl rfl (PV.move rfl rfl) ?_
  refine tp rfl rfl rfl (PV.move rfl rfl) ?_
  refine TL.nil ?_
  refine TE.next hK5 ?_
  clear hK5
  refine TC.block ?_
  refine TC.loop (α := (Nat) × (Value)) (fun ⟨k, vr⟩ => k ≤ piecesN bs.length ∧ vr.oneCell' = true) (fun ⟨k, vr⟩ => [(0, (.int .i64 (((number : Nat) : Int)))), (1, (.slice a bs.length c)), (4, (.slice none 0 0)), (5, (.int .i64 (((piecesN bs.length : Nat) : Int)))), (6, vr), (14, (.int .i64 (((piecesN bs.length : Nat) : Int)))), (15, (.int .i64 (((k : Nat) : Int))))]) (fun ⟨k, vr⟩ => [recsP 106 5 vr (secsN ((number : Nat) : Int) bs k)]) (fun ⟨k, vr⟩ => piecesN bs.length - k) (0, (.slice none 0 0))
      ⟨Nat.zero_le _, rfl⟩ (Sub.r (Sub.r (Sub.r (Sub.r (Sub.r (Sub.r (Sub.cons rfl (by congr 1) (Sub.nil _))))))))
      (fun _ s => sep_recsNil 106 5 s) (fun ⟨k, vr⟩ hinv => ?_)
  obtain ⟨hk, hvr⟩ := hinv
  refine TC.seq (fun K6 hK6 => ?_)
  refine TC.region ?_
  refine tp rfl rfl rfl (PV.lss rfl rfl rfl) ?_
  refine TL.dec (fun h16 => ?_) (fun h16 => ?_)
  have hkn := part_le (n := bs.length) (k := k) (by omega)
  have hpe := part_eq bs k
  have hP : IsW (cutLH (.slice a bs.length c) (k * 52) (min ((k + 1) * 52) bs.length)) (partP bs k) F := by rw [← hpe]; exact hF.cut (by omega) (by omega)
  have hpl := partP_len bs k
  have hpk := piecesN_le hb
  have hP2 := hP.len
  refine TL.nil ?_
  refine TE.next hK6 ?_
  clear hK6
  refine TC.seq (fun K7 hK7 => ?_)
  refine TC.yes rfl ?_
  refine TC.skip ?_
  refine TE.next hK7 ?_
  clear hK7
  refine TC.seq (fun K8 hK8 => ?_)
  refine TC.block ?_
  refine TC.seq (fun K9 hK9 => ?_)
  refine TC.region ?_
  refine tp rfl rfl rfl (PV.move rfl rfl) ?_
  refine tp rfl rfl rfl (PV.assign rfl rfl) ?_
  refine TL.nil ?_
  refine TE.next hK9 ?_
  clear hK9
  refine TC.seq (fun K10 hK10 => ?_)
  refine TC.region ?_
  refine tp rfl rfl rfl (PV.move rfl rfl) ?_
  refine tp rfl rfl rfl (PV.move rfl rfl) ?_
  refine tp rfl rfl rfl (PV.mul (r := ((k * 52 : Nat) : Int)) rfl rfl rfl (by rw [show ((k : Nat) : Int) * 52 = ((k * 52 : Nat) : Int) by omega]; exact wrap_i64 (by omega) (by omega))) ?_
  refine tp rfl rfl rfl (PV.move rfl rfl) ?_
  refine tp rfl rfl rfl (PV.add rfl rfl rfl (wrap_i64 (by omega) (by omega))) ?_
  refine tp rfl rfl rfl (PV.mul (r := (((k + 1) * 52 : Nat) : Int)) rfl rfl rfl (by rw [show (((k : Nat) : Int) + 1) * 52 = (((k + 1) * 52 : Nat) : Int) by omega]; exact wrap_i64 (by omega) (by omega))) ?_
  refine tp rfl rfl rfl (PV.move rfl rfl) ?_
  refine tp rfl rfl rfl (PV.lenV rfl Tryz.underlying106 rfl ⟨_, _, rfl⟩) ?_
  refine tp rfl rfl rfl (PV.minI rfl rfl rfl) ?_
  refine tp rfl rfl rfl (PV.sliceLH (lo := k * 52) (hi := min ((k + 1) * 52) bs.length) rfl Tryz.underlying106 sz5 rfl rfl rfl rfl (by omega) (by omega) (by omega)) ?_
  refine tp rfl rfl rfl (PV.assign rfl rfl) ?_
  refine TL.nil ?_
  refine TE.next hK10 ?_
  clear hK10
  refine TC.seq (fun K11 hK11 => ?_)
  refine TC.region ?_
  refine TL.makeB (59) (59) (Want.plain rfl) rfl rfl rfl Tryz.underlying106 in5 rfl rfl rfl rfl (by omega) (by omega) (fun b28 => ?_)
  change TL _ _ _ _ _ _ _ _ _ [blkA b28 [(.int .u8 0), (.int .u8 0), (.int .u8 0), (.int .u8 0), (.int .u8 0), (.int .u8 0), (.int .u8 0), (.int .u8 0), (.int .u8 0), (.int .u8 0), (.int .u8 0), (.int .u8 0), (.int .u8 0), (.int .u8 0), (.int .u8 0), (.int .u8 0), (.int .u8 0), (.int .u8 0), (.int .u8 0), (.int .u8 0), (.int .u8 0), (.int .u8 0), (.int .u8 0), (.int .u8 0), (.int .u8 0), (.int .u8 0), (.int .u8 0), (.int .u8 0), (.int .u8 0), (.int .u8 0), (.int .u8 0), (.int .u8 0), (.int .u8 0), (.int .u8 0), (.int .u8 0), (.int .u8 0), (.int .u8 0), (.int .u8 0), (.int .u8 0), (.int .u8 0), (.int .u8 0), (.int .u8 0), (.int .u8 0), (.int .u8 0), (.int .u8 0), (.int .u8 0), (.int .u8 0), (.int .u8 0), (.int .u8 0), (.int .u8 0), (.int .u8 0), (.int .u8 0), (.int .u8 0), (.int .u8 0), (.int .u8 0), (.int .u8 0), (.int .u8 0), (.int .u8 0), (.int .u8 0)] 5, recsP 106 5 vr (secsN ((number : Nat) : Int) bs k)]
  refine tp rfl rfl rfl (PV.assign rfl rfl) ?_
  refine TL.nil ?_
  refine TE.next hK11 ?_
  clear hK11
  refine TC.seq (fun K12 hK12 => ?_)
  refine TC.seq (fun K13 hK13 => ?_)
  refine TC.region ?_
  refine tp rfl rfl rfl (PV.move rfl rfl) ?_
  refine TL.nil ?_
  refine TE.next hK13 ?_
  clear hK13
  refine TC.block ?_
  refine TC.unroll 5 ?_
  refine TC.seq (fun K14 hK14 => ?_)
  refine TC.region ?_
  refine tp rfl rfl rfl (PV.lss rfl rfl rfl) ?_
  refine TL.nil ?_
  refine TE.next hK14 ?_
  clear hK14
  refine TC.seq (fun K15 hK15 => ?_)
  refine TC.yes rfl ?_
  refine TC.skip ?_
  refine TE.next hK15 ?_
  clear hK15
  refine TC.seq (fun K16 hK16 => ?_)
  refine TC.block ?_
  refine TC.seq (fun K17 hK17 => ?_)
  refine TC.region ?_
  refine tp rfl rfl rfl (PV.move rfl rfl) ?_
  refine tp rfl rfl rfl (PV.assign rfl rfl) ?_
  refine TL.nil ?_
  refine TE.next hK17 ?_
  clear hK17
  refine TC.region ?_
  refine tp rfl rfl rfl (PV.move rfl rfl) ?_
  refine tp rfl rfl rfl (PV.move rfl rfl) ?_
  refine tp rfl rfl rfl (PV.move rfl rfl) ?_
  refine tp rfl rfl rfl (PV.move rfl rfl) ?_
  refine tp rfl rfl rfl (PV.sub (r := 3) rfl rfl rfl (by decide)) ?_
  refine tp rfl rfl rfl (PV.mul (r := 24) rfl rfl rfl (by decide)) ?_
  refine tp rfl rfl rfl (PV.shr (r := ((number : Nat) : Int).fdiv 16777216) rfl rfl rfl (by omega) rfl) ?_
  refine tp rfl rfl rfl (PV.convI (r := (((r8 (((number : Nat) : Int).fdiv 16777216)).toNat : Nat) : Int)) rfl Tryz.underlying3 Tryz.underlying5 rfl (r8_wrap _)) ?_
  refine tp rfl rfl rfl (PV.indexSl (r := 0) rfl Tryz.underlying106 sz5 rfl rfl (by first | omega | decide) (by first | omega | decide) rfl) ?_
  refine TL.store1 (i := 0) (H' := [blkA b28 [(.int .u8 ((((r8 (((number : Nat) : Int).fdiv 16777216)).toNat : Nat) : Int))), (.int .u8 0), (.int .u8 0), (.int .u8 0), (.int .u8 0), (.int .u8 0), (.int .u8 0), (.int .u8 0), (.int .u8 0), (.int .u8 0), (.int .u8 0), (.int .u8 0), (.int .u8 0), (.int .u8 0), (.int .u8 0), (.int .u8 0), (.int .u8 0), (.int .u8 0), (.int .u8 0), (.int .u8 0), (.int .u8 0), (.int .u8 0), (.int .u8 0), (.int .u8 0), (.int .u8 0), (.int .u8 0), (.int .u8 0), (.int .u8 0), (.int .u8 0), (.int .u8 0), (.int .u8 0), (.int .u8 0), (.int .u8 0), (.int .u8 0), (.int .u8 0), (.int .u8 0), (.int .u8 0), (.int .u8 0), (.int .u8 0), (.int .u8 0), (.int .u8 0), (.int .u8 0), (.int .u8 0), (.int .u8 0), (.int .u8 0), (.int .u8 0), (.int .u8 0), (.int .u8 0), (.int .u8 0), (.int .u8 0), (.int .u8 0), (.int .u8 0), (.int .u8 0), (.int .u8 0), (.int .u8 0), (.int .u8 0), (.int .u8 0), (.int .u8 0), (.int .u8 0)] 5, recsP 106 5 vr (secsN ((number : Nat) : Int) bs k)]) (Want.plain rfl) rfl rfl rfl rfl rfl sz5 rfl rfl (lb rfl) rfl rfl ?_
  refine TL.nil ?_
  refine TE.blockEnd ?_
  refine TE.next hK16 ?_
  clear hK16
  refine TC.region ?_
  refine tp rfl rfl rfl (PV.add (r := 1) rfl rfl rfl (by decide)) ?_
  refine tp rfl rfl rfl (PV.move rfl rfl) ?_
  refine TL.nil ?_
  refine TE.again ?_
  refine TC.seq (fun K18 hK18 => ?_)
  refine TC.region ?_
  refine tp rfl rfl rfl (PV.lss rfl rfl rfl) ?_
  refine TL.nil ?_
  refine TE.next hK18 ?_
  clear hK18
  refine TC.seq (fun K19 hK19 => ?_)
  refine TC.yes rfl ?_
  refine TC.skip ?_
  refine TE.next hK19 ?_
  clear hK19
  refine TC.seq (fun K20 hK20 => ?_)
  refine TC.block ?_
  refine TC.seq (fun K21 hK21 => ?_)
  refine TC.region ?_
  refine tp rfl rfl rfl (PV.move rfl rfl) ?_
  refine tp rfl rfl rfl (PV.assign rfl rfl) ?_
  refine TL.nil ?_
  refine TE.next hK21 ?_
  clear hK21
  refine TC.region ?_
  refine tp rfl rfl rfl (PV.move rfl rfl) ?_
  refine tp rfl rfl rfl (PV.move rfl rfl) ?_
  refine tp rfl rfl rfl (PV.move rfl rfl) ?_
  refine tp rfl rfl rfl (PV.move rfl rfl) ?_
  refine tp rfl rfl rfl (PV.sub (r := 2) rfl rfl rfl (by decide)) ?_
  refine tp rfl rfl rfl (PV.mul (r := 16) rfl rfl rfl (by decide)) ?_
  refine tp rfl rfl rfl (PV.shr (r := ((number : Nat) : Int).fdiv 65536) rfl rfl rfl (by omega) rfl) ?_
  refine tp rfl rfl rfl (PV.convI (r := (((r8 (((number : Nat) : Int).fdiv 65536)).toNat : Nat) : Int)) rfl Tryz.underlying3 Tryz.underlying5 rfl (r8_wrap _)) ?_
  refine tp rfl rfl rfl (PV.indexSl (r := 1) rfl Tryz.underlying106 sz5 rfl rfl (by first | omega | decide) (by first | omega | decide) rfl) ?_
  refine TL.store1 (i := 0) (H' := [blkA b28 [(.int .u8 ((((r8 (((number : Nat) : Int).fdiv 16777216)).toNat : Nat) : Int))), (.int .u8 ((((r8 (((number : Nat) : Int).fdiv 65536)).toNat : Nat) : Int))), (.int .u8 0), (.int .u8 0), (.int .u8 0), (.int .u8 0), (.int .u8 0), (.int .u8 0), (.int .u8 0), (.int .u8 0), (.int .u8 0), (.int .u8 0), (.int .u8 0), (.int .u8 0), (.int .u8 0), (.int .u8 0), (.int .u8 0), (.int .u8 0), (.int .u8 0), (.int .u8 0), (.int .u8 0), (.int .u8 0), (.int .u8 0), (.int .u8 0), (.int .u8 0), (.int .u8 0), (.int .u8 0), (.int .u8 0), (.int .u8 0), (.int .u8 0), (.int .u8 0), (.int .u8 0), (.int .u8 0), (.int .u8 0), (.int .u8 0), (.int .u8 0), (.int .u8 0), (.int .u8 0), (.int .u8 0), (.int .u8 0), (.int .u8 0), (.int .u8 0), (.int .u8 0), (.int .u8 0), (.int .u8 0), (.int .u8 0), (.int .u8 0), (.int .u8 0), (.int .u8 0), (.int .u8 0), (.int .u8 0), (.int .u8 0), (.int .u8 0), (.int .u8 0), (.int .u8 0), (.int .u8 0), (.int .u8 0), (.int .u8 0), (.int .u8 0)] 5, recsP 106 5 vr (secsN ((number : Nat) : Int) bs k)]) (Want.plain rfl) rfl rfl rfl rfl rfl sz5 rfl rfl (lb rfl) rfl rfl ?_
  refine TL.nil ?_
  refine TE.blockEnd ?_
  refine TE.next hK20 ?_
  clear hK20
  refine TC.region ?_
  refine tp rfl rfl rfl (PV.add (r := 2) rfl rfl rfl (by decide)) ?_
  refine tp rfl rfl rfl (PV.move rfl rfl) ?_
  refine TL.nil ?_
  refine TE.again ?_
  refine TC.seq (fun K22 hK22 => ?_)
  refine TC.region ?_
  refine tp rfl rfl rfl (PV.lss rfl rfl rfl) ?_
  refine TL.nil ?_
  refine TE.next hK22 ?_
  clear hK22
  refine TC.seq (fun K23 hK23 => ?_)
  refine TC.yes rfl ?_
  refine TC.skip ?_
  refine TE.next hK23 ?_
  clear hK23
  refine TC.seq (fun K24 hK24 => ?_)
  refine TC.block ?_
  refine TC.seq (fun K25 hK25 => ?_)
  refine TC.region ?_
  refine tp rfl rfl rfl (PV.move rfl rfl) ?_
  refine tp rfl rfl rfl (PV.assign rfl rfl) ?_
  refine TL.nil ?_
  refine TE.next hK25 ?_
  clear hK25
  refine TC.region ?_
  refine tp rfl rfl rfl (PV.move rfl rfl) ?_
  refine tp rfl rfl rfl (PV.move rfl rfl) ?_
  refine tp rfl rfl rfl (PV.move rfl rfl) ?_
  refine tp rfl rfl rfl (PV.move rfl rfl) ?_
  refine tp rfl rfl rfl (PV.sub (r := 1) rfl rfl rfl (by decide)) ?_
  refine tp rfl rfl rfl (PV.mul (r := 8) rfl rfl rfl (by decide)) ?_
  refine tp rfl rfl rfl (PV.shr (r := ((number : Nat) : Int).fdiv 256) rfl rfl rfl (by omega) rfl) ?_
  refine tp rfl rfl rfl (PV.convI (r := (((r8 (((number : Nat) : Int).fdiv 256)).toNat : Nat) : Int)) rfl Tryz.underlying3 Tryz.underlying5 rfl (r8_wrap _)) ?_
  refine tp rfl rfl rfl (PV.indexSl (r := 2) rfl Tryz.underlying106 sz5 rfl rfl (by first | omega | decide) (by first | omega | decide) rfl) ?_
  refine TL.store1 (i := 0) (H' := [blkA b28 [(.int .u8 ((((r8 (((number : Nat) : Int).fdiv 16777216)).toNat : Nat) : Int))), (.int .u8 ((((r8 (((number : Nat) : Int).fdiv 65536)).toNat : Nat) : Int))), (.int .u8 ((((r8 (((number : Nat) : Int).fdiv 256)).toNat : Nat) : Int))), (.int .u8 0), (.int .u8 0), (.int .u8 0), (.int .u8 0), (.int .u8 0), (.int .u8 0), (.int .u8 0), (.int .u8 0), (.int .u8 0), (.int .u8 0), (.int .u8 0), (.int .u8 0), (.int .u8 0), (.int .u8 0), (.int .u8 0), (.int .u8 0), (.int .u8 0), (.int .u8 0), (.int .u8 0), (.int .u8 0), (.int .u8 0), (.int .u8 0), (.int .u8 0), (.int .u8 0), (.int .u8 0), (.int .u8 0), (.int .u8 0), (.int .u8 0), (.int .u8 0), (.int .u8 0), (.int .u8 0), (.int .u8 0), (.int .u8 0), (.int .u8 0), (.int .u8 0), (.int .u8 0), (.int .u8 0), (.int .u8 0), (.int .u8 0), (.int .u8 0), (.int .u8 0), (.int .u8 0), (.int .u8 0), (.int .u8 0), (.int .u8 0), (.int .u8 0), (.int .u8 0), (.int .u8 0), (.int .u8 0), (.int .u8 0), (.int .u8 0), (.int .u8 0), (.int .u8 0), (.int .u8 0), (.int .u8 0), (.int .u8 0)] 5, recsP 106 5 vr (secsN ((number : Nat) : Int) bs k)]) (Want.plain rfl) rfl rfl rfl rfl rfl sz5 rfl rfl (lb rfl) rfl rfl ?_
  refine TL.nil ?_
  refine TE.blockEnd ?_
  refine TE.next hK24 ?_
  clear hK24
  refine TC.region ?_
  refine tp rfl rfl rfl (PV.add (r := 3) rfl rfl rfl (by decide)) ?_
  refine tp rfl rfl rfl (PV.move rfl rfl) ?_
  refine TL.nil ?_
  refine TE.again ?_
  refine TC.seq (fun K26 hK26 => ?_)
  refine TC.region ?_
  refine tp rfl rfl rfl (PV.lss rfl rfl rfl) ?_
  refine TL.nil ?_
  refine TE.next hK26 ?_
  clear hK26
  refine TC.seq (fun K27 hK27 => ?_)
  refine TC.yes rfl ?_
  refine TC.skip ?_
  refine TE.next hK27 ?_
  clear hK27
  refine TC.seq (fun K28 hK28 => ?_)
  refine TC.block ?_
  refine TC.seq (fun K29 hK29 => ?_)
  refine TC.region ?_
  refine tp rfl rfl rfl (PV.move rfl rfl) ?_
  refine tp rfl rfl rfl (PV.assign rfl rfl) ?_
  refine TL.nil ?_
  refine TE.next hK29 ?_
  clear hK29
  refine TC.region ?_
  refine tp rfl rfl rfl (PV.move rfl rfl) ?_
  refine tp rfl rfl rfl (PV.move rfl rfl) ?_
  refine tp rfl rfl rfl (PV.move rfl rfl) ?_
  refine tp rfl rfl rfl (PV.move rfl rfl) ?_
  refine tp rfl rfl rfl (PV.sub (r := 0) rfl rfl rfl (by decide)) ?_
  refine tp rfl rfl rfl (PV.mul (r := 0) rfl rfl rfl (by decide)) ?_
  refine tp rfl rfl rfl (PV.shr (r := ((number : Nat) : Int)) rfl rfl rfl (by omega) (Int.fdiv_one _)) ?_
  refine tp rfl rfl rfl (PV.convI (r := (((r8 (((number : Nat) : Int))).toNat : Nat) : Int)) rfl Tryz.underlying3 Tryz.underlying5 rfl (r8_wrap _)) ?_
  refine tp rfl rfl rfl (PV.indexSl (r := 3) rfl Tryz.underlying106 sz5 rfl rfl (by first | omega | decide) (by first | omega | decide) rfl) ?_
  refine TL.store1 (i := 0) (H' := [blkA b28 [(.int .u8 ((((r8 (((number : Nat) : Int).fdiv 16777216)).toNat : Nat) : Int))), (.int .u8 ((((r8 (((number : Nat) : Int).fdiv 65536)).toNat : Nat) : Int))), (.int .u8 ((((r8 (((number : Nat) : Int).fdiv 256)).toNat : Nat) : Int))), (.int .u8 ((((r8 (((number : Nat) : Int))).toNat : Nat) : Int))), (.int .u8 0), (.int .u8 0), (.int .u8 0), (.int .u8 0), (.int .u8 0), (.int .u8 0), (.int .u8 0), (.int .u8 0), (.int .u8 0), (.int .u8 0), (.int .u8 0), (.int .u8 0), (.int .u8 0), (.int .u8 0), (.int .u8 0), (.int .u8 0), (.int .u8 0), (.int .u8 0), (.int .u8 0), (.int .u8 0), (.int .u8 0), (.int .u8 0), (.int .u8 0), (.int .u8 0), (.int .u8 0), (.int .u8 0), (.int .u8 0), (.int .u8 0), (.int .u8 0), (.int .u8 0), (.int .u8 0), (.int .u8 0), (.int .u8 0), (.int .u8 0), (.int .u8 0), (.int .u8 0), (.int .u8 0), (.int .u8 0), (.int .u8 0), (.int .u8 0), (.int .u8 0), (.int .u8 0), (.int .u8 0), (.int .u8 0), (.int .u8 0), (.int .u8 0), (.int .u8 0), (.int .u8 0), (.int .u8 0), (.int .u8 0), (.int .u8 0), (.int .u8 0), (.int .u8 0), (.int .u8 0), (.int .u8 0)] 5, recsP 106 5 vr (secsN ((number : Nat) : Int) bs k)]) (Want.plain rfl) rfl rfl rfl rfl rfl sz5 rfl rfl (lb rfl) rfl rfl ?_
  refine TL.nil ?_
  refine TE.blockEnd ?_
  refine TE.next hK28 ?_
  clear hK28
  refine TC.region ?_
  refine tp rfl rfl rfl (PV.add (r := 4) rfl rfl rfl (by decide)) ?_
  refine tp rfl rfl rfl (PV.move rfl rfl) ?_
  refine TL.nil ?_
  refine TE.again ?_
  refine TC.seq (fun K30 hK30 => ?_)
  refine TC.region ?_
  refine tp rfl rfl rfl (PV.lss rfl rfl rfl) ?_
  refine TL.nil ?_
  refine TE.next hK30 ?_
  clear hK30
  refine TC.seq (fun K31 hK31 => ?_)
  refine TC.no rfl ?_
  refine TC.exit ?_
  refine TE.pass ?_
  clear hK31
  refine TE.pass ?_
  refine TE.hit ?_
  refine TE.next hK12 ?_
  clear hK12
  refine TC.seq (fun K32 hK32 => ?_)
  refine TC.region ?_
  refine tp rfl rfl rfl (PV.move rfl rfl) ?_
  refine tp rfl rfl rfl (PV.move rfl rfl) ?_
  refine tp rfl rfl rfl (PV.move rfl rfl) ?_
  refine tp rfl rfl rfl (PV.move rfl rfl) ?_
  refine tp rfl rfl rfl (PV.convI (r := (((r8 (((k : Nat) : Int))).toNat : Nat) : Int)) rfl Tryz.underlying3 Tryz.underlying5 rfl (r8_wrap _)) ?_
  refine tp rfl rfl rfl (PV.move rfl rfl) ?_
  refine tp rfl rfl rfl (PV.convI (r := (((r8 (((piecesN bs.length : Nat) : Int))).toNat : Nat) : Int)) rfl Tryz.underlying3 Tryz.underlying5 rfl (r8_wrap _)) ?_
  refine tp rfl rfl rfl (PV.move rfl rfl) ?_
  refine tp rfl rfl rfl (PV.lenV rfl Tryz.underlying106 rfl hP2) ?_
  refine tp rfl rfl rfl (PV.convI (r := (((r8 ((((partP bs k).length : Nat) : Int))).toNat : Nat) : Int)) rfl Tryz.underlying3 Tryz.underlying5 rfl (r8_wrap _)) ?_
  refine tp rfl rfl rfl (PV.indexSl (r := 4) rfl Tryz.underlying106 sz5 rfl rfl (by first | omega | decide) (by first | omega | decide) rfl) ?_
  refine TL.store1 (i := 0) (H' := [blkA b28 [(.int .u8 ((((r8 (((number : Nat) : Int).fdiv 16777216)).toNat : Nat) : Int))), (.int .u8 ((((r8 (((number : Nat) : Int).fdiv 65536)).toNat : Nat) : Int))), (.int .u8 ((((r8 (((number : Nat) : Int).fdiv 256)).toNat : Nat) : Int))), (.int .u8 ((((r8 (((number : Nat) : Int))).toNat : Nat) : Int))), (.int .u8 ((((r8 (((k : Nat) : Int))).toNat : Nat) : Int))), (.int .u8 0), (.int .u8 0), (.int .u8 0), (.int .u8 0), (.int .u8 0), (.int .u8 0), (.int .u8 0), (.int .u8 0), (.int .u8 0), (.int .u8 0), (.int .u8 0), (.int .u8 0), (.int .u8 0), (.int .u8 0), (.int .u8 0), (.int .u8 0), (.int .u8 0), (.int .u8 0), (.int .u8 0), (.int .u8 0), (.int .u8 0), (.int .u8 0), (.int .u8 0), (.int .u8 0), (.int .u8 0), (.int .u8 0), (.int .u8 0), (.int .u8 0), (.int .u8 0), (.int .u8 0), (.int .u8 0), (.int .u8 0), (.int .u8 0), (.int .u8 0), (.int .u8 0), (.int .u8 0), (.int .u8 0), (.int .u8 0), (.int .u8 0), (.int .u8 0), (.int .u8 0), (.int .u8 0), (.int .u8 0), (.int .u8 0), (.int .u8 0), (.int .u8 0), (.int .u8 0), (.int .u8 0), (.int .u8 0), (.int .u8 0), (.int .u8 0), (.int .u8 0), (.int .u8 0), (.int .u8 0)] 5, recsP 106 5 vr (secsN ((number : Nat) : Int) bs k)]) (Want.plain rfl) rfl rfl rfl rfl rfl sz5 rfl rfl (lb rfl) rfl rfl ?_
  refine tp rfl rfl rfl (PV.indexSl (r := 5) rfl Tryz.underlying106 sz5 rfl rfl (by first | omega | decide) (by first | omega | decide) rfl) ?_
  refine TL.store1 (i := 0) (H' := [blkA b28 [(.int .u8 ((((r8 (((number : Nat) : Int).fdiv 16777216)).toNat : Nat) : Int))), (.int .u8 ((((r8 (((number : Nat) : Int).fdiv 65536)).toNat : Nat) : Int))), (.int .u8 ((((r8 (((number : Nat) : Int).fdiv 256)).toNat : Nat) : Int))), (.int .u8 ((((r8 (((number : Nat) : Int))).toNat : Nat) : Int))), (.int .u8 ((((r8 (((k : Nat) : Int))).toNat : Nat) : Int))), (.int .u8 ((((r8 (((piecesN bs.length : Nat) : Int))).toNat : Nat) : Int))), (.int .u8 0), (.int .u8 0), (.int .u8 0), (.int .u8 0), (.int .u8 0), (.int .u8 0), (.int .u8 0), (.int .u8 0), (.int .u8 0), (.int .u8 0), (.int .u8 0), (.int .u8 0), (.int .u8 0), (.int .u8 0), (.int .u8 0), (.int .u8 0), (.int .u8 0), (.int .u8 0), (.int .u8 0), (.int .u8 0), (.int .u8 0), (.int .u8 0), (.int .u8 0), (.int .u8 0), (.int .u8 0), (.int .u8 0), (.int .u8 0), (.int .u8 0), (.int .u8 0), (.int .u8 0), (.int .u8 0), (.int .u8 0), (.int .u8 0), (.int .u8 0), (.int .u8 0), (.int .u8 0), (.int .u8 0), (.int .u8 0), (.int .u8 0), (.int .u8 0), (.int .u8 0), (.int .u8 0), (.int .u8 0), (.int .u8 0), (.int .u8 0), (.int .u8 0), (.int .u8 0), (.int .u8 0), (.int .u8 0), (.int .u8 0), (.int .u8 0), (.int .u8 0), (.int .u8 0)] 5, recsP 106 5 vr (secsN ((number : Nat) : Int) bs k)]) (Want.plain rfl) rfl rfl rfl rfl rfl sz5 rfl rfl (lb rfl) rfl rfl ?_
  refine tp rfl rfl rfl (PV.indexSl (r := 6) rfl Tryz.underlying106 sz5 rfl rfl (by first | omega | decide) (by first | omega | decide) rfl) ?_
  refine TL.store1 (i := 0) (H' := [blkA b28 [(.int .u8 ((((r8 (((number : Nat) : Int).fdiv 16777216)).toNat : Nat) : Int))), (.int .u8 ((((r8 (((number : Nat) : Int).fdiv 65536)).toNat : Nat) : Int))), (.int .u8 ((((r8 (((number : Nat) : Int).fdiv 256)).toNat : Nat) : Int))), (.int .u8 ((((r8 (((number : Nat) : Int))).toNat : Nat) : Int))), (.int .u8 ((((r8 (((k : Nat) : Int))).toNat : Nat) : Int))), (.int .u8 ((((r8 (((piecesN bs.length : Nat) : Int))).toNat : Nat) : Int))), (.int .u8 ((((r8 ((((partP bs k).length : Nat) : Int))).toNat : Nat) : Int))), (.int .u8 0), (.int .u8 0), (.int .u8 0), (.int .u8 0), (.int .u8 0), (.int .u8 0), (.int .u8 0), (.int .u8 0), (.int .u8 0), (.int .u8 0), (.int .u8 0), (.int .u8 0), (.int .u8 0), (.int .u8 0), (.int .u8 0), (.int .u8 0), (.int .u8 0), (.int .u8 0), (.int .u8 0), (.int .u8 0), (.int .u8 0), (.int .u8 0), (.int .u8 0), (.int .u8 0), (.int .u8 0), (.int .u8 0), (.int .u8 0), (.int .u8 0), (.int .u8 0), (.int .u8 0), (.int .u8 0), (.int .u8 0), (.int .u8 0), (.int .u8 0), (.int .u8 0), (.int .u8 0), (.int .u8 0), (.int .u8 0), (.int .u8 0), (.int .u8 0), (.int .u8 0), (.int .u8 0), (.int .u8 0), (.int .u8 0), (.int .u8 0), (.int .u8 0), (.int .u8 0), (.int .u8 0), (.int .u8 0), (.int .u8 0), (.int .u8 0), (.int .u8 0)] 5, recsP 106 5 vr (secsN ((number : Nat) : Int) bs k)]) (Want.plain rfl) rfl rfl rfl rfl rfl sz5 rfl rfl (lb rfl) rfl rfl ?_
  refine TL.nil ?_
  refine TE.next hK32 ?_
  clear hK32
  refine TC.seq (fun K33 hK33 => ?_)
  refine TC.region ?_
  refine tp rfl rfl rfl (PV.move rfl rfl) ?_
  refine tp rfl rfl rfl (PV.sliceLo (k := 7) (v := (.slice (some ⟨b28, 7, none⟩) (52) (52))) rfl Tryz.underlying106 sz5 rfl rfl rfl (by decide) rfl) ?_
  refine tp rfl rfl rfl (PV.move rfl rfl) ?_
  refine TL.copy (i := 0) (m := (partP bs k).length) (news := (u8s (partP bs k))) (H' := [blkA b28 (u8s (textP ((number : Nat) : Int) k (piecesN bs.length) (partP bs k))) 5, recsP 106 5 vr (secsN ((number : Nat) : Int) bs k)]) (Want.plain rfl) rfl rfl rfl Tryz.underlying106 sz5 rfl rfl rfl rfl (fun _ _ => hP.src (fun _ h => Frm.of h)) (u8s_one _) (by show 7 + min (partP bs k).length 52 ≤ 59; omega) (text_copy (number := ((number : Nat) : Int)) (place := k) (all := piecesN bs.length) hpl) rfl ?_
  refine TL.nil ?_
  refine TE.next hK33 ?_
  clear hK33
  refine TC.region ?_
  refine tp rfl rfl rfl (PV.move rfl rfl) ?_
  refine tp rfl rfl rfl (PV.move rfl rfl) ?_
  refine TL.callR (A := []) (B := [blkA b28 (u8s (textP ((number : Nat) : Int) k (piecesN bs.length) (partP bs k))) 5, recsP 106 5 vr (secsN ((number : Nat) : Int) bs k)]) (Want.plain rfl) rfl rfl rfl nm132 rfl (sumPut_does (.slice (some ⟨b28, 0, none⟩) (59) (59)) (textP ((number : Nat) : Int) k (piecesN bs.length) (partP bs k)) (by rw [textP_len hpl]; decide)) (fun _ s => s) (fun g d s => IsB.w (isB_blkN 0 59 (textP_len hpl) (by decide) rfl rfl g d s)) (fun vR HR hR => ?_)
  subst hR
  change TL _ _ _ _ _ _ _ _ _ [ownB vR (putP (textP ((number : Nat) : Int) k (piecesN bs.length) (partP bs k))) 5, blkA b28 (u8s (textP ((number : Nat) : Int) k (piecesN bs.length) (partP bs k))) 5, recsP 106 5 vr (secsN ((number : Nat) : Int) bs k)]
  refine TL.buildSlice (cells := #[(.int .u8 1)]) (Want.plain rfl) rfl rfl rfl Tryz.underlying106 in5 rfl rfl rfl (by as_aux_lemma => kernel_rfl) (fun b62 => ?_)
  change TL _ _ _ _ _ _ _ _ _ [blkA b62 [(.int .u8 1)] 5, ownB vR (putP (textP ((number : Nat) : Int) k (piecesN bs.length) (partP bs k))) 5, blkA b28 (u8s (textP ((number : Nat) : Int) k (piecesN bs.length) (partP bs k))) 5, recsP 106 5 vr (secsN ((number : Nat) : Int) bs k)]
  refine TL.append (k := 1) (news := u8s ([1])) (nn' := (putP (textP ((number : Nat) : Int) k (piecesN bs.length) (partP bs k)) ++ [1] : List UInt8).length) (xs' := u8s (putP (textP ((number : Nat) : Int) k (piecesN bs.length) (partP bs k)) ++ [1])) (Want.plain rfl) rfl rfl rfl Tryz.underlying106 in5 rfl rfl rfl rfl rfl rfl (fun _ _ => Src.rd rfl (Rd.own 0 rfl rfl) rfl) (u8s_one [1]) (by rw [putP_len, textP_len hpl]; simp only [maxLen]; omega) (by rw [putP_len, textP_len hpl]; omega) (by simp) (u8s_append _ _).symm (fun v63 ov63 => ?_)
  change TL _ _ _ _ _ _ _ _ _ [blkA b62 [(.int .u8 1)] 5, ownB v63 (putP (textP ((number : Nat) : Int) k (piecesN bs.length) (partP bs k)) ++ [1]) 5, blkA b28 (u8s (textP ((number : Nat) : Int) k (piecesN bs.length) (partP bs k))) 5, recsP 106 5 vr (secsN ((number : Nat) : Int) bs k)]
  refine TL.buildSlice (cells := #[v63]) (Want.plain rfl) rfl rfl rfl Tryz.underlying97 in106 rfl rfl rfl (fill_one ov63 (by simp)) (fun b64 => ?_)
  change TL _ _ _ _ _ _ _ _ _ [blkA b64 [v63] 106, blkA b62 [(.int .u8 1)] 5, ownB v63 (putP (textP ((number : Nat) : Int) k (piecesN bs.length) (partP bs k)) ++ [1]) 5, blkA b28 (u8s (textP ((number : Nat) : Int) k (piecesN bs.length) (partP bs k))) 5, recsP 106 5 vr (secsN ((number : Nat) : Int) bs k)]
  refine TL.mono (fun _ s => sep_selR [4] rfl s) ?_
  refine TL.recsOpen (fun us65 => ?_)
  change TL _ _ _ _ _ _ _ _ _ [own vr ((secsN ((number : Nat) : Int) bs k).length) (us65) 106 1, bunch us65 (secsN ((number : Nat) : Int) bs k) 5, blkA b64 [v63] 106, blkA b62 [(.int .u8 1)] 5, ownB v63 (putP (textP ((number : Nat) : Int) k (piecesN bs.length) (partP bs k)) ++ [1]) 5, blkA b28 (u8s (textP ((number : Nat) : Int) k (piecesN bs.length) (partP bs k))) 5]
  refine TL.append (k := 0) (m := 1) (news := [v63]) (nn' := (secsN ((number : Nat) : Int) bs k).length + 1) (xs' := us65 ++ [v63]) (Want.plain rfl) rfl rfl rfl Tryz.underlying97 in106 rfl rfl rfl rfl rfl rfl (fun _ _ => Src.rd rfl (Rd.own 2 rfl rfl) rfl) (List.forall_mem_cons.2 ⟨ov63, fun _ h => by cases h⟩) (by rw [secsN_len]; simp only [maxLen]; omega) (by rw [secsN_len]; omega) rfl rfl (fun v65 ov65 => ?_)
  change TL _ _ _ _ _ _ _ _ _ [own v65 ((secsN ((number : Nat) : Int) bs k).length + 1) (us65 ++ [v63]) 106 1, bunch us65 (secsN ((number : Nat) : Int) bs k) 5, blkA b64 [v63] 106, blkA b62 [(.int .u8 1)] 5, ownB v63 (putP (textP ((number : Nat) : Int) k (piecesN bs.length) (partP bs k)) ++ [1]) 5, blkA b28 (u8s (textP ((number : Nat) : Int) k (piecesN bs.length) (partP bs k))) 5]
  refine TL.mono (fun _ s => sep_sub 4 rfl rfl s) ?_
  refine TL.mono (H' := [own v65 ((secsN ((number : Nat) : Int) bs k).length + 1) (us65 ++ [v63]) 106 1, bunch us65 (secsN ((number : Nat) : Int) bs k) 5, subB v63 (putP (textP ((number : Nat) : Int) k (piecesN bs.length) (partP bs k)) ++ [1]) 5, blkA b64 [v63] 106, blkA b62 [(.int .u8 1)] 5, blkA b28 (u8s (textP ((number : Nat) : Int) k (piecesN bs.length) (partP bs k))) 5]) (fun _ s => sep_selR [0, 0, 2] rfl s) ?_
  refine TL.mono (fun _ s => sep_recsAdd s) ?_
  rw [← secsN_sect]
  change TL _ _ _ _ _ _ _ _ _ [recsP 106 5 v65 (secsN ((number : Nat) : Int) bs (k + 1)), blkA b64 [v63] 106, blkA b62 [(.int .u8 1)] 5, blkA b28 (u8s (textP ((number : Nat) : Int) k (piecesN bs.length) (partP bs k))) 5]
  refine tp rfl rfl rfl (PV.assign rfl rfl) ?_
  refine TL.nil ?_
  refine TE.blockEnd ?_
  refine TE.next hK8 ?_
  clear hK8
  refine TC.region ?_
  refine tp rfl rfl rfl (PV.add rfl rfl rfl (wrap_i64 (by omega) (by omega))) ?_
  refine tp rfl rfl rfl (PV.move rfl rfl) ?_
  refine TL.nil ?_
  exact TE.round ((k + 1, v65) : (Nat) × (Value)) ⟨by omega, ov65⟩ (by show piecesN bs.length - (k + 1) < piecesN bs.length - k; omega)
    (Sub.r (Sub.r (Sub.r (Sub.r (Sub.r (Sub.r (Sub.cons rfl (by simp) (Sub.nil _))))))))
    (fun _ s => sep_keep [0] rfl s)
  refine TL.nil ?_
  refine TE.next hK6 ?_
  clear hK6
  refine TC.seq (fun K34 hK34 => ?_)
  refine TC.no rfl ?_
  refine TC.exit ?_
  refine TE.pass ?_
  clear hK34
  refine TE.pass ?_
  refine TE.hit ?_
  refine TE.next hK4 ?_
  clear hK4
  refine TC.seq (fun K35 hK35 => ?_)
  refine TC.region ?_
  refine tp rfl rfl rfl (PV.move rfl rfl) ?_
  refine tp rfl rfl rfl (PV.assign rfl rfl) ?_
  refine TL.nil ?_
  refine TE.next hK35 ?_
  clear hK35
  refine TC.ret ?_
  refine TE.weak (Sub.refl _) (fun _ s => sep_keep [0] rfl s) ?_
  refine TE.ret1 rfl rfl ?_
  obtain rfl : k = piecesN bs.length := by omega
  exact rfl
theorem sectors_does (x : Value) (number : Nat) (bs : List UInt8) (hb : bs.length ≤ 3000) : Does Tryz.prog 123 #[.int .i64 ((number : Nat) : Int), x] (IsW x bs) [] (Ret (fun v H => H = [recsP 106 5 v (sectorsP ((number : Nat) : Int) bs)])) := fun w G h m => by
  obtain ⟨a, c, rfl, hc, _⟩ := h.form
  exact sectors_form a c number bs hc hb w G h m

theorem piece_does (s : Sec) (number place : Int) (hs : s.length = 64) :
    Does Tryz.prog 97 #[(.agg (u8s s).toArray), (.int .i64 (number)), (.int .i64 (place))] (fun _ => True) [] (Ret (fun v H => (pieceP s number place = none ∧ v = .tuple #[.slice none 0 0, .int .i64 0, .bool false] ∧ H = []) ∨ ∃ b all u, pieceP s number place = some (b, all) ∧ v = .tuple #[u, .int .i64 all, .bool true] ∧ H = [subB u b 5])) := by
  refine Does.body (vs := [(.agg (u8s s).toArray), (.int .i64 (number)), (.int .i64 (place))]) (n := 74) Tryz.func97 rfl rfl rfl (fun w0 F hF => ?_)
  refine TC.seq (fun K1 hK1 => ?_)
  refine TC.region ?_
  refine TL.box (Want.plain rfl) rfl rfl rfl rfl (fun b3 => ?_)
  change TL _ _ _ _ _ _ _ _ _ [blkA b3 (u8s s) 133]
  refine tp rfl rfl rfl (PV.assign rfl rfl) ?_
  refine tp rfl rfl rfl (PV.assign rfl rfl) ?_
  refine tp rfl rfl rfl (PV.assign rfl rfl) ?_
  refine TL.nil ?_
  refine TE.next hK1 ?_
  clear hK1
  refine TC.seq (fun K2 hK2 => ?_)
  refine TC.region ?_
  refine tp rfl rfl rfl (PV.sliceArrHi (k := 63) rfl Tryz.underlying133 sz5 rfl rfl (by omega) (by omega) rfl) ?_
  refine TL.callR (A := []) (B := [blkA b3 (u8s s) 133]) (Want.plain rfl) rfl rfl rfl nm119 rfl (take_does (.slice (some ⟨b3, 0, none⟩) (63) (64)) (s.take 63) (by rw [List.length_take]; omega)) (fun _ s => s) (fun g d s' => IsB.w (isB_piece 0 63 (by omega) (by omega) (by decide) (by rw [List.take_of_length_le (by rw [u8s_length]; omega)]) hs.symm rfl rfl g d s')) (fun vR HR hR => ?_)
  rcases hR with ⟨ht, rfl, rfl⟩ | ⟨t, u, ht, rfl, rfl⟩
  change TL _ _ _ _ _ _ _ _ _ [blkA b3 (u8s s) 133]
  refine tp rfl rfl rfl (PV.move rfl rfl) ?_
  refine tp rfl rfl rfl (PV.extract (vs := [(.slice none 0 0), (.bool false)]) rfl rfl rfl) ?_
  refine tp rfl rfl rfl (PV.extract (vs := [(.slice none 0 0), (.bool false)]) rfl rfl rfl) ?_
  refine tp rfl rfl rfl (PV.assign rfl rfl) ?_
  refine tp rfl rfl rfl (PV.assign rfl rfl) ?_
  refine TL.nil ?_
  refine TE.next hK2 ?_
  clear hK2
  refine TC.seq (fun K3 hK3 => ?_)
  refine TC.seq (fun K4 hK4 => ?_)
  refine TC.region ?_
  refine tp rfl rfl rfl (PV.move rfl rfl) ?_
  refine tp rfl rfl rfl (PV.not (r := true) rfl rfl rfl) ?_
  refine tp rfl rfl rfl (PV.move rfl rfl) ?_
  refine TL.unmet (b := true) rfl rfl rfl rfl (lb rfl) ?_
  refine TL.unmet (b := true) rfl rfl rfl rfl (lb rfl) ?_
  refine TL.unmet (b := true) rfl rfl rfl rfl (lb rfl) ?_
  refine tp rfl rfl rfl (PV.pick rfl rfl rfl) ?_
  refine TL.nil ?_
  refine TE.next hK4 ?_
  clear hK4
  refine TC.yes rfl ?_
  refine TC.seq (fun K5 hK5 => ?_)
  refine TC.region ?_
  refine tp rfl rfl rfl (PV.assign rfl rfl) ?_
  refine tp rfl rfl rfl (PV.assign rfl rfl) ?_
  refine tp rfl rfl rfl (PV.assign rfl rfl) ?_
  refine TL.nil ?_
  refine TE.next hK5 ?_
  clear hK5
  refine TC.ret ?_
  refine TE.passRet ?_
  clear hK3
  refine TE.weak (Sub.refl _) (fun _ s => sep_keep [] rfl s) ?_
  refine TE.ret3 rfl rfl rfl rfl ?_
  exact .inl ⟨pieceP_none1 ht, rfl, rfl⟩
  have htl := takeP_len ht
  rw [List.length_take] at htl
  have ht59 : t.length = 59 := by omega
  change TL _ _ _ _ _ _ _ _ _ [ownB u (t) 5, blkA b3 (u8s s) 133]
  refine TL.ownAt 0 rfl rfl (by omega) (fun g cap hv hcap => ?_)
  refine tp rfl rfl rfl (PV.move rfl rfl) ?_
  refine tp rfl rfl rfl (PV.extract (vs := [u, (.bool true)]) rfl rfl rfl) ?_
  refine tp rfl rfl rfl (PV.extract (vs := [u, (.bool true)]) rfl rfl rfl) ?_
  refine tp rfl rfl rfl (PV.assign rfl rfl) ?_
  refine tp rfl rfl rfl (PV.assign rfl rfl) ?_
  refine TL.nil ?_
  refine TE.next hK2 ?_
  clear hK2
  refine TC.seq (fun K6 hK6 => ?_)
  refine TC.seq (fun K7 hK7 => ?_)
  refine TC.region ?_
  refine tp rfl rfl rfl (PV.move rfl rfl) ?_
  refine tp rfl rfl rfl (PV.not (r := false) rfl rfl rfl) ?_
  refine tp rfl rfl rfl (PV.move rfl rfl) ?_
  refine tq rfl rfl rfl rfl rfl (PV.indexArr (r := 63) rfl Tryz.underlying133 sz5 rfl rfl (lz rfl) (lz rfl) rfl) ?_
  refine tq rfl rfl rfl rfl rfl (PV.load1 (v := (.int .u8 ((((s.getD 63 0).toNat : Nat) : Int)))) rfl Tryz.underlying5 rfl rfl (Rd.own 1 rfl rfl) (u8s_at (by omega))) ?_
  refine tq rfl rfl rfl rfl rfl (PV.neq rfl rfl rfl) ?_
  refine TL.dec (fun h26 => ?_) (fun h26 => ?_)
  refine tp rfl rfl rfl (PV.pick rfl rfl rfl) ?_
  refine TL.nil ?_
  refine TE.next hK7 ?_
  clear hK7
  refine TC.yes rfl ?_
  refine TC.seq (fun K8 hK8 => ?_)
  refine TC.region ?_
  refine tp rfl rfl rfl (PV.assign rfl rfl) ?_
  refine tp rfl rfl rfl (PV.assign rfl rfl) ?_
  refine tp rfl rfl rfl (PV.assign rfl rfl) ?_
  refine TL.nil ?_
  refine TE.next hK8 ?_
  clear hK8
  refine TC.ret ?_
  refine TE.passRet ?_
  clear hK6
  refine TE.weak (Sub.refl _) (fun _ s => sep_keep [] rfl s) ?_
  refine TE.ret3 rfl rfl rfl rfl ?_
  exact .inl ⟨pieceP_end (fun h => h26 (by rw [h]; rfl)), rfl, rfl⟩
  refine tp rfl rfl rfl (PV.pick rfl rfl rfl) ?_
  refine TL.nil ?_
  refine TE.next hK7 ?_
  clear hK7
  refine TC.no rfl ?_
  refine TC.skip ?_
  refine TE.next hK6 ?_
  clear hK6
  refine TC.seq (fun K9 hK9 => ?_)
  refine TC.region ?_
  refine tp rfl rfl rfl (PV.assign rfl rfl) ?_
  refine TL.nil ?_
  refine TE.next hK9 ?_
  clear hK9
  refine TC.seq (fun K10 hK10 => ?_)
  refine TC.seq (fun K11 hK11 => ?_)
  refine TC.region ?_
  refine tp rfl rfl rfl (PV.move rfl rfl) ?_
  refine tp rfl rfl rfl (PV.to (PV.sliceH (a := some ⟨g, 0, none⟩) (len := t.length) (cap := cap) (hi := 4) rfl Tryz.underlying106 sz5 (by rw [← hv]; rfl) rfl rfl (by omega)) (cutLH_0 (by omega))) ?_
  refine tp rfl rfl rfl (PV.lenSl rfl Tryz.underlying106 rfl) ?_
  refine tp rfl rfl rfl (PV.move rfl rfl) ?_
  refine TL.nil ?_
  refine TE.next hK11 ?_
  clear hK11
  refine TC.block ?_
  refine TC.loop (α := (Nat)) (fun k => k ≤ 4) (fun k => [(1, (.int .i64 (number))), (2, (.int .i64 (place))), (6, (.slice none 0 0)), (7, (.int .i64 0)), (8, (.bool false)), (9, u), (11, (.int .i64 (beI (t.take k)))), (29, (.slice (some ⟨g, 0, none⟩) (4) (cap))), (30, (.int .i64 4)), (31, (.int .i64 (((k : Nat) : Int))))]) (fun k => [ownB u (t) 5, blkA b3 (u8s s) 133]) (fun k => 4 - k) 0
      (Nat.zero_le _) (Sub.r (Sub.r (Sub.r (Sub.r (Sub.r (Sub.r (Sub.cons rfl (by congr 1) (Sub.r (Sub.r (Sub.cons rfl (by congr 1) (Sub.nil _)))))))))))
      (fun _ s => s) (fun k hinv => ?_)
  obtain hk := hinv
  refine TC.seq (fun K12 hK12 => ?_)
  refine TC.region ?_
  refine tp rfl rfl rfl (PV.lss rfl rfl rfl) ?_
  refine TL.dec (fun h32 => ?_) (fun h32 => ?_)
  refine TL.nil ?_
  refine TE.next hK12 ?_
  clear hK12
  refine TC.seq (fun K13 hK13 => ?_)
  refine TC.yes rfl ?_
  refine TC.skip ?_
  refine TE.next hK13 ?_
  clear hK13
  refine TC.seq (fun K14 hK14 => ?_)
  refine TC.block ?_
  refine TC.seq (fun K15 hK15 => ?_)
  refine TC.region ?_
  refine tp rfl rfl rfl (PV.indexSl (r := k) rfl Tryz.underlying106 sz5 rfl rfl (by first | omega | decide) (by first | omega | decide) (by omega)) ?_
  refine tp rfl rfl rfl (PV.load1X (v := (.int .u8 ((((t.getD k 0).toNat : Nat) : Int)))) rfl Tryz.underlying5 rfl rfl (RdX.own 0 rfl hv rfl) (u8s_at (by omega))) ?_
  refine tp rfl rfl rfl (PV.assign rfl rfl) ?_
  refine TL.nil ?_
  refine TE.next hK15 ?_
  clear hK15
  refine TC.region ?_
  refine tp rfl rfl rfl (PV.move rfl rfl) ?_
  refine tp rfl rfl rfl (PV.shl (r := IntKind.i64.wrap ((beI (t.take k)) * 2 ^ 8)) rfl rfl rfl (by omega) rfl) ?_
  refine tp rfl rfl rfl (PV.move rfl rfl) ?_
  refine tp rfl rfl rfl (PV.convI (r := (((t.getD k 0).toNat : Nat) : Int)) rfl Tryz.underlying5 Tryz.underlying3 rfl (wrap_i64 (by omega) (by have := UInt8.toNat_lt (n := t.getD k 0); omega))) ?_
  refine tp rfl rfl rfl (PV.or (r := orI .i64 (IntKind.i64.wrap ((beI (t.take k)) * 2 ^ 8)) (((t.getD k 0).toNat : Nat) : Int)) rfl rfl rfl rfl) ?_
  refine tp rfl rfl rfl (PV.assign rfl rfl) ?_
  refine TL.nil ?_
  refine TE.blockEnd ?_
  refine TE.next hK14 ?_
  clear hK14
  refine TC.region ?_
  refine tp rfl rfl rfl (PV.add rfl rfl rfl (wrap_i64 (by omega) (by omega))) ?_
  refine tp rfl rfl rfl (PV.move rfl rfl) ?_
  refine TL.nil ?_
  exact TE.round ((k + 1) : (Nat)) (by omega) (by show 4 - (k + 1) < 4 - k; omega)
    (Sub.r (Sub.r (Sub.r (Sub.r (Sub.r (Sub.r (Sub.cons rfl (congrArg (Value.int .i64) (beI_take (by omega)).symm) (Sub.r (Sub.r (Sub.cons rfl (by simp) (Sub.nil _)))))))))))
    (fun _ s => s)
  refine TL.nil ?_
  refine TE.next hK12 ?_
  clear hK12
  refine TC.seq (fun K16 hK16 => ?_)
  refine TC.no rfl ?_
  refine TC.exit ?_
  refine TE.pass ?_
  clear hK16
  refine TE.pass ?_
  refine TE.hit ?_
  refine TE.next hK10 ?_
  clear hK10
  refine TC.seq (fun K17 hK17 => ?_)
  refine TC.draw (fun w => Frm F w ∧ Hx g (u8s (t)) w ∧ True) mixedD rfl (fun _ s => ⟨Frm.of s, RdX.own 0 rfl hv rfl _ s, trivial⟩) ?_
  refine TD.take (i := 0) rfl (by kernel_rfl) (by kernel_rfl) (by kernel_rfl) (fun _ _ _ _ h => h) (Want.plain rfl) rfl rfl (PV.move rfl rfl) ?_
  refine TD.take (i := 1) rfl (by kernel_rfl) (by kernel_rfl) (by kernel_rfl) (fun _ _ _ _ h => h) (Want.plain rfl) rfl rfl (PV.indexSlV (r := 5) hv rfl Tryz.underlying106 sz5 rfl rfl (by omega) (by omega) rfl) ?_
  refine TD.take (i := 2) rfl (by kernel_rfl) (by kernel_rfl) (by kernel_rfl) (fun _ _ _ _ h => h) (Want.plain rfl) rfl rfl (PV.load1X (v := (.int .u8 ((((t.getD 5 0).toNat : Nat) : Int)))) rfl Tryz.underlying5 rfl rfl (fun _ h => h.2.1) (u8s_at (by omega))) ?_
  refine TD.take (i := 3) rfl (by kernel_rfl) (by kernel_rfl) (by kernel_rfl) (fun _ _ _ _ h => h) (Want.plain rfl) rfl rfl (PV.convI (r := (((t.getD 5 0).toNat : Nat) : Int)) rfl Tryz.underlying5 Tryz.underlying3 rfl (wrap_i64 (by omega) (by have := UInt8.toNat_lt (n := t.getD 5 0); omega))) ?_
  refine TD.take (i := 4) rfl (by kernel_rfl) (by kernel_rfl) (by kernel_rfl) (fun _ _ _ _ h => h) (Want.plain rfl) rfl rfl (PV.move rfl rfl) ?_
  refine TD.take (i := 5) rfl (by kernel_rfl) (by kernel_rfl) (by kernel_rfl) (fun _ _ _ _ h => h) (Want.plain rfl) rfl rfl (PV.indexSlV (r := 6) hv rfl Tryz.underlying106 sz5 rfl rfl (by omega) (by omega) rfl) ?_
  refine TD.take (i := 6) rfl (by kernel_rfl) (by kernel_rfl) (by kernel_rfl) (fun _ _ _ _ h => h) (Want.plain rfl) rfl rfl (PV.load1X (v := (.int .u8 ((((t.getD 6 0).toNat : Nat) : Int)))) rfl Tryz.underlying5 rfl rfl (fun _ h => h.2.1) (u8s_at (by omega))) ?_
  refine TD.take (i := 7) rfl (by kernel_rfl) (by kernel_rfl) (by kernel_rfl) (fun _ _ _ _ h => h) (Want.plain rfl) rfl rfl (PV.convI (r := (((t.getD 6 0).toNat : Nat) : Int)) rfl Tryz.underlying5 Tryz.underlying3 rfl (wrap_i64 (by omega) (by have := UInt8.toNat_lt (n := t.getD 6 0); omega))) ?_
  refine TD.take (i := 8) rfl (by kernel_rfl) (by kernel_rfl) (by kernel_rfl) (fun _ _ _ _ h => h) (Want.plain rfl) rfl rfl (PV.assign rfl rfl) ?_
  refine TD.take (i := 9) rfl (by kernel_rfl) (by kernel_rfl) (by kernel_rfl) (fun _ _ _ _ h => h) (Want.plain rfl) rfl rfl (PV.assign rfl rfl) ?_
  refine TD.done (by kernel_rfl) ?_
  refine TE.next hK17 ?_
  clear hK17
  refine TC.seq (fun K18 hK18 => ?_)
  refine TC.seq (fun K19 hK19 => ?_)
  refine TC.region ?_
  refine tp rfl rfl rfl (PV.move rfl rfl) ?_
  refine tp rfl rfl rfl (PV.move rfl rfl) ?_
  refine tp rfl rfl rfl (PV.neq rfl rfl rfl) ?_
  refine TL.dec (fun h51 => ?_) (fun h51 => ?_)
  refine tp rfl rfl rfl (PV.move rfl rfl) ?_
  refine TL.unmet (b := true) rfl rfl rfl rfl (lb rfl) ?_
  refine TL.unmet (b := true) rfl rfl rfl rfl (lb rfl) ?_
  refine TL.unmet (b := true) rfl rfl rfl rfl (lb rfl) ?_
  refine TL.unmet (b := true) rfl rfl rfl rfl (lb rfl) ?_
  refine TL.unmet (b := true) rfl rfl rfl rfl (lb rfl) ?_
  refine TL.unmet (b := true) rfl rfl rfl rfl (lb rfl) ?_
  refine tp rfl rfl rfl (PV.pick rfl rfl rfl) ?_
  refine tp rfl rfl rfl (PV.move rfl rfl) ?_
  refine TL.unmet (b := true) rfl rfl rfl rfl (lb rfl) ?_
  refine TL.unmet (b := true) rfl rfl rfl rfl (lb rfl) ?_
  refine TL.unmet (b := true) rfl rfl rfl rfl (lb rfl) ?_
  refine tp rfl rfl rfl (PV.pick rfl rfl rfl) ?_
  refine tp rfl rfl rfl (PV.move rfl rfl) ?_
  refine TL.unmet (b := true) rfl rfl rfl rfl (lb rfl) ?_
  refine TL.unmet (b := true) rfl rfl rfl rfl (lb rfl) ?_
  refine tp rfl rfl rfl (PV.pick rfl rfl rfl) ?_
  refine TL.nil ?_
  refine TE.next hK19 ?_
  clear hK19
  refine TC.yes rfl ?_
  refine TC.seq (fun K20 hK20 => ?_)
  refine TC.region ?_
  refine tp rfl rfl rfl (PV.assign rfl rfl) ?_
  refine tp rfl rfl rfl (PV.assign rfl rfl) ?_
  refine tp rfl rfl rfl (PV.assign rfl rfl) ?_
  refine TL.nil ?_
  refine TE.next hK20 ?_
  clear hK20
  refine TC.ret ?_
  refine TE.passRet ?_
  clear hK18
  refine TE.weak (Sub.refl _) (fun _ s => sep_keep [] rfl s) ?_
  refine TE.ret3 rfl rfl rfl rfl ?_
  exact .inl ⟨pieceP_none2 ht (.inl (by have : k = 4 := (by omega); subst this; exact h51)), rfl, rfl⟩
  refine tp rfl rfl rfl (PV.move rfl rfl) ?_
  refine tq rfl rfl rfl rfl rfl (PV.move rfl rfl) ?_
  refine tq rfl rfl rfl rfl rfl (PV.indexSlV (r := 4) hv rfl Tryz.underlying106 sz5 rfl rfl (by omega) (by omega) rfl) ?_
  refine tq rfl rfl rfl rfl rfl (PV.load1X (v := (.int .u8 ((((t.getD 4 0).toNat : Nat) : Int)))) rfl Tryz.underlying5 rfl rfl (RdX.own 0 rfl hv rfl) (u8s_at (by omega))) ?_
  refine tq rfl rfl rfl rfl rfl (PV.convI (r := (((t.getD 4 0).toNat : Nat) : Int)) rfl Tryz.underlying5 Tryz.underlying3 rfl (wrap_i64 (by omega) (by have := UInt8.toNat_lt (n := t.getD 4 0); omega))) ?_
  refine tq rfl rfl rfl rfl rfl (PV.move rfl rfl) ?_
  refine tq rfl rfl rfl rfl rfl (PV.neq rfl rfl rfl) ?_
  refine TL.dec (fun h58 => ?_) (fun h58 => ?_)
  refine tp rfl rfl rfl (PV.pick rfl rfl rfl) ?_
  refine tp rfl rfl rfl (PV.move rfl rfl) ?_
  refine TL.unmet (b := true) rfl rfl rfl rfl (lb rfl) ?_
  refine TL.unmet (b := true) rfl rfl rfl rfl (lb rfl) ?_
  refine TL.unmet (b := true) rfl rfl rfl rfl (lb rfl) ?_
  refine tp rfl rfl rfl (PV.pick rfl rfl rfl) ?_
  refine tp rfl rfl rfl (PV.move rfl rfl) ?_
  refine TL.unmet (b := true) rfl rfl rfl rfl (lb rfl) ?_
  refine TL.unmet (b := true) rfl rfl rfl rfl (lb rfl) ?_
  refine tp rfl rfl rfl (PV.pick rfl rfl rfl) ?_
  refine TL.nil ?_
  refine TE.next hK19 ?_
  clear hK19
  refine TC.yes rfl ?_
  refine TC.seq (fun K21 hK21 => ?_)
  refine TC.region ?_
  refine tp rfl rfl rfl (PV.assign rfl rfl) ?_
  refine tp rfl rfl rfl (PV.assign rfl rfl) ?_
  refine tp rfl rfl rfl (PV.assign rfl rfl) ?_
  refine TL.nil ?_
  refine TE.next hK21 ?_
  clear hK21
  refine TC.ret ?_
  refine TE.passRet ?_
  clear hK18
  refine TE.weak (Sub.refl _) (fun _ s => sep_keep [] rfl s) ?_
  refine TE.ret3 rfl rfl rfl rfl ?_
  exact .inl ⟨pieceP_none2 ht (.inr (.inl h58)), rfl, rfl⟩
  refine tp rfl rfl rfl (PV.pick rfl rfl rfl) ?_
  refine tp rfl rfl rfl (PV.move rfl rfl) ?_
  refine tq rfl rfl rfl rfl rfl (PV.move rfl rfl) ?_
  refine tq rfl rfl rfl rfl rfl (PV.move rfl rfl) ?_
  refine tq rfl rfl rfl rfl rfl (PV.geq rfl rfl rfl) ?_
  refine TL.dec (fun h63 => ?_) (fun h63 => ?_)
  refine tp rfl rfl rfl (PV.pick rfl rfl rfl) ?_
  refine tp rfl rfl rfl (PV.move rfl rfl) ?_
  refine TL.unmet (b := true) rfl rfl rfl rfl (lb rfl) ?_
  refine TL.unmet (b := true) rfl rfl rfl rfl (lb rfl) ?_
  refine tp rfl rfl rfl (PV.pick rfl rfl rfl) ?_
  refine TL.nil ?_
  refine TE.next hK19 ?_
  clear hK19
  refine TC.yes rfl ?_
  refine TC.seq (fun K22 hK22 => ?_)
  refine TC.region ?_
  refine tp rfl rfl rfl (PV.assign rfl rfl) ?_
  refine tp rfl rfl rfl (PV.assign rfl rfl) ?_
  refine tp rfl rfl rfl (PV.assign rfl rfl) ?_
  refine TL.nil ?_
  refine TE.next hK22 ?_
  clear hK22
  refine TC.ret ?_
  refine TE.passRet ?_
  clear hK18
  refine TE.weak (Sub.refl _) (fun _ s => sep_keep [] rfl s) ?_
  refine TE.ret3 rfl rfl rfl rfl ?_
  exact .inl ⟨pieceP_none2 ht (.inr (.inr (.inl h63))), rfl, rfl⟩
  refine tp rfl rfl rfl (PV.pick rfl rfl rfl) ?_
  refine tp rfl rfl rfl (PV.move rfl rfl) ?_
  refine tq rfl rfl rfl rfl rfl (PV.move rfl rfl) ?_
  refine tq rfl rfl rfl rfl rfl (PV.gtr rfl rfl rfl) ?_
  refine TL.dec (fun h67 => ?_) (fun h67 => ?_)
  refine tp rfl rfl rfl (PV.pick rfl rfl rfl) ?_
  refine TL.nil ?_
  refine TE.next hK19 ?_
  clear hK19
  refine TC.yes rfl ?_
  refine TC.seq (fun K23 hK23 => ?_)
  refine TC.region ?_
  refine tp rfl rfl rfl (PV.assign rfl rfl) ?_
  refine tp rfl rfl rfl (PV.assign rfl rfl) ?_
  refine tp rfl rfl rfl (PV.assign rfl rfl) ?_
  refine TL.nil ?_
  refine TE.next hK23 ?_
  clear hK23
  refine TC.ret ?_
  refine TE.passRet ?_
  clear hK18
  refine TE.weak (Sub.refl _) (fun _ s => sep_keep [] rfl s) ?_
  refine TE.ret3 rfl rfl rfl rfl ?_
  exact .inl ⟨pieceP_none2 ht (.inr (.inr (.inr h67))), rfl, rfl⟩
  refine tp rfl rfl rfl (PV.pick rfl rfl rfl) ?_
  refine TL.nil ?_
  refine TE.next hK19 ?_
  clear hK19
  refine TC.no rfl ?_
  refine TC.skip ?_
  refine TE.next hK18 ?_
  clear hK18
  refine TC.seq (fun K24 hK24 => ?_)
  refine TC.region ?_
  refine tp rfl rfl rfl (PV.move rfl rfl) ?_
  refine tp rfl rfl rfl (PV.move rfl rfl) ?_
  refine tp rfl rfl rfl (PV.add (r := ((7 + (t.getD 6 0).toNat : Nat) : Int)) rfl rfl rfl (by rw [show (7 : Int) + (((t.getD 6 0).toNat : Nat) : Int) = ((7 + (t.getD 6 0).toNat : Nat) : Int) by omega]; have := UInt8.toNat_lt (n := t.getD 6 0); exact wrap_i64 (by omega) (by omega))) ?_
  refine tp rfl rfl rfl (PV.to (PV.sliceLH (a := some ⟨g, 0, none⟩) (len := t.length) (cap := cap) (lo := 7) (hi := 7 + (t.getD 6 0).toNat) rfl Tryz.underlying106 sz5 (by rw [← hv]; rfl) rfl rfl rfl rfl (by omega) (by omega)) (congrArg (fun q => cutLH q 7 (7 + (t.getD 6 0).toNat)) hv.symm)) ?_
  refine tp rfl rfl rfl (PV.move rfl rfl) ?_
  refine tp rfl rfl rfl (PV.assign rfl rfl) ?_
  refine tp rfl rfl rfl (PV.assign rfl rfl) ?_
  refine tp rfl rfl rfl (PV.assign rfl rfl) ?_
  refine TL.nil ?_
  refine TE.next hK24 ?_
  clear hK24
  refine TC.ret ?_
  refine TE.weak (H' := [subB (cutLH u 7 (7 + (t.getD 6 0).toNat)) ((t.drop 7).take (t.getD 6 0).toNat) 5]) (Sub.refl _) (fun _ s' => sep_keep [0] rfl (sep_ownCut 0 rfl rfl hv (by omega) (by omega) (by omega) (by rw [List.drop_take, Nat.add_sub_cancel_left]) s')) ?_
  refine TE.ret3 rfl rfl rfl rfl ?_
  obtain rfl : k = 4 := by omega
  have h1 : s.getD 63 0 = 1 := UInt8.toNat_inj.1 (by have h1' : (1 : UInt8).toNat = 1 := rfl; omega)
  exact .inr ⟨_, _, _, pieceP_some ht h1 (by omega), rfl, rfl⟩
end Go.Proofs.YtfceaphohlbnbaaGreat
end

section
namespace Wal
open Go Leg Codec Api Dsk

theorem isB_bunch (i : Nat) {us : List Value} {ls : List (List UInt8)} {e k : Nat} {B : List HP} {F : Hl} (hk : k < ls.length) (hi : Nat.blt i B.length = true) (hH : B.getD i (fun _ => True) = bunch us ls e) : ∀ g, Dj g F → sep B g → IsB (us.getD k undef) ls[k] (jn g F) := fun g d s => by
  obtain ⟨h1, h2, d', rfl, a, _⟩ := sep_get i (lb hi) s
  rw [hH] at a
  obtain ⟨hl, a⟩ := a
  obtain ⟨u, e1, k1, k2, dk, rfl, a3⟩ := bunch_at us ls e _ hl a k hk
  rw [List.getD_eq_getElem?_getD, e1]
  exact subB_isB a3 fun b o e => jn_some (jn_some (jn_some e))
theorem In.read {s ws : Secs} (h1 : In s) (h2 : In ws) (at' : Int) (h : ¬ (0 ≤ at' ∧ at' < 2048)) : ∀ k, k ≤ ws.length → readN s ws at' k = zs
  | 0, _ => by
    show sget s at' = zs
    induction s with
    | nil => rfl
    | cons p s ih =>
      obtain ⟨a, b⟩ := p
      simp only [sget]
      have hh := h1 (a, b) (by simp)
      rw [if_neg (fun e => h (by simp only at hh; omega))]
      exact ih fun q hq => h1 q (by simp [hq])
  | k + 1, hk => by
    simp only [readN]
    rw [if_neg, In.read h1 h2 at' h k (by omega)]
    intro e
    rw [wat_eq (by omega)] at e
    have hh := h2 ws[k] (List.getElem_mem _)
    exact h (by omega)
theorem DS.In.read {D : DS} (h : Wal.DS.In D) {at' : Int} (h2 : ¬ (0 ≤ at' ∧ at' < 2048)) : D.read at' = zs := Wal.In.read h.1 h.2 at' h2 _ (Nat.le_refl _)
theorem pieceP_zs (number place : Int) : pieceP zs number place = none := pieceP_end (by decide)
theorem moreP_some {rd : Int → Sec} {number at' all : Int} : ∀ (m : Nat) {b : List UInt8}, moreP rd number at' all m = some b → ∀ k, k < m → ∃ x, pieceP (rd (at' + k)) number k = some (x, all)
  | 0, _, _, k, hk => by omega
  | m + 1, b, h, k, hk => by
    simp only [moreP] at h
    split at h
    · cases h
    · rename_i b' hb
      split at h
      · cases h
      · rename_i x same hx
        split at h
        · rename_i hs
          by_cases e : k = m
          · subst e; exact ⟨x, by rw [hx, hs]⟩
          · exact moreP_some m hb k (by omega)
        · cases h
theorem standsP_facts {rd : Int → Sec} {number at' all : Int} {b : List UInt8} (hl : (rd at').length = 64) (h : standsP rd number at' = some (b, all)) : 0 < all ∧ all ≤ 255 ∧ ∀ k : Nat, (k : Int) < all → ∃ x, pieceP (rd (at' + k)) number k = some (x, all) := by
  unfold standsP at h
  split at h
  · cases h
  · rename_i x al hp
    obtain ⟨f1, f2, _⟩ := pieceP_facts hl hp
    obtain ⟨c, hc, e⟩ := Option.map_eq_some_iff.1 h
    injection e with e1 e2
    subst e1; subst e2
    exact ⟨f1, f2, fun k hk => moreP_some _ hc k (by omega)⟩
theorem standsP_room {D : DS} (hI : Wal.DS.In D) (hD : D.Ok) {number at' all : Int} {b : List UInt8} (h0 : 0 ≤ at') (h : standsP D.read number at' = some (b, all)) : at' + all ≤ 2048 := by
  obtain ⟨f1, f2, f3⟩ := standsP_facts (DS.read_len hD _) h
  obtain ⟨x, hx⟩ := f3 (all - 1).toNat (by omega)
  by_cases q : at' + all ≤ 2048
  · exact q
  · rw [DS.In.read hI (by omega), pieceP_zs] at hx; cases hx
theorem scan_stop {rd : Int → Sec} {f : Nat} {cnt used : Int} (h : standsP rd (cnt + 1) used = none) : scanP rd f cnt used = ([], used) := by
  cases f with
  | zero => rfl
  | succ f => simp only [scanP, h]
theorem scan_go {rd : Int → Sec} {f : Nat} {cnt used all : Int} {b : List UInt8} (h : standsP rd (cnt + 1) used = some (b, all)) : scanP rd (f + 1) cnt used = (b :: (scanP rd f (cnt + 1) (used + all)).1, (scanP rd f (cnt + 1) (used + all)).2) := by simp only [scanP, h]
/-- What is known while records are scanned. -/
def Scan (D : DS) (f : Nat) (rs : List (List UInt8)) (used : Int) : Prop :=
  scanP D.read fuel0 0 0 = (rs ++ (scanP D.read f rs.length used).1, (scanP D.read f rs.length used).2) ∧ 0 ≤ used ∧ used ≤ 2048 ∧ 2049 ≤ (f : Int) + used ∧ (rs.length : Int) ≤ used
theorem Scan.start (D : DS) : Scan D fuel0 [] 0 := by
  refine ⟨?_, by omega, by omega, by rw [fuel0_eq]; omega, by simp⟩
  have e : ((([] : List (List UInt8)).length : Nat) : Int) = 0 := rfl
  rw [List.nil_append, e]

theorem Scan.next {D : DS} (hI : Wal.DS.In D) (hD : D.Ok) {f : Nat} {rs : List (List UInt8)} {used all : Int} {b : List UInt8} (h : Scan D f rs used) (h2 : standsP D.read ((rs.length : Int) + 1) used = some (b, all)) : ∃ f', f = f' + 1 ∧ Scan D f' (rs ++ [b]) (used + all) := by
  obtain ⟨h1, h0, h3, h4, h5⟩ := h
  have hr := standsP_room hI hD h0 h2
  have hf := (standsP_facts (DS.read_len hD _) h2).1
  obtain ⟨f', rfl⟩ : ∃ f', f = f' + 1 := ⟨f - 1, by omega⟩
  refine ⟨f', rfl, ?_, by omega, by omega, by omega, by simp; omega⟩
  rw [h1, scan_go h2]
  simp
theorem Scan.stop {D : DS} {f : Nat} {rs : List (List UInt8)} {used : Int} (h : Scan D f rs used) (h2 : standsP D.read ((rs.length : Int) + 1) used = none) : scanP D.read fuel0 0 0 = (rs, used) := by
  rw [h.1, scan_stop h2]; simp
theorem wipe_end {D : DS} {at' : Int} (h : 2048 ≤ at') : wipeP (2048 - at').toNat at' D = (0, D) := by rw [show (2048 - at').toNat = 0 by omega]; rfl
theorem wipe_skip {D : DS} {at' : Int} (h : at' < 2048) (h2 : D.read at' = zs) : wipeP (2048 - at').toNat at' D = wipeP (2048 - (at' + 1)).toNat (at' + 1) D := by
  rw [show (2048 - at').toNat = (2048 - (at' + 1)).toNat + 1 by omega, wipeP, if_pos h2]
theorem wipe_go {D : DS} {at' : Int} (h : at' < 2048) (h2 : D.read at' ≠ zs) (h3 : (D.write at' []).1 = 0) : wipeP (2048 - at').toNat at' D = wipeP (2048 - (at' + 1)).toNat (at' + 1) (D.write at' []).2 := by
  rw [show (2048 - at').toNat = (2048 - (at' + 1)).toNat + 1 by omega, wipeP, if_neg h2, if_pos h3]
theorem wipe_fail {D : DS} {at' : Int} (h : at' < 2048) (h2 : D.read at' ≠ zs) (h3 : (D.write at' []).1 ≠ 0) : wipeP (2048 - at').toNat at' D = D.write at' [] := by
  rw [show (2048 - at').toNat = (2048 - (at' + 1)).toNat + 1 by omega, wipeP, if_neg h2, if_neg h3]
theorem open_fail1 {D D' : DS} {rs : List (List UInt8)} {used e : Int} (h : scanP D.read fuel0 0 0 = (rs, used)) (h2 : wipeP (2048 - used).toNat used D = (e, D')) (h3 : e ≠ 0) : openP D = ⟨e, [], 0, D'⟩ := by
  simp only [openP, h, h2]
  rw [if_pos h3]
theorem open_fail2 {D D' : DS} {rs : List (List UInt8)} {used : Int} (h : scanP D.read fuel0 0 0 = (rs, used)) (h2 : wipeP (2048 - used).toNat used D = (0, D')) (h3 : D'.sync.1 ≠ 0) : openP D = ⟨D'.sync.1, [], 0, D'.sync.2⟩ := by
  simp only [openP, h, h2, ne_eq, not_true_eq_false, if_false]
  rw [if_pos h3]
theorem open_ok {D D' : DS} {rs : List (List UInt8)} {used : Int} (h : scanP D.read fuel0 0 0 = (rs, used)) (h2 : wipeP (2048 - used).toNat used D = (0, D')) (h3 : D'.sync.1 = 0) : openP D = ⟨0, rs, used, D'.sync.2⟩ := by
  simp only [openP, h, h2, ne_eq, not_true_eq_false, if_false]
  rw [if_neg (by simp [h3])]
/-! ### Put -/
def writesP : List Sec → Int → DS → Int × DS
  | [], _, D => (0, D)
  | s :: ss, at', D => if (D.write at' s).1 = 0 then writesP ss (at' + 1) (D.write at' s).2 else D.write at' s
structure PutR where
  err : Int
  cnt : Nat
  used : Int
  D : DS
def putL (D : DS) (cnt : Nat) (used : Int) (bs : List UInt8) : PutR :=
  if 3000 < bs.length then ⟨2, cnt, used, D⟩
  else if (piecesN bs.length : Int) > 2048 - used then ⟨3, cnt, used, D⟩
  else
    let w := writesP (sectorsP ((cnt + 1 : Nat) : Int) bs) used D
    if w.1 ≠ 0 then ⟨w.1, cnt, used, w.2⟩ else if w.2.sync.1 ≠ 0 then ⟨w.2.sync.1, cnt, used, w.2.sync.2⟩ else ⟨0, cnt + 1, used + piecesN bs.length, w.2.sync.2⟩
theorem writes_step {ss : List Sec} {at' : Int} {D : DS} {k : Nat} (hk : k < ss.length) (h : (D.write (at' + k) ss[k]).1 = 0) : writesP (ss.drop k) (at' + k) D = writesP (ss.drop (k + 1)) (at' + (k + 1 : Nat)) (D.write (at' + k) ss[k]).2 := by
  rw [List.drop_eq_getElem_cons hk, writesP, if_pos h]
  congr 1
  omega
theorem writes_fail {ss : List Sec} {at' : Int} {D : DS} {k : Nat} (hk : k < ss.length) (h : (D.write (at' + k) ss[k]).1 ≠ 0) : writesP (ss.drop k) (at' + k) D = D.write (at' + k) ss[k] := by
  rw [List.drop_eq_getElem_cons hk, writesP, if_neg h]
section
variable {D D' : DS} {cnt : Nat} {used : Int} {bs : List UInt8}
theorem put_long (h : 3000 < bs.length) : putL D cnt used bs = ⟨2, cnt, used, D⟩ := by rw [putL, if_pos h]
theorem put_full (h : ¬ 3000 < bs.length) (h2 : (piecesN bs.length : Int) > 2048 - used) : putL D cnt used bs = ⟨3, cnt, used, D⟩ := by rw [putL, if_neg h, if_pos h2]
theorem put_fail1 {e : Int} (h : ¬ 3000 < bs.length) (h2 : ¬ (piecesN bs.length : Int) > 2048 - used) (h3 : writesP (sectorsP ((cnt + 1 : Nat) : Int) bs) used D = (e, D')) (h4 : e ≠ 0) : putL D cnt used bs = ⟨e, cnt, used, D'⟩ := by
  rw [putL, if_neg h, if_neg h2]
  simp only [h3]
  rw [if_pos h4]
theorem put_fail2 (h : ¬ 3000 < bs.length) (h2 : ¬ (piecesN bs.length : Int) > 2048 - used) (h3 : writesP (sectorsP ((cnt + 1 : Nat) : Int) bs) used D = (0, D')) (h4 : D'.sync.1 ≠ 0) : putL D cnt used bs = ⟨D'.sync.1, cnt, used, D'.sync.2⟩ := by
  rw [putL, if_neg h, if_neg h2]
  simp only [h3, ne_eq, not_true_eq_false, if_false]
  rw [if_pos h4]
theorem put_ok (h : ¬ 3000 < bs.length) (h2 : ¬ (piecesN bs.length : Int) > 2048 - used) (h3 : writesP (sectorsP ((cnt + 1 : Nat) : Int) bs) used D = (0, D')) (h4 : D'.sync.1 = 0) : putL D cnt used bs = ⟨0, cnt + 1, used + piecesN bs.length, D'.sync.2⟩ := by
  rw [putL, if_neg h, if_neg h2]
  simp only [h3, ne_eq, not_true_eq_false, if_false]
  rw [if_neg (by simp [h4])]
end
end Wal
end

section
namespace Go.Proofs.YtfceaphohlbnbaaGreat

open Go Leg Codec Api Dsk Wal

set_option maxRecDepth 100000

/-- A log. -/
abbrev lgP (lg d : Nat) (cnt used : Int) : HP := blkA lg [.pointer (some ⟨d, 0, none⟩), .int .i64 cnt, .int .i64 used] 143
abbrev rcP (v : Value) (ls : List (List UInt8)) : HP := recsP 106 5 v ls

theorem stands_does (d : Nat) (D : DS) (number at' : Int) (hD : D.Ok) (hb : D.ws.length ≤ 1000000000) (ha : 0 ≤ at' ∧ at' ≤ 1000000) :
    Does Tryz.prog 68 #[(.pointer (some ⟨d, 0, none⟩)), (.int .i64 (number)), (.int .i64 (at'))] (fun _ => True) [dk d (D)] (Ret (fun v H => (standsP D.read number at' = none ∧ v = .tuple #[.slice none 0 0, .int .i64 0, .bool false] ∧ H = [dk d D]) ∨ ∃ b all u, standsP D.read number at' = some (b, all) ∧ v = .tuple #[u, .int .i64 all, .bool true] ∧ H = [subB u b 5, dk d D])) := by
  refine Does.body (vs := [(.pointer (some ⟨d, 0, none⟩)), (.int .i64 (number)), (.int .i64 (at'))]) (n := 56) Tryz.func68 rfl rfl rfl (fun w0 F hF => ?_)
  refine TC.seq (fun K1 hK1 => ?_)
  refine TC.region ?_
  refine tp rfl rfl rfl (PV.assign rfl rfl) ?_
  refine tp rfl rfl rfl (PV.assign rfl rfl) ?_
  refine tp rfl rfl rfl (PV.assign rfl rfl) ?_
  refine TL.nil ?_
  refine TE.next hK1 ?_
  clear hK1
  refine TC.seq (fun K2 hK2 => ?_)
  refine TC.region ?_
  refine tp rfl rfl rfl (PV.move rfl rfl) ?_
  refine tp rfl rfl rfl (PV.move rfl rfl) ?_
  refine TL.callR (A := [dk d (D)]) (B := []) (Want.plain rfl) rfl rfl rfl nm69 rfl (dk_read d (D) at' hD hb) (fun _ s => s) (fun _ _ _ => trivial) (fun vR HR hR => ?_)
  obtain ⟨hv, rfl⟩ := hR
  subst hv
  change TL _ _ _ _ _ _ _ _ _ [dk d (D)]
  refine tp rfl rfl rfl (PV.move rfl rfl) ?_
  refine TL.callR (A := []) (B := [dk d (D)]) (Want.plain rfl) rfl rfl rfl nm97 rfl (piece_does ((D).read at') number 0 (DS.read_len hD _)) (fun _ s => s) (fun _ _ _ => trivial) (fun vR HR hR => ?_)
  rcases hR with ⟨hp, rfl, rfl⟩ | ⟨b, all, u, hp, rfl, rfl⟩
  change TL _ _ _ _ _ _ _ _ _ [dk d (D)]
  refine tp rfl rfl rfl (PV.move rfl rfl) ?_
  refine tp rfl rfl rfl (PV.extract (vs := [(.slice none 0 0), (.int .i64 0), (.bool false)]) rfl rfl rfl) ?_
  refine tp rfl rfl rfl (PV.extract (vs := [(.slice none 0 0), (.int .i64 0), (.bool false)]) rfl rfl rfl) ?_
  refine tp rfl rfl rfl (PV.extract (vs := [(.slice none 0 0), (.int .i64 0), (.bool false)]) rfl rfl rfl) ?_
  refine tp rfl rfl rfl (PV.assign rfl rfl) ?_
  refine tp rfl rfl rfl (PV.assign rfl rfl) ?_
  refine tp rfl rfl rfl (PV.assign rfl rfl) ?_
  refine TL.nil ?_
  refine TE.next hK2 ?_
  clear hK2
  refine TC.seq (fun K3 hK3 => ?_)
  refine TC.seq (fun K4 hK4 => ?_)
  refine TC.region ?_
  refine tp rfl rfl rfl (PV.move rfl rfl) ?_
  refine tp rfl rfl rfl (PV.not (r := true) rfl rfl rfl) ?_
  refine TL.nil ?_
  refine TE.next hK4 ?_
  clear hK4
  refine TC.yes rfl ?_
  refine TC.seq (fun K5 hK5 => ?_)
  refine TC.region ?_
  refine tp rfl rfl rfl (PV.assign rfl rfl) ?_
  refine tp rfl rfl rfl (PV.assign rfl rfl) ?_
  refine tp rfl rfl rfl (PV.assign rfl rfl) ?_
  refine TL.nil ?_
  refine TE.next hK5 ?_
  clear hK5
  refine TC.ret ?_
  refine TE.passRet ?_
  clear hK3
  refine TE.weak (Sub.refl _) (fun _ s => sep_keep [0] rfl s) ?_
  refine TE.ret3 rfl rfl rfl rfl ?_
  exact .inl ⟨standsP_none1 hp, rfl, rfl⟩
  change TL _ _ _ _ _ _ _ _ _ [subB u (b) 5, dk d (D)]
  refine TL.subLen 0 rfl rfl (fun hul hu => ?_)
  have hpf := pieceP_facts (DS.read_len hD _) hp
  refine tp rfl rfl rfl (PV.move rfl rfl) ?_
  refine tp rfl rfl rfl (PV.extract (vs := [u, (.int .i64 (all)), (.bool true)]) rfl rfl rfl) ?_
  refine tp rfl rfl rfl (PV.extract (vs := [u, (.int .i64 (all)), (.bool true)]) rfl rfl rfl) ?_
  refine tp rfl rfl rfl (PV.extract (vs := [u, (.int .i64 (all)), (.bool true)]) rfl rfl rfl) ?_
  refine tp rfl rfl rfl (PV.assign rfl rfl) ?_
  refine tp rfl rfl rfl (PV.assign rfl rfl) ?_
  refine tp rfl rfl rfl (PV.assign rfl rfl) ?_
  refine TL.nil ?_
  refine TE.next hK2 ?_
  clear hK2
  refine TC.seq (fun K6 hK6 => ?_)
  refine TC.seq (fun K7 hK7 => ?_)
  refine TC.region ?_
  refine tp rfl rfl rfl (PV.move rfl rfl) ?_
  refine tp rfl rfl rfl (PV.not (r := false) rfl rfl rfl) ?_
  refine TL.nil ?_
  refine TE.next hK7 ?_
  clear hK7
  refine TC.no rfl ?_
  refine TC.skip ?_
  refine TE.next hK6 ?_
  clear hK6
  refine TC.seq (fun K8 hK8 => ?_)
  refine TC.seq (fun K9 hK9 => ?_)
  refine TC.region ?_
  refine tp rfl rfl rfl (PV.assign rfl rfl) ?_
  refine TL.nil ?_
  refine TE.next hK9 ?_
  clear hK9
  refine TC.block ?_
  refine TC.loop (α := (Nat) × (List UInt8) × (Value)) (fun ⟨k, c, w⟩ => 1 ≤ k ∧ k ≤ all.toNat ∧ moreP D.read number at' all k = some c ∧ c.length ≤ k * 52 ∧ w.oneCell' = true) (fun ⟨k, c, w⟩ => [(0, (.pointer (some ⟨d, 0, none⟩))), (1, (.int .i64 (number))), (2, (.int .i64 (at'))), (9, w), (10, (.int .i64 (all))), (12, (.int .i64 (((k : Nat) : Int))))]) (fun ⟨k, c, w⟩ => [subB w (c) 5, dk d (D)]) (fun ⟨k, c, w⟩ => all.toNat - k) (1, b, u)
      ⟨Nat.le_refl _, by omega, moreP_one hp, by omega, hu⟩ (Sub.r (Sub.r (Sub.r (Sub.r (Sub.r (Sub.cons rfl (by congr 1) (Sub.nil _)))))))
      (fun _ s => s) (fun ⟨k, c, w⟩ hinv => ?_)
  obtain ⟨hk1, hk2, hk3, hk4, hw⟩ := hinv
  refine TC.seq (fun K10 hK10 => ?_)
  refine TC.seq (fun K11 hK11 => ?_)
  refine TC.region ?_
  refine tp rfl rfl rfl (PV.move rfl rfl) ?_
  refine tp rfl rfl rfl (PV.move rfl rfl) ?_
  refine tp rfl rfl rfl (PV.lss rfl rfl rfl) ?_
  refine TL.dec (fun h29 => ?_) (fun h29 => ?_)
  refine TL.nil ?_
  refine TE.next hK11 ?_
  clear hK11
  refine TC.yes rfl ?_
  refine TC.skip ?_
  refine TE.next hK10 ?_
  clear hK10
  refine TC.seq (fun K12 hK12 => ?_)
  refine TC.block ?_
  refine TC.seq (fun K13 hK13 => ?_)
  refine TC.region ?_
  refine tp rfl rfl rfl (PV.move rfl rfl) ?_
  refine tp rfl rfl rfl (PV.move rfl rfl) ?_
  refine tp rfl rfl rfl (PV.move rfl rfl) ?_
  refine tp rfl rfl rfl (PV.add rfl rfl rfl (wrap_i64 (by omega) (by omega))) ?_
  refine TL.callR (A := [dk d (D)]) (B := [subB w (c) 5]) (Want.plain rfl) rfl rfl rfl nm69 rfl (dk_read d (D) (at' + ((k : Nat) : Int)) hD hb) (fun _ s => sep_selR [1] rfl s) (fun _ _ _ => trivial) (fun vR HR hR => ?_)
  obtain ⟨hv, rfl⟩ := hR
  subst hv
  change TL _ _ _ _ _ _ _ _ _ [dk d (D), subB w (c) 5]
  refine tp rfl rfl rfl (PV.move rfl rfl) ?_
  refine tp rfl rfl rfl (PV.move rfl rfl) ?_
  refine TL.callR (A := []) (B := [dk d (D), subB w (c) 5]) (Want.plain rfl) rfl rfl rfl nm97 rfl (piece_does ((D).read (at' + ((k : Nat) : Int))) number ((k : Nat) : Int) (DS.read_len hD _)) (fun _ s => s) (fun _ _ _ => trivial) (fun vR HR hR => ?_)
  rcases hR with ⟨hp2, rfl, rfl⟩ | ⟨b2, all2, u2, hp2, rfl, rfl⟩
  change TL _ _ _ _ _ _ _ _ _ [dk d (D), subB w (c) 5]
  refine tp rfl rfl rfl (PV.move rfl rfl) ?_
  refine tp rfl rfl rfl (PV.extract (vs := [(.slice none 0 0), (.int .i64 0), (.bool false)]) rfl rfl rfl) ?_
  refine tp rfl rfl rfl (PV.extract (vs := [(.slice none 0 0), (.int .i64 0), (.bool false)]) rfl rfl rfl) ?_
  refine tp rfl rfl rfl (PV.extract (vs := [(.slice none 0 0), (.int .i64 0), (.bool false)]) rfl rfl rfl) ?_
  refine tp rfl rfl rfl (PV.assign rfl rfl) ?_
  refine tp rfl rfl rfl (PV.assign rfl rfl) ?_
  refine tp rfl rfl rfl (PV.assign rfl rfl) ?_
  refine TL.nil ?_
  refine TE.next hK13 ?_
  clear hK13
  refine TC.seq (fun K14 hK14 => ?_)
  refine TC.seq (fun K15 hK15 => ?_)
  refine TC.region ?_
  refine tp rfl rfl rfl (PV.move rfl rfl) ?_
  refine tp rfl rfl rfl (PV.not (r := true) rfl rfl rfl) ?_
  refine tp rfl rfl rfl (PV.move rfl rfl) ?_
  refine TL.unmet (b := true) rfl rfl rfl rfl (lb rfl) ?_
  refine TL.unmet (b := true) rfl rfl rfl rfl (lb rfl) ?_
  refine TL.unmet (b := true) rfl rfl rfl rfl (lb rfl) ?_
  refine tp rfl rfl rfl (PV.pick rfl rfl rfl) ?_
  refine TL.nil ?_
  refine TE.next hK15 ?_
  clear hK15
  refine TC.yes rfl ?_
  refine TC.seq (fun K16 hK16 => ?_)
  refine TC.region ?_
  refine tp rfl rfl rfl (PV.assign rfl rfl) ?_
  refine tp rfl rfl rfl (PV.assign rfl rfl) ?_
  refine tp rfl rfl rfl (PV.assign rfl rfl) ?_
  refine TL.nil ?_
  refine TE.next hK16 ?_
  clear hK16
  refine TC.ret ?_
  refine TE.passRet ?_
  clear hK14
  refine TE.blockRet ?_
  refine TE.passRet ?_
  clear hK12
  refine TE.passRet ?_
  refine TE.blockRet ?_
  refine TE.passRet ?_
  clear hK8
  refine TE.weak (Sub.refl _) (fun _ s => sep_keep [0] rfl s) ?_
  refine TE.ret3 rfl rfl rfl rfl ?_
  exact .inl ⟨standsP_none2 hp (moreP_stop (.inl hp2) _ (by omega)), rfl, rfl⟩
  change TL _ _ _ _ _ _ _ _ _ [subB u2 (b2) 5, dk d (D), subB w (c) 5]
  refine TL.subLen 0 rfl rfl (fun hul2 hu2 => ?_)
  have hpf2 := pieceP_facts (DS.read_len hD _) hp2
  refine tp rfl rfl rfl (PV.move rfl rfl) ?_
  refine tp rfl rfl rfl (PV.extract (vs := [u2, (.int .i64 (all2)), (.bool true)]) rfl rfl rfl) ?_
  refine tp rfl rfl rfl (PV.extract (vs := [u2, (.int .i64 (all2)), (.bool true)]) rfl rfl rfl) ?_
  refine tp rfl rfl rfl (PV.extract (vs := [u2, (.int .i64 (all2)), (.bool true)]) rfl rfl rfl) ?_
  refine tp rfl rfl rfl (PV.assign rfl rfl) ?_
  refine tp rfl rfl rfl (PV.assign rfl rfl) ?_
  refine tp rfl rfl rfl (PV.assign rfl rfl) ?_
  refine TL.nil ?_
  refine TE.next hK13 ?_
  clear hK13
  refine TC.seq (fun K17 hK17 => ?_)
  refine TC.seq (fun K18 hK18 => ?_)
  refine TC.region ?_
  refine tp rfl rfl rfl (PV.move rfl rfl) ?_
  refine tp rfl rfl rfl (PV.not (r := false) rfl rfl rfl) ?_
  refine tp rfl rfl rfl (PV.move rfl rfl) ?_
  refine tq rfl rfl rfl rfl rfl (PV.move rfl rfl) ?_
  refine tq rfl rfl rfl rfl rfl (PV.move rfl rfl) ?_
  refine tq rfl rfl rfl rfl rfl (PV.neq rfl rfl rfl) ?_
  refine TL.dec (fun h49 => ?_) (fun h49 => ?_)
  refine tp rfl rfl rfl (PV.pick rfl rfl rfl) ?_
  refine TL.nil ?_
  refine TE.next hK18 ?_
  clear hK18
  refine TC.yes rfl ?_
  refine TC.seq (fun K19 hK19 => ?_)
  refine TC.region ?_
  refine tp rfl rfl rfl (PV.assign rfl rfl) ?_
  refine tp rfl rfl rfl (PV.assign rfl rfl) ?_
  refine tp rfl rfl rfl (PV.assign rfl rfl) ?_
  refine TL.nil ?_
  refine TE.next hK19 ?_
  clear hK19
  refine TC.ret ?_
  refine TE.passRet ?_
  clear hK17
  refine TE.blockRet ?_
  refine TE.passRet ?_
  clear hK12
  refine TE.passRet ?_
  refine TE.blockRet ?_
  refine TE.passRet ?_
  clear hK8
  refine TE.weak (Sub.refl _) (fun _ s => sep_keep [1] rfl s) ?_
  refine TE.ret3 rfl rfl rfl rfl ?_
  exact .inl ⟨standsP_none2 hp (moreP_stop (.inr ⟨b2, all2, hp2, h49⟩) _ (by omega)), rfl, rfl⟩
  refine tp rfl rfl rfl (PV.pick rfl rfl rfl) ?_
  refine TL.nil ?_
  refine TE.next hK18 ?_
  clear hK18
  refine TC.no rfl ?_
  refine TC.skip ?_
  refine TE.next hK17 ?_
  clear hK17
  refine TC.region ?_
  refine tp rfl rfl rfl (PV.move rfl rfl) ?_
  refine tp rfl rfl rfl (PV.move rfl rfl) ?_
  refine TL.appendS (k := 2) (news := b2) (bs' := c ++ b2) (Want.plain rfl) rfl rfl rfl Tryz.underlying106 in5 rfl rfl rfl rfl (fun _ s => Src.sub 0 rfl rfl s) (by omega) rfl (fun v53 ov53 => ?_)
  change TL _ _ _ _ _ _ _ _ _ [subB u2 (b2) 5, dk d (D), subB v53 (c ++ b2) 5]
  refine tp rfl rfl rfl (PV.assign rfl rfl) ?_
  refine TL.nil ?_
  refine TE.blockEnd ?_
  refine TE.next hK12 ?_
  clear hK12
  refine TC.region ?_
  refine tp rfl rfl rfl (PV.move rfl rfl) ?_
  refine tp rfl rfl rfl (PV.add rfl rfl rfl (wrap_i64 (by omega) (by omega))) ?_
  refine tp rfl rfl rfl (PV.assign rfl rfl) ?_
  refine TL.nil ?_
  exact TE.round ((k + 1, c ++ b2, v53) : (Nat) × (List UInt8) × (Value)) ⟨by omega, by omega, moreP_go hk3 (by rw [hp2, show all2 = all by omega]), by rw [List.length_append]; omega, ov53⟩ (by show all.toNat - (k + 1) < all.toNat - k; omega)
    (Sub.r (Sub.r (Sub.r (Sub.r (Sub.r (Sub.cons rfl (by simp) (Sub.nil _)))))))
    (fun _ s => sep_keep [2, 1] rfl s)
  refine TL.nil ?_
  refine TE.next hK11 ?_
  clear hK11
  refine TC.no rfl ?_
  refine TC.exit ?_
  refine TE.pass ?_
  clear hK10
  refine TE.pass ?_
  refine TE.hit ?_
  refine TE.next hK8 ?_
  clear hK8
  refine TC.seq (fun K20 hK20 => ?_)
  refine TC.region ?_
  refine tp rfl rfl rfl (PV.move rfl rfl) ?_
  refine tp rfl rfl rfl (PV.move rfl rfl) ?_
  refine tp rfl rfl rfl (PV.assign rfl rfl) ?_
  refine tp rfl rfl rfl (PV.assign rfl rfl) ?_
  refine tp rfl rfl rfl (PV.assign rfl rfl) ?_
  refine TL.nil ?_
  refine TE.next hK20 ?_
  clear hK20
  refine TC.ret ?_
  refine TE.weak (Sub.refl _) (fun _ s => sep_keep [0, 0] rfl s) ?_
  refine TE.ret3 rfl rfl rfl rfl ?_
  exact .inr ⟨c, all, w, standsP_some hp (by rw [show all.toNat = k by omega]; exact hk3), rfl, rfl⟩
theorem room_does (lg d : Nat) (cnt used : Int) (h : 0 ≤ used ∧ used ≤ 2048) :
    Does Tryz.prog 122 #[(.pointer (some ⟨lg, 0, none⟩))] (fun _ => True) [blkA lg [(.pointer (some ⟨d, 0, none⟩)), (.int .i64 (cnt)), (.int .i64 (used))] 143] (Ret (fun v H => v = .int .i64 (2048 - used) ∧ H = [lgP lg d cnt used])) := by
  refine Does.body (vs := [(.pointer (some ⟨lg, 0, none⟩))]) (n := 8) Tryz.func122 rfl rfl rfl (fun w0 F hF => ?_)
  refine TC.seq (fun K1 hK1 => ?_)
  refine TC.region ?_
  refine tp rfl rfl rfl (PV.assign rfl rfl) ?_
  refine TL.nil ?_
  refine TE.next hK1 ?_
  clear hK1
  refine TC.seq (fun K2 hK2 => ?_)
  refine TC.region ?_
  refine tp rfl rfl rfl (PV.move rfl rfl) ?_
  refine tp rfl rfl rfl (PV.nilCheck rfl rfl) ?_
  refine tp rfl rfl rfl (PV.fieldAddr (r := 2) rfl Tryz.underlying143 rfl sz3 rfl rfl) ?_
  refine tp rfl rfl rfl (PV.load1 (v := (.int .i64 (used))) rfl Tryz.underlying3 rfl rfl (Rd.own 0 rfl rfl) rfl) ?_
  refine tp rfl rfl rfl (PV.sub rfl rfl rfl (wrap_i64 (by omega) (by omega))) ?_
  refine tp rfl rfl rfl (PV.assign rfl rfl) ?_
  refine TL.nil ?_
  refine TE.next hK2 ?_
  clear hK2
  refine TC.ret ?_
  refine TE.weak (Sub.refl _) (fun _ s => sep_keep [0] rfl s) ?_
  refine TE.ret1 rfl rfl ?_
  exact ⟨rfl, rfl⟩
theorem walPut_does (lg d cnt : Nat) (used : Int) (x : Value) (bs : List UInt8) (D : DS) (hD : D.Ok) (hb : D.ws.length ≤ 1000000) (hu : 0 ≤ used ∧ used ≤ 2048) (hc : cnt ≤ 1000000) :
    Does Tryz.prog 112 #[(.pointer (some ⟨lg, 0, none⟩)), x] (IsW x bs) [blkA lg [(.pointer (some ⟨d, 0, none⟩)), (.int .i64 (((cnt : Nat) : Int))), (.int .i64 (used))] 143, dk d (D)] (Ret (fun v H => v = .int .i64 (putL D cnt used bs).err ∧ H = [lgP lg d (((putL D cnt used bs).cnt : Nat) : Int) (putL D cnt used bs).used, dk d (putL D cnt used bs).D])) := by
  refine Does.body (vs := [(.pointer (some ⟨lg, 0, none⟩)), x]) (n := 72) Tryz.func112 rfl rfl rfl (fun w0 F hF => ?_)
  refine TC.seq (fun K1 hK1 => ?_)
  refine TC.region ?_
  refine tp rfl rfl rfl (PV.assign rfl rfl) ?_
  refine TL.nil ?_
  refine TE.next hK1 ?_
  clear hK1
  refine TC.seq (fun K2 hK2 => ?_)
  refine TC.seq (fun K3 hK3 => ?_)
  refine TC.region ?_
  refine tp rfl rfl rfl (PV.move rfl rfl) ?_
  refine tp rfl rfl rfl (PV.lenV rfl Tryz.underlying106 rfl hF.len) ?_
  refine tp rfl rfl rfl (PV.gtr rfl rfl rfl) ?_
  refine TL.dec (fun h12 => ?_) (fun h12 => ?_)
  refine TL.nil ?_
  refine TE.next hK3 ?_
  clear hK3
  refine TC.yes rfl ?_
  refine TC.seq (fun K4 hK4 => ?_)
  refine TC.region ?_
  refine tp rfl rfl rfl (PV.assign rfl rfl) ?_
  refine TL.nil ?_
  refine TE.next hK4 ?_
  clear hK4
  refine TC.ret ?_
  refine TE.passRet ?_
  clear hK2
  refine TE.weak (Sub.refl _) (fun _ s => sep_keep [0, 0] rfl s) ?_
  refine TE.ret1 rfl rfl ?_
  rw [put_long (by omega)]
  exact ⟨rfl, rfl⟩
  refine TL.nil ?_
  refine TE.next hK3 ?_
  clear hK3
  refine TC.no rfl ?_
  refine TC.skip ?_
  refine TE.next hK2 ?_
  clear hK2
  refine TC.seq (fun K5 hK5 => ?_)
  refine TC.region ?_
  refine tp rfl rfl rfl (PV.move rfl rfl) ?_
  refine tp rfl rfl rfl (PV.lenV rfl Tryz.underlying106 rfl hF.len) ?_
  refine TL.callR (A := []) (B := [blkA lg [(.pointer (some ⟨d, 0, none⟩)), (.int .i64 (((cnt : Nat) : Int))), (.int .i64 (used))] 143, dk d (D)]) (Want.plain rfl) rfl rfl rfl nm121 rfl (pieces_does bs.length (by omega)) (fun _ s => s) (fun _ _ _ => trivial) (fun vR HR hR => ?_)
  obtain ⟨rfl, rfl⟩ := hR
  change TL _ _ _ _ _ _ _ _ _ [blkA lg [(.pointer (some ⟨d, 0, none⟩)), (.int .i64 (((cnt : Nat) : Int))), (.int .i64 (used))] 143, dk d (D)]
  refine tp rfl rfl rfl (PV.assign rfl rfl) ?_
  refine TL.nil ?_
  refine TE.next hK5 ?_
  clear hK5
  refine TC.seq (fun K6 hK6 => ?_)
  refine TC.seq (fun K7 hK7 => ?_)
  refine TC.region ?_
  refine tp rfl rfl rfl (PV.move rfl rfl) ?_
  refine tp rfl rfl rfl (PV.move rfl rfl) ?_
  refine TL.callR (A := [blkA lg [(.pointer (some ⟨d, 0, none⟩)), (.int .i64 (((cnt : Nat) : Int))), (.int .i64 (used))] 143]) (B := [dk d (D)]) (Want.plain rfl) rfl rfl rfl nm122 rfl (room_does lg d ((cnt : Nat) : Int) used hu) (fun _ s => s) (fun _ _ _ => trivial) (fun vR HR hR => ?_)
  obtain ⟨rfl, rfl⟩ := hR
  change TL _ _ _ _ _ _ _ _ _ [blkA lg [(.pointer (some ⟨d, 0, none⟩)), (.int .i64 (((cnt : Nat) : Int))), (.int .i64 (used))] 143, dk d (D)]
  refine tp rfl rfl rfl (PV.gtr rfl rfl rfl) ?_
  refine TL.dec (fun h19 => ?_) (fun h19 => ?_)
  refine TL.nil ?_
  refine TE.next hK7 ?_
  clear hK7
  refine TC.yes rfl ?_
  refine TC.seq (fun K8 hK8 => ?_)
  refine TC.region ?_
  refine tp rfl rfl rfl (PV.assign rfl rfl) ?_
  refine TL.nil ?_
  refine TE.next hK8 ?_
  clear hK8
  refine TC.ret ?_
  refine TE.passRet ?_
  clear hK6
  refine TE.weak (Sub.refl _) (fun _ s => sep_keep [0, 0] rfl s) ?_
  refine TE.ret1 rfl rfl ?_
  rw [put_full (by omega) (by omega)]
  exact ⟨rfl, rfl⟩
  refine TL.nil ?_
  refine TE.next hK7 ?_
  clear hK7
  refine TC.no rfl ?_
  refine TC.skip ?_
  refine TE.next hK6 ?_
  clear hK6
  refine TC.seq (fun K9 hK9 => ?_)
  refine TC.seq (fun K10 hK10 => ?_)
  refine TC.region ?_
  refine tp rfl rfl rfl (PV.move rfl rfl) ?_
  refine tp rfl rfl rfl (PV.nilCheck rfl rfl) ?_
  refine tp rfl rfl rfl (PV.fieldAddr (r := 1) rfl Tryz.underlying143 rfl sz3 rfl rfl) ?_
  refine tp rfl rfl rfl (PV.load1 (v := (.int .i64 (((cnt : Nat) : Int)))) rfl Tryz.underlying3 rfl rfl (Rd.own 0 rfl rfl) rfl) ?_
  refine tp rfl rfl rfl (PV.to (v' := (.int .i64 (((cnt + 1 : Nat) : Int)))) (PV.add rfl rfl rfl (wrap_i64 (by omega) (by omega))) rfl) ?_
  refine tp rfl rfl rfl (PV.move rfl rfl) ?_
  refine TL.callR (A := []) (B := [blkA lg [(.pointer (some ⟨d, 0, none⟩)), (.int .i64 (((cnt : Nat) : Int))), (.int .i64 (used))] 143, dk d (D)]) (Want.plain rfl) rfl rfl rfl nm123 rfl (sectors_does x (cnt + 1) bs (by omega)) (fun _ s => s) (fun g d _ => IsW.more hF d) (fun vR HR hR => ?_)
  have hR := hR
  subst hR
  change TL _ _ _ _ _ _ _ _ _ [recsP 106 5 vR (sectorsP ((cnt + 1 : Nat) : Int) bs), blkA lg [(.pointer (some ⟨d, 0, none⟩)), (.int .i64 (((cnt : Nat) : Int))), (.int .i64 (used))] 143, dk d (D)]
  refine TL.recsLen 0 rfl rfl (fun hrl hro => ?_)
  rw [sectorsP_len] at hrl
  refine tp rfl rfl rfl (PV.lenV rfl Tryz.underlying97 rfl hrl) ?_
  refine tp rfl rfl rfl (PV.move rfl rfl) ?_
  refine TL.nil ?_
  refine TE.next hK10 ?_
  clear hK10
  refine TC.block ?_
  refine TC.loop (α := (Nat) × (DS)) (fun ⟨k, D'⟩ => k ≤ piecesN bs.length ∧ writesP (sectorsP ((cnt + 1 : Nat) : Int) bs) used D = writesP ((sectorsP ((cnt + 1 : Nat) : Int) bs).drop k) (used + (k : Nat)) D' ∧ D'.Ok ∧ D'.ws.length ≤ D.ws.length + k) (fun ⟨k, D'⟩ => [(0, (.pointer (some ⟨lg, 0, none⟩))), (5, (.int .i64 (((piecesN bs.length : Nat) : Int)))), (26, vR), (27, (.int .i64 ((((piecesN bs.length) : Nat) : Int)))), (28, (.int .i64 (((k : Nat) : Int))))]) (fun ⟨k, D'⟩ => [blkA lg [(.pointer (some ⟨d, 0, none⟩)), (.int .i64 (((cnt : Nat) : Int))), (.int .i64 (used))] 143, dk d (D'), recsP 106 5 vR (sectorsP ((cnt + 1 : Nat) : Int) bs)]) (fun ⟨k, D'⟩ => piecesN bs.length - k) (0, D)
      ⟨Nat.zero_le _, by simp, hD, by omega⟩ (Sub.r (Sub.r (Sub.r (Sub.r (Sub.cons rfl (by congr 1) (Sub.nil _))))))
      (fun _ s => sep_selR [1, 1, 0] rfl s) (fun ⟨k, D'⟩ hinv => ?_)
  obtain ⟨hk, hwr, hD', hws⟩ := hinv
  refine TC.seq (fun K11 hK11 => ?_)
  refine TC.region ?_
  refine tp rfl rfl rfl (PV.lss rfl rfl rfl) ?_
  refine TL.dec (fun h29 => ?_) (fun h29 => ?_)
  refine TL.mono (fun _ s => sep_selR [2] rfl s) ?_
  refine TL.recsOpen (fun us => ?_)
  change TL _ _ _ _ _ _ _ _ _ [own vR ((sectorsP ((cnt + 1 : Nat) : Int) bs).length) (us) 106 1, bunch us (sectorsP ((cnt + 1 : Nat) : Int) bs) 5, blkA lg [(.pointer (some ⟨d, 0, none⟩)), (.int .i64 (((cnt : Nat) : Int))), (.int .i64 (used))] 143, dk d (D')]
  refine TL.fact (p := us.length = (sectorsP ((cnt + 1 : Nat) : Int) bs).length * 1) (fun w m => m.own_len (i := 0) (lb rfl) rfl) (fun hul => ?_)
  rw [sectorsP_len, Nat.mul_one] at hul
  have hkl : k < (sectorsP ((cnt + 1 : Nat) : Int) bs).length := by rw [sectorsP_len]; omega
  obtain ⟨sk, hsk⟩ : ∃ x, (sectorsP ((cnt + 1 : Nat) : Int) bs)[k] = x := ⟨_, rfl⟩
  refine TL.ownAt 0 rfl rfl (by omega) (fun g cap hv hcap => ?_)
  refine TL.nil ?_
  refine TE.next hK11 ?_
  clear hK11
  refine TC.seq (fun K12 hK12 => ?_)
  refine TC.yes rfl ?_
  refine TC.skip ?_
  refine TE.next hK12 ?_
  clear hK12
  refine TC.seq (fun K13 hK13 => ?_)
  refine TC.block ?_
  refine TC.seq (fun K14 hK14 => ?_)
  refine TC.region ?_
  refine tp rfl rfl rfl (PV.move rfl rfl) ?_
  refine tp rfl rfl rfl (PV.indexSlV (r := k) hv rfl Tryz.underlying97 sz106 rfl rfl (by omega) (by omega) (by omega)) ?_
  refine tp rfl rfl rfl (PV.load1X (v := (us.getD k undef)) rfl Tryz.underlying106 rfl rfl (RdX.own 0 rfl hv rfl) (by simp [List.getD_eq_getElem?_getD, show k < us.length by omega])) ?_
  refine tp rfl rfl rfl (PV.assign rfl rfl) ?_
  refine tp rfl rfl rfl (PV.assign rfl rfl) ?_
  refine TL.nil ?_
  refine TE.next hK14 ?_
  clear hK14
  refine TC.seq (fun K15 hK15 => ?_)
  refine TC.draw (fun w => Frm F w ∧ w.heap[lg]? = some (.cells ([(.pointer (some ⟨d, 0, none⟩)), (.int .i64 (((cnt : Nat) : Int))), (.int .i64 (used))]).toArray 143 (0, 0)) ∧ True) mixedD rfl (fun _ s => ⟨Frm.of s, s.block 2 (lb rfl) rfl, trivial⟩) ?_
  refine TD.take (i := 0) rfl (by kernel_rfl) (by kernel_rfl) (by kernel_rfl) (fun _ _ _ _ h => h) (Want.plain rfl) rfl rfl (PV.move rfl rfl) ?_
  refine TD.take (i := 1) rfl (by kernel_rfl) (by kernel_rfl) (by kernel_rfl) (fun _ _ _ _ h => h) (Want.plain rfl) rfl rfl (PV.nilCheck rfl rfl) ?_
  refine TD.take (i := 2) rfl (by kernel_rfl) (by kernel_rfl) (by kernel_rfl) (fun _ _ _ _ h => h) (Want.plain rfl) rfl rfl (PV.fieldAddr (r := 0) rfl Tryz.underlying143 rfl sz28 rfl rfl) ?_
  refine TD.take (i := 3) rfl (by kernel_rfl) (by kernel_rfl) (by kernel_rfl) (fun _ _ _ _ h => h) (Want.plain rfl) rfl rfl (PV.load1 (v := (.pointer (some ⟨d, 0, none⟩))) rfl Tryz.underlying28 rfl rfl (fun _ h => h.2.1) rfl) ?_
  refine TD.take (i := 4) rfl (by kernel_rfl) (by kernel_rfl) (by kernel_rfl) (fun _ _ _ _ h => h) (Want.plain rfl) rfl rfl (PV.move rfl rfl) ?_
  refine TD.take (i := 5) rfl (by kernel_rfl) (by kernel_rfl) (by kernel_rfl) (fun _ _ _ _ h => h) (Want.plain rfl) rfl rfl (PV.nilCheck rfl rfl) ?_
  refine TD.take (i := 6) rfl (by kernel_rfl) (by kernel_rfl) (by kernel_rfl) (fun _ _ _ _ h => h) (Want.plain rfl) rfl rfl (PV.fieldAddr (r := 2) rfl Tryz.underlying143 rfl sz3 rfl rfl) ?_
  refine TD.take (i := 7) rfl (by kernel_rfl) (by kernel_rfl) (by kernel_rfl) (fun _ _ _ _ h => h) (Want.plain rfl) rfl rfl (PV.load1 (v := (.int .i64 (used))) rfl Tryz.underlying3 rfl rfl (fun _ h => h.2.1) rfl) ?_
  refine TD.take (i := 8) rfl (by kernel_rfl) (by kernel_rfl) (by kernel_rfl) (fun _ _ _ _ h => h) (Want.plain rfl) rfl rfl (PV.move rfl rfl) ?_
  refine TD.take (i := 9) rfl (by kernel_rfl) (by kernel_rfl) (by kernel_rfl) (fun _ _ _ _ h => h) (Want.plain rfl) rfl rfl (PV.add rfl rfl rfl (wrap_i64 (by omega) (by omega))) ?_
  refine TD.take (i := 10) rfl (by kernel_rfl) (by kernel_rfl) (by kernel_rfl) (fun _ _ _ _ h => h) (Want.plain rfl) rfl rfl (PV.move rfl rfl) ?_
  refine TD.all [11] (by kernel_rfl) rfl ?_
  refine AllT.cons rfl ?_ ?_
  refine TL.callR (A := [dk d (D')]) (B := [own vR ((sectorsP ((cnt + 1 : Nat) : Int) bs).length) (us) 106 1, bunch us (sectorsP ((cnt + 1 : Nat) : Int) bs) 5, blkA lg [(.pointer (some ⟨d, 0, none⟩)), (.int .i64 (((cnt : Nat) : Int))), (.int .i64 (used))] 143]) (Want.plain rfl) rfl rfl rfl nm70 rfl (dk_write d D' (used + ((k : Nat) : Int)) (us.getD k undef) sk hD' (by omega)) (fun _ s => sep_selR [3] rfl s) (fun g d s => IsB.w (hsk ▸ isB_bunch 1 hkl rfl rfl g d s)) (fun vR HR hR => ?_)
  obtain ⟨hv2, rfl⟩ := hR
  subst hv2
  change TL _ _ _ _ _ _ _ _ _ [dk d ((D'.write (used + ((k : Nat) : Int)) sk).2), own vR ((sectorsP ((cnt + 1 : Nat) : Int) bs).length) (us) 106 1, bunch us (sectorsP ((cnt + 1 : Nat) : Int) bs) 5, blkA lg [(.pointer (some ⟨d, 0, none⟩)), (.int .i64 (((cnt : Nat) : Int))), (.int .i64 (used))] 143]
  refine TL.nil ?_
  refine TE.draw (fun _ s => ⟨Frm.of s, s.block 3 (lb rfl) rfl, trivial⟩) ?_
  refine TD.take (i := 12) rfl (by kernel_rfl) (by kernel_rfl) (by kernel_rfl) (fun _ _ _ _ h => h) (Want.plain rfl) rfl rfl (PV.assign rfl rfl) ?_
  refine TD.done (by kernel_rfl) ?_
  refine TE.next hK15 ?_
  clear hK15
  refine TC.seq (fun K16 hK16 => ?_)
  refine TC.region ?_
  refine tp rfl rfl rfl (PV.move rfl rfl) ?_
  refine tp rfl rfl rfl (PV.neq rfl rfl rfl) ?_
  refine TL.dec (fun h46 => ?_) (fun h46 => ?_)
  refine TL.nil ?_
  refine TE.next hK16 ?_
  clear hK16
  refine TC.yes rfl ?_
  refine TC.seq (fun K17 hK17 => ?_)
  refine TC.region ?_
  refine tp rfl rfl rfl (PV.move rfl rfl) ?_
  refine tp rfl rfl rfl (PV.assign rfl rfl) ?_
  refine TL.nil ?_
  refine TE.next hK17 ?_
  clear hK17
  refine TC.ret ?_
  refine TE.blockRet ?_
  refine TE.passRet ?_
  clear hK13
  refine TE.passRet ?_
  refine TE.blockRet ?_
  refine TE.passRet ?_
  clear hK9
  refine TE.weak (Sub.refl _) (fun _ s => sep_keep [3, 0] rfl s) ?_
  refine TE.ret1 rfl rfl ?_
  have hf := writes_fail (D := D') (at' := used) hkl (by rw [hsk]; exact h46)
  rw [hsk] at hf
  rw [put_fail1 (by omega) (by omega) (hwr.trans hf) h46]
  exact ⟨rfl, rfl⟩
  refine TL.nil ?_
  refine TE.next hK16 ?_
  clear hK16
  refine TC.no rfl ?_
  refine TC.skip ?_
  refine TE.blockEnd ?_
  refine TE.next hK13 ?_
  clear hK13
  refine TC.region ?_
  refine tp rfl rfl rfl (PV.add rfl rfl rfl (wrap_i64 (by omega) (by omega))) ?_
  refine tp rfl rfl rfl (PV.move rfl rfl) ?_
  refine TL.nil ?_
  exact TE.round ((k + 1, (D'.write (used + ((k : Nat) : Int)) sk).2) : (Nat) × (DS)) ⟨by omega, by rw [hwr]; subst hsk; exact writes_step hkl (by simpa using h46), DS.write_ok hD' _ _, by have := DS.write_ws (D := D') (at' := used + ((k : Nat) : Int)) (bs := sk); omega⟩ (by show piecesN bs.length - (k + 1) < piecesN bs.length - k; omega)
    (Sub.r (Sub.r (Sub.r (Sub.r (Sub.cons rfl (by simp) (Sub.nil _))))))
    (fun _ s => sep_selR [1, 1, 0] rfl (sep_close (p := fun us : List Value => [own vR (sectorsP ((cnt + 1 : Nat) : Int) bs).length us 106 1, bunch us (sectorsP ((cnt + 1 : Nat) : Int) bs) 5]) us (sep_keep [1, 1, 1, 0] rfl s)))
  exact AllT.nil
  refine TL.nil ?_
  refine TE.next hK11 ?_
  clear hK11
  refine TC.seq (fun K18 hK18 => ?_)
  refine TC.no rfl ?_
  refine TC.exit ?_
  refine TE.pass ?_
  clear hK18
  refine TE.pass ?_
  refine TE.hit ?_
  refine TE.next hK9 ?_
  clear hK9
  refine TC.seq (fun K19 hK19 => ?_)
  refine TC.seq (fun K20 hK20 => ?_)
  refine TC.region ?_
  refine tp rfl rfl rfl (PV.move rfl rfl) ?_
  refine tp rfl rfl rfl (PV.nilCheck rfl rfl) ?_
  refine tp rfl rfl rfl (PV.fieldAddr (r := 0) rfl Tryz.underlying143 rfl sz28 rfl rfl) ?_
  refine tp rfl rfl rfl (PV.load1 (v := (.pointer (some ⟨d, 0, none⟩))) rfl Tryz.underlying28 rfl rfl (Rd.own 0 rfl rfl) rfl) ?_
  refine TL.callR (A := [dk d (D')]) (B := [blkA lg [(.pointer (some ⟨d, 0, none⟩)), (.int .i64 (((cnt : Nat) : Int))), (.int .i64 (used))] 143, recsP 106 5 vR (sectorsP ((cnt + 1 : Nat) : Int) bs)]) (Want.plain rfl) rfl rfl rfl nm71 rfl (dk_sync d (D')  hD') (fun _ s => sep_selR [1] rfl s) (fun _ _ _ => trivial) (fun vR HR hR => ?_)
  obtain ⟨hv, rfl⟩ := hR
  subst hv
  change TL _ _ _ _ _ _ _ _ _ [dk d ((D').sync.2), blkA lg [(.pointer (some ⟨d, 0, none⟩)), (.int .i64 (((cnt : Nat) : Int))), (.int .i64 (used))] 143, recsP 106 5 vR (sectorsP ((cnt + 1 : Nat) : Int) bs)]
  refine tp rfl rfl rfl (PV.assign rfl rfl) ?_
  refine TL.nil ?_
  refine TE.next hK20 ?_
  clear hK20
  refine TC.seq (fun K21 hK21 => ?_)
  refine TC.region ?_
  refine tp rfl rfl rfl (PV.move rfl rfl) ?_
  refine tp rfl rfl rfl (PV.neq rfl rfl rfl) ?_
  refine TL.dec (fun h55 => ?_) (fun h55 => ?_)
  refine TL.nil ?_
  refine TE.next hK21 ?_
  clear hK21
  refine TC.yes rfl ?_
  refine TC.seq (fun K22 hK22 => ?_)
  refine TC.region ?_
  refine tp rfl rfl rfl (PV.move rfl rfl) ?_
  refine tp rfl rfl rfl (PV.assign rfl rfl) ?_
  refine TL.nil ?_
  refine TE.next hK22 ?_
  clear hK22
  refine TC.ret ?_
  refine TE.passRet ?_
  clear hK19
  refine TE.weak (Sub.refl _) (fun _ s => sep_keep [1, 0] rfl s) ?_
  refine TE.ret1 rfl rfl ?_
  have hf : writesP (sectorsP ((cnt + 1 : Nat) : Int) bs) used D = (0, D') := by rw [hwr, List.drop_of_length_le (by rw [sectorsP_len]; omega)]; rfl
  rw [put_fail2 (by omega) (by omega) hf h55]
  exact ⟨rfl, rfl⟩
  refine TL.nil ?_
  refine TE.next hK21 ?_
  clear hK21
  refine TC.no rfl ?_
  refine TC.skip ?_
  refine TE.next hK19 ?_
  clear hK19
  refine TC.seq (fun K23 hK23 => ?_)
  refine TC.region ?_
  refine tp rfl rfl rfl (PV.move rfl rfl) ?_
  refine tp rfl rfl rfl (PV.nilCheck rfl rfl) ?_
  refine tp rfl rfl rfl (PV.fieldAddr (r := 1) rfl Tryz.underlying143 rfl sz3 rfl rfl) ?_
  refine tp rfl rfl rfl (PV.load1 (v := (.int .i64 (((cnt : Nat) : Int)))) rfl Tryz.underlying3 rfl rfl (Rd.own 1 rfl rfl) rfl) ?_
  refine tp rfl rfl rfl (PV.add rfl rfl rfl (wrap_i64 (by omega) (by omega))) ?_
  refine tp rfl rfl rfl (PV.nilCheck rfl rfl) ?_
  refine tp rfl rfl rfl (PV.fieldAddr (r := 1) rfl Tryz.underlying143 rfl sz3 rfl rfl) ?_
  refine TL.store1 (i := 1) (H' := [dk d ((D').sync.2), blkA lg [(.pointer (some ⟨d, 0, none⟩)), (.int .i64 (((cnt : Nat) : Int) + 1)), (.int .i64 (used))] 143, recsP 106 5 vR (sectorsP ((cnt + 1 : Nat) : Int) bs)]) (Want.plain rfl) rfl rfl rfl rfl rfl sz3 rfl rfl (lb rfl) rfl rfl ?_
  refine TL.nil ?_
  refine TE.next hK23 ?_
  clear hK23
  refine TC.seq (fun K24 hK24 => ?_)
  refine TC.region ?_
  refine tp rfl rfl rfl (PV.move rfl rfl) ?_
  refine tp rfl rfl rfl (PV.nilCheck rfl rfl) ?_
  refine tp rfl rfl rfl (PV.fieldAddr (r := 2) rfl Tryz.underlying143 rfl sz3 rfl rfl) ?_
  refine tp rfl rfl rfl (PV.load1 (v := (.int .i64 (used))) rfl Tryz.underlying3 rfl rfl (Rd.own 1 rfl rfl) rfl) ?_
  refine tp rfl rfl rfl (PV.move rfl rfl) ?_
  refine tp rfl rfl rfl (PV.add rfl rfl rfl (wrap_i64 (by omega) (by omega))) ?_
  refine tp rfl rfl rfl (PV.nilCheck rfl rfl) ?_
  refine tp rfl rfl rfl (PV.fieldAddr (r := 2) rfl Tryz.underlying143 rfl sz3 rfl rfl) ?_
  refine TL.store1 (i := 1) (H' := [dk d ((D').sync.2), blkA lg [(.pointer (some ⟨d, 0, none⟩)), (.int .i64 (((cnt : Nat) : Int) + 1)), (.int .i64 (used + ((piecesN bs.length : Nat) : Int)))] 143, recsP 106 5 vR (sectorsP ((cnt + 1 : Nat) : Int) bs)]) (Want.plain rfl) rfl rfl rfl rfl rfl sz3 rfl rfl (lb rfl) rfl rfl ?_
  refine TL.nil ?_
  refine TE.next hK24 ?_
  clear hK24
  refine TC.seq (fun K25 hK25 => ?_)
  refine TC.region ?_
  refine tp rfl rfl rfl (PV.assign rfl rfl) ?_
  refine TL.nil ?_
  refine TE.next hK25 ?_
  clear hK25
  refine TC.ret ?_
  refine TE.weak (Sub.refl _) (fun _ s => sep_keep [1, 0] rfl s) ?_
  refine TE.ret1 rfl rfl ?_
  have hf : writesP (sectorsP ((cnt + 1 : Nat) : Int) bs) used D = (0, D') := by rw [hwr, List.drop_of_length_le (by rw [sectorsP_len]; omega)]; rfl
  rw [put_ok (by omega) (by omega) hf (by simpa using h55)]
  exact ⟨rfl, rfl⟩
theorem open_does (d : Nat) (D : DS) (hD : D.Ok) (hI : Wal.DS.In D) (hb : D.ws.length ≤ 1000000) :
    Does Tryz.prog 34 #[(.pointer (some ⟨d, 0, none⟩))] (fun _ => True) [dk d (D)] (Ret (fun v H => ((openP D).err ≠ 0 ∧ v = .tuple #[.pointer none, .slice none 0 0, .int .i64 (openP D).err] ∧ H = [dk d (openP D).D]) ∨ ((openP D).err = 0 ∧ ∃ lg vr, v = .tuple #[.pointer (some ⟨lg, 0, none⟩), vr, .int .i64 0] ∧ H = [lgP lg d (((openP D).recs.length : Nat) : Int) (openP D).used, rcP vr (openP D).recs, dk d (openP D).D]))) := by
  refine Does.body (vs := [(.pointer (some ⟨d, 0, none⟩))]) (n := 80) Tryz.func34 rfl rfl rfl (fun w0 F hF => ?_)
  refine TC.seq (fun K1 hK1 => ?_)
  refine TC.region ?_
  refine tp rfl rfl rfl (PV.assign rfl rfl) ?_
  refine tp rfl rfl rfl (PV.assign rfl rfl) ?_
  refine tp rfl rfl rfl (PV.assign rfl rfl) ?_
  refine TL.nil ?_
  refine TE.next hK1 ?_
  clear hK1
  refine TC.seq (fun K2 hK2 => ?_)
  refine TC.seq (fun K3 hK3 => ?_)
  refine TC.region ?_
  refine tp rfl rfl rfl (PV.move rfl rfl) ?_
  refine tp rfl rfl rfl (PV.ptrNil rfl Tryz.underlying28 rfl rfl) ?_
  refine TL.nil ?_
  refine TE.next hK3 ?_
  clear hK3
  refine TC.no rfl ?_
  refine TC.skip ?_
  refine TE.next hK2 ?_
  clear hK2
  refine TC.seq (fun K4 hK4 => ?_)
  refine TC.region ?_
  refine tp rfl rfl rfl (PV.move rfl rfl) ?_
  refine tp rfl rfl rfl (PV.build (cells := #[(.pointer (some ⟨d, 0, none⟩)), (.int .i64 0), (.int .i64 0)]) rfl rfl (by as_aux_lemma => kernel_rfl)) ?_
  refine TL.box (Want.plain rfl) rfl rfl rfl rfl (fun b17 => ?_)
  change TL _ _ _ _ _ _ _ _ _ [blkA b17 [(.pointer (some ⟨d, 0, none⟩)), (.int .i64 0), (.int .i64 0)] 143, dk d (D)]
  refine tp rfl rfl rfl (PV.assign rfl rfl) ?_
  refine TL.nil ?_
  refine TE.next hK4 ?_
  clear hK4
  refine TC.seq (fun K5 hK5 => ?_)
  refine TC.region ?_
  refine tp rfl rfl rfl (PV.assign rfl rfl) ?_
  refine TL.nil ?_
  refine TE.next hK5 ?_
  clear hK5
  refine TC.seq (fun K6 hK6 => ?_)
  refine TC.block ?_
  refine TC.loop (α := (Nat) × (List (List UInt8)) × (Int) × (Value)) (fun ⟨f, rs, used, vr⟩ => Scan D f rs used ∧ vr.oneCell' = true) (fun ⟨f, rs, used, vr⟩ => [(0, (.pointer (some ⟨d, 0, none⟩))), (2, (.pointer none)), (3, (.slice none 0 0)), (4, (.int .i64 0)), (5, (.pointer (some ⟨b17, 0, none⟩))), (6, vr)]) (fun ⟨f, rs, used, vr⟩ => [blkA b17 [(.pointer (some ⟨d, 0, none⟩)), (.int .i64 (((rs.length : Nat) : Int))), (.int .i64 (used))] 143, dk d (D), recsP 106 5 vr (rs)]) (fun ⟨f, rs, used, vr⟩ => f) (fuel0, [], 0, (.slice none 0 0))
      ⟨Scan.start D, rfl⟩ (Sub.r (Sub.r (Sub.r (Sub.r (Sub.r (Sub.r (Sub.nil _)))))))
      (fun _ s => sep_perm (List.Perm.trans (List.Perm.swap _ _ _) (List.Perm.cons _ (List.Perm.swap _ _ _))) (sep_recsNil 106 5 s)) (fun ⟨f, rs, used, vr⟩ hinv => ?_)
  obtain ⟨hsc, hvr⟩ := hinv
  obtain ⟨hs1, hs2, hs3, hs4, hs5⟩ := id hsc
  refine TC.block ?_
  refine TC.seq (fun K7 hK7 => ?_)
  refine TC.draw (fun w => Frm F w ∧ w.heap[b17]? = some (.cells ([(.pointer (some ⟨d, 0, none⟩)), (.int .i64 (((rs.length : Nat) : Int))), (.int .i64 (used))]).toArray 143 (0, 0)) ∧ True) mixedD rfl (fun _ s => ⟨Frm.of s, s.block 0 (lb rfl) rfl, trivial⟩) ?_
  refine TD.take (i := 0) rfl (by kernel_rfl) (by kernel_rfl) (by kernel_rfl) (fun _ _ _ _ h => h) (Want.plain rfl) rfl rfl (PV.move rfl rfl) ?_
  refine TD.take (i := 1) rfl (by kernel_rfl) (by kernel_rfl) (by kernel_rfl) (fun _ _ _ _ h => h) (Want.plain rfl) rfl rfl (PV.move rfl rfl) ?_
  refine TD.take (i := 2) rfl (by kernel_rfl) (by kernel_rfl) (by kernel_rfl) (fun _ _ _ _ h => h) (Want.plain rfl) rfl rfl (PV.nilCheck rfl rfl) ?_
  refine TD.take (i := 3) rfl (by kernel_rfl) (by kernel_rfl) (by kernel_rfl) (fun _ _ _ _ h => h) (Want.plain rfl) rfl rfl (PV.fieldAddr (r := 1) rfl Tryz.underlying143 rfl sz3 rfl rfl) ?_
  refine TD.take (i := 4) rfl (by kernel_rfl) (by kernel_rfl) (by kernel_rfl) (fun _ _ _ _ h => h) (Want.plain rfl) rfl rfl (PV.load1 (v := (.int .i64 (((rs.length : Nat) : Int)))) rfl Tryz.underlying3 rfl rfl (fun _ h => h.2.1) rfl) ?_
  refine TD.take (i := 5) rfl (by kernel_rfl) (by kernel_rfl) (by kernel_rfl) (fun _ _ _ _ h => h) (Want.plain rfl) rfl rfl (PV.add rfl rfl rfl (wrap_i64 (by omega) (by omega))) ?_
  refine TD.take (i := 6) rfl (by kernel_rfl) (by kernel_rfl) (by kernel_rfl) (fun _ _ _ _ h => h) (Want.plain rfl) rfl rfl (PV.move rfl rfl) ?_
  refine TD.take (i := 7) rfl (by kernel_rfl) (by kernel_rfl) (by kernel_rfl) (fun _ _ _ _ h => h) (Want.plain rfl) rfl rfl (PV.nilCheck rfl rfl) ?_
  refine TD.take (i := 8) rfl (by kernel_rfl) (by kernel_rfl) (by kernel_rfl) (fun _ _ _ _ h => h) (Want.plain rfl) rfl rfl (PV.fieldAddr (r := 2) rfl Tryz.underlying143 rfl sz3 rfl rfl) ?_
  refine TD.take (i := 9) rfl (by kernel_rfl) (by kernel_rfl) (by kernel_rfl) (fun _ _ _ _ h => h) (Want.plain rfl) rfl rfl (PV.load1 (v := (.int .i64 (used))) rfl Tryz.underlying3 rfl rfl (fun _ h => h.2.1) rfl) ?_
  refine TD.all [10] (by kernel_rfl) rfl ?_
  refine AllT.cons rfl ?_ ?_
  refine TL.callR (A := [dk d (D)]) (B := [blkA b17 [(.pointer (some ⟨d, 0, none⟩)), (.int .i64 (((rs.length : Nat) : Int))), (.int .i64 (used))] 143, recsP 106 5 vr (rs)]) (Want.plain rfl) rfl rfl rfl nm68 rfl (stands_does d D (((rs.length : Nat) : Int) + 1) used hD (by omega) (by omega)) (fun _ s => sep_selR [1] rfl s) (fun _ _ _ => trivial) (fun vR HR hR => ?_)
  rcases hR with ⟨hst, rfl, rfl⟩ | ⟨b, all, u, hst, rfl, rfl⟩
  have hss := Scan.stop hsc hst
  change TL _ _ _ _ _ _ _ _ _ [dk d (D), blkA b17 [(.pointer (some ⟨d, 0, none⟩)), (.int .i64 (((rs.length : Nat) : Int))), (.int .i64 (used))] 143, recsP 106 5 vr (rs)]
  refine TL.nil ?_
  refine TE.draw (fun _ s => ⟨Frm.of s, s.block 1 (lb rfl) rfl, trivial⟩) ?_
  refine TD.take (i := 11) rfl (by kernel_rfl) (by kernel_rfl) (by kernel_rfl) (fun _ _ _ _ h => h) (Want.plain rfl) rfl rfl (PV.move rfl rfl) ?_
  refine TD.take (i := 12) rfl (by kernel_rfl) (by kernel_rfl) (by kernel_rfl) (fun _ _ _ _ h => h) (Want.plain rfl) rfl rfl (PV.extract (vs := [(.slice none 0 0), (.int .i64 0), (.bool false)]) rfl rfl rfl) ?_
  refine TD.take (i := 13) rfl (by kernel_rfl) (by kernel_rfl) (by kernel_rfl) (fun _ _ _ _ h => h) (Want.plain rfl) rfl rfl (PV.extract (vs := [(.slice none 0 0), (.int .i64 0), (.bool false)]) rfl rfl rfl) ?_
  refine TD.take (i := 14) rfl (by kernel_rfl) (by kernel_rfl) (by kernel_rfl) (fun _ _ _ _ h => h) (Want.plain rfl) rfl rfl (PV.extract (vs := [(.slice none 0 0), (.int .i64 0), (.bool false)]) rfl rfl rfl) ?_
  refine TD.take (i := 15) rfl (by kernel_rfl) (by kernel_rfl) (by kernel_rfl) (fun _ _ _ _ h => h) (Want.plain rfl) rfl rfl (PV.assign rfl rfl) ?_
  refine TD.take (i := 16) rfl (by kernel_rfl) (by kernel_rfl) (by kernel_rfl) (fun _ _ _ _ h => h) (Want.plain rfl) rfl rfl (PV.assign rfl rfl) ?_
  refine TD.take (i := 17) rfl (by kernel_rfl) (by kernel_rfl) (by kernel_rfl) (fun _ _ _ _ h => h) (Want.plain rfl) rfl rfl (PV.assign rfl rfl) ?_
  refine TD.done (by kernel_rfl) ?_
  refine TE.next hK7 ?_
  clear hK7
  refine TC.seq (fun K8 hK8 => ?_)
  refine TC.seq (fun K9 hK9 => ?_)
  refine TC.region ?_
  refine tp rfl rfl rfl (PV.move rfl rfl) ?_
  refine tp rfl rfl rfl (PV.not (r := true) rfl rfl rfl) ?_
  refine TL.nil ?_
  refine TE.next hK9 ?_
  clear hK9
  refine TC.yes rfl ?_
  refine TC.exit ?_
  refine TE.pass ?_
  clear hK8
  refine TE.miss (by decide) ?_
  refine TE.pass ?_
  refine TE.hit ?_
  refine TE.next hK6 ?_
  clear hK6
  refine TC.seq (fun K10 hK10 => ?_)
  refine TC.seq (fun K11 hK11 => ?_)
  refine TC.region ?_
  refine tp rfl rfl rfl (PV.move rfl rfl) ?_
  refine tp rfl rfl rfl (PV.nilCheck rfl rfl) ?_
  refine tp rfl rfl rfl (PV.fieldAddr (r := 2) rfl Tryz.underlying143 rfl sz3 rfl rfl) ?_
  refine tp rfl rfl rfl (PV.load1 (v := (.int .i64 (used))) rfl Tryz.underlying3 rfl rfl (Rd.own 1 rfl rfl) rfl) ?_
  refine tp rfl rfl rfl (PV.assign rfl rfl) ?_
  refine TL.nil ?_
  refine TE.next hK11 ?_
  clear hK11
  refine TC.block ?_
  refine TC.loop (α := (Int) × (DS)) (fun ⟨at', D'⟩ => used ≤ at' ∧ at' ≤ 2048 ∧ wipeP (2048 - used).toNat used D = wipeP (2048 - at').toNat at' D' ∧ D'.Ok ∧ D'.ws.length ≤ D.ws.length + (at' - used).toNat) (fun ⟨at', D'⟩ => [(0, (.pointer (some ⟨d, 0, none⟩))), (5, (.pointer (some ⟨b17, 0, none⟩))), (6, vr), (10, (.int .i64 (at')))]) (fun ⟨at', D'⟩ => [blkA b17 [(.pointer (some ⟨d, 0, none⟩)), (.int .i64 (((rs.length : Nat) : Int))), (.int .i64 (used))] 143, dk d (D'), recsP 106 5 vr (rs)]) (fun ⟨at', D'⟩ => (2048 - at').toNat) (used, D)
      ⟨by omega, by omega, rfl, hD, by omega⟩ (Sub.r (Sub.r (Sub.r (Sub.cons rfl (by congr 1) (Sub.nil _)))))
      (fun _ s => sep_keep [1, 0, 0] rfl s) (fun ⟨at', D'⟩ hinv => ?_)
  obtain ⟨ha1, ha2, hwi, hD', hws⟩ := hinv
  refine TC.seq (fun K12 hK12 => ?_)
  refine TC.seq (fun K13 hK13 => ?_)
  refine TC.region ?_
  refine tp rfl rfl rfl (PV.move rfl rfl) ?_
  refine tp rfl rfl rfl (PV.lss rfl rfl rfl) ?_
  refine TL.dec (fun h59 => ?_) (fun h59 => ?_)
  refine TL.nil ?_
  refine TE.next hK13 ?_
  clear hK13
  refine TC.yes rfl ?_
  refine TC.skip ?_
  refine TE.next hK12 ?_
  clear hK12
  refine TC.seq (fun K14 hK14 => ?_)
  refine TC.block ?_
  refine TC.seq (fun K15 hK15 => ?_)
  refine TC.seq (fun K16 hK16 => ?_)
  refine TC.region ?_
  refine tp rfl rfl rfl (PV.move rfl rfl) ?_
  refine tp rfl rfl rfl (PV.move rfl rfl) ?_
  refine TL.callR (A := [dk d (D')]) (B := [blkA b17 [(.pointer (some ⟨d, 0, none⟩)), (.int .i64 (((rs.length : Nat) : Int))), (.int .i64 (used))] 143, recsP 106 5 vr (rs)]) (Want.plain rfl) rfl rfl rfl nm69 rfl (dk_read d (D') at' hD' (by omega)) (fun _ s => sep_selR [1] rfl s) (fun _ _ _ => trivial) (fun vR HR hR => ?_)
  obtain ⟨hv, rfl⟩ := hR
  subst hv
  change TL _ _ _ _ _ _ _ _ _ [dk d (D'), blkA b17 [(.pointer (some ⟨d, 0, none⟩)), (.int .i64 (((rs.length : Nat) : Int))), (.int .i64 (used))] 143, recsP 106 5 vr (rs)]
  refine tp rfl rfl rfl (PV.build (cells := (u8s zs).toArray) rfl rfl (by as_aux_lemma => kernel_rfl)) ?_
  refine tp rfl rfl rfl (PV.eqlBy (a := ((D').read at')) (b := zs) (m := 2) sg133 sk133 rfl sf133 sa133 sc133 (DS.read_len hD' _) (by decide) rfl rfl rfl) ?_
  refine TL.dec (fun h66 => ?_) (fun h66 => ?_)
  refine TL.nil ?_
  refine TE.next hK16 ?_
  clear hK16
  refine TC.yes rfl ?_
  refine TC.exit ?_
  refine TE.pass ?_
  clear hK15
  refine TE.hit ?_
  refine TE.next hK14 ?_
  clear hK14
  refine TC.region ?_
  refine tp rfl rfl rfl (PV.move rfl rfl) ?_
  refine tp rfl rfl rfl (PV.add rfl rfl rfl (wrap_i64 (by omega) (by omega))) ?_
  refine tp rfl rfl rfl (PV.assign rfl rfl) ?_
  refine TL.nil ?_
  exact TE.round ((at' + 1, D') : (Int) × (DS)) ⟨by omega, by omega, by rw [hwi]; exact wipe_skip (by omega) h66, hD', by omega⟩ (by show (2048 - (at' + 1)).toNat < (2048 - at').toNat; omega)
    (Sub.r (Sub.r (Sub.r (Sub.r (Sub.nil _)))))
    (fun _ s => sep_keep [1, 0, 0] rfl s)
  refine TL.nil ?_
  refine TE.next hK16 ?_
  clear hK16
  refine TC.no rfl ?_
  refine TC.skip ?_
  refine TE.next hK15 ?_
  clear hK15
  refine TC.seq (fun K17 hK17 => ?_)
  refine TC.region ?_
  refine tp rfl rfl rfl (PV.move rfl rfl) ?_
  refine tp rfl rfl rfl (PV.move rfl rfl) ?_
  refine TL.callR (A := [dk d (D')]) (B := [blkA b17 [(.pointer (some ⟨d, 0, none⟩)), (.int .i64 (((rs.length : Nat) : Int))), (.int .i64 (used))] 143, recsP 106 5 vr (rs)]) (Want.plain rfl) rfl rfl rfl nm70 rfl (dk_write d (D') at' (.slice none 0 0) ([]) hD' (by omega)) (fun _ s => s) (fun _ _ _ => .inl (.inl ⟨rfl, rfl⟩)) (fun vR HR hR => ?_)
  obtain ⟨hv, rfl⟩ := hR
  subst hv
  change TL _ _ _ _ _ _ _ _ _ [dk d (((D').write at' ([])).2), blkA b17 [(.pointer (some ⟨d, 0, none⟩)), (.int .i64 (((rs.length : Nat) : Int))), (.int .i64 (used))] 143, recsP 106 5 vr (rs)]
  refine tp rfl rfl rfl (PV.assign rfl rfl) ?_
  refine TL.nil ?_
  refine TE.next hK17 ?_
  clear hK17
  refine TC.seq (fun K18 hK18 => ?_)
  refine TC.region ?_
  refine tp rfl rfl rfl (PV.move rfl rfl) ?_
  refine tp rfl rfl rfl (PV.neq rfl rfl rfl) ?_
  refine TL.dec (fun h71 => ?_) (fun h71 => ?_)
  refine TL.nil ?_
  refine TE.next hK18 ?_
  clear hK18
  refine TC.yes rfl ?_
  refine TC.seq (fun K19 hK19 => ?_)
  refine TC.region ?_
  refine tp rfl rfl rfl (PV.move rfl rfl) ?_
  refine tp rfl rfl rfl (PV.assign rfl rfl) ?_
  refine tp rfl rfl rfl (PV.assign rfl rfl) ?_
  refine tp rfl rfl rfl (PV.assign rfl rfl) ?_
  refine TL.nil ?_
  refine TE.next hK19 ?_
  clear hK19
  refine TC.ret ?_
  refine TE.blockRet ?_
  refine TE.passRet ?_
  clear hK14
  refine TE.passRet ?_
  refine TE.blockRet ?_
  refine TE.passRet ?_
  clear hK10
  refine TE.weak (Sub.refl _) (fun _ s => sep_keep [0] rfl s) ?_
  refine TE.ret3 rfl rfl rfl rfl ?_
  rw [open_fail1 hss (hwi.trans (wipe_fail (by omega) h66 h71)) h71]
  exact .inl ⟨h71, rfl, rfl⟩
  refine TL.nil ?_
  refine TE.next hK18 ?_
  clear hK18
  refine TC.no rfl ?_
  refine TC.skip ?_
  refine TE.blockEnd ?_
  refine TE.next hK14 ?_
  clear hK14
  refine TC.region ?_
  refine tp rfl rfl rfl (PV.move rfl rfl) ?_
  refine tp rfl rfl rfl (PV.add rfl rfl rfl (wrap_i64 (by omega) (by omega))) ?_
  refine tp rfl rfl rfl (PV.assign rfl rfl) ?_
  refine TL.nil ?_
  exact TE.round ((at' + 1, (D'.write at' []).2) : (Int) × (DS)) ⟨by omega, by omega, by rw [hwi]; exact wipe_go (by omega) h66 (by simpa using h71), DS.write_ok hD' _ _, by have := DS.write_ws (D := D') (at' := at') (bs := []); omega⟩ (by show (2048 - (at' + 1)).toNat < (2048 - at').toNat; omega)
    (Sub.r (Sub.r (Sub.r (Sub.r (Sub.nil _)))))
    (fun _ s => sep_keep [1, 0, 0] rfl s)
  refine TL.nil ?_
  refine TE.next hK13 ?_
  clear hK13
  refine TC.no rfl ?_
  refine TC.exit ?_
  refine TE.pass ?_
  clear hK12
  refine TE.pass ?_
  refine TE.hit ?_
  refine TE.next hK10 ?_
  clear hK10
  refine TC.seq (fun K20 hK20 => ?_)
  refine TC.seq (fun K21 hK21 => ?_)
  refine TC.region ?_
  refine tp rfl rfl rfl (PV.move rfl rfl) ?_
  refine TL.callR (A := [dk d (D')]) (B := [blkA b17 [(.pointer (some ⟨d, 0, none⟩)), (.int .i64 (((rs.length : Nat) : Int))), (.int .i64 (used))] 143, recsP 106 5 vr (rs)]) (Want.plain rfl) rfl rfl rfl nm71 rfl (dk_sync d (D')  hD') (fun _ s => sep_selR [1] rfl s) (fun _ _ _ => trivial) (fun vR HR hR => ?_)
  obtain ⟨hv, rfl⟩ := hR
  subst hv
  change TL _ _ _ _ _ _ _ _ _ [dk d ((D').sync.2), blkA b17 [(.pointer (some ⟨d, 0, none⟩)), (.int .i64 (((rs.length : Nat) : Int))), (.int .i64 (used))] 143, recsP 106 5 vr (rs)]
  refine tp rfl rfl rfl (PV.assign rfl rfl) ?_
  refine TL.nil ?_
  refine TE.next hK21 ?_
  clear hK21
  refine TC.seq (fun K22 hK22 => ?_)
  refine TC.region ?_
  refine tp rfl rfl rfl (PV.move rfl rfl) ?_
  refine tp rfl rfl rfl (PV.neq rfl rfl rfl) ?_
  refine TL.dec (fun h76 => ?_) (fun h76 => ?_)
  refine TL.nil ?_
  refine TE.next hK22 ?_
  clear hK22
  refine TC.yes rfl ?_
  refine TC.seq (fun K23 hK23 => ?_)
  refine TC.region ?_
  refine tp rfl rfl rfl (PV.move rfl rfl) ?_
  refine tp rfl rfl rfl (PV.assign rfl rfl) ?_
  refine tp rfl rfl rfl (PV.assign rfl rfl) ?_
  refine tp rfl rfl rfl (PV.assign rfl rfl) ?_
  refine TL.nil ?_
  refine TE.next hK23 ?_
  clear hK23
  refine TC.ret ?_
  refine TE.passRet ?_
  clear hK20
  refine TE.weak (Sub.refl _) (fun _ s => sep_keep [0] rfl s) ?_
  refine TE.ret3 rfl rfl rfl rfl ?_
  rw [open_fail2 hss (hwi.trans (wipe_end (by omega))) h76]
  exact .inl ⟨h76, rfl, rfl⟩
  refine TL.nil ?_
  refine TE.next hK22 ?_
  clear hK22
  refine TC.no rfl ?_
  refine TC.skip ?_
  refine TE.next hK20 ?_
  clear hK20
  refine TC.seq (fun K24 hK24 => ?_)
  refine TC.region ?_
  refine tp rfl rfl rfl (PV.move rfl rfl) ?_
  refine tp rfl rfl rfl (PV.move rfl rfl) ?_
  refine tp rfl rfl rfl (PV.assign rfl rfl) ?_
  refine tp rfl rfl rfl (PV.assign rfl rfl) ?_
  refine tp rfl rfl rfl (PV.assign rfl rfl) ?_
  refine TL.nil ?_
  refine TE.next hK24 ?_
  clear hK24
  refine TC.ret ?_
  refine TE.weak (Sub.refl _) (fun _ s => sep_keep [1, 1, 0] rfl s) ?_
  refine TE.ret3 rfl rfl rfl rfl ?_
  have h76' : D'.sync.1 = 0 := by omega
  rw [open_ok hss (hwi.trans (wipe_end (by omega))) h76']
  exact .inr ⟨rfl, b17, vr, rfl, rfl⟩
  have hro := standsP_room hI hD (by omega) hst
  have hfa := (standsP_facts (DS.read_len hD _) hst).1
  obtain ⟨f', rfl, hsn⟩ := Scan.next hI hD hsc hst
  change TL _ _ _ _ _ _ _ _ _ [subB u (b) 5, dk d (D), blkA b17 [(.pointer (some ⟨d, 0, none⟩)), (.int .i64 (((rs.length : Nat) : Int))), (.int .i64 (used))] 143, recsP 106 5 vr (rs)]
  refine TL.subLen 0 rfl rfl (fun hul hu => ?_)
  refine TL.nil ?_
  refine TE.draw (fun _ s => ⟨Frm.of s, s.block 2 (lb rfl) rfl, trivial⟩) ?_
  refine TD.take (i := 11) rfl (by kernel_rfl) (by kernel_rfl) (by kernel_rfl) (fun _ _ _ _ h => h) (Want.plain rfl) rfl rfl (PV.move rfl rfl) ?_
  refine TD.take (i := 12) rfl (by kernel_rfl) (by kernel_rfl) (by kernel_rfl) (fun _ _ _ _ h => h) (Want.plain rfl) rfl rfl (PV.extract (vs := [u, (.int .i64 (all)), (.bool true)]) rfl rfl rfl) ?_
  refine TD.take (i := 13) rfl (by kernel_rfl) (by kernel_rfl) (by kernel_rfl) (fun _ _ _ _ h => h) (Want.plain rfl) rfl rfl (PV.extract (vs := [u, (.int .i64 (all)), (.bool true)]) rfl rfl rfl) ?_
  refine TD.take (i := 14) rfl (by kernel_rfl) (by kernel_rfl) (by kernel_rfl) (fun _ _ _ _ h => h) (Want.plain rfl) rfl rfl (PV.extract (vs := [u, (.int .i64 (all)), (.bool true)]) rfl rfl rfl) ?_
  refine TD.take (i := 15) rfl (by kernel_rfl) (by kernel_rfl) (by kernel_rfl) (fun _ _ _ _ h => h) (Want.plain rfl) rfl rfl (PV.assign rfl rfl) ?_
  refine TD.take (i := 16) rfl (by kernel_rfl) (by kernel_rfl) (by kernel_rfl) (fun _ _ _ _ h => h) (Want.plain rfl) rfl rfl (PV.assign rfl rfl) ?_
  refine TD.take (i := 17) rfl (by kernel_rfl) (by kernel_rfl) (by kernel_rfl) (fun _ _ _ _ h => h) (Want.plain rfl) rfl rfl (PV.assign rfl rfl) ?_
  refine TD.done (by kernel_rfl) ?_
  refine TE.next hK7 ?_
  clear hK7
  refine TC.seq (fun K25 hK25 => ?_)
  refine TC.seq (fun K26 hK26 => ?_)
  refine TC.region ?_
  refine tp rfl rfl rfl (PV.move rfl rfl) ?_
  refine tp rfl rfl rfl (PV.not (r := false) rfl rfl rfl) ?_
  refine TL.nil ?_
  refine TE.next hK26 ?_
  clear hK26
  refine TC.no rfl ?_
  refine TC.skip ?_
  refine TE.next hK25 ?_
  clear hK25
  refine TC.seq (fun K27 hK27 => ?_)
  refine TC.region ?_
  refine tp rfl rfl rfl (PV.move rfl rfl) ?_
  refine tp rfl rfl rfl (PV.move rfl rfl) ?_
  refine TL.buildSlice (cells := #[u]) (Want.plain rfl) rfl rfl rfl Tryz.underlying97 in106 rfl rfl rfl (fill_one hu (by simp)) (fun b37 => ?_)
  change TL _ _ _ _ _ _ _ _ _ [blkA b37 [u] 106, subB u (b) 5, dk d (D), blkA b17 [(.pointer (some ⟨d, 0, none⟩)), (.int .i64 (((rs.length : Nat) : Int))), (.int .i64 (used))] 143, recsP 106 5 vr (rs)]
  refine TL.mono (fun _ s => sep_selR [4] rfl s) ?_
  refine TL.recsOpen (fun us38 => ?_)
  change TL _ _ _ _ _ _ _ _ _ [own vr ((rs).length) (us38) 106 1, bunch us38 (rs) 5, blkA b37 [u] 106, subB u (b) 5, dk d (D), blkA b17 [(.pointer (some ⟨d, 0, none⟩)), (.int .i64 (((rs.length : Nat) : Int))), (.int .i64 (used))] 143]
  refine TL.append (k := 0) (m := 1) (news := [u]) (nn' := (rs).length + 1) (xs' := us38 ++ [u]) (Want.plain rfl) rfl rfl rfl Tryz.underlying97 in106 rfl rfl rfl rfl rfl rfl (fun _ _ => Src.rd rfl (Rd.own 2 rfl rfl) rfl) (List.forall_mem_cons.2 ⟨hu, fun _ h => by cases h⟩) (by simp only [maxLen]; omega) (by omega) rfl rfl (fun v38 ov38 => ?_)
  change TL _ _ _ _ _ _ _ _ _ [own v38 ((rs).length + 1) (us38 ++ [u]) 106 1, bunch us38 (rs) 5, blkA b37 [u] 106, subB u (b) 5, dk d (D), blkA b17 [(.pointer (some ⟨d, 0, none⟩)), (.int .i64 (((rs.length : Nat) : Int))), (.int .i64 (used))] 143]
  refine TL.mono (H' := [own v38 ((rs).length + 1) (us38 ++ [u]) 106 1, bunch us38 (rs) 5, subB u (b) 5, blkA b37 [u] 106, dk d (D), blkA b17 [(.pointer (some ⟨d, 0, none⟩)), (.int .i64 (((rs.length : Nat) : Int))), (.int .i64 (used))] 143]) (fun _ s => sep_selR [0, 0, 1] rfl s) ?_
  refine TL.mono (fun _ s => sep_recsAdd s) ?_
  change TL _ _ _ _ _ _ _ _ _ [recsP 106 5 v38 (rs ++ [b]), blkA b37 [u] 106, dk d (D), blkA b17 [(.pointer (some ⟨d, 0, none⟩)), (.int .i64 (((rs.length : Nat) : Int))), (.int .i64 (used))] 143]
  refine tp rfl rfl rfl (PV.assign rfl rfl) ?_
  refine TL.nil ?_
  refine TE.next hK27 ?_
  clear hK27
  refine TC.seq (fun K28 hK28 => ?_)
  refine TC.region ?_
  refine tp rfl rfl rfl (PV.move rfl rfl) ?_
  refine tp rfl rfl rfl (PV.nilCheck rfl rfl) ?_
  refine tp rfl rfl rfl (PV.fieldAddr (r := 1) rfl Tryz.underlying143 rfl sz3 rfl rfl) ?_
  refine tp rfl rfl rfl (PV.load1 (v := (.int .i64 (((rs.length : Nat) : Int)))) rfl Tryz.underlying3 rfl rfl (Rd.own 3 rfl rfl) rfl) ?_
  refine tp rfl rfl rfl (PV.to (v' := (.int .i64 ((((rs ++ [b]).length : Nat) : Int)))) (PV.add rfl rfl rfl (wrap_i64 (by omega) (by omega))) (congrArg (Value.int .i64) (by simp))) ?_
  refine tp rfl rfl rfl (PV.nilCheck rfl rfl) ?_
  refine tp rfl rfl rfl (PV.fieldAddr (r := 1) rfl Tryz.underlying143 rfl sz3 rfl rfl) ?_
  refine TL.store1 (i := 3) (H' := [recsP 106 5 v38 (rs ++ [b]), blkA b37 [u] 106, dk d (D), blkA b17 [(.pointer (some ⟨d, 0, none⟩)), (.int .i64 ((((rs ++ [b]).length : Nat) : Int))), (.int .i64 (used))] 143]) (Want.plain rfl) rfl rfl rfl rfl rfl sz3 rfl rfl (lb rfl) rfl rfl ?_
  refine TL.nil ?_
  refine TE.next hK28 ?_
  clear hK28
  refine TC.region ?_
  refine tp rfl rfl rfl (PV.move rfl rfl) ?_
  refine tp rfl rfl rfl (PV.nilCheck rfl rfl) ?_
  refine tp rfl rfl rfl (PV.fieldAddr (r := 2) rfl Tryz.underlying143 rfl sz3 rfl rfl) ?_
  refine tp rfl rfl rfl (PV.load1 (v := (.int .i64 (used))) rfl Tryz.underlying3 rfl rfl (Rd.own 3 rfl rfl) rfl) ?_
  refine tp rfl rfl rfl (PV.move rfl rfl) ?_
  refine tp rfl rfl rfl (PV.add rfl rfl rfl (wrap_i64 (by omega) (by omega))) ?_
  refine tp rfl rfl rfl (PV.nilCheck rfl rfl) ?_
  refine tp rfl rfl rfl (PV.fieldAddr (r := 2) rfl Tryz.underlying143 rfl sz3 rfl rfl) ?_
  refine TL.store1 (i := 3) (H' := [recsP 106 5 v38 (rs ++ [b]), blkA b37 [u] 106, dk d (D), blkA b17 [(.pointer (some ⟨d, 0, none⟩)), (.int .i64 ((((rs ++ [b]).length : Nat) : Int))), (.int .i64 (used + all))] 143]) (Want.plain rfl) rfl rfl rfl rfl rfl sz3 rfl rfl (lb rfl) rfl rfl ?_
  refine TL.nil ?_
  refine TE.blockEnd ?_
  exact TE.round ((f', rs ++ [b], used + all, v38) : (Nat) × (List (List UInt8)) × (Int) × (Value)) ⟨hsn, ov38⟩ (Nat.lt_succ_self _)
    (Sub.r (Sub.r (Sub.r (Sub.r (Sub.r (Sub.r (Sub.nil _)))))))
    (fun _ s => sep_keep [3, 2, 0] rfl s)
  exact AllT.nil
end Go.Proofs.YtfceaphohlbnbaaGreat
end

section
namespace Go.Proofs.YtfceaphohlbnbaaGreat

open Go Leg Codec Api Dsk Wal

set_option linter.unusedSimpArgs false
set_option linter.unusedVariables false

set_option maxRecDepth 100000

set_option maxHeartbeats 8000000

abbrev outP (ob : Nat) (l : List SaidT) : HP := pack (fun vs : Value => [blkA ob [vs] 32, own vs l.length (ints (l.flatMap SaidT.flat)) 84 193])
theorem SaidT.flat_length (x : SaidT) : x.flat.length = 193 := ints_len (SaidT.len x)
theorem me (b : Nat) : IsMethod Tryz.prog 34 (.pointer (some ⟨b, 0, none⟩)) "Send" 152 := fun w => by kernel_rfl
theorem in84 : (Tryz.prog.info? 84).map (fun i => (i.zero, i.size, i.bytes)) = some (some (.agg (ints SaidT.zero.flat).toArray), 193, 1544) := by kernel_rfl

theorem send0_does (ob : Nat) (vs : Value) (l : List SaidT) (to' : Int) (m : MsgT) (hl : l.length ≤ 1000000) :
    Does Tryz.prog 152 #[(.pointer (some ⟨ob, 0, none⟩)), (.int .i64 (to')), (.agg (ints m.flat).toArray)] (fun _ => True) [blkA ob [vs] 32, own vs ((l).length) (ints (List.flatMap SaidT.flat (l))) 84 193] (Ret (fun _ H => ∃ v', H = [blkA ob [v'] 32, own v' (l ++ [SaidT.mk to' m]).length (ints (List.flatMap SaidT.flat (l ++ [SaidT.mk to' m]))) 84 193])) := by
  refine Does.body (vs := [(.pointer (some ⟨ob, 0, none⟩)), (.int .i64 (to')), (.agg (ints m.flat).toArray)]) (n := 18) Tryz.func152 rfl rfl rfl (fun w0 F hF => ?_)
  refine TC.seq (fun K1 hK1 => ?_)
  refine TC.region ?_
  refine TL.ownLen 1 rfl rfl (fun _ hvs => ?_)
  refine TL.box (Want.plain rfl) rfl rfl rfl rfl (fun b5 => ?_)
  change TL _ _ _ _ _ _ _ _ _ [blkA b5 (ints m.flat) 54, blkA ob [vs] 32, own vs ((l).length) (ints (List.flatMap SaidT.flat (l))) 84 193]
  refine TL.nil ?_
  refine TE.next hK1 ?_
  clear hK1
  refine TC.draw (fun w => Frm F w ∧ w.heap[b5]? = some (.cells (ints m.flat).toArray 54 (0, 0)) ∧ True) mixed rfl (fun _ s => ⟨Frm.of s, s.block 0 (lb rfl) rfl, trivial⟩) ?_
  refine TD.take (i := 0) rfl (by kernel_rfl) (by kernel_rfl) (by kernel_rfl) (fun _ _ _ _ h => h) (Want.plain rfl) rfl rfl (PV.move rfl rfl) ?_
  refine TD.take (i := 1) rfl (by kernel_rfl) (by kernel_rfl) (by kernel_rfl) (fun _ _ _ _ h => h) (Want.plain rfl) rfl rfl (PV.move rfl rfl) ?_
  refine TD.take (i := 2) rfl (by kernel_rfl) (by kernel_rfl) (by kernel_rfl) (fun _ _ _ _ h => h) (Want.plain rfl) rfl rfl (PV.nilCheck rfl rfl) ?_
  refine TD.take (i := 3) rfl (by kernel_rfl) (by kernel_rfl) (by kernel_rfl) (fun _ _ _ _ h => h) (Want.plain rfl) rfl rfl (PV.fieldAddr (r := 0) rfl Tryz.underlying32 rfl sz30 rfl rfl) ?_
  refine TD.take (i := 5) rfl (by kernel_rfl) (by kernel_rfl) (by kernel_rfl) (fun _ _ _ _ h => h) (Want.plain rfl) rfl rfl (PV.move rfl rfl) ?_
  refine TD.take (i := 6) rfl (by kernel_rfl) (by kernel_rfl) (by kernel_rfl) (fun _ _ _ _ h => h) (Want.plain rfl) rfl rfl (PV.loadN (vs := ints m.flat) rfl Tryz.underlying54 rfl sz54 rfl (fun _ h => h.2.1) (MsgT.len m) (whole (MsgT.len m))) ?_
  refine TD.take (i := 7) rfl (by kernel_rfl) (by kernel_rfl) (by kernel_rfl) (fun _ _ _ _ h => h) (Want.plain rfl) rfl rfl (PV.buildSegs (cs := ints (SaidT.mk to' m).flat) (segs := [[Value.int .i64 0], ints MsgT.zero.flat]) (res := [[Value.int .i64 to'], ints m.flat]) (parts := [(0, [Value.int .i64 to']), (1, ints m.flat)]) rfl rfl Tryz.underlying84 (by kernel_rfl) (by kernel_rfl) rfl (putSegs_step rfl ((rfl : [Value.int .i64 to'].length = 1).trans (rfl : [Value.int .i64 0].length = 1).symm) (putSegs_step rfl ((MsgT.len m).trans (MsgT.len MsgT.zero).symm) putSegs_nil)) (SaidT.eq (SaidT.mk to' m)).symm) ?_
  refine TD.all [4, 8] (by kernel_rfl) rfl ?_
  refine AllT.cons rfl ?_ ?_
  refine tp rfl rfl rfl (PV.load1 (v := vs) rfl Tryz.underlying30 rfl rfl (Rd.own 1 rfl rfl) rfl) ?_
  refine TL.nil ?_
  refine TE.draw (fun _ s => ⟨Frm.of s, s.block 0 (lb rfl) rfl, trivial⟩) ?_
  refine TD.all [8] (by kernel_rfl) rfl ?_
  refine AllT.cons rfl ?_ ?_
  refine TL.buildSlice (cells := (ints (SaidT.mk to' m).flat).toArray) (Want.plain rfl) rfl rfl rfl Tryz.underlying30 in84 rfl rfl rfl (fill_at (SaidT.len (SaidT.mk to' m)) (by simp)) (fun b14 => ?_)
  change TL _ _ _ _ _ _ _ _ _ [blkA b14 (ints (SaidT.mk to' m).flat) 84, blkA b5 (ints m.flat) 54, blkA ob [vs] 32, own vs ((l).length) (ints (List.flatMap SaidT.flat (l))) 84 193]
  refine TL.nil ?_
  refine TE.draw (fun _ s => ⟨Frm.of s, s.block 1 (lb rfl) rfl, trivial⟩) ?_
  refine TD.all [9] (by kernel_rfl) rfl ?_
  refine AllT.cons rfl ?_ ?_
  refine TL.append (k := 3) (news := ints (SaidT.mk to' m).flat) (nn' := (l ++ [SaidT.mk to' m]).length) (xs' := ints (List.flatMap SaidT.flat (l ++ [SaidT.mk to' m]))) (Want.plain rfl) rfl rfl rfl Tryz.underlying30 in84 rfl rfl rfl rfl rfl rfl (fun _ _ => Src.rd (SaidT.len _) (Rd.own 0 rfl rfl) (by rw [List.drop_zero, List.take_length])) (ints_one _) (by simp only [maxLen]; omega) (by omega) (by simp) (by simp [ints]) (fun v15 ov15 => ?_)
  change TL _ _ _ _ _ _ _ _ _ [blkA b14 (ints (SaidT.mk to' m).flat) 84, blkA b5 (ints m.flat) 54, blkA ob [vs] 32, own v15 ((l ++ [SaidT.mk to' m]).length) (ints (List.flatMap SaidT.flat (l ++ [SaidT.mk to' m]))) 84 193]
  refine TL.nil ?_
  refine TE.draw (fun _ s => ⟨Frm.of s, s.block 1 (lb rfl) rfl, trivial⟩) ?_
  refine TD.take (i := 10) rfl (by kernel_rfl) (by kernel_rfl) (by kernel_rfl) (fun _ _ _ _ h => h) (Want.plain rfl) rfl rfl (PV.nilCheck rfl rfl) ?_
  refine TD.take (i := 11) rfl (by kernel_rfl) (by kernel_rfl) (by kernel_rfl) (fun _ _ _ _ h => h) (Want.plain rfl) rfl rfl (PV.fieldAddr (r := 0) rfl Tryz.underlying32 rfl sz30 rfl rfl) ?_
  refine TD.all [12] (by kernel_rfl) rfl ?_
  refine AllT.cons rfl ?_ ?_
  refine TL.store1 (i := 2) (H' := [blkA b14 (ints (SaidT.mk to' m).flat) 84, blkA b5 (ints m.flat) 54, blkA ob [v15] 32, own v15 ((l ++ [SaidT.mk to' m]).length) (ints (List.flatMap SaidT.flat (l ++ [SaidT.mk to' m]))) 84 193]) (Want.plain rfl) rfl rfl rfl rfl ov15 sz30 rfl rfl (lb rfl) rfl rfl ?_
  refine TL.nil ?_
  refine TE.draw (fun _ s => ⟨Frm.of s, s.block 1 (lb rfl) rfl, trivial⟩) ?_
  refine TD.done (by kernel_rfl) ?_
  refine TE.weak (Sub.refl _) (fun _ s => sep_keep [2, 2] rfl s) ?_
  refine TE.end0 rfl ?_
  exact ⟨_, rfl⟩
  exact AllT.nil
  exact AllT.nil
  exact AllT.nil
  refine AllT.cons rfl ?_ ?_
  refine TL.buildSlice (cells := (ints (SaidT.mk to' m).flat).toArray) (Want.plain rfl) rfl rfl rfl Tryz.underlying30 in84 rfl rfl rfl (fill_at (SaidT.len (SaidT.mk to' m)) (by simp)) (fun b14 => ?_)
  change TL _ _ _ _ _ _ _ _ _ [blkA b14 (ints (SaidT.mk to' m).flat) 84, blkA b5 (ints m.flat) 54, blkA ob [vs] 32, own vs ((l).length) (ints (List.flatMap SaidT.flat (l))) 84 193]
  refine TL.nil ?_
  refine TE.draw (fun _ s => ⟨Frm.of s, s.block 1 (lb rfl) rfl, trivial⟩) ?_
  refine TD.all [4] (by kernel_rfl) rfl ?_
  refine AllT.cons rfl ?_ ?_
  refine tp rfl rfl rfl (PV.load1 (v := vs) rfl Tryz.underlying30 rfl rfl (Rd.own 2 rfl rfl) rfl) ?_
  refine TL.nil ?_
  refine TE.draw (fun _ s => ⟨Frm.of s, s.block 1 (lb rfl) rfl, trivial⟩) ?_
  refine TD.all [9] (by kernel_rfl) rfl ?_
  refine AllT.cons rfl ?_ ?_
  refine TL.append (k := 3) (news := ints (SaidT.mk to' m).flat) (nn' := (l ++ [SaidT.mk to' m]).length) (xs' := ints (List.flatMap SaidT.flat (l ++ [SaidT.mk to' m]))) (Want.plain rfl) rfl rfl rfl Tryz.underlying30 in84 rfl rfl rfl rfl rfl rfl (fun _ _ => Src.rd (SaidT.len _) (Rd.own 0 rfl rfl) (by rw [List.drop_zero, List.take_length])) (ints_one _) (by simp only [maxLen]; omega) (by omega) (by simp) (by simp [ints]) (fun v15 ov15 => ?_)
  change TL _ _ _ _ _ _ _ _ _ [blkA b14 (ints (SaidT.mk to' m).flat) 84, blkA b5 (ints m.flat) 54, blkA ob [vs] 32, own v15 ((l ++ [SaidT.mk to' m]).length) (ints (List.flatMap SaidT.flat (l ++ [SaidT.mk to' m]))) 84 193]
  refine TL.nil ?_
  refine TE.draw (fun _ s => ⟨Frm.of s, s.block 1 (lb rfl) rfl, trivial⟩) ?_
  refine TD.take (i := 10) rfl (by kernel_rfl) (by kernel_rfl) (by kernel_rfl) (fun _ _ _ _ h => h) (Want.plain rfl) rfl rfl (PV.nilCheck rfl rfl) ?_
  refine TD.take (i := 11) rfl (by kernel_rfl) (by kernel_rfl) (by kernel_rfl) (fun _ _ _ _ h => h) (Want.plain rfl) rfl rfl (PV.fieldAddr (r := 0) rfl Tryz.underlying32 rfl sz30 rfl rfl) ?_
  refine TD.all [12] (by kernel_rfl) rfl ?_
  refine AllT.cons rfl ?_ ?_
  refine TL.store1 (i := 2) (H' := [blkA b14 (ints (SaidT.mk to' m).flat) 84, blkA b5 (ints m.flat) 54, blkA ob [v15] 32, own v15 ((l ++ [SaidT.mk to' m]).length) (ints (List.flatMap SaidT.flat (l ++ [SaidT.mk to' m]))) 84 193]) (Want.plain rfl) rfl rfl rfl rfl ov15 sz30 rfl rfl (lb rfl) rfl rfl ?_
  refine TL.nil ?_
  refine TE.draw (fun _ s => ⟨Frm.of s, s.block 1 (lb rfl) rfl, trivial⟩) ?_
  refine TD.done (by kernel_rfl) ?_
  refine TE.weak (Sub.refl _) (fun _ s => sep_keep [2, 2] rfl s) ?_
  refine TE.end0 rfl ?_
  exact ⟨_, rfl⟩
  exact AllT.nil
  exact AllT.nil
  exact AllT.nil
  exact AllT.nil
theorem sendO_does (ob : Nat) (l : List SaidT) (to' : Int) (m : MsgT) (hl : l.length ≤ 1000000) : Does Tryz.prog 152 #[.pointer (some ⟨ob, 0, none⟩), .int .i64 to', .agg (ints m.flat).toArray] (fun _ => True) [outP ob l] (Ret (fun _ H => H = [outP ob (l ++ [SaidT.mk to' m])])) :=
  Does.fold (Does.pack (B := []) fun vs => send0_does ob vs l to' m hl) fun e H hp => by
    cases e with
    | returned v => obtain ⟨v', rfl⟩ := hp; exact ⟨_, fun _ s => sep_close (H := []) v' s, rfl⟩
    | panicked c => exact hp.elim
    | outgrown => exact hp.elim

theorem send_does (r ob : Nat) (x : RepT) (to' : Int) (m : MsgT) (l : List SaidT) (hl : l.length ≤ 1000000) (hto : to' ≠ x.id) :
    Does Tryz.prog 79 #[(.pointer (some ⟨r, 0, none⟩)), (.iface 34 (.pointer (some ⟨ob, 0, none⟩))), (.int .i64 (to')), (.agg (ints m.flat).toArray)] (fun _ => True) [blkA r (RepT.cells x) 104, outP ob (l)] (Ret (fun _ H => H = [blkA r (RepT.cells x) 104, outP ob (l ++ [SaidT.mk to' m])])) := by
  refine Does.body (vs := [(.pointer (some ⟨r, 0, none⟩)), (.iface 34 (.pointer (some ⟨ob, 0, none⟩))), (.int .i64 (to')), (.agg (ints m.flat).toArray)]) (n := 28) Tryz.func79 rfl rfl rfl (fun w0 F hF => ?_)
  refine TC.seq (fun K1 hK1 => ?_)
  refine TC.region ?_
  refine TL.box (Want.plain rfl) rfl rfl rfl rfl (fun b7 => ?_)
  change TL _ _ _ _ _ _ _ _ _ [blkA b7 (ints m.flat) 54, blkA r (RepT.cells x) 104, outP ob (l)]
  refine TL.nil ?_
  refine TE.next hK1 ?_
  clear hK1
  refine TC.seq (fun K2 hK2 => ?_)
  refine TC.seq (fun K3 hK3 => ?_)
  refine TC.region ?_
  refine tp rfl rfl rfl (PV.move rfl rfl) ?_
  refine tp rfl rfl rfl (PV.move rfl rfl) ?_
  refine tp rfl rfl rfl (PV.nilCheck rfl rfl) ?_
  refine tp rfl rfl rfl (PV.fieldAddr (r := 0) rfl Tryz.underlying104 rfl sz3 rfl rfl) ?_
  refine tp rfl rfl rfl (PV.load1 (v := (.int .i64 (x.id))) rfl Tryz.underlying3 rfl rfl (Rd.own 1 rfl rfl) (RepT.at_id x rfl)) ?_
  refine tp rfl rfl rfl (PV.eql rfl rfl rfl) ?_
  refine TL.dec (fun h13 => ?_) (fun h13 => ?_)
  · exact absurd h13 hto
  refine TL.nil ?_
  refine TE.next hK3 ?_
  clear hK3
  refine TC.no rfl ?_
  refine TC.skip ?_
  refine TE.next hK2 ?_
  clear hK2
  refine TC.seq (fun K4 hK4 => ?_)
  refine TC.region ?_
  refine tp rfl rfl rfl (PV.move rfl rfl) ?_
  refine tp rfl rfl rfl (PV.ifaceNotNil rfl Tryz.underlying117 rfl) ?_
  refine TL.nil ?_
  refine TE.next hK4 ?_
  clear hK4
  refine TC.yes rfl ?_
  refine TC.region ?_
  refine tp rfl rfl rfl (PV.move rfl rfl) ?_
  refine tp rfl rfl rfl (PV.move rfl rfl) ?_
  refine tp rfl rfl rfl (PV.loadN (vs := ints m.flat) rfl Tryz.underlying54 rfl sz54 rfl (Rd.own 0 rfl rfl) (MsgT.len m) (whole (MsgT.len m))) ?_
  refine TL.callI (A := [outP ob (l)]) (B := [blkA b7 (ints m.flat) 54, blkA r (RepT.cells x) 104]) (Want.plain rfl) rfl rfl rfl rfl (me ob) nm152 rfl (sendO_does ob (l) to' m hl) (fun _ s => sep_selR [2] rfl s) (fun _ _ _ => trivial) (fun vR HR hR => ?_)
  obtain rfl := hR
  change TL _ _ _ _ _ _ _ _ _ [outP ob (l ++ [SaidT.mk to' m]), blkA b7 (ints m.flat) 54, blkA r (RepT.cells x) 104]
  refine TL.nil ?_
  refine TE.weak (Sub.refl _) (fun _ s => sep_keep [2, 0] rfl s) ?_
  refine TE.end0 rfl ?_
  exact rfl
theorem wit2_does (who : Int) (hm : machB who = true) : Does Tryz.prog 49 #[.int .i64 who] (fun _ => True) [] (Ret (fun r' H => ∃ u, r' = u ∧ H = [own u 2 [.int .i64 ((who + 1) % 5), .int .i64 ((who + 2) % 5)] 3 1])) := by
  have := witnesses_does who
  rw [show witL who = [(who + 1) % 5, (who + 2) % 5] by rw [witL, if_pos hm]] at this
  exact this

theorem tellRow_does (r ob : Nat) (x : RepT) (l : List SaidT) (hl : l.length ≤ 900000) (hid : machB x.id = true) :
    Does Tryz.prog 58 #[(.pointer (some ⟨r, 0, none⟩)), (.iface 34 (.pointer (some ⟨ob, 0, none⟩)))] (fun _ => True) [blkA r (RepT.cells x) 104, outP ob (l)] (Ret (fun _ H => H = [blkA r (RepT.cells x) 104, outP ob (l ++ tellL x)])) := by
  refine Does.body (vs := [(.pointer (some ⟨r, 0, none⟩)), (.iface 34 (.pointer (some ⟨ob, 0, none⟩)))]) (n := 40) Tryz.func58 rfl rfl rfl (fun w0 F hF => ?_)
  have hid2 : 0 ≤ x.id ∧ x.id < 5 := of_decide_eq_true hid
  refine TC.seq (fun K1 hK1 => ?_)
  refine TC.draw (fun w => Frm F w ∧ w.heap[r]? = some (.cells (RepT.cells x).toArray 104 (0, 0)) ∧ True) mixed rfl (fun _ s => ⟨Frm.of s, s.block 0 (lb rfl) rfl, trivial⟩) ?_
  refine TD.take (i := 0) rfl (by kernel_rfl) (by kernel_rfl) (by kernel_rfl) (fun _ _ _ _ h => h) (Want.plain rfl) rfl rfl (PV.move rfl rfl) ?_
  refine TD.take (i := 1) rfl (by kernel_rfl) (by kernel_rfl) (by kernel_rfl) (fun _ _ _ _ h => h) (Want.plain rfl) rfl rfl (PV.nilCheck rfl rfl) ?_
  refine TD.take (i := 2) rfl (by kernel_rfl) (by kernel_rfl) (by kernel_rfl) (fun _ _ _ _ h => h) (Want.plain rfl) rfl rfl (PV.fieldAddr (r := 0) rfl Tryz.underlying104 rfl sz3 rfl rfl) ?_
  refine TD.take (i := 3) rfl (by kernel_rfl) (by kernel_rfl) (by kernel_rfl) (fun _ _ _ _ h => h) (Want.plain rfl) rfl rfl (PV.load1 (v := (.int .i64 (x.id))) rfl Tryz.underlying3 rfl rfl (fun _ h => h.2.1) (RepT.at_id x rfl)) ?_
  refine TD.take (i := 4) rfl (by kernel_rfl) (by kernel_rfl) (by kernel_rfl) (fun _ _ _ _ h => h) (Want.plain rfl) rfl rfl (PV.move rfl rfl) ?_
  refine TD.take (i := 5) rfl (by kernel_rfl) (by kernel_rfl) (by kernel_rfl) (fun _ _ _ _ h => h) (Want.plain rfl) rfl rfl (PV.nilCheck rfl rfl) ?_
  refine TD.take (i := 6) rfl (by kernel_rfl) (by kernel_rfl) (by kernel_rfl) (fun _ _ _ _ h => h) (Want.plain rfl) rfl rfl (PV.fieldAddr (r := 9) rfl Tryz.underlying104 rfl sz48 rfl rfl) ?_
  refine TD.take (i := 7) rfl (by kernel_rfl) (by kernel_rfl) (by kernel_rfl) (fun _ _ _ _ h => h) (Want.plain rfl) rfl rfl (PV.loadN (vs := ints x.own.flat) rfl Tryz.underlying48 rfl sz48 rfl (fun _ h => h.2.1) (RowT.len x.own) (RepT.sub_own x 0 rfl (by decide) (whole (RowT.len x.own)))) ?_
  refine TD.take (i := 8) rfl (by kernel_rfl) (by kernel_rfl) (by kernel_rfl) (fun _ _ _ _ h => h) (Want.plain rfl) rfl rfl (PV.buildSegs (cs := ints (MsgT.mk 0 x.id x.own 0 0 BallotT.zero BallotT.zero ChangeT.zero ViewT.zero).flat) (segs := [[Value.int .i64 0], [Value.int .i64 0], ints RowT.zero.flat, [Value.int .i64 0], [Value.int .i64 0], ints BallotT.zero.flat, ints BallotT.zero.flat, ints ChangeT.zero.flat, ints ViewT.zero.flat]) (res := [[Value.int .i64 0], [Value.int .i64 x.id], ints x.own.flat, [Value.int .i64 0], [Value.int .i64 0], ints BallotT.zero.flat, ints BallotT.zero.flat, ints ChangeT.zero.flat, ints ViewT.zero.flat]) (parts := [(0, [Value.int .i64 0]), (1, [Value.int .i64 x.id]), (2, ints x.own.flat)]) rfl rfl Tryz.underlying54 (by kernel_rfl) (by kernel_rfl) rfl (putSegs_step rfl ((rfl : [Value.int .i64 0].length = 1).trans (rfl : [Value.int .i64 0].length = 1).symm) (putSegs_step rfl ((rfl : [Value.int .i64 x.id].length = 1).trans (rfl : [Value.int .i64 0].length = 1).symm) (putSegs_step rfl ((RowT.len x.own).trans (RowT.len RowT.zero).symm) putSegs_nil))) (MsgT.eq (MsgT.mk 0 x.id x.own 0 0 BallotT.zero BallotT.zero ChangeT.zero ViewT.zero)).symm) ?_
  refine TD.all [9] (by kernel_rfl) rfl ?_
  refine AllT.cons rfl ?_ ?_
  refine TL.alloc (Want.plain rfl) rfl rfl rfl z54 (fun b4 => ?_)
  change TL _ _ _ _ _ _ _ _ _ [blkA b4 (ints MsgT.zero.flat) 54, blkA r (RepT.cells x) 104, outP ob (l)]
  refine TL.nil ?_
  refine TE.draw (fun _ s => ⟨Frm.of s, s.block 1 (lb rfl) rfl, trivial⟩) ?_
  refine TD.all [10] (by kernel_rfl) rfl ?_
  refine AllT.cons rfl ?_ ?_
  refine TL.store (vs := ints (MsgT.mk 0 x.id x.own 0 0 BallotT.zero BallotT.zero ChangeT.zero ViewT.zero).flat) (i := 0) (H' := [blkA b4 (ints (MsgT.mk 0 x.id x.own 0 0 BallotT.zero BallotT.zero ChangeT.zero ViewT.zero).flat) 54, blkA r (RepT.cells x) 104, outP ob (l)]) (Want.plain rfl) rfl rfl rfl rfl rfl (by rw [(MsgT.len (MsgT.mk 0 x.id x.own 0 0 BallotT.zero BallotT.zero ChangeT.zero ViewT.zero))]; exact sz54) (ints_one _) rfl rfl (by have h0 := (MsgT.len MsgT.zero); have h1 := (MsgT.len (MsgT.mk 0 x.id x.own 0 0 BallotT.zero BallotT.zero ChangeT.zero ViewT.zero)); omega) (wwhole ((MsgT.len MsgT.zero).trans (MsgT.len (MsgT.mk 0 x.id x.own 0 0 BallotT.zero BallotT.zero ChangeT.zero ViewT.zero)).symm)) rfl ?_
  refine TL.nil ?_
  refine TE.draw (fun _ s => ⟨Frm.of s, s.block 1 (lb rfl) rfl, trivial⟩) ?_
  refine TD.done (by kernel_rfl) ?_
  refine TE.next hK1 ?_
  clear hK1
  refine TC.seq (fun K2 hK2 => ?_)
  refine TC.region ?_
  refine tp rfl rfl rfl (PV.move rfl rfl) ?_
  refine tp rfl rfl rfl (PV.nilCheck rfl rfl) ?_
  refine tp rfl rfl rfl (PV.fieldAddr (r := 0) rfl Tryz.underlying104 rfl sz3 rfl rfl) ?_
  refine tp rfl rfl rfl (PV.load1 (v := (.int .i64 (x.id))) rfl Tryz.underlying3 rfl rfl (Rd.own 1 rfl rfl) (RepT.at_id x rfl)) ?_
  refine TL.callR (A := []) (B := [blkA b4 (ints (MsgT.mk 0 x.id x.own 0 0 BallotT.zero BallotT.zero ChangeT.zero ViewT.zero).flat) 54, blkA r (RepT.cells x) 104, outP ob (l)]) (Want.plain rfl) rfl rfl rfl nm49 rfl (wit2_does x.id hid) (fun _ s => s) (fun _ _ _ => trivial) (fun vR HR hR => ?_)
  obtain ⟨_, rfl, rfl⟩ := hR
  revert vR
  intro uw
  change TL _ _ _ _ _ _ _ _ _ [own uw (2) ([.int .i64 ((x.id + 1) % 5), .int .i64 ((x.id + 2) % 5)]) 3 1, blkA b4 (ints (MsgT.mk 0 x.id x.own 0 0 BallotT.zero BallotT.zero ChangeT.zero ViewT.zero).flat) 54, blkA r (RepT.cells x) 104, outP ob (l)]
  refine TL.ownLen 0 rfl rfl (fun hluw _ => ?_)
  refine TL.ownAt 0 rfl rfl (by omega) (fun gw capw hvw hcapw => ?_)
  refine tp rfl rfl rfl (PV.lenV rfl Tryz.underlying74 rfl hluw) ?_
  refine tp rfl rfl rfl (PV.move rfl rfl) ?_
  refine TL.nil ?_
  refine TE.next hK2 ?_
  clear hK2
  refine TC.block ?_
  refine TC.unroll 2 ?_
  refine TC.seq (fun K3 hK3 => ?_)
  refine TC.region ?_
  refine tp rfl rfl rfl (PV.lss rfl rfl rfl) ?_
  refine TL.nil ?_
  refine TE.next hK3 ?_
  clear hK3
  refine TC.seq (fun K4 hK4 => ?_)
  refine TC.yes rfl ?_
  refine TC.skip ?_
  refine TE.next hK4 ?_
  clear hK4
  refine TC.seq (fun K5 hK5 => ?_)
  refine TC.block ?_
  refine TC.seq (fun K6 hK6 => ?_)
  refine TC.region ?_
  refine tp rfl rfl rfl (PV.indexSlV (r := 0) hvw rfl Tryz.underlying74 sz3 rfl rfl (by omega) (by omega) rfl) ?_
  refine tp rfl rfl rfl (PV.load1X (v := (.int .i64 (((x.id + 1) % 5)))) rfl Tryz.underlying3 rfl rfl (RdX.own 0 rfl hvw rfl) rfl) ?_
  refine tp rfl rfl rfl (PV.assign rfl rfl) ?_
  refine TL.nil ?_
  refine TE.next hK6 ?_
  clear hK6
  refine TC.seq (fun K7 hK7 => ?_)
  refine TC.region ?_
  refine tp rfl rfl rfl (PV.move rfl rfl) ?_
  refine tp rfl rfl rfl (PV.nilCheck rfl rfl) ?_
  refine tp rfl rfl rfl (PV.fieldAddr (r := 1939) rfl Tryz.underlying104 rfl sz3 rfl rfl) ?_
  refine tp rfl rfl rfl (PV.load1 (v := (.int .i64 (x.kept))) rfl Tryz.underlying3 rfl rfl (Rd.own 2 rfl rfl) (RepT.at_kept x rfl)) ?_
  refine tp rfl rfl rfl (PV.move rfl rfl) ?_
  refine tp rfl rfl rfl (PV.shr (r := (x.kept.fdiv (2 ^ min (((x.id + 1) % 5)).toNat IntKind.i64.bits))) rfl rfl rfl (by omega) rfl) ?_
  refine tp rfl rfl rfl (PV.and (r := ((x.kept.fdiv (2 ^ min (((x.id + 1) % 5)).toNat IntKind.i64.bits)) % 2)) rfl rfl rfl (mask (k := 1) (by decide) _)) ?_
  refine tp rfl rfl rfl (PV.eql rfl rfl rfl) ?_
  refine TL.dec (fun h33 => ?_) (fun h33 => ?_)
  refine TL.nil ?_
  refine TE.next hK7 ?_
  clear hK7
  refine TC.yes rfl ?_
  refine TC.region ?_
  refine tp rfl rfl rfl (PV.move rfl rfl) ?_
  refine tp rfl rfl rfl (PV.move rfl rfl) ?_
  refine tp rfl rfl rfl (PV.move rfl rfl) ?_
  refine tp rfl rfl rfl (PV.loadN (vs := ints (MsgT.mk 0 x.id x.own 0 0 BallotT.zero BallotT.zero ChangeT.zero ViewT.zero).flat) rfl Tryz.underlying54 rfl sz54 rfl (Rd.own 1 rfl rfl) (MsgT.len (MsgT.mk 0 x.id x.own 0 0 BallotT.zero BallotT.zero ChangeT.zero ViewT.zero)) (whole (MsgT.len (MsgT.mk 0 x.id x.own 0 0 BallotT.zero BallotT.zero ChangeT.zero ViewT.zero)))) ?_
  refine TL.callR (A := [blkA r (RepT.cells x) 104, outP ob (l)]) (B := [own uw (2) ([.int .i64 ((x.id + 1) % 5), .int .i64 ((x.id + 2) % 5)]) 3 1, blkA b4 (ints (MsgT.mk 0 x.id x.own 0 0 BallotT.zero BallotT.zero ChangeT.zero ViewT.zero).flat) 54]) (Want.plain rfl) rfl rfl rfl nm79 rfl (send_does r ob x ((x.id + 1) % 5) (MsgT.mk 0 x.id x.own 0 0 BallotT.zero BallotT.zero ChangeT.zero ViewT.zero) (l) (by first | omega | (simp only [List.length_append, List.length_cons, List.length_nil]; omega)) (by omega)) (fun _ s => sep_selR [2, 2] rfl s) (fun _ _ _ => trivial) (fun vR HR hR => ?_)
  obtain rfl := hR
  change TL _ _ _ _ _ _ _ _ _ [blkA r (RepT.cells x) 104, outP ob (l ++ [SaidT.mk ((x.id + 1) % 5) (MsgT.mk 0 x.id x.own 0 0 BallotT.zero BallotT.zero ChangeT.zero ViewT.zero)]), own uw (2) ([.int .i64 ((x.id + 1) % 5), .int .i64 ((x.id + 2) % 5)]) 3 1, blkA b4 (ints (MsgT.mk 0 x.id x.own 0 0 BallotT.zero BallotT.zero ChangeT.zero ViewT.zero).flat) 54]
  refine TL.nil ?_
  refine TE.blockEnd ?_
  refine TE.next hK5 ?_
  clear hK5
  refine TC.region ?_
  refine tp rfl rfl rfl (PV.add (r := 1) rfl rfl rfl (by decide)) ?_
  refine tp rfl rfl rfl (PV.move rfl rfl) ?_
  refine TL.nil ?_
  refine TE.again ?_
  refine TC.seq (fun K8 hK8 => ?_)
  refine TC.region ?_
  refine tp rfl rfl rfl (PV.lss rfl rfl rfl) ?_
  refine TL.nil ?_
  refine TE.next hK8 ?_
  clear hK8
  refine TC.seq (fun K9 hK9 => ?_)
  refine TC.yes rfl ?_
  refine TC.skip ?_
  refine TE.next hK9 ?_
  clear hK9
  refine TC.seq (fun K10 hK10 => ?_)
  refine TC.block ?_
  refine TC.seq (fun K11 hK11 => ?_)
  refine TC.region ?_
  refine tp rfl rfl rfl (PV.indexSlV (r := 1) hvw rfl Tryz.underlying74 sz3 rfl rfl (by omega) (by omega) rfl) ?_
  refine tp rfl rfl rfl (PV.load1X (v := (.int .i64 (((x.id + 2) % 5)))) rfl Tryz.underlying3 rfl rfl (RdX.own 2 rfl hvw rfl) rfl) ?_
  refine tp rfl rfl rfl (PV.assign rfl rfl) ?_
  refine TL.nil ?_
  refine TE.next hK11 ?_
  clear hK11
  refine TC.seq (fun K12 hK12 => ?_)
  refine TC.region ?_
  refine tp rfl rfl rfl (PV.move rfl rfl) ?_
  refine tp rfl rfl rfl (PV.nilCheck rfl rfl) ?_
  refine tp rfl rfl rfl (PV.fieldAddr (r := 1939) rfl Tryz.underlying104 rfl sz3 rfl rfl) ?_
  refine tp rfl rfl rfl (PV.load1 (v := (.int .i64 (x.kept))) rfl Tryz.underlying3 rfl rfl (Rd.own 0 rfl rfl) (RepT.at_kept x rfl)) ?_
  refine tp rfl rfl rfl (PV.move rfl rfl) ?_
  refine tp rfl rfl rfl (PV.shr (r := (x.kept.fdiv (2 ^ min (((x.id + 2) % 5)).toNat IntKind.i64.bits))) rfl rfl rfl (by omega) rfl) ?_
  refine tp rfl rfl rfl (PV.and (r := ((x.kept.fdiv (2 ^ min (((x.id + 2) % 5)).toNat IntKind.i64.bits)) % 2)) rfl rfl rfl (mask (k := 1) (by decide) _)) ?_
  refine tp rfl rfl rfl (PV.eql rfl rfl rfl) ?_
  refine TL.dec (fun h33 => ?_) (fun h33 => ?_)
  refine TL.nil ?_
  refine TE.next hK12 ?_
  clear hK12
  refine TC.yes rfl ?_
  refine TC.region ?_
  refine tp rfl rfl rfl (PV.move rfl rfl) ?_
  refine tp rfl rfl rfl (PV.move rfl rfl) ?_
  refine tp rfl rfl rfl (PV.move rfl rfl) ?_
  refine tp rfl rfl rfl (PV.loadN (vs := ints (MsgT.mk 0 x.id x.own 0 0 BallotT.zero BallotT.zero ChangeT.zero ViewT.zero).flat) rfl Tryz.underlying54 rfl sz54 rfl (Rd.own 3 rfl rfl) (MsgT.len (MsgT.mk 0 x.id x.own 0 0 BallotT.zero BallotT.zero ChangeT.zero ViewT.zero)) (whole (MsgT.len (MsgT.mk 0 x.id x.own 0 0 BallotT.zero BallotT.zero ChangeT.zero ViewT.zero)))) ?_
  refine TL.callR (A := [blkA r (RepT.cells x) 104, outP ob (l ++ [SaidT.mk ((x.id + 1) % 5) (MsgT.mk 0 x.id x.own 0 0 BallotT.zero BallotT.zero ChangeT.zero ViewT.zero)])]) (B := [own uw (2) ([.int .i64 ((x.id + 1) % 5), .int .i64 ((x.id + 2) % 5)]) 3 1, blkA b4 (ints (MsgT.mk 0 x.id x.own 0 0 BallotT.zero BallotT.zero ChangeT.zero ViewT.zero).flat) 54]) (Want.plain rfl) rfl rfl rfl nm79 rfl (send_does r ob x ((x.id + 2) % 5) (MsgT.mk 0 x.id x.own 0 0 BallotT.zero BallotT.zero ChangeT.zero ViewT.zero) (l ++ [SaidT.mk ((x.id + 1) % 5) (MsgT.mk 0 x.id x.own 0 0 BallotT.zero BallotT.zero ChangeT.zero ViewT.zero)]) (by first | omega | (simp only [List.length_append, List.length_cons, List.length_nil]; omega)) (by omega)) (fun _ s => s) (fun _ _ _ => trivial) (fun vR HR hR => ?_)
  obtain rfl := hR
  change TL _ _ _ _ _ _ _ _ _ [blkA r (RepT.cells x) 104, outP ob (l ++ [SaidT.mk ((x.id + 1) % 5) (MsgT.mk 0 x.id x.own 0 0 BallotT.zero BallotT.zero ChangeT.zero ViewT.zero)] ++ [SaidT.mk ((x.id + 2) % 5) (MsgT.mk 0 x.id x.own 0 0 BallotT.zero BallotT.zero ChangeT.zero ViewT.zero)]), own uw (2) ([.int .i64 ((x.id + 1) % 5), .int .i64 ((x.id + 2) % 5)]) 3 1, blkA b4 (ints (MsgT.mk 0 x.id x.own 0 0 BallotT.zero BallotT.zero ChangeT.zero ViewT.zero).flat) 54]
  refine TL.nil ?_
  refine TE.blockEnd ?_
  refine TE.next hK10 ?_
  clear hK10
  refine TC.region ?_
  refine tp rfl rfl rfl (PV.add (r := 2) rfl rfl rfl (by decide)) ?_
  refine tp rfl rfl rfl (PV.move rfl rfl) ?_
  refine TL.nil ?_
  refine TE.again ?_
  refine TC.seq (fun K13 hK13 => ?_)
  refine TC.region ?_
  refine tp rfl rfl rfl (PV.lss rfl rfl rfl) ?_
  refine TL.nil ?_
  refine TE.next hK13 ?_
  clear hK13
  refine TC.seq (fun K14 hK14 => ?_)
  refine TC.no rfl ?_
  refine TC.exit ?_
  refine TE.pass ?_
  clear hK14
  refine TE.pass ?_
  refine TE.hit ?_
  refine TE.weak (Sub.refl _) (fun _ s => sep_keep [0, 0] rfl s) ?_
  refine TE.end0 rfl ?_
  exact congrArg (fun q => [blkA r (RepT.cells x) 104, outP ob q]) (show l ++ [SaidT.mk ((x.id + 1) % 5) (MsgT.mk 0 x.id x.own 0 0 BallotT.zero BallotT.zero ChangeT.zero ViewT.zero)] ++ [SaidT.mk ((x.id + 2) % 5) (MsgT.mk 0 x.id x.own 0 0 BallotT.zero BallotT.zero ChangeT.zero ViewT.zero)] = l ++ tellL x by rw [tellL, witL, if_pos hid]; simp [bit0, rowMsg, MsgT.zero, *])
  refine TL.nil ?_
  refine TE.next hK12 ?_
  clear hK12
  refine TC.no rfl ?_
  refine TC.skip ?_
  refine TE.blockEnd ?_
  refine TE.next hK10 ?_
  clear hK10
  refine TC.region ?_
  refine tp rfl rfl rfl (PV.add (r := 2) rfl rfl rfl (by decide)) ?_
  refine tp rfl rfl rfl (PV.move rfl rfl) ?_
  refine TL.nil ?_
  refine TE.again ?_
  refine TC.seq (fun K15 hK15 => ?_)
  refine TC.region ?_
  refine tp rfl rfl rfl (PV.lss rfl rfl rfl) ?_
  refine TL.nil ?_
  refine TE.next hK15 ?_
  clear hK15
  refine TC.seq (fun K16 hK16 => ?_)
  refine TC.no rfl ?_
  refine TC.exit ?_
  refine TE.pass ?_
  clear hK16
  refine TE.pass ?_
  refine TE.hit ?_
  refine TE.weak (Sub.refl _) (fun _ s => sep_keep [0, 0] rfl s) ?_
  refine TE.end0 rfl ?_
  exact congrArg (fun q => [blkA r (RepT.cells x) 104, outP ob q]) (show l ++ [SaidT.mk ((x.id + 1) % 5) (MsgT.mk 0 x.id x.own 0 0 BallotT.zero BallotT.zero ChangeT.zero ViewT.zero)] = l ++ tellL x by rw [tellL, witL, if_pos hid]; simp [bit0, rowMsg, MsgT.zero, *])
  refine TL.nil ?_
  refine TE.next hK7 ?_
  clear hK7
  refine TC.no rfl ?_
  refine TC.skip ?_
  refine TE.blockEnd ?_
  refine TE.next hK5 ?_
  clear hK5
  refine TC.region ?_
  refine tp rfl rfl rfl (PV.add (r := 1) rfl rfl rfl (by decide)) ?_
  refine tp rfl rfl rfl (PV.move rfl rfl) ?_
  refine TL.nil ?_
  refine TE.again ?_
  refine TC.seq (fun K17 hK17 => ?_)
  refine TC.region ?_
  refine tp rfl rfl rfl (PV.lss rfl rfl rfl) ?_
  refine TL.nil ?_
  refine TE.next hK17 ?_
  clear hK17
  refine TC.seq (fun K18 hK18 => ?_)
  refine TC.yes rfl ?_
  refine TC.skip ?_
  refine TE.next hK18 ?_
  clear hK18
  refine TC.seq (fun K19 hK19 => ?_)
  refine TC.block ?_
  refine TC.seq (fun K20 hK20 => ?_)
  refine TC.region ?_
  refine tp rfl rfl rfl (PV.indexSlV (r := 1) hvw rfl Tryz.underlying74 sz3 rfl rfl (by omega) (by omega) rfl) ?_
  refine tp rfl rfl rfl (PV.load1X (v := (.int .i64 (((x.id + 2) % 5)))) rfl Tryz.underlying3 rfl rfl (RdX.own 0 rfl hvw rfl) rfl) ?_
  refine tp rfl rfl rfl (PV.assign rfl rfl) ?_
  refine TL.nil ?_
  refine TE.next hK20 ?_
  clear hK20
  refine TC.seq (fun K21 hK21 => ?_)
  refine TC.region ?_
  refine tp rfl rfl rfl (PV.move rfl rfl) ?_
  refine tp rfl rfl rfl (PV.nilCheck rfl rfl) ?_
  refine tp rfl rfl rfl (PV.fieldAddr (r := 1939) rfl Tryz.underlying104 rfl sz3 rfl rfl) ?_
  refine tp rfl rfl rfl (PV.load1 (v := (.int .i64 (x.kept))) rfl Tryz.underlying3 rfl rfl (Rd.own 2 rfl rfl) (RepT.at_kept x rfl)) ?_
  refine tp rfl rfl rfl (PV.move rfl rfl) ?_
  refine tp rfl rfl rfl (PV.shr (r := (x.kept.fdiv (2 ^ min (((x.id + 2) % 5)).toNat IntKind.i64.bits))) rfl rfl rfl (by omega) rfl) ?_
  refine tp rfl rfl rfl (PV.and (r := ((x.kept.fdiv (2 ^ min (((x.id + 2) % 5)).toNat IntKind.i64.bits)) % 2)) rfl rfl rfl (mask (k := 1) (by decide) _)) ?_
  refine tp rfl rfl rfl (PV.eql rfl rfl rfl) ?_
  refine TL.dec (fun h33 => ?_) (fun h33 => ?_)
  refine TL.nil ?_
  refine TE.next hK21 ?_
  clear hK21
  refine TC.yes rfl ?_
  refine TC.region ?_
  refine tp rfl rfl rfl (PV.move rfl rfl) ?_
  refine tp rfl rfl rfl (PV.move rfl rfl) ?_
  refine tp rfl rfl rfl (PV.move rfl rfl) ?_
  refine tp rfl rfl rfl (PV.loadN (vs := ints (MsgT.mk 0 x.id x.own 0 0 BallotT.zero BallotT.zero ChangeT.zero ViewT.zero).flat) rfl Tryz.underlying54 rfl sz54 rfl (Rd.own 1 rfl rfl) (MsgT.len (MsgT.mk 0 x.id x.own 0 0 BallotT.zero BallotT.zero ChangeT.zero ViewT.zero)) (whole (MsgT.len (MsgT.mk 0 x.id x.own 0 0 BallotT.zero BallotT.zero ChangeT.zero ViewT.zero)))) ?_
  refine TL.callR (A := [blkA r (RepT.cells x) 104, outP ob (l)]) (B := [own uw (2) ([.int .i64 ((x.id + 1) % 5), .int .i64 ((x.id + 2) % 5)]) 3 1, blkA b4 (ints (MsgT.mk 0 x.id x.own 0 0 BallotT.zero BallotT.zero ChangeT.zero ViewT.zero).flat) 54]) (Want.plain rfl) rfl rfl rfl nm79 rfl (send_does r ob x ((x.id + 2) % 5) (MsgT.mk 0 x.id x.own 0 0 BallotT.zero BallotT.zero ChangeT.zero ViewT.zero) (l) (by first | omega | (simp only [List.length_append, List.length_cons, List.length_nil]; omega)) (by omega)) (fun _ s => sep_selR [2, 2] rfl s) (fun _ _ _ => trivial) (fun vR HR hR => ?_)
  obtain rfl := hR
  change TL _ _ _ _ _ _ _ _ _ [blkA r (RepT.cells x) 104, outP ob (l ++ [SaidT.mk ((x.id + 2) % 5) (MsgT.mk 0 x.id x.own 0 0 BallotT.zero BallotT.zero ChangeT.zero ViewT.zero)]), own uw (2) ([.int .i64 ((x.id + 1) % 5), .int .i64 ((x.id + 2) % 5)]) 3 1, blkA b4 (ints (MsgT.mk 0 x.id x.own 0 0 BallotT.zero BallotT.zero ChangeT.zero ViewT.zero).flat) 54]
  refine TL.nil ?_
  refine TE.blockEnd ?_
  refine TE.next hK19 ?_
  clear hK19
  refine TC.region ?_
  refine tp rfl rfl rfl (PV.add (r := 2) rfl rfl rfl (by decide)) ?_
  refine tp rfl rfl rfl (PV.move rfl rfl) ?_
  refine TL.nil ?_
  refine TE.again ?_
  refine TC.seq (fun K22 hK22 => ?_)
  refine TC.region ?_
  refine tp rfl rfl rfl (PV.lss rfl rfl rfl) ?_
  refine TL.nil ?_
  refine TE.next hK22 ?_
  clear hK22
  refine TC.seq (fun K23 hK23 => ?_)
  refine TC.no rfl ?_
  refine TC.exit ?_
  refine TE.pass ?_
  clear hK23
  refine TE.pass ?_
  refine TE.hit ?_
  refine TE.weak (Sub.refl _) (fun _ s => sep_keep [0, 0] rfl s) ?_
  refine TE.end0 rfl ?_
  exact congrArg (fun q => [blkA r (RepT.cells x) 104, outP ob q]) (show l ++ [SaidT.mk ((x.id + 2) % 5) (MsgT.mk 0 x.id x.own 0 0 BallotT.zero BallotT.zero ChangeT.zero ViewT.zero)] = l ++ tellL x by rw [tellL, witL, if_pos hid]; simp [bit0, rowMsg, MsgT.zero, *])
  refine TL.nil ?_
  refine TE.next hK21 ?_
  clear hK21
  refine TC.no rfl ?_
  refine TC.skip ?_
  refine TE.blockEnd ?_
  refine TE.next hK19 ?_
  clear hK19
  refine TC.region ?_
  refine tp rfl rfl rfl (PV.add (r := 2) rfl rfl rfl (by decide)) ?_
  refine tp rfl rfl rfl (PV.move rfl rfl) ?_
  refine TL.nil ?_
  refine TE.again ?_
  refine TC.seq (fun K24 hK24 => ?_)
  refine TC.region ?_
  refine tp rfl rfl rfl (PV.lss rfl rfl rfl) ?_
  refine TL.nil ?_
  refine TE.next hK24 ?_
  clear hK24
  refine TC.seq (fun K25 hK25 => ?_)
  refine TC.no rfl ?_
  refine TC.exit ?_
  refine TE.pass ?_
  clear hK25
  refine TE.pass ?_
  refine TE.hit ?_
  refine TE.weak (Sub.refl _) (fun _ s => sep_keep [2, 2] rfl s) ?_
  refine TE.end0 rfl ?_
  exact congrArg (fun q => [blkA r (RepT.cells x) 104, outP ob q]) (show l = l ++ tellL x by rw [tellL, witL, if_pos hid]; simp [bit0, rowMsg, MsgT.zero, *])
  exact AllT.nil
  exact AllT.nil
theorem tellNews_does (r ob : Nat) (x : RepT) (y : RowT) (l : List SaidT) (hl : l.length ≤ 900000) :
    Does Tryz.prog 63 #[(.pointer (some ⟨r, 0, none⟩)), (.iface 34 (.pointer (some ⟨ob, 0, none⟩))), (.agg (ints y.flat).toArray)] (fun _ => True) [blkA r (RepT.cells x) 104, outP ob (l)] (Ret (fun _ H => H = [blkA r (RepT.cells x) 104, outP ob (l ++ newsL x.id y)])) := by
  refine Does.body (vs := [(.pointer (some ⟨r, 0, none⟩)), (.iface 34 (.pointer (some ⟨ob, 0, none⟩))), (.agg (ints y.flat).toArray)]) (n := 27) Tryz.func63 rfl rfl rfl (fun w0 F hF => ?_)
  refine TC.seq (fun K1 hK1 => ?_)
  refine TC.region ?_
  refine TL.box (Want.plain rfl) rfl rfl rfl rfl (fun b5 => ?_)
  change TL _ _ _ _ _ _ _ _ _ [blkA b5 (ints y.flat) 48, blkA r (RepT.cells x) 104, outP ob (l)]
  refine TL.nil ?_
  refine TE.next hK1 ?_
  clear hK1
  refine TC.seq (fun K2 hK2 => ?_)
  refine TC.region ?_
  refine tp rfl rfl rfl (PV.move rfl rfl) ?_
  refine TL.nil ?_
  refine TE.next hK2 ?_
  clear hK2
  refine TC.block ?_
  refine TC.loop (α := (Nat)) (fun k => k ≤ 5) (fun k => [(0, (.pointer (some ⟨r, 0, none⟩))), (1, (.iface 34 (.pointer (some ⟨ob, 0, none⟩)))), (5, (.pointer (some ⟨b5, 0, none⟩))), (7, (.int .i64 (((k : Nat) : Int))))]) (fun k => [blkA b5 (ints y.flat) 48, blkA r (RepT.cells x) 104, outP ob (l ++ newsTo x.id y k)]) (fun k => 5 - k) 0
      (Nat.zero_le _) (Sub.r (Sub.r (Sub.r (Sub.cons rfl (by congr 1) (Sub.nil _)))))
      (fun _ s => by simpa [newsTo] using s) (fun k hinv => ?_)
  obtain hk := hinv
  have hnl : (newsTo x.id y k).length ≤ k := by unfold newsTo; rw [List.length_map]; exact Nat.le_trans (List.length_filter_le _ _) (by simp)
  refine TC.seq (fun K3 hK3 => ?_)
  refine TC.region ?_
  refine tp rfl rfl rfl (PV.lss rfl rfl rfl) ?_
  refine TL.dec (fun h8 => ?_) (fun h8 => ?_)
  refine TL.nil ?_
  refine TE.next hK3 ?_
  clear hK3
  refine TC.seq (fun K4 hK4 => ?_)
  refine TC.yes rfl ?_
  refine TC.skip ?_
  refine TE.next hK4 ?_
  clear hK4
  refine TC.seq (fun K5 hK5 => ?_)
  refine TC.block ?_
  refine TC.seq (fun K6 hK6 => ?_)
  refine TC.region ?_
  refine tp rfl rfl rfl (PV.move rfl rfl) ?_
  refine tp rfl rfl rfl (PV.assign rfl rfl) ?_
  refine TL.nil ?_
  refine TE.next hK6 ?_
  clear hK6
  refine TC.seq (fun K7 hK7 => ?_)
  refine TC.region ?_
  refine tp rfl rfl rfl (PV.move rfl rfl) ?_
  refine tp rfl rfl rfl (PV.move rfl rfl) ?_
  refine tp rfl rfl rfl (PV.nilCheck rfl rfl) ?_
  refine tp rfl rfl rfl (PV.fieldAddr (r := 0) rfl Tryz.underlying104 rfl sz3 rfl rfl) ?_
  refine tp rfl rfl rfl (PV.load1 (v := (.int .i64 (x.id))) rfl Tryz.underlying3 rfl rfl (Rd.own 1 rfl rfl) (RepT.at_id x rfl)) ?_
  refine tp rfl rfl rfl (PV.neq rfl rfl rfl) ?_
  refine TL.dec (fun h15 => ?_) (fun h15 => ?_)
  refine TL.nil ?_
  refine TE.next hK7 ?_
  clear hK7
  refine TC.yes rfl ?_
  refine TC.draw (fun w => Frm F w ∧ w.heap[r]? = some (.cells (RepT.cells x).toArray 104 (0, 0)) ∧ w.heap[b5]? = some (.cells (ints y.flat).toArray 48 (0, 0)) ∧ True) mixed rfl (fun _ s => ⟨Frm.of s, s.block 1 (lb rfl) rfl, s.block 0 (lb rfl) rfl, trivial⟩) ?_
  refine TD.take (i := 0) rfl (by kernel_rfl) (by kernel_rfl) (by kernel_rfl) (fun _ _ _ _ h => h) (Want.plain rfl) rfl rfl (PV.move rfl rfl) ?_
  refine TD.take (i := 1) rfl (by kernel_rfl) (by kernel_rfl) (by kernel_rfl) (fun _ _ _ _ h => h) (Want.plain rfl) rfl rfl (PV.move rfl rfl) ?_
  refine TD.take (i := 2) rfl (by kernel_rfl) (by kernel_rfl) (by kernel_rfl) (fun _ _ _ _ h => h) (Want.plain rfl) rfl rfl (PV.move rfl rfl) ?_
  refine TD.take (i := 3) rfl (by kernel_rfl) (by kernel_rfl) (by kernel_rfl) (fun _ _ _ _ h => h) (Want.plain rfl) rfl rfl (PV.move rfl rfl) ?_
  refine TD.take (i := 4) rfl (by kernel_rfl) (by kernel_rfl) (by kernel_rfl) (fun _ _ _ _ h => h) (Want.plain rfl) rfl rfl (PV.nilCheck rfl rfl) ?_
  refine TD.take (i := 5) rfl (by kernel_rfl) (by kernel_rfl) (by kernel_rfl) (fun _ _ _ _ h => h) (Want.plain rfl) rfl rfl (PV.fieldAddr (r := 0) rfl Tryz.underlying104 rfl sz3 rfl rfl) ?_
  refine TD.take (i := 6) rfl (by kernel_rfl) (by kernel_rfl) (by kernel_rfl) (fun _ _ _ _ h => h) (Want.plain rfl) rfl rfl (PV.load1 (v := (.int .i64 (x.id))) rfl Tryz.underlying3 rfl rfl (fun _ h => h.2.1) (RepT.at_id x rfl)) ?_
  refine TD.take (i := 7) rfl (by kernel_rfl) (by kernel_rfl) (by kernel_rfl) (fun _ _ _ _ h => h) (Want.plain rfl) rfl rfl (PV.loadN (vs := ints y.flat) rfl Tryz.underlying48 rfl sz48 rfl (fun _ h => h.2.2.1) (RowT.len y) (whole (RowT.len y))) ?_
  refine TD.take (i := 8) rfl (by kernel_rfl) (by kernel_rfl) (by kernel_rfl) (fun _ _ _ _ h => h) (Want.plain rfl) rfl rfl (PV.buildSegs (cs := ints (MsgT.mk 2 x.id y 0 0 BallotT.zero BallotT.zero ChangeT.zero ViewT.zero).flat) (segs := [[Value.int .i64 0], [Value.int .i64 0], ints RowT.zero.flat, [Value.int .i64 0], [Value.int .i64 0], ints BallotT.zero.flat, ints BallotT.zero.flat, ints ChangeT.zero.flat, ints ViewT.zero.flat]) (res := [[Value.int .i64 2], [Value.int .i64 x.id], ints y.flat, [Value.int .i64 0], [Value.int .i64 0], ints BallotT.zero.flat, ints BallotT.zero.flat, ints ChangeT.zero.flat, ints ViewT.zero.flat]) (parts := [(0, [Value.int .i64 2]), (1, [Value.int .i64 x.id]), (2, ints y.flat)]) rfl rfl Tryz.underlying54 (by kernel_rfl) (by kernel_rfl) rfl (putSegs_step rfl ((rfl : [Value.int .i64 2].length = 1).trans (rfl : [Value.int .i64 0].length = 1).symm) (putSegs_step rfl ((rfl : [Value.int .i64 x.id].length = 1).trans (rfl : [Value.int .i64 0].length = 1).symm) (putSegs_step rfl ((RowT.len y).trans (RowT.len RowT.zero).symm) putSegs_nil))) (MsgT.eq (MsgT.mk 2 x.id y 0 0 BallotT.zero BallotT.zero ChangeT.zero ViewT.zero)).symm) ?_
  refine TD.all [9] (by kernel_rfl) rfl ?_
  refine AllT.cons rfl ?_ ?_
  refine TL.callR (A := [blkA r (RepT.cells x) 104, outP ob (l ++ newsTo x.id y k)]) (B := [blkA b5 (ints y.flat) 48]) (Want.plain rfl) rfl rfl rfl nm79 rfl (send_does r ob x ((k : Nat) : Int) (MsgT.mk 2 x.id y 0 0 BallotT.zero BallotT.zero ChangeT.zero ViewT.zero) (l ++ newsTo x.id y k) (by simp only [List.length_append]; omega) h15) (fun _ s => sep_selR [1, 1] rfl s) (fun _ _ _ => trivial) (fun vR HR hR => ?_)
  obtain rfl := hR
  change TL _ _ _ _ _ _ _ _ _ [blkA r (RepT.cells x) 104, outP ob (l ++ newsTo x.id y k ++ [SaidT.mk ((k : Nat) : Int) (MsgT.mk 2 x.id y 0 0 BallotT.zero BallotT.zero ChangeT.zero ViewT.zero)]), blkA b5 (ints y.flat) 48]
  refine TL.nil ?_
  refine TE.draw (fun _ s => ⟨Frm.of s, s.block 0 (lb rfl) rfl, s.block 2 (lb rfl) rfl, trivial⟩) ?_
  refine TD.done (by kernel_rfl) ?_
  refine TE.blockEnd ?_
  refine TE.next hK5 ?_
  clear hK5
  refine TC.region ?_
  refine tp rfl rfl rfl (PV.add rfl rfl rfl (wrap_i64 (by omega) (by omega))) ?_
  refine tp rfl rfl rfl (PV.move rfl rfl) ?_
  refine TL.nil ?_
  exact TE.round ((k + 1) : (Nat)) (by omega) (by show 5 - (k + 1) < 5 - k; omega)
    (Sub.r (Sub.r (Sub.r (Sub.cons rfl (by simp) (Sub.nil _)))))
    (fun _ s => by
      show sep [blkA b5 (ints y.flat) 48, blkA r (RepT.cells x) 104, outP ob (l ++ newsTo x.id y (k + 1))] _
      rw [newsTo_succ, if_neg h15]
      rw [← List.append_assoc]
      exact sep_keep [2, 0, 0] rfl s)
  exact AllT.nil
  refine TL.nil ?_
  refine TE.next hK7 ?_
  clear hK7
  refine TC.no rfl ?_
  refine TC.skip ?_
  refine TE.blockEnd ?_
  refine TE.next hK5 ?_
  clear hK5
  refine TC.region ?_
  refine tp rfl rfl rfl (PV.add rfl rfl rfl (wrap_i64 (by omega) (by omega))) ?_
  refine tp rfl rfl rfl (PV.move rfl rfl) ?_
  refine TL.nil ?_
  exact TE.round ((k + 1) : (Nat)) (by omega) (by show 5 - (k + 1) < 5 - k; omega)
    (Sub.r (Sub.r (Sub.r (Sub.cons rfl (by simp) (Sub.nil _)))))
    (fun _ s => by
      show sep [blkA b5 (ints y.flat) 48, blkA r (RepT.cells x) 104, outP ob (l ++ newsTo x.id y (k + 1))] _
      rw [newsTo_succ, if_pos (by omega)]
      rw [List.append_nil]
      exact sep_keep [0, 0, 0] rfl s)
  refine TL.nil ?_
  refine TE.next hK3 ?_
  clear hK3
  refine TC.seq (fun K8 hK8 => ?_)
  refine TC.no rfl ?_
  refine TC.exit ?_
  refine TE.pass ?_
  clear hK8
  refine TE.pass ?_
  refine TE.hit ?_
  refine TE.weak (Sub.refl _) (fun _ s => sep_keep [1, 1] rfl s) ?_
  refine TE.end0 rfl ?_
  obtain rfl : k = 5 := by omega
  exact rfl
theorem due0_does (r : Nat) (x : RepT) (hal : Alone x) :
    Does Tryz.prog 88 #[(.pointer (some ⟨r, 0, none⟩))] (fun _ => True) [blkA r (RepT.cells x) 104] (Ret (fun r' H => r' = .slice none 0 0 ∧ H = [blkA r (RepT.cells x) 104])) := by
  refine Does.body (vs := [(.pointer (some ⟨r, 0, none⟩))]) (n := 44) Tryz.func88 rfl rfl rfl (fun w0 F hF => ?_)
  refine TC.seq (fun K1 hK1 => ?_)
  refine TC.region ?_
  refine tp rfl rfl rfl (PV.assign rfl rfl) ?_
  refine TL.nil ?_
  refine TE.next hK1 ?_
  clear hK1
  refine TC.seq (fun K2 hK2 => ?_)
  refine TC.region ?_
  refine tp rfl rfl rfl (PV.assign rfl rfl) ?_
  refine TL.nil ?_
  refine TE.next hK2 ?_
  clear hK2
  refine TC.seq (fun K3 hK3 => ?_)
  refine TC.seq (fun K4 hK4 => ?_)
  refine TC.region ?_
  refine tp rfl rfl rfl (PV.move rfl rfl) ?_
  refine TL.nil ?_
  refine TE.next hK4 ?_
  clear hK4
  refine TC.block ?_
  refine TC.loop (α := (Nat)) (fun k => k ≤ 5) (fun k => [(0, (.pointer (some ⟨r, 0, none⟩))), (2, (.slice none 0 0)), (3, (.slice none 0 0)), (7, (.int .i64 (((k : Nat) : Int))))]) (fun k => [blkA r (RepT.cells x) 104]) (fun k => 5 - k) 0
      (Nat.zero_le _) (Sub.r (Sub.r (Sub.r (Sub.cons rfl (by congr 1) (Sub.nil _)))))
      (fun _ s => s) (fun k hinv => ?_)
  obtain hk := hinv
  refine TC.seq (fun K5 hK5 => ?_)
  refine TC.region ?_
  refine tp rfl rfl rfl (PV.lss rfl rfl rfl) ?_
  refine TL.dec (fun h8 => ?_) (fun h8 => ?_)
  refine TL.nil ?_
  refine TE.next hK5 ?_
  clear hK5
  refine TC.seq (fun K6 hK6 => ?_)
  refine TC.yes rfl ?_
  refine TC.skip ?_
  refine TE.next hK6 ?_
  clear hK6
  refine TC.seq (fun K7 hK7 => ?_)
  refine TC.block ?_
  refine TC.seq (fun K8 hK8 => ?_)
  refine TC.region ?_
  refine tp rfl rfl rfl (PV.move rfl rfl) ?_
  refine tp rfl rfl rfl (PV.assign rfl rfl) ?_
  refine TL.nil ?_
  refine TE.next hK8 ?_
  clear hK8
  refine TC.seq (fun K9 hK9 => ?_)
  refine TC.region ?_
  refine tp rfl rfl rfl (PV.move rfl rfl) ?_
  refine tp rfl rfl rfl (PV.nilCheck rfl rfl) ?_
  refine tp rfl rfl rfl (PV.fieldAddr (r := 2) rfl Tryz.underlying104 rfl sz52 rfl rfl) ?_
  refine tp rfl rfl rfl (PV.loadN (vs := ints x.view.flat) rfl Tryz.underlying52 rfl sz52 rfl (Rd.own 0 rfl rfl) (ViewT.len x.view) (RepT.sub_view x 0 rfl (by decide) (whole (ViewT.len x.view)))) ?_
  refine tp rfl rfl rfl (PV.move rfl rfl) ?_
  refine TL.callR (A := []) (B := [blkA r (RepT.cells x) 104]) (Want.plain rfl) rfl rfl rfl nm54 rfl (heir_does x.view ((k : Nat) : Int) hal.1) (fun _ s => s) (fun _ _ _ => trivial) (fun vR HR hR => ?_)
  obtain ⟨rfl, rfl⟩ := hR
  change TL _ _ _ _ _ _ _ _ _ [blkA r (RepT.cells x) 104]
  refine tp rfl rfl rfl (PV.move rfl rfl) ?_
  refine tp rfl rfl rfl (PV.extract (vs := [(.int .i64 (((heirV x.view ((k : Nat) : Int)).getD 0))), (.bool ((heirV x.view ((k : Nat) : Int)).isSome))]) rfl rfl rfl) ?_
  refine tp rfl rfl rfl (PV.extract (vs := [(.int .i64 (((heirV x.view ((k : Nat) : Int)).getD 0))), (.bool ((heirV x.view ((k : Nat) : Int)).isSome))]) rfl rfl rfl) ?_
  refine TL.decB (fun h18 => ?_) (fun h18 => ?_)
  refine tp rfl rfl rfl (PV.assign rfl rfl) ?_
  refine tp rfl rfl rfl (PV.assign rfl rfl) ?_
  refine TL.nil ?_
  refine TE.next hK9 ?_
  clear hK9
  refine TC.seq (fun K10 hK10 => ?_)
  refine TC.region ?_
  refine tp rfl rfl rfl (PV.move rfl rfl) ?_
  refine tp rfl rfl rfl (PV.move rfl rfl) ?_
  refine tq rfl rfl rfl rfl rfl (PV.move rfl rfl) ?_
  refine tq rfl rfl rfl rfl rfl (PV.move rfl rfl) ?_
  refine tq rfl rfl rfl rfl rfl (PV.nilCheck rfl rfl) ?_
  refine tq rfl rfl rfl rfl rfl (PV.fieldAddr (r := 0) rfl Tryz.underlying104 rfl sz3 rfl rfl) ?_
  refine tq rfl rfl rfl rfl rfl (PV.load1 (v := (.int .i64 (x.id))) rfl Tryz.underlying3 rfl rfl (Rd.own 0 rfl rfl) (RepT.at_id x rfl)) ?_
  refine tq rfl rfl rfl rfl rfl (PV.eql rfl rfl rfl) ?_
  refine TL.dec (fun h26 => ?_) (fun h26 => ?_)
  · exact absurd (by cases hq : heirV x.view ((k : Nat) : Int) with | none => rw [hq] at h18; cases h18 | some z => rw [hq] at h26; rw [← h26]; rfl) (hal.2 k (by omega))
  refine tp rfl rfl rfl (PV.pick rfl rfl rfl) ?_
  refine tp rfl rfl rfl (PV.move rfl rfl) ?_
  refine TL.unmet (b := false) rfl rfl rfl rfl (lb rfl) ?_
  refine TL.unmet (b := false) rfl rfl rfl rfl (lb rfl) ?_
  refine TL.unmet (b := false) rfl rfl rfl rfl (lb rfl) ?_
  refine TL.unmet (b := false) rfl rfl rfl rfl (lb rfl) ?_
  refine TL.unmet (b := false) rfl rfl rfl rfl (lb rfl) ?_
  refine TL.unmet (b := false) rfl rfl rfl rfl (lb rfl) ?_
  refine TL.unmet (b := false) rfl rfl rfl rfl (lb rfl) ?_
  refine TL.unmet (b := false) rfl rfl rfl rfl (lb rfl) ?_
  refine tp rfl rfl rfl (PV.pick rfl rfl rfl) ?_
  refine TL.nil ?_
  refine TE.next hK10 ?_
  clear hK10
  refine TC.no rfl ?_
  refine TC.skip ?_
  refine TE.blockEnd ?_
  refine TE.next hK7 ?_
  clear hK7
  refine TC.region ?_
  refine tp rfl rfl rfl (PV.add rfl rfl rfl (wrap_i64 (by omega) (by omega))) ?_
  refine tp rfl rfl rfl (PV.move rfl rfl) ?_
  refine TL.nil ?_
  exact TE.round ((k + 1) : (Nat)) (by omega) (by show 5 - (k + 1) < 5 - k; omega)
    (Sub.r (Sub.r (Sub.r (Sub.cons rfl (by simp) (Sub.nil _)))))
    (fun _ s => s)
  refine tp rfl rfl rfl (PV.assign rfl rfl) ?_
  refine tp rfl rfl rfl (PV.assign rfl rfl) ?_
  refine TL.nil ?_
  refine TE.next hK9 ?_
  clear hK9
  refine TC.seq (fun K11 hK11 => ?_)
  refine TC.region ?_
  refine tp rfl rfl rfl (PV.move rfl rfl) ?_
  refine tp rfl rfl rfl (PV.move rfl rfl) ?_
  refine TL.unmet (b := false) rfl rfl rfl rfl (lb rfl) ?_
  refine TL.unmet (b := false) rfl rfl rfl rfl (lb rfl) ?_
  refine TL.unmet (b := false) rfl rfl rfl rfl (lb rfl) ?_
  refine TL.unmet (b := false) rfl rfl rfl rfl (lb rfl) ?_
  refine TL.unmet (b := false) rfl rfl rfl rfl (lb rfl) ?_
  refine TL.unmet (b := false) rfl rfl rfl rfl (lb rfl) ?_
  refine tp rfl rfl rfl (PV.pick rfl rfl rfl) ?_
  refine tp rfl rfl rfl (PV.move rfl rfl) ?_
  refine TL.unmet (b := false) rfl rfl rfl rfl (lb rfl) ?_
  refine TL.unmet (b := false) rfl rfl rfl rfl (lb rfl) ?_
  refine TL.unmet (b := false) rfl rfl rfl rfl (lb rfl) ?_
  refine TL.unmet (b := false) rfl rfl rfl rfl (lb rfl) ?_
  refine TL.unmet (b := false) rfl rfl rfl rfl (lb rfl) ?_
  refine TL.unmet (b := false) rfl rfl rfl rfl (lb rfl) ?_
  refine TL.unmet (b := false) rfl rfl rfl rfl (lb rfl) ?_
  refine TL.unmet (b := false) rfl rfl rfl rfl (lb rfl) ?_
  refine tp rfl rfl rfl (PV.pick rfl rfl rfl) ?_
  refine TL.nil ?_
  refine TE.next hK11 ?_
  clear hK11
  refine TC.no rfl ?_
  refine TC.skip ?_
  refine TE.blockEnd ?_
  refine TE.next hK7 ?_
  clear hK7
  refine TC.region ?_
  refine tp rfl rfl rfl (PV.add rfl rfl rfl (wrap_i64 (by omega) (by omega))) ?_
  refine tp rfl rfl rfl (PV.move rfl rfl) ?_
  refine TL.nil ?_
  exact TE.round ((k + 1) : (Nat)) (by omega) (by show 5 - (k + 1) < 5 - k; omega)
    (Sub.r (Sub.r (Sub.r (Sub.cons rfl (by simp) (Sub.nil _)))))
    (fun _ s => s)
  refine TL.nil ?_
  refine TE.next hK5 ?_
  clear hK5
  refine TC.seq (fun K12 hK12 => ?_)
  refine TC.no rfl ?_
  refine TC.exit ?_
  refine TE.pass ?_
  clear hK12
  refine TE.pass ?_
  refine TE.hit ?_
  refine TE.next hK3 ?_
  clear hK3
  refine TC.seq (fun K13 hK13 => ?_)
  refine TC.region ?_
  refine tp rfl rfl rfl (PV.move rfl rfl) ?_
  refine tp rfl rfl rfl (PV.assign rfl rfl) ?_
  refine TL.nil ?_
  refine TE.next hK13 ?_
  clear hK13
  refine TC.ret ?_
  refine TE.weak (Sub.refl _) (fun _ s => sep_keep [0] rfl s) ?_
  refine TE.ret1 rfl rfl ?_
  exact ⟨rfl, rfl⟩
theorem comeInto0_does (r ob : Nat) (x : RepT) (l : List SaidT) (hal : Alone x) :
    Does Tryz.prog 59 #[(.pointer (some ⟨r, 0, none⟩)), (.iface 34 (.pointer (some ⟨ob, 0, none⟩)))] (fun _ => True) [blkA r (RepT.cells x) 104, outP ob (l)] (Ret (fun _ H => H = [blkA r (RepT.cells x) 104, outP ob l])) := by
  refine Does.body (vs := [(.pointer (some ⟨r, 0, none⟩)), (.iface 34 (.pointer (some ⟨ob, 0, none⟩)))]) (n := 80) Tryz.func59 rfl rfl rfl (fun w0 F hF => ?_)
  refine TC.seq (fun K1 hK1 => ?_)
  refine TC.region ?_
  refine tp rfl rfl rfl (PV.move rfl rfl) ?_
  refine TL.callR (A := [blkA r (RepT.cells x) 104]) (B := [outP ob (l)]) (Want.plain rfl) rfl rfl rfl nm88 rfl (due0_does r x hal) (fun _ s => s) (fun _ _ _ => trivial) (fun vR HR hR => ?_)
  obtain ⟨rfl, rfl⟩ := hR
  change TL _ _ _ _ _ _ _ _ _ [blkA r (RepT.cells x) 104, outP ob (l)]
  refine tp rfl rfl rfl (PV.assign rfl rfl) ?_
  refine TL.nil ?_
  refine TE.next hK1 ?_
  clear hK1
  refine TC.seq (fun K2 hK2 => ?_)
  refine TC.seq (fun K3 hK3 => ?_)
  refine TC.region ?_
  refine tp rfl rfl rfl (PV.move rfl rfl) ?_
  refine tp rfl rfl rfl (PV.nilCheck rfl rfl) ?_
  refine tp rfl rfl rfl (PV.fieldAddr (r := 1938) rfl Tryz.underlying104 rfl sz4 rfl rfl) ?_
  refine tp rfl rfl rfl (PV.load1 (v := (.bool (x.busy))) rfl Tryz.underlying4 rfl rfl (Rd.own 0 rfl rfl) (RepT.at_busy x rfl)) ?_
  refine TL.decB (fun h19 => ?_) (fun h19 => ?_)
  refine tp rfl rfl rfl (PV.move rfl rfl) ?_
  refine TL.unmet (b := true) rfl rfl rfl rfl (lb rfl) ?_
  refine TL.unmet (b := true) rfl rfl rfl rfl (lb rfl) ?_
  refine TL.unmet (b := true) rfl rfl rfl rfl (lb rfl) ?_
  refine tp rfl rfl rfl (PV.pick rfl rfl rfl) ?_
  refine TL.nil ?_
  refine TE.next hK3 ?_
  clear hK3
  refine TC.yes rfl ?_
  refine TC.ret ?_
  refine TE.passRet ?_
  clear hK2
  refine TE.weak (Sub.refl _) (fun _ s => sep_keep [0, 0] rfl s) ?_
  refine TE.ret0 rfl ?_
  exact rfl
  refine tp rfl rfl rfl (PV.move rfl rfl) ?_
  refine tq rfl rfl rfl rfl rfl (PV.move rfl rfl) ?_
  refine tq rfl rfl rfl rfl rfl (PV.lenSl rfl Tryz.underlying74 rfl) ?_
  refine tq rfl rfl rfl rfl rfl (PV.eql rfl rfl rfl) ?_
  refine tp rfl rfl rfl (PV.pick rfl rfl rfl) ?_
  refine TL.nil ?_
  refine TE.next hK3 ?_
  clear hK3
  refine TC.yes rfl ?_
  refine TC.ret ?_
  refine TE.passRet ?_
  clear hK2
  refine TE.weak (Sub.refl _) (fun _ s => sep_keep [0, 0] rfl s) ?_
  refine TE.ret0 rfl ?_
  exact rfl
end Go.Proofs.YtfceaphohlbnbaaGreat
end

section
namespace Wal
open Go Leg Codec Api Dsk

/-! ### What a disk reads -/
theorem sget_lay (s ws : Secs) (j : Int) : ∀ k, sget (layN s ws k) j = readN s ws j k
  | 0 => rfl
  | k + 1 => by
    rw [layN, readN, sget_put, sget_lay s ws j k]
    by_cases h : j = (wat ws k).1
    · rw [if_pos h, if_pos h.symm]
    · rw [if_neg h, if_neg (fun q => h q.symm)]
theorem wat_left {ws x : Secs} {k : Nat} (h : k < ws.length) : wat (ws ++ x) k = wat ws k := by simp [wat, List.getD_eq_getElem?_getD, List.getElem?_append_left h]
theorem readN_left {s ws x : Secs} {j : Int} : ∀ k, k ≤ ws.length → readN s (ws ++ x) j k = readN s ws j k
  | 0, _ => rfl
  | k + 1, h => by rw [readN, readN, wat_left (by omega), readN_left k (by omega)]
theorem readN_add (s ws : Secs) (p : Int × Sec) (j : Int) : readN s (ws ++ [p]) j (ws ++ [p]).length = if j = p.1 then p.2 else readN s ws j ws.length := by
  rw [List.length_append, List.length_cons, List.length_nil, Nat.zero_add, readN, readN_left _ (Nat.le_refl _)]
  have : wat (ws ++ [p]) ws.length = p := by simp [wat, List.getD_eq_getElem?_getD]
  rw [this]
  by_cases h : j = p.1
  · rw [if_pos h, if_pos h.symm]
  · rw [if_neg h, if_neg (fun q => h q.symm)]
/-- A write that is taken. -/
def putD (D : DS) (at' : Int) (bs : List UInt8) : DS := { D with ws := D.ws ++ [(at', padS bs)], lf := if D.ar = true then D.lf - 1 else D.lf, dn := false }
theorem write_putD {D : DS} {at' : Int} {bs : List UInt8} (h1 : 0 ≤ at' ∧ at' < 2048) (h2 : bs.length ≤ 64) (h3 : D.dn = false) (h4 : D.ar = false ∨ 0 < D.lf) : D.write at' bs = (0, putD D at' bs) := by
  rw [DS.write, if_neg (by omega), if_neg]
  · rfl
  · rintro (h | ⟨h, h5⟩)
    · rw [h3] at h; cases h
    · rcases h4 with h4 | h4
      · rw [h4] at h; cases h
      · omega
theorem write_down {D : DS} {at' : Int} {bs : List UInt8} (h1 : 0 ≤ at' ∧ at' < 2048) (h2 : bs.length ≤ 64) (h4 : D.ar = true ∧ D.lf = 0) : D.write at' bs = (4, { D with dn := true }) := by
  rw [DS.write, if_neg (by omega), if_pos (.inr h4)]
theorem putD_read (D : DS) (at' : Int) (bs : List UInt8) (j : Int) : (putD D at' bs).read j = if j = at' then padS bs else D.read j := readN_add _ _ _ _
theorem putD_ok {D : DS} (h : D.Ok) {at' : Int} {bs : List UInt8} (h2 : bs.length ≤ 64) (h4 : D.ar = false ∨ 0 < D.lf) : (putD D at' bs).Ok := by
  refine ⟨h.s, h.ws.add _ (padS_len h2), ?_⟩
  have := h.lf
  show 0 ≤ (if D.ar = true then D.lf - 1 else D.lf) ∧ (if D.ar = true then D.lf - 1 else D.lf) ≤ 9223372036854775807
  split
  · rename_i h5
    rcases h4 with h4 | h4
    · rw [h4] at h5; cases h5
    · omega
  · exact this
theorem putD_in {D : DS} (h : Wal.DS.In D) {at' : Int} {bs : List UInt8} (h1 : 0 ≤ at' ∧ at' < 2048) : Wal.DS.In (putD D at' bs) := ⟨h.1, fun p hp => by
  rcases List.mem_append.1 hp with hp | hp
  · exact h.2 p hp
  · simp only [List.mem_singleton] at hp; subst hp; exact h1⟩
theorem In.put {s : Secs} (h : In s) {k : Int} {v : Sec} (h1 : 0 ≤ k ∧ k < 2048) : In (sput s k v) := by
  induction s with
  | nil => intro p hp; simp only [sput, List.mem_singleton] at hp; subst hp; exact h1
  | cons p s ih =>
    obtain ⟨a, b⟩ := p
    intro q hq
    simp only [sput] at hq
    split at hq
    · rcases List.mem_cons.1 hq with rfl | hq
      · exact h (a, b) (by simp)
      · exact h q (by simp [hq])
    · rcases List.mem_cons.1 hq with rfl | hq
      · exact h (a, b) (by simp)
      · exact ih (fun q hq => h q (by simp [hq])) q hq
theorem In.lay {s ws : Secs} (h : In s) (hw : In ws) : ∀ k, k ≤ ws.length → In (layN s ws k)
  | 0, _ => h
  | k + 1, hk => by
    have := hw (wat ws k) (by rw [wat_eq (by omega)]; exact List.getElem_mem _)
    exact (In.lay h hw k (by omega)).put this
theorem In.nil : In [] := fun _ h => absurd h (by simp)
/-- A disk that takes what it is told. -/
structure Calm (D : DS) : Prop where
  ok : D.Ok
  inn : Wal.DS.In D
  ar : D.ar = false
  dn : D.dn = false
theorem Calm.new : Calm DS.new := ⟨DS.new_ok, ⟨In.nil, In.nil⟩, rfl, rfl⟩
theorem sync_read {D : DS} (h : D.dn = false) (j : Int) : D.sync.2.read j = D.read j := by
  unfold DS.sync
  rw [if_neg (by simp [h])]
  exact sget_lay _ _ _ _
theorem sync_zero {D : DS} (h : D.dn = false) : D.sync.1 = 0 ∧ D.sync.2.ws = [] ∧ D.sync.2.dn = false ∧ D.sync.2.ar = D.ar ∧ D.sync.2.lf = D.lf := by
  unfold DS.sync
  rw [if_neg (by simp [h])]
  exact ⟨rfl, rfl, h, rfl, rfl⟩
theorem sync_in {D : DS} (h : Wal.DS.In D) : Wal.DS.In D.sync.2 := by
  unfold DS.sync
  split
  · exact h
  · exact ⟨h.1.lay h.2 _ (Nat.le_refl _), In.nil⟩
theorem Calm.sync {D : DS} (h : Calm D) : Calm D.sync.2 := by
  obtain ⟨_, _, h3, h4, _⟩ := sync_zero h.dn
  exact ⟨DS.sync_ok h.ok, sync_in h.inn, h4.trans h.ar, h3⟩
theorem Calm.put {D : DS} (h : Calm D) {at' : Int} {bs : List UInt8} (h1 : 0 ≤ at' ∧ at' < 2048) (h2 : bs.length ≤ 64) : Calm (putD D at' bs) := ⟨putD_ok h.ok h2 (.inl h.ar), putD_in h.inn h1, h.ar, rfl⟩
theorem padS_nil : padS [] = zs := rfl

/-! ### Wiping -/
theorem wipe_spec : ∀ (n : Nat) (at' : Int) (D : DS), Calm D → 0 ≤ at' → at' + n ≤ 2048 → ∃ D', wipeP n at' D = (0, D') ∧ Calm D' ∧ ∀ j, D'.read j = if at' ≤ j ∧ j < at' + n then zs else D.read j
  | 0, at', D, h, _, _ => ⟨D, rfl, h, fun j => by rw [if_neg (by omega)]⟩
  | n + 1, at', D, h, h0, h1 => by
    by_cases hz : D.read at' = zs
    · obtain ⟨D', e, c, r⟩ := wipe_spec n (at' + 1) D h (by omega) (by omega)
      refine ⟨D', by rw [wipeP, if_pos hz, e], c, fun j => ?_⟩
      rw [r j]
      by_cases q : j = at'
      · subst q; rw [if_neg (by omega), if_pos (by omega), hz]
      · by_cases q2 : at' + 1 ≤ j ∧ j < at' + 1 + n
        · rw [if_pos q2, if_pos (by omega)]
        · rw [if_neg q2, if_neg (by omega)]
    · have hw := write_putD (D := D) (at' := at') (bs := []) (by omega) (by simp) h.dn (.inl h.ar)
      obtain ⟨D', e, c, r⟩ := wipe_spec n (at' + 1) (putD D at' []) (h.put (by omega) (by simp)) (by omega) (by omega)
      refine ⟨D', by rw [wipeP, if_neg hz, hw, if_pos rfl, e], c, fun j => ?_⟩
      rw [r j, putD_read, padS_nil]
      by_cases q : j = at'
      · subst q; rw [if_neg (by omega), if_pos rfl, if_pos (by omega)]
      · rw [if_neg q]
        by_cases q2 : at' + 1 ≤ j ∧ j < at' + 1 + n
        · rw [if_pos q2, if_pos (by omega)]
        · rw [if_neg q2, if_neg (by omega)]
theorem scan_used {D : DS} (h : Calm D) : 0 ≤ (scanP D.read fuel0 0 0).2 ∧ (scanP D.read fuel0 0 0).2 ≤ 2048 ∧ ((scanP D.read fuel0 0 0).1.length : Int) ≤ (scanP D.read fuel0 0 0).2 := by
  have key : ∀ f rs used, Scan D f rs used → ∃ rs' used', scanP D.read fuel0 0 0 = (rs', used') ∧ 0 ≤ used' ∧ used' ≤ 2048 ∧ (rs'.length : Int) ≤ used' := by
    intro f
    induction f with
    | zero =>
      intro rs used hs
      cases hst : standsP D.read ((rs.length : Int) + 1) used with
      | none => exact ⟨rs, used, hs.stop hst, hs.2.1, hs.2.2.1, hs.2.2.2.2⟩
      | some p => obtain ⟨b, all⟩ := p; obtain ⟨f', e, _⟩ := Scan.next h.inn h.ok hs hst; omega
    | succ f ih =>
      intro rs used hs
      cases hst : standsP D.read ((rs.length : Int) + 1) used with
      | none => exact ⟨rs, used, hs.stop hst, hs.2.1, hs.2.2.1, hs.2.2.2.2⟩
      | some p =>
        obtain ⟨b, all⟩ := p
        obtain ⟨f', e, hs'⟩ := Scan.next h.inn h.ok hs hst
        obtain rfl : f = f' := by omega
        exact ih _ _ hs'
  obtain ⟨rs, used, e, h1, h2, h3⟩ := key _ _ _ (Scan.start D)
  rw [e]; exact ⟨h1, h2, h3⟩
/-- Open, on a disk that takes what it is told. -/
theorem open_calm {D : DS} (h : Calm D) : ∃ D', openP D = ⟨0, (scanP D.read fuel0 0 0).1, (scanP D.read fuel0 0 0).2, D'⟩ ∧ Calm D' ∧ D'.ws = [] ∧ ∀ j, D'.read j = if (scanP D.read fuel0 0 0).2 ≤ j ∧ j < 2048 then zs else D.read j := by
  obtain ⟨h1, h2, _⟩ := scan_used h
  generalize hr : scanP D.read fuel0 0 0 = r at *
  obtain ⟨rs, used⟩ := r
  simp only at h1 h2 ⊢
  obtain ⟨D', e, c, rd⟩ := wipe_spec (2048 - used).toNat used D h h1 (by omega)
  obtain ⟨s1, s2, _⟩ := sync_zero c.dn
  refine ⟨D'.sync.2, open_ok hr e s1, c.sync, s2, fun j => ?_⟩
  rw [sync_read c.dn, rd j]
  by_cases q : used ≤ j ∧ j < 2048
  · rw [if_pos q, if_pos (by omega)]
  · rw [if_neg q, if_neg (by omega)]

/-! ### Records laid -/
def flatS : Nat → List (List UInt8) → List Sec
  | _, [] => []
  | n, b :: ls => sectorsP ((n + 1 : Nat) : Int) b ++ flatS (n + 1) ls
def sizeS (ls : List (List UInt8)) : Nat := (flatS 0 ls).length
theorem flatS_append : ∀ (a : List (List UInt8)) (n : Nat) (b : List (List UInt8)), flatS n (a ++ b) = flatS n a ++ flatS (n + a.length) b
  | [], n, b => by simp [flatS]
  | x :: a, n, b => by
    simp only [List.cons_append, flatS, flatS_append a (n + 1) b, List.append_assoc, List.length_cons]
    rw [show n + 1 + a.length = n + (a.length + 1) by omega]
theorem flatS_len : ∀ (ls : List (List UInt8)) (n m : Nat), (flatS n ls).length = (flatS m ls).length
  | [], _, _ => rfl
  | b :: ls, n, m => by simp only [flatS, List.length_append, sectorsP_len, flatS_len ls (n + 1) (m + 1)]
theorem sizeS_add (ls : List (List UInt8)) (b : List UInt8) : sizeS (ls ++ [b]) = sizeS ls + piecesN b.length := by
  simp [sizeS, flatS_append, flatS, sectorsP_len]
theorem sizeS_ge : ∀ ls : List (List UInt8), ls.length ≤ sizeS ls
  | [] => Nat.le_refl _
  | b :: ls => by
    have h1 := sizeS_ge ls
    have h2 := piecesN_pos b.length
    have h3 := flatS_len ls 1 0
    simp only [sizeS, flatS, List.length_append, sectorsP_len, List.length_cons, h3] at *
    omega
theorem sectorsP_get {number : Int} {b : List UInt8} {k : Nat} (h : k < (sectorsP number b).length) : (sectorsP number b)[k] = sectP number k (piecesN b.length) (partP b k) := by simp [sectorsP]
theorem sectorsP_sec (number : Int) (b : List UInt8) : ∀ s ∈ sectorsP number b, s.length = 64 := fun s hs => by
  obtain ⟨i, _, rfl⟩ := List.mem_map.1 hs
  exact sectP_len (partP_len b i)
theorem piece_sect {number : Int} {b : List UInt8} {k : Nat} (h : k < (sectorsP number b).length) (h0 : 0 ≤ number) (h1 : number < 4294967296) (hb : b.length ≤ 3000) : pieceP (sectorsP number b)[k] number k = some (partP b k, ((piecesN b.length : Nat) : Int)) := by
  rw [sectorsP_get h]
  rw [sectorsP_len] at h
  exact pieceP_sect (partP_len b k) h0 h1 h (by have := piecesN_le hb; omega)
theorem more_sect {rd : Int → Sec} {number at' : Int} {b : List UInt8} (h0 : 0 ≤ number) (h1 : number < 4294967296) (hb : b.length ≤ 3000) : ∀ k, k ≤ piecesN b.length → (∀ j (h : j < (sectorsP number b).length), j < k → rd (at' + j) = (sectorsP number b)[j]) →
    moreP rd number at' ((piecesN b.length : Nat) : Int) k = some ((List.range k).map (partP b)).flatten
  | 0, _, _ => rfl
  | k + 1, hk, h => by
    have ih := more_sect h0 h1 hb k (by omega) (fun j hj hj2 => h j hj (by omega))
    have hl : k < (sectorsP number b).length := by rw [sectorsP_len]; omega
    rw [moreP_go ih (by rw [h k hl (by omega)]; exact piece_sect hl h0 h1 hb)]
    simp [List.range_succ]
theorem stands_sect {rd : Int → Sec} {number at' : Int} {b : List UInt8} (h0 : 0 ≤ number) (h1 : number < 4294967296) (hb : b.length ≤ 3000) (h : ∀ j (h : j < (sectorsP number b).length), rd (at' + j) = (sectorsP number b)[j]) : standsP rd number at' = some (b, ((piecesN b.length : Nat) : Int)) := by
  have hl : 0 < (sectorsP number b).length := by rw [sectorsP_len]; exact piecesN_pos _
  have hp : pieceP (rd at') number 0 = some (partP b 0, ((piecesN b.length : Nat) : Int)) := by
    have e := h 0 hl
    rw [show at' + ((0 : Nat) : Int) = at' by omega] at e
    rw [e]; exact piece_sect hl h0 h1 hb
  refine standsP_some hp ?_
  rw [Int.toNat_natCast, more_sect h0 h1 hb _ (Nat.le_refl _) (fun j hj _ => h j hj), parts_all b _ (piecesN_cover _)]
/-- Sectors as they are laid. -/
def Shows (rd : Int → Sec) (at' : Int) (l : List Sec) : Prop := ∀ j (h : j < l.length), rd (at' + j) = l[j]
theorem Shows.left {rd : Int → Sec} {at' : Int} {a b : List Sec} (h : Shows rd at' (a ++ b)) : Shows rd at' a := fun j hj => by
  rw [h j (by rw [List.length_append]; omega), List.getElem_append_left hj]
theorem Shows.right {rd : Int → Sec} {at' : Int} {a b : List Sec} (h : Shows rd at' (a ++ b)) : Shows rd (at' + a.length) b := fun j hj => by
  have := h (a.length + j) (by rw [List.length_append]; omega)
  rw [show at' + ((a.length + j : Nat) : Int) = at' + a.length + j by omega] at this
  rw [this, List.getElem_append_right (by omega)]
  congr 1; omega
theorem scan_log {rd : Int → Sec} : ∀ (ls : List (List UInt8)) (n : Nat) (at' : Int) (f : Nat), (∀ b ∈ ls, b.length ≤ 3000) → n + ls.length < 4294967296 → Shows rd at' (flatS n ls) →
    scanP rd (ls.length + f) n at' = (ls ++ (scanP rd f ((n + ls.length : Nat) : Int) (at' + (flatS n ls).length)).1, (scanP rd f ((n + ls.length : Nat) : Int) (at' + (flatS n ls).length)).2)
  | [], n, at', f, _, _, _ => by simp [flatS]
  | b :: ls, n, at', f, hl, hn, h => by
    simp only [flatS] at h ⊢
    simp only [List.length_cons] at hn ⊢
    have hs := stands_sect (rd := rd) (number := ((n + 1 : Nat) : Int)) (at' := at') (by omega) (by omega) (hl b (by simp)) h.left
    have ih := scan_log (rd := rd) ls (n + 1) (at' + (sectorsP ((n + 1 : Nat) : Int) b).length) f (fun x hx => hl x (by simp [hx])) (by omega) h.right
    rw [sectorsP_len] at ih
    rw [show ls.length + 1 + f = (ls.length + f) + 1 by omega, scan_go (b := b) (all := ((piecesN b.length : Nat) : Int)) (by rw [← hs]; congr 1)]
    rw [show ((n : Nat) : Int) + 1 = ((n + 1 : Nat) : Int) by omega, ih]
    rw [List.length_append, sectorsP_len, show n + 1 + ls.length = n + (ls.length + 1) by omega, show at' + ((piecesN b.length + (flatS (n + 1) ls).length : Nat) : Int) = at' + ((piecesN b.length : Nat) : Int) + (((flatS (n + 1) ls).length : Nat) : Int) by omega]
    simp
/-- A disk on which these records stand, and nothing else. -/
structure LogD (D : DS) (ls : List (List UInt8)) : Prop where
  ok : D.Ok
  inn : Wal.DS.In D
  ws : D.ws = []
  short : ∀ b ∈ ls, b.length ≤ 3000
  room : sizeS ls ≤ 2048
  shows : Shows D.read 0 (flatS 0 ls)
  zero : ∀ j, ((sizeS ls : Nat) : Int) ≤ j → D.read j = zs
theorem LogD.len {D : DS} {ls : List (List UInt8)} (h : LogD D ls) : ls.length ≤ 2048 := by have := sizeS_ge ls; have := h.room; omega
theorem stands_zs {rd : Int → Sec} {number at' : Int} (h : (rd at').getD 63 0 ≠ 1) : standsP rd number at' = none := standsP_none1 (pieceP_end h)
theorem zs_end : zs.getD 63 0 ≠ 1 := by decide
theorem LogD.scan {D : DS} {ls : List (List UInt8)} (h : LogD D ls) : scanP D.read fuel0 0 0 = (ls, ((sizeS ls : Nat) : Int)) := by
  have hl := h.len
  obtain ⟨f, hf⟩ : ∃ f, fuel0 = ls.length + f := ⟨fuel0 - ls.length, by rw [fuel0_eq]; omega⟩
  have := scan_log (rd := D.read) ls 0 0 f h.short (by omega) h.shows
  rw [← hf] at this
  rw [show ((0 : Nat) : Int) = 0 from rfl] at this
  have hz := h.zero _ (Int.le_refl _)
  simp only [sizeS] at hz
  rw [this, Int.zero_add, scan_stop (stands_zs (by rw [hz]; exact zs_end))]
  simp [sizeS]
theorem LogD.new : LogD DS.new [] := ⟨DS.new_ok, ⟨In.nil, In.nil⟩, rfl, fun _ h => absurd h (by simp), by decide, fun j h => absurd h (by simp [flatS]), fun j _ => rfl⟩
/-- Open leaves such a disk as it is. -/
theorem LogD.open {D : DS} {ls : List (List UInt8)} (h : LogD D ls) (ha : D.ar = false) (hd : D.dn = false) : ∃ D', openP D = ⟨0, ls, ((sizeS ls : Nat) : Int), D'⟩ ∧ LogD D' ls ∧ D'.ar = false ∧ D'.dn = false := by
  obtain ⟨D', e, c, hw, hr⟩ := open_calm (D := D) ⟨h.ok, h.inn, ha, hd⟩
  rw [h.scan] at e hr
  have hrd : ∀ j, D'.read j = D.read j := fun j => by
    rw [hr j]
    split
    · rename_i q; rw [h.zero j q.1]
    · rfl
  exact ⟨D', e, ⟨c.ok, c.inn, hw, h.short, h.room, fun j hj => by rw [hrd]; exact h.shows j hj, fun j hj => by rw [hrd]; exact h.zero j hj⟩, c.ar, c.dn⟩
/-! ### Put -/
def wsec : Int → List Sec → Secs
  | _, [] => []
  | at', s :: ss => (at', s) :: wsec (at' + 1) ss
theorem wsec_len : ∀ (ss : List Sec) (at' : Int), (wsec at' ss).length = ss.length
  | [], _ => rfl
  | s :: ss, at' => by simp [wsec, wsec_len ss]
theorem wat_wsec : ∀ (ss : List Sec) (at' : Int) (k : Nat) (h : k < ss.length), wat (wsec at' ss) k = (at' + k, ss[k])
  | s :: ss, at', 0, _ => by simp [wsec, wat]
  | s :: ss, at', k + 1, h => by
    have ih := wat_wsec ss (at' + 1) k (by simpa using h)
    simp only [wat, wsec, List.getD_cons_succ] at ih ⊢
    rw [ih]
    simp only [List.getElem_cons_succ, Prod.mk.injEq, and_true]
    omega
theorem padS_full {s : Sec} (h : s.length = 64) : padS s = s := by simp [padS, h]
theorem writes_spec : ∀ (ss : List Sec) (at' : Int) (D : DS), D.Ok → Wal.DS.In D → D.dn = false → 0 ≤ at' → at' + ss.length ≤ 2048 → (∀ s ∈ ss, s.length = 64) →
    ∃ (m : Nat) (D' : DS), m ≤ ss.length ∧ writesP ss at' D = ((if m = ss.length then 0 else 4), D') ∧ D'.Ok ∧ Wal.DS.In D' ∧ D'.s = D.s ∧ D'.ws = D.ws ++ wsec at' (ss.take m) ∧ D'.dn = decide (m < ss.length) ∧ D'.ar = D.ar ∧ (D.ar = false → m = ss.length)
  | [], at', D, h, hi, hd, _, _, _ => ⟨0, D, Nat.le_refl _, rfl, h, hi, rfl, by simp [wsec], by simp [hd], rfl, fun _ => rfl⟩
  | s :: ss, at', D, h, hi, hd, h0, h1, hs => by
    simp only [List.length_cons] at h1
    have hs1 := hs s (by simp)
    by_cases hc : D.ar = true ∧ D.lf = 0
    · have hw := write_down (D := D) (at' := at') (bs := s) (by omega) (by omega) hc
      refine ⟨0, { D with dn := true }, Nat.zero_le _, ?_, ⟨h.s, h.ws, h.lf⟩, hi, rfl, by simp [wsec], by simp, rfl, fun q => by rw [q] at hc; cases hc.1⟩
      rw [writesP, hw]; simp
    · have h4 : D.ar = false ∨ 0 < D.lf := by
        have := h.lf
        cases q : D.ar
        · exact .inl rfl
        · right
          have : D.lf ≠ 0 := fun e => hc ⟨q, e⟩
          omega
      have hw := write_putD (D := D) (at' := at') (bs := s) (by omega) (by omega) hd h4
      obtain ⟨m, D', a1, a2, a3, a4, a5, a6, a7, a8, a9⟩ := writes_spec ss (at' + 1) (putD D at' s) (putD_ok h (by omega) h4) (putD_in hi (by omega)) rfl (by omega) (by omega) (fun x hx => hs x (by simp [hx]))
      refine ⟨m + 1, D', by simp; omega, ?_, a3, a4, a5.trans rfl, ?_, by rw [a7]; simp, a8.trans rfl, fun q => by rw [a9 q]; rfl⟩
      · rw [writesP, hw]
        simp only [if_true, a2, List.length_cons, Nat.add_right_cancel_iff]
      · rw [a6]
        simp only [putD, List.take_succ_cons, wsec, padS_full hs1, List.append_assoc, List.cons_append, List.nil_append]
theorem Shows.append {rd : Int → Sec} {at' : Int} {a b : List Sec} (h : Shows rd at' a) (g : Shows rd (at' + a.length) b) : Shows rd at' (a ++ b) := fun j hj => by
  by_cases q : j < a.length
  · rw [List.getElem_append_left q]; exact h j q
  · rw [List.getElem_append_right (by omega), ← g (j - a.length) (by rw [List.length_append] at hj; omega)]
    congr 1; omega
/-- What is read behind some writes one behind the other. -/
theorem read_wsec (s : Secs) (l : List Sec) (at' j : Int) : ∀ k, k ≤ l.length → readN s (wsec at' l) j k = if at' ≤ j ∧ j < at' + k then l.getD (j - at').toNat zs else sget s j
  | 0, _ => by rw [if_neg (by omega)]; rfl
  | k + 1, hk => by
    rw [readN, wat_wsec l at' k (by omega), read_wsec s l at' j k (by omega)]
    by_cases q : at' + k = j
    · rw [if_pos q, if_pos (by omega), show (j - at').toNat = k by omega]
      simp [List.getD_eq_getElem?_getD, show k < l.length by omega]
    · rw [if_neg q]
      by_cases q2 : at' ≤ j ∧ j < at' + k
      · rw [if_pos q2, if_pos (by omega)]
      · rw [if_neg q2, if_neg (by omega)]
/-- Some sectors of one more record are written, not sure. -/
structure Half (D : DS) (ls : List (List UInt8)) (bs : List UInt8) : Prop where
  ok : D.Ok
  inn : Wal.DS.In D
  short : ∀ b ∈ ls, b.length ≤ 3000
  short' : bs.length ≤ 3000
  room : sizeS ls + piecesN bs.length ≤ 2048
  shows : Shows (sget D.s) 0 (flatS 0 ls)
  zero : ∀ j, ((sizeS ls : Nat) : Int) ≤ j → sget D.s j = zs
  ws : ∃ m, m ≤ piecesN bs.length ∧ D.ws = wsec ((sizeS ls : Nat) : Int) ((sectorsP ((ls.length + 1 : Nat) : Int) bs).take m)
theorem LogD.rds {D : DS} {ls : List (List UInt8)} (h : LogD D ls) (j : Int) : D.read j = sget D.s j := by rw [DS.read, h.ws]; rfl
theorem put_spec {D : DS} {ls : List (List UInt8)} {bs : List UInt8} (h : LogD D ls) (hd : D.dn = false) (hb : bs.length ≤ 3000) :
    (2048 < sizeS ls + piecesN bs.length ∧ putL D ls.length ((sizeS ls : Nat) : Int) bs = ⟨3, ls.length, ((sizeS ls : Nat) : Int), D⟩) ∨
    (sizeS ls + piecesN bs.length ≤ 2048 ∧ ∃ D', putL D ls.length ((sizeS ls : Nat) : Int) bs = ⟨0, ls.length + 1, ((sizeS (ls ++ [bs]) : Nat) : Int), D'⟩ ∧ LogD D' (ls ++ [bs]) ∧ D'.dn = false ∧ D'.ar = D.ar) ∨
    (D.ar = true ∧ ∃ D', putL D ls.length ((sizeS ls : Nat) : Int) bs = ⟨4, ls.length, ((sizeS ls : Nat) : Int), D'⟩ ∧ Half D' ls bs) := by
  have hl := h.len
  have hp := piecesN_le hb
  by_cases hr : 2048 < sizeS ls + piecesN bs.length
  · exact .inl ⟨hr, put_full (by omega) (by omega)⟩
  · right
    have hss : (sectorsP ((ls.length + 1 : Nat) : Int) bs).length = piecesN bs.length := sectorsP_len _ _
    obtain ⟨m, D', a1, a2, a3, a4, a5, a6, a7, a8, a9⟩ := writes_spec (sectorsP ((ls.length + 1 : Nat) : Int) bs) ((sizeS ls : Nat) : Int) D h.ok h.inn hd (by omega) (by rw [hss]; omega) (sectorsP_sec _ _)
    rw [hss] at a1 a2 a7 a9
    rw [h.ws, List.nil_append] at a6
    by_cases hm : m = piecesN bs.length
    · left
      subst hm
      rw [if_pos rfl] at a2
      have hdn : D'.dn = false := by rw [a7]; simp
      obtain ⟨s1, s2, s3, s4, s5⟩ := sync_zero hdn
      rw [List.take_of_length_le (by rw [hss]; exact Nat.le_refl _)] at a6
      have hrd : ∀ j, D'.sync.2.read j = if ((sizeS ls : Nat) : Int) ≤ j ∧ j < ((sizeS ls : Nat) : Int) + piecesN bs.length then (sectorsP ((ls.length + 1 : Nat) : Int) bs).getD (j - ((sizeS ls : Nat) : Int)).toNat zs else D.read j := fun j => by
        rw [sync_read hdn, DS.read, a6, wsec_len, read_wsec _ _ _ _ _ (Nat.le_refl _), hss, a5, h.rds]
      have hsz := sizeS_add ls bs
      refine ⟨by omega, D'.sync.2, ?_, ⟨DS.sync_ok a3, sync_in a4, s2, fun b hb' => ?_, by omega, ?_, fun j hj => ?_⟩, s3, s4.trans a8⟩
      · rw [put_ok (by omega) (by omega) a2 s1, hsz]
        simp only [PutR.mk.injEq, true_and, and_true]
        omega
      · rcases List.mem_append.1 hb' with hb' | hb'
        · exact h.short b hb'
        · simp only [List.mem_singleton] at hb'; subst hb'; exact hb
      · rw [flatS_append]
        refine Shows.append (fun j hj => ?_) fun j hj => ?_
        · rw [hrd, if_neg (by simp only [sizeS]; omega)]; exact h.shows j hj
        · simp only [flatS, List.append_nil, Nat.zero_add] at hj ⊢
          rw [hrd, if_pos (by simp only [sizeS]; rw [hss] at hj; omega), show (0 + (((flatS 0 ls).length : Nat) : Int) + (j : Int) - ((sizeS ls : Nat) : Int)).toNat = j by simp only [sizeS]; omega]
          rw [List.getD_eq_getElem?_getD, List.getElem?_eq_getElem hj]; rfl
      · rw [hrd, if_neg (by omega)]
        exact h.zero j (by omega)
    · right
      have har : D.ar = true := by
        cases q : D.ar
        · exact absurd (a9 q) hm
        · rfl
      rw [if_neg hm] at a2
      refine ⟨har, D', put_fail1 (by omega) (by omega) a2 (by decide), ⟨a3, a4, h.short, hb, by omega, fun j hj => ?_, fun j hj => ?_, m, a1, a6⟩⟩
      · rw [a5, ← h.rds]; exact h.shows j hj
      · rw [a5, ← h.rds]; exact h.zero j hj
end Wal
end
