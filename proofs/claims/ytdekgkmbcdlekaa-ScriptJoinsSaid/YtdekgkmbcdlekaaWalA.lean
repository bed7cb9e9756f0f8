/-
  Sums and logs, walked.
-/

import Derived.Test.YtdekgkmbcdlekaaDiskA
import Derived.Test.YtdekgkmbcdlekaaWalP
import Derived.Test.YtdekgkmbcdlekaaLegS

namespace Go.Proofs.Ytdekgkmbcdlekaa

open Go Leg Codec Api Dsk Wal

set_option maxRecDepth 100000

theorem of_does (x : Value) (ps : List (List UInt8)) :
    Does Try.prog 76 #[x] (IsBB x ps) [] (Ret (fun v H => v = .int .u32 (crcOf ps.flatten) ∧ H = [])) := by
  refine Does.body (vs := [x]) (n := 39) Try.func76 rfl rfl rfl (fun w0 F hF => ?_)
  refine TC.seq (fun K1 hK1 => ?_)
  refine TC.region ?_
  refine TL.v (Want.plain rfl) rfl rfl (PV.assign rfl rfl) ?_
  refine TL.nil ?_
  refine TE.next hK1 ?_
  clear hK1
  refine TC.seq (fun K2 hK2 => ?_)
  refine TC.region ?_
  refine TL.v (Want.plain rfl) rfl rfl (PV.assign rfl rfl) ?_
  refine TL.nil ?_
  refine TE.next hK2 ?_
  clear hK2
  refine TC.seq (fun K3 hK3 => ?_)
  refine TC.seq (fun K4 hK4 => ?_)
  refine TC.region ?_
  refine TL.v (Want.plain rfl) rfl rfl (PV.move rfl rfl) ?_
  refine TL.v (Want.plain rfl) rfl rfl (PV.lenV rfl Try.underlying138 rfl hF.len) ?_
  refine TL.v (Want.plain rfl) rfl rfl (PV.move rfl rfl) ?_
  refine TL.nil ?_
  refine TE.next hK4 ?_
  clear hK4
  refine TC.block ?_
  refine TC.loop (α := (Nat)) (fun k => k ≤ ps.length) (fun k => [(2, (.int .u32 0)), (3, (.int .u32 (crcRun 4294967295 (ps.take k).flatten))), (8, x), (9, (.int .i64 (((ps.length : Nat) : Int)))), (10, (.int .i64 (((k : Nat) : Int))))]) (fun k => []) (fun k => ps.length - k) 0
      (Nat.zero_le _) (Sub.r (Sub.cons rfl (by congr 1) (Sub.r (Sub.r (Sub.cons rfl (by congr 1) (Sub.nil _))))))
      (fun _ s => s) (fun k hinv => ?_)
  obtain hk := hinv
  refine TC.seq (fun K5 hK5 => ?_)
  refine TC.region ?_
  refine TL.v (Want.plain rfl) rfl rfl (PV.lss rfl rfl rfl) ?_
  refine TL.dec (fun h11 => ?_) (fun h11 => ?_)
  · skip
    obtain ⟨b_a, off_a, cap_a, cs_a, T_a, z_a, us_a, hv_a, hc_a, hb_a, hl_a, hs_a, hE_a⟩ := IsL.at hF (j := k) (by omega)
    obtain ⟨u_a, rfl, hu_a⟩ := hE_a
    refine TL.nil ?_
    refine TE.next hK5 ?_
    clear hK5
    refine TC.seq (fun K6 hK6 => ?_)
    refine TC.yes rfl ?_
    refine TC.skip ?_
    refine TE.next hK6 ?_
    clear hK6
    refine TC.seq (fun K7 hK7 => ?_)
    refine TC.block ?_
    refine TC.seq (fun K8 hK8 => ?_)
    refine TC.region ?_
    refine TL.v (Want.plain rfl) rfl rfl (PV.indexSlV (r := off_a + k) hv_a rfl Try.underlying138 sz27 rfl rfl (by omega) (by omega) (by omega)) ?_
    refine TL.v (Want.plain rfl) rfl rfl (PV.load1X (v := u_a) rfl Try.underlying27 rfl rfl (RdX.frm hb_a (fun _ h => Frm.of h)) (by have := stretch_get (j := 0) hs_a rfl; simpa using this)) ?_
    refine TL.v (Want.plain rfl) rfl rfl (PV.assign rfl rfl) ?_
    refine TL.nil ?_
    refine TE.next hK8 ?_
    clear hK8
    refine TC.seq (fun K9 hK9 => ?_)
    refine TC.region ?_
    refine TL.v (Want.plain rfl) rfl rfl (PV.move rfl rfl) ?_
    refine TL.v (Want.plain rfl) rfl rfl (PV.lenV rfl Try.underlying27 rfl hu_a.len) ?_
    refine TL.v (Want.plain rfl) rfl rfl (PV.move rfl rfl) ?_
    refine TL.nil ?_
    refine TE.next hK9 ?_
    clear hK9
    refine TC.block ?_
    refine TC.loop (α := (Nat)) (fun j => j ≤ ps[k].length) (fun j => [(2, (.int .u32 0)), (3, (.int .u32 (crcRun (crcRun 4294967295 (ps.take k).flatten) (ps[k].take j)))), (8, x), (9, (.int .i64 (((ps.length : Nat) : Int)))), (10, (.int .i64 (((k : Nat) : Int)))), (14, u_a), (15, (.int .i64 (((ps[k].length : Nat) : Int)))), (16, (.int .i64 (((j : Nat) : Int))))]) (fun j => []) (fun j => ps[k].length - j) 0
        (Nat.zero_le _) (Sub.r (Sub.cons rfl (by congr 1) (Sub.r (Sub.r (Sub.r (Sub.r (Sub.r (Sub.cons rfl (by congr 1) (Sub.nil _)))))))))
        (fun _ s => s) (fun j hinv => ?_)
    obtain hj := hinv
    refine TC.seq (fun K10 hK10 => ?_)
    refine TC.region ?_
    refine TL.v (Want.plain rfl) rfl rfl (PV.lss rfl rfl rfl) ?_
    refine TL.dec (fun h17 => ?_) (fun h17 => ?_)
    · skip
      obtain ⟨b_b, off_b, cap_b, cs_b, T_b, z_b, hv_b, hb_b, hcs_b, hcp_b⟩ := IsW.at hu_a (j := j) (by omega)
      have hlt_b := IsW.lt hu_a
      refine TL.nil ?_
      refine TE.next hK10 ?_
      clear hK10
      refine TC.seq (fun K11 hK11 => ?_)
      refine TC.yes rfl ?_
      refine TC.skip ?_
      refine TE.next hK11 ?_
      clear hK11
      refine TC.seq (fun K12 hK12 => ?_)
      refine TC.block ?_
      refine TC.seq (fun K13 hK13 => ?_)
      refine TC.region ?_
      refine TL.v (Want.plain rfl) rfl rfl (PV.indexSlV (r := off_b + j) hv_b rfl Try.underlying27 sz5 rfl rfl (by omega) (by omega) (by omega)) ?_
      refine TL.v (Want.plain rfl) rfl rfl (PV.load1X (v := (.int .u8 (((((ps[k]).getD j 0).toNat : Nat) : Int)))) rfl Try.underlying5 rfl rfl (RdX.frm hb_b (fun _ h => Frm.of h)) (hcs_b j (by omega))) ?_
      refine TL.v (Want.plain rfl) rfl rfl (PV.assign rfl rfl) ?_
      refine TL.nil ?_
      refine TE.next hK13 ?_
      clear hK13
      refine TC.seq (fun K14 hK14 => ?_)
      refine TC.region ?_
      refine TL.v (Want.plain rfl) rfl rfl (PV.move rfl rfl) ?_
      refine TL.v (Want.plain rfl) rfl rfl (PV.move rfl rfl) ?_
      refine TL.v (Want.plain rfl) rfl rfl (PV.convI (r := ((((ps[k]).getD j 0).toNat : Nat) : Int)) rfl Try.underlying5 Try.underlying175 rfl (wrap_u32 (by omega) (by have := (ps[k].getD j 0).toNat_lt; omega))) ?_
      refine TL.v (Want.plain rfl) rfl rfl (PV.xor (r := xorI .u32 (crcRun (crcRun 4294967295 (ps.take k).flatten) (ps[k].take j)) (((((ps[k]).getD j 0).toNat : Nat) : Int))) rfl rfl rfl rfl) ?_
      refine TL.v (Want.plain rfl) rfl rfl (PV.assign rfl rfl) ?_
      refine TL.nil ?_
      refine TE.next hK14 ?_
      clear hK14
      refine TC.seq (fun K15 hK15 => ?_)
      refine TC.region ?_
      refine TL.v (Want.plain rfl) rfl rfl (PV.move rfl rfl) ?_
      refine TL.nil ?_
      refine TE.next hK15 ?_
      clear hK15
      refine TC.block ?_
      refine TC.loop (α := (Nat)) (fun i => i ≤ 8) (fun i => [(2, (.int .u32 0)), (3, (.int .u32 (crcBits (xorI .u32 (crcRun (crcRun 4294967295 (ps.take k).flatten) (ps[k].take j)) ((((ps[k]).getD j 0).toNat : Nat) : Int)) i))), (8, x), (9, (.int .i64 (((ps.length : Nat) : Int)))), (10, (.int .i64 (((k : Nat) : Int)))), (14, u_a), (15, (.int .i64 (((ps[k].length : Nat) : Int)))), (16, (.int .i64 (((j : Nat) : Int)))), (24, (.int .i64 (((i : Nat) : Int))))]) (fun i => []) (fun i => 8 - i) 0
          (Nat.zero_le _) (Sub.r (Sub.cons rfl (by congr 1) (Sub.r (Sub.r (Sub.r (Sub.r (Sub.r (Sub.r (Sub.cons rfl (by congr 1) (Sub.nil _))))))))))
          (fun _ s => s) (fun i hinv => ?_)
      obtain hi := hinv
      refine TC.seq (fun K16 hK16 => ?_)
      refine TC.region ?_
      refine TL.v (Want.plain rfl) rfl rfl (PV.lss rfl rfl rfl) ?_
      refine TL.dec (fun h25 => ?_) (fun h25 => ?_)
      · skip
        refine TL.nil ?_
        refine TE.next hK16 ?_
        clear hK16
        refine TC.seq (fun K17 hK17 => ?_)
        refine TC.yes rfl ?_
        refine TC.skip ?_
        refine TE.next hK17 ?_
        clear hK17
        refine TC.seq (fun K18 hK18 => ?_)
        refine TC.block ?_
        refine TC.seq (fun K19 hK19 => ?_)
        refine TC.region ?_
        refine TL.v (Want.plain rfl) rfl rfl (PV.move rfl rfl) ?_
        refine TL.v (Want.plain rfl) rfl rfl (PV.and (r := andI .u32 (crcBits (xorI .u32 (crcRun (crcRun 4294967295 (ps.take k).flatten) (ps[k].take j)) ((((ps[k]).getD j 0).toNat : Nat) : Int)) i) 1) rfl rfl rfl rfl) ?_
        refine TL.v (Want.plain rfl) rfl rfl (PV.eql rfl rfl rfl) ?_
        refine TL.dec (fun h28 => ?_) (fun h28 => ?_)
        · skip
          refine TL.nil ?_
          refine TE.next hK19 ?_
          clear hK19
          refine TC.yes rfl ?_
          refine TC.region ?_
          refine TL.v (Want.plain rfl) rfl rfl (PV.move rfl rfl) ?_
          refine TL.v (Want.plain rfl) rfl rfl (PV.shr (r := (crcBits (xorI .u32 (crcRun (crcRun 4294967295 (ps.take k).flatten) (ps[k].take j)) ((((ps[k]).getD j 0).toNat : Nat) : Int)) i).fdiv 2) rfl rfl rfl (by omega) rfl) ?_
          refine TL.v (Want.plain rfl) rfl rfl (PV.xor (r := xorI .u32 ((crcBits (xorI .u32 (crcRun (crcRun 4294967295 (ps.take k).flatten) (ps[k].take j)) ((((ps[k]).getD j 0).toNat : Nat) : Int)) i).fdiv 2) 3988292384) rfl rfl rfl rfl) ?_
          refine TL.v (Want.plain rfl) rfl rfl (PV.assign rfl rfl) ?_
          refine TL.nil ?_
          refine TE.blockEnd ?_
          refine TE.next hK18 ?_
          clear hK18
          refine TC.region ?_
          refine TL.v (Want.plain rfl) rfl rfl (PV.add rfl rfl rfl (wrap_i64 (by omega) (by omega))) ?_
          refine TL.v (Want.plain rfl) rfl rfl (PV.move rfl rfl) ?_
          refine TL.nil ?_
          exact TE.round ((i + 1) : (Nat)) (by omega) (by show 8 - (i + 1) < 8 - i; omega)
            (Sub.r (Sub.cons rfl (congrArg (Value.int .u32) (by rw [crcBits, crcBit, if_pos h28])) (Sub.r (Sub.r (Sub.r (Sub.r (Sub.r (Sub.r (Sub.cons rfl (by simp) (Sub.nil _))))))))))
            (fun _ s => s)
        · skip
          refine TL.nil ?_
          refine TE.next hK19 ?_
          clear hK19
          refine TC.no rfl ?_
          refine TC.region ?_
          refine TL.v (Want.plain rfl) rfl rfl (PV.move rfl rfl) ?_
          refine TL.v (Want.plain rfl) rfl rfl (PV.shr (r := (crcBits (xorI .u32 (crcRun (crcRun 4294967295 (ps.take k).flatten) (ps[k].take j)) ((((ps[k]).getD j 0).toNat : Nat) : Int)) i).fdiv 2) rfl rfl rfl (by omega) rfl) ?_
          refine TL.v (Want.plain rfl) rfl rfl (PV.assign rfl rfl) ?_
          refine TL.nil ?_
          refine TE.blockEnd ?_
          refine TE.next hK18 ?_
          clear hK18
          refine TC.region ?_
          refine TL.v (Want.plain rfl) rfl rfl (PV.add rfl rfl rfl (wrap_i64 (by omega) (by omega))) ?_
          refine TL.v (Want.plain rfl) rfl rfl (PV.move rfl rfl) ?_
          refine TL.nil ?_
          exact TE.round ((i + 1) : (Nat)) (by omega) (by show 8 - (i + 1) < 8 - i; omega)
            (Sub.r (Sub.cons rfl (congrArg (Value.int .u32) (by rw [crcBits, crcBit, if_neg h28])) (Sub.r (Sub.r (Sub.r (Sub.r (Sub.r (Sub.r (Sub.cons rfl (by simp) (Sub.nil _))))))))))
            (fun _ s => s)
      · skip
        refine TL.nil ?_
        refine TE.next hK16 ?_
        clear hK16
        refine TC.seq (fun K20 hK20 => ?_)
        refine TC.no rfl ?_
        refine TC.exit ?_
        refine TE.pass ?_
        clear hK20
        refine TE.pass ?_
        refine TE.hit ?_
        refine TE.blockEnd ?_
        refine TE.next hK12 ?_
        clear hK12
        refine TC.region ?_
        refine TL.v (Want.plain rfl) rfl rfl (PV.add rfl rfl rfl (wrap_i64 (by omega) (by omega))) ?_
        refine TL.v (Want.plain rfl) rfl rfl (PV.move rfl rfl) ?_
        refine TL.nil ?_
        exact TE.round ((j + 1) : (Nat)) (by omega) (by show ps[k].length - (j + 1) < ps[k].length - j; omega)
          (Sub.r (Sub.cons rfl (congrArg (Value.int .u32) (by obtain rfl : i = 8 := (by omega); rw [crcRun_take (by omega)]; rfl)) (Sub.r (Sub.r (Sub.r (Sub.r (Sub.r (Sub.cons rfl (by simp) (Sub.nil _)))))))))
          (fun _ s => s)
    · skip
      refine TL.nil ?_
      refine TE.next hK10 ?_
      clear hK10
      refine TC.seq (fun K21 hK21 => ?_)
      refine TC.no rfl ?_
      refine TC.exit ?_
      refine TE.pass ?_
      clear hK21
      refine TE.pass ?_
      refine TE.hit ?_
      refine TE.blockEnd ?_
      refine TE.next hK7 ?_
      clear hK7
      refine TC.region ?_
      refine TL.v (Want.plain rfl) rfl rfl (PV.add rfl rfl rfl (wrap_i64 (by omega) (by omega))) ?_
      refine TL.v (Want.plain rfl) rfl rfl (PV.move rfl rfl) ?_
      refine TL.nil ?_
      exact TE.round ((k + 1) : (Nat)) (by omega) (by show ps.length - (k + 1) < ps.length - k; omega)
        (Sub.r (Sub.cons rfl (congrArg (Value.int .u32) (by rw [show j = ps[k].length by omega, List.take_length, crcRun_flat (by omega)])) (Sub.r (Sub.r (Sub.cons rfl (by simp) (Sub.nil _))))))
        (fun _ s => s)
  · skip
    refine TL.nil ?_
    refine TE.next hK5 ?_
    clear hK5
    refine TC.seq (fun K22 hK22 => ?_)
    refine TC.no rfl ?_
    refine TC.exit ?_
    refine TE.pass ?_
    clear hK22
    refine TE.pass ?_
    refine TE.hit ?_
    refine TE.next hK3 ?_
    clear hK3
    refine TC.seq (fun K23 hK23 => ?_)
    refine TC.region ?_
    refine TL.v (Want.plain rfl) rfl rfl (PV.move rfl rfl) ?_
    refine TL.v (Want.plain rfl) rfl rfl (PV.com (r := xorI .u32 4294967295 (crcRun 4294967295 (ps.take k).flatten)) rfl rfl rfl) ?_
    refine TL.v (Want.plain rfl) rfl rfl (PV.assign rfl rfl) ?_
    refine TL.nil ?_
    refine TE.next hK23 ?_
    clear hK23
    refine TC.ret ?_
    refine TE.weak (Sub.refl _) (fun _ s => sep_keep [] rfl s) ?_
    refine TE.ret1 rfl rfl ?_
    obtain rfl : k = ps.length := by omega
    rw [List.take_length]
    exact ⟨rfl, rfl⟩


theorem take_form (a : Option Addr) (c : Nat) (bs : List UInt8) (hc : bs.length ≤ c) (hb : bs.length ≤ 1000000000) :
    Does Try.prog 75 #[(.slice a bs.length c)] (IsW (.slice a bs.length c) bs) [] (Ret (fun v H => (takeP bs = none ∧ v = .tuple #[.slice none 0 0, .bool false] ∧ H = []) ∨ ∃ t u, takeP bs = some t ∧ v = .tuple #[u, .bool true] ∧ H = [ownB u t 5])) := by
  refine Does.body (vs := [(.slice a bs.length c)]) (n := 50) Try.func75 rfl rfl rfl (fun w0 F hF => ?_)
  refine TC.seq (fun K1 hK1 => ?_)
  refine TC.region ?_
  refine TL.v (Want.plain rfl) rfl rfl (PV.assign rfl rfl) ?_
  refine TL.v (Want.plain rfl) rfl rfl (PV.assign rfl rfl) ?_
  refine TL.nil ?_
  refine TE.next hK1 ?_
  clear hK1
  refine TC.seq (fun K2 hK2 => ?_)
  refine TC.seq (fun K3 hK3 => ?_)
  refine TC.region ?_
  refine TL.v (Want.plain rfl) rfl rfl (PV.move rfl rfl) ?_
  refine TL.v (Want.plain rfl) rfl rfl (PV.lenV rfl Try.underlying27 rfl ⟨_, _, rfl⟩) ?_
  refine TL.v (Want.plain rfl) rfl rfl (PV.lss rfl rfl rfl) ?_
  refine TL.dec (fun h9 => ?_) (fun h9 => ?_)
  · skip
    refine TL.nil ?_
    refine TE.next hK3 ?_
    clear hK3
    refine TC.yes rfl ?_
    refine TC.seq (fun K4 hK4 => ?_)
    refine TC.region ?_
    refine TL.v (Want.plain rfl) rfl rfl (PV.assign rfl rfl) ?_
    refine TL.v (Want.plain rfl) rfl rfl (PV.assign rfl rfl) ?_
    refine TL.nil ?_
    refine TE.next hK4 ?_
    clear hK4
    refine TC.ret ?_
    refine TE.passRet ?_
    clear hK2
    refine TE.weak (Sub.refl _) (fun _ s => sep_keep [] rfl s) ?_
    refine TE.ret2 rfl rfl rfl ?_
    exact .inl ⟨by rw [takeP, if_pos (by omega)], rfl, rfl⟩
  · skip
    have hT : IsW (cutLH (.slice a bs.length c) 0 (bs.length - 4)) (bs.take (bs.length - 4)) F := by have := hF.cut (lo := 0) (hi := bs.length - 4) (by omega) (by omega); simpa using this
    have hU : IsW (cutLH (.slice a bs.length c) (bs.length - 4) bs.length) (bs.drop (bs.length - 4)) F := by have := hF.cut (lo := bs.length - 4) (hi := bs.length) (by omega) (by omega); rwa [List.take_length] at this
    have hq : (bs.drop (bs.length - 4)).length = 4 := by rw [List.length_drop]; omega
    obtain ⟨b_b, off_b, cap_b, cs_b, T_b, z_b, hv_b, hb_b, hcs_b, hcp_b⟩ := IsW.at hU (j := 0) (by omega)
    have hlt_b := IsW.lt hU
    refine TL.nil ?_
    refine TE.next hK3 ?_
    clear hK3
    refine TC.no rfl ?_
    refine TC.skip ?_
    refine TE.next hK2 ?_
    clear hK2
    refine TC.seq (fun K5 hK5 => ?_)
    refine TC.draw (fun w => Frm F w ∧ True) mixedD rfl (fun _ s => ⟨Frm.of s, trivial⟩) ?_
    refine TD.take (i := 0) rfl (by kernel_rfl) (by kernel_rfl) (by kernel_rfl) (fun _ _ _ _ h => h) (Want.plain rfl) rfl rfl (PV.move rfl rfl) ?_
    refine TD.take (i := 1) rfl (by kernel_rfl) (by kernel_rfl) (by kernel_rfl) (fun _ _ _ _ h => h) (Want.plain rfl) rfl rfl (PV.move rfl rfl) ?_
    refine TD.take (i := 2) rfl (by kernel_rfl) (by kernel_rfl) (by kernel_rfl) (fun _ _ _ _ h => h) (Want.plain rfl) rfl rfl (PV.lenV rfl Try.underlying27 rfl ⟨_, _, rfl⟩) ?_
    refine TD.take (i := 3) rfl (by kernel_rfl) (by kernel_rfl) (by kernel_rfl) (fun _ _ _ _ h => h) (Want.plain rfl) rfl rfl (PV.sub (r := (((bs.length - 4 : Nat) : Nat) : Int)) rfl rfl rfl (by rw [show (((bs.length : Nat) : Int) - 4) = ((bs.length - 4 : Nat) : Int) by omega]; exact wrap_i64 (by omega) (by omega))) ?_
    refine TD.take (i := 4) rfl (by kernel_rfl) (by kernel_rfl) (by kernel_rfl) (fun _ _ _ _ h => h) (Want.plain rfl) rfl rfl (PV.sliceH (hi := bs.length - 4) rfl Try.underlying27 sz5 rfl rfl rfl (by omega)) ?_
    refine TD.take (i := 5) rfl (by kernel_rfl) (by kernel_rfl) (by kernel_rfl) (fun _ _ _ _ h => h) (Want.plain rfl) rfl rfl (PV.move rfl rfl) ?_
    refine TD.take (i := 6) rfl (by kernel_rfl) (by kernel_rfl) (by kernel_rfl) (fun _ _ _ _ h => h) (Want.plain rfl) rfl rfl (PV.move rfl rfl) ?_
    refine TD.take (i := 7) rfl (by kernel_rfl) (by kernel_rfl) (by kernel_rfl) (fun _ _ _ _ h => h) (Want.plain rfl) rfl rfl (PV.lenV rfl Try.underlying27 rfl ⟨_, _, rfl⟩) ?_
    refine TD.take (i := 8) rfl (by kernel_rfl) (by kernel_rfl) (by kernel_rfl) (fun _ _ _ _ h => h) (Want.plain rfl) rfl rfl (PV.sub (r := (((bs.length - 4 : Nat) : Nat) : Int)) rfl rfl rfl (by rw [show (((bs.length : Nat) : Int) - 4) = ((bs.length - 4 : Nat) : Int) by omega]; exact wrap_i64 (by omega) (by omega))) ?_
    refine TD.take (i := 9) rfl (by kernel_rfl) (by kernel_rfl) (by kernel_rfl) (fun _ _ _ _ h => h) (Want.plain rfl) rfl rfl (PV.sliceL (lo := bs.length - 4) rfl Try.underlying27 sz5 rfl rfl rfl (by omega)) ?_
    refine TD.take (i := 10) rfl (by kernel_rfl) (by kernel_rfl) (by kernel_rfl) (fun _ _ _ _ h => h) (Want.plain rfl) rfl rfl (PV.assign rfl rfl) ?_
    refine TD.take (i := 11) rfl (by kernel_rfl) (by kernel_rfl) (by kernel_rfl) (fun _ _ _ _ h => h) (Want.plain rfl) rfl rfl (PV.assign rfl rfl) ?_
    refine TD.done (by kernel_rfl) ?_
    refine TE.next hK5 ?_
    clear hK5
    refine TC.seq (fun K6 hK6 => ?_)
    refine TC.draw (fun w => Frm F w ∧ True) mixedD rfl (fun _ s => ⟨Frm.of s, trivial⟩) ?_
    refine TD.take (i := 0) rfl (by kernel_rfl) (by kernel_rfl) (by kernel_rfl) (fun _ _ _ _ h => h) (Want.plain rfl) rfl rfl (PV.move rfl rfl) ?_
    refine TD.take (i := 1) rfl (by kernel_rfl) (by kernel_rfl) (by kernel_rfl) (fun _ _ _ _ h => h) (Want.plain rfl) rfl rfl (PV.indexSlV (r := off_b) hv_b rfl Try.underlying27 sz5 rfl rfl (by omega) (by omega) (by omega)) ?_
    refine TD.take (i := 2) rfl (by kernel_rfl) (by kernel_rfl) (by kernel_rfl) (fun _ _ _ _ h => h) (Want.plain rfl) rfl rfl (PV.load1X (v := (.int .u8 ((((((bs.drop (bs.length - 4))).getD 0 0).toNat : Nat) : Int)))) rfl Try.underlying5 rfl rfl (RdX.frm hb_b (fun _ h => h.1)) (hcs_b 0 (by omega))) ?_
    refine TD.take (i := 3) rfl (by kernel_rfl) (by kernel_rfl) (by kernel_rfl) (fun _ _ _ _ h => h) (Want.plain rfl) rfl rfl (PV.convI (r := (((((bs.drop (bs.length - 4))).getD 0 0).toNat : Nat) : Int)) rfl Try.underlying5 Try.underlying175 rfl (wrap_u32 (by omega) (by have := UInt8.toNat_lt (n := (bs.drop (bs.length - 4)).getD 0 0); omega))) ?_
    refine TD.take (i := 4) rfl (by kernel_rfl) (by kernel_rfl) (by kernel_rfl) (fun _ _ _ _ h => h) (Want.plain rfl) rfl rfl (PV.move rfl rfl) ?_
    refine TD.take (i := 5) rfl (by kernel_rfl) (by kernel_rfl) (by kernel_rfl) (fun _ _ _ _ h => h) (Want.plain rfl) rfl rfl (PV.indexSlV (r := off_b + 1) hv_b rfl Try.underlying27 sz5 rfl rfl (by omega) (by omega) (by omega)) ?_
    refine TD.take (i := 6) rfl (by kernel_rfl) (by kernel_rfl) (by kernel_rfl) (fun _ _ _ _ h => h) (Want.plain rfl) rfl rfl (PV.load1X (v := (.int .u8 ((((((bs.drop (bs.length - 4))).getD 1 0).toNat : Nat) : Int)))) rfl Try.underlying5 rfl rfl (RdX.frm hb_b (fun _ h => h.1)) (hcs_b 1 (by omega))) ?_
    refine TD.take (i := 7) rfl (by kernel_rfl) (by kernel_rfl) (by kernel_rfl) (fun _ _ _ _ h => h) (Want.plain rfl) rfl rfl (PV.convI (r := (((((bs.drop (bs.length - 4))).getD 1 0).toNat : Nat) : Int)) rfl Try.underlying5 Try.underlying175 rfl (wrap_u32 (by omega) (by have := UInt8.toNat_lt (n := (bs.drop (bs.length - 4)).getD 1 0); omega))) ?_
    refine TD.take (i := 8) rfl (by kernel_rfl) (by kernel_rfl) (by kernel_rfl) (fun _ _ _ _ h => h) (Want.plain rfl) rfl rfl (PV.shl (r := IntKind.u32.wrap ((((((bs.drop (bs.length - 4))).getD 1 0).toNat : Nat) : Int) * 2 ^ 8)) rfl rfl rfl (by omega) rfl) ?_
    refine TD.take (i := 9) rfl (by kernel_rfl) (by kernel_rfl) (by kernel_rfl) (fun _ _ _ _ h => h) (Want.plain rfl) rfl rfl (PV.or (r := orI .u32 (((((bs.drop (bs.length - 4))).getD 0 0).toNat : Nat) : Int) (IntKind.u32.wrap ((((((bs.drop (bs.length - 4))).getD 1 0).toNat : Nat) : Int) * 2 ^ 8))) rfl rfl rfl rfl) ?_
    refine TD.take (i := 10) rfl (by kernel_rfl) (by kernel_rfl) (by kernel_rfl) (fun _ _ _ _ h => h) (Want.plain rfl) rfl rfl (PV.move rfl rfl) ?_
    refine TD.take (i := 11) rfl (by kernel_rfl) (by kernel_rfl) (by kernel_rfl) (fun _ _ _ _ h => h) (Want.plain rfl) rfl rfl (PV.indexSlV (r := off_b + 2) hv_b rfl Try.underlying27 sz5 rfl rfl (by omega) (by omega) (by omega)) ?_
    refine TD.take (i := 12) rfl (by kernel_rfl) (by kernel_rfl) (by kernel_rfl) (fun _ _ _ _ h => h) (Want.plain rfl) rfl rfl (PV.load1X (v := (.int .u8 ((((((bs.drop (bs.length - 4))).getD 2 0).toNat : Nat) : Int)))) rfl Try.underlying5 rfl rfl (RdX.frm hb_b (fun _ h => h.1)) (hcs_b 2 (by omega))) ?_
    refine TD.take (i := 13) rfl (by kernel_rfl) (by kernel_rfl) (by kernel_rfl) (fun _ _ _ _ h => h) (Want.plain rfl) rfl rfl (PV.convI (r := (((((bs.drop (bs.length - 4))).getD 2 0).toNat : Nat) : Int)) rfl Try.underlying5 Try.underlying175 rfl (wrap_u32 (by omega) (by have := UInt8.toNat_lt (n := (bs.drop (bs.length - 4)).getD 2 0); omega))) ?_
    refine TD.take (i := 14) rfl (by kernel_rfl) (by kernel_rfl) (by kernel_rfl) (fun _ _ _ _ h => h) (Want.plain rfl) rfl rfl (PV.shl (r := IntKind.u32.wrap ((((((bs.drop (bs.length - 4))).getD 2 0).toNat : Nat) : Int) * 2 ^ 16)) rfl rfl rfl (by omega) rfl) ?_
    refine TD.take (i := 15) rfl (by kernel_rfl) (by kernel_rfl) (by kernel_rfl) (fun _ _ _ _ h => h) (Want.plain rfl) rfl rfl (PV.or (r := orI .u32 (orI .u32 (((((bs.drop (bs.length - 4))).getD 0 0).toNat : Nat) : Int) (IntKind.u32.wrap ((((((bs.drop (bs.length - 4))).getD 1 0).toNat : Nat) : Int) * 2 ^ 8))) (IntKind.u32.wrap ((((((bs.drop (bs.length - 4))).getD 2 0).toNat : Nat) : Int) * 2 ^ 16))) rfl rfl rfl rfl) ?_
    refine TD.take (i := 16) rfl (by kernel_rfl) (by kernel_rfl) (by kernel_rfl) (fun _ _ _ _ h => h) (Want.plain rfl) rfl rfl (PV.move rfl rfl) ?_
    refine TD.take (i := 17) rfl (by kernel_rfl) (by kernel_rfl) (by kernel_rfl) (fun _ _ _ _ h => h) (Want.plain rfl) rfl rfl (PV.indexSlV (r := off_b + 3) hv_b rfl Try.underlying27 sz5 rfl rfl (by omega) (by omega) (by omega)) ?_
    refine TD.take (i := 18) rfl (by kernel_rfl) (by kernel_rfl) (by kernel_rfl) (fun _ _ _ _ h => h) (Want.plain rfl) rfl rfl (PV.load1X (v := (.int .u8 ((((((bs.drop (bs.length - 4))).getD 3 0).toNat : Nat) : Int)))) rfl Try.underlying5 rfl rfl (RdX.frm hb_b (fun _ h => h.1)) (hcs_b 3 (by omega))) ?_
    refine TD.take (i := 19) rfl (by kernel_rfl) (by kernel_rfl) (by kernel_rfl) (fun _ _ _ _ h => h) (Want.plain rfl) rfl rfl (PV.convI (r := (((((bs.drop (bs.length - 4))).getD 3 0).toNat : Nat) : Int)) rfl Try.underlying5 Try.underlying175 rfl (wrap_u32 (by omega) (by have := UInt8.toNat_lt (n := (bs.drop (bs.length - 4)).getD 3 0); omega))) ?_
    refine TD.take (i := 20) rfl (by kernel_rfl) (by kernel_rfl) (by kernel_rfl) (fun _ _ _ _ h => h) (Want.plain rfl) rfl rfl (PV.shl (r := IntKind.u32.wrap ((((((bs.drop (bs.length - 4))).getD 3 0).toNat : Nat) : Int) * 2 ^ 24)) rfl rfl rfl (by omega) rfl) ?_
    refine TD.take (i := 21) rfl (by kernel_rfl) (by kernel_rfl) (by kernel_rfl) (fun _ _ _ _ h => h) (Want.plain rfl) rfl rfl (PV.or (r := le32 ((bs.drop (bs.length - 4)).getD 0 0) ((bs.drop (bs.length - 4)).getD 1 0) ((bs.drop (bs.length - 4)).getD 2 0) ((bs.drop (bs.length - 4)).getD 3 0)) rfl rfl rfl rfl) ?_
    refine TD.take (i := 22) rfl (by kernel_rfl) (by kernel_rfl) (by kernel_rfl) (fun _ _ _ _ h => h) (Want.plain rfl) rfl rfl (PV.assign rfl rfl) ?_
    refine TD.done (by kernel_rfl) ?_
    refine TE.next hK6 ?_
    clear hK6
    refine TC.seq (fun K7 hK7 => ?_)
    refine TC.seq (fun K8 hK8 => ?_)
    refine TC.region ?_
    refine TL.v (Want.plain rfl) rfl rfl (PV.move rfl rfl) ?_
    refine TL.buildSlice (cells := #[(cutLH (.slice a bs.length c) 0 (bs.length - 4))]) (Want.plain rfl) rfl rfl rfl Try.underlying138 in27 rfl rfl rfl (fill_one hT.one (by simp)) (fun b43 => ?_)
    change TL _ _ _ _ _ _ _ _ _ [blkA b43 [(cutLH (.slice a bs.length c) 0 (bs.length - 4))] 27]
    refine TL.callR (A := []) (B := [blkA b43 [(cutLH (.slice a bs.length c) 0 (bs.length - 4))] 27]) (Want.plain rfl) rfl rfl rfl nm76 rfl (of_does (.slice (some ⟨b43, 0, none⟩) (1) (1)) [(bs.take (bs.length - 4))]) (fun _ s => s) (isBB_one hT 0 rfl rfl) (fun vR HR hR => ?_)
    obtain ⟨rfl, rfl⟩ := hR
    rw [show [(bs.take (bs.length - 4))].flatten = (bs.take (bs.length - 4)) by simp]
    change TL _ _ _ _ _ _ _ _ _ [blkA b43 [(cutLH (.slice a bs.length c) 0 (bs.length - 4))] 27]
    refine TL.v (Want.plain rfl) rfl rfl (PV.move rfl rfl) ?_
    refine TL.v (Want.plain rfl) rfl rfl (PV.neq rfl rfl rfl) ?_
    refine TL.dec (fun h46 => ?_) (fun h46 => ?_)
    · skip
      refine TL.nil ?_
      refine TE.next hK8 ?_
      clear hK8
      refine TC.yes rfl ?_
      refine TC.seq (fun K9 hK9 => ?_)
      refine TC.region ?_
      refine TL.v (Want.plain rfl) rfl rfl (PV.assign rfl rfl) ?_
      refine TL.v (Want.plain rfl) rfl rfl (PV.assign rfl rfl) ?_
      refine TL.nil ?_
      refine TE.next hK9 ?_
      clear hK9
      refine TC.ret ?_
      refine TE.passRet ?_
      clear hK7
      refine TE.weak (Sub.refl _) (fun _ s => sep_keep [] rfl s) ?_
      refine TE.ret2 rfl rfl rfl ?_
      exact .inl ⟨by rw [takeP, if_neg (by omega), if_neg h46], rfl, rfl⟩
    · skip
      refine TL.nil ?_
      refine TE.next hK8 ?_
      clear hK8
      refine TC.no rfl ?_
      refine TC.skip ?_
      refine TE.next hK7 ?_
      clear hK7
      refine TC.seq (fun K10 hK10 => ?_)
      refine TC.region ?_
      refine TL.buildSlice0 (Want.plain rfl) rfl rfl rfl Try.underlying27 sz5 (fun v47 => ?_)
      change TL _ _ _ _ _ _ _ _ _ [ownB v47 ([]) 5, blkA b43 [(cutLH (.slice a bs.length c) 0 (bs.length - 4))] 27]
      refine TL.v (Want.plain rfl) rfl rfl (PV.move rfl rfl) ?_
      refine TL.append (k := 0) (news := u8s ((bs.take (bs.length - 4)))) (nn' := ((bs.take (bs.length - 4)) : List UInt8).length) (xs' := u8s ((bs.take (bs.length - 4)))) (Want.plain rfl) rfl rfl rfl Try.underlying27 in5 rfl rfl rfl rfl rfl rfl (fun _ _ => hT.src (fun _ h => Frm.of h)) (u8s_one _) (by simp only [maxLen, List.length_nil, List.length_take]; omega) (by simp only [List.length_nil, List.length_take]; omega) (by simp) (List.nil_append _) (fun v49 ov49 => ?_)
      change TL _ _ _ _ _ _ _ _ _ [ownB v49 ((bs.take (bs.length - 4))) 5, blkA b43 [(cutLH (.slice a bs.length c) 0 (bs.length - 4))] 27]
      refine TL.v (Want.plain rfl) rfl rfl (PV.assign rfl rfl) ?_
      refine TL.v (Want.plain rfl) rfl rfl (PV.assign rfl rfl) ?_
      refine TL.nil ?_
      refine TE.next hK10 ?_
      clear hK10
      refine TC.ret ?_
      refine TE.weak (Sub.refl _) (fun _ s => sep_keep [0] rfl s) ?_
      refine TE.ret2 rfl rfl rfl ?_
      exact .inr ⟨_, _, by rw [takeP, if_neg (by omega), if_pos (by simpa using h46)], rfl, rfl⟩


theorem take_does (x : Value) (bs : List UInt8) (hb : bs.length ≤ 1000000000) : Does Try.prog 75 #[x] (IsW x bs) [] (Ret (fun v H => (takeP bs = none ∧ v = .tuple #[.slice none 0 0, .bool false] ∧ H = []) ∨ ∃ t u, takeP bs = some t ∧ v = .tuple #[u, .bool true] ∧ H = [ownB u t 5])) := fun w G h m => by
  obtain ⟨a, c, rfl, hc, _⟩ := h.form
  exact take_form a c bs hc hb w G h m

theorem secsN_sect {number : Int} {bs : List UInt8} {k : Nat} : secsN number bs (k + 1) = secsN number bs k ++ [putP (textP number k (piecesN bs.length) (partP bs k)) ++ [1]] := secsN_succ number bs k

theorem mixed2 : Try.prog.follows .mixedOrders = true := mixedD

theorem piece_does (s : Sec) (number place : Int) (hs : s.length = 64) :
    Does Try.prog 71 #[(.agg (u8s s).toArray), (.int .i64 (number)), (.int .i64 (place))] (fun _ => True) [] (Ret (fun v H => (pieceP s number place = none ∧ v = .tuple #[.slice none 0 0, .int .i64 0, .bool false] ∧ H = []) ∨ ∃ b all u, pieceP s number place = some (b, all) ∧ v = .tuple #[u, .int .i64 all, .bool true] ∧ H = [subB u b 5])) := by
  refine Does.body (vs := [(.agg (u8s s).toArray), (.int .i64 (number)), (.int .i64 (place))]) (n := 74) Try.func71 rfl rfl rfl (fun w0 F hF => ?_)
  refine TC.seq (fun K1 hK1 => ?_)
  refine TC.region ?_
  refine TL.box (Want.plain rfl) rfl rfl rfl rfl (fun b3 => ?_)
  change TL _ _ _ _ _ _ _ _ _ [blkA b3 (u8s s) 161]
  refine TL.v (Want.plain rfl) rfl rfl (PV.assign rfl rfl) ?_
  refine TL.v (Want.plain rfl) rfl rfl (PV.assign rfl rfl) ?_
  refine TL.v (Want.plain rfl) rfl rfl (PV.assign rfl rfl) ?_
  refine TL.nil ?_
  refine TE.next hK1 ?_
  clear hK1
  refine TC.seq (fun K2 hK2 => ?_)
  refine TC.region ?_
  refine TL.v (Want.plain rfl) rfl rfl (PV.sliceArrHi (k := 63) rfl Try.underlying161 sz5 rfl rfl (by omega) (by omega) rfl) ?_
  refine TL.callR (A := []) (B := [blkA b3 (u8s s) 161]) (Want.plain rfl) rfl rfl rfl nm75 rfl (take_does (.slice (some ⟨b3, 0, none⟩) (63) (64)) (s.take 63) (by rw [List.length_take]; omega)) (fun _ s => s) (fun g d s' => IsB.w (isB_piece 0 63 (by omega) (by omega) (by decide) (by rw [List.take_of_length_le (by rw [u8s_length]; omega)]) hs.symm rfl rfl g d s')) (fun vR HR hR => ?_)
  rcases hR with ⟨ht, rfl, rfl⟩ | ⟨t, u, ht, rfl, rfl⟩
  · skip
    change TL _ _ _ _ _ _ _ _ _ [blkA b3 (u8s s) 161]
    refine TL.v (Want.plain rfl) rfl rfl (PV.move rfl rfl) ?_
    refine TL.v (Want.plain rfl) rfl rfl (PV.extract (vs := [(.slice none 0 0), (.bool false)]) rfl rfl rfl) ?_
    refine TL.v (Want.plain rfl) rfl rfl (PV.extract (vs := [(.slice none 0 0), (.bool false)]) rfl rfl rfl) ?_
    refine TL.v (Want.plain rfl) rfl rfl (PV.assign rfl rfl) ?_
    refine TL.v (Want.plain rfl) rfl rfl (PV.assign rfl rfl) ?_
    refine TL.nil ?_
    refine TE.next hK2 ?_
    clear hK2
    refine TC.seq (fun K3 hK3 => ?_)
    refine TC.seq (fun K4 hK4 => ?_)
    refine TC.region ?_
    refine TL.v (Want.plain rfl) rfl rfl (PV.move rfl rfl) ?_
    refine TL.v (Want.plain rfl) rfl rfl (PV.not (r := true) rfl rfl rfl) ?_
    refine TL.v (Want.plain rfl) rfl rfl (PV.move rfl rfl) ?_
    refine TL.unmet (b := true) rfl rfl rfl rfl (lb rfl) ?_
    refine TL.unmet (b := true) rfl rfl rfl rfl (lb rfl) ?_
    refine TL.unmet (b := true) rfl rfl rfl rfl (lb rfl) ?_
    refine TL.v (Want.plain rfl) rfl rfl (PV.pick rfl rfl rfl) ?_
    refine TL.nil ?_
    refine TE.next hK4 ?_
    clear hK4
    refine TC.yes rfl ?_
    refine TC.seq (fun K5 hK5 => ?_)
    refine TC.region ?_
    refine TL.v (Want.plain rfl) rfl rfl (PV.assign rfl rfl) ?_
    refine TL.v (Want.plain rfl) rfl rfl (PV.assign rfl rfl) ?_
    refine TL.v (Want.plain rfl) rfl rfl (PV.assign rfl rfl) ?_
    refine TL.nil ?_
    refine TE.next hK5 ?_
    clear hK5
    refine TC.ret ?_
    refine TE.passRet ?_
    clear hK3
    refine TE.weak (Sub.refl _) (fun _ s => sep_keep [] rfl s) ?_
    refine TE.ret3 rfl rfl rfl rfl ?_
    exact .inl ⟨pieceP_none1 ht, rfl, rfl⟩
  · skip
    have htl := takeP_len ht
    rw [List.length_take] at htl
    have ht59 : t.length = 59 := by omega
    change TL _ _ _ _ _ _ _ _ _ [ownB u (t) 5, blkA b3 (u8s s) 161]
    refine TL.ownAt 0 rfl rfl (by omega) (fun g cap hv hcap => ?_)
    refine TL.v (Want.plain rfl) rfl rfl (PV.move rfl rfl) ?_
    refine TL.v (Want.plain rfl) rfl rfl (PV.extract (vs := [u, (.bool true)]) rfl rfl rfl) ?_
    refine TL.v (Want.plain rfl) rfl rfl (PV.extract (vs := [u, (.bool true)]) rfl rfl rfl) ?_
    refine TL.v (Want.plain rfl) rfl rfl (PV.assign rfl rfl) ?_
    refine TL.v (Want.plain rfl) rfl rfl (PV.assign rfl rfl) ?_
    refine TL.nil ?_
    refine TE.next hK2 ?_
    clear hK2
    refine TC.seq (fun K6 hK6 => ?_)
    refine TC.seq (fun K7 hK7 => ?_)
    refine TC.region ?_
    refine TL.v (Want.plain rfl) rfl rfl (PV.move rfl rfl) ?_
    refine TL.v (Want.plain rfl) rfl rfl (PV.not (r := false) rfl rfl rfl) ?_
    refine TL.v (Want.plain rfl) rfl rfl (PV.move rfl rfl) ?_
    refine TL.v (Want.met rfl rfl rfl) rfl rfl (PV.indexArr (r := 63) rfl Try.underlying161 sz5 rfl rfl (lz rfl) (lz rfl) rfl) ?_
    refine TL.v (Want.met rfl rfl rfl) rfl rfl (PV.load1 (v := (.int .u8 ((((s.getD 63 0).toNat : Nat) : Int)))) rfl Try.underlying5 rfl rfl (Rd.own 1 rfl rfl) (u8s_at (by omega))) ?_
    refine TL.v (Want.met rfl rfl rfl) rfl rfl (PV.neq rfl rfl rfl) ?_
    refine TL.dec (fun h26 => ?_) (fun h26 => ?_)
    · skip
      refine TL.v (Want.plain rfl) rfl rfl (PV.pick rfl rfl rfl) ?_
      refine TL.nil ?_
      refine TE.next hK7 ?_
      clear hK7
      refine TC.yes rfl ?_
      refine TC.seq (fun K8 hK8 => ?_)
      refine TC.region ?_
      refine TL.v (Want.plain rfl) rfl rfl (PV.assign rfl rfl) ?_
      refine TL.v (Want.plain rfl) rfl rfl (PV.assign rfl rfl) ?_
      refine TL.v (Want.plain rfl) rfl rfl (PV.assign rfl rfl) ?_
      refine TL.nil ?_
      refine TE.next hK8 ?_
      clear hK8
      refine TC.ret ?_
      refine TE.passRet ?_
      clear hK6
      refine TE.weak (Sub.refl _) (fun _ s => sep_keep [] rfl s) ?_
      refine TE.ret3 rfl rfl rfl rfl ?_
      exact .inl ⟨pieceP_end (fun h => h26 (by rw [h]; rfl)), rfl, rfl⟩
    · skip
      refine TL.v (Want.plain rfl) rfl rfl (PV.pick rfl rfl rfl) ?_
      refine TL.nil ?_
      refine TE.next hK7 ?_
      clear hK7
      refine TC.no rfl ?_
      refine TC.skip ?_
      refine TE.next hK6 ?_
      clear hK6
      refine TC.seq (fun K9 hK9 => ?_)
      refine TC.region ?_
      refine TL.v (Want.plain rfl) rfl rfl (PV.assign rfl rfl) ?_
      refine TL.nil ?_
      refine TE.next hK9 ?_
      clear hK9
      refine TC.seq (fun K10 hK10 => ?_)
      refine TC.seq (fun K11 hK11 => ?_)
      refine TC.region ?_
      refine TL.v (Want.plain rfl) rfl rfl (PV.move rfl rfl) ?_
      refine TL.v (Want.plain rfl) rfl rfl (PV.to (PV.sliceH (a := some ⟨g, 0, none⟩) (len := t.length) (cap := cap) (hi := 4) rfl Try.underlying27 sz5 (by rw [← hv]; rfl) rfl rfl (by omega)) (cutLH_0 (by omega))) ?_
      refine TL.v (Want.plain rfl) rfl rfl (PV.lenSl rfl Try.underlying27 rfl) ?_
      refine TL.v (Want.plain rfl) rfl rfl (PV.move rfl rfl) ?_
      refine TL.nil ?_
      refine TE.next hK11 ?_
      clear hK11
      refine TC.block ?_
      refine TC.loop (α := (Nat)) (fun k => k ≤ 4) (fun k => [(1, (.int .i64 (number))), (2, (.int .i64 (place))), (6, (.slice none 0 0)), (7, (.int .i64 0)), (8, (.bool false)), (9, u), (11, (.int .i64 (beI (t.take k)))), (29, (.slice (some ⟨g, 0, none⟩) (4) (cap))), (30, (.int .i64 4)), (31, (.int .i64 (((k : Nat) : Int))))]) (fun k => [ownB u (t) 5, blkA b3 (u8s s) 161]) (fun k => 4 - k) 0
          (Nat.zero_le _) (Sub.r (Sub.r (Sub.r (Sub.r (Sub.r (Sub.r (Sub.cons rfl (by congr 1) (Sub.r (Sub.r (Sub.cons rfl (by congr 1) (Sub.nil _)))))))))))
          (fun _ s => s) (fun k hinv => ?_)
      obtain hk := hinv
      refine TC.seq (fun K12 hK12 => ?_)
      refine TC.region ?_
      refine TL.v (Want.plain rfl) rfl rfl (PV.lss rfl rfl rfl) ?_
      refine TL.dec (fun h32 => ?_) (fun h32 => ?_)
      · skip
        refine TL.nil ?_
        refine TE.next hK12 ?_
        clear hK12
        refine TC.seq (fun K13 hK13 => ?_)
        refine TC.yes rfl ?_
        refine TC.skip ?_
        refine TE.next hK13 ?_
        clear hK13
        refine TC.seq (fun K14 hK14 => ?_)
        refine TC.block ?_
        refine TC.seq (fun K15 hK15 => ?_)
        refine TC.region ?_
        refine TL.v (Want.plain rfl) rfl rfl (PV.indexSl (r := k) rfl Try.underlying27 sz5 rfl rfl (by first | omega | decide) (by first | omega | decide) (by omega)) ?_
        refine TL.v (Want.plain rfl) rfl rfl (PV.load1X (v := (.int .u8 ((((t.getD k 0).toNat : Nat) : Int)))) rfl Try.underlying5 rfl rfl (RdX.own 0 rfl hv rfl) (u8s_at (by omega))) ?_
        refine TL.v (Want.plain rfl) rfl rfl (PV.assign rfl rfl) ?_
        refine TL.nil ?_
        refine TE.next hK15 ?_
        clear hK15
        refine TC.region ?_
        refine TL.v (Want.plain rfl) rfl rfl (PV.move rfl rfl) ?_
        refine TL.v (Want.plain rfl) rfl rfl (PV.shl (r := IntKind.i64.wrap ((beI (t.take k)) * 2 ^ 8)) rfl rfl rfl (by omega) rfl) ?_
        refine TL.v (Want.plain rfl) rfl rfl (PV.move rfl rfl) ?_
        refine TL.v (Want.plain rfl) rfl rfl (PV.convI (r := (((t.getD k 0).toNat : Nat) : Int)) rfl Try.underlying5 Try.underlying3 rfl (wrap_i64 (by omega) (by have := UInt8.toNat_lt (n := t.getD k 0); omega))) ?_
        refine TL.v (Want.plain rfl) rfl rfl (PV.or (r := orI .i64 (IntKind.i64.wrap ((beI (t.take k)) * 2 ^ 8)) (((t.getD k 0).toNat : Nat) : Int)) rfl rfl rfl rfl) ?_
        refine TL.v (Want.plain rfl) rfl rfl (PV.assign rfl rfl) ?_
        refine TL.nil ?_
        refine TE.blockEnd ?_
        refine TE.next hK14 ?_
        clear hK14
        refine TC.region ?_
        refine TL.v (Want.plain rfl) rfl rfl (PV.add rfl rfl rfl (wrap_i64 (by omega) (by omega))) ?_
        refine TL.v (Want.plain rfl) rfl rfl (PV.move rfl rfl) ?_
        refine TL.nil ?_
        exact TE.round ((k + 1) : (Nat)) (by omega) (by show 4 - (k + 1) < 4 - k; omega)
          (Sub.r (Sub.r (Sub.r (Sub.r (Sub.r (Sub.r (Sub.cons rfl (congrArg (Value.int .i64) (beI_take (by omega)).symm) (Sub.r (Sub.r (Sub.cons rfl (by simp) (Sub.nil _)))))))))))
          (fun _ s => s)
      · skip
        refine TL.nil ?_
        refine TE.next hK12 ?_
        clear hK12
        refine TC.seq (fun K16 hK16 => ?_)
        refine TC.no rfl ?_
        refine TC.exit ?_
        refine TE.pass ?_
        clear hK16
        refine TE.pass ?_
        refine TE.hit ?_
        refine TE.next hK10 ?_
        clear hK10
        refine TC.seq (fun K17 hK17 => ?_)
        refine TC.draw (fun w => Frm F w ∧ Hx g (u8s (t)) w ∧ True) mixedD rfl (fun _ s => ⟨Frm.of s, RdX.own 0 rfl hv rfl _ s, trivial⟩) ?_
        refine TD.take (i := 0) rfl (by kernel_rfl) (by kernel_rfl) (by kernel_rfl) (fun _ _ _ _ h => h) (Want.plain rfl) rfl rfl (PV.move rfl rfl) ?_
        refine TD.take (i := 1) rfl (by kernel_rfl) (by kernel_rfl) (by kernel_rfl) (fun _ _ _ _ h => h) (Want.plain rfl) rfl rfl (PV.indexSlV (r := 5) hv rfl Try.underlying27 sz5 rfl rfl (by omega) (by omega) rfl) ?_
        refine TD.take (i := 2) rfl (by kernel_rfl) (by kernel_rfl) (by kernel_rfl) (fun _ _ _ _ h => h) (Want.plain rfl) rfl rfl (PV.load1X (v := (.int .u8 ((((t.getD 5 0).toNat : Nat) : Int)))) rfl Try.underlying5 rfl rfl (fun _ h => h.2.1) (u8s_at (by omega))) ?_
        refine TD.take (i := 3) rfl (by kernel_rfl) (by kernel_rfl) (by kernel_rfl) (fun _ _ _ _ h => h) (Want.plain rfl) rfl rfl (PV.convI (r := (((t.getD 5 0).toNat : Nat) : Int)) rfl Try.underlying5 Try.underlying3 rfl (wrap_i64 (by omega) (by have := UInt8.toNat_lt (n := t.getD 5 0); omega))) ?_
        refine TD.take (i := 4) rfl (by kernel_rfl) (by kernel_rfl) (by kernel_rfl) (fun _ _ _ _ h => h) (Want.plain rfl) rfl rfl (PV.move rfl rfl) ?_
        refine TD.take (i := 5) rfl (by kernel_rfl) (by kernel_rfl) (by kernel_rfl) (fun _ _ _ _ h => h) (Want.plain rfl) rfl rfl (PV.indexSlV (r := 6) hv rfl Try.underlying27 sz5 rfl rfl (by omega) (by omega) rfl) ?_
        refine TD.take (i := 6) rfl (by kernel_rfl) (by kernel_rfl) (by kernel_rfl) (fun _ _ _ _ h => h) (Want.plain rfl) rfl rfl (PV.load1X (v := (.int .u8 ((((t.getD 6 0).toNat : Nat) : Int)))) rfl Try.underlying5 rfl rfl (fun _ h => h.2.1) (u8s_at (by omega))) ?_
        refine TD.take (i := 7) rfl (by kernel_rfl) (by kernel_rfl) (by kernel_rfl) (fun _ _ _ _ h => h) (Want.plain rfl) rfl rfl (PV.convI (r := (((t.getD 6 0).toNat : Nat) : Int)) rfl Try.underlying5 Try.underlying3 rfl (wrap_i64 (by omega) (by have := UInt8.toNat_lt (n := t.getD 6 0); omega))) ?_
        refine TD.take (i := 8) rfl (by kernel_rfl) (by kernel_rfl) (by kernel_rfl) (fun _ _ _ _ h => h) (Want.plain rfl) rfl rfl (PV.assign rfl rfl) ?_
        refine TD.take (i := 9) rfl (by kernel_rfl) (by kernel_rfl) (by kernel_rfl) (fun _ _ _ _ h => h) (Want.plain rfl) rfl rfl (PV.assign rfl rfl) ?_
        refine TD.done (by kernel_rfl) ?_
        refine TE.next hK17 ?_
        clear hK17
        refine TC.seq (fun K18 hK18 => ?_)
        refine TC.seq (fun K19 hK19 => ?_)
        refine TC.region ?_
        refine TL.v (Want.plain rfl) rfl rfl (PV.move rfl rfl) ?_
        refine TL.v (Want.plain rfl) rfl rfl (PV.move rfl rfl) ?_
        refine TL.v (Want.plain rfl) rfl rfl (PV.neq rfl rfl rfl) ?_
        refine TL.dec (fun h51 => ?_) (fun h51 => ?_)
        · skip
          refine TL.v (Want.plain rfl) rfl rfl (PV.move rfl rfl) ?_
          refine TL.unmet (b := true) rfl rfl rfl rfl (lb rfl) ?_
          refine TL.unmet (b := true) rfl rfl rfl rfl (lb rfl) ?_
          refine TL.unmet (b := true) rfl rfl rfl rfl (lb rfl) ?_
          refine TL.unmet (b := true) rfl rfl rfl rfl (lb rfl) ?_
          refine TL.unmet (b := true) rfl rfl rfl rfl (lb rfl) ?_
          refine TL.unmet (b := true) rfl rfl rfl rfl (lb rfl) ?_
          refine TL.v (Want.plain rfl) rfl rfl (PV.pick rfl rfl rfl) ?_
          refine TL.v (Want.plain rfl) rfl rfl (PV.move rfl rfl) ?_
          refine TL.unmet (b := true) rfl rfl rfl rfl (lb rfl) ?_
          refine TL.unmet (b := true) rfl rfl rfl rfl (lb rfl) ?_
          refine TL.unmet (b := true) rfl rfl rfl rfl (lb rfl) ?_
          refine TL.v (Want.plain rfl) rfl rfl (PV.pick rfl rfl rfl) ?_
          refine TL.v (Want.plain rfl) rfl rfl (PV.move rfl rfl) ?_
          refine TL.unmet (b := true) rfl rfl rfl rfl (lb rfl) ?_
          refine TL.unmet (b := true) rfl rfl rfl rfl (lb rfl) ?_
          refine TL.v (Want.plain rfl) rfl rfl (PV.pick rfl rfl rfl) ?_
          refine TL.nil ?_
          refine TE.next hK19 ?_
          clear hK19
          refine TC.yes rfl ?_
          refine TC.seq (fun K20 hK20 => ?_)
          refine TC.region ?_
          refine TL.v (Want.plain rfl) rfl rfl (PV.assign rfl rfl) ?_
          refine TL.v (Want.plain rfl) rfl rfl (PV.assign rfl rfl) ?_
          refine TL.v (Want.plain rfl) rfl rfl (PV.assign rfl rfl) ?_
          refine TL.nil ?_
          refine TE.next hK20 ?_
          clear hK20
          refine TC.ret ?_
          refine TE.passRet ?_
          clear hK18
          refine TE.weak (Sub.refl _) (fun _ s => sep_keep [] rfl s) ?_
          refine TE.ret3 rfl rfl rfl rfl ?_
          exact .inl ⟨pieceP_none2 ht (.inl (by have : k = 4 := (by omega); subst this; exact h51)), rfl, rfl⟩
        · skip
          refine TL.v (Want.plain rfl) rfl rfl (PV.move rfl rfl) ?_
          refine TL.v (Want.met rfl rfl rfl) rfl rfl (PV.move rfl rfl) ?_
          refine TL.v (Want.met rfl rfl rfl) rfl rfl (PV.indexSlV (r := 4) hv rfl Try.underlying27 sz5 rfl rfl (by omega) (by omega) rfl) ?_
          refine TL.v (Want.met rfl rfl rfl) rfl rfl (PV.load1X (v := (.int .u8 ((((t.getD 4 0).toNat : Nat) : Int)))) rfl Try.underlying5 rfl rfl (RdX.own 0 rfl hv rfl) (u8s_at (by omega))) ?_
          refine TL.v (Want.met rfl rfl rfl) rfl rfl (PV.convI (r := (((t.getD 4 0).toNat : Nat) : Int)) rfl Try.underlying5 Try.underlying3 rfl (wrap_i64 (by omega) (by have := UInt8.toNat_lt (n := t.getD 4 0); omega))) ?_
          refine TL.v (Want.met rfl rfl rfl) rfl rfl (PV.move rfl rfl) ?_
          refine TL.v (Want.met rfl rfl rfl) rfl rfl (PV.neq rfl rfl rfl) ?_
          refine TL.dec (fun h58 => ?_) (fun h58 => ?_)
          · skip
            refine TL.v (Want.plain rfl) rfl rfl (PV.pick rfl rfl rfl) ?_
            refine TL.v (Want.plain rfl) rfl rfl (PV.move rfl rfl) ?_
            refine TL.unmet (b := true) rfl rfl rfl rfl (lb rfl) ?_
            refine TL.unmet (b := true) rfl rfl rfl rfl (lb rfl) ?_
            refine TL.unmet (b := true) rfl rfl rfl rfl (lb rfl) ?_
            refine TL.v (Want.plain rfl) rfl rfl (PV.pick rfl rfl rfl) ?_
            refine TL.v (Want.plain rfl) rfl rfl (PV.move rfl rfl) ?_
            refine TL.unmet (b := true) rfl rfl rfl rfl (lb rfl) ?_
            refine TL.unmet (b := true) rfl rfl rfl rfl (lb rfl) ?_
            refine TL.v (Want.plain rfl) rfl rfl (PV.pick rfl rfl rfl) ?_
            refine TL.nil ?_
            refine TE.next hK19 ?_
            clear hK19
            refine TC.yes rfl ?_
            refine TC.seq (fun K21 hK21 => ?_)
            refine TC.region ?_
            refine TL.v (Want.plain rfl) rfl rfl (PV.assign rfl rfl) ?_
            refine TL.v (Want.plain rfl) rfl rfl (PV.assign rfl rfl) ?_
            refine TL.v (Want.plain rfl) rfl rfl (PV.assign rfl rfl) ?_
            refine TL.nil ?_
            refine TE.next hK21 ?_
            clear hK21
            refine TC.ret ?_
            refine TE.passRet ?_
            clear hK18
            refine TE.weak (Sub.refl _) (fun _ s => sep_keep [] rfl s) ?_
            refine TE.ret3 rfl rfl rfl rfl ?_
            exact .inl ⟨pieceP_none2 ht (.inr (.inl h58)), rfl, rfl⟩
          · skip
            refine TL.v (Want.plain rfl) rfl rfl (PV.pick rfl rfl rfl) ?_
            refine TL.v (Want.plain rfl) rfl rfl (PV.move rfl rfl) ?_
            refine TL.v (Want.met rfl rfl rfl) rfl rfl (PV.move rfl rfl) ?_
            refine TL.v (Want.met rfl rfl rfl) rfl rfl (PV.move rfl rfl) ?_
            refine TL.v (Want.met rfl rfl rfl) rfl rfl (PV.geq rfl rfl rfl) ?_
            refine TL.dec (fun h63 => ?_) (fun h63 => ?_)
            · skip
              refine TL.v (Want.plain rfl) rfl rfl (PV.pick rfl rfl rfl) ?_
              refine TL.v (Want.plain rfl) rfl rfl (PV.move rfl rfl) ?_
              refine TL.unmet (b := true) rfl rfl rfl rfl (lb rfl) ?_
              refine TL.unmet (b := true) rfl rfl rfl rfl (lb rfl) ?_
              refine TL.v (Want.plain rfl) rfl rfl (PV.pick rfl rfl rfl) ?_
              refine TL.nil ?_
              refine TE.next hK19 ?_
              clear hK19
              refine TC.yes rfl ?_
              refine TC.seq (fun K22 hK22 => ?_)
              refine TC.region ?_
              refine TL.v (Want.plain rfl) rfl rfl (PV.assign rfl rfl) ?_
              refine TL.v (Want.plain rfl) rfl rfl (PV.assign rfl rfl) ?_
              refine TL.v (Want.plain rfl) rfl rfl (PV.assign rfl rfl) ?_
              refine TL.nil ?_
              refine TE.next hK22 ?_
              clear hK22
              refine TC.ret ?_
              refine TE.passRet ?_
              clear hK18
              refine TE.weak (Sub.refl _) (fun _ s => sep_keep [] rfl s) ?_
              refine TE.ret3 rfl rfl rfl rfl ?_
              exact .inl ⟨pieceP_none2 ht (.inr (.inr (.inl h63))), rfl, rfl⟩
            · skip
              refine TL.v (Want.plain rfl) rfl rfl (PV.pick rfl rfl rfl) ?_
              refine TL.v (Want.plain rfl) rfl rfl (PV.move rfl rfl) ?_
              refine TL.v (Want.met rfl rfl rfl) rfl rfl (PV.move rfl rfl) ?_
              refine TL.v (Want.met rfl rfl rfl) rfl rfl (PV.gtr rfl rfl rfl) ?_
              refine TL.dec (fun h67 => ?_) (fun h67 => ?_)
              · skip
                refine TL.v (Want.plain rfl) rfl rfl (PV.pick rfl rfl rfl) ?_
                refine TL.nil ?_
                refine TE.next hK19 ?_
                clear hK19
                refine TC.yes rfl ?_
                refine TC.seq (fun K23 hK23 => ?_)
                refine TC.region ?_
                refine TL.v (Want.plain rfl) rfl rfl (PV.assign rfl rfl) ?_
                refine TL.v (Want.plain rfl) rfl rfl (PV.assign rfl rfl) ?_
                refine TL.v (Want.plain rfl) rfl rfl (PV.assign rfl rfl) ?_
                refine TL.nil ?_
                refine TE.next hK23 ?_
                clear hK23
                refine TC.ret ?_
                refine TE.passRet ?_
                clear hK18
                refine TE.weak (Sub.refl _) (fun _ s => sep_keep [] rfl s) ?_
                refine TE.ret3 rfl rfl rfl rfl ?_
                exact .inl ⟨pieceP_none2 ht (.inr (.inr (.inr h67))), rfl, rfl⟩
              · skip
                refine TL.v (Want.plain rfl) rfl rfl (PV.pick rfl rfl rfl) ?_
                refine TL.nil ?_
                refine TE.next hK19 ?_
                clear hK19
                refine TC.no rfl ?_
                refine TC.skip ?_
                refine TE.next hK18 ?_
                clear hK18
                refine TC.seq (fun K24 hK24 => ?_)
                refine TC.region ?_
                refine TL.v (Want.plain rfl) rfl rfl (PV.move rfl rfl) ?_
                refine TL.v (Want.plain rfl) rfl rfl (PV.move rfl rfl) ?_
                refine TL.v (Want.plain rfl) rfl rfl (PV.add (r := ((7 + (t.getD 6 0).toNat : Nat) : Int)) rfl rfl rfl (by rw [show (7 : Int) + (((t.getD 6 0).toNat : Nat) : Int) = ((7 + (t.getD 6 0).toNat : Nat) : Int) by omega]; have := UInt8.toNat_lt (n := t.getD 6 0); exact wrap_i64 (by omega) (by omega))) ?_
                refine TL.v (Want.plain rfl) rfl rfl (PV.to (PV.sliceLH (a := some ⟨g, 0, none⟩) (len := t.length) (cap := cap) (lo := 7) (hi := 7 + (t.getD 6 0).toNat) rfl Try.underlying27 sz5 (by rw [← hv]; rfl) rfl rfl rfl rfl (by omega) (by omega)) (congrArg (fun q => cutLH q 7 (7 + (t.getD 6 0).toNat)) hv.symm)) ?_
                refine TL.v (Want.plain rfl) rfl rfl (PV.move rfl rfl) ?_
                refine TL.v (Want.plain rfl) rfl rfl (PV.assign rfl rfl) ?_
                refine TL.v (Want.plain rfl) rfl rfl (PV.assign rfl rfl) ?_
                refine TL.v (Want.plain rfl) rfl rfl (PV.assign rfl rfl) ?_
                refine TL.nil ?_
                refine TE.next hK24 ?_
                clear hK24
                refine TC.ret ?_
                refine TE.weak (H' := [subB (cutLH u 7 (7 + (t.getD 6 0).toNat)) ((t.drop 7).take (t.getD 6 0).toNat) 5]) (Sub.refl _) (fun _ s' => sep_keep [0] rfl (sep_ownCut 0 rfl rfl hv (by omega) (by omega) (by omega) (by rw [List.drop_take, Nat.add_sub_cancel_left]) s')) ?_
                refine TE.ret3 rfl rfl rfl rfl ?_
                obtain rfl : k = 4 := by omega
                have h1 : s.getD 63 0 = 1 := UInt8.toNat_inj.1 (by have h1' : (1 : UInt8).toNat = 1 := rfl; omega)
                exact .inr ⟨_, _, _, pieceP_some ht h1 (by omega), rfl, rfl⟩


end Go.Proofs.Ytdekgkmbcdlekaa
