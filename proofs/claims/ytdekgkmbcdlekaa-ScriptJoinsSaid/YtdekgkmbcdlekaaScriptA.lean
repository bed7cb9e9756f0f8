/-
  Package script: ops as bytes and back, walked.
-/

import Derived.Test.YtdekgkmbcdlekaaRowA
import Derived.Test.YtdekgkmbcdlekaaScriptP
import Derived.Test.YtdekgkmbcdlekaaLegQ
import Derived.Test.YtdekgkmbcdlekaaLegS

namespace Go.Proofs.Ytdekgkmbcdlekaa

open Go Leg Codec Api Dsk Wal

set_option linter.unusedSimpArgs false
set_option linter.unusedVariables false

set_option maxRecDepth 100000

set_option maxHeartbeats 8000000

theorem halves_does (a b : Int) :
    Does Try.prog 45 #[(.int .i64 (a)), (.int .i64 (b))] (fun _ => True) [] (Ret (fun r' H => r' = .int .u8 (((hv a b).toNat : Nat) : Int) ∧ H = [])) := by
  refine Does.body (vs := [(.int .i64 (a)), (.int .i64 (b))]) (n := 12) Try.func45 rfl rfl rfl (fun w0 F hF => ?_)
  refine TC.seq (fun K1 hK1 => ?_)
  refine TC.region ?_
  refine TL.v (Want.plain rfl) rfl rfl (PV.assign rfl rfl) ?_
  refine TL.nil ?_
  refine TE.next hK1 ?_
  clear hK1
  refine TC.seq (fun K2 hK2 => ?_)
  refine TC.region ?_
  refine TL.v (Want.plain rfl) rfl rfl (PV.move rfl rfl) ?_
  refine TL.v (Want.plain rfl) rfl rfl (PV.and (r := (a % 16)) rfl rfl rfl (mask (k := 4) (by decide) _)) ?_
  refine TL.v (Want.plain rfl) rfl rfl (PV.move rfl rfl) ?_
  refine TL.v (Want.plain rfl) rfl rfl (PV.and (r := (b % 16)) rfl rfl rfl (mask (k := 4) (by decide) _)) ?_
  refine TL.v (Want.plain rfl) rfl rfl (PV.shl (r := (b % 16 * 16)) rfl rfl rfl (by omega) (by show IntKind.i64.wrap (b % 16 * 16) = _; exact wrap_i64 (by omega) (by omega))) ?_
  refine TL.v (Want.plain rfl) rfl rfl (PV.or (r := (a % 16 + b % 16 * 16)) rfl rfl rfl (or16 a b)) ?_
  refine TL.v (Want.plain rfl) rfl rfl (PV.convI (r := (((hv a b).toNat : Nat) : Int)) rfl Try.underlying3 Try.underlying5 rfl (r8_wrap _)) ?_
  refine TL.v (Want.plain rfl) rfl rfl (PV.assign rfl rfl) ?_
  refine TL.nil ?_
  refine TE.next hK2 ?_
  clear hK2
  refine TC.ret ?_
  refine TE.weak (Sub.refl _) (fun _ s => sep_keep [] rfl s) ?_
  refine TE.ret1 rfl rfl ?_
  exact ⟨rfl, rfl⟩


theorem opsEncode_does (x : Value) (l : List OpT) (hl : l.length ≤ 1000000) :
    Does Try.prog 27 #[x] (IsL 11 (EF OpT.flat) x l) [] (Ret (fun r' H => ∃ u, r' = u ∧ H = [ownB u (encOps l) 5])) := by
  refine Does.body (vs := [x]) (n := 57) Try.func27 rfl rfl rfl (fun w0 F hF => ?_)
  refine TC.seq (fun K1 hK1 => ?_)
  refine TC.region ?_
  refine TL.v (Want.plain rfl) rfl rfl (PV.assign rfl rfl) ?_
  refine TL.nil ?_
  refine TE.next hK1 ?_
  clear hK1
  refine TC.seq (fun K2 hK2 => ?_)
  refine TC.region ?_
  refine TL.v (Want.plain rfl) rfl rfl (PV.assign rfl rfl) ?_
  refine TL.nil ?_
  refine TE.next hK2 ?_
  clear hK2
  refine TC.seq (fun K3 hK3 => ?_)
  refine TC.seq (fun K4 hK4 => ?_)
  refine TC.region ?_
  refine TL.v (Want.plain rfl) rfl rfl (PV.move rfl rfl) ?_
  refine TL.v (Want.plain rfl) rfl rfl (PV.lenV rfl Try.underlying67 rfl hF.len) ?_
  refine TL.v (Want.plain rfl) rfl rfl (PV.move rfl rfl) ?_
  refine TL.nil ?_
  refine TE.next hK4 ?_
  clear hK4
  refine TC.block ?_
  refine TC.loop (α := (Nat) × (Value)) (fun ⟨k, u⟩ => k ≤ l.length ∧ u.oneCell' = true) (fun ⟨k, u⟩ => [(2, (.slice none 0 0)), (3, u), (6, x), (7, (.int .i64 (((l.length : Nat) : Int)))), (8, (.int .i64 (((k : Nat) : Int))))]) (fun ⟨k, u⟩ => [ownB u (encOps (l.take k)) 5]) (fun ⟨k, u⟩ => l.length - k) (0, (.slice none 0 0))
      ⟨Nat.zero_le _, rfl⟩ (Sub.r (Sub.r (Sub.r (Sub.r (Sub.cons rfl (by congr 1) (Sub.nil _))))))
      (fun _ s => sep_ownNil 5 1 s) (fun ⟨k, u⟩ hinv => ?_)
  obtain ⟨hk, hu⟩ := hinv
  have hlen := encOps_len (l.take k)
  rw [List.length_take] at hlen
  refine TC.seq (fun K5 hK5 => ?_)
  refine TC.region ?_
  refine TL.v (Want.plain rfl) rfl rfl (PV.lss rfl rfl rfl) ?_
  refine TL.dec (fun h9 => ?_) (fun h9 => ?_)
  · skip
    obtain ⟨b_a, off_a, cap_a, cs_a, T_a, z_a, us_a, hv_a, hc_a, hb_a, hl_a, hs_a, hE_a⟩ := IsL.at hF (j := k) (by omega)
    replace hE_a : us_a = ints l[k].flat := hE_a
    refine TL.nil ?_
    refine TE.next hK5 ?_
    clear hK5
    refine TC.seq (fun K6 hK6 => ?_)
    refine TC.yes rfl ?_
    refine TC.skip ?_
    refine TE.next hK6 ?_
    clear hK6
    refine TC.seq (fun K7 hK7 => ?_)
    refine TC.block ?_
    refine TC.seq (fun K8 hK8 => ?_)
    refine TC.region ?_
    refine TL.v (Want.plain rfl) rfl rfl (PV.indexSlV (r := off_a + k * 11) hv_a rfl Try.underlying67 sz70 rfl rfl (by omega) (by omega) (by omega)) ?_
    refine TL.v (Want.plain rfl) rfl rfl (PV.loadNX (vs := ints (l[k]).flat) rfl Try.underlying70 rfl sz70 rfl (RdX.frm hb_a (fun _ h => Frm.of h)) (OpT.len _) (hs_a.trans hE_a)) ?_
    refine TL.alloc (Want.plain rfl) rfl rfl rfl z70 (fun b5 => ?_)
    change TL _ _ _ _ _ _ _ _ _ [blkA b5 (ints OpT.zero.flat) 70, ownB u (encOps (l.take k)) 5]
    refine TL.store (vs := ints (l[k]).flat) (i := 0) (H' := [blkA b5 (ints (l[k]).flat) 70, ownB u (encOps (l.take k)) 5]) (Want.plain rfl) rfl rfl rfl rfl rfl (by rw [(OpT.len (l[k]))]; exact sz70) (ints_one _) rfl rfl (by have h0 := (OpT.len OpT.zero); have h1 := (OpT.len (l[k])); omega) (wwhole ((OpT.len OpT.zero).trans (OpT.len (l[k])).symm)) rfl ?_
    refine TL.nil ?_
    refine TE.next hK8 ?_
    clear hK8
    refine TC.seq (fun K9 hK9 => ?_)
    refine TC.draw (fun w => Frm F w ∧ w.heap[b5]? = some (.cells (ints (l[k]).flat).toArray 70 (0, 0)) ∧ True) mixed rfl (fun _ s => ⟨Frm.of s, s.block 0 (lb rfl) rfl, trivial⟩) ?_
    refine TD.take (i := 0) rfl (by kernel_rfl) (by kernel_rfl) (by kernel_rfl) (fun _ _ _ _ h => h) (Want.plain rfl) rfl rfl (PV.move rfl rfl) ?_
    refine TD.take (i := 1) rfl (by kernel_rfl) (by kernel_rfl) (by kernel_rfl) (fun _ _ _ _ h => h) (Want.plain rfl) rfl rfl (PV.fieldAddr (r := 0) rfl Try.underlying70 rfl sz3 rfl rfl) ?_
    refine TD.take (i := 2) rfl (by kernel_rfl) (by kernel_rfl) (by kernel_rfl) (fun _ _ _ _ h => h) (Want.plain rfl) rfl rfl (PV.load1 (v := (.int .i64 ((l[k]).kind))) rfl Try.underlying3 rfl rfl (fun _ h => h.2.1) (OpT.at_kind (l[k]) rfl)) ?_
    refine TD.take (i := 3) rfl (by kernel_rfl) (by kernel_rfl) (by kernel_rfl) (fun _ _ _ _ h => h) (Want.plain rfl) rfl rfl (PV.fieldAddr (r := 1) rfl Try.underlying70 rfl sz3 rfl rfl) ?_
    refine TD.take (i := 4) rfl (by kernel_rfl) (by kernel_rfl) (by kernel_rfl) (fun _ _ _ _ h => h) (Want.plain rfl) rfl rfl (PV.load1 (v := (.int .i64 ((l[k]).at'))) rfl Try.underlying3 rfl rfl (fun _ h => h.2.1) (OpT.at_at' (l[k]) rfl)) ?_
    refine TD.take (i := 6) rfl (by kernel_rfl) (by kernel_rfl) (by kernel_rfl) (fun _ _ _ _ h => h) (Want.plain rfl) rfl rfl (PV.fieldAddr (r := 2) rfl Try.underlying70 rfl sz3 rfl rfl) ?_
    refine TD.take (i := 7) rfl (by kernel_rfl) (by kernel_rfl) (by kernel_rfl) (fun _ _ _ _ h => h) (Want.plain rfl) rfl rfl (PV.load1 (v := (.int .i64 ((l[k]).to'))) rfl Try.underlying3 rfl rfl (fun _ h => h.2.1) (OpT.at_to' (l[k]) rfl)) ?_
    refine TD.take (i := 8) rfl (by kernel_rfl) (by kernel_rfl) (by kernel_rfl) (fun _ _ _ _ h => h) (Want.plain rfl) rfl rfl (PV.fieldAddr (r := 3) rfl Try.underlying70 rfl sz3 rfl rfl) ?_
    refine TD.take (i := 9) rfl (by kernel_rfl) (by kernel_rfl) (by kernel_rfl) (fun _ _ _ _ h => h) (Want.plain rfl) rfl rfl (PV.load1 (v := (.int .i64 ((l[k]).key))) rfl Try.underlying3 rfl rfl (fun _ h => h.2.1) (OpT.at_key (l[k]) rfl)) ?_
    refine TD.take (i := 11) rfl (by kernel_rfl) (by kernel_rfl) (by kernel_rfl) (fun _ _ _ _ h => h) (Want.plain rfl) rfl rfl (PV.fieldAddr (r := 4) rfl Try.underlying70 rfl sz3 rfl rfl) ?_
    refine TD.take (i := 12) rfl (by kernel_rfl) (by kernel_rfl) (by kernel_rfl) (fun _ _ _ _ h => h) (Want.plain rfl) rfl rfl (PV.load1 (v := (.int .i64 ((l[k]).n))) rfl Try.underlying3 rfl rfl (fun _ h => h.2.1) (OpT.at_n (l[k]) rfl)) ?_
    refine TD.take (i := 13) rfl (by kernel_rfl) (by kernel_rfl) (by kernel_rfl) (fun _ _ _ _ h => h) (Want.plain rfl) rfl rfl (PV.convI (r := (((r8 ((l[k]).n)).toNat : Nat) : Int)) rfl Try.underlying3 Try.underlying5 rfl (r8_wrap _)) ?_
    refine TD.all [5] (by kernel_rfl) rfl ?_
    refine AllT.cons rfl ?_ ?_
    · skip
      refine TL.callR (A := []) (B := [blkA b5 (ints (l[k]).flat) 70, ownB u (encOps (l.take k)) 5]) (Want.plain rfl) rfl rfl rfl nm45 rfl (halves_does ((l[k]).kind) ((l[k]).at')) (fun _ s => s) (fun _ _ _ => trivial) (fun vR HR hR => ?_)
      obtain ⟨rfl, rfl⟩ := hR
      change TL _ _ _ _ _ _ _ _ _ [blkA b5 (ints (l[k]).flat) 70, ownB u (encOps (l.take k)) 5]
      refine TL.nil ?_
      refine TE.draw (fun _ s => ⟨Frm.of s, s.block 0 (lb rfl) rfl, trivial⟩) ?_
      refine TD.all [10] (by kernel_rfl) rfl ?_
      refine AllT.cons rfl ?_ ?_
      · skip
        refine TL.callR (A := []) (B := [blkA b5 (ints (l[k]).flat) 70, ownB u (encOps (l.take k)) 5]) (Want.plain rfl) rfl rfl rfl nm45 rfl (halves_does ((l[k]).to') ((l[k]).key)) (fun _ s => s) (fun _ _ _ => trivial) (fun vR HR hR => ?_)
        obtain ⟨rfl, rfl⟩ := hR
        change TL _ _ _ _ _ _ _ _ _ [blkA b5 (ints (l[k]).flat) 70, ownB u (encOps (l.take k)) 5]
        refine TL.nil ?_
        refine TE.draw (fun _ s => ⟨Frm.of s, s.block 0 (lb rfl) rfl, trivial⟩) ?_
        refine TD.all [14] (by kernel_rfl) rfl ?_
        refine AllT.cons rfl ?_ ?_
        · skip
          refine TL.buildSlice (cells := #[(.int .u8 ((((hv ((l[k]).kind) ((l[k]).at')).toNat : Nat) : Int))), (.int .u8 ((((hv ((l[k]).to') ((l[k]).key)).toNat : Nat) : Int))), (.int .u8 ((((r8 ((l[k]).n)).toNat : Nat) : Int)))]) (Want.plain rfl) rfl rfl rfl Try.underlying27 in5 rfl rfl rfl (by as_aux_lemma => kernel_rfl) (fun b26 => ?_)
          change TL _ _ _ _ _ _ _ _ _ [blkA b26 [(.int .u8 ((((hv ((l[k]).kind) ((l[k]).at')).toNat : Nat) : Int))), (.int .u8 ((((hv ((l[k]).to') ((l[k]).key)).toNat : Nat) : Int))), (.int .u8 ((((r8 ((l[k]).n)).toNat : Nat) : Int)))] 5, blkA b5 (ints (l[k]).flat) 70, ownB u (encOps (l.take k)) 5]
          refine TL.nil ?_
          refine TE.draw (fun _ s => ⟨Frm.of s, s.block 1 (lb rfl) rfl, trivial⟩) ?_
          refine TD.all [15] (by kernel_rfl) rfl ?_
          refine AllT.cons rfl ?_ ?_
          · skip
            refine TL.append (k := 2) (news := u8s ([(hv ((l[k]).kind) ((l[k]).at')), (hv ((l[k]).to') ((l[k]).key)), (r8 ((l[k]).n))])) (nn' := (encOps (l.take k) ++ [(hv ((l[k]).kind) ((l[k]).at')), (hv ((l[k]).to') ((l[k]).key)), (r8 ((l[k]).n))] : List UInt8).length) (xs' := u8s (encOps (l.take k) ++ [(hv ((l[k]).kind) ((l[k]).at')), (hv ((l[k]).to') ((l[k]).key)), (r8 ((l[k]).n))])) (Want.plain rfl) rfl rfl rfl Try.underlying27 in5 rfl rfl rfl rfl rfl rfl (fun _ _ => Src.rd rfl (Rd.own 0 rfl rfl) rfl) (u8s_one [(hv ((l[k]).kind) ((l[k]).at')), (hv ((l[k]).to') ((l[k]).key)), (r8 ((l[k]).n))]) (by simp only [maxLen, List.length_cons, List.length_nil, List.length_append]; omega) (by first | omega | (simp only [List.length_cons, List.length_nil, List.length_append]; omega)) (by simp) (u8s_append _ _).symm (fun v27 ov27 => ?_)
            change TL _ _ _ _ _ _ _ _ _ [blkA b26 [(.int .u8 ((((hv ((l[k]).kind) ((l[k]).at')).toNat : Nat) : Int))), (.int .u8 ((((hv ((l[k]).to') ((l[k]).key)).toNat : Nat) : Int))), (.int .u8 ((((r8 ((l[k]).n)).toNat : Nat) : Int)))] 5, blkA b5 (ints (l[k]).flat) 70, ownB v27 (encOps (l.take k) ++ [(hv ((l[k]).kind) ((l[k]).at')), (hv ((l[k]).to') ((l[k]).key)), (r8 ((l[k]).n))]) 5]
            refine TL.nil ?_
            refine TE.draw (fun _ s => ⟨Frm.of s, s.block 1 (lb rfl) rfl, trivial⟩) ?_
            refine TD.take (i := 16) rfl (by kernel_rfl) (by kernel_rfl) (by kernel_rfl) (fun _ _ _ _ h => h) (Want.plain rfl) rfl rfl (PV.assign rfl rfl) ?_
            refine TD.done (by kernel_rfl) ?_
            refine TE.next hK9 ?_
            clear hK9
            refine TC.seq (fun K10 hK10 => ?_)
            refine TC.region ?_
            refine TL.v (Want.plain rfl) rfl rfl (PV.fieldAddr (r := 0) rfl Try.underlying70 rfl sz3 rfl rfl) ?_
            refine TL.v (Want.plain rfl) rfl rfl (PV.load1 (v := (.int .i64 ((l[k]).kind))) rfl Try.underlying3 rfl rfl (Rd.own 1 rfl rfl) (OpT.at_kind (l[k]) rfl)) ?_
            refine TL.v (Want.plain rfl) rfl rfl (PV.eql rfl rfl rfl) ?_
            refine TL.dec (fun h30 => ?_) (fun h30 => ?_)
            · skip
              refine TL.nil ?_
              refine TE.next hK10 ?_
              clear hK10
              refine TC.yes rfl ?_
              refine TC.draw (fun w => Frm F w ∧ w.heap[b5]? = some (.cells (ints (l[k]).flat).toArray 70 (0, 0)) ∧ True) mixed rfl (fun _ s => ⟨Frm.of s, s.block 1 (lb rfl) rfl, trivial⟩) ?_
              refine TD.take (i := 0) rfl (by kernel_rfl) (by kernel_rfl) (by kernel_rfl) (fun _ _ _ _ h => h) (Want.plain rfl) rfl rfl (PV.move rfl rfl) ?_
              refine TD.take (i := 1) rfl (by kernel_rfl) (by kernel_rfl) (by kernel_rfl) (fun _ _ _ _ h => h) (Want.plain rfl) rfl rfl (PV.fieldAddr (r := 5) rfl Try.underlying70 rfl sz42 rfl rfl) ?_
              refine TD.take (i := 2) rfl (by kernel_rfl) (by kernel_rfl) (by kernel_rfl) (fun _ _ _ _ h => h) (Want.plain rfl) rfl rfl (PV.fieldAddr (r := 5) rfl Try.underlying42 rfl sz3 rfl rfl) ?_
              refine TD.take (i := 3) rfl (by kernel_rfl) (by kernel_rfl) (by kernel_rfl) (fun _ _ _ _ h => h) (Want.plain rfl) rfl rfl (PV.load1 (v := (.int .i64 (((l[k]).change).kind))) rfl Try.underlying3 rfl rfl (fun _ h => h.2.1) (OpT.pt_change (l[k]) 0 rfl (by decide) (ChangeT.at_kind ((l[k]).change) rfl))) ?_
              refine TD.take (i := 4) rfl (by kernel_rfl) (by kernel_rfl) (by kernel_rfl) (fun _ _ _ _ h => h) (Want.plain rfl) rfl rfl (PV.fieldAddr (r := 5) rfl Try.underlying70 rfl sz42 rfl rfl) ?_
              refine TD.take (i := 5) rfl (by kernel_rfl) (by kernel_rfl) (by kernel_rfl) (fun _ _ _ _ h => h) (Want.plain rfl) rfl rfl (PV.fieldAddr (r := 6) rfl Try.underlying42 rfl sz3 rfl rfl) ?_
              refine TD.take (i := 6) rfl (by kernel_rfl) (by kernel_rfl) (by kernel_rfl) (fun _ _ _ _ h => h) (Want.plain rfl) rfl rfl (PV.load1 (v := (.int .i64 (((l[k]).change).who))) rfl Try.underlying3 rfl rfl (fun _ h => h.2.1) (OpT.pt_change (l[k]) 1 rfl (by decide) (ChangeT.at_who ((l[k]).change) rfl))) ?_
              refine TD.take (i := 8) rfl (by kernel_rfl) (by kernel_rfl) (by kernel_rfl) (fun _ _ _ _ h => h) (Want.plain rfl) rfl rfl (PV.fieldAddr (r := 5) rfl Try.underlying70 rfl sz42 rfl rfl) ?_
              refine TD.take (i := 9) rfl (by kernel_rfl) (by kernel_rfl) (by kernel_rfl) (fun _ _ _ _ h => h) (Want.plain rfl) rfl rfl (PV.fieldAddr (r := 7) rfl Try.underlying42 rfl sz3 rfl rfl) ?_
              refine TD.take (i := 10) rfl (by kernel_rfl) (by kernel_rfl) (by kernel_rfl) (fun _ _ _ _ h => h) (Want.plain rfl) rfl rfl (PV.load1 (v := (.int .i64 (((l[k]).change).heir))) rfl Try.underlying3 rfl rfl (fun _ h => h.2.1) (OpT.pt_change (l[k]) 2 rfl (by decide) (ChangeT.at_heir ((l[k]).change) rfl))) ?_
              refine TD.take (i := 11) rfl (by kernel_rfl) (by kernel_rfl) (by kernel_rfl) (fun _ _ _ _ h => h) (Want.plain rfl) rfl rfl (PV.convI (r := (((r8 (((l[k]).change).heir)).toNat : Nat) : Int)) rfl Try.underlying3 Try.underlying5 rfl (r8_wrap _)) ?_
              refine TD.all [7] (by kernel_rfl) rfl ?_
              refine AllT.cons rfl ?_ ?_
              · skip
                refine TL.callR (A := []) (B := [blkA b26 [(.int .u8 ((((hv ((l[k]).kind) ((l[k]).at')).toNat : Nat) : Int))), (.int .u8 ((((hv ((l[k]).to') ((l[k]).key)).toNat : Nat) : Int))), (.int .u8 ((((r8 ((l[k]).n)).toNat : Nat) : Int)))] 5, blkA b5 (ints (l[k]).flat) 70, ownB v27 (encOps (l.take k) ++ [(hv ((l[k]).kind) ((l[k]).at')), (hv ((l[k]).to') ((l[k]).key)), (r8 ((l[k]).n))]) 5]) (Want.plain rfl) rfl rfl rfl nm45 rfl (halves_does (((l[k]).change).kind) (((l[k]).change).who)) (fun _ s => s) (fun _ _ _ => trivial) (fun vR HR hR => ?_)
                obtain ⟨rfl, rfl⟩ := hR
                change TL _ _ _ _ _ _ _ _ _ [blkA b26 [(.int .u8 ((((hv ((l[k]).kind) ((l[k]).at')).toNat : Nat) : Int))), (.int .u8 ((((hv ((l[k]).to') ((l[k]).key)).toNat : Nat) : Int))), (.int .u8 ((((r8 ((l[k]).n)).toNat : Nat) : Int)))] 5, blkA b5 (ints (l[k]).flat) 70, ownB v27 (encOps (l.take k) ++ [(hv ((l[k]).kind) ((l[k]).at')), (hv ((l[k]).to') ((l[k]).key)), (r8 ((l[k]).n))]) 5]
                refine TL.nil ?_
                refine TE.draw (fun _ s => ⟨Frm.of s, s.block 1 (lb rfl) rfl, trivial⟩) ?_
                refine TD.all [12] (by kernel_rfl) rfl ?_
                refine AllT.cons rfl ?_ ?_
                · skip
                  refine TL.buildSlice (cells := #[(.int .u8 ((((hv (((l[k]).change).kind) (((l[k]).change).who)).toNat : Nat) : Int))), (.int .u8 ((((r8 (((l[k]).change).heir)).toNat : Nat) : Int)))]) (Want.plain rfl) rfl rfl rfl Try.underlying27 in5 rfl rfl rfl (by as_aux_lemma => kernel_rfl) (fun b43 => ?_)
                  change TL _ _ _ _ _ _ _ _ _ [blkA b43 [(.int .u8 ((((hv (((l[k]).change).kind) (((l[k]).change).who)).toNat : Nat) : Int))), (.int .u8 ((((r8 (((l[k]).change).heir)).toNat : Nat) : Int)))] 5, blkA b26 [(.int .u8 ((((hv ((l[k]).kind) ((l[k]).at')).toNat : Nat) : Int))), (.int .u8 ((((hv ((l[k]).to') ((l[k]).key)).toNat : Nat) : Int))), (.int .u8 ((((r8 ((l[k]).n)).toNat : Nat) : Int)))] 5, blkA b5 (ints (l[k]).flat) 70, ownB v27 (encOps (l.take k) ++ [(hv ((l[k]).kind) ((l[k]).at')), (hv ((l[k]).to') ((l[k]).key)), (r8 ((l[k]).n))]) 5]
                  refine TL.nil ?_
                  refine TE.draw (fun _ s => ⟨Frm.of s, s.block 2 (lb rfl) rfl, trivial⟩) ?_
                  refine TD.all [13] (by kernel_rfl) rfl ?_
                  refine AllT.cons rfl ?_ ?_
                  · skip
                    refine TL.append (k := 3) (news := u8s ([(hv (((l[k]).change).kind) (((l[k]).change).who)), (r8 (((l[k]).change).heir))])) (nn' := (encOps (l.take k) ++ [(hv ((l[k]).kind) ((l[k]).at')), (hv ((l[k]).to') ((l[k]).key)), (r8 ((l[k]).n))] ++ [(hv (((l[k]).change).kind) (((l[k]).change).who)), (r8 (((l[k]).change).heir))] : List UInt8).length) (xs' := u8s (encOps (l.take k) ++ [(hv ((l[k]).kind) ((l[k]).at')), (hv ((l[k]).to') ((l[k]).key)), (r8 ((l[k]).n))] ++ [(hv (((l[k]).change).kind) (((l[k]).change).who)), (r8 (((l[k]).change).heir))])) (Want.plain rfl) rfl rfl rfl Try.underlying27 in5 rfl rfl rfl rfl rfl rfl (fun _ _ => Src.rd rfl (Rd.own 0 rfl rfl) rfl) (u8s_one [(hv (((l[k]).change).kind) (((l[k]).change).who)), (r8 (((l[k]).change).heir))]) (by simp only [maxLen, List.length_cons, List.length_nil, List.length_append]; omega) (by first | omega | (simp only [List.length_cons, List.length_nil, List.length_append]; omega)) (by simp) (u8s_append _ _).symm (fun v44 ov44 => ?_)
                    change TL _ _ _ _ _ _ _ _ _ [blkA b43 [(.int .u8 ((((hv (((l[k]).change).kind) (((l[k]).change).who)).toNat : Nat) : Int))), (.int .u8 ((((r8 (((l[k]).change).heir)).toNat : Nat) : Int)))] 5, blkA b26 [(.int .u8 ((((hv ((l[k]).kind) ((l[k]).at')).toNat : Nat) : Int))), (.int .u8 ((((hv ((l[k]).to') ((l[k]).key)).toNat : Nat) : Int))), (.int .u8 ((((r8 ((l[k]).n)).toNat : Nat) : Int)))] 5, blkA b5 (ints (l[k]).flat) 70, ownB v44 (encOps (l.take k) ++ [(hv ((l[k]).kind) ((l[k]).at')), (hv ((l[k]).to') ((l[k]).key)), (r8 ((l[k]).n))] ++ [(hv (((l[k]).change).kind) (((l[k]).change).who)), (r8 (((l[k]).change).heir))]) 5]
                    refine TL.nil ?_
                    refine TE.draw (fun _ s => ⟨Frm.of s, s.block 2 (lb rfl) rfl, trivial⟩) ?_
                    refine TD.take (i := 14) rfl (by kernel_rfl) (by kernel_rfl) (by kernel_rfl) (fun _ _ _ _ h => h) (Want.plain rfl) rfl rfl (PV.assign rfl rfl) ?_
                    refine TD.done (by kernel_rfl) ?_
                    refine TE.blockEnd ?_
                    refine TE.next hK7 ?_
                    clear hK7
                    refine TC.region ?_
                    refine TL.v (Want.plain rfl) rfl rfl (PV.add rfl rfl rfl (wrap_i64 (by omega) (by omega))) ?_
                    refine TL.v (Want.plain rfl) rfl rfl (PV.move rfl rfl) ?_
                    refine TL.nil ?_
                    exact TE.round ((k + 1, v44) : (Nat) × (Value)) ⟨by omega, ov44⟩ (by show l.length - (k + 1) < l.length - k; omega)
                      (Sub.r (Sub.r (Sub.r (Sub.r (Sub.cons rfl (by simp) (Sub.nil _))))))
                      (fun _ s => by
      show sep [ownB v44 (encOps (l.take (k + 1))) 5] _
      rw [show encOps (l.take (k + 1)) = encOps (l.take k) ++ [(hv ((l[k]).kind) ((l[k]).at')), (hv ((l[k]).to') ((l[k]).key)), (r8 ((l[k]).n))] ++ [(hv (((l[k]).change).kind) (((l[k]).change).who)), (r8 (((l[k]).change).heir))] by rw [List.take_succ_eq_append_getElem (by omega), encOps, List.flatMap_append]; simp [encOps, encOp, h30, r8_wrapI]]
      exact sep_keep [3] rfl s)
                  exact AllT.nil
                exact AllT.nil
              exact AllT.nil
            · skip
              refine TL.nil ?_
              refine TE.next hK10 ?_
              clear hK10
              refine TC.no rfl ?_
              refine TC.region ?_
              refine TL.v (Want.plain rfl) rfl rfl (PV.move rfl rfl) ?_
              refine TL.v (Want.plain rfl) rfl rfl (PV.fieldAddr (r := 8) rfl Try.underlying70 rfl sz3 rfl rfl) ?_
              refine TL.v (Want.plain rfl) rfl rfl (PV.load1 (v := (.int .i64 ((l[k]).mask))) rfl Try.underlying3 rfl rfl (Rd.own 1 rfl rfl) (OpT.at_mask (l[k]) rfl)) ?_
              refine TL.v (Want.plain rfl) rfl rfl (PV.convI (r := (((r8 ((l[k]).mask)).toNat : Nat) : Int)) rfl Try.underlying3 Try.underlying5 rfl (r8_wrap _)) ?_
              refine TL.v (Want.plain rfl) rfl rfl (PV.fieldAddr (r := 9) rfl Try.underlying70 rfl sz3 rfl rfl) ?_
              refine TL.v (Want.plain rfl) rfl rfl (PV.load1 (v := (.int .i64 ((l[k]).torn))) rfl Try.underlying3 rfl rfl (Rd.own 1 rfl rfl) (OpT.at_torn (l[k]) rfl)) ?_
              refine TL.v (Want.plain rfl) rfl rfl (PV.add (r := (IntKind.i64.wrap ((l[k]).torn + 1))) rfl rfl rfl rfl) ?_
              refine TL.v (Want.plain rfl) rfl rfl (PV.convI (r := (((r8 (IntKind.i64.wrap ((l[k]).torn + 1))).toNat : Nat) : Int)) rfl Try.underlying3 Try.underlying5 rfl (r8_wrap _)) ?_
              refine TL.buildSlice (cells := #[(.int .u8 ((((r8 ((l[k]).mask)).toNat : Nat) : Int))), (.int .u8 ((((r8 (IntKind.i64.wrap ((l[k]).torn + 1))).toNat : Nat) : Int)))]) (Want.plain rfl) rfl rfl rfl Try.underlying27 in5 rfl rfl rfl (by as_aux_lemma => kernel_rfl) (fun b53 => ?_)
              change TL _ _ _ _ _ _ _ _ _ [blkA b53 [(.int .u8 ((((r8 ((l[k]).mask)).toNat : Nat) : Int))), (.int .u8 ((((r8 (IntKind.i64.wrap ((l[k]).torn + 1))).toNat : Nat) : Int)))] 5, blkA b26 [(.int .u8 ((((hv ((l[k]).kind) ((l[k]).at')).toNat : Nat) : Int))), (.int .u8 ((((hv ((l[k]).to') ((l[k]).key)).toNat : Nat) : Int))), (.int .u8 ((((r8 ((l[k]).n)).toNat : Nat) : Int)))] 5, blkA b5 (ints (l[k]).flat) 70, ownB v27 (encOps (l.take k) ++ [(hv ((l[k]).kind) ((l[k]).at')), (hv ((l[k]).to') ((l[k]).key)), (r8 ((l[k]).n))]) 5]
              refine TL.append (k := 3) (news := u8s ([(r8 ((l[k]).mask)), (r8 (IntKind.i64.wrap ((l[k]).torn + 1)))])) (nn' := (encOps (l.take k) ++ [(hv ((l[k]).kind) ((l[k]).at')), (hv ((l[k]).to') ((l[k]).key)), (r8 ((l[k]).n))] ++ [(r8 ((l[k]).mask)), (r8 (IntKind.i64.wrap ((l[k]).torn + 1)))] : List UInt8).length) (xs' := u8s (encOps (l.take k) ++ [(hv ((l[k]).kind) ((l[k]).at')), (hv ((l[k]).to') ((l[k]).key)), (r8 ((l[k]).n))] ++ [(r8 ((l[k]).mask)), (r8 (IntKind.i64.wrap ((l[k]).torn + 1)))])) (Want.plain rfl) rfl rfl rfl Try.underlying27 in5 rfl rfl rfl rfl rfl rfl (fun _ _ => Src.rd rfl (Rd.own 0 rfl rfl) rfl) (u8s_one [(r8 ((l[k]).mask)), (r8 (IntKind.i64.wrap ((l[k]).torn + 1)))]) (by simp only [maxLen, List.length_cons, List.length_nil, List.length_append]; omega) (by first | omega | (simp only [List.length_cons, List.length_nil, List.length_append]; omega)) (by simp) (u8s_append _ _).symm (fun v54 ov54 => ?_)
              change TL _ _ _ _ _ _ _ _ _ [blkA b53 [(.int .u8 ((((r8 ((l[k]).mask)).toNat : Nat) : Int))), (.int .u8 ((((r8 (IntKind.i64.wrap ((l[k]).torn + 1))).toNat : Nat) : Int)))] 5, blkA b26 [(.int .u8 ((((hv ((l[k]).kind) ((l[k]).at')).toNat : Nat) : Int))), (.int .u8 ((((hv ((l[k]).to') ((l[k]).key)).toNat : Nat) : Int))), (.int .u8 ((((r8 ((l[k]).n)).toNat : Nat) : Int)))] 5, blkA b5 (ints (l[k]).flat) 70, ownB v54 (encOps (l.take k) ++ [(hv ((l[k]).kind) ((l[k]).at')), (hv ((l[k]).to') ((l[k]).key)), (r8 ((l[k]).n))] ++ [(r8 ((l[k]).mask)), (r8 (IntKind.i64.wrap ((l[k]).torn + 1)))]) 5]
              refine TL.v (Want.plain rfl) rfl rfl (PV.assign rfl rfl) ?_
              refine TL.nil ?_
              refine TE.blockEnd ?_
              refine TE.next hK7 ?_
              clear hK7
              refine TC.region ?_
              refine TL.v (Want.plain rfl) rfl rfl (PV.add rfl rfl rfl (wrap_i64 (by omega) (by omega))) ?_
              refine TL.v (Want.plain rfl) rfl rfl (PV.move rfl rfl) ?_
              refine TL.nil ?_
              exact TE.round ((k + 1, v54) : (Nat) × (Value)) ⟨by omega, ov54⟩ (by show l.length - (k + 1) < l.length - k; omega)
                (Sub.r (Sub.r (Sub.r (Sub.r (Sub.cons rfl (by simp) (Sub.nil _))))))
                (fun _ s => by
      show sep [ownB v54 (encOps (l.take (k + 1))) 5] _
      rw [show encOps (l.take (k + 1)) = encOps (l.take k) ++ [(hv ((l[k]).kind) ((l[k]).at')), (hv ((l[k]).to') ((l[k]).key)), (r8 ((l[k]).n))] ++ [(r8 ((l[k]).mask)), (r8 (IntKind.i64.wrap ((l[k]).torn + 1)))] by rw [List.take_succ_eq_append_getElem (by omega), encOps, List.flatMap_append]; simp [encOps, encOp, h30, r8_wrapI]]
      exact sep_keep [3] rfl s)
          exact AllT.nil
        exact AllT.nil
      exact AllT.nil
    exact AllT.nil
  · skip
    refine TL.nil ?_
    refine TE.next hK5 ?_
    clear hK5
    refine TC.seq (fun K11 hK11 => ?_)
    refine TC.no rfl ?_
    refine TC.exit ?_
    refine TE.pass ?_
    clear hK11
    refine TE.pass ?_
    refine TE.hit ?_
    refine TE.next hK3 ?_
    clear hK3
    refine TC.seq (fun K12 hK12 => ?_)
    refine TC.region ?_
    refine TL.v (Want.plain rfl) rfl rfl (PV.move rfl rfl) ?_
    refine TL.v (Want.plain rfl) rfl rfl (PV.assign rfl rfl) ?_
    refine TL.nil ?_
    refine TE.next hK12 ?_
    clear hK12
    refine TC.ret ?_
    refine TE.weak (Sub.refl _) (fun _ s => sep_keep [0] rfl s) ?_
    refine TE.ret1 rfl rfl ?_
    have e : l.take k = l := List.take_of_length_le (by omega)
    exact ⟨u, rfl, by show [ownB u (encOps (l.take k)) 5] = _; rw [e]⟩


theorem and15 (b : UInt8) : andI .u8 (((b.toNat : Nat) : Nat) : Int) 15 = (((b.toNat % 16 : Nat) : Nat) : Int) := and15f ⟨b.toNat, b.toNat_lt⟩
theorem shr4 (b : UInt8) : (((b.toNat : Nat) : Nat) : Int).fdiv (2 ^ min (4 : Int).toNat IntKind.u8.bits) = (((b.toNat / 16 : Nat) : Nat) : Int) := shr4f ⟨b.toNat, b.toNat_lt⟩
theorem lo4_wrap (b : UInt8) : IntKind.i64.wrap (((b.toNat % 16 : Nat) : Nat) : Int) = lo4 b := by unfold lo4; exact wrap_i64 (by omega) (by omega)
theorem hi4_wrap (b : UInt8) : IntKind.i64.wrap (((b.toNat / 16 : Nat) : Nat) : Int) = hi4 b := by unfold hi4; have := b.toNat_lt; exact wrap_i64 (by omega) (by omega)
theorem n8_wrap (b : UInt8) : IntKind.i64.wrap (((b.toNat : Nat) : Nat) : Int) = n8 b := by unfold n8; have := b.toNat_lt; exact wrap_i64 (by omega) (by omega)
theorem cutB_one {v : Value} {k : Nat} (h : v.oneCell' = true) : (cutB v k).oneCell' = true := by
  unfold cutB; split
  · rfl
  · exact h

theorem opsDecode_does (x : Value) (bs : List UInt8) (hl : bs.length ≤ 1000000) :
    Does Try.prog 25 #[x] (IsB x bs) [] (Ret (fun r' H => ∃ u, r' = u ∧ H = [own u ((opsP bs).length) (ints (List.flatMap OpT.flat (opsP bs))) 70 11])) := by
  refine Does.body (vs := [x]) (n := 76) Try.func25 rfl rfl rfl (fun w0 F hF => ?_)
  refine TC.seq (fun K1 hK1 => ?_)
  refine TC.region ?_
  refine TL.v (Want.plain rfl) rfl rfl (PV.assign rfl rfl) ?_
  refine TL.nil ?_
  refine TE.next hK1 ?_
  clear hK1
  refine TC.seq (fun K2 hK2 => ?_)
  refine TC.region ?_
  refine TL.v (Want.plain rfl) rfl rfl (PV.assign rfl rfl) ?_
  refine TL.nil ?_
  refine TE.next hK2 ?_
  clear hK2
  refine TC.seq (fun K3 hK3 => ?_)
  refine TC.block ?_
  refine TC.loop (α := (List UInt8) × (Value) × (List OpT) × (Value)) (fun ⟨r, xv, done, u⟩ => IsB xv r F ∧ r.length ≤ 1000000 ∧ done.length + r.length / 5 ≤ 1000000 ∧ opsP bs = done ++ opsP r ∧ xv.oneCell' = true ∧ u.oneCell' = true) (fun ⟨r, xv, done, u⟩ => [(0, xv), (2, (.slice none 0 0)), (3, u)]) (fun ⟨r, xv, done, u⟩ => [own u (done.length) (ints (List.flatMap OpT.flat done)) 70 11]) (fun ⟨r, xv, done, u⟩ => r.length) (bs, x, [], (.slice none 0 0))
      ⟨hF, hl, by simp; omega, rfl, hF.one, rfl⟩ (Sub.r (Sub.r (Sub.r (Sub.nil _))))
      (fun _ s => sep_ownNil 70 11 s) (fun ⟨r, xv, done, u⟩ hinv => ?_)
  obtain ⟨hB, hr, hd, ho, hx, hu⟩ := hinv
  have hU : IsW xv r F := IsB.w hB
  have hUl := hB.len
  refine TC.seq (fun K4 hK4 => ?_)
  refine TC.seq (fun K5 hK5 => ?_)
  refine TC.region ?_
  refine TL.v (Want.plain rfl) rfl rfl (PV.move rfl rfl) ?_
  refine TL.v (Want.plain rfl) rfl rfl (PV.lenV rfl Try.underlying27 rfl hUl) ?_
  refine TL.v (Want.plain rfl) rfl rfl (PV.geq rfl rfl rfl) ?_
  refine TL.dec (fun h7 => ?_) (fun h7 => ?_)
  · skip
    obtain ⟨b_b, off_b, cap_b, cs_b, T_b, z_b, hv_b, hb_b, hcs_b, hcp_b⟩ := IsW.at hU (j := 0) (by omega)
    have hlt_b := IsW.lt hU
    refine TL.nil ?_
    refine TE.next hK5 ?_
    clear hK5
    refine TC.yes rfl ?_
    refine TC.skip ?_
    refine TE.next hK4 ?_
    clear hK4
    refine TC.seq (fun K6 hK6 => ?_)
    refine TC.block ?_
    refine TC.seq (fun K7 hK7 => ?_)
    refine TC.draw (fun w => Frm F w ∧ True) mixed rfl (fun _ s => ⟨Frm.of s, trivial⟩) ?_
    refine TD.take (i := 0) rfl (by kernel_rfl) (by kernel_rfl) (by kernel_rfl) (fun _ _ _ _ h => h) (Want.plain rfl) rfl rfl (PV.move rfl rfl) ?_
    refine TD.take (i := 1) rfl (by kernel_rfl) (by kernel_rfl) (by kernel_rfl) (fun _ _ _ _ h => h) (Want.plain rfl) rfl rfl (PV.indexSlV (r := off_b) hv_b rfl Try.underlying27 sz5 rfl rfl (by omega) (by omega) (by omega)) ?_
    refine TD.take (i := 2) rfl (by kernel_rfl) (by kernel_rfl) (by kernel_rfl) (fun _ _ _ _ h => h) (Want.plain rfl) rfl rfl (PV.load1X (v := (.int .u8 (((((r).getD 0 0).toNat : Nat) : Int)))) rfl Try.underlying5 rfl rfl (RdX.frm hb_b (fun _ h => h.1)) (hcs_b 0 (by omega))) ?_
    refine TD.take (i := 3) rfl (by kernel_rfl) (by kernel_rfl) (by kernel_rfl) (fun _ _ _ _ h => h) (Want.plain rfl) rfl rfl (PV.and (r := ((((r.getD 0 0).toNat % 16 : Nat) : Nat) : Int)) rfl rfl rfl (and15 _)) ?_
    refine TD.take (i := 4) rfl (by kernel_rfl) (by kernel_rfl) (by kernel_rfl) (fun _ _ _ _ h => h) (Want.plain rfl) rfl rfl (PV.convI (r := (lo4 (r.getD 0 0))) rfl Try.underlying5 Try.underlying3 rfl (lo4_wrap _)) ?_
    refine TD.take (i := 5) rfl (by kernel_rfl) (by kernel_rfl) (by kernel_rfl) (fun _ _ _ _ h => h) (Want.plain rfl) rfl rfl (PV.move rfl rfl) ?_
    refine TD.take (i := 6) rfl (by kernel_rfl) (by kernel_rfl) (by kernel_rfl) (fun _ _ _ _ h => h) (Want.plain rfl) rfl rfl (PV.indexSlV (r := off_b) hv_b rfl Try.underlying27 sz5 rfl rfl (by omega) (by omega) (by omega)) ?_
    refine TD.take (i := 7) rfl (by kernel_rfl) (by kernel_rfl) (by kernel_rfl) (fun _ _ _ _ h => h) (Want.plain rfl) rfl rfl (PV.load1X (v := (.int .u8 (((((r).getD 0 0).toNat : Nat) : Int)))) rfl Try.underlying5 rfl rfl (RdX.frm hb_b (fun _ h => h.1)) (hcs_b 0 (by omega))) ?_
    refine TD.take (i := 8) rfl (by kernel_rfl) (by kernel_rfl) (by kernel_rfl) (fun _ _ _ _ h => h) (Want.plain rfl) rfl rfl (PV.shr (r := ((((r.getD 0 0).toNat / 16 : Nat) : Nat) : Int)) rfl rfl rfl (by omega) (shr4 _)) ?_
    refine TD.take (i := 9) rfl (by kernel_rfl) (by kernel_rfl) (by kernel_rfl) (fun _ _ _ _ h => h) (Want.plain rfl) rfl rfl (PV.convI (r := (hi4 (r.getD 0 0))) rfl Try.underlying5 Try.underlying3 rfl (hi4_wrap _)) ?_
    refine TD.take (i := 10) rfl (by kernel_rfl) (by kernel_rfl) (by kernel_rfl) (fun _ _ _ _ h => h) (Want.plain rfl) rfl rfl (PV.move rfl rfl) ?_
    refine TD.take (i := 11) rfl (by kernel_rfl) (by kernel_rfl) (by kernel_rfl) (fun _ _ _ _ h => h) (Want.plain rfl) rfl rfl (PV.indexSlV (r := off_b + 1) hv_b rfl Try.underlying27 sz5 rfl rfl (by omega) (by omega) (by omega)) ?_
    refine TD.take (i := 12) rfl (by kernel_rfl) (by kernel_rfl) (by kernel_rfl) (fun _ _ _ _ h => h) (Want.plain rfl) rfl rfl (PV.load1X (v := (.int .u8 (((((r).getD 1 0).toNat : Nat) : Int)))) rfl Try.underlying5 rfl rfl (RdX.frm hb_b (fun _ h => h.1)) (hcs_b 1 (by omega))) ?_
    refine TD.take (i := 13) rfl (by kernel_rfl) (by kernel_rfl) (by kernel_rfl) (fun _ _ _ _ h => h) (Want.plain rfl) rfl rfl (PV.and (r := ((((r.getD 1 0).toNat % 16 : Nat) : Nat) : Int)) rfl rfl rfl (and15 _)) ?_
    refine TD.take (i := 14) rfl (by kernel_rfl) (by kernel_rfl) (by kernel_rfl) (fun _ _ _ _ h => h) (Want.plain rfl) rfl rfl (PV.convI (r := (lo4 (r.getD 1 0))) rfl Try.underlying5 Try.underlying3 rfl (lo4_wrap _)) ?_
    refine TD.take (i := 15) rfl (by kernel_rfl) (by kernel_rfl) (by kernel_rfl) (fun _ _ _ _ h => h) (Want.plain rfl) rfl rfl (PV.move rfl rfl) ?_
    refine TD.take (i := 16) rfl (by kernel_rfl) (by kernel_rfl) (by kernel_rfl) (fun _ _ _ _ h => h) (Want.plain rfl) rfl rfl (PV.indexSlV (r := off_b + 1) hv_b rfl Try.underlying27 sz5 rfl rfl (by omega) (by omega) (by omega)) ?_
    refine TD.take (i := 17) rfl (by kernel_rfl) (by kernel_rfl) (by kernel_rfl) (fun _ _ _ _ h => h) (Want.plain rfl) rfl rfl (PV.load1X (v := (.int .u8 (((((r).getD 1 0).toNat : Nat) : Int)))) rfl Try.underlying5 rfl rfl (RdX.frm hb_b (fun _ h => h.1)) (hcs_b 1 (by omega))) ?_
    refine TD.take (i := 18) rfl (by kernel_rfl) (by kernel_rfl) (by kernel_rfl) (fun _ _ _ _ h => h) (Want.plain rfl) rfl rfl (PV.shr (r := ((((r.getD 1 0).toNat / 16 : Nat) : Nat) : Int)) rfl rfl rfl (by omega) (shr4 _)) ?_
    refine TD.take (i := 19) rfl (by kernel_rfl) (by kernel_rfl) (by kernel_rfl) (fun _ _ _ _ h => h) (Want.plain rfl) rfl rfl (PV.convI (r := (hi4 (r.getD 1 0))) rfl Try.underlying5 Try.underlying3 rfl (hi4_wrap _)) ?_
    refine TD.take (i := 20) rfl (by kernel_rfl) (by kernel_rfl) (by kernel_rfl) (fun _ _ _ _ h => h) (Want.plain rfl) rfl rfl (PV.move rfl rfl) ?_
    refine TD.take (i := 21) rfl (by kernel_rfl) (by kernel_rfl) (by kernel_rfl) (fun _ _ _ _ h => h) (Want.plain rfl) rfl rfl (PV.indexSlV (r := off_b + 2) hv_b rfl Try.underlying27 sz5 rfl rfl (by omega) (by omega) (by omega)) ?_
    refine TD.take (i := 22) rfl (by kernel_rfl) (by kernel_rfl) (by kernel_rfl) (fun _ _ _ _ h => h) (Want.plain rfl) rfl rfl (PV.load1X (v := (.int .u8 (((((r).getD 2 0).toNat : Nat) : Int)))) rfl Try.underlying5 rfl rfl (RdX.frm hb_b (fun _ h => h.1)) (hcs_b 2 (by omega))) ?_
    refine TD.take (i := 23) rfl (by kernel_rfl) (by kernel_rfl) (by kernel_rfl) (fun _ _ _ _ h => h) (Want.plain rfl) rfl rfl (PV.convI (r := (n8 (r.getD 2 0))) rfl Try.underlying5 Try.underlying3 rfl (n8_wrap _)) ?_
    refine TD.take (i := 24) rfl (by kernel_rfl) (by kernel_rfl) (by kernel_rfl) (fun _ _ _ _ h => h) (Want.plain rfl) rfl rfl (PV.buildSegs (cs := ints (OpT.mk (lo4 (r.getD 0 0)) (hi4 (r.getD 0 0)) (lo4 (r.getD 1 0)) (hi4 (r.getD 1 0)) (n8 (r.getD 2 0)) ChangeT.zero 0 0 0).flat) (segs := [[Value.int .i64 0], [Value.int .i64 0], [Value.int .i64 0], [Value.int .i64 0], [Value.int .i64 0], ints ChangeT.zero.flat, [Value.int .i64 0], [Value.int .i64 0], [Value.int .i64 0]]) (res := [[Value.int .i64 (lo4 (r.getD 0 0))], [Value.int .i64 (hi4 (r.getD 0 0))], [Value.int .i64 (lo4 (r.getD 1 0))], [Value.int .i64 (hi4 (r.getD 1 0))], [Value.int .i64 (n8 (r.getD 2 0))], ints ChangeT.zero.flat, [Value.int .i64 0], [Value.int .i64 0], [Value.int .i64 0]]) (parts := [(0, [Value.int .i64 (lo4 (r.getD 0 0))]), (1, [Value.int .i64 (hi4 (r.getD 0 0))]), (2, [Value.int .i64 (lo4 (r.getD 1 0))]), (3, [Value.int .i64 (hi4 (r.getD 1 0))]), (4, [Value.int .i64 (n8 (r.getD 2 0))])]) rfl rfl Try.underlying70 (by kernel_rfl) (by kernel_rfl) rfl (putSegs_step rfl ((rfl : [Value.int .i64 (lo4 (r.getD 0 0))].length = 1).trans (rfl : [Value.int .i64 0].length = 1).symm) (putSegs_step rfl ((rfl : [Value.int .i64 (hi4 (r.getD 0 0))].length = 1).trans (rfl : [Value.int .i64 0].length = 1).symm) (putSegs_step rfl ((rfl : [Value.int .i64 (lo4 (r.getD 1 0))].length = 1).trans (rfl : [Value.int .i64 0].length = 1).symm) (putSegs_step rfl ((rfl : [Value.int .i64 (hi4 (r.getD 1 0))].length = 1).trans (rfl : [Value.int .i64 0].length = 1).symm) (putSegs_step rfl ((rfl : [Value.int .i64 (n8 (r.getD 2 0))].length = 1).trans (rfl : [Value.int .i64 0].length = 1).symm) putSegs_nil))))) (OpT.eq (OpT.mk (lo4 (r.getD 0 0)) (hi4 (r.getD 0 0)) (lo4 (r.getD 1 0)) (hi4 (r.getD 1 0)) (n8 (r.getD 2 0)) ChangeT.zero 0 0 0)).symm) ?_
    refine TD.all [25] (by kernel_rfl) rfl ?_
    refine AllT.cons rfl ?_ ?_
    · skip
      refine TL.alloc (Want.plain rfl) rfl rfl rfl z70 (fun b4 => ?_)
      change TL _ _ _ _ _ _ _ _ _ [blkA b4 (ints OpT.zero.flat) 70, own u (done.length) (ints (List.flatMap OpT.flat done)) 70 11]
      refine TL.nil ?_
      refine TE.draw (fun _ s => ⟨Frm.of s, trivial⟩) ?_
      refine TD.all [26] (by kernel_rfl) rfl ?_
      refine AllT.cons rfl ?_ ?_
      · skip
        refine TL.store (vs := ints (OpT.mk (lo4 (r.getD 0 0)) (hi4 (r.getD 0 0)) (lo4 (r.getD 1 0)) (hi4 (r.getD 1 0)) (n8 (r.getD 2 0)) ChangeT.zero 0 0 0).flat) (i := 0) (H' := [blkA b4 (ints (OpT.mk (lo4 (r.getD 0 0)) (hi4 (r.getD 0 0)) (lo4 (r.getD 1 0)) (hi4 (r.getD 1 0)) (n8 (r.getD 2 0)) ChangeT.zero 0 0 0).flat) 70, own u (done.length) (ints (List.flatMap OpT.flat done)) 70 11]) (Want.plain rfl) rfl rfl rfl rfl rfl (by rw [(OpT.len (OpT.mk (lo4 (r.getD 0 0)) (hi4 (r.getD 0 0)) (lo4 (r.getD 1 0)) (hi4 (r.getD 1 0)) (n8 (r.getD 2 0)) ChangeT.zero 0 0 0))]; exact sz70) (ints_one _) rfl rfl (by have h0 := (OpT.len OpT.zero); have h1 := (OpT.len (OpT.mk (lo4 (r.getD 0 0)) (hi4 (r.getD 0 0)) (lo4 (r.getD 1 0)) (hi4 (r.getD 1 0)) (n8 (r.getD 2 0)) ChangeT.zero 0 0 0)); omega) (wwhole ((OpT.len OpT.zero).trans (OpT.len (OpT.mk (lo4 (r.getD 0 0)) (hi4 (r.getD 0 0)) (lo4 (r.getD 1 0)) (hi4 (r.getD 1 0)) (n8 (r.getD 2 0)) ChangeT.zero 0 0 0)).symm)) rfl ?_
        refine TL.nil ?_
        refine TE.draw (fun _ s => ⟨Frm.of s, trivial⟩) ?_
        refine TD.done (by kernel_rfl) ?_
        refine TE.next hK7 ?_
        clear hK7
        refine TC.seq (fun K8 hK8 => ?_)
        refine TC.seq (fun K9 hK9 => ?_)
        refine TC.region ?_
        refine TL.v (Want.plain rfl) rfl rfl (PV.fieldAddr (r := 0) rfl Try.underlying70 rfl sz3 rfl rfl) ?_
        refine TL.v (Want.plain rfl) rfl rfl (PV.load1 (v := (.int .i64 ((lo4 (r.getD 0 0))))) rfl Try.underlying3 rfl rfl (Rd.own 0 rfl rfl) (OpT.at_kind (OpT.mk (lo4 (r.getD 0 0)) (hi4 (r.getD 0 0)) (lo4 (r.getD 1 0)) (hi4 (r.getD 1 0)) (n8 (r.getD 2 0)) ChangeT.zero 0 0 0) rfl)) ?_
        refine TL.nil ?_
        refine TE.next hK9 ?_
        clear hK9
        refine TC.block ?_
        refine TC.seq (fun K10 hK10 => ?_)
        refine TC.region ?_
        refine TL.v (Want.plain rfl) rfl rfl (PV.eql rfl rfl rfl) ?_
        refine TL.dec (fun h38 => ?_) (fun h38 => ?_)
        · skip
          refine TL.v (Want.plain rfl) rfl rfl (PV.assign rfl rfl) ?_
          refine TL.nil ?_
          refine TE.next hK10 ?_
          clear hK10
          refine TC.yes rfl ?_
          refine TC.draw (fun w => Frm F w ∧ True) mixed rfl (fun _ s => ⟨Frm.of s, trivial⟩) ?_
          refine TD.take (i := 0) rfl (by kernel_rfl) (by kernel_rfl) (by kernel_rfl) (fun _ _ _ _ h => h) (Want.plain rfl) rfl rfl (PV.move rfl rfl) ?_
          refine TD.take (i := 1) rfl (by kernel_rfl) (by kernel_rfl) (by kernel_rfl) (fun _ _ _ _ h => h) (Want.plain rfl) rfl rfl (PV.indexSlV (r := off_b + 3) hv_b rfl Try.underlying27 sz5 rfl rfl (by omega) (by omega) (by omega)) ?_
          refine TD.take (i := 2) rfl (by kernel_rfl) (by kernel_rfl) (by kernel_rfl) (fun _ _ _ _ h => h) (Want.plain rfl) rfl rfl (PV.load1X (v := (.int .u8 (((((r).getD 3 0).toNat : Nat) : Int)))) rfl Try.underlying5 rfl rfl (RdX.frm hb_b (fun _ h => h.1)) (hcs_b 3 (by omega))) ?_
          refine TD.take (i := 3) rfl (by kernel_rfl) (by kernel_rfl) (by kernel_rfl) (fun _ _ _ _ h => h) (Want.plain rfl) rfl rfl (PV.and (r := ((((r.getD 3 0).toNat % 16 : Nat) : Nat) : Int)) rfl rfl rfl (and15 _)) ?_
          refine TD.take (i := 4) rfl (by kernel_rfl) (by kernel_rfl) (by kernel_rfl) (fun _ _ _ _ h => h) (Want.plain rfl) rfl rfl (PV.convI (r := (lo4 (r.getD 3 0))) rfl Try.underlying5 Try.underlying3 rfl (lo4_wrap _)) ?_
          refine TD.take (i := 5) rfl (by kernel_rfl) (by kernel_rfl) (by kernel_rfl) (fun _ _ _ _ h => h) (Want.plain rfl) rfl rfl (PV.move rfl rfl) ?_
          refine TD.take (i := 6) rfl (by kernel_rfl) (by kernel_rfl) (by kernel_rfl) (fun _ _ _ _ h => h) (Want.plain rfl) rfl rfl (PV.indexSlV (r := off_b + 3) hv_b rfl Try.underlying27 sz5 rfl rfl (by omega) (by omega) (by omega)) ?_
          refine TD.take (i := 7) rfl (by kernel_rfl) (by kernel_rfl) (by kernel_rfl) (fun _ _ _ _ h => h) (Want.plain rfl) rfl rfl (PV.load1X (v := (.int .u8 (((((r).getD 3 0).toNat : Nat) : Int)))) rfl Try.underlying5 rfl rfl (RdX.frm hb_b (fun _ h => h.1)) (hcs_b 3 (by omega))) ?_
          refine TD.take (i := 8) rfl (by kernel_rfl) (by kernel_rfl) (by kernel_rfl) (fun _ _ _ _ h => h) (Want.plain rfl) rfl rfl (PV.shr (r := ((((r.getD 3 0).toNat / 16 : Nat) : Nat) : Int)) rfl rfl rfl (by omega) (shr4 _)) ?_
          refine TD.take (i := 9) rfl (by kernel_rfl) (by kernel_rfl) (by kernel_rfl) (fun _ _ _ _ h => h) (Want.plain rfl) rfl rfl (PV.convI (r := (hi4 (r.getD 3 0))) rfl Try.underlying5 Try.underlying3 rfl (hi4_wrap _)) ?_
          refine TD.take (i := 10) rfl (by kernel_rfl) (by kernel_rfl) (by kernel_rfl) (fun _ _ _ _ h => h) (Want.plain rfl) rfl rfl (PV.move rfl rfl) ?_
          refine TD.take (i := 11) rfl (by kernel_rfl) (by kernel_rfl) (by kernel_rfl) (fun _ _ _ _ h => h) (Want.plain rfl) rfl rfl (PV.indexSlV (r := off_b + 4) hv_b rfl Try.underlying27 sz5 rfl rfl (by omega) (by omega) (by omega)) ?_
          refine TD.take (i := 12) rfl (by kernel_rfl) (by kernel_rfl) (by kernel_rfl) (fun _ _ _ _ h => h) (Want.plain rfl) rfl rfl (PV.load1X (v := (.int .u8 (((((r).getD 4 0).toNat : Nat) : Int)))) rfl Try.underlying5 rfl rfl (RdX.frm hb_b (fun _ h => h.1)) (hcs_b 4 (by omega))) ?_
          refine TD.take (i := 13) rfl (by kernel_rfl) (by kernel_rfl) (by kernel_rfl) (fun _ _ _ _ h => h) (Want.plain rfl) rfl rfl (PV.convI (r := (n8 (r.getD 4 0))) rfl Try.underlying5 Try.underlying3 rfl (n8_wrap _)) ?_
          refine TD.take (i := 14) rfl (by kernel_rfl) (by kernel_rfl) (by kernel_rfl) (fun _ _ _ _ h => h) (Want.plain rfl) rfl rfl (PV.buildSegs (cs := ints (ChangeT.mk (lo4 (r.getD 3 0)) (hi4 (r.getD 3 0)) (n8 (r.getD 4 0))).flat) (segs := [[Value.int .i64 0], [Value.int .i64 0], [Value.int .i64 0]]) (res := [[Value.int .i64 (lo4 (r.getD 3 0))], [Value.int .i64 (hi4 (r.getD 3 0))], [Value.int .i64 (n8 (r.getD 4 0))]]) (parts := [(0, [Value.int .i64 (lo4 (r.getD 3 0))]), (1, [Value.int .i64 (hi4 (r.getD 3 0))]), (2, [Value.int .i64 (n8 (r.getD 4 0))])]) rfl rfl Try.underlying42 (by kernel_rfl) (by kernel_rfl) rfl (putSegs_step rfl ((rfl : [Value.int .i64 (lo4 (r.getD 3 0))].length = 1).trans (rfl : [Value.int .i64 0].length = 1).symm) (putSegs_step rfl ((rfl : [Value.int .i64 (hi4 (r.getD 3 0))].length = 1).trans (rfl : [Value.int .i64 0].length = 1).symm) (putSegs_step rfl ((rfl : [Value.int .i64 (n8 (r.getD 4 0))].length = 1).trans (rfl : [Value.int .i64 0].length = 1).symm) putSegs_nil))) (ChangeT.eq (ChangeT.mk (lo4 (r.getD 3 0)) (hi4 (r.getD 3 0)) (n8 (r.getD 4 0)))).symm) ?_
          refine TD.take (i := 15) rfl (by kernel_rfl) (by kernel_rfl) (by kernel_rfl) (fun _ _ _ _ h => h) (Want.plain rfl) rfl rfl (PV.fieldAddr (r := 5) rfl Try.underlying70 rfl sz42 rfl rfl) ?_
          refine TD.all [16] (by kernel_rfl) rfl ?_
          refine AllT.cons rfl ?_ ?_
          · skip
            refine TL.store (vs := ints (ChangeT.mk (lo4 (r.getD 3 0)) (hi4 (r.getD 3 0)) (n8 (r.getD 4 0))).flat) (i := 0) (H' := [blkA b4 (ints (OpT.mk (lo4 (r.getD 0 0)) (hi4 (r.getD 0 0)) (lo4 (r.getD 1 0)) (hi4 (r.getD 1 0)) (n8 (r.getD 2 0)) (ChangeT.mk (lo4 (r.getD 3 0)) (hi4 (r.getD 3 0)) (n8 (r.getD 4 0))) 0 0 0).flat) 70, own u (done.length) (ints (List.flatMap OpT.flat done)) 70 11]) (Want.plain rfl) rfl rfl rfl rfl rfl (by rw [(ChangeT.len (ChangeT.mk (lo4 (r.getD 3 0)) (hi4 (r.getD 3 0)) (n8 (r.getD 4 0))))]; exact sz42) (ints_one _) rfl rfl (by have h0 := (OpT.len (OpT.mk (lo4 (r.getD 0 0)) (hi4 (r.getD 0 0)) (lo4 (r.getD 1 0)) (hi4 (r.getD 1 0)) (n8 (r.getD 2 0)) ChangeT.zero 0 0 0)); have h1 := (ChangeT.len (ChangeT.mk (lo4 (r.getD 3 0)) (hi4 (r.getD 3 0)) (n8 (r.getD 4 0)))); omega) (OpT.wr_change_ (OpT.mk (lo4 (r.getD 0 0)) (hi4 (r.getD 0 0)) (lo4 (r.getD 1 0)) (hi4 (r.getD 1 0)) (n8 (r.getD 2 0)) ChangeT.zero 0 0 0) 0 rfl (by have h1 := (ChangeT.len (ChangeT.mk (lo4 (r.getD 3 0)) (hi4 (r.getD 3 0)) (n8 (r.getD 4 0)))); omega) (wwhole ((ChangeT.len ChangeT.zero).trans (ChangeT.len (ChangeT.mk (lo4 (r.getD 3 0)) (hi4 (r.getD 3 0)) (n8 (r.getD 4 0)))).symm))) rfl ?_
            refine TL.nil ?_
            refine TE.draw (fun _ s => ⟨Frm.of s, trivial⟩) ?_
            refine TD.done (by kernel_rfl) ?_
            refine TE.blockEnd ?_
            refine TE.next hK8 ?_
            clear hK8
            refine TC.region ?_
            have hop : (OpT.mk (lo4 (r.getD 0 0)) (hi4 (r.getD 0 0)) (lo4 (r.getD 1 0)) (hi4 (r.getD 1 0)) (n8 (r.getD 2 0)) (ChangeT.mk (lo4 (r.getD 3 0)) (hi4 (r.getD 3 0)) (n8 (r.getD 4 0))) 0 0 0) = decOp (r.getD 0 0) (r.getD 1 0) (r.getD 2 0) (r.getD 3 0) (r.getD 4 0) := by first | (rw [decOp, if_pos h38]; try rfl) | (rw [decOp, if_neg h38, if_pos h56]; try rfl) | (rw [decOp, if_neg h38, if_neg h56]; try rfl)
            refine TL.v (Want.plain rfl) rfl rfl (PV.move rfl rfl) ?_
            refine TL.v (Want.plain rfl) rfl rfl (PV.loadN (vs := ints (OpT.mk (lo4 (r.getD 0 0)) (hi4 (r.getD 0 0)) (lo4 (r.getD 1 0)) (hi4 (r.getD 1 0)) (n8 (r.getD 2 0)) (ChangeT.mk (lo4 (r.getD 3 0)) (hi4 (r.getD 3 0)) (n8 (r.getD 4 0))) 0 0 0).flat) rfl Try.underlying70 rfl sz70 rfl (Rd.own 0 rfl rfl) (OpT.len (OpT.mk (lo4 (r.getD 0 0)) (hi4 (r.getD 0 0)) (lo4 (r.getD 1 0)) (hi4 (r.getD 1 0)) (n8 (r.getD 2 0)) (ChangeT.mk (lo4 (r.getD 3 0)) (hi4 (r.getD 3 0)) (n8 (r.getD 4 0))) 0 0 0)) (whole (OpT.len (OpT.mk (lo4 (r.getD 0 0)) (hi4 (r.getD 0 0)) (lo4 (r.getD 1 0)) (hi4 (r.getD 1 0)) (n8 (r.getD 2 0)) (ChangeT.mk (lo4 (r.getD 3 0)) (hi4 (r.getD 3 0)) (n8 (r.getD 4 0))) 0 0 0)))) ?_
            refine TL.buildSlice (cells := (ints (OpT.mk (lo4 (r.getD 0 0)) (hi4 (r.getD 0 0)) (lo4 (r.getD 1 0)) (hi4 (r.getD 1 0)) (n8 (r.getD 2 0)) (ChangeT.mk (lo4 (r.getD 3 0)) (hi4 (r.getD 3 0)) (n8 (r.getD 4 0))) 0 0 0).flat).toArray) (Want.plain rfl) rfl rfl rfl Try.underlying67 in70 rfl rfl rfl (fill_at (OpT.len (OpT.mk (lo4 (r.getD 0 0)) (hi4 (r.getD 0 0)) (lo4 (r.getD 1 0)) (hi4 (r.getD 1 0)) (n8 (r.getD 2 0)) (ChangeT.mk (lo4 (r.getD 3 0)) (hi4 (r.getD 3 0)) (n8 (r.getD 4 0))) 0 0 0)) (by simp)) (fun b73 => ?_)
            change TL _ _ _ _ _ _ _ _ _ [blkA b73 (ints (OpT.mk (lo4 (r.getD 0 0)) (hi4 (r.getD 0 0)) (lo4 (r.getD 1 0)) (hi4 (r.getD 1 0)) (n8 (r.getD 2 0)) (ChangeT.mk (lo4 (r.getD 3 0)) (hi4 (r.getD 3 0)) (n8 (r.getD 4 0))) 0 0 0).flat) 70, blkA b4 (ints (OpT.mk (lo4 (r.getD 0 0)) (hi4 (r.getD 0 0)) (lo4 (r.getD 1 0)) (hi4 (r.getD 1 0)) (n8 (r.getD 2 0)) (ChangeT.mk (lo4 (r.getD 3 0)) (hi4 (r.getD 3 0)) (n8 (r.getD 4 0))) 0 0 0).flat) 70, own u (done.length) (ints (List.flatMap OpT.flat done)) 70 11]
            refine TL.append (k := 2) (news := ints (OpT.mk (lo4 (r.getD 0 0)) (hi4 (r.getD 0 0)) (lo4 (r.getD 1 0)) (hi4 (r.getD 1 0)) (n8 (r.getD 2 0)) (ChangeT.mk (lo4 (r.getD 3 0)) (hi4 (r.getD 3 0)) (n8 (r.getD 4 0))) 0 0 0).flat) (nn' := (done ++ [decOp (r.getD 0 0) (r.getD 1 0) (r.getD 2 0) (r.getD 3 0) (r.getD 4 0)]).length) (xs' := ints (List.flatMap OpT.flat (done ++ [decOp (r.getD 0 0) (r.getD 1 0) (r.getD 2 0) (r.getD 3 0) (r.getD 4 0)]))) (Want.plain rfl) rfl rfl rfl Try.underlying67 in70 rfl rfl rfl rfl rfl rfl (fun _ _ => Src.rd (OpT.len _) (Rd.own 0 rfl rfl) (by rw [List.drop_zero, List.take_length])) (ints_one _) (by simp only [maxLen]; omega) (by omega) (by simp) (by rw [← hop]; simp [ints]) (fun v74 ov74 => ?_)
            change TL _ _ _ _ _ _ _ _ _ [blkA b73 (ints (OpT.mk (lo4 (r.getD 0 0)) (hi4 (r.getD 0 0)) (lo4 (r.getD 1 0)) (hi4 (r.getD 1 0)) (n8 (r.getD 2 0)) (ChangeT.mk (lo4 (r.getD 3 0)) (hi4 (r.getD 3 0)) (n8 (r.getD 4 0))) 0 0 0).flat) 70, blkA b4 (ints (OpT.mk (lo4 (r.getD 0 0)) (hi4 (r.getD 0 0)) (lo4 (r.getD 1 0)) (hi4 (r.getD 1 0)) (n8 (r.getD 2 0)) (ChangeT.mk (lo4 (r.getD 3 0)) (hi4 (r.getD 3 0)) (n8 (r.getD 4 0))) 0 0 0).flat) 70, own v74 ((done ++ [decOp (r.getD 0 0) (r.getD 1 0) (r.getD 2 0) (r.getD 3 0) (r.getD 4 0)]).length) (ints (List.flatMap OpT.flat (done ++ [decOp (r.getD 0 0) (r.getD 1 0) (r.getD 2 0) (r.getD 3 0) (r.getD 4 0)]))) 70 11]
            refine TL.v (Want.plain rfl) rfl rfl (PV.assign rfl rfl) ?_
            refine TL.nil ?_
            refine TE.blockEnd ?_
            refine TE.next hK6 ?_
            clear hK6
            refine TC.region ?_
            refine TL.v (Want.plain rfl) rfl rfl (PV.move rfl rfl) ?_
            refine TL.v (Want.plain rfl) rfl rfl (PV.to (PV.sliceLo (k := 5) rfl Try.underlying27 sz5 (by rw [← hv_b]; rfl) rfl (by omega) (by omega) rfl) (congrArg (fun q => cutB q 5) hv_b.symm)) ?_
            refine TL.v (Want.plain rfl) rfl rfl (PV.assign rfl rfl) ?_
            refine TL.nil ?_
            exact TE.round (((r.drop 5), (cutB xv 5), (done ++ [decOp (r.getD 0 0) (r.getD 1 0) (r.getD 2 0) (r.getD 3 0) (r.getD 4 0)]), v74) : (List UInt8) × (Value) × (List OpT) × (Value)) ⟨hB.cut 5 (by omega), by rw [List.length_drop]; omega, by rw [List.length_append, List.length_drop]; simp; omega, by rw [ho, opsP_step (by omega)]; simp, cutB_one hx, ov74⟩ (by show (r.drop 5).length < r.length; rw [List.length_drop]; omega)
              (Sub.r (Sub.r (Sub.r (Sub.nil _))))
              (fun _ s => sep_keep [2] rfl s)
          exact AllT.nil
        · skip
          refine TL.v (Want.plain rfl) rfl rfl (PV.assign rfl rfl) ?_
          refine TL.nil ?_
          refine TE.next hK10 ?_
          clear hK10
          refine TC.no rfl ?_
          refine TC.seq (fun K11 hK11 => ?_)
          refine TC.region ?_
          refine TL.v (Want.plain rfl) rfl rfl (PV.eql rfl rfl rfl) ?_
          refine TL.dec (fun h56 => ?_) (fun h56 => ?_)
          · skip
            refine TL.v (Want.plain rfl) rfl rfl (PV.assign rfl rfl) ?_
            refine TL.nil ?_
            refine TE.next hK11 ?_
            clear hK11
            refine TC.yes rfl ?_
            refine TC.draw (fun w => Frm F w ∧ True) mixed rfl (fun _ s => ⟨Frm.of s, trivial⟩) ?_
            refine TD.take (i := 0) rfl (by kernel_rfl) (by kernel_rfl) (by kernel_rfl) (fun _ _ _ _ h => h) (Want.plain rfl) rfl rfl (PV.move rfl rfl) ?_
            refine TD.take (i := 1) rfl (by kernel_rfl) (by kernel_rfl) (by kernel_rfl) (fun _ _ _ _ h => h) (Want.plain rfl) rfl rfl (PV.indexSlV (r := off_b + 3) hv_b rfl Try.underlying27 sz5 rfl rfl (by omega) (by omega) (by omega)) ?_
            refine TD.take (i := 2) rfl (by kernel_rfl) (by kernel_rfl) (by kernel_rfl) (fun _ _ _ _ h => h) (Want.plain rfl) rfl rfl (PV.load1X (v := (.int .u8 (((((r).getD 3 0).toNat : Nat) : Int)))) rfl Try.underlying5 rfl rfl (RdX.frm hb_b (fun _ h => h.1)) (hcs_b 3 (by omega))) ?_
            refine TD.take (i := 3) rfl (by kernel_rfl) (by kernel_rfl) (by kernel_rfl) (fun _ _ _ _ h => h) (Want.plain rfl) rfl rfl (PV.convI (r := (n8 (r.getD 3 0))) rfl Try.underlying5 Try.underlying3 rfl (n8_wrap _)) ?_
            refine TD.take (i := 4) rfl (by kernel_rfl) (by kernel_rfl) (by kernel_rfl) (fun _ _ _ _ h => h) (Want.plain rfl) rfl rfl (PV.move rfl rfl) ?_
            refine TD.take (i := 5) rfl (by kernel_rfl) (by kernel_rfl) (by kernel_rfl) (fun _ _ _ _ h => h) (Want.plain rfl) rfl rfl (PV.indexSlV (r := off_b + 4) hv_b rfl Try.underlying27 sz5 rfl rfl (by omega) (by omega) (by omega)) ?_
            refine TD.take (i := 6) rfl (by kernel_rfl) (by kernel_rfl) (by kernel_rfl) (fun _ _ _ _ h => h) (Want.plain rfl) rfl rfl (PV.load1X (v := (.int .u8 (((((r).getD 4 0).toNat : Nat) : Int)))) rfl Try.underlying5 rfl rfl (RdX.frm hb_b (fun _ h => h.1)) (hcs_b 4 (by omega))) ?_
            refine TD.take (i := 7) rfl (by kernel_rfl) (by kernel_rfl) (by kernel_rfl) (fun _ _ _ _ h => h) (Want.plain rfl) rfl rfl (PV.convI (r := (n8 (r.getD 4 0))) rfl Try.underlying5 Try.underlying3 rfl (n8_wrap _)) ?_
            refine TD.take (i := 8) rfl (by kernel_rfl) (by kernel_rfl) (by kernel_rfl) (fun _ _ _ _ h => h) (Want.plain rfl) rfl rfl (PV.sub (r := (n8 (r.getD 4 0) - 1)) rfl rfl rfl (wrap_i64 (by have := n8_bd (r.getD 4 0); omega) (by have := n8_bd (r.getD 4 0); omega))) ?_
            refine TD.take (i := 9) rfl (by kernel_rfl) (by kernel_rfl) (by kernel_rfl) (fun _ _ _ _ h => h) (Want.plain rfl) rfl rfl (PV.fieldAddr (r := 4) rfl Try.underlying70 rfl sz3 rfl rfl) ?_
            refine TD.all [10] (by kernel_rfl) rfl ?_
            refine AllT.cons rfl ?_ ?_
            · skip
              refine TL.v (Want.plain rfl) rfl rfl (PV.load1 (v := (.int .i64 ((n8 (r.getD 2 0))))) rfl Try.underlying3 rfl rfl (Rd.own 0 rfl rfl) (OpT.at_n (OpT.mk (lo4 (r.getD 0 0)) (hi4 (r.getD 0 0)) (lo4 (r.getD 1 0)) (hi4 (r.getD 1 0)) (n8 (r.getD 2 0)) ChangeT.zero 0 0 0) rfl)) ?_
              refine TL.nil ?_
              refine TE.draw (fun _ s => ⟨Frm.of s, trivial⟩) ?_
              refine TD.take (i := 11) rfl (by kernel_rfl) (by kernel_rfl) (by kernel_rfl) (fun _ _ _ _ h => h) (Want.plain rfl) rfl rfl (PV.fieldAddr (r := 8) rfl Try.underlying70 rfl sz3 rfl rfl) ?_
              refine TD.all [12] (by kernel_rfl) rfl ?_
              refine AllT.cons rfl ?_ ?_
              · skip
                refine TL.store1 (i := 0) (H' := [blkA b4 (ints (OpT.mk (lo4 (r.getD 0 0)) (hi4 (r.getD 0 0)) (lo4 (r.getD 1 0)) (hi4 (r.getD 1 0)) (n8 (r.getD 2 0)) ChangeT.zero (n8 (r.getD 3 0)) 0 0).flat) 70, own u (done.length) (ints (List.flatMap OpT.flat done)) 70 11]) (Want.plain rfl) rfl rfl rfl rfl rfl sz3 rfl rfl (by have h0 := (OpT.len (OpT.mk (lo4 (r.getD 0 0)) (hi4 (r.getD 0 0)) (lo4 (r.getD 1 0)) (hi4 (r.getD 1 0)) (n8 (r.getD 2 0)) ChangeT.zero 0 0 0)); omega) (OpT.set_mask (OpT.mk (lo4 (r.getD 0 0)) (hi4 (r.getD 0 0)) (lo4 (r.getD 1 0)) (hi4 (r.getD 1 0)) (n8 (r.getD 2 0)) ChangeT.zero 0 0 0) rfl _) rfl ?_
                refine TL.nil ?_
                refine TE.draw (fun _ s => ⟨Frm.of s, trivial⟩) ?_
                refine TD.take (i := 13) rfl (by kernel_rfl) (by kernel_rfl) (by kernel_rfl) (fun _ _ _ _ h => h) (Want.plain rfl) rfl rfl (PV.fieldAddr (r := 9) rfl Try.underlying70 rfl sz3 rfl rfl) ?_
                refine TD.all [14] (by kernel_rfl) rfl ?_
                refine AllT.cons rfl ?_ ?_
                · skip
                  refine TL.store1 (i := 0) (H' := [blkA b4 (ints (OpT.mk (lo4 (r.getD 0 0)) (hi4 (r.getD 0 0)) (lo4 (r.getD 1 0)) (hi4 (r.getD 1 0)) (n8 (r.getD 2 0)) ChangeT.zero (n8 (r.getD 3 0)) (n8 (r.getD 4 0) - 1) 0).flat) 70, own u (done.length) (ints (List.flatMap OpT.flat done)) 70 11]) (Want.plain rfl) rfl rfl rfl rfl rfl sz3 rfl rfl (by have h0 := (OpT.len (OpT.mk (lo4 (r.getD 0 0)) (hi4 (r.getD 0 0)) (lo4 (r.getD 1 0)) (hi4 (r.getD 1 0)) (n8 (r.getD 2 0)) ChangeT.zero (n8 (r.getD 3 0)) 0 0)); omega) (OpT.set_torn (OpT.mk (lo4 (r.getD 0 0)) (hi4 (r.getD 0 0)) (lo4 (r.getD 1 0)) (hi4 (r.getD 1 0)) (n8 (r.getD 2 0)) ChangeT.zero (n8 (r.getD 3 0)) 0 0) rfl _) rfl ?_
                  refine TL.nil ?_
                  refine TE.draw (fun _ s => ⟨Frm.of s, trivial⟩) ?_
                  refine TD.take (i := 15) rfl (by kernel_rfl) (by kernel_rfl) (by kernel_rfl) (fun _ _ _ _ h => h) (Want.plain rfl) rfl rfl (PV.fieldAddr (r := 10) rfl Try.underlying70 rfl sz3 rfl rfl) ?_
                  refine TD.all [16] (by kernel_rfl) rfl ?_
                  refine AllT.cons rfl ?_ ?_
                  · skip
                    refine TL.store1 (i := 0) (H' := [blkA b4 (ints (OpT.mk (lo4 (r.getD 0 0)) (hi4 (r.getD 0 0)) (lo4 (r.getD 1 0)) (hi4 (r.getD 1 0)) (n8 (r.getD 2 0)) ChangeT.zero (n8 (r.getD 3 0)) (n8 (r.getD 4 0) - 1) (n8 (r.getD 2 0))).flat) 70, own u (done.length) (ints (List.flatMap OpT.flat done)) 70 11]) (Want.plain rfl) rfl rfl rfl rfl rfl sz3 rfl rfl (by have h0 := (OpT.len (OpT.mk (lo4 (r.getD 0 0)) (hi4 (r.getD 0 0)) (lo4 (r.getD 1 0)) (hi4 (r.getD 1 0)) (n8 (r.getD 2 0)) ChangeT.zero (n8 (r.getD 3 0)) (n8 (r.getD 4 0) - 1) 0)); omega) (OpT.set_cut (OpT.mk (lo4 (r.getD 0 0)) (hi4 (r.getD 0 0)) (lo4 (r.getD 1 0)) (hi4 (r.getD 1 0)) (n8 (r.getD 2 0)) ChangeT.zero (n8 (r.getD 3 0)) (n8 (r.getD 4 0) - 1) 0) rfl _) rfl ?_
                    refine TL.nil ?_
                    refine TE.draw (fun _ s => ⟨Frm.of s, trivial⟩) ?_
                    refine TD.done (by kernel_rfl) ?_
                    refine TE.blockEnd ?_
                    refine TE.next hK8 ?_
                    clear hK8
                    refine TC.region ?_
                    have hop : (OpT.mk (lo4 (r.getD 0 0)) (hi4 (r.getD 0 0)) (lo4 (r.getD 1 0)) (hi4 (r.getD 1 0)) (n8 (r.getD 2 0)) ChangeT.zero (n8 (r.getD 3 0)) (n8 (r.getD 4 0) - 1) (n8 (r.getD 2 0))) = decOp (r.getD 0 0) (r.getD 1 0) (r.getD 2 0) (r.getD 3 0) (r.getD 4 0) := by first | (rw [decOp, if_pos h38]; try rfl) | (rw [decOp, if_neg h38, if_pos h56]; try rfl) | (rw [decOp, if_neg h38, if_neg h56]; try rfl)
                    refine TL.v (Want.plain rfl) rfl rfl (PV.move rfl rfl) ?_
                    refine TL.v (Want.plain rfl) rfl rfl (PV.loadN (vs := ints (OpT.mk (lo4 (r.getD 0 0)) (hi4 (r.getD 0 0)) (lo4 (r.getD 1 0)) (hi4 (r.getD 1 0)) (n8 (r.getD 2 0)) ChangeT.zero (n8 (r.getD 3 0)) (n8 (r.getD 4 0) - 1) (n8 (r.getD 2 0))).flat) rfl Try.underlying70 rfl sz70 rfl (Rd.own 0 rfl rfl) (OpT.len (OpT.mk (lo4 (r.getD 0 0)) (hi4 (r.getD 0 0)) (lo4 (r.getD 1 0)) (hi4 (r.getD 1 0)) (n8 (r.getD 2 0)) ChangeT.zero (n8 (r.getD 3 0)) (n8 (r.getD 4 0) - 1) (n8 (r.getD 2 0)))) (whole (OpT.len (OpT.mk (lo4 (r.getD 0 0)) (hi4 (r.getD 0 0)) (lo4 (r.getD 1 0)) (hi4 (r.getD 1 0)) (n8 (r.getD 2 0)) ChangeT.zero (n8 (r.getD 3 0)) (n8 (r.getD 4 0) - 1) (n8 (r.getD 2 0)))))) ?_
                    refine TL.buildSlice (cells := (ints (OpT.mk (lo4 (r.getD 0 0)) (hi4 (r.getD 0 0)) (lo4 (r.getD 1 0)) (hi4 (r.getD 1 0)) (n8 (r.getD 2 0)) ChangeT.zero (n8 (r.getD 3 0)) (n8 (r.getD 4 0) - 1) (n8 (r.getD 2 0))).flat).toArray) (Want.plain rfl) rfl rfl rfl Try.underlying67 in70 rfl rfl rfl (fill_at (OpT.len (OpT.mk (lo4 (r.getD 0 0)) (hi4 (r.getD 0 0)) (lo4 (r.getD 1 0)) (hi4 (r.getD 1 0)) (n8 (r.getD 2 0)) ChangeT.zero (n8 (r.getD 3 0)) (n8 (r.getD 4 0) - 1) (n8 (r.getD 2 0)))) (by simp)) (fun b73 => ?_)
                    change TL _ _ _ _ _ _ _ _ _ [blkA b73 (ints (OpT.mk (lo4 (r.getD 0 0)) (hi4 (r.getD 0 0)) (lo4 (r.getD 1 0)) (hi4 (r.getD 1 0)) (n8 (r.getD 2 0)) ChangeT.zero (n8 (r.getD 3 0)) (n8 (r.getD 4 0) - 1) (n8 (r.getD 2 0))).flat) 70, blkA b4 (ints (OpT.mk (lo4 (r.getD 0 0)) (hi4 (r.getD 0 0)) (lo4 (r.getD 1 0)) (hi4 (r.getD 1 0)) (n8 (r.getD 2 0)) ChangeT.zero (n8 (r.getD 3 0)) (n8 (r.getD 4 0) - 1) (n8 (r.getD 2 0))).flat) 70, own u (done.length) (ints (List.flatMap OpT.flat done)) 70 11]
                    refine TL.append (k := 2) (news := ints (OpT.mk (lo4 (r.getD 0 0)) (hi4 (r.getD 0 0)) (lo4 (r.getD 1 0)) (hi4 (r.getD 1 0)) (n8 (r.getD 2 0)) ChangeT.zero (n8 (r.getD 3 0)) (n8 (r.getD 4 0) - 1) (n8 (r.getD 2 0))).flat) (nn' := (done ++ [decOp (r.getD 0 0) (r.getD 1 0) (r.getD 2 0) (r.getD 3 0) (r.getD 4 0)]).length) (xs' := ints (List.flatMap OpT.flat (done ++ [decOp (r.getD 0 0) (r.getD 1 0) (r.getD 2 0) (r.getD 3 0) (r.getD 4 0)]))) (Want.plain rfl) rfl rfl rfl Try.underlying67 in70 rfl rfl rfl rfl rfl rfl (fun _ _ => Src.rd (OpT.len _) (Rd.own 0 rfl rfl) (by rw [List.drop_zero, List.take_length])) (ints_one _) (by simp only [maxLen]; omega) (by omega) (by simp) (by rw [← hop]; simp [ints]) (fun v74 ov74 => ?_)
                    change TL _ _ _ _ _ _ _ _ _ [blkA b73 (ints (OpT.mk (lo4 (r.getD 0 0)) (hi4 (r.getD 0 0)) (lo4 (r.getD 1 0)) (hi4 (r.getD 1 0)) (n8 (r.getD 2 0)) ChangeT.zero (n8 (r.getD 3 0)) (n8 (r.getD 4 0) - 1) (n8 (r.getD 2 0))).flat) 70, blkA b4 (ints (OpT.mk (lo4 (r.getD 0 0)) (hi4 (r.getD 0 0)) (lo4 (r.getD 1 0)) (hi4 (r.getD 1 0)) (n8 (r.getD 2 0)) ChangeT.zero (n8 (r.getD 3 0)) (n8 (r.getD 4 0) - 1) (n8 (r.getD 2 0))).flat) 70, own v74 ((done ++ [decOp (r.getD 0 0) (r.getD 1 0) (r.getD 2 0) (r.getD 3 0) (r.getD 4 0)]).length) (ints (List.flatMap OpT.flat (done ++ [decOp (r.getD 0 0) (r.getD 1 0) (r.getD 2 0) (r.getD 3 0) (r.getD 4 0)]))) 70 11]
                    refine TL.v (Want.plain rfl) rfl rfl (PV.assign rfl rfl) ?_
                    refine TL.nil ?_
                    refine TE.blockEnd ?_
                    refine TE.next hK6 ?_
                    clear hK6
                    refine TC.region ?_
                    refine TL.v (Want.plain rfl) rfl rfl (PV.move rfl rfl) ?_
                    refine TL.v (Want.plain rfl) rfl rfl (PV.to (PV.sliceLo (k := 5) rfl Try.underlying27 sz5 (by rw [← hv_b]; rfl) rfl (by omega) (by omega) rfl) (congrArg (fun q => cutB q 5) hv_b.symm)) ?_
                    refine TL.v (Want.plain rfl) rfl rfl (PV.assign rfl rfl) ?_
                    refine TL.nil ?_
                    exact TE.round (((r.drop 5), (cutB xv 5), (done ++ [decOp (r.getD 0 0) (r.getD 1 0) (r.getD 2 0) (r.getD 3 0) (r.getD 4 0)]), v74) : (List UInt8) × (Value) × (List OpT) × (Value)) ⟨hB.cut 5 (by omega), by rw [List.length_drop]; omega, by rw [List.length_append, List.length_drop]; simp; omega, by rw [ho, opsP_step (by omega)]; simp, cutB_one hx, ov74⟩ (by show (r.drop 5).length < r.length; rw [List.length_drop]; omega)
                      (Sub.r (Sub.r (Sub.r (Sub.nil _))))
                      (fun _ s => sep_keep [2] rfl s)
                  exact AllT.nil
                exact AllT.nil
              exact AllT.nil
            exact AllT.nil
          · skip
            refine TL.v (Want.plain rfl) rfl rfl (PV.assign rfl rfl) ?_
            refine TL.nil ?_
            refine TE.next hK11 ?_
            clear hK11
            refine TC.no rfl ?_
            refine TC.skip ?_
            refine TE.blockEnd ?_
            refine TE.next hK8 ?_
            clear hK8
            refine TC.region ?_
            have hop : (OpT.mk (lo4 (r.getD 0 0)) (hi4 (r.getD 0 0)) (lo4 (r.getD 1 0)) (hi4 (r.getD 1 0)) (n8 (r.getD 2 0)) ChangeT.zero 0 0 0) = decOp (r.getD 0 0) (r.getD 1 0) (r.getD 2 0) (r.getD 3 0) (r.getD 4 0) := by first | (rw [decOp, if_pos h38]; try rfl) | (rw [decOp, if_neg h38, if_pos h56]; try rfl) | (rw [decOp, if_neg h38, if_neg h56]; try rfl)
            refine TL.v (Want.plain rfl) rfl rfl (PV.move rfl rfl) ?_
            refine TL.v (Want.plain rfl) rfl rfl (PV.loadN (vs := ints (OpT.mk (lo4 (r.getD 0 0)) (hi4 (r.getD 0 0)) (lo4 (r.getD 1 0)) (hi4 (r.getD 1 0)) (n8 (r.getD 2 0)) ChangeT.zero 0 0 0).flat) rfl Try.underlying70 rfl sz70 rfl (Rd.own 0 rfl rfl) (OpT.len (OpT.mk (lo4 (r.getD 0 0)) (hi4 (r.getD 0 0)) (lo4 (r.getD 1 0)) (hi4 (r.getD 1 0)) (n8 (r.getD 2 0)) ChangeT.zero 0 0 0)) (whole (OpT.len (OpT.mk (lo4 (r.getD 0 0)) (hi4 (r.getD 0 0)) (lo4 (r.getD 1 0)) (hi4 (r.getD 1 0)) (n8 (r.getD 2 0)) ChangeT.zero 0 0 0)))) ?_
            refine TL.buildSlice (cells := (ints (OpT.mk (lo4 (r.getD 0 0)) (hi4 (r.getD 0 0)) (lo4 (r.getD 1 0)) (hi4 (r.getD 1 0)) (n8 (r.getD 2 0)) ChangeT.zero 0 0 0).flat).toArray) (Want.plain rfl) rfl rfl rfl Try.underlying67 in70 rfl rfl rfl (fill_at (OpT.len (OpT.mk (lo4 (r.getD 0 0)) (hi4 (r.getD 0 0)) (lo4 (r.getD 1 0)) (hi4 (r.getD 1 0)) (n8 (r.getD 2 0)) ChangeT.zero 0 0 0)) (by simp)) (fun b73 => ?_)
            change TL _ _ _ _ _ _ _ _ _ [blkA b73 (ints (OpT.mk (lo4 (r.getD 0 0)) (hi4 (r.getD 0 0)) (lo4 (r.getD 1 0)) (hi4 (r.getD 1 0)) (n8 (r.getD 2 0)) ChangeT.zero 0 0 0).flat) 70, blkA b4 (ints (OpT.mk (lo4 (r.getD 0 0)) (hi4 (r.getD 0 0)) (lo4 (r.getD 1 0)) (hi4 (r.getD 1 0)) (n8 (r.getD 2 0)) ChangeT.zero 0 0 0).flat) 70, own u (done.length) (ints (List.flatMap OpT.flat done)) 70 11]
            refine TL.append (k := 2) (news := ints (OpT.mk (lo4 (r.getD 0 0)) (hi4 (r.getD 0 0)) (lo4 (r.getD 1 0)) (hi4 (r.getD 1 0)) (n8 (r.getD 2 0)) ChangeT.zero 0 0 0).flat) (nn' := (done ++ [decOp (r.getD 0 0) (r.getD 1 0) (r.getD 2 0) (r.getD 3 0) (r.getD 4 0)]).length) (xs' := ints (List.flatMap OpT.flat (done ++ [decOp (r.getD 0 0) (r.getD 1 0) (r.getD 2 0) (r.getD 3 0) (r.getD 4 0)]))) (Want.plain rfl) rfl rfl rfl Try.underlying67 in70 rfl rfl rfl rfl rfl rfl (fun _ _ => Src.rd (OpT.len _) (Rd.own 0 rfl rfl) (by rw [List.drop_zero, List.take_length])) (ints_one _) (by simp only [maxLen]; omega) (by omega) (by simp) (by rw [← hop]; simp [ints]) (fun v74 ov74 => ?_)
            change TL _ _ _ _ _ _ _ _ _ [blkA b73 (ints (OpT.mk (lo4 (r.getD 0 0)) (hi4 (r.getD 0 0)) (lo4 (r.getD 1 0)) (hi4 (r.getD 1 0)) (n8 (r.getD 2 0)) ChangeT.zero 0 0 0).flat) 70, blkA b4 (ints (OpT.mk (lo4 (r.getD 0 0)) (hi4 (r.getD 0 0)) (lo4 (r.getD 1 0)) (hi4 (r.getD 1 0)) (n8 (r.getD 2 0)) ChangeT.zero 0 0 0).flat) 70, own v74 ((done ++ [decOp (r.getD 0 0) (r.getD 1 0) (r.getD 2 0) (r.getD 3 0) (r.getD 4 0)]).length) (ints (List.flatMap OpT.flat (done ++ [decOp (r.getD 0 0) (r.getD 1 0) (r.getD 2 0) (r.getD 3 0) (r.getD 4 0)]))) 70 11]
            refine TL.v (Want.plain rfl) rfl rfl (PV.assign rfl rfl) ?_
            refine TL.nil ?_
            refine TE.blockEnd ?_
            refine TE.next hK6 ?_
            clear hK6
            refine TC.region ?_
            refine TL.v (Want.plain rfl) rfl rfl (PV.move rfl rfl) ?_
            refine TL.v (Want.plain rfl) rfl rfl (PV.to (PV.sliceLo (k := 5) rfl Try.underlying27 sz5 (by rw [← hv_b]; rfl) rfl (by omega) (by omega) rfl) (congrArg (fun q => cutB q 5) hv_b.symm)) ?_
            refine TL.v (Want.plain rfl) rfl rfl (PV.assign rfl rfl) ?_
            refine TL.nil ?_
            exact TE.round (((r.drop 5), (cutB xv 5), (done ++ [decOp (r.getD 0 0) (r.getD 1 0) (r.getD 2 0) (r.getD 3 0) (r.getD 4 0)]), v74) : (List UInt8) × (Value) × (List OpT) × (Value)) ⟨hB.cut 5 (by omega), by rw [List.length_drop]; omega, by rw [List.length_append, List.length_drop]; simp; omega, by rw [ho, opsP_step (by omega)]; simp, cutB_one hx, ov74⟩ (by show (r.drop 5).length < r.length; rw [List.length_drop]; omega)
              (Sub.r (Sub.r (Sub.r (Sub.nil _))))
              (fun _ s => sep_keep [2] rfl s)
      exact AllT.nil
    exact AllT.nil
  · skip
    refine TL.nil ?_
    refine TE.next hK5 ?_
    clear hK5
    refine TC.no rfl ?_
    refine TC.exit ?_
    refine TE.pass ?_
    clear hK4
    refine TE.pass ?_
    refine TE.hit ?_
    refine TE.next hK3 ?_
    clear hK3
    refine TC.seq (fun K12 hK12 => ?_)
    refine TC.region ?_
    refine TL.v (Want.plain rfl) rfl rfl (PV.move rfl rfl) ?_
    refine TL.v (Want.plain rfl) rfl rfl (PV.assign rfl rfl) ?_
    refine TL.nil ?_
    refine TE.next hK12 ?_
    clear hK12
    refine TC.ret ?_
    refine TE.weak (Sub.refl _) (fun _ s => sep_keep [0] rfl s) ?_
    refine TE.ret1 rfl rfl ?_
    obtain rfl : opsP bs = done := by rw [ho, opsP_stop (by omega), List.append_nil]
    exact ⟨u, rfl, rfl⟩


theorem tameO_does (o : OpT) :
    Does Try.prog 26 #[(.agg (ints o.flat).toArray)] (fun _ => True) [] (Ret (fun r' H => r' = .agg (ints (tameO o).flat).toArray ∧ H = [])) := by
  refine Does.body (vs := [(.agg (ints o.flat).toArray)]) (n := 54) Try.func26 rfl rfl rfl (fun w0 F hF => ?_)
  refine TC.seq (fun K1 hK1 => ?_)
  refine TC.region ?_
  refine TL.box (Want.plain rfl) rfl rfl rfl rfl (fun b1 => ?_)
  change TL _ _ _ _ _ _ _ _ _ [blkA b1 (ints o.flat) 70]
  refine TL.alloc (Want.plain rfl) rfl rfl rfl z70 (fun b2 => ?_)
  change TL _ _ _ _ _ _ _ _ _ [blkA b2 (ints OpT.zero.flat) 70, blkA b1 (ints o.flat) 70]
  refine TL.nil ?_
  refine TE.next hK1 ?_
  clear hK1
  refine TC.seq (fun K2 hK2 => ?_)
  refine TC.region ?_
  refine TL.v (Want.plain rfl) rfl rfl (PV.fieldAddr (r := 0) rfl Try.underlying70 rfl sz3 rfl rfl) ?_
  refine TL.v (Want.plain rfl) rfl rfl (PV.load1 (v := (.int .i64 (o.kind))) rfl Try.underlying3 rfl rfl (Rd.own 1 rfl rfl) (OpT.at_kind o rfl)) ?_
  refine TL.v (Want.plain rfl) rfl rfl (PV.and (r := (o.kind % 16)) rfl rfl rfl (mask (k := 4) (by decide) _)) ?_
  refine TL.v (Want.plain rfl) rfl rfl (PV.fieldAddr (r := 1) rfl Try.underlying70 rfl sz3 rfl rfl) ?_
  refine TL.v (Want.plain rfl) rfl rfl (PV.load1 (v := (.int .i64 (o.at'))) rfl Try.underlying3 rfl rfl (Rd.own 1 rfl rfl) (OpT.at_at' o rfl)) ?_
  refine TL.v (Want.plain rfl) rfl rfl (PV.and (r := (o.at' % 16)) rfl rfl rfl (mask (k := 4) (by decide) _)) ?_
  refine TL.v (Want.plain rfl) rfl rfl (PV.fieldAddr (r := 2) rfl Try.underlying70 rfl sz3 rfl rfl) ?_
  refine TL.v (Want.plain rfl) rfl rfl (PV.load1 (v := (.int .i64 (o.to'))) rfl Try.underlying3 rfl rfl (Rd.own 1 rfl rfl) (OpT.at_to' o rfl)) ?_
  refine TL.v (Want.plain rfl) rfl rfl (PV.and (r := (o.to' % 16)) rfl rfl rfl (mask (k := 4) (by decide) _)) ?_
  refine TL.v (Want.plain rfl) rfl rfl (PV.fieldAddr (r := 3) rfl Try.underlying70 rfl sz3 rfl rfl) ?_
  refine TL.v (Want.plain rfl) rfl rfl (PV.load1 (v := (.int .i64 (o.key))) rfl Try.underlying3 rfl rfl (Rd.own 1 rfl rfl) (OpT.at_key o rfl)) ?_
  refine TL.v (Want.plain rfl) rfl rfl (PV.and (r := (o.key % 16)) rfl rfl rfl (mask (k := 4) (by decide) _)) ?_
  refine TL.v (Want.plain rfl) rfl rfl (PV.fieldAddr (r := 4) rfl Try.underlying70 rfl sz3 rfl rfl) ?_
  refine TL.v (Want.plain rfl) rfl rfl (PV.load1 (v := (.int .i64 (o.n))) rfl Try.underlying3 rfl rfl (Rd.own 1 rfl rfl) (OpT.at_n o rfl)) ?_
  refine TL.v (Want.plain rfl) rfl rfl (PV.and (r := (o.n % 256)) rfl rfl rfl (mask (k := 8) (by decide) _)) ?_
  refine TL.v (Want.plain rfl) rfl rfl (PV.buildSegs (cs := ints (OpT.mk (o.kind % 16) (o.at' % 16) (o.to' % 16) (o.key % 16) (o.n % 256) ChangeT.zero 0 0 0).flat) (segs := [[Value.int .i64 0], [Value.int .i64 0], [Value.int .i64 0], [Value.int .i64 0], [Value.int .i64 0], ints ChangeT.zero.flat, [Value.int .i64 0], [Value.int .i64 0], [Value.int .i64 0]]) (res := [[Value.int .i64 (o.kind % 16)], [Value.int .i64 (o.at' % 16)], [Value.int .i64 (o.to' % 16)], [Value.int .i64 (o.key % 16)], [Value.int .i64 (o.n % 256)], ints ChangeT.zero.flat, [Value.int .i64 0], [Value.int .i64 0], [Value.int .i64 0]]) (parts := [(0, [Value.int .i64 (o.kind % 16)]), (1, [Value.int .i64 (o.at' % 16)]), (2, [Value.int .i64 (o.to' % 16)]), (3, [Value.int .i64 (o.key % 16)]), (4, [Value.int .i64 (o.n % 256)])]) rfl rfl Try.underlying70 (by kernel_rfl) (by kernel_rfl) rfl (putSegs_step rfl ((rfl : [Value.int .i64 (o.kind % 16)].length = 1).trans (rfl : [Value.int .i64 0].length = 1).symm) (putSegs_step rfl ((rfl : [Value.int .i64 (o.at' % 16)].length = 1).trans (rfl : [Value.int .i64 0].length = 1).symm) (putSegs_step rfl ((rfl : [Value.int .i64 (o.to' % 16)].length = 1).trans (rfl : [Value.int .i64 0].length = 1).symm) (putSegs_step rfl ((rfl : [Value.int .i64 (o.key % 16)].length = 1).trans (rfl : [Value.int .i64 0].length = 1).symm) (putSegs_step rfl ((rfl : [Value.int .i64 (o.n % 256)].length = 1).trans (rfl : [Value.int .i64 0].length = 1).symm) putSegs_nil))))) (OpT.eq (OpT.mk (o.kind % 16) (o.at' % 16) (o.to' % 16) (o.key % 16) (o.n % 256) ChangeT.zero 0 0 0)).symm) ?_
  refine TL.alloc (Want.plain rfl) rfl rfl rfl z70 (fun b3 => ?_)
  change TL _ _ _ _ _ _ _ _ _ [blkA b3 (ints OpT.zero.flat) 70, blkA b2 (ints OpT.zero.flat) 70, blkA b1 (ints o.flat) 70]
  refine TL.store (vs := ints (OpT.mk (o.kind % 16) (o.at' % 16) (o.to' % 16) (o.key % 16) (o.n % 256) ChangeT.zero 0 0 0).flat) (i := 0) (H' := [blkA b3 (ints (OpT.mk (o.kind % 16) (o.at' % 16) (o.to' % 16) (o.key % 16) (o.n % 256) ChangeT.zero 0 0 0).flat) 70, blkA b2 (ints OpT.zero.flat) 70, blkA b1 (ints o.flat) 70]) (Want.plain rfl) rfl rfl rfl rfl rfl (by rw [(OpT.len (OpT.mk (o.kind % 16) (o.at' % 16) (o.to' % 16) (o.key % 16) (o.n % 256) ChangeT.zero 0 0 0))]; exact sz70) (ints_one _) rfl rfl (by have h0 := (OpT.len OpT.zero); have h1 := (OpT.len (OpT.mk (o.kind % 16) (o.at' % 16) (o.to' % 16) (o.key % 16) (o.n % 256) ChangeT.zero 0 0 0)); omega) (wwhole ((OpT.len OpT.zero).trans (OpT.len (OpT.mk (o.kind % 16) (o.at' % 16) (o.to' % 16) (o.key % 16) (o.n % 256) ChangeT.zero 0 0 0)).symm)) rfl ?_
  refine TL.nil ?_
  refine TE.next hK2 ?_
  clear hK2
  refine TC.seq (fun K3 hK3 => ?_)
  refine TC.seq (fun K4 hK4 => ?_)
  refine TC.region ?_
  refine TL.v (Want.plain rfl) rfl rfl (PV.fieldAddr (r := 0) rfl Try.underlying70 rfl sz3 rfl rfl) ?_
  refine TL.v (Want.plain rfl) rfl rfl (PV.load1 (v := (.int .i64 ((o.kind % 16)))) rfl Try.underlying3 rfl rfl (Rd.own 0 rfl rfl) (OpT.at_kind (OpT.mk (o.kind % 16) (o.at' % 16) (o.to' % 16) (o.key % 16) (o.n % 256) ChangeT.zero 0 0 0) rfl)) ?_
  refine TL.nil ?_
  refine TE.next hK4 ?_
  clear hK4
  refine TC.block ?_
  refine TC.seq (fun K5 hK5 => ?_)
  refine TC.region ?_
  refine TL.v (Want.plain rfl) rfl rfl (PV.eql rfl rfl rfl) ?_
  refine TL.dec (fun h23 => ?_) (fun h23 => ?_)
  · skip
    refine TL.v (Want.plain rfl) rfl rfl (PV.assign rfl rfl) ?_
    refine TL.nil ?_
    refine TE.next hK5 ?_
    clear hK5
    refine TC.yes rfl ?_
    refine TC.region ?_
    refine TL.v (Want.plain rfl) rfl rfl (PV.fieldAddr (r := 5) rfl Try.underlying70 rfl sz42 rfl rfl) ?_
    refine TL.v (Want.plain rfl) rfl rfl (PV.fieldAddr (r := 5) rfl Try.underlying42 rfl sz3 rfl rfl) ?_
    refine TL.v (Want.plain rfl) rfl rfl (PV.load1 (v := (.int .i64 (o.change.kind))) rfl Try.underlying3 rfl rfl (Rd.own 2 rfl rfl) (OpT.pt_change o 0 rfl (by decide) (ChangeT.at_kind o.change rfl))) ?_
    refine TL.v (Want.plain rfl) rfl rfl (PV.and (r := (o.change.kind % 16)) rfl rfl rfl (mask (k := 4) (by decide) _)) ?_
    refine TL.v (Want.plain rfl) rfl rfl (PV.fieldAddr (r := 5) rfl Try.underlying70 rfl sz42 rfl rfl) ?_
    refine TL.v (Want.plain rfl) rfl rfl (PV.fieldAddr (r := 6) rfl Try.underlying42 rfl sz3 rfl rfl) ?_
    refine TL.v (Want.plain rfl) rfl rfl (PV.load1 (v := (.int .i64 (o.change.who))) rfl Try.underlying3 rfl rfl (Rd.own 2 rfl rfl) (OpT.pt_change o 1 rfl (by decide) (ChangeT.at_who o.change rfl))) ?_
    refine TL.v (Want.plain rfl) rfl rfl (PV.and (r := (o.change.who % 16)) rfl rfl rfl (mask (k := 4) (by decide) _)) ?_
    refine TL.v (Want.plain rfl) rfl rfl (PV.fieldAddr (r := 5) rfl Try.underlying70 rfl sz42 rfl rfl) ?_
    refine TL.v (Want.plain rfl) rfl rfl (PV.fieldAddr (r := 7) rfl Try.underlying42 rfl sz3 rfl rfl) ?_
    refine TL.v (Want.plain rfl) rfl rfl (PV.load1 (v := (.int .i64 (o.change.heir))) rfl Try.underlying3 rfl rfl (Rd.own 2 rfl rfl) (OpT.pt_change o 2 rfl (by decide) (ChangeT.at_heir o.change rfl))) ?_
    refine TL.v (Want.plain rfl) rfl rfl (PV.and (r := (o.change.heir % 256)) rfl rfl rfl (mask (k := 8) (by decide) _)) ?_
    refine TL.v (Want.plain rfl) rfl rfl (PV.buildSegs (cs := ints (ChangeT.mk (o.change.kind % 16) (o.change.who % 16) (o.change.heir % 256)).flat) (segs := [[Value.int .i64 0], [Value.int .i64 0], [Value.int .i64 0]]) (res := [[Value.int .i64 (o.change.kind % 16)], [Value.int .i64 (o.change.who % 16)], [Value.int .i64 (o.change.heir % 256)]]) (parts := [(0, [Value.int .i64 (o.change.kind % 16)]), (1, [Value.int .i64 (o.change.who % 16)]), (2, [Value.int .i64 (o.change.heir % 256)])]) rfl rfl Try.underlying42 (by kernel_rfl) (by kernel_rfl) rfl (putSegs_step rfl ((rfl : [Value.int .i64 (o.change.kind % 16)].length = 1).trans (rfl : [Value.int .i64 0].length = 1).symm) (putSegs_step rfl ((rfl : [Value.int .i64 (o.change.who % 16)].length = 1).trans (rfl : [Value.int .i64 0].length = 1).symm) (putSegs_step rfl ((rfl : [Value.int .i64 (o.change.heir % 256)].length = 1).trans (rfl : [Value.int .i64 0].length = 1).symm) putSegs_nil))) (ChangeT.eq (ChangeT.mk (o.change.kind % 16) (o.change.who % 16) (o.change.heir % 256))).symm) ?_
    refine TL.v (Want.plain rfl) rfl rfl (PV.fieldAddr (r := 5) rfl Try.underlying70 rfl sz42 rfl rfl) ?_
    refine TL.store (vs := ints (ChangeT.mk (o.change.kind % 16) (o.change.who % 16) (o.change.heir % 256)).flat) (i := 0) (H' := [blkA b3 (ints (OpT.mk (o.kind % 16) (o.at' % 16) (o.to' % 16) (o.key % 16) (o.n % 256) (ChangeT.mk (o.change.kind % 16) (o.change.who % 16) (o.change.heir % 256)) 0 0 0).flat) 70, blkA b2 (ints OpT.zero.flat) 70, blkA b1 (ints o.flat) 70]) (Want.plain rfl) rfl rfl rfl rfl rfl (by rw [(ChangeT.len (ChangeT.mk (o.change.kind % 16) (o.change.who % 16) (o.change.heir % 256)))]; exact sz42) (ints_one _) rfl rfl (by have h0 := (OpT.len (OpT.mk (o.kind % 16) (o.at' % 16) (o.to' % 16) (o.key % 16) (o.n % 256) ChangeT.zero 0 0 0)); have h1 := (ChangeT.len (ChangeT.mk (o.change.kind % 16) (o.change.who % 16) (o.change.heir % 256))); omega) (OpT.wr_change_ (OpT.mk (o.kind % 16) (o.at' % 16) (o.to' % 16) (o.key % 16) (o.n % 256) ChangeT.zero 0 0 0) 0 rfl (by have h1 := (ChangeT.len (ChangeT.mk (o.change.kind % 16) (o.change.who % 16) (o.change.heir % 256))); omega) (wwhole ((ChangeT.len ChangeT.zero).trans (ChangeT.len (ChangeT.mk (o.change.kind % 16) (o.change.who % 16) (o.change.heir % 256))).symm))) rfl ?_
    refine TL.nil ?_
    refine TE.blockEnd ?_
    refine TE.next hK3 ?_
    clear hK3
    refine TC.seq (fun K6 hK6 => ?_)
    refine TC.region ?_
    refine TL.v (Want.plain rfl) rfl rfl (PV.loadN (vs := ints (OpT.mk (o.kind % 16) (o.at' % 16) (o.to' % 16) (o.key % 16) (o.n % 256) (ChangeT.mk (o.change.kind % 16) (o.change.who % 16) (o.change.heir % 256)) 0 0 0).flat) rfl Try.underlying70 rfl sz70 rfl (Rd.own 0 rfl rfl) (OpT.len (OpT.mk (o.kind % 16) (o.at' % 16) (o.to' % 16) (o.key % 16) (o.n % 256) (ChangeT.mk (o.change.kind % 16) (o.change.who % 16) (o.change.heir % 256)) 0 0 0)) (whole (OpT.len (OpT.mk (o.kind % 16) (o.at' % 16) (o.to' % 16) (o.key % 16) (o.n % 256) (ChangeT.mk (o.change.kind % 16) (o.change.who % 16) (o.change.heir % 256)) 0 0 0)))) ?_
    refine TL.store (vs := ints (OpT.mk (o.kind % 16) (o.at' % 16) (o.to' % 16) (o.key % 16) (o.n % 256) (ChangeT.mk (o.change.kind % 16) (o.change.who % 16) (o.change.heir % 256)) 0 0 0).flat) (i := 1) (H' := [blkA b3 (ints (OpT.mk (o.kind % 16) (o.at' % 16) (o.to' % 16) (o.key % 16) (o.n % 256) (ChangeT.mk (o.change.kind % 16) (o.change.who % 16) (o.change.heir % 256)) 0 0 0).flat) 70, blkA b2 (ints (OpT.mk (o.kind % 16) (o.at' % 16) (o.to' % 16) (o.key % 16) (o.n % 256) (ChangeT.mk (o.change.kind % 16) (o.change.who % 16) (o.change.heir % 256)) 0 0 0).flat) 70, blkA b1 (ints o.flat) 70]) (Want.plain rfl) rfl rfl rfl rfl rfl (by rw [(OpT.len (OpT.mk (o.kind % 16) (o.at' % 16) (o.to' % 16) (o.key % 16) (o.n % 256) (ChangeT.mk (o.change.kind % 16) (o.change.who % 16) (o.change.heir % 256)) 0 0 0))]; exact sz70) (ints_one _) rfl rfl (by have h0 := (OpT.len OpT.zero); have h1 := (OpT.len (OpT.mk (o.kind % 16) (o.at' % 16) (o.to' % 16) (o.key % 16) (o.n % 256) (ChangeT.mk (o.change.kind % 16) (o.change.who % 16) (o.change.heir % 256)) 0 0 0)); omega) (wwhole ((OpT.len OpT.zero).trans (OpT.len (OpT.mk (o.kind % 16) (o.at' % 16) (o.to' % 16) (o.key % 16) (o.n % 256) (ChangeT.mk (o.change.kind % 16) (o.change.who % 16) (o.change.heir % 256)) 0 0 0)).symm)) rfl ?_
    refine TL.nil ?_
    refine TE.next hK6 ?_
    clear hK6
    refine TC.ret ?_
    refine TE.retC (H' := []) rfl rfl Try.underlying70 rfl sz70 (Rd.own 1 rfl rfl) (OpT.len (OpT.mk (o.kind % 16) (o.at' % 16) (o.to' % 16) (o.key % 16) (o.n % 256) (ChangeT.mk (o.change.kind % 16) (o.change.who % 16) (o.change.heir % 256)) 0 0 0)) (fun _ s => sep_keep [] rfl s) ?_
    refine ⟨?_, rfl⟩
    simp [tameO, OpT.zero, h23, *]
  · skip
    refine TL.v (Want.plain rfl) rfl rfl (PV.assign rfl rfl) ?_
    refine TL.nil ?_
    refine TE.next hK5 ?_
    clear hK5
    refine TC.no rfl ?_
    refine TC.seq (fun K7 hK7 => ?_)
    refine TC.region ?_
    refine TL.v (Want.plain rfl) rfl rfl (PV.eql rfl rfl rfl) ?_
    refine TL.dec (fun h39 => ?_) (fun h39 => ?_)
    · skip
      refine TL.v (Want.plain rfl) rfl rfl (PV.assign rfl rfl) ?_
      refine TL.nil ?_
      refine TE.next hK7 ?_
      clear hK7
      refine TC.yes rfl ?_
      refine TC.draw (fun w => Frm F w ∧ w.heap[b1]? = some (.cells (ints o.flat).toArray 70 (0, 0)) ∧ True) mixed rfl (fun _ s => ⟨Frm.of s, s.block 2 (lb rfl) rfl, trivial⟩) ?_
      refine TD.take (i := 0) rfl (by kernel_rfl) (by kernel_rfl) (by kernel_rfl) (fun _ _ _ _ h => h) (Want.plain rfl) rfl rfl (PV.fieldAddr (r := 8) rfl Try.underlying70 rfl sz3 rfl rfl) ?_
      refine TD.take (i := 1) rfl (by kernel_rfl) (by kernel_rfl) (by kernel_rfl) (fun _ _ _ _ h => h) (Want.plain rfl) rfl rfl (PV.load1 (v := (.int .i64 (o.mask))) rfl Try.underlying3 rfl rfl (fun _ h => h.2.1) (OpT.at_mask o rfl)) ?_
      refine TD.take (i := 2) rfl (by kernel_rfl) (by kernel_rfl) (by kernel_rfl) (fun _ _ _ _ h => h) (Want.plain rfl) rfl rfl (PV.and (r := (o.mask % 256)) rfl rfl rfl (mask (k := 8) (by decide) _)) ?_
      refine TD.take (i := 3) rfl (by kernel_rfl) (by kernel_rfl) (by kernel_rfl) (fun _ _ _ _ h => h) (Want.plain rfl) rfl rfl (PV.fieldAddr (r := 9) rfl Try.underlying70 rfl sz3 rfl rfl) ?_
      refine TD.take (i := 4) rfl (by kernel_rfl) (by kernel_rfl) (by kernel_rfl) (fun _ _ _ _ h => h) (Want.plain rfl) rfl rfl (PV.load1 (v := (.int .i64 (o.torn))) rfl Try.underlying3 rfl rfl (fun _ h => h.2.1) (OpT.at_torn o rfl)) ?_
      refine TD.take (i := 5) rfl (by kernel_rfl) (by kernel_rfl) (by kernel_rfl) (fun _ _ _ _ h => h) (Want.plain rfl) rfl rfl (PV.add (r := (IntKind.i64.wrap (o.torn + 1))) rfl rfl rfl rfl) ?_
      refine TD.take (i := 6) rfl (by kernel_rfl) (by kernel_rfl) (by kernel_rfl) (fun _ _ _ _ h => h) (Want.plain rfl) rfl rfl (PV.and (r := ((o.torn + 1) % 256)) rfl rfl rfl ((mask (k := 8) (by decide) _).trans (wrap_256 _))) ?_
      refine TD.take (i := 7) rfl (by kernel_rfl) (by kernel_rfl) (by kernel_rfl) (fun _ _ _ _ h => h) (Want.plain rfl) rfl rfl (PV.sub rfl rfl rfl (wrap_i64 (by omega) (by omega))) ?_
      refine TD.take (i := 8) rfl (by kernel_rfl) (by kernel_rfl) (by kernel_rfl) (fun _ _ _ _ h => h) (Want.plain rfl) rfl rfl (PV.fieldAddr (r := 4) rfl Try.underlying70 rfl sz3 rfl rfl) ?_
      refine TD.all [9] (by kernel_rfl) rfl ?_
      refine AllT.cons rfl ?_ ?_
      · skip
        refine TL.v (Want.plain rfl) rfl rfl (PV.load1 (v := (.int .i64 ((o.n % 256)))) rfl Try.underlying3 rfl rfl (Rd.own 0 rfl rfl) (OpT.at_n (OpT.mk (o.kind % 16) (o.at' % 16) (o.to' % 16) (o.key % 16) (o.n % 256) ChangeT.zero 0 0 0) rfl)) ?_
        refine TL.nil ?_
        refine TE.draw (fun _ s => ⟨Frm.of s, s.block 2 (lb rfl) rfl, trivial⟩) ?_
        refine TD.take (i := 10) rfl (by kernel_rfl) (by kernel_rfl) (by kernel_rfl) (fun _ _ _ _ h => h) (Want.plain rfl) rfl rfl (PV.fieldAddr (r := 8) rfl Try.underlying70 rfl sz3 rfl rfl) ?_
        refine TD.all [11] (by kernel_rfl) rfl ?_
        refine AllT.cons rfl ?_ ?_
        · skip
          refine TL.store1 (i := 0) (H' := [blkA b3 (ints (OpT.mk (o.kind % 16) (o.at' % 16) (o.to' % 16) (o.key % 16) (o.n % 256) ChangeT.zero (o.mask % 256) 0 0).flat) 70, blkA b2 (ints OpT.zero.flat) 70, blkA b1 (ints o.flat) 70]) (Want.plain rfl) rfl rfl rfl rfl rfl sz3 rfl rfl (by have h0 := (OpT.len (OpT.mk (o.kind % 16) (o.at' % 16) (o.to' % 16) (o.key % 16) (o.n % 256) ChangeT.zero 0 0 0)); omega) (OpT.set_mask (OpT.mk (o.kind % 16) (o.at' % 16) (o.to' % 16) (o.key % 16) (o.n % 256) ChangeT.zero 0 0 0) rfl _) rfl ?_
          refine TL.nil ?_
          refine TE.draw (fun _ s => ⟨Frm.of s, s.block 2 (lb rfl) rfl, trivial⟩) ?_
          refine TD.take (i := 12) rfl (by kernel_rfl) (by kernel_rfl) (by kernel_rfl) (fun _ _ _ _ h => h) (Want.plain rfl) rfl rfl (PV.fieldAddr (r := 9) rfl Try.underlying70 rfl sz3 rfl rfl) ?_
          refine TD.all [13] (by kernel_rfl) rfl ?_
          refine AllT.cons rfl ?_ ?_
          · skip
            refine TL.store1 (i := 0) (H' := [blkA b3 (ints (OpT.mk (o.kind % 16) (o.at' % 16) (o.to' % 16) (o.key % 16) (o.n % 256) ChangeT.zero (o.mask % 256) (((o.torn + 1) % 256) - 1) 0).flat) 70, blkA b2 (ints OpT.zero.flat) 70, blkA b1 (ints o.flat) 70]) (Want.plain rfl) rfl rfl rfl rfl rfl sz3 rfl rfl (by have h0 := (OpT.len (OpT.mk (o.kind % 16) (o.at' % 16) (o.to' % 16) (o.key % 16) (o.n % 256) ChangeT.zero (o.mask % 256) 0 0)); omega) (OpT.set_torn (OpT.mk (o.kind % 16) (o.at' % 16) (o.to' % 16) (o.key % 16) (o.n % 256) ChangeT.zero (o.mask % 256) 0 0) rfl _) rfl ?_
            refine TL.nil ?_
            refine TE.draw (fun _ s => ⟨Frm.of s, s.block 2 (lb rfl) rfl, trivial⟩) ?_
            refine TD.take (i := 14) rfl (by kernel_rfl) (by kernel_rfl) (by kernel_rfl) (fun _ _ _ _ h => h) (Want.plain rfl) rfl rfl (PV.fieldAddr (r := 10) rfl Try.underlying70 rfl sz3 rfl rfl) ?_
            refine TD.all [15] (by kernel_rfl) rfl ?_
            refine AllT.cons rfl ?_ ?_
            · skip
              refine TL.store1 (i := 0) (H' := [blkA b3 (ints (OpT.mk (o.kind % 16) (o.at' % 16) (o.to' % 16) (o.key % 16) (o.n % 256) ChangeT.zero (o.mask % 256) (((o.torn + 1) % 256) - 1) (o.n % 256)).flat) 70, blkA b2 (ints OpT.zero.flat) 70, blkA b1 (ints o.flat) 70]) (Want.plain rfl) rfl rfl rfl rfl rfl sz3 rfl rfl (by have h0 := (OpT.len (OpT.mk (o.kind % 16) (o.at' % 16) (o.to' % 16) (o.key % 16) (o.n % 256) ChangeT.zero (o.mask % 256) (((o.torn + 1) % 256) - 1) 0)); omega) (OpT.set_cut (OpT.mk (o.kind % 16) (o.at' % 16) (o.to' % 16) (o.key % 16) (o.n % 256) ChangeT.zero (o.mask % 256) (((o.torn + 1) % 256) - 1) 0) rfl _) rfl ?_
              refine TL.nil ?_
              refine TE.draw (fun _ s => ⟨Frm.of s, s.block 2 (lb rfl) rfl, trivial⟩) ?_
              refine TD.done (by kernel_rfl) ?_
              refine TE.blockEnd ?_
              refine TE.next hK3 ?_
              clear hK3
              refine TC.seq (fun K8 hK8 => ?_)
              refine TC.region ?_
              refine TL.v (Want.plain rfl) rfl rfl (PV.loadN (vs := ints (OpT.mk (o.kind % 16) (o.at' % 16) (o.to' % 16) (o.key % 16) (o.n % 256) ChangeT.zero (o.mask % 256) (((o.torn + 1) % 256) - 1) (o.n % 256)).flat) rfl Try.underlying70 rfl sz70 rfl (Rd.own 0 rfl rfl) (OpT.len (OpT.mk (o.kind % 16) (o.at' % 16) (o.to' % 16) (o.key % 16) (o.n % 256) ChangeT.zero (o.mask % 256) (((o.torn + 1) % 256) - 1) (o.n % 256))) (whole (OpT.len (OpT.mk (o.kind % 16) (o.at' % 16) (o.to' % 16) (o.key % 16) (o.n % 256) ChangeT.zero (o.mask % 256) (((o.torn + 1) % 256) - 1) (o.n % 256))))) ?_
              refine TL.store (vs := ints (OpT.mk (o.kind % 16) (o.at' % 16) (o.to' % 16) (o.key % 16) (o.n % 256) ChangeT.zero (o.mask % 256) (((o.torn + 1) % 256) - 1) (o.n % 256)).flat) (i := 1) (H' := [blkA b3 (ints (OpT.mk (o.kind % 16) (o.at' % 16) (o.to' % 16) (o.key % 16) (o.n % 256) ChangeT.zero (o.mask % 256) (((o.torn + 1) % 256) - 1) (o.n % 256)).flat) 70, blkA b2 (ints (OpT.mk (o.kind % 16) (o.at' % 16) (o.to' % 16) (o.key % 16) (o.n % 256) ChangeT.zero (o.mask % 256) (((o.torn + 1) % 256) - 1) (o.n % 256)).flat) 70, blkA b1 (ints o.flat) 70]) (Want.plain rfl) rfl rfl rfl rfl rfl (by rw [(OpT.len (OpT.mk (o.kind % 16) (o.at' % 16) (o.to' % 16) (o.key % 16) (o.n % 256) ChangeT.zero (o.mask % 256) (((o.torn + 1) % 256) - 1) (o.n % 256)))]; exact sz70) (ints_one _) rfl rfl (by have h0 := (OpT.len OpT.zero); have h1 := (OpT.len (OpT.mk (o.kind % 16) (o.at' % 16) (o.to' % 16) (o.key % 16) (o.n % 256) ChangeT.zero (o.mask % 256) (((o.torn + 1) % 256) - 1) (o.n % 256))); omega) (wwhole ((OpT.len OpT.zero).trans (OpT.len (OpT.mk (o.kind % 16) (o.at' % 16) (o.to' % 16) (o.key % 16) (o.n % 256) ChangeT.zero (o.mask % 256) (((o.torn + 1) % 256) - 1) (o.n % 256))).symm)) rfl ?_
              refine TL.nil ?_
              refine TE.next hK8 ?_
              clear hK8
              refine TC.ret ?_
              refine TE.retC (H' := []) rfl rfl Try.underlying70 rfl sz70 (Rd.own 1 rfl rfl) (OpT.len (OpT.mk (o.kind % 16) (o.at' % 16) (o.to' % 16) (o.key % 16) (o.n % 256) ChangeT.zero (o.mask % 256) (((o.torn + 1) % 256) - 1) (o.n % 256))) (fun _ s => sep_keep [] rfl s) ?_
              refine ⟨?_, rfl⟩
              simp [tameO, OpT.zero, h23, h39, *]
            exact AllT.nil
          exact AllT.nil
        exact AllT.nil
      exact AllT.nil
    · skip
      refine TL.v (Want.plain rfl) rfl rfl (PV.assign rfl rfl) ?_
      refine TL.nil ?_
      refine TE.next hK7 ?_
      clear hK7
      refine TC.no rfl ?_
      refine TC.skip ?_
      refine TE.blockEnd ?_
      refine TE.next hK3 ?_
      clear hK3
      refine TC.seq (fun K9 hK9 => ?_)
      refine TC.region ?_
      refine TL.v (Want.plain rfl) rfl rfl (PV.loadN (vs := ints (OpT.mk (o.kind % 16) (o.at' % 16) (o.to' % 16) (o.key % 16) (o.n % 256) ChangeT.zero 0 0 0).flat) rfl Try.underlying70 rfl sz70 rfl (Rd.own 0 rfl rfl) (OpT.len (OpT.mk (o.kind % 16) (o.at' % 16) (o.to' % 16) (o.key % 16) (o.n % 256) ChangeT.zero 0 0 0)) (whole (OpT.len (OpT.mk (o.kind % 16) (o.at' % 16) (o.to' % 16) (o.key % 16) (o.n % 256) ChangeT.zero 0 0 0)))) ?_
      refine TL.store (vs := ints (OpT.mk (o.kind % 16) (o.at' % 16) (o.to' % 16) (o.key % 16) (o.n % 256) ChangeT.zero 0 0 0).flat) (i := 1) (H' := [blkA b3 (ints (OpT.mk (o.kind % 16) (o.at' % 16) (o.to' % 16) (o.key % 16) (o.n % 256) ChangeT.zero 0 0 0).flat) 70, blkA b2 (ints (OpT.mk (o.kind % 16) (o.at' % 16) (o.to' % 16) (o.key % 16) (o.n % 256) ChangeT.zero 0 0 0).flat) 70, blkA b1 (ints o.flat) 70]) (Want.plain rfl) rfl rfl rfl rfl rfl (by rw [(OpT.len (OpT.mk (o.kind % 16) (o.at' % 16) (o.to' % 16) (o.key % 16) (o.n % 256) ChangeT.zero 0 0 0))]; exact sz70) (ints_one _) rfl rfl (by have h0 := (OpT.len OpT.zero); have h1 := (OpT.len (OpT.mk (o.kind % 16) (o.at' % 16) (o.to' % 16) (o.key % 16) (o.n % 256) ChangeT.zero 0 0 0)); omega) (wwhole ((OpT.len OpT.zero).trans (OpT.len (OpT.mk (o.kind % 16) (o.at' % 16) (o.to' % 16) (o.key % 16) (o.n % 256) ChangeT.zero 0 0 0)).symm)) rfl ?_
      refine TL.nil ?_
      refine TE.next hK9 ?_
      clear hK9
      refine TC.ret ?_
      refine TE.retC (H' := []) rfl rfl Try.underlying70 rfl sz70 (Rd.own 1 rfl rfl) (OpT.len (OpT.mk (o.kind % 16) (o.at' % 16) (o.to' % 16) (o.key % 16) (o.n % 256) ChangeT.zero 0 0 0)) (fun _ s => sep_keep [] rfl s) ?_
      refine ⟨?_, rfl⟩
      simp [tameO, OpT.zero, h23, h39, *]


end Go.Proofs.Ytdekgkmbcdlekaa
