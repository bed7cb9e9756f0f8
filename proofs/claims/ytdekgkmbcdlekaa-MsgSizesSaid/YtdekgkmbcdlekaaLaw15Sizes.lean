/-
  MsgSizes: what it reckons.
-/

import Derived.Test.YtdekgkmbcdlekaaLaw15F
import Derived.Test.YtdekgkmbcdlekaaLaw15S
import Derived.Test.YtdekgkmbcdlekaaCodecC

namespace Go.Proofs.Ytdekgkmbcdlekaa

open Go Leg Codec Api

set_option linter.unusedSimpArgs false
set_option linter.unusedVariables false

set_option maxRecDepth 100000

set_option maxHeartbeats 8000000

theorem msgSizes_does (a b q : Int) (v : ViewT) :
    Does Try.prog 3 #[(.agg #[(.int .i64 (a)), (.int .i64 (b)), (.int .i64 (q))]), (.agg (ints v.flat).toArray)] (fun _ => True) [] (Ret (fun r' H => r' = .bool true ∧ H = [])) := by
  refine Does.body (vs := [(.agg #[(.int .i64 (a)), (.int .i64 (b)), (.int .i64 (q))]), (.agg (ints v.flat).toArray)]) (n := 144) Try.func3 rfl rfl rfl (fun w0 F hF => ?_)
  obtain ⟨r, hr⟩ : ∃ r : Int, rightV (maskV v) = decide (r = 1) := ⟨if rightV (maskV v) then 1 else 0, by cases rightV (maskV v) <;> rfl⟩
  refine TC.seq (fun K1 hK1 => ?_)
  refine TC.region ?_
  refine TL.box (Want.plain rfl) rfl rfl rfl rfl (fun b2 => ?_)
  change TL _ _ _ _ _ _ _ _ _ [blkA b2 [(.int .i64 (a)), (.int .i64 (b)), (.int .i64 (q))] 22]
  refine TL.box (Want.plain rfl) rfl rfl rfl rfl (fun b3 => ?_)
  change TL _ _ _ _ _ _ _ _ _ [blkA b3 (ints v.flat) 25, blkA b2 [(.int .i64 (a)), (.int .i64 (b)), (.int .i64 (q))] 22]
  refine TL.v (Want.plain rfl) rfl rfl (PV.assign rfl rfl) ?_
  refine TL.nil ?_
  refine TE.next hK1 ?_
  clear hK1
  refine TC.seq (fun K2 hK2 => ?_)
  refine TC.seq (fun K3 hK3 => ?_)
  refine TC.region ?_
  refine TL.callR (A := []) (B := [blkA b3 (ints v.flat) 25, blkA b2 [(.int .i64 (a)), (.int .i64 (b)), (.int .i64 (q))] 22]) (Want.plain rfl) rfl rfl rfl nm10 rfl (fit_does) (fun _ s => s) (fun _ _ _ => trivial) (fun vR HR hR => ?_)
  obtain ⟨rfl, rfl⟩ := hR
  change TL _ _ _ _ _ _ _ _ _ [blkA b3 (ints v.flat) 25, blkA b2 [(.int .i64 (a)), (.int .i64 (b)), (.int .i64 (q))] 22]
  refine TL.v (Want.plain rfl) rfl rfl (PV.not (r := false) rfl rfl rfl) ?_
  refine TL.nil ?_
  refine TE.next hK3 ?_
  clear hK3
  refine TC.no rfl ?_
  refine TC.skip ?_
  refine TE.next hK2 ?_
  clear hK2
  refine TC.seq (fun K4 hK4 => ?_)
  refine TC.draw (fun w => Frm F w ∧ w.heap[b2]? = some (.cells ([(.int .i64 (a)), (.int .i64 (b)), (.int .i64 (q))]).toArray 22 (0, 0)) ∧ True) mixed rfl (fun _ s => ⟨Frm.of s, s.block 1 (lb rfl) rfl, trivial⟩) ?_
  refine TD.take (i := 0) rfl (by kernel_rfl) (by kernel_rfl) (by kernel_rfl) (fun _ _ _ _ h => h) (Want.plain rfl) rfl rfl (PV.indexArr (r := 0) rfl Try.underlying22 sz3 rfl rfl (lz rfl) (lz rfl) rfl) ?_
  refine TD.take (i := 1) rfl (by kernel_rfl) (by kernel_rfl) (by kernel_rfl) (fun _ _ _ _ h => h) (Want.plain rfl) rfl rfl (PV.load1 (v := (.int .i64 (a))) rfl Try.underlying3 rfl rfl (fun _ h => h.2.1) rfl) ?_
  refine TD.take (i := 2) rfl (by kernel_rfl) (by kernel_rfl) (by kernel_rfl) (fun _ _ _ _ h => h) (Want.plain rfl) rfl rfl (PV.and (r := (a % 16)) rfl rfl rfl (mask (k := 4) (by decide) _)) ?_
  refine TD.take (i := 3) rfl (by kernel_rfl) (by kernel_rfl) (by kernel_rfl) (fun _ _ _ _ h => h) (Want.plain rfl) rfl rfl (PV.indexArr (r := 1) rfl Try.underlying22 sz3 rfl rfl (lz rfl) (lz rfl) rfl) ?_
  refine TD.take (i := 4) rfl (by kernel_rfl) (by kernel_rfl) (by kernel_rfl) (fun _ _ _ _ h => h) (Want.plain rfl) rfl rfl (PV.load1 (v := (.int .i64 (b))) rfl Try.underlying3 rfl rfl (fun _ h => h.2.1) rfl) ?_
  refine TD.take (i := 5) rfl (by kernel_rfl) (by kernel_rfl) (by kernel_rfl) (fun _ _ _ _ h => h) (Want.plain rfl) rfl rfl (PV.and (r := (b % 16)) rfl rfl rfl (mask (k := 4) (by decide) _)) ?_
  refine TD.take (i := 6) rfl (by kernel_rfl) (by kernel_rfl) (by kernel_rfl) (fun _ _ _ _ h => h) (Want.plain rfl) rfl rfl (PV.assign rfl rfl) ?_
  refine TD.take (i := 7) rfl (by kernel_rfl) (by kernel_rfl) (by kernel_rfl) (fun _ _ _ _ h => h) (Want.plain rfl) rfl rfl (PV.assign rfl rfl) ?_
  refine TD.done (by kernel_rfl) ?_
  refine TE.next hK4 ?_
  clear hK4
  refine TC.seq (fun K5 hK5 => ?_)
  refine TC.region ?_
  refine TL.v (Want.plain rfl) rfl rfl (PV.fieldAddr (r := 0) rfl Try.underlying25 rfl sz3 rfl rfl) ?_
  refine TL.v (Want.plain rfl) rfl rfl (PV.load1 (v := (.int .i64 (v.epoch))) rfl Try.underlying3 rfl rfl (Rd.own 0 rfl rfl) (ViewT.at_epoch v rfl)) ?_
  refine TL.v (Want.plain rfl) rfl rfl (PV.and (r := (v.epoch % 8)) rfl rfl rfl (mask (k := 3) (by decide) _)) ?_
  refine TL.v (Want.plain rfl) rfl rfl (PV.fieldAddr (r := 1) rfl Try.underlying25 rfl sz3 rfl rfl) ?_
  refine TL.v (Want.plain rfl) rfl rfl (PV.load1 (v := (.int .i64 (v.members))) rfl Try.underlying3 rfl rfl (Rd.own 0 rfl rfl) (ViewT.at_members v rfl)) ?_
  refine TL.v (Want.plain rfl) rfl rfl (PV.and (r := (v.members % 32)) rfl rfl rfl (mask (k := 5) (by decide) _)) ?_
  refine TL.v (Want.plain rfl) rfl rfl (PV.fieldAddr (r := 0) rfl Try.underlying25 rfl sz3 rfl rfl) ?_
  refine TL.store1 (i := 0) (H' := [blkA b3 (ints (ViewT.mk (v.epoch % 8) v.members v.heirs).flat) 25, blkA b2 [(.int .i64 (a)), (.int .i64 (b)), (.int .i64 (q))] 22]) (Want.plain rfl) rfl rfl rfl rfl rfl sz3 rfl rfl (by have h0 := (ViewT.len v); omega) (ViewT.set_epoch v rfl _) rfl ?_
  refine TL.v (Want.plain rfl) rfl rfl (PV.fieldAddr (r := 1) rfl Try.underlying25 rfl sz3 rfl rfl) ?_
  refine TL.store1 (i := 0) (H' := [blkA b3 (ints (ViewT.mk (v.epoch % 8) (v.members % 32) v.heirs).flat) 25, blkA b2 [(.int .i64 (a)), (.int .i64 (b)), (.int .i64 (q))] 22]) (Want.plain rfl) rfl rfl rfl rfl rfl sz3 rfl rfl (by have h0 := (ViewT.len (ViewT.mk (v.epoch % 8) v.members v.heirs)); omega) (ViewT.set_members (ViewT.mk (v.epoch % 8) v.members v.heirs) rfl _) rfl ?_
  refine TL.nil ?_
  refine TE.next hK5 ?_
  clear hK5
  refine TC.seq (fun K6 hK6 => ?_)
  refine TC.seq (fun K7 hK7 => ?_)
  refine TC.region ?_
  refine TL.v (Want.plain rfl) rfl rfl (PV.move rfl rfl) ?_
  refine TL.nil ?_
  refine TE.next hK7 ?_
  clear hK7
  refine TC.block ?_
  refine TC.loop (α := (Nat) × (Vector Int 5)) (fun ⟨k, hs⟩ => k ≤ 5 ∧ ∀ (j : Nat) (h : j < 5), hs[j] = if j < k then v.heirs[j] % 8 % 6 else v.heirs[j]) (fun ⟨k, hs⟩ => [(2, (.pointer (some ⟨b2, 0, none⟩))), (3, (.pointer (some ⟨b3, 0, none⟩))), (4, (.bool false)), (5, (.int .i64 ((a % 16)))), (6, (.int .i64 ((b % 16)))), (33, (.int .i64 (((k : Nat) : Int))))]) (fun ⟨k, hs⟩ => [blkA b3 (ints (ViewT.mk (v.epoch % 8) (v.members % 32) hs).flat) 25, blkA b2 [(.int .i64 (a)), (.int .i64 (b)), (.int .i64 (q))] 22]) (fun ⟨k, hs⟩ => 5 - k) (0, v.heirs)
      ⟨by omega, fun j h => by rw [if_neg (by omega)]⟩ (Sub.r (Sub.r (Sub.r (Sub.r (Sub.r (Sub.cons rfl (by congr 1) (Sub.nil _)))))))
      (fun _ s => s) (fun ⟨k, hs⟩ hinv => ?_)
  obtain ⟨hk, hh⟩ := hinv
  refine TC.seq (fun K8 hK8 => ?_)
  refine TC.region ?_
  refine TL.v (Want.plain rfl) rfl rfl (PV.lss rfl rfl rfl) ?_
  refine TL.dec (fun h34 => ?_) (fun h34 => ?_)
  · skip
    refine TL.nil ?_
    refine TE.next hK8 ?_
    clear hK8
    refine TC.seq (fun K9 hK9 => ?_)
    refine TC.yes rfl ?_
    refine TC.skip ?_
    refine TE.next hK9 ?_
    clear hK9
    refine TC.seq (fun K10 hK10 => ?_)
    refine TC.block ?_
    refine TC.seq (fun K11 hK11 => ?_)
    refine TC.region ?_
    refine TL.v (Want.plain rfl) rfl rfl (PV.move rfl rfl) ?_
    refine TL.v (Want.plain rfl) rfl rfl (PV.assign rfl rfl) ?_
    refine TL.nil ?_
    refine TE.next hK11 ?_
    clear hK11
    refine TC.region ?_
    refine TL.v (Want.plain rfl) rfl rfl (PV.move rfl rfl) ?_
    refine TL.v (Want.plain rfl) rfl rfl (PV.move rfl rfl) ?_
    refine TL.v (Want.plain rfl) rfl rfl (PV.fieldAddr (r := 2) rfl Try.underlying25 rfl sz23 rfl rfl) ?_
    refine TL.v (Want.plain rfl) rfl rfl (PV.indexArr (r := 2 + k) rfl Try.underlying23 sz3 rfl rfl (by omega) (by omega) (by omega)) ?_
    refine TL.v (Want.plain rfl) rfl rfl (PV.load1 (v := (.int .i64 ((hs[k]'(by omega))))) rfl Try.underlying3 rfl rfl (Rd.own 0 rfl rfl) (ViewT.pt_heirs (ViewT.mk (v.epoch % 8) (v.members % 32) hs) k (by omega) (by omega) (vi_at hs (by omega)))) ?_
    refine TL.v (Want.plain rfl) rfl rfl (PV.and (r := ((hs[k]'(by omega)) % 8)) rfl rfl rfl (mask (k := 3) (by decide) _)) ?_
    refine TL.v (Want.plain rfl) rfl rfl (PV.rem (r := (((hs[k]'(by omega)) % 8) % 6)) rfl rfl rfl (by omega) (rem_pos (by omega))) ?_
    refine TL.v (Want.plain rfl) rfl rfl (PV.fieldAddr (r := 2) rfl Try.underlying25 rfl sz23 rfl rfl) ?_
    refine TL.v (Want.plain rfl) rfl rfl (PV.indexArr (r := 2 + k) rfl Try.underlying23 sz3 rfl rfl (by omega) (by omega) (by omega)) ?_
    refine TL.store1 (i := 0) (H' := [blkA b3 (ints (ViewT.mk (v.epoch % 8) (v.members % 32) (hs.set k (((hs[k]'(by omega)) % 8) % 6) (by omega))).flat) 25, blkA b2 [(.int .i64 (a)), (.int .i64 (b)), (.int .i64 (q))] 22]) (Want.plain rfl) rfl rfl rfl rfl rfl sz3 rfl rfl (by have h0 := (ViewT.len (ViewT.mk (v.epoch % 8) (v.members % 32) hs)); omega) (ViewT.st_heirs (ViewT.mk (v.epoch % 8) (v.members % 32) hs) k (by omega) (by omega) (vi_st hs (by omega) _)) rfl ?_
    refine TL.nil ?_
    refine TE.blockEnd ?_
    refine TE.next hK10 ?_
    clear hK10
    refine TC.region ?_
    refine TL.v (Want.plain rfl) rfl rfl (PV.add rfl rfl rfl (wrap_i64 (by omega) (by omega))) ?_
    refine TL.v (Want.plain rfl) rfl rfl (PV.move rfl rfl) ?_
    refine TL.nil ?_
    exact TE.round ((k + 1, (hs.set k (hs[k] % 8 % 6) (by omega))) : (Nat) × (Vector Int 5)) ⟨by omega, fun j h => by
        rw [Vector.getElem_set]
        split
        · subst_vars; rw [hh, if_neg (by omega), if_pos (by omega)]
        · rw [hh j h]; by_cases c : j < k
          · rw [if_pos c, if_pos (by omega)]
          · rw [if_neg c, if_neg (by omega)]⟩ (by show 5 - (k + 1) < 5 - k; omega)
      (Sub.r (Sub.r (Sub.r (Sub.r (Sub.r (Sub.cons rfl (by simp) (Sub.nil _)))))))
      (fun _ s => s)
  · skip
    refine TL.nil ?_
    refine TE.next hK8 ?_
    clear hK8
    refine TC.seq (fun K12 hK12 => ?_)
    refine TC.no rfl ?_
    refine TC.exit ?_
    refine TE.pass ?_
    clear hK12
    refine TE.pass ?_
    refine TE.hit ?_
    refine TE.next hK6 ?_
    clear hK6
    refine TC.seq (fun K13 hK13 => ?_)
    refine TC.region ?_
    obtain rfl : hs = (maskV v).heirs := Vector.ext fun j hj => by rw [maskV_get v j hj, hh j hj, if_pos (by omega)]
    change TL _ _ _ _ _ _ _ _ _ [blkA b3 (ints (maskV v).flat) 25, blkA b2 [(.int .i64 (a)), (.int .i64 (b)), (.int .i64 (q))] 22]
    refine TL.alloc (Want.plain rfl) rfl rfl rfl z29 (fun b8 => ?_)
    change TL _ _ _ _ _ _ _ _ _ [blkA b8 [(.slice none 0 0)] 29, blkA b3 (ints (maskV v).flat) 25, blkA b2 [(.int .i64 (a)), (.int .i64 (b)), (.int .i64 (q))] 22]
    refine TL.ownNil 5 (fun on => ?_)
    clear on
    refine TL.nil ?_
    refine TE.next hK13 ?_
    clear hK13
    refine TC.seq (fun K14 hK14 => ?_)
    refine TC.draw (fun w => Frm F w ∧ w.heap[b3]? = some (.cells (ints (maskV v).flat).toArray 25 (0, 0)) ∧ True) mixed rfl (fun _ s => ⟨Frm.of s, s.block 2 (lb rfl) rfl, trivial⟩) ?_
    refine TD.take (i := 0) rfl (by kernel_rfl) (by kernel_rfl) (by kernel_rfl) (fun _ _ _ _ h => h) (Want.plain rfl) rfl rfl (PV.move rfl rfl) ?_
    refine TD.take (i := 1) rfl (by kernel_rfl) (by kernel_rfl) (by kernel_rfl) (fun _ _ _ _ h => h) (Want.plain rfl) rfl rfl (PV.move rfl rfl) ?_
    refine TD.take (i := 4) rfl (by kernel_rfl) (by kernel_rfl) (by kernel_rfl) (fun _ _ _ _ h => h) (Want.plain rfl) rfl rfl (PV.loadN (vs := ints (maskV v).flat) rfl Try.underlying25 rfl sz25 rfl (fun _ h => h.2.1) (ViewT.len (maskV v)) (whole (ViewT.len (maskV v)))) ?_
    refine TD.all [2] (by kernel_rfl) rfl ?_
    refine AllT.cons rfl ?_ ?_
    · skip
      refine TL.buildSlice (cells := #[(.int .i64 ((a % 16))), (.int .i64 ((b % 16)))]) (Want.plain rfl) rfl rfl rfl Try.underlying79 in3 rfl rfl rfl (by as_aux_lemma => kernel_rfl) (fun b48 => ?_)
      change TL _ _ _ _ _ _ _ _ _ [blkA b48 [(.int .i64 ((a % 16))), (.int .i64 ((b % 16)))] 3, ownB (.slice none 0 0) ([]) 5, blkA b8 [(.slice none 0 0)] 29, blkA b3 (ints (maskV v).flat) 25, blkA b2 [(.int .i64 (a)), (.int .i64 (b)), (.int .i64 (q))] 22]
      refine TL.nil ?_
      refine TE.draw (fun _ s => ⟨Frm.of s, s.block 3 (lb rfl) rfl, trivial⟩) ?_
      refine TD.all [3] (by kernel_rfl) rfl ?_
      refine AllT.cons rfl ?_ ?_
      · skip
        refine TL.callR (A := [blkA b8 [(.slice none 0 0)] 29, ownB (.slice none 0 0) ([]) 5]) (B := [blkA b48 [(.int .i64 ((a % 16))), (.int .i64 ((b % 16)))] 3, blkA b3 (ints (maskV v).flat) 25, blkA b2 [(.int .i64 (a)), (.int .i64 (b)), (.int .i64 (q))] 22]) (Want.plain rfl) rfl rfl rfl nm11 rfl (wnum_does b8 (.slice none 0 0) ([]) (.slice (some ⟨b48, 0, none⟩) (2) (2)) [(a % 16), (b % 16)] (by simp)) (fun _ s => sep_selR [2, 1] rfl s) (isN_piece 0 rfl rfl rfl rfl) (fun vR HR hR => ?_)
        obtain ⟨u1, rfl, rfl⟩ := hR
        change TL _ _ _ _ _ _ _ _ _ [blkA b8 [u1] 29, ownB u1 (encs [(a % 16), (b % 16)]) 5, blkA b48 [(.int .i64 ((a % 16))), (.int .i64 ((b % 16)))] 3, blkA b3 (ints (maskV v).flat) 25, blkA b2 [(.int .i64 (a)), (.int .i64 (b)), (.int .i64 (q))] 22]
        refine TL.nil ?_
        refine TE.draw (fun _ s => ⟨Frm.of s, s.block 3 (lb rfl) rfl, trivial⟩) ?_
        refine TD.all [5] (by kernel_rfl) rfl ?_
        refine AllT.cons rfl ?_ ?_
        · skip
          refine TL.callR (A := [blkA b8 [u1] 29, ownB u1 (encs [(a % 16), (b % 16)]) 5]) (B := [blkA b48 [(.int .i64 ((a % 16))), (.int .i64 ((b % 16)))] 3, blkA b3 (ints (maskV v).flat) 25, blkA b2 [(.int .i64 (a)), (.int .i64 (b)), (.int .i64 (q))] 22]) (Want.plain rfl) rfl rfl rfl nm12 rfl (wview_does b8 u1 (encs [(a % 16), (b % 16)]) (maskV v) (by (have := encs_len [(a % 16), (b % 16)]); simp only [BallotT.flat, ViewT.flat, ChangeT.flat, List.length_cons, List.length_nil, Vector.length_toList, List.length_append] at *; omega)) (fun _ s => s) (fun _ _ _ => trivial) (fun vR HR hR => ?_)
          obtain ⟨u2, rfl, rfl⟩ := hR
          change TL _ _ _ _ _ _ _ _ _ [blkA b8 [u2] 29, ownB u2 (encs [(a % 16), (b % 16)] ++ encs (maskV v).flat) 5, blkA b48 [(.int .i64 ((a % 16))), (.int .i64 ((b % 16)))] 3, blkA b3 (ints (maskV v).flat) 25, blkA b2 [(.int .i64 (a)), (.int .i64 (b)), (.int .i64 (q))] 22]
          refine TL.nil ?_
          refine TE.draw (fun _ s => ⟨Frm.of s, s.block 3 (lb rfl) rfl, trivial⟩) ?_
          refine TD.done (by kernel_rfl) ?_
          refine TE.next hK14 ?_
          clear hK14
          refine TC.seq (fun K15 hK15 => ?_)
          refine TC.region ?_
          refine TL.callR (A := [blkA b8 [u2] 29, ownB u2 (encs [(a % 16), (b % 16)] ++ encs (maskV v).flat) 5]) (B := [blkA b48 [(.int .i64 ((a % 16))), (.int .i64 ((b % 16)))] 3, blkA b3 (ints (maskV v).flat) 25, blkA b2 [(.int .i64 (a)), (.int .i64 (b)), (.int .i64 (q))] 22]) (Want.plain rfl) rfl rfl rfl nm14 rfl (wbytes_does b8 u2 (encs [(a % 16), (b % 16)] ++ encs (maskV v).flat) (by (have := encs_len [(a % 16), (b % 16)]); (have := encs_len ((maskV v).flat)); simp only [BallotT.flat, ViewT.flat, ChangeT.flat, List.length_cons, List.length_nil, Vector.length_toList, List.length_append] at *; omega)) (fun _ s => s) (fun _ _ _ => trivial) (fun vR HR hR => ?_)
          obtain ⟨_, rfl, rfl⟩ := hR
          revert vR
          intro u3
          change TL _ _ _ _ _ _ _ _ _ [blkA b8 [u2] 29, ownB u2 (encs [(a % 16), (b % 16)] ++ encs (maskV v).flat) 5, ownB u3 (encs [(a % 16), (b % 16)] ++ encs (maskV v).flat) 5, blkA b48 [(.int .i64 ((a % 16))), (.int .i64 ((b % 16)))] 3, blkA b3 (ints (maskV v).flat) 25, blkA b2 [(.int .i64 (a)), (.int .i64 (b)), (.int .i64 (q))] 22]
          have f1 := sizes1 (K := (a % 16)) (W := (b % 16)) (v := (maskV v)) (by omega) (by omega)
          have f2 := sizes2 (K := (a % 16)) (W := (b % 16)) (by omega) (by omega) (maskV_ok v)
          obtain ⟨m1, e1, hd1⟩ : ∃ m e, decM (encs [(a % 16), (b % 16)] ++ encs (maskV v).flat) = (m, e) := ⟨_, _, rfl⟩
          rw [hd1] at f1 f2
          simp only [hr, decide_eq_true_iff] at f1 f2
          refine TL.callR (A := []) (B := [blkA b8 [u2] 29, ownB u2 (encs [(a % 16), (b % 16)] ++ encs (maskV v).flat) 5, ownB u3 (encs [(a % 16), (b % 16)] ++ encs (maskV v).flat) 5, blkA b48 [(.int .i64 ((a % 16))), (.int .i64 ((b % 16)))] 3, blkA b3 (ints (maskV v).flat) 25, blkA b2 [(.int .i64 (a)), (.int .i64 (b)), (.int .i64 (q))] 22]) (Want.plain rfl) rfl rfl rfl nm13 rfl (decode_is (hd1)) (fun _ s => s) (isB_own 2 rfl rfl) (fun vR HR hR => ?_)
          obtain ⟨rfl, rfl⟩ := hR
          change TL _ _ _ _ _ _ _ _ _ [blkA b8 [u2] 29, ownB u2 (encs [(a % 16), (b % 16)] ++ encs (maskV v).flat) 5, ownB u3 (encs [(a % 16), (b % 16)] ++ encs (maskV v).flat) 5, blkA b48 [(.int .i64 ((a % 16))), (.int .i64 ((b % 16)))] 3, blkA b3 (ints (maskV v).flat) 25, blkA b2 [(.int .i64 (a)), (.int .i64 (b)), (.int .i64 (q))] 22]
          refine TL.v (Want.plain rfl) rfl rfl (PV.move rfl rfl) ?_
          refine TL.v (Want.plain rfl) rfl rfl (PV.extract (vs := [(.agg (ints m1.flat).toArray), (.int .i64 (e1))]) rfl rfl rfl) ?_
          refine TL.v (Want.plain rfl) rfl rfl (PV.extract (vs := [(.agg (ints m1.flat).toArray), (.int .i64 (e1))]) rfl rfl rfl) ?_
          refine TL.alloc (Want.plain rfl) rfl rfl rfl z44 (fun b9 => ?_)
          change TL _ _ _ _ _ _ _ _ _ [blkA b9 (ints MsgT.zero.flat) 44, blkA b8 [u2] 29, ownB u2 (encs [(a % 16), (b % 16)] ++ encs (maskV v).flat) 5, ownB u3 (encs [(a % 16), (b % 16)] ++ encs (maskV v).flat) 5, blkA b48 [(.int .i64 ((a % 16))), (.int .i64 ((b % 16)))] 3, blkA b3 (ints (maskV v).flat) 25, blkA b2 [(.int .i64 (a)), (.int .i64 (b)), (.int .i64 (q))] 22]
          refine TL.store (vs := ints m1.flat) (i := 0) (H' := [blkA b9 (ints m1.flat) 44, blkA b8 [u2] 29, ownB u2 (encs [(a % 16), (b % 16)] ++ encs (maskV v).flat) 5, ownB u3 (encs [(a % 16), (b % 16)] ++ encs (maskV v).flat) 5, blkA b48 [(.int .i64 ((a % 16))), (.int .i64 ((b % 16)))] 3, blkA b3 (ints (maskV v).flat) 25, blkA b2 [(.int .i64 (a)), (.int .i64 (b)), (.int .i64 (q))] 22]) (Want.plain rfl) rfl rfl rfl rfl rfl (by rw [(MsgT.len m1)]; exact sz44) (ints_one _) rfl rfl (by have h0 := (MsgT.len MsgT.zero); have h1 := (MsgT.len m1); omega) (wwhole ((MsgT.len MsgT.zero).trans (MsgT.len m1).symm)) rfl ?_
          refine TL.v (Want.plain rfl) rfl rfl (PV.assign rfl rfl) ?_
          refine TL.nil ?_
          refine TE.next hK15 ?_
          clear hK15
          refine TC.seq (fun K16 hK16 => ?_)
          refine TC.region ?_
          refine TL.alloc (Want.plain rfl) rfl rfl rfl z29 (fun b11 => ?_)
          change TL _ _ _ _ _ _ _ _ _ [blkA b11 [(.slice none 0 0)] 29, blkA b9 (ints m1.flat) 44, blkA b8 [u2] 29, ownB u2 (encs [(a % 16), (b % 16)] ++ encs (maskV v).flat) 5, ownB u3 (encs [(a % 16), (b % 16)] ++ encs (maskV v).flat) 5, blkA b48 [(.int .i64 ((a % 16))), (.int .i64 ((b % 16)))] 3, blkA b3 (ints (maskV v).flat) 25, blkA b2 [(.int .i64 (a)), (.int .i64 (b)), (.int .i64 (q))] 22]
          refine TL.ownNil 5 (fun on => ?_)
          clear on
          refine TL.nil ?_
          refine TE.next hK16 ?_
          clear hK16
          refine TC.seq (fun K17 hK17 => ?_)
          refine TC.draw (fun w => Frm F w ∧ w.heap[b3]? = some (.cells (ints (maskV v).flat).toArray 25 (0, 0)) ∧ True) mixed rfl (fun _ s => ⟨Frm.of s, s.block 7 (lb rfl) rfl, trivial⟩) ?_
          refine TD.take (i := 0) rfl (by kernel_rfl) (by kernel_rfl) (by kernel_rfl) (fun _ _ _ _ h => h) (Want.plain rfl) rfl rfl (PV.move rfl rfl) ?_
          refine TD.take (i := 3) rfl (by kernel_rfl) (by kernel_rfl) (by kernel_rfl) (fun _ _ _ _ h => h) (Want.plain rfl) rfl rfl (PV.loadN (vs := ints (maskV v).flat) rfl Try.underlying25 rfl sz25 rfl (fun _ h => h.2.1) (ViewT.len (maskV v)) (whole (ViewT.len (maskV v)))) ?_
          refine TD.all [1] (by kernel_rfl) rfl ?_
          refine AllT.cons rfl ?_ ?_
          · skip
            refine TL.buildSlice (cells := #[(.int .i64 ((a % 16)))]) (Want.plain rfl) rfl rfl rfl Try.underlying79 in3 rfl rfl rfl (by as_aux_lemma => kernel_rfl) (fun b58 => ?_)
            change TL _ _ _ _ _ _ _ _ _ [blkA b58 [(.int .i64 ((a % 16)))] 3, ownB (.slice none 0 0) ([]) 5, blkA b11 [(.slice none 0 0)] 29, blkA b9 (ints m1.flat) 44, blkA b8 [u2] 29, ownB u2 (encs [(a % 16), (b % 16)] ++ encs (maskV v).flat) 5, ownB u3 (encs [(a % 16), (b % 16)] ++ encs (maskV v).flat) 5, blkA b48 [(.int .i64 ((a % 16))), (.int .i64 ((b % 16)))] 3, blkA b3 (ints (maskV v).flat) 25, blkA b2 [(.int .i64 (a)), (.int .i64 (b)), (.int .i64 (q))] 22]
            refine TL.nil ?_
            refine TE.draw (fun _ s => ⟨Frm.of s, s.block 8 (lb rfl) rfl, trivial⟩) ?_
            refine TD.all [2] (by kernel_rfl) rfl ?_
            refine AllT.cons rfl ?_ ?_
            · skip
              refine TL.callR (A := [blkA b11 [(.slice none 0 0)] 29, ownB (.slice none 0 0) ([]) 5]) (B := [blkA b58 [(.int .i64 ((a % 16)))] 3, blkA b9 (ints m1.flat) 44, blkA b8 [u2] 29, ownB u2 (encs [(a % 16), (b % 16)] ++ encs (maskV v).flat) 5, ownB u3 (encs [(a % 16), (b % 16)] ++ encs (maskV v).flat) 5, blkA b48 [(.int .i64 ((a % 16))), (.int .i64 ((b % 16)))] 3, blkA b3 (ints (maskV v).flat) 25, blkA b2 [(.int .i64 (a)), (.int .i64 (b)), (.int .i64 (q))] 22]) (Want.plain rfl) rfl rfl rfl nm11 rfl (wnum_does b11 (.slice none 0 0) ([]) (.slice (some ⟨b58, 0, none⟩) (1) (1)) [(a % 16)] (by simp)) (fun _ s => sep_selR [2, 1] rfl s) (isN_piece 0 rfl rfl rfl rfl) (fun vR HR hR => ?_)
              obtain ⟨u4, rfl, rfl⟩ := hR
              change TL _ _ _ _ _ _ _ _ _ [blkA b11 [u4] 29, ownB u4 (encs [(a % 16)]) 5, blkA b58 [(.int .i64 ((a % 16)))] 3, blkA b9 (ints m1.flat) 44, blkA b8 [u2] 29, ownB u2 (encs [(a % 16), (b % 16)] ++ encs (maskV v).flat) 5, ownB u3 (encs [(a % 16), (b % 16)] ++ encs (maskV v).flat) 5, blkA b48 [(.int .i64 ((a % 16))), (.int .i64 ((b % 16)))] 3, blkA b3 (ints (maskV v).flat) 25, blkA b2 [(.int .i64 (a)), (.int .i64 (b)), (.int .i64 (q))] 22]
              refine TL.nil ?_
              refine TE.draw (fun _ s => ⟨Frm.of s, s.block 8 (lb rfl) rfl, trivial⟩) ?_
              refine TD.all [4] (by kernel_rfl) rfl ?_
              refine AllT.cons rfl ?_ ?_
              · skip
                refine TL.callR (A := [blkA b11 [u4] 29, ownB u4 (encs [(a % 16)]) 5]) (B := [blkA b58 [(.int .i64 ((a % 16)))] 3, blkA b9 (ints m1.flat) 44, blkA b8 [u2] 29, ownB u2 (encs [(a % 16), (b % 16)] ++ encs (maskV v).flat) 5, ownB u3 (encs [(a % 16), (b % 16)] ++ encs (maskV v).flat) 5, blkA b48 [(.int .i64 ((a % 16))), (.int .i64 ((b % 16)))] 3, blkA b3 (ints (maskV v).flat) 25, blkA b2 [(.int .i64 (a)), (.int .i64 (b)), (.int .i64 (q))] 22]) (Want.plain rfl) rfl rfl rfl nm12 rfl (wview_does b11 u4 (encs [(a % 16)]) (maskV v) (by (have := encs_len [(a % 16)]); simp only [BallotT.flat, ViewT.flat, ChangeT.flat, List.length_cons, List.length_nil, Vector.length_toList, List.length_append] at *; omega)) (fun _ s => s) (fun _ _ _ => trivial) (fun vR HR hR => ?_)
                obtain ⟨u5, rfl, rfl⟩ := hR
                change TL _ _ _ _ _ _ _ _ _ [blkA b11 [u5] 29, ownB u5 (encs [(a % 16)] ++ encs (maskV v).flat) 5, blkA b58 [(.int .i64 ((a % 16)))] 3, blkA b9 (ints m1.flat) 44, blkA b8 [u2] 29, ownB u2 (encs [(a % 16), (b % 16)] ++ encs (maskV v).flat) 5, ownB u3 (encs [(a % 16), (b % 16)] ++ encs (maskV v).flat) 5, blkA b48 [(.int .i64 ((a % 16))), (.int .i64 ((b % 16)))] 3, blkA b3 (ints (maskV v).flat) 25, blkA b2 [(.int .i64 (a)), (.int .i64 (b)), (.int .i64 (q))] 22]
                refine TL.nil ?_
                refine TE.draw (fun _ s => ⟨Frm.of s, s.block 8 (lb rfl) rfl, trivial⟩) ?_
                refine TD.done (by kernel_rfl) ?_
                refine TE.next hK17 ?_
                clear hK17
                refine TC.seq (fun K18 hK18 => ?_)
                refine TC.region ?_
                refine TL.callR (A := [blkA b11 [u5] 29, ownB u5 (encs [(a % 16)] ++ encs (maskV v).flat) 5]) (B := [blkA b58 [(.int .i64 ((a % 16)))] 3, blkA b9 (ints m1.flat) 44, blkA b8 [u2] 29, ownB u2 (encs [(a % 16), (b % 16)] ++ encs (maskV v).flat) 5, ownB u3 (encs [(a % 16), (b % 16)] ++ encs (maskV v).flat) 5, blkA b48 [(.int .i64 ((a % 16))), (.int .i64 ((b % 16)))] 3, blkA b3 (ints (maskV v).flat) 25, blkA b2 [(.int .i64 (a)), (.int .i64 (b)), (.int .i64 (q))] 22]) (Want.plain rfl) rfl rfl rfl nm14 rfl (wbytes_does b11 u5 (encs [(a % 16)] ++ encs (maskV v).flat) (by (have := encs_len [(a % 16)]); (have := encs_len ((maskV v).flat)); simp only [BallotT.flat, ViewT.flat, ChangeT.flat, List.length_cons, List.length_nil, Vector.length_toList, List.length_append] at *; omega)) (fun _ s => s) (fun _ _ _ => trivial) (fun vR HR hR => ?_)
                obtain ⟨_, rfl, rfl⟩ := hR
                revert vR
                intro u6
                change TL _ _ _ _ _ _ _ _ _ [blkA b11 [u5] 29, ownB u5 (encs [(a % 16)] ++ encs (maskV v).flat) 5, ownB u6 (encs [(a % 16)] ++ encs (maskV v).flat) 5, blkA b58 [(.int .i64 ((a % 16)))] 3, blkA b9 (ints m1.flat) 44, blkA b8 [u2] 29, ownB u2 (encs [(a % 16), (b % 16)] ++ encs (maskV v).flat) 5, ownB u3 (encs [(a % 16), (b % 16)] ++ encs (maskV v).flat) 5, blkA b48 [(.int .i64 ((a % 16))), (.int .i64 ((b % 16)))] 3, blkA b3 (ints (maskV v).flat) 25, blkA b2 [(.int .i64 (a)), (.int .i64 (b)), (.int .i64 (q))] 22]
                have f3 := sizes3 (K := (a % 16)) (maskV_ok v)
                obtain ⟨m2, e2, hd2⟩ : ∃ m e, decM (encs [(a % 16)] ++ encs (maskV v).flat) = (m, e) := ⟨_, _, rfl⟩
                rw [hd2] at f3
                simp only [hr, decide_eq_true_iff] at f3
                refine TL.callR (A := []) (B := [blkA b11 [u5] 29, ownB u5 (encs [(a % 16)] ++ encs (maskV v).flat) 5, ownB u6 (encs [(a % 16)] ++ encs (maskV v).flat) 5, blkA b58 [(.int .i64 ((a % 16)))] 3, blkA b9 (ints m1.flat) 44, blkA b8 [u2] 29, ownB u2 (encs [(a % 16), (b % 16)] ++ encs (maskV v).flat) 5, ownB u3 (encs [(a % 16), (b % 16)] ++ encs (maskV v).flat) 5, blkA b48 [(.int .i64 ((a % 16))), (.int .i64 ((b % 16)))] 3, blkA b3 (ints (maskV v).flat) 25, blkA b2 [(.int .i64 (a)), (.int .i64 (b)), (.int .i64 (q))] 22]) (Want.plain rfl) rfl rfl rfl nm13 rfl (decode_is (hd2)) (fun _ s => s) (isB_own 2 rfl rfl) (fun vR HR hR => ?_)
                obtain ⟨rfl, rfl⟩ := hR
                change TL _ _ _ _ _ _ _ _ _ [blkA b11 [u5] 29, ownB u5 (encs [(a % 16)] ++ encs (maskV v).flat) 5, ownB u6 (encs [(a % 16)] ++ encs (maskV v).flat) 5, blkA b58 [(.int .i64 ((a % 16)))] 3, blkA b9 (ints m1.flat) 44, blkA b8 [u2] 29, ownB u2 (encs [(a % 16), (b % 16)] ++ encs (maskV v).flat) 5, ownB u3 (encs [(a % 16), (b % 16)] ++ encs (maskV v).flat) 5, blkA b48 [(.int .i64 ((a % 16))), (.int .i64 ((b % 16)))] 3, blkA b3 (ints (maskV v).flat) 25, blkA b2 [(.int .i64 (a)), (.int .i64 (b)), (.int .i64 (q))] 22]
                refine TL.v (Want.plain rfl) rfl rfl (PV.move rfl rfl) ?_
                refine TL.v (Want.plain rfl) rfl rfl (PV.extract (vs := [(.agg (ints m2.flat).toArray), (.int .i64 (e2))]) rfl rfl rfl) ?_
                refine TL.v (Want.plain rfl) rfl rfl (PV.extract (vs := [(.agg (ints m2.flat).toArray), (.int .i64 (e2))]) rfl rfl rfl) ?_
                refine TL.alloc (Want.plain rfl) rfl rfl rfl z44 (fun b12 => ?_)
                change TL _ _ _ _ _ _ _ _ _ [blkA b12 (ints MsgT.zero.flat) 44, blkA b11 [u5] 29, ownB u5 (encs [(a % 16)] ++ encs (maskV v).flat) 5, ownB u6 (encs [(a % 16)] ++ encs (maskV v).flat) 5, blkA b58 [(.int .i64 ((a % 16)))] 3, blkA b9 (ints m1.flat) 44, blkA b8 [u2] 29, ownB u2 (encs [(a % 16), (b % 16)] ++ encs (maskV v).flat) 5, ownB u3 (encs [(a % 16), (b % 16)] ++ encs (maskV v).flat) 5, blkA b48 [(.int .i64 ((a % 16))), (.int .i64 ((b % 16)))] 3, blkA b3 (ints (maskV v).flat) 25, blkA b2 [(.int .i64 (a)), (.int .i64 (b)), (.int .i64 (q))] 22]
                refine TL.store (vs := ints m2.flat) (i := 0) (H' := [blkA b12 (ints m2.flat) 44, blkA b11 [u5] 29, ownB u5 (encs [(a % 16)] ++ encs (maskV v).flat) 5, ownB u6 (encs [(a % 16)] ++ encs (maskV v).flat) 5, blkA b58 [(.int .i64 ((a % 16)))] 3, blkA b9 (ints m1.flat) 44, blkA b8 [u2] 29, ownB u2 (encs [(a % 16), (b % 16)] ++ encs (maskV v).flat) 5, ownB u3 (encs [(a % 16), (b % 16)] ++ encs (maskV v).flat) 5, blkA b48 [(.int .i64 ((a % 16))), (.int .i64 ((b % 16)))] 3, blkA b3 (ints (maskV v).flat) 25, blkA b2 [(.int .i64 (a)), (.int .i64 (b)), (.int .i64 (q))] 22]) (Want.plain rfl) rfl rfl rfl rfl rfl (by rw [(MsgT.len m2)]; exact sz44) (ints_one _) rfl rfl (by have h0 := (MsgT.len MsgT.zero); have h1 := (MsgT.len m2); omega) (wwhole ((MsgT.len MsgT.zero).trans (MsgT.len m2).symm)) rfl ?_
                refine TL.v (Want.plain rfl) rfl rfl (PV.assign rfl rfl) ?_
                refine TL.nil ?_
                refine TE.next hK18 ?_
                clear hK18
                refine TC.seq (fun K19 hK19 => ?_)
                refine TC.region ?_
                refine TL.alloc (Want.plain rfl) rfl rfl rfl z29 (fun b14 => ?_)
                change TL _ _ _ _ _ _ _ _ _ [blkA b14 [(.slice none 0 0)] 29, blkA b12 (ints m2.flat) 44, blkA b11 [u5] 29, ownB u5 (encs [(a % 16)] ++ encs (maskV v).flat) 5, ownB u6 (encs [(a % 16)] ++ encs (maskV v).flat) 5, blkA b58 [(.int .i64 ((a % 16)))] 3, blkA b9 (ints m1.flat) 44, blkA b8 [u2] 29, ownB u2 (encs [(a % 16), (b % 16)] ++ encs (maskV v).flat) 5, ownB u3 (encs [(a % 16), (b % 16)] ++ encs (maskV v).flat) 5, blkA b48 [(.int .i64 ((a % 16))), (.int .i64 ((b % 16)))] 3, blkA b3 (ints (maskV v).flat) 25, blkA b2 [(.int .i64 (a)), (.int .i64 (b)), (.int .i64 (q))] 22]
                refine TL.ownNil 5 (fun on => ?_)
                clear on
                refine TL.nil ?_
                refine TE.next hK19 ?_
                clear hK19
                refine TC.seq (fun K20 hK20 => ?_)
                refine TC.draw (fun w => Frm F w ∧ w.heap[b2]? = some (.cells ([(.int .i64 (a)), (.int .i64 (b)), (.int .i64 (q))]).toArray 22 (0, 0)) ∧ True) mixed rfl (fun _ s => ⟨Frm.of s, s.block 13 (lb rfl) rfl, trivial⟩) ?_
                refine TD.take (i := 0) rfl (by kernel_rfl) (by kernel_rfl) (by kernel_rfl) (fun _ _ _ _ h => h) (Want.plain rfl) rfl rfl (PV.move rfl rfl) ?_
                refine TD.take (i := 1) rfl (by kernel_rfl) (by kernel_rfl) (by kernel_rfl) (fun _ _ _ _ h => h) (Want.plain rfl) rfl rfl (PV.move rfl rfl) ?_
                refine TD.take (i := 4) rfl (by kernel_rfl) (by kernel_rfl) (by kernel_rfl) (fun _ _ _ _ h => h) (Want.plain rfl) rfl rfl (PV.indexArr (r := 2) rfl Try.underlying22 sz3 rfl rfl (lz rfl) (lz rfl) rfl) ?_
                refine TD.take (i := 5) rfl (by kernel_rfl) (by kernel_rfl) (by kernel_rfl) (fun _ _ _ _ h => h) (Want.plain rfl) rfl rfl (PV.load1 (v := (.int .i64 (q))) rfl Try.underlying3 rfl rfl (fun _ h => h.2.1) rfl) ?_
                refine TD.take (i := 6) rfl (by kernel_rfl) (by kernel_rfl) (by kernel_rfl) (fun _ _ _ _ h => h) (Want.plain rfl) rfl rfl (PV.and (r := (q % 1024)) rfl rfl rfl (mask (k := 10) (by decide) _)) ?_
                refine TD.take (i := 7) rfl (by kernel_rfl) (by kernel_rfl) (by kernel_rfl) (fun _ _ _ _ h => h) (Want.plain rfl) rfl rfl (PV.buildSegs (cs := ints (RowT.mk (q % 1024) RowT.zero.cells (#v[0, 0, 0, 0, 0]) RowT.zero.left).flat) (segs := [[Value.int .i64 0], ints (flats RowT.zero.cells.toList), ints (#v[0, 0, 0, 0, 0]).toList, ints (RowT.zero.left.toList.flatMap fun v => flats v.toList)]) (res := [[Value.int .i64 (q % 1024)], ints (flats RowT.zero.cells.toList), ints (#v[0, 0, 0, 0, 0]).toList, ints (RowT.zero.left.toList.flatMap fun v => flats v.toList)]) (parts := [(0, [Value.int .i64 (q % 1024)])]) rfl rfl Try.underlying38 (by kernel_rfl) (by kernel_rfl) rfl (putSegs_step rfl ((rfl : [Value.int .i64 (q % 1024)].length = 1).trans (rfl : [Value.int .i64 0].length = 1).symm) putSegs_nil) (RowT.eq (RowT.mk (q % 1024) RowT.zero.cells (#v[0, 0, 0, 0, 0]) RowT.zero.left)).symm) ?_
                refine TD.all [2] (by kernel_rfl) rfl ?_
                refine AllT.cons rfl ?_ ?_
                · skip
                  refine TL.buildSlice (cells := #[(.int .i64 ((a % 16))), (.int .i64 ((b % 16)))]) (Want.plain rfl) rfl rfl rfl Try.underlying79 in3 rfl rfl rfl (by as_aux_lemma => kernel_rfl) (fun b69 => ?_)
                  change TL _ _ _ _ _ _ _ _ _ [blkA b69 [(.int .i64 ((a % 16))), (.int .i64 ((b % 16)))] 3, ownB (.slice none 0 0) ([]) 5, blkA b14 [(.slice none 0 0)] 29, blkA b12 (ints m2.flat) 44, blkA b11 [u5] 29, ownB u5 (encs [(a % 16)] ++ encs (maskV v).flat) 5, ownB u6 (encs [(a % 16)] ++ encs (maskV v).flat) 5, blkA b58 [(.int .i64 ((a % 16)))] 3, blkA b9 (ints m1.flat) 44, blkA b8 [u2] 29, ownB u2 (encs [(a % 16), (b % 16)] ++ encs (maskV v).flat) 5, ownB u3 (encs [(a % 16), (b % 16)] ++ encs (maskV v).flat) 5, blkA b48 [(.int .i64 ((a % 16))), (.int .i64 ((b % 16)))] 3, blkA b3 (ints (maskV v).flat) 25, blkA b2 [(.int .i64 (a)), (.int .i64 (b)), (.int .i64 (q))] 22]
                  refine TL.nil ?_
                  refine TE.draw (fun _ s => ⟨Frm.of s, s.block 14 (lb rfl) rfl, trivial⟩) ?_
                  refine TD.all [3] (by kernel_rfl) rfl ?_
                  refine AllT.cons rfl ?_ ?_
                  · skip
                    refine TL.callR (A := [blkA b14 [(.slice none 0 0)] 29, ownB (.slice none 0 0) ([]) 5]) (B := [blkA b69 [(.int .i64 ((a % 16))), (.int .i64 ((b % 16)))] 3, blkA b12 (ints m2.flat) 44, blkA b11 [u5] 29, ownB u5 (encs [(a % 16)] ++ encs (maskV v).flat) 5, ownB u6 (encs [(a % 16)] ++ encs (maskV v).flat) 5, blkA b58 [(.int .i64 ((a % 16)))] 3, blkA b9 (ints m1.flat) 44, blkA b8 [u2] 29, ownB u2 (encs [(a % 16), (b % 16)] ++ encs (maskV v).flat) 5, ownB u3 (encs [(a % 16), (b % 16)] ++ encs (maskV v).flat) 5, blkA b48 [(.int .i64 ((a % 16))), (.int .i64 ((b % 16)))] 3, blkA b3 (ints (maskV v).flat) 25, blkA b2 [(.int .i64 (a)), (.int .i64 (b)), (.int .i64 (q))] 22]) (Want.plain rfl) rfl rfl rfl nm11 rfl (wnum_does b14 (.slice none 0 0) ([]) (.slice (some ⟨b69, 0, none⟩) (2) (2)) [(a % 16), (b % 16)] (by simp)) (fun _ s => sep_selR [2, 1] rfl s) (isN_piece 0 rfl rfl rfl rfl) (fun vR HR hR => ?_)
                    obtain ⟨u7, rfl, rfl⟩ := hR
                    change TL _ _ _ _ _ _ _ _ _ [blkA b14 [u7] 29, ownB u7 (encs [(a % 16), (b % 16)]) 5, blkA b69 [(.int .i64 ((a % 16))), (.int .i64 ((b % 16)))] 3, blkA b12 (ints m2.flat) 44, blkA b11 [u5] 29, ownB u5 (encs [(a % 16)] ++ encs (maskV v).flat) 5, ownB u6 (encs [(a % 16)] ++ encs (maskV v).flat) 5, blkA b58 [(.int .i64 ((a % 16)))] 3, blkA b9 (ints m1.flat) 44, blkA b8 [u2] 29, ownB u2 (encs [(a % 16), (b % 16)] ++ encs (maskV v).flat) 5, ownB u3 (encs [(a % 16), (b % 16)] ++ encs (maskV v).flat) 5, blkA b48 [(.int .i64 ((a % 16))), (.int .i64 ((b % 16)))] 3, blkA b3 (ints (maskV v).flat) 25, blkA b2 [(.int .i64 (a)), (.int .i64 (b)), (.int .i64 (q))] 22]
                    refine TL.nil ?_
                    refine TE.draw (fun _ s => ⟨Frm.of s, s.block 14 (lb rfl) rfl, trivial⟩) ?_
                    refine TD.all [8] (by kernel_rfl) rfl ?_
                    refine AllT.cons rfl ?_ ?_
                    · skip
                      refine TL.callR (A := [blkA b14 [u7] 29, ownB u7 (encs [(a % 16), (b % 16)]) 5]) (B := [blkA b69 [(.int .i64 ((a % 16))), (.int .i64 ((b % 16)))] 3, blkA b12 (ints m2.flat) 44, blkA b11 [u5] 29, ownB u5 (encs [(a % 16)] ++ encs (maskV v).flat) 5, ownB u6 (encs [(a % 16)] ++ encs (maskV v).flat) 5, blkA b58 [(.int .i64 ((a % 16)))] 3, blkA b9 (ints m1.flat) 44, blkA b8 [u2] 29, ownB u2 (encs [(a % 16), (b % 16)] ++ encs (maskV v).flat) 5, ownB u3 (encs [(a % 16), (b % 16)] ++ encs (maskV v).flat) 5, blkA b48 [(.int .i64 ((a % 16))), (.int .i64 ((b % 16)))] 3, blkA b3 (ints (maskV v).flat) 25, blkA b2 [(.int .i64 (a)), (.int .i64 (b)), (.int .i64 (q))] 22]) (Want.plain rfl) rfl rfl rfl nm15 rfl (wrow_does b14 u7 (encs [(a % 16), (b % 16)]) (rowOf q) (by (have := encs_len [(a % 16), (b % 16)]); simp only [BallotT.flat, ViewT.flat, ChangeT.flat, List.length_cons, List.length_nil, Vector.length_toList, List.length_append] at *; omega)) (fun _ s => s) (fun _ _ _ => trivial) (fun vR HR hR => ?_)
                      obtain ⟨u8, rfl, rfl⟩ := hR
                      change TL _ _ _ _ _ _ _ _ _ [blkA b14 [u8] 29, ownB u8 (encs [(a % 16), (b % 16)] ++ encRow (rowOf q)) 5, blkA b69 [(.int .i64 ((a % 16))), (.int .i64 ((b % 16)))] 3, blkA b12 (ints m2.flat) 44, blkA b11 [u5] 29, ownB u5 (encs [(a % 16)] ++ encs (maskV v).flat) 5, ownB u6 (encs [(a % 16)] ++ encs (maskV v).flat) 5, blkA b58 [(.int .i64 ((a % 16)))] 3, blkA b9 (ints m1.flat) 44, blkA b8 [u2] 29, ownB u2 (encs [(a % 16), (b % 16)] ++ encs (maskV v).flat) 5, ownB u3 (encs [(a % 16), (b % 16)] ++ encs (maskV v).flat) 5, blkA b48 [(.int .i64 ((a % 16))), (.int .i64 ((b % 16)))] 3, blkA b3 (ints (maskV v).flat) 25, blkA b2 [(.int .i64 (a)), (.int .i64 (b)), (.int .i64 (q))] 22]
                      refine TL.nil ?_
                      refine TE.draw (fun _ s => ⟨Frm.of s, s.block 14 (lb rfl) rfl, trivial⟩) ?_
                      refine TD.done (by kernel_rfl) ?_
                      refine TE.next hK20 ?_
                      clear hK20
                      refine TC.seq (fun K21 hK21 => ?_)
                      refine TC.region ?_
                      refine TL.callR (A := [blkA b14 [u8] 29, ownB u8 (encs [(a % 16), (b % 16)] ++ encRow (rowOf q)) 5]) (B := [blkA b69 [(.int .i64 ((a % 16))), (.int .i64 ((b % 16)))] 3, blkA b12 (ints m2.flat) 44, blkA b11 [u5] 29, ownB u5 (encs [(a % 16)] ++ encs (maskV v).flat) 5, ownB u6 (encs [(a % 16)] ++ encs (maskV v).flat) 5, blkA b58 [(.int .i64 ((a % 16)))] 3, blkA b9 (ints m1.flat) 44, blkA b8 [u2] 29, ownB u2 (encs [(a % 16), (b % 16)] ++ encs (maskV v).flat) 5, ownB u3 (encs [(a % 16), (b % 16)] ++ encs (maskV v).flat) 5, blkA b48 [(.int .i64 ((a % 16))), (.int .i64 ((b % 16)))] 3, blkA b3 (ints (maskV v).flat) 25, blkA b2 [(.int .i64 (a)), (.int .i64 (b)), (.int .i64 (q))] 22]) (Want.plain rfl) rfl rfl rfl nm14 rfl (wbytes_does b14 u8 (encs [(a % 16), (b % 16)] ++ encRow (rowOf q)) (by (have := encs_len [(a % 16), (b % 16)]); (have := encRow_len (rowOf q)); simp only [BallotT.flat, ViewT.flat, ChangeT.flat, List.length_cons, List.length_nil, Vector.length_toList, List.length_append] at *; omega)) (fun _ s => s) (fun _ _ _ => trivial) (fun vR HR hR => ?_)
                      obtain ⟨_, rfl, rfl⟩ := hR
                      revert vR
                      intro u9
                      change TL _ _ _ _ _ _ _ _ _ [blkA b14 [u8] 29, ownB u8 (encs [(a % 16), (b % 16)] ++ encRow (rowOf q)) 5, ownB u9 (encs [(a % 16), (b % 16)] ++ encRow (rowOf q)) 5, blkA b69 [(.int .i64 ((a % 16))), (.int .i64 ((b % 16)))] 3, blkA b12 (ints m2.flat) 44, blkA b11 [u5] 29, ownB u5 (encs [(a % 16)] ++ encs (maskV v).flat) 5, ownB u6 (encs [(a % 16)] ++ encs (maskV v).flat) 5, blkA b58 [(.int .i64 ((a % 16)))] 3, blkA b9 (ints m1.flat) 44, blkA b8 [u2] 29, ownB u2 (encs [(a % 16), (b % 16)] ++ encs (maskV v).flat) 5, ownB u3 (encs [(a % 16), (b % 16)] ++ encs (maskV v).flat) 5, blkA b48 [(.int .i64 ((a % 16))), (.int .i64 ((b % 16)))] 3, blkA b3 (ints (maskV v).flat) 25, blkA b2 [(.int .i64 (a)), (.int .i64 (b)), (.int .i64 (q))] 22]
                      have f4 := sizes4 (K := (a % 16)) (W := (b % 16)) (by omega) (by omega) (by omega) (by omega) (rowOf_tame q) (rowOf_right q)
                      obtain ⟨m3, e3, hd3⟩ : ∃ m e, decM (encs [(a % 16), (b % 16)] ++ encRow (rowOf q)) = (m, e) := ⟨_, _, rfl⟩
                      rw [hd3] at f4
                      simp only [hr, decide_eq_true_iff] at f4
                      refine TL.callR (A := []) (B := [blkA b14 [u8] 29, ownB u8 (encs [(a % 16), (b % 16)] ++ encRow (rowOf q)) 5, ownB u9 (encs [(a % 16), (b % 16)] ++ encRow (rowOf q)) 5, blkA b69 [(.int .i64 ((a % 16))), (.int .i64 ((b % 16)))] 3, blkA b12 (ints m2.flat) 44, blkA b11 [u5] 29, ownB u5 (encs [(a % 16)] ++ encs (maskV v).flat) 5, ownB u6 (encs [(a % 16)] ++ encs (maskV v).flat) 5, blkA b58 [(.int .i64 ((a % 16)))] 3, blkA b9 (ints m1.flat) 44, blkA b8 [u2] 29, ownB u2 (encs [(a % 16), (b % 16)] ++ encs (maskV v).flat) 5, ownB u3 (encs [(a % 16), (b % 16)] ++ encs (maskV v).flat) 5, blkA b48 [(.int .i64 ((a % 16))), (.int .i64 ((b % 16)))] 3, blkA b3 (ints (maskV v).flat) 25, blkA b2 [(.int .i64 (a)), (.int .i64 (b)), (.int .i64 (q))] 22]) (Want.plain rfl) rfl rfl rfl nm13 rfl (decode_is (hd3)) (fun _ s => s) (isB_own 2 rfl rfl) (fun vR HR hR => ?_)
                      obtain ⟨rfl, rfl⟩ := hR
                      change TL _ _ _ _ _ _ _ _ _ [blkA b14 [u8] 29, ownB u8 (encs [(a % 16), (b % 16)] ++ encRow (rowOf q)) 5, ownB u9 (encs [(a % 16), (b % 16)] ++ encRow (rowOf q)) 5, blkA b69 [(.int .i64 ((a % 16))), (.int .i64 ((b % 16)))] 3, blkA b12 (ints m2.flat) 44, blkA b11 [u5] 29, ownB u5 (encs [(a % 16)] ++ encs (maskV v).flat) 5, ownB u6 (encs [(a % 16)] ++ encs (maskV v).flat) 5, blkA b58 [(.int .i64 ((a % 16)))] 3, blkA b9 (ints m1.flat) 44, blkA b8 [u2] 29, ownB u2 (encs [(a % 16), (b % 16)] ++ encs (maskV v).flat) 5, ownB u3 (encs [(a % 16), (b % 16)] ++ encs (maskV v).flat) 5, blkA b48 [(.int .i64 ((a % 16))), (.int .i64 ((b % 16)))] 3, blkA b3 (ints (maskV v).flat) 25, blkA b2 [(.int .i64 (a)), (.int .i64 (b)), (.int .i64 (q))] 22]
                      refine TL.v (Want.plain rfl) rfl rfl (PV.move rfl rfl) ?_
                      refine TL.v (Want.plain rfl) rfl rfl (PV.extract (vs := [(.agg (ints m3.flat).toArray), (.int .i64 (e3))]) rfl rfl rfl) ?_
                      refine TL.v (Want.plain rfl) rfl rfl (PV.extract (vs := [(.agg (ints m3.flat).toArray), (.int .i64 (e3))]) rfl rfl rfl) ?_
                      refine TL.alloc (Want.plain rfl) rfl rfl rfl z44 (fun b15 => ?_)
                      change TL _ _ _ _ _ _ _ _ _ [blkA b15 (ints MsgT.zero.flat) 44, blkA b14 [u8] 29, ownB u8 (encs [(a % 16), (b % 16)] ++ encRow (rowOf q)) 5, ownB u9 (encs [(a % 16), (b % 16)] ++ encRow (rowOf q)) 5, blkA b69 [(.int .i64 ((a % 16))), (.int .i64 ((b % 16)))] 3, blkA b12 (ints m2.flat) 44, blkA b11 [u5] 29, ownB u5 (encs [(a % 16)] ++ encs (maskV v).flat) 5, ownB u6 (encs [(a % 16)] ++ encs (maskV v).flat) 5, blkA b58 [(.int .i64 ((a % 16)))] 3, blkA b9 (ints m1.flat) 44, blkA b8 [u2] 29, ownB u2 (encs [(a % 16), (b % 16)] ++ encs (maskV v).flat) 5, ownB u3 (encs [(a % 16), (b % 16)] ++ encs (maskV v).flat) 5, blkA b48 [(.int .i64 ((a % 16))), (.int .i64 ((b % 16)))] 3, blkA b3 (ints (maskV v).flat) 25, blkA b2 [(.int .i64 (a)), (.int .i64 (b)), (.int .i64 (q))] 22]
                      refine TL.store (vs := ints m3.flat) (i := 0) (H' := [blkA b15 (ints m3.flat) 44, blkA b14 [u8] 29, ownB u8 (encs [(a % 16), (b % 16)] ++ encRow (rowOf q)) 5, ownB u9 (encs [(a % 16), (b % 16)] ++ encRow (rowOf q)) 5, blkA b69 [(.int .i64 ((a % 16))), (.int .i64 ((b % 16)))] 3, blkA b12 (ints m2.flat) 44, blkA b11 [u5] 29, ownB u5 (encs [(a % 16)] ++ encs (maskV v).flat) 5, ownB u6 (encs [(a % 16)] ++ encs (maskV v).flat) 5, blkA b58 [(.int .i64 ((a % 16)))] 3, blkA b9 (ints m1.flat) 44, blkA b8 [u2] 29, ownB u2 (encs [(a % 16), (b % 16)] ++ encs (maskV v).flat) 5, ownB u3 (encs [(a % 16), (b % 16)] ++ encs (maskV v).flat) 5, blkA b48 [(.int .i64 ((a % 16))), (.int .i64 ((b % 16)))] 3, blkA b3 (ints (maskV v).flat) 25, blkA b2 [(.int .i64 (a)), (.int .i64 (b)), (.int .i64 (q))] 22]) (Want.plain rfl) rfl rfl rfl rfl rfl (by rw [(MsgT.len m3)]; exact sz44) (ints_one _) rfl rfl (by have h0 := (MsgT.len MsgT.zero); have h1 := (MsgT.len m3); omega) (wwhole ((MsgT.len MsgT.zero).trans (MsgT.len m3).symm)) rfl ?_
                      refine TL.v (Want.plain rfl) rfl rfl (PV.assign rfl rfl) ?_
                      refine TL.nil ?_
                      refine TE.next hK21 ?_
                      clear hK21
                      refine TC.seq (fun K22 hK22 => ?_)
                      refine TC.region ?_
                      refine TL.v (Want.plain rfl) rfl rfl (PV.move rfl rfl) ?_
                      refine TL.v (Want.plain rfl) rfl rfl (PV.neq rfl rfl rfl) ?_
                      refine TL.dec (fun h82 => ?_) (fun h82 => ?_)
                      · skip
                        refine TL.v (Want.plain rfl) rfl rfl (PV.move rfl rfl) ?_
                        refine TL.unmet (b := true) rfl rfl rfl rfl (lb rfl) ?_
                        refine TL.unmet (b := true) rfl rfl rfl rfl (lb rfl) ?_
                        refine TL.v (Want.plain rfl) rfl rfl (PV.pick rfl rfl rfl) ?_
                        refine TL.v (Want.plain rfl) rfl rfl (PV.move rfl rfl) ?_
                        refine TL.unmet (b := true) rfl rfl rfl rfl (lb rfl) ?_
                        refine TL.unmet (b := true) rfl rfl rfl rfl (lb rfl) ?_
                        refine TL.unmet (b := true) rfl rfl rfl rfl (lb rfl) ?_
                        refine TL.unmetU rfl rfl rfl rfl (lb rfl) ?_
                        refine TL.unmetU rfl rfl rfl rfl (lb rfl) ?_
                        refine TL.unmet (b := true) rfl rfl rfl rfl (lb rfl) ?_
                        refine TL.unmet (b := true) rfl rfl rfl rfl (lb rfl) ?_
                        refine TL.unmetU rfl rfl rfl rfl (lb rfl) ?_
                        refine TL.unmetU rfl rfl rfl rfl (lb rfl) ?_
                        refine TL.unmet (b := true) rfl rfl rfl rfl (lb rfl) ?_
                        refine TL.v (Want.plain rfl) rfl rfl (PV.pick rfl rfl rfl) ?_
                        refine TL.v (Want.plain rfl) rfl rfl (PV.move rfl rfl) ?_
                        refine TL.v (Want.met rfl rfl rfl) rfl rfl (PV.move rfl rfl) ?_
                        refine TL.v (Want.met rfl rfl rfl) rfl rfl (PV.neq rfl rfl rfl) ?_
                        refine TL.dec (fun h101 => ?_) (fun h101 => ?_)
                        · skip
                          refine TL.v (Want.met rfl rfl rfl) rfl rfl (PV.move rfl rfl) ?_
                          refine TL.unmet (b := true) rfl rfl rfl rfl (lb rfl) ?_
                          refine TL.unmet (b := true) rfl rfl rfl rfl (lb rfl) ?_
                          refine TL.unmet (b := true) rfl rfl rfl rfl (lb rfl) ?_
                          refine TL.unmet (b := true) rfl rfl rfl rfl (lb rfl) ?_
                          refine TL.unmet (b := true) rfl rfl rfl rfl (lb rfl) ?_
                          refine TL.unmetU rfl rfl rfl rfl (lb rfl) ?_
                          refine TL.unmetU rfl rfl rfl rfl (lb rfl) ?_
                          refine TL.unmet (b := true) rfl rfl rfl rfl (lb rfl) ?_
                          refine TL.unmet (b := true) rfl rfl rfl rfl (lb rfl) ?_
                          refine TL.v (Want.met rfl rfl rfl) rfl rfl (PV.pick rfl rfl rfl) ?_
                          refine TL.v (Want.plain rfl) rfl rfl (PV.pick rfl rfl rfl) ?_
                          refine TL.v (Want.plain rfl) rfl rfl (PV.move rfl rfl) ?_
                          refine TL.v (Want.met rfl rfl rfl) rfl rfl (PV.move rfl rfl) ?_
                          refine TL.v (Want.met rfl rfl rfl) rfl rfl (PV.neq rfl rfl rfl) ?_
                          refine TL.dec (fun h116 => ?_) (fun h116 => ?_)
                          · skip
                            refine TL.v (Want.met rfl rfl rfl) rfl rfl (PV.move rfl rfl) ?_
                            refine TL.unmet (b := true) rfl rfl rfl rfl (lb rfl) ?_
                            refine TL.unmet (b := true) rfl rfl rfl rfl (lb rfl) ?_
                            refine TL.unmet (b := true) rfl rfl rfl rfl (lb rfl) ?_
                            refine TL.unmet (b := true) rfl rfl rfl rfl (lb rfl) ?_
                            refine TL.unmet (b := true) rfl rfl rfl rfl (lb rfl) ?_
                            refine TL.v (Want.met rfl rfl rfl) rfl rfl (PV.pick rfl rfl rfl) ?_
                            refine TL.v (Want.plain rfl) rfl rfl (PV.pick rfl rfl rfl) ?_
                            refine TL.v (Want.plain rfl) rfl rfl (PV.move rfl rfl) ?_
                            refine TL.v (Want.met rfl rfl rfl) rfl rfl (PV.move rfl rfl) ?_
                            refine TL.v (Want.met rfl rfl rfl) rfl rfl (PV.eql rfl rfl rfl) ?_
                            refine TL.dec (fun h127 => ?_) (fun h127 => ?_)
                            · skip
                              refine TL.v (Want.met rfl rfl rfl) rfl rfl (PV.move rfl rfl) ?_
                              refine TL.v (Want.met rfl rfl rfl) rfl rfl (PV.lss rfl rfl rfl) ?_
                              refine TL.dec (fun h129 => ?_) (fun h129 => ?_)
                              · skip
                                refine TL.v (Want.met rfl rfl rfl) rfl rfl (PV.move rfl rfl) ?_
                                refine TL.v (Want.met rfl rfl rfl) rfl rfl (PV.move rfl rfl) ?_
                                refine TL.v (Want.met rfl rfl rfl) rfl rfl (PV.eql rfl rfl rfl) ?_
                                refine TL.dec (fun h132 => ?_) (fun h132 => ?_)
                                · skip
                                  refine TL.v (Want.met rfl rfl rfl) rfl rfl (PV.move rfl rfl) ?_
                                  refine TL.unmet (b := true) rfl rfl rfl rfl (lb rfl) ?_
                                  refine TL.unmet (b := true) rfl rfl rfl rfl (lb rfl) ?_
                                  refine TL.v (Want.met rfl rfl rfl) rfl rfl (PV.pick rfl rfl rfl) ?_
                                  refine TL.v (Want.met rfl rfl rfl) rfl rfl (PV.move rfl rfl) ?_
                                  refine TL.unmet (b := true) rfl rfl rfl rfl (lb rfl) ?_
                                  refine TL.unmet (b := true) rfl rfl rfl rfl (lb rfl) ?_
                                  refine TL.v (Want.met rfl rfl rfl) rfl rfl (PV.pick rfl rfl rfl) ?_
                                  refine TL.v (Want.met rfl rfl rfl) rfl rfl (PV.pick rfl rfl rfl) ?_
                                  refine TL.v (Want.met rfl rfl rfl) rfl rfl (PV.eqlB rfl Try.underlying4 rfl rfl) ?_
                                  refine TL.v (Want.plain rfl) rfl rfl (PV.pick rfl rfl rfl) ?_
                                  refine TL.v (Want.plain rfl) rfl rfl (PV.assign rfl rfl) ?_
                                  refine TL.nil ?_
                                  refine TE.next hK22 ?_
                                  clear hK22
                                  refine TC.ret ?_
                                  refine TE.weak (Sub.refl _) (fun _ s => sep_keep [] rfl s) ?_
                                  refine TE.ret1 rfl rfl ?_
                                  exact ⟨rfl, rfl⟩
                                · skip
                                  refine TL.v (Want.met rfl rfl rfl) rfl rfl (PV.move rfl rfl) ?_
                                  refine TL.v (Want.met rfl rfl rfl) rfl rfl (PV.move rfl rfl) ?_
                                  refine TL.v (Want.met rfl rfl rfl) rfl rfl (PV.eql rfl rfl rfl) ?_
                                  refine TL.dec (fun h135 => ?_) (fun h135 => ?_)
                                  · skip
                                    refine TL.v (Want.met rfl rfl rfl) rfl rfl (PV.pick rfl rfl rfl) ?_
                                    refine TL.v (Want.met rfl rfl rfl) rfl rfl (PV.move rfl rfl) ?_
                                    refine TL.unmet (b := true) rfl rfl rfl rfl (lb rfl) ?_
                                    refine TL.unmet (b := true) rfl rfl rfl rfl (lb rfl) ?_
                                    refine TL.v (Want.met rfl rfl rfl) rfl rfl (PV.pick rfl rfl rfl) ?_
                                    refine TL.v (Want.met rfl rfl rfl) rfl rfl (PV.pick rfl rfl rfl) ?_
                                    refine TL.v (Want.met rfl rfl rfl) rfl rfl (PV.eqlB rfl Try.underlying4 rfl rfl) ?_
                                    refine TL.v (Want.plain rfl) rfl rfl (PV.pick rfl rfl rfl) ?_
                                    refine TL.v (Want.plain rfl) rfl rfl (PV.assign rfl rfl) ?_
                                    refine TL.nil ?_
                                    refine TE.next hK22 ?_
                                    clear hK22
                                    refine TC.ret ?_
                                    refine TE.weak (Sub.refl _) (fun _ s => sep_keep [] rfl s) ?_
                                    refine TE.ret1 rfl rfl ?_
                                    exact ⟨rfl, rfl⟩
                                  · skip
                                    refine TL.v (Want.met rfl rfl rfl) rfl rfl (PV.pick rfl rfl rfl) ?_
                                    refine TL.v (Want.met rfl rfl rfl) rfl rfl (PV.move rfl rfl) ?_
                                    refine TL.v (Want.met rfl rfl rfl) rfl rfl (PV.move rfl rfl) ?_
                                    refine TL.v (Want.met rfl rfl rfl) rfl rfl (PV.eql rfl rfl rfl) ?_
                                    refine TL.dec (fun h139 => ?_) (fun h139 => ?_)
                                    · skip
                                      refine TL.v (Want.met rfl rfl rfl) rfl rfl (PV.pick rfl rfl rfl) ?_
                                      refine TL.v (Want.met rfl rfl rfl) rfl rfl (PV.pick rfl rfl rfl) ?_
                                      refine TL.v (Want.met rfl rfl rfl) rfl rfl (PV.eqlB rfl Try.underlying4 rfl rfl) ?_
                                      refine TL.v (Want.plain rfl) rfl rfl (PV.pick rfl rfl rfl) ?_
                                      refine TL.v (Want.plain rfl) rfl rfl (PV.assign rfl rfl) ?_
                                      refine TL.nil ?_
                                      refine TE.next hK22 ?_
                                      clear hK22
                                      refine TC.ret ?_
                                      refine TE.weak (Sub.refl _) (fun _ s => sep_keep [] rfl s) ?_
                                      refine TE.ret1 rfl rfl ?_
                                      exact ⟨rfl, rfl⟩
                                    · omega
                              · omega
                            · skip
                              refine TL.v (Want.met rfl rfl rfl) rfl rfl (PV.move rfl rfl) ?_
                              refine TL.v (Want.met rfl rfl rfl) rfl rfl (PV.lss rfl rfl rfl) ?_
                              refine TL.dec (fun h129 => ?_) (fun h129 => ?_)
                              · skip
                                refine TL.v (Want.met rfl rfl rfl) rfl rfl (PV.move rfl rfl) ?_
                                refine TL.v (Want.met rfl rfl rfl) rfl rfl (PV.move rfl rfl) ?_
                                refine TL.v (Want.met rfl rfl rfl) rfl rfl (PV.eql rfl rfl rfl) ?_
                                refine TL.dec (fun h132 => ?_) (fun h132 => ?_)
                                · omega
                                · skip
                                  refine TL.v (Want.met rfl rfl rfl) rfl rfl (PV.move rfl rfl) ?_
                                  refine TL.v (Want.met rfl rfl rfl) rfl rfl (PV.move rfl rfl) ?_
                                  refine TL.v (Want.met rfl rfl rfl) rfl rfl (PV.eql rfl rfl rfl) ?_
                                  refine TL.dec (fun h135 => ?_) (fun h135 => ?_)
                                  · omega
                                  · skip
                                    refine TL.v (Want.met rfl rfl rfl) rfl rfl (PV.pick rfl rfl rfl) ?_
                                    refine TL.v (Want.met rfl rfl rfl) rfl rfl (PV.move rfl rfl) ?_
                                    refine TL.v (Want.met rfl rfl rfl) rfl rfl (PV.move rfl rfl) ?_
                                    refine TL.v (Want.met rfl rfl rfl) rfl rfl (PV.eql rfl rfl rfl) ?_
                                    refine TL.dec (fun h139 => ?_) (fun h139 => ?_)
                                    · omega
                                    · skip
                                      refine TL.v (Want.met rfl rfl rfl) rfl rfl (PV.pick rfl rfl rfl) ?_
                                      refine TL.v (Want.met rfl rfl rfl) rfl rfl (PV.pick rfl rfl rfl) ?_
                                      refine TL.v (Want.met rfl rfl rfl) rfl rfl (PV.eqlB rfl Try.underlying4 rfl rfl) ?_
                                      refine TL.v (Want.plain rfl) rfl rfl (PV.pick rfl rfl rfl) ?_
                                      refine TL.v (Want.plain rfl) rfl rfl (PV.assign rfl rfl) ?_
                                      refine TL.nil ?_
                                      refine TE.next hK22 ?_
                                      clear hK22
                                      refine TC.ret ?_
                                      refine TE.weak (Sub.refl _) (fun _ s => sep_keep [] rfl s) ?_
                                      refine TE.ret1 rfl rfl ?_
                                      exact ⟨rfl, rfl⟩
                              · skip
                                refine TL.v (Want.met rfl rfl rfl) rfl rfl (PV.move rfl rfl) ?_
                                refine TL.unmet (b := false) rfl rfl rfl rfl (lb rfl) ?_
                                refine TL.unmet (b := false) rfl rfl rfl rfl (lb rfl) ?_
                                refine TL.unmet (b := false) rfl rfl rfl rfl (lb rfl) ?_
                                refine TL.unmetU rfl rfl rfl rfl (lb rfl) ?_
                                refine TL.unmetU rfl rfl rfl rfl (lb rfl) ?_
                                refine TL.unmet (b := false) rfl rfl rfl rfl (lb rfl) ?_
                                refine TL.unmet (b := false) rfl rfl rfl rfl (lb rfl) ?_
                                refine TL.unmetU rfl rfl rfl rfl (lb rfl) ?_
                                refine TL.unmetU rfl rfl rfl rfl (lb rfl) ?_
                                refine TL.unmet (b := false) rfl rfl rfl rfl (lb rfl) ?_
                                refine TL.v (Want.met rfl rfl rfl) rfl rfl (PV.pick rfl rfl rfl) ?_
                                refine TL.v (Want.met rfl rfl rfl) rfl rfl (PV.eqlB rfl Try.underlying4 rfl rfl) ?_
                                refine TL.v (Want.plain rfl) rfl rfl (PV.pick rfl rfl rfl) ?_
                                refine TL.v (Want.plain rfl) rfl rfl (PV.assign rfl rfl) ?_
                                refine TL.nil ?_
                                refine TE.next hK22 ?_
                                clear hK22
                                refine TC.ret ?_
                                refine TE.weak (Sub.refl _) (fun _ s => sep_keep [] rfl s) ?_
                                refine TE.ret1 rfl rfl ?_
                                exact ⟨rfl, rfl⟩
                          · skip
                            refine TL.v (Want.met rfl rfl rfl) rfl rfl (PV.move rfl rfl) ?_
                            refine TL.v (Want.met rfl rfl rfl) rfl rfl (PV.move rfl rfl) ?_
                            refine TL.v (Want.met rfl rfl rfl) rfl rfl (PV.eql rfl rfl rfl) ?_
                            refine TL.dec (fun h119 => ?_) (fun h119 => ?_)
                            · skip
                              refine TL.v (Want.met rfl rfl rfl) rfl rfl (PV.loadN (vs := ints (maskV v).flat) rfl Try.underlying25 rfl sz25 rfl (Rd.own 15 rfl rfl) (ViewT.len (maskV v)) (whole (ViewT.len (maskV v)))) ?_
                              refine TL.callR (A := []) (B := [blkA b15 (ints m3.flat) 44, blkA b14 [u8] 29, ownB u8 (encs [(a % 16), (b % 16)] ++ encRow (rowOf q)) 5, ownB u9 (encs [(a % 16), (b % 16)] ++ encRow (rowOf q)) 5, blkA b69 [(.int .i64 ((a % 16))), (.int .i64 ((b % 16)))] 3, blkA b12 (ints m2.flat) 44, blkA b11 [u5] 29, ownB u5 (encs [(a % 16)] ++ encs (maskV v).flat) 5, ownB u6 (encs [(a % 16)] ++ encs (maskV v).flat) 5, blkA b58 [(.int .i64 ((a % 16)))] 3, blkA b9 (ints m1.flat) 44, blkA b8 [u2] 29, ownB u2 (encs [(a % 16), (b % 16)] ++ encs (maskV v).flat) 5, ownB u3 (encs [(a % 16), (b % 16)] ++ encs (maskV v).flat) 5, blkA b48 [(.int .i64 ((a % 16))), (.int .i64 ((b % 16)))] 3, blkA b3 (ints (maskV v).flat) 25, blkA b2 [(.int .i64 (a)), (.int .i64 (b)), (.int .i64 (q))] 22]) (Want.met rfl rfl rfl) rfl rfl rfl nm16 rfl (viewRight_is (maskV_rng v) hr) (fun _ s => s) (fun _ _ _ => trivial) (fun vR HR hR => ?_)
                              obtain ⟨rfl, rfl⟩ := hR
                              change TL _ _ _ _ _ _ _ _ _ [blkA b15 (ints m3.flat) 44, blkA b14 [u8] 29, ownB u8 (encs [(a % 16), (b % 16)] ++ encRow (rowOf q)) 5, ownB u9 (encs [(a % 16), (b % 16)] ++ encRow (rowOf q)) 5, blkA b69 [(.int .i64 ((a % 16))), (.int .i64 ((b % 16)))] 3, blkA b12 (ints m2.flat) 44, blkA b11 [u5] 29, ownB u5 (encs [(a % 16)] ++ encs (maskV v).flat) 5, ownB u6 (encs [(a % 16)] ++ encs (maskV v).flat) 5, blkA b58 [(.int .i64 ((a % 16)))] 3, blkA b9 (ints m1.flat) 44, blkA b8 [u2] 29, ownB u2 (encs [(a % 16), (b % 16)] ++ encs (maskV v).flat) 5, ownB u3 (encs [(a % 16), (b % 16)] ++ encs (maskV v).flat) 5, blkA b48 [(.int .i64 ((a % 16))), (.int .i64 ((b % 16)))] 3, blkA b3 (ints (maskV v).flat) 25, blkA b2 [(.int .i64 (a)), (.int .i64 (b)), (.int .i64 (q))] 22]
                              refine TL.dec (fun h121 => ?_) (fun h121 => ?_)
                              · skip
                                refine TL.v (Want.met rfl rfl rfl) rfl rfl (PV.eqlB rfl Try.underlying4 rfl rfl) ?_
                                refine TL.v (Want.met rfl rfl rfl) rfl rfl (PV.pick rfl rfl rfl) ?_
                                refine TL.v (Want.plain rfl) rfl rfl (PV.pick rfl rfl rfl) ?_
                                refine TL.v (Want.plain rfl) rfl rfl (PV.move rfl rfl) ?_
                                refine TL.v (Want.met rfl rfl rfl) rfl rfl (PV.move rfl rfl) ?_
                                refine TL.v (Want.met rfl rfl rfl) rfl rfl (PV.eql rfl rfl rfl) ?_
                                refine TL.dec (fun h127 => ?_) (fun h127 => ?_)
                                · omega
                                · skip
                                  refine TL.v (Want.met rfl rfl rfl) rfl rfl (PV.move rfl rfl) ?_
                                  refine TL.v (Want.met rfl rfl rfl) rfl rfl (PV.lss rfl rfl rfl) ?_
                                  refine TL.dec (fun h129 => ?_) (fun h129 => ?_)
                                  · skip
                                    refine TL.v (Want.met rfl rfl rfl) rfl rfl (PV.move rfl rfl) ?_
                                    refine TL.v (Want.met rfl rfl rfl) rfl rfl (PV.move rfl rfl) ?_
                                    refine TL.v (Want.met rfl rfl rfl) rfl rfl (PV.eql rfl rfl rfl) ?_
                                    refine TL.dec (fun h132 => ?_) (fun h132 => ?_)
                                    · omega
                                    · skip
                                      refine TL.v (Want.met rfl rfl rfl) rfl rfl (PV.move rfl rfl) ?_
                                      refine TL.v (Want.met rfl rfl rfl) rfl rfl (PV.move rfl rfl) ?_
                                      refine TL.v (Want.met rfl rfl rfl) rfl rfl (PV.eql rfl rfl rfl) ?_
                                      refine TL.dec (fun h135 => ?_) (fun h135 => ?_)
                                      · omega
                                      · skip
                                        refine TL.v (Want.met rfl rfl rfl) rfl rfl (PV.pick rfl rfl rfl) ?_
                                        refine TL.v (Want.met rfl rfl rfl) rfl rfl (PV.move rfl rfl) ?_
                                        refine TL.v (Want.met rfl rfl rfl) rfl rfl (PV.move rfl rfl) ?_
                                        refine TL.v (Want.met rfl rfl rfl) rfl rfl (PV.eql rfl rfl rfl) ?_
                                        refine TL.dec (fun h139 => ?_) (fun h139 => ?_)
                                        · omega
                                        · skip
                                          refine TL.v (Want.met rfl rfl rfl) rfl rfl (PV.pick rfl rfl rfl) ?_
                                          refine TL.v (Want.met rfl rfl rfl) rfl rfl (PV.pick rfl rfl rfl) ?_
                                          refine TL.v (Want.met rfl rfl rfl) rfl rfl (PV.eqlB rfl Try.underlying4 rfl rfl) ?_
                                          refine TL.v (Want.plain rfl) rfl rfl (PV.pick rfl rfl rfl) ?_
                                          refine TL.v (Want.plain rfl) rfl rfl (PV.assign rfl rfl) ?_
                                          refine TL.nil ?_
                                          refine TE.next hK22 ?_
                                          clear hK22
                                          refine TC.ret ?_
                                          refine TE.weak (Sub.refl _) (fun _ s => sep_keep [] rfl s) ?_
                                          refine TE.ret1 rfl rfl ?_
                                          exact ⟨rfl, rfl⟩
                                  · skip
                                    refine TL.v (Want.met rfl rfl rfl) rfl rfl (PV.move rfl rfl) ?_
                                    refine TL.unmet (b := false) rfl rfl rfl rfl (lb rfl) ?_
                                    refine TL.unmet (b := false) rfl rfl rfl rfl (lb rfl) ?_
                                    refine TL.unmet (b := false) rfl rfl rfl rfl (lb rfl) ?_
                                    refine TL.unmetU rfl rfl rfl rfl (lb rfl) ?_
                                    refine TL.unmetU rfl rfl rfl rfl (lb rfl) ?_
                                    refine TL.unmet (b := false) rfl rfl rfl rfl (lb rfl) ?_
                                    refine TL.unmet (b := false) rfl rfl rfl rfl (lb rfl) ?_
                                    refine TL.unmetU rfl rfl rfl rfl (lb rfl) ?_
                                    refine TL.unmetU rfl rfl rfl rfl (lb rfl) ?_
                                    refine TL.unmet (b := false) rfl rfl rfl rfl (lb rfl) ?_
                                    refine TL.v (Want.met rfl rfl rfl) rfl rfl (PV.pick rfl rfl rfl) ?_
                                    refine TL.v (Want.met rfl rfl rfl) rfl rfl (PV.eqlB rfl Try.underlying4 rfl rfl) ?_
                                    refine TL.v (Want.plain rfl) rfl rfl (PV.pick rfl rfl rfl) ?_
                                    refine TL.v (Want.plain rfl) rfl rfl (PV.assign rfl rfl) ?_
                                    refine TL.nil ?_
                                    refine TE.next hK22 ?_
                                    clear hK22
                                    refine TC.ret ?_
                                    refine TE.weak (Sub.refl _) (fun _ s => sep_keep [] rfl s) ?_
                                    refine TE.ret1 rfl rfl ?_
                                    exact ⟨rfl, rfl⟩
                              · omega
                            · skip
                              refine TL.v (Want.met rfl rfl rfl) rfl rfl (PV.loadN (vs := ints (maskV v).flat) rfl Try.underlying25 rfl sz25 rfl (Rd.own 15 rfl rfl) (ViewT.len (maskV v)) (whole (ViewT.len (maskV v)))) ?_
                              refine TL.callR (A := []) (B := [blkA b15 (ints m3.flat) 44, blkA b14 [u8] 29, ownB u8 (encs [(a % 16), (b % 16)] ++ encRow (rowOf q)) 5, ownB u9 (encs [(a % 16), (b % 16)] ++ encRow (rowOf q)) 5, blkA b69 [(.int .i64 ((a % 16))), (.int .i64 ((b % 16)))] 3, blkA b12 (ints m2.flat) 44, blkA b11 [u5] 29, ownB u5 (encs [(a % 16)] ++ encs (maskV v).flat) 5, ownB u6 (encs [(a % 16)] ++ encs (maskV v).flat) 5, blkA b58 [(.int .i64 ((a % 16)))] 3, blkA b9 (ints m1.flat) 44, blkA b8 [u2] 29, ownB u2 (encs [(a % 16), (b % 16)] ++ encs (maskV v).flat) 5, ownB u3 (encs [(a % 16), (b % 16)] ++ encs (maskV v).flat) 5, blkA b48 [(.int .i64 ((a % 16))), (.int .i64 ((b % 16)))] 3, blkA b3 (ints (maskV v).flat) 25, blkA b2 [(.int .i64 (a)), (.int .i64 (b)), (.int .i64 (q))] 22]) (Want.met rfl rfl rfl) rfl rfl rfl nm16 rfl (viewRight_is (maskV_rng v) hr) (fun _ s => s) (fun _ _ _ => trivial) (fun vR HR hR => ?_)
                              obtain ⟨rfl, rfl⟩ := hR
                              change TL _ _ _ _ _ _ _ _ _ [blkA b15 (ints m3.flat) 44, blkA b14 [u8] 29, ownB u8 (encs [(a % 16), (b % 16)] ++ encRow (rowOf q)) 5, ownB u9 (encs [(a % 16), (b % 16)] ++ encRow (rowOf q)) 5, blkA b69 [(.int .i64 ((a % 16))), (.int .i64 ((b % 16)))] 3, blkA b12 (ints m2.flat) 44, blkA b11 [u5] 29, ownB u5 (encs [(a % 16)] ++ encs (maskV v).flat) 5, ownB u6 (encs [(a % 16)] ++ encs (maskV v).flat) 5, blkA b58 [(.int .i64 ((a % 16)))] 3, blkA b9 (ints m1.flat) 44, blkA b8 [u2] 29, ownB u2 (encs [(a % 16), (b % 16)] ++ encs (maskV v).flat) 5, ownB u3 (encs [(a % 16), (b % 16)] ++ encs (maskV v).flat) 5, blkA b48 [(.int .i64 ((a % 16))), (.int .i64 ((b % 16)))] 3, blkA b3 (ints (maskV v).flat) 25, blkA b2 [(.int .i64 (a)), (.int .i64 (b)), (.int .i64 (q))] 22]
                              refine TL.dec (fun h121 => ?_) (fun h121 => ?_)
                              · omega
                              · skip
                                refine TL.v (Want.met rfl rfl rfl) rfl rfl (PV.eqlB rfl Try.underlying4 rfl rfl) ?_
                                refine TL.v (Want.met rfl rfl rfl) rfl rfl (PV.pick rfl rfl rfl) ?_
                                refine TL.v (Want.plain rfl) rfl rfl (PV.pick rfl rfl rfl) ?_
                                refine TL.v (Want.plain rfl) rfl rfl (PV.move rfl rfl) ?_
                                refine TL.v (Want.met rfl rfl rfl) rfl rfl (PV.move rfl rfl) ?_
                                refine TL.v (Want.met rfl rfl rfl) rfl rfl (PV.eql rfl rfl rfl) ?_
                                refine TL.dec (fun h127 => ?_) (fun h127 => ?_)
                                · omega
                                · skip
                                  refine TL.v (Want.met rfl rfl rfl) rfl rfl (PV.move rfl rfl) ?_
                                  refine TL.v (Want.met rfl rfl rfl) rfl rfl (PV.lss rfl rfl rfl) ?_
                                  refine TL.dec (fun h129 => ?_) (fun h129 => ?_)
                                  · skip
                                    refine TL.v (Want.met rfl rfl rfl) rfl rfl (PV.move rfl rfl) ?_
                                    refine TL.v (Want.met rfl rfl rfl) rfl rfl (PV.move rfl rfl) ?_
                                    refine TL.v (Want.met rfl rfl rfl) rfl rfl (PV.eql rfl rfl rfl) ?_
                                    refine TL.dec (fun h132 => ?_) (fun h132 => ?_)
                                    · omega
                                    · skip
                                      refine TL.v (Want.met rfl rfl rfl) rfl rfl (PV.move rfl rfl) ?_
                                      refine TL.v (Want.met rfl rfl rfl) rfl rfl (PV.move rfl rfl) ?_
                                      refine TL.v (Want.met rfl rfl rfl) rfl rfl (PV.eql rfl rfl rfl) ?_
                                      refine TL.dec (fun h135 => ?_) (fun h135 => ?_)
                                      · omega
                                      · skip
                                        refine TL.v (Want.met rfl rfl rfl) rfl rfl (PV.pick rfl rfl rfl) ?_
                                        refine TL.v (Want.met rfl rfl rfl) rfl rfl (PV.move rfl rfl) ?_
                                        refine TL.v (Want.met rfl rfl rfl) rfl rfl (PV.move rfl rfl) ?_
                                        refine TL.v (Want.met rfl rfl rfl) rfl rfl (PV.eql rfl rfl rfl) ?_
                                        refine TL.dec (fun h139 => ?_) (fun h139 => ?_)
                                        · omega
                                        · skip
                                          refine TL.v (Want.met rfl rfl rfl) rfl rfl (PV.pick rfl rfl rfl) ?_
                                          refine TL.v (Want.met rfl rfl rfl) rfl rfl (PV.pick rfl rfl rfl) ?_
                                          refine TL.v (Want.met rfl rfl rfl) rfl rfl (PV.eqlB rfl Try.underlying4 rfl rfl) ?_
                                          refine TL.v (Want.plain rfl) rfl rfl (PV.pick rfl rfl rfl) ?_
                                          refine TL.v (Want.plain rfl) rfl rfl (PV.assign rfl rfl) ?_
                                          refine TL.nil ?_
                                          refine TE.next hK22 ?_
                                          clear hK22
                                          refine TC.ret ?_
                                          refine TE.weak (Sub.refl _) (fun _ s => sep_keep [] rfl s) ?_
                                          refine TE.ret1 rfl rfl ?_
                                          exact ⟨rfl, rfl⟩
                                  · skip
                                    refine TL.v (Want.met rfl rfl rfl) rfl rfl (PV.move rfl rfl) ?_
                                    refine TL.unmet (b := false) rfl rfl rfl rfl (lb rfl) ?_
                                    refine TL.unmet (b := false) rfl rfl rfl rfl (lb rfl) ?_
                                    refine TL.unmet (b := false) rfl rfl rfl rfl (lb rfl) ?_
                                    refine TL.unmetU rfl rfl rfl rfl (lb rfl) ?_
                                    refine TL.unmetU rfl rfl rfl rfl (lb rfl) ?_
                                    refine TL.unmet (b := false) rfl rfl rfl rfl (lb rfl) ?_
                                    refine TL.unmet (b := false) rfl rfl rfl rfl (lb rfl) ?_
                                    refine TL.unmetU rfl rfl rfl rfl (lb rfl) ?_
                                    refine TL.unmetU rfl rfl rfl rfl (lb rfl) ?_
                                    refine TL.unmet (b := false) rfl rfl rfl rfl (lb rfl) ?_
                                    refine TL.v (Want.met rfl rfl rfl) rfl rfl (PV.pick rfl rfl rfl) ?_
                                    refine TL.v (Want.met rfl rfl rfl) rfl rfl (PV.eqlB rfl Try.underlying4 rfl rfl) ?_
                                    refine TL.v (Want.plain rfl) rfl rfl (PV.pick rfl rfl rfl) ?_
                                    refine TL.v (Want.plain rfl) rfl rfl (PV.assign rfl rfl) ?_
                                    refine TL.nil ?_
                                    refine TE.next hK22 ?_
                                    clear hK22
                                    refine TC.ret ?_
                                    refine TE.weak (Sub.refl _) (fun _ s => sep_keep [] rfl s) ?_
                                    refine TE.ret1 rfl rfl ?_
                                    exact ⟨rfl, rfl⟩
                        · skip
                          refine TL.v (Want.met rfl rfl rfl) rfl rfl (PV.move rfl rfl) ?_
                          refine TL.v (Want.met rfl rfl rfl) rfl rfl (PV.move rfl rfl) ?_
                          refine TL.v (Want.met rfl rfl rfl) rfl rfl (PV.eql rfl rfl rfl) ?_
                          refine TL.dec (fun h104 => ?_) (fun h104 => ?_)
                          · omega
                          · skip
                            refine TL.v (Want.met rfl rfl rfl) rfl rfl (PV.move rfl rfl) ?_
                            refine TL.v (Want.met rfl rfl rfl) rfl rfl (PV.lss rfl rfl rfl) ?_
                            refine TL.dec (fun h106 => ?_) (fun h106 => ?_)
                            · skip
                              refine TL.v (Want.met rfl rfl rfl) rfl rfl (PV.move rfl rfl) ?_
                              refine TL.v (Want.met rfl rfl rfl) rfl rfl (PV.loadN (vs := ints (maskV v).flat) rfl Try.underlying25 rfl sz25 rfl (Rd.own 15 rfl rfl) (ViewT.len (maskV v)) (whole (ViewT.len (maskV v)))) ?_
                              refine TL.callR (A := []) (B := [blkA b15 (ints m3.flat) 44, blkA b14 [u8] 29, ownB u8 (encs [(a % 16), (b % 16)] ++ encRow (rowOf q)) 5, ownB u9 (encs [(a % 16), (b % 16)] ++ encRow (rowOf q)) 5, blkA b69 [(.int .i64 ((a % 16))), (.int .i64 ((b % 16)))] 3, blkA b12 (ints m2.flat) 44, blkA b11 [u5] 29, ownB u5 (encs [(a % 16)] ++ encs (maskV v).flat) 5, ownB u6 (encs [(a % 16)] ++ encs (maskV v).flat) 5, blkA b58 [(.int .i64 ((a % 16)))] 3, blkA b9 (ints m1.flat) 44, blkA b8 [u2] 29, ownB u2 (encs [(a % 16), (b % 16)] ++ encs (maskV v).flat) 5, ownB u3 (encs [(a % 16), (b % 16)] ++ encs (maskV v).flat) 5, blkA b48 [(.int .i64 ((a % 16))), (.int .i64 ((b % 16)))] 3, blkA b3 (ints (maskV v).flat) 25, blkA b2 [(.int .i64 (a)), (.int .i64 (b)), (.int .i64 (q))] 22]) (Want.met rfl rfl rfl) rfl rfl rfl nm16 rfl (viewRight_is (maskV_rng v) hr) (fun _ s => s) (fun _ _ _ => trivial) (fun vR HR hR => ?_)
                              obtain ⟨rfl, rfl⟩ := hR
                              change TL _ _ _ _ _ _ _ _ _ [blkA b15 (ints m3.flat) 44, blkA b14 [u8] 29, ownB u8 (encs [(a % 16), (b % 16)] ++ encRow (rowOf q)) 5, ownB u9 (encs [(a % 16), (b % 16)] ++ encRow (rowOf q)) 5, blkA b69 [(.int .i64 ((a % 16))), (.int .i64 ((b % 16)))] 3, blkA b12 (ints m2.flat) 44, blkA b11 [u5] 29, ownB u5 (encs [(a % 16)] ++ encs (maskV v).flat) 5, ownB u6 (encs [(a % 16)] ++ encs (maskV v).flat) 5, blkA b58 [(.int .i64 ((a % 16)))] 3, blkA b9 (ints m1.flat) 44, blkA b8 [u2] 29, ownB u2 (encs [(a % 16), (b % 16)] ++ encs (maskV v).flat) 5, ownB u3 (encs [(a % 16), (b % 16)] ++ encs (maskV v).flat) 5, blkA b48 [(.int .i64 ((a % 16))), (.int .i64 ((b % 16)))] 3, blkA b3 (ints (maskV v).flat) 25, blkA b2 [(.int .i64 (a)), (.int .i64 (b)), (.int .i64 (q))] 22]
                              refine TL.dec (fun h109 => ?_) (fun h109 => ?_)
                              · omega
                              · skip
                                refine TL.v (Want.met rfl rfl rfl) rfl rfl (PV.pick rfl rfl rfl) ?_
                                refine TL.v (Want.met rfl rfl rfl) rfl rfl (PV.eqlB rfl Try.underlying4 rfl rfl) ?_
                                refine TL.v (Want.met rfl rfl rfl) rfl rfl (PV.pick rfl rfl rfl) ?_
                                refine TL.v (Want.plain rfl) rfl rfl (PV.pick rfl rfl rfl) ?_
                                refine TL.v (Want.plain rfl) rfl rfl (PV.move rfl rfl) ?_
                                refine TL.v (Want.met rfl rfl rfl) rfl rfl (PV.move rfl rfl) ?_
                                refine TL.v (Want.met rfl rfl rfl) rfl rfl (PV.neq rfl rfl rfl) ?_
                                refine TL.dec (fun h116 => ?_) (fun h116 => ?_)
                                · skip
                                  refine TL.v (Want.met rfl rfl rfl) rfl rfl (PV.move rfl rfl) ?_
                                  refine TL.unmet (b := true) rfl rfl rfl rfl (lb rfl) ?_
                                  refine TL.unmet (b := true) rfl rfl rfl rfl (lb rfl) ?_
                                  refine TL.unmet (b := true) rfl rfl rfl rfl (lb rfl) ?_
                                  refine TL.unmet (b := true) rfl rfl rfl rfl (lb rfl) ?_
                                  refine TL.unmet (b := true) rfl rfl rfl rfl (lb rfl) ?_
                                  refine TL.v (Want.met rfl rfl rfl) rfl rfl (PV.pick rfl rfl rfl) ?_
                                  refine TL.v (Want.plain rfl) rfl rfl (PV.pick rfl rfl rfl) ?_
                                  refine TL.v (Want.plain rfl) rfl rfl (PV.move rfl rfl) ?_
                                  refine TL.v (Want.met rfl rfl rfl) rfl rfl (PV.move rfl rfl) ?_
                                  refine TL.v (Want.met rfl rfl rfl) rfl rfl (PV.eql rfl rfl rfl) ?_
                                  refine TL.dec (fun h127 => ?_) (fun h127 => ?_)
                                  · omega
                                  · skip
                                    refine TL.v (Want.met rfl rfl rfl) rfl rfl (PV.move rfl rfl) ?_
                                    refine TL.v (Want.met rfl rfl rfl) rfl rfl (PV.lss rfl rfl rfl) ?_
                                    refine TL.dec (fun h129 => ?_) (fun h129 => ?_)
                                    · skip
                                      refine TL.v (Want.met rfl rfl rfl) rfl rfl (PV.move rfl rfl) ?_
                                      refine TL.v (Want.met rfl rfl rfl) rfl rfl (PV.move rfl rfl) ?_
                                      refine TL.v (Want.met rfl rfl rfl) rfl rfl (PV.eql rfl rfl rfl) ?_
                                      refine TL.dec (fun h132 => ?_) (fun h132 => ?_)
                                      · omega
                                      · skip
                                        refine TL.v (Want.met rfl rfl rfl) rfl rfl (PV.move rfl rfl) ?_
                                        refine TL.v (Want.met rfl rfl rfl) rfl rfl (PV.move rfl rfl) ?_
                                        refine TL.v (Want.met rfl rfl rfl) rfl rfl (PV.eql rfl rfl rfl) ?_
                                        refine TL.dec (fun h135 => ?_) (fun h135 => ?_)
                                        · omega
                                        · skip
                                          refine TL.v (Want.met rfl rfl rfl) rfl rfl (PV.pick rfl rfl rfl) ?_
                                          refine TL.v (Want.met rfl rfl rfl) rfl rfl (PV.move rfl rfl) ?_
                                          refine TL.v (Want.met rfl rfl rfl) rfl rfl (PV.move rfl rfl) ?_
                                          refine TL.v (Want.met rfl rfl rfl) rfl rfl (PV.eql rfl rfl rfl) ?_
                                          refine TL.dec (fun h139 => ?_) (fun h139 => ?_)
                                          · omega
                                          · skip
                                            refine TL.v (Want.met rfl rfl rfl) rfl rfl (PV.pick rfl rfl rfl) ?_
                                            refine TL.v (Want.met rfl rfl rfl) rfl rfl (PV.pick rfl rfl rfl) ?_
                                            refine TL.v (Want.met rfl rfl rfl) rfl rfl (PV.eqlB rfl Try.underlying4 rfl rfl) ?_
                                            refine TL.v (Want.plain rfl) rfl rfl (PV.pick rfl rfl rfl) ?_
                                            refine TL.v (Want.plain rfl) rfl rfl (PV.assign rfl rfl) ?_
                                            refine TL.nil ?_
                                            refine TE.next hK22 ?_
                                            clear hK22
                                            refine TC.ret ?_
                                            refine TE.weak (Sub.refl _) (fun _ s => sep_keep [] rfl s) ?_
                                            refine TE.ret1 rfl rfl ?_
                                            exact ⟨rfl, rfl⟩
                                    · omega
                                · omega
                            · skip
                              refine TL.v (Want.met rfl rfl rfl) rfl rfl (PV.move rfl rfl) ?_
                              refine TL.unmet (b := false) rfl rfl rfl rfl (lb rfl) ?_
                              refine TL.unmet (b := false) rfl rfl rfl rfl (lb rfl) ?_
                              refine TL.v (Want.met rfl rfl rfl) rfl rfl (PV.pick rfl rfl rfl) ?_
                              refine TL.v (Want.met rfl rfl rfl) rfl rfl (PV.eqlB rfl Try.underlying4 rfl rfl) ?_
                              refine TL.v (Want.met rfl rfl rfl) rfl rfl (PV.pick rfl rfl rfl) ?_
                              refine TL.v (Want.plain rfl) rfl rfl (PV.pick rfl rfl rfl) ?_
                              refine TL.v (Want.plain rfl) rfl rfl (PV.move rfl rfl) ?_
                              refine TL.v (Want.met rfl rfl rfl) rfl rfl (PV.move rfl rfl) ?_
                              refine TL.v (Want.met rfl rfl rfl) rfl rfl (PV.neq rfl rfl rfl) ?_
                              refine TL.dec (fun h116 => ?_) (fun h116 => ?_)
                              · skip
                                refine TL.v (Want.met rfl rfl rfl) rfl rfl (PV.move rfl rfl) ?_
                                refine TL.unmet (b := true) rfl rfl rfl rfl (lb rfl) ?_
                                refine TL.unmet (b := true) rfl rfl rfl rfl (lb rfl) ?_
                                refine TL.unmet (b := true) rfl rfl rfl rfl (lb rfl) ?_
                                refine TL.unmet (b := true) rfl rfl rfl rfl (lb rfl) ?_
                                refine TL.unmet (b := true) rfl rfl rfl rfl (lb rfl) ?_
                                refine TL.v (Want.met rfl rfl rfl) rfl rfl (PV.pick rfl rfl rfl) ?_
                                refine TL.v (Want.plain rfl) rfl rfl (PV.pick rfl rfl rfl) ?_
                                refine TL.v (Want.plain rfl) rfl rfl (PV.move rfl rfl) ?_
                                refine TL.v (Want.met rfl rfl rfl) rfl rfl (PV.move rfl rfl) ?_
                                refine TL.v (Want.met rfl rfl rfl) rfl rfl (PV.eql rfl rfl rfl) ?_
                                refine TL.dec (fun h127 => ?_) (fun h127 => ?_)
                                · omega
                                · skip
                                  refine TL.v (Want.met rfl rfl rfl) rfl rfl (PV.move rfl rfl) ?_
                                  refine TL.v (Want.met rfl rfl rfl) rfl rfl (PV.lss rfl rfl rfl) ?_
                                  refine TL.dec (fun h129 => ?_) (fun h129 => ?_)
                                  · omega
                                  · skip
                                    refine TL.v (Want.met rfl rfl rfl) rfl rfl (PV.move rfl rfl) ?_
                                    refine TL.unmet (b := false) rfl rfl rfl rfl (lb rfl) ?_
                                    refine TL.unmet (b := false) rfl rfl rfl rfl (lb rfl) ?_
                                    refine TL.unmet (b := false) rfl rfl rfl rfl (lb rfl) ?_
                                    refine TL.unmetU rfl rfl rfl rfl (lb rfl) ?_
                                    refine TL.unmetU rfl rfl rfl rfl (lb rfl) ?_
                                    refine TL.unmet (b := false) rfl rfl rfl rfl (lb rfl) ?_
                                    refine TL.unmet (b := false) rfl rfl rfl rfl (lb rfl) ?_
                                    refine TL.unmetU rfl rfl rfl rfl (lb rfl) ?_
                                    refine TL.unmetU rfl rfl rfl rfl (lb rfl) ?_
                                    refine TL.unmet (b := false) rfl rfl rfl rfl (lb rfl) ?_
                                    refine TL.v (Want.met rfl rfl rfl) rfl rfl (PV.pick rfl rfl rfl) ?_
                                    refine TL.v (Want.met rfl rfl rfl) rfl rfl (PV.eqlB rfl Try.underlying4 rfl rfl) ?_
                                    refine TL.v (Want.plain rfl) rfl rfl (PV.pick rfl rfl rfl) ?_
                                    refine TL.v (Want.plain rfl) rfl rfl (PV.assign rfl rfl) ?_
                                    refine TL.nil ?_
                                    refine TE.next hK22 ?_
                                    clear hK22
                                    refine TC.ret ?_
                                    refine TE.weak (Sub.refl _) (fun _ s => sep_keep [] rfl s) ?_
                                    refine TE.ret1 rfl rfl ?_
                                    exact ⟨rfl, rfl⟩
                              · omega
                      · skip
                        refine TL.v (Want.plain rfl) rfl rfl (PV.move rfl rfl) ?_
                        refine TL.v (Want.met rfl rfl rfl) rfl rfl (PV.move rfl rfl) ?_
                        refine TL.v (Want.met rfl rfl rfl) rfl rfl (PV.eql rfl rfl rfl) ?_
                        refine TL.dec (fun h85 => ?_) (fun h85 => ?_)
                        · skip
                          refine TL.v (Want.plain rfl) rfl rfl (PV.pick rfl rfl rfl) ?_
                          refine TL.v (Want.plain rfl) rfl rfl (PV.move rfl rfl) ?_
                          refine TL.unmet (b := true) rfl rfl rfl rfl (lb rfl) ?_
                          refine TL.unmet (b := true) rfl rfl rfl rfl (lb rfl) ?_
                          refine TL.unmet (b := true) rfl rfl rfl rfl (lb rfl) ?_
                          refine TL.unmetU rfl rfl rfl rfl (lb rfl) ?_
                          refine TL.unmetU rfl rfl rfl rfl (lb rfl) ?_
                          refine TL.unmet (b := true) rfl rfl rfl rfl (lb rfl) ?_
                          refine TL.unmet (b := true) rfl rfl rfl rfl (lb rfl) ?_
                          refine TL.unmetU rfl rfl rfl rfl (lb rfl) ?_
                          refine TL.unmetU rfl rfl rfl rfl (lb rfl) ?_
                          refine TL.unmet (b := true) rfl rfl rfl rfl (lb rfl) ?_
                          refine TL.v (Want.plain rfl) rfl rfl (PV.pick rfl rfl rfl) ?_
                          refine TL.v (Want.plain rfl) rfl rfl (PV.move rfl rfl) ?_
                          refine TL.v (Want.met rfl rfl rfl) rfl rfl (PV.move rfl rfl) ?_
                          refine TL.v (Want.met rfl rfl rfl) rfl rfl (PV.neq rfl rfl rfl) ?_
                          refine TL.dec (fun h101 => ?_) (fun h101 => ?_)
                          · skip
                            refine TL.v (Want.met rfl rfl rfl) rfl rfl (PV.move rfl rfl) ?_
                            refine TL.unmet (b := true) rfl rfl rfl rfl (lb rfl) ?_
                            refine TL.unmet (b := true) rfl rfl rfl rfl (lb rfl) ?_
                            refine TL.unmet (b := true) rfl rfl rfl rfl (lb rfl) ?_
                            refine TL.unmet (b := true) rfl rfl rfl rfl (lb rfl) ?_
                            refine TL.unmet (b := true) rfl rfl rfl rfl (lb rfl) ?_
                            refine TL.unmetU rfl rfl rfl rfl (lb rfl) ?_
                            refine TL.unmetU rfl rfl rfl rfl (lb rfl) ?_
                            refine TL.unmet (b := true) rfl rfl rfl rfl (lb rfl) ?_
                            refine TL.unmet (b := true) rfl rfl rfl rfl (lb rfl) ?_
                            refine TL.v (Want.met rfl rfl rfl) rfl rfl (PV.pick rfl rfl rfl) ?_
                            refine TL.v (Want.plain rfl) rfl rfl (PV.pick rfl rfl rfl) ?_
                            refine TL.v (Want.plain rfl) rfl rfl (PV.move rfl rfl) ?_
                            refine TL.v (Want.met rfl rfl rfl) rfl rfl (PV.move rfl rfl) ?_
                            refine TL.v (Want.met rfl rfl rfl) rfl rfl (PV.neq rfl rfl rfl) ?_
                            refine TL.dec (fun h116 => ?_) (fun h116 => ?_)
                            · skip
                              refine TL.v (Want.met rfl rfl rfl) rfl rfl (PV.move rfl rfl) ?_
                              refine TL.unmet (b := true) rfl rfl rfl rfl (lb rfl) ?_
                              refine TL.unmet (b := true) rfl rfl rfl rfl (lb rfl) ?_
                              refine TL.unmet (b := true) rfl rfl rfl rfl (lb rfl) ?_
                              refine TL.unmet (b := true) rfl rfl rfl rfl (lb rfl) ?_
                              refine TL.unmet (b := true) rfl rfl rfl rfl (lb rfl) ?_
                              refine TL.v (Want.met rfl rfl rfl) rfl rfl (PV.pick rfl rfl rfl) ?_
                              refine TL.v (Want.plain rfl) rfl rfl (PV.pick rfl rfl rfl) ?_
                              refine TL.v (Want.plain rfl) rfl rfl (PV.move rfl rfl) ?_
                              refine TL.v (Want.met rfl rfl rfl) rfl rfl (PV.move rfl rfl) ?_
                              refine TL.v (Want.met rfl rfl rfl) rfl rfl (PV.eql rfl rfl rfl) ?_
                              refine TL.dec (fun h127 => ?_) (fun h127 => ?_)
                              · omega
                              · skip
                                refine TL.v (Want.met rfl rfl rfl) rfl rfl (PV.move rfl rfl) ?_
                                refine TL.v (Want.met rfl rfl rfl) rfl rfl (PV.lss rfl rfl rfl) ?_
                                refine TL.dec (fun h129 => ?_) (fun h129 => ?_)
                                · skip
                                  refine TL.v (Want.met rfl rfl rfl) rfl rfl (PV.move rfl rfl) ?_
                                  refine TL.v (Want.met rfl rfl rfl) rfl rfl (PV.move rfl rfl) ?_
                                  refine TL.v (Want.met rfl rfl rfl) rfl rfl (PV.eql rfl rfl rfl) ?_
                                  refine TL.dec (fun h132 => ?_) (fun h132 => ?_)
                                  · omega
                                  · skip
                                    refine TL.v (Want.met rfl rfl rfl) rfl rfl (PV.move rfl rfl) ?_
                                    refine TL.v (Want.met rfl rfl rfl) rfl rfl (PV.move rfl rfl) ?_
                                    refine TL.v (Want.met rfl rfl rfl) rfl rfl (PV.eql rfl rfl rfl) ?_
                                    refine TL.dec (fun h135 => ?_) (fun h135 => ?_)
                                    · omega
                                    · skip
                                      refine TL.v (Want.met rfl rfl rfl) rfl rfl (PV.pick rfl rfl rfl) ?_
                                      refine TL.v (Want.met rfl rfl rfl) rfl rfl (PV.move rfl rfl) ?_
                                      refine TL.v (Want.met rfl rfl rfl) rfl rfl (PV.move rfl rfl) ?_
                                      refine TL.v (Want.met rfl rfl rfl) rfl rfl (PV.eql rfl rfl rfl) ?_
                                      refine TL.dec (fun h139 => ?_) (fun h139 => ?_)
                                      · omega
                                      · skip
                                        refine TL.v (Want.met rfl rfl rfl) rfl rfl (PV.pick rfl rfl rfl) ?_
                                        refine TL.v (Want.met rfl rfl rfl) rfl rfl (PV.pick rfl rfl rfl) ?_
                                        refine TL.v (Want.met rfl rfl rfl) rfl rfl (PV.eqlB rfl Try.underlying4 rfl rfl) ?_
                                        refine TL.v (Want.plain rfl) rfl rfl (PV.pick rfl rfl rfl) ?_
                                        refine TL.v (Want.plain rfl) rfl rfl (PV.assign rfl rfl) ?_
                                        refine TL.nil ?_
                                        refine TE.next hK22 ?_
                                        clear hK22
                                        refine TC.ret ?_
                                        refine TE.weak (Sub.refl _) (fun _ s => sep_keep [] rfl s) ?_
                                        refine TE.ret1 rfl rfl ?_
                                        exact ⟨rfl, rfl⟩
                                · skip
                                  refine TL.v (Want.met rfl rfl rfl) rfl rfl (PV.move rfl rfl) ?_
                                  refine TL.unmet (b := false) rfl rfl rfl rfl (lb rfl) ?_
                                  refine TL.unmet (b := false) rfl rfl rfl rfl (lb rfl) ?_
                                  refine TL.unmet (b := false) rfl rfl rfl rfl (lb rfl) ?_
                                  refine TL.unmetU rfl rfl rfl rfl (lb rfl) ?_
                                  refine TL.unmetU rfl rfl rfl rfl (lb rfl) ?_
                                  refine TL.unmet (b := false) rfl rfl rfl rfl (lb rfl) ?_
                                  refine TL.unmet (b := false) rfl rfl rfl rfl (lb rfl) ?_
                                  refine TL.unmetU rfl rfl rfl rfl (lb rfl) ?_
                                  refine TL.unmetU rfl rfl rfl rfl (lb rfl) ?_
                                  refine TL.unmet (b := false) rfl rfl rfl rfl (lb rfl) ?_
                                  refine TL.v (Want.met rfl rfl rfl) rfl rfl (PV.pick rfl rfl rfl) ?_
                                  refine TL.v (Want.met rfl rfl rfl) rfl rfl (PV.eqlB rfl Try.underlying4 rfl rfl) ?_
                                  refine TL.v (Want.plain rfl) rfl rfl (PV.pick rfl rfl rfl) ?_
                                  refine TL.v (Want.plain rfl) rfl rfl (PV.assign rfl rfl) ?_
                                  refine TL.nil ?_
                                  refine TE.next hK22 ?_
                                  clear hK22
                                  refine TC.ret ?_
                                  refine TE.weak (Sub.refl _) (fun _ s => sep_keep [] rfl s) ?_
                                  refine TE.ret1 rfl rfl ?_
                                  exact ⟨rfl, rfl⟩
                            · omega
                          · omega
                        · skip
                          refine TL.v (Want.plain rfl) rfl rfl (PV.pick rfl rfl rfl) ?_
                          refine TL.v (Want.plain rfl) rfl rfl (PV.move rfl rfl) ?_
                          refine TL.v (Want.met rfl rfl rfl) rfl rfl (PV.move rfl rfl) ?_
                          refine TL.v (Want.met rfl rfl rfl) rfl rfl (PV.eql rfl rfl rfl) ?_
                          refine TL.dec (fun h89 => ?_) (fun h89 => ?_)
                          · skip
                            refine TL.v (Want.met rfl rfl rfl) rfl rfl (PV.move rfl rfl) ?_
                            refine TL.v (Want.met rfl rfl rfl) rfl rfl (PV.move rfl rfl) ?_
                            refine TL.v (Want.met rfl rfl rfl) rfl rfl (PV.lss rfl rfl rfl) ?_
                            refine TL.dec (fun h92 => ?_) (fun h92 => ?_)
                            · skip
                              refine TL.v (Want.met rfl rfl rfl) rfl rfl (PV.pick rfl rfl rfl) ?_
                              refine TL.v (Want.met rfl rfl rfl) rfl rfl (PV.move rfl rfl) ?_
                              refine TL.v (Want.met rfl rfl rfl) rfl rfl (PV.loadN (vs := ints (maskV v).flat) rfl Try.underlying25 rfl sz25 rfl (Rd.own 15 rfl rfl) (ViewT.len (maskV v)) (whole (ViewT.len (maskV v)))) ?_
                              refine TL.callR (A := []) (B := [blkA b15 (ints m3.flat) 44, blkA b14 [u8] 29, ownB u8 (encs [(a % 16), (b % 16)] ++ encRow (rowOf q)) 5, ownB u9 (encs [(a % 16), (b % 16)] ++ encRow (rowOf q)) 5, blkA b69 [(.int .i64 ((a % 16))), (.int .i64 ((b % 16)))] 3, blkA b12 (ints m2.flat) 44, blkA b11 [u5] 29, ownB u5 (encs [(a % 16)] ++ encs (maskV v).flat) 5, ownB u6 (encs [(a % 16)] ++ encs (maskV v).flat) 5, blkA b58 [(.int .i64 ((a % 16)))] 3, blkA b9 (ints m1.flat) 44, blkA b8 [u2] 29, ownB u2 (encs [(a % 16), (b % 16)] ++ encs (maskV v).flat) 5, ownB u3 (encs [(a % 16), (b % 16)] ++ encs (maskV v).flat) 5, blkA b48 [(.int .i64 ((a % 16))), (.int .i64 ((b % 16)))] 3, blkA b3 (ints (maskV v).flat) 25, blkA b2 [(.int .i64 (a)), (.int .i64 (b)), (.int .i64 (q))] 22]) (Want.met rfl rfl rfl) rfl rfl rfl nm16 rfl (viewRight_is (maskV_rng v) hr) (fun _ s => s) (fun _ _ _ => trivial) (fun vR HR hR => ?_)
                              obtain ⟨rfl, rfl⟩ := hR
                              change TL _ _ _ _ _ _ _ _ _ [blkA b15 (ints m3.flat) 44, blkA b14 [u8] 29, ownB u8 (encs [(a % 16), (b % 16)] ++ encRow (rowOf q)) 5, ownB u9 (encs [(a % 16), (b % 16)] ++ encRow (rowOf q)) 5, blkA b69 [(.int .i64 ((a % 16))), (.int .i64 ((b % 16)))] 3, blkA b12 (ints m2.flat) 44, blkA b11 [u5] 29, ownB u5 (encs [(a % 16)] ++ encs (maskV v).flat) 5, ownB u6 (encs [(a % 16)] ++ encs (maskV v).flat) 5, blkA b58 [(.int .i64 ((a % 16)))] 3, blkA b9 (ints m1.flat) 44, blkA b8 [u2] 29, ownB u2 (encs [(a % 16), (b % 16)] ++ encs (maskV v).flat) 5, ownB u3 (encs [(a % 16), (b % 16)] ++ encs (maskV v).flat) 5, blkA b48 [(.int .i64 ((a % 16))), (.int .i64 ((b % 16)))] 3, blkA b3 (ints (maskV v).flat) 25, blkA b2 [(.int .i64 (a)), (.int .i64 (b)), (.int .i64 (q))] 22]
                              refine TL.dec (fun h96 => ?_) (fun h96 => ?_)
                              · skip
                                refine TL.v (Want.met rfl rfl rfl) rfl rfl (PV.pick rfl rfl rfl) ?_
                                refine TL.v (Want.plain rfl) rfl rfl (PV.pick rfl rfl rfl) ?_
                                refine TL.v (Want.plain rfl) rfl rfl (PV.move rfl rfl) ?_
                                refine TL.v (Want.met rfl rfl rfl) rfl rfl (PV.move rfl rfl) ?_
                                refine TL.v (Want.met rfl rfl rfl) rfl rfl (PV.neq rfl rfl rfl) ?_
                                refine TL.dec (fun h101 => ?_) (fun h101 => ?_)
                                · omega
                                · skip
                                  refine TL.v (Want.met rfl rfl rfl) rfl rfl (PV.move rfl rfl) ?_
                                  refine TL.v (Want.met rfl rfl rfl) rfl rfl (PV.move rfl rfl) ?_
                                  refine TL.v (Want.met rfl rfl rfl) rfl rfl (PV.eql rfl rfl rfl) ?_
                                  refine TL.dec (fun h104 => ?_) (fun h104 => ?_)
                                  · skip
                                    refine TL.v (Want.met rfl rfl rfl) rfl rfl (PV.move rfl rfl) ?_
                                    refine TL.v (Want.met rfl rfl rfl) rfl rfl (PV.lss rfl rfl rfl) ?_
                                    refine TL.dec (fun h106 => ?_) (fun h106 => ?_)
                                    · skip
                                      refine TL.v (Want.met rfl rfl rfl) rfl rfl (PV.move rfl rfl) ?_
                                      refine TL.v (Want.met rfl rfl rfl) rfl rfl (PV.loadN (vs := ints (maskV v).flat) rfl Try.underlying25 rfl sz25 rfl (Rd.own 15 rfl rfl) (ViewT.len (maskV v)) (whole (ViewT.len (maskV v)))) ?_
                                      refine TL.callR (A := []) (B := [blkA b15 (ints m3.flat) 44, blkA b14 [u8] 29, ownB u8 (encs [(a % 16), (b % 16)] ++ encRow (rowOf q)) 5, ownB u9 (encs [(a % 16), (b % 16)] ++ encRow (rowOf q)) 5, blkA b69 [(.int .i64 ((a % 16))), (.int .i64 ((b % 16)))] 3, blkA b12 (ints m2.flat) 44, blkA b11 [u5] 29, ownB u5 (encs [(a % 16)] ++ encs (maskV v).flat) 5, ownB u6 (encs [(a % 16)] ++ encs (maskV v).flat) 5, blkA b58 [(.int .i64 ((a % 16)))] 3, blkA b9 (ints m1.flat) 44, blkA b8 [u2] 29, ownB u2 (encs [(a % 16), (b % 16)] ++ encs (maskV v).flat) 5, ownB u3 (encs [(a % 16), (b % 16)] ++ encs (maskV v).flat) 5, blkA b48 [(.int .i64 ((a % 16))), (.int .i64 ((b % 16)))] 3, blkA b3 (ints (maskV v).flat) 25, blkA b2 [(.int .i64 (a)), (.int .i64 (b)), (.int .i64 (q))] 22]) (Want.met rfl rfl rfl) rfl rfl rfl nm16 rfl (viewRight_is (maskV_rng v) hr) (fun _ s => s) (fun _ _ _ => trivial) (fun vR HR hR => ?_)
                                      obtain ⟨rfl, rfl⟩ := hR
                                      change TL _ _ _ _ _ _ _ _ _ [blkA b15 (ints m3.flat) 44, blkA b14 [u8] 29, ownB u8 (encs [(a % 16), (b % 16)] ++ encRow (rowOf q)) 5, ownB u9 (encs [(a % 16), (b % 16)] ++ encRow (rowOf q)) 5, blkA b69 [(.int .i64 ((a % 16))), (.int .i64 ((b % 16)))] 3, blkA b12 (ints m2.flat) 44, blkA b11 [u5] 29, ownB u5 (encs [(a % 16)] ++ encs (maskV v).flat) 5, ownB u6 (encs [(a % 16)] ++ encs (maskV v).flat) 5, blkA b58 [(.int .i64 ((a % 16)))] 3, blkA b9 (ints m1.flat) 44, blkA b8 [u2] 29, ownB u2 (encs [(a % 16), (b % 16)] ++ encs (maskV v).flat) 5, ownB u3 (encs [(a % 16), (b % 16)] ++ encs (maskV v).flat) 5, blkA b48 [(.int .i64 ((a % 16))), (.int .i64 ((b % 16)))] 3, blkA b3 (ints (maskV v).flat) 25, blkA b2 [(.int .i64 (a)), (.int .i64 (b)), (.int .i64 (q))] 22]
                                      refine TL.dec (fun h109 => ?_) (fun h109 => ?_)
                                      · skip
                                        refine TL.v (Want.met rfl rfl rfl) rfl rfl (PV.pick rfl rfl rfl) ?_
                                        refine TL.v (Want.met rfl rfl rfl) rfl rfl (PV.eqlB rfl Try.underlying4 rfl rfl) ?_
                                        refine TL.v (Want.met rfl rfl rfl) rfl rfl (PV.pick rfl rfl rfl) ?_
                                        refine TL.v (Want.plain rfl) rfl rfl (PV.pick rfl rfl rfl) ?_
                                        refine TL.v (Want.plain rfl) rfl rfl (PV.move rfl rfl) ?_
                                        refine TL.v (Want.met rfl rfl rfl) rfl rfl (PV.move rfl rfl) ?_
                                        refine TL.v (Want.met rfl rfl rfl) rfl rfl (PV.neq rfl rfl rfl) ?_
                                        refine TL.dec (fun h116 => ?_) (fun h116 => ?_)
                                        · skip
                                          refine TL.v (Want.met rfl rfl rfl) rfl rfl (PV.move rfl rfl) ?_
                                          refine TL.unmet (b := true) rfl rfl rfl rfl (lb rfl) ?_
                                          refine TL.unmet (b := true) rfl rfl rfl rfl (lb rfl) ?_
                                          refine TL.unmet (b := true) rfl rfl rfl rfl (lb rfl) ?_
                                          refine TL.unmet (b := true) rfl rfl rfl rfl (lb rfl) ?_
                                          refine TL.unmet (b := true) rfl rfl rfl rfl (lb rfl) ?_
                                          refine TL.v (Want.met rfl rfl rfl) rfl rfl (PV.pick rfl rfl rfl) ?_
                                          refine TL.v (Want.plain rfl) rfl rfl (PV.pick rfl rfl rfl) ?_
                                          refine TL.v (Want.plain rfl) rfl rfl (PV.move rfl rfl) ?_
                                          refine TL.v (Want.met rfl rfl rfl) rfl rfl (PV.move rfl rfl) ?_
                                          refine TL.v (Want.met rfl rfl rfl) rfl rfl (PV.eql rfl rfl rfl) ?_
                                          refine TL.dec (fun h127 => ?_) (fun h127 => ?_)
                                          · omega
                                          · skip
                                            refine TL.v (Want.met rfl rfl rfl) rfl rfl (PV.move rfl rfl) ?_
                                            refine TL.v (Want.met rfl rfl rfl) rfl rfl (PV.lss rfl rfl rfl) ?_
                                            refine TL.dec (fun h129 => ?_) (fun h129 => ?_)
                                            · skip
                                              refine TL.v (Want.met rfl rfl rfl) rfl rfl (PV.move rfl rfl) ?_
                                              refine TL.v (Want.met rfl rfl rfl) rfl rfl (PV.move rfl rfl) ?_
                                              refine TL.v (Want.met rfl rfl rfl) rfl rfl (PV.eql rfl rfl rfl) ?_
                                              refine TL.dec (fun h132 => ?_) (fun h132 => ?_)
                                              · omega
                                              · skip
                                                refine TL.v (Want.met rfl rfl rfl) rfl rfl (PV.move rfl rfl) ?_
                                                refine TL.v (Want.met rfl rfl rfl) rfl rfl (PV.move rfl rfl) ?_
                                                refine TL.v (Want.met rfl rfl rfl) rfl rfl (PV.eql rfl rfl rfl) ?_
                                                refine TL.dec (fun h135 => ?_) (fun h135 => ?_)
                                                · omega
                                                · skip
                                                  refine TL.v (Want.met rfl rfl rfl) rfl rfl (PV.pick rfl rfl rfl) ?_
                                                  refine TL.v (Want.met rfl rfl rfl) rfl rfl (PV.move rfl rfl) ?_
                                                  refine TL.v (Want.met rfl rfl rfl) rfl rfl (PV.move rfl rfl) ?_
                                                  refine TL.v (Want.met rfl rfl rfl) rfl rfl (PV.eql rfl rfl rfl) ?_
                                                  refine TL.dec (fun h139 => ?_) (fun h139 => ?_)
                                                  · omega
                                                  · skip
                                                    refine TL.v (Want.met rfl rfl rfl) rfl rfl (PV.pick rfl rfl rfl) ?_
                                                    refine TL.v (Want.met rfl rfl rfl) rfl rfl (PV.pick rfl rfl rfl) ?_
                                                    refine TL.v (Want.met rfl rfl rfl) rfl rfl (PV.eqlB rfl Try.underlying4 rfl rfl) ?_
                                                    refine TL.v (Want.plain rfl) rfl rfl (PV.pick rfl rfl rfl) ?_
                                                    refine TL.v (Want.plain rfl) rfl rfl (PV.assign rfl rfl) ?_
                                                    refine TL.nil ?_
                                                    refine TE.next hK22 ?_
                                                    clear hK22
                                                    refine TC.ret ?_
                                                    refine TE.weak (Sub.refl _) (fun _ s => sep_keep [] rfl s) ?_
                                                    refine TE.ret1 rfl rfl ?_
                                                    exact ⟨rfl, rfl⟩
                                            · omega
                                        · omega
                                      · omega
                                    · omega
                                  · omega
                              · omega
                            · omega
                          · omega
                    exact AllT.nil
                  exact AllT.nil
                exact AllT.nil
              exact AllT.nil
            exact AllT.nil
          exact AllT.nil
        exact AllT.nil
      exact AllT.nil
    exact AllT.nil


theorem msgSizes_list (k : List Int) (hk : k.length = 3) (v : ViewT) : Does Try.prog 3 #[agI k, .agg (ints v.flat).toArray] (fun _ => True) [] (Ret (fun r' H => r' = .bool true ∧ H = [])) := by
  match k, hk with
  | [a, b, c], _ => exact msgSizes_does a b c v

end Go.Proofs.Ytdekgkmbcdlekaa
