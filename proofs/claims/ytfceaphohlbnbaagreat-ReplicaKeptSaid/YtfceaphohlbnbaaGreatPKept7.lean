/-
  Joined texts: what a statement's proof reaches.
-/
import Derived.Test.YtfceaphohlbnbaaGreatPKept6
section
namespace Go.Proofs.YtfceaphohlbnbaaGreat

open Go Leg Codec Api Dsk Wal

set_option linter.unusedSimpArgs false
set_option linter.unusedVariables false

set_option maxRecDepth 100000

set_option maxHeartbeats 8000000

theorem clientK_does (r ob lg d : Nat) :
  Does Tryz.prog 12 #[.pointer (some ⟨r, 0, none⟩), .iface 34 (.pointer (some ⟨ob, 0, none⟩)), .agg (ints oK.flat).toArray] (fun _ => True) [blkA r (RepT.cells { newRep 0 lg with replies := (.slice none 0 0) }) 104, lgL lg d ([]), dkL d ([]), own (.slice none 0 0) (([] : List ReplyT)).length (ints (List.flatMap ReplyT.flat (([] : List ReplyT)))) 92 3, outP ob ([])] (Ret (fun r' H => r' = .int .i64 0 ∧ ∃ v', v'.oneCell' = true ∧ H = [blkA r (RepT.cells { mK lg false false with replies := v' }) 104, lgL lg d (clientC (newRep 0 lg) oK []), dkL d (clientC (newRep 0 lg) oK []), own v' (rK false false).length (ints (List.flatMap ReplyT.flat (rK false false))) 92 3, outP ob ([] ++ clientO (newRep 0 lg) oK)])) := by
  have := clientL_does r ob lg d (newRep 0 lg) (.slice none 0 0) oK [] [] [] (Lone.new 0 lg 0) (by decide) (by decide) (by decide) (by decide) (by decide) (fun _ => by decide)
  rw [show (cN (newRep 0 lg) oK).2.2 = 0 from by kernel_rfl, show clientX (newRep 0 lg) oK = mK lg false false from mK_zero lg, show clientR (newRep 0 lg) oK [] = rK false false from by kernel_rfl] at this
  exact this

theorem replicaKept_does (x : Value) (l0 : List (List Int)) :
    Does Tryz.prog 3 #[x] (IsL 2 EP2 x l0) [] (Ret (fun r' H => r' = .bool true ∧ H = [])) := by
  refine Does.body (vs := [x]) (n := 93) Tryz.func3 rfl rfl rfl (fun w0 F hF => ?_)
  refine TC.seq (fun K1 hK1 => ?_)
  refine TC.region ?_
  refine tp rfl rfl rfl (PV.assign rfl rfl) ?_
  refine TL.nil ?_
  refine TE.next hK1 ?_
  clear hK1
  refine TC.seq (fun K2 hK2 => ?_)
  refine TC.seq (fun K3 hK3 => ?_)
  refine TC.region ?_
  refine TL.callR (A := []) (B := []) (Want.plain rfl) rfl rfl rfl nm9 rfl (fit_does) (fun _ s => s) (fun _ _ _ => trivial) (fun vR HR hR => ?_)
  obtain ⟨rfl, rfl⟩ := hR
  change TL _ _ _ _ _ _ _ _ _ []
  refine tp rfl rfl rfl (PV.not (r := false) rfl rfl rfl) ?_
  refine TL.nil ?_
  refine TE.next hK3 ?_
  clear hK3
  refine TC.no rfl ?_
  refine TC.skip ?_
  refine TE.next hK2 ?_
  clear hK2
  refine TC.seq (fun K4 hK4 => ?_)
  refine TC.seq (fun K5 hK5 => ?_)
  refine TC.region ?_
  refine tp rfl rfl rfl (PV.move rfl rfl) ?_
  refine tp rfl rfl rfl (PV.lenV rfl Tryz.underlying22 rfl hF.len) ?_
  refine tp rfl rfl rfl (PV.gtr rfl rfl rfl) ?_
  refine TL.dec (fun h14 => ?_) (fun h14 => ?_)
  refine TL.nil ?_
  refine TE.next hK5 ?_
  clear hK5
  refine TC.yes rfl ?_
  refine TC.seq (fun K6 hK6 => ?_)
  refine TC.region ?_
  refine tp rfl rfl rfl (PV.assign rfl rfl) ?_
  refine TL.nil ?_
  refine TE.next hK6 ?_
  clear hK6
  refine TC.ret ?_
  refine TE.passRet ?_
  clear hK4
  refine TE.weak (Sub.refl _) (fun _ s => sep_keep [] rfl s) ?_
  refine TE.ret1 rfl rfl ?_
  exact ⟨by first | rfl | simp, rfl⟩
  refine TL.nil ?_
  refine TE.next hK5 ?_
  clear hK5
  refine TC.no rfl ?_
  refine TC.skip ?_
  refine TE.next hK4 ?_
  clear hK4
  refine TC.seq (fun K7 hK7 => ?_)
  refine TC.region ?_
  refine TL.callR (A := []) (B := []) (Want.plain rfl) rfl rfl rfl nm11 rfl (dkNew_does) (fun _ s => s) (fun _ _ _ => trivial) (fun vR HR hR => ?_)
  obtain ⟨d, rfl, rfl⟩ := hR
  change TL _ _ _ _ _ _ _ _ _ [dkL d ([])]
  refine TL.callR (A := [dkL d ([])]) (B := []) (Want.plain rfl) rfl rfl rfl nm10 rfl (start0_does 0 d) (fun _ s => s) (fun _ _ _ => trivial) (fun vR HR hR => ?_)
  obtain ⟨r, lg, rfl, rfl⟩ := hR
  change TL _ _ _ _ _ _ _ _ _ [blkA r (RepT.cells ({ newRep 0 lg with replies := (.slice none 0 0) })) 104, lgP lg d ((([]).length : Nat) : Int) ((sizeS ([]) : Nat) : Int), dkL d ([])]
  have hL0 := Lone.new 0 lg 0
  have hrn : ([] : List ReplyT).length = 0 := rfl
  refine TL.ownNilI 92 3 (fun _ => ?_)
  change TL _ _ _ _ _ _ _ _ _ [own (.slice none 0 0) ((([] : List ReplyT)).length) (ints (List.flatMap ReplyT.flat (([] : List ReplyT)))) 92 3, blkA r (RepT.cells ({ newRep 0 lg with replies := (.slice none 0 0) })) 104, lgP lg d ((([]).length : Nat) : Int) ((sizeS ([]) : Nat) : Int), dkL d ([])]
  refine tp rfl rfl rfl (PV.move rfl rfl) ?_
  refine tp rfl rfl rfl (PV.extract (vs := [(.pointer (some ⟨r, 0, none⟩)), (.int .i64 0)]) rfl rfl rfl) ?_
  refine tp rfl rfl rfl (PV.extract (vs := [(.pointer (some ⟨r, 0, none⟩)), (.int .i64 0)]) rfl rfl rfl) ?_
  refine tp rfl rfl rfl (PV.assign rfl rfl) ?_
  refine tp rfl rfl rfl (PV.assign rfl rfl) ?_
  refine TL.nil ?_
  refine TE.next hK7 ?_
  clear hK7
  refine TC.seq (fun K8 hK8 => ?_)
  refine TC.seq (fun K9 hK9 => ?_)
  refine TC.region ?_
  refine tp rfl rfl rfl (PV.move rfl rfl) ?_
  refine tp rfl rfl rfl (PV.neq rfl rfl rfl) ?_
  refine tp rfl rfl rfl (PV.move rfl rfl) ?_
  refine tq rfl rfl rfl rfl rfl (PV.move rfl rfl) ?_
  refine tq rfl rfl rfl rfl rfl (PV.ptrNil rfl Tryz.underlying24 rfl rfl) ?_
  refine tp rfl rfl rfl (PV.pick rfl rfl rfl) ?_
  refine TL.nil ?_
  refine TE.next hK9 ?_
  clear hK9
  refine TC.no rfl ?_
  refine TC.skip ?_
  refine TE.next hK8 ?_
  clear hK8
  refine TC.seq (fun K10 hK10 => ?_)
  refine TC.region ?_
  refine TL.alloc (Want.plain rfl) rfl rfl rfl z32 (fun b5 => ?_)
  change TL _ _ _ _ _ _ _ _ _ [blkA b5 [(.slice none 0 0)] 32, own (.slice none 0 0) ((([] : List ReplyT)).length) (ints (List.flatMap ReplyT.flat (([] : List ReplyT)))) 92 3, blkA r (RepT.cells ({ newRep 0 lg with replies := (.slice none 0 0) })) 104, lgP lg d ((([]).length : Nat) : Int) ((sizeS ([]) : Nat) : Int), dkL d ([])]
  refine TL.nil ?_
  refine TE.next hK10 ?_
  clear hK10
  refine TC.seq (fun K11 hK11 => ?_)
  refine TC.region ?_
  refine outNew ?_
  change TL _ _ _ _ _ _ _ _ _ [outP b5 ([]), own (.slice none 0 0) ((([] : List ReplyT)).length) (ints (List.flatMap ReplyT.flat (([] : List ReplyT)))) 92 3, blkA r (RepT.cells ({ newRep 0 lg with replies := (.slice none 0 0) })) 104, lgP lg d ((([]).length : Nat) : Int) ((sizeS ([]) : Nat) : Int), dkL d ([])]
  refine tp rfl rfl rfl (PV.move rfl rfl) ?_
  refine tp rfl rfl rfl (PV.mkIface rfl Tryz.underlying34 rfl rfl) ?_
  refine tp rfl rfl rfl (PV.buildSegs (cs := ints (OpT.mk 0 0 0 0 1 ChangeT.zero 0 0 0).flat) (segs := [[Value.int .i64 0], [Value.int .i64 0], [Value.int .i64 0], [Value.int .i64 0], [Value.int .i64 0], ints ChangeT.zero.flat, [Value.int .i64 0], [Value.int .i64 0], [Value.int .i64 0]]) (res := [[Value.int .i64 0], [Value.int .i64 0], [Value.int .i64 0], [Value.int .i64 0], [Value.int .i64 1], ints ChangeT.zero.flat, [Value.int .i64 0], [Value.int .i64 0], [Value.int .i64 0]]) (parts := [(0, [Value.int .i64 0]), (4, [Value.int .i64 1])]) rfl rfl Tryz.underlying38 (by kernel_rfl) (by kernel_rfl) rfl (putSegs_step rfl ((rfl : [Value.int .i64 0].length = 1).trans (rfl : [Value.int .i64 0].length = 1).symm) (putSegs_step rfl ((rfl : [Value.int .i64 1].length = 1).trans (rfl : [Value.int .i64 0].length = 1).symm) putSegs_nil)) (OpT.eq (OpT.mk 0 0 0 0 1 ChangeT.zero 0 0 0)).symm) ?_
  refine TL.callR (A := [blkA r (RepT.cells ({ newRep 0 lg with replies := (.slice none 0 0) })) 104, lgP lg d ((([]).length : Nat) : Int) ((sizeS ([]) : Nat) : Int), dkL d ([]), own (.slice none 0 0) ((([] : List ReplyT)).length) (ints (List.flatMap ReplyT.flat (([] : List ReplyT)))) 92 3, outP b5 ([])]) (B := []) (Want.plain rfl) rfl rfl rfl nm12 rfl (clientK_does r b5 lg d) (fun _ s => sep_selR [2, 2, 2, 1, 0] rfl s) (fun _ _ _ => trivial) (fun vR HR hR => ?_)
  obtain ⟨hv, vc, hvc, rfl⟩ := hR
  subst hv
  change TL _ _ _ _ _ _ _ _ _ [blkA r (RepT.cells ({ mK lg false false with replies := vc })) 104, lgP lg d (((clientC (newRep 0 lg) oK []).length : Nat) : Int) ((sizeS (clientC (newRep 0 lg) oK []) : Nat) : Int), dkL d (clientC (newRep 0 lg) oK []), own vc ((rK false false).length) (ints (List.flatMap ReplyT.flat (rK false false))) 92 3, outP b5 ([] ++ clientO (newRep 0 lg) oK)]
  have hol := clientO_len (newRep 0 lg) oK
  refine TL.nil ?_
  refine TE.next hK11 ?_
  clear hK11
  refine TC.seq (fun K12 hK12 => ?_)
  refine TC.region ?_
  refine TL.alloc (Want.plain rfl) rfl rfl rfl z39 (fun b6 => ?_)
  change TL _ _ _ _ _ _ _ _ _ [blkA b6 [(.bool false), (.bool false), (.bool false)] 39, blkA r (RepT.cells ({ mK lg false false with replies := vc })) 104, lgP lg d (((clientC (newRep 0 lg) oK []).length : Nat) : Int) ((sizeS (clientC (newRep 0 lg) oK []) : Nat) : Int), dkL d (clientC (newRep 0 lg) oK []), own vc ((rK false false).length) (ints (List.flatMap ReplyT.flat (rK false false))) 92 3, outP b5 ([] ++ clientO (newRep 0 lg) oK)]
  refine TL.nil ?_
  refine TE.next hK12 ?_
  clear hK12
  refine TC.seq (fun K13 hK13 => ?_)
  refine TC.seq (fun K14 hK14 => ?_)
  refine TC.region ?_
  refine tp rfl rfl rfl (PV.move rfl rfl) ?_
  refine tp rfl rfl rfl (PV.lenV rfl Tryz.underlying22 rfl hF.len) ?_
  refine tp rfl rfl rfl (PV.move rfl rfl) ?_
  refine TL.nil ?_
  refine TE.next hK14 ?_
  clear hK14
  refine TC.block ?_
  refine TC.loop (α := (Nat) × (Value) × (Bool) × (Bool) × (List SaidT)) (fun ⟨i, rv, e1, e2, l⟩ => i ≤ l0.length ∧ rv.oneCell' = true ∧ l.length ≤ 5 * i + 2) (fun ⟨i, rv, e1, e2, l⟩ => [(3, (.pointer (some ⟨r, 0, none⟩))), (5, (.pointer (some ⟨b5, 0, none⟩))), (6, (.pointer (some ⟨b6, 0, none⟩))), (30, x), (31, (.int .i64 (((l0.length : Nat) : Int)))), (32, (.int .i64 (((i : Nat) : Int))))]) (fun ⟨i, rv, e1, e2, l⟩ => [blkA r (RepT.cells ({ mK lg e1 e2 with replies := rv })) 104, lgP lg d (((clientC (newRep 0 lg) oK []).length : Nat) : Int) ((sizeS (clientC (newRep 0 lg) oK []) : Nat) : Int), dkL d (clientC (newRep 0 lg) oK []), own rv ((rK e1 e2).length) (ints (List.flatMap ReplyT.flat (rK e1 e2))) 92 3, outP b5 (l), blkA b6 [(.bool false), (.bool (e1)), (.bool (e2))] 39]) (fun ⟨i, rv, e1, e2, l⟩ => l0.length - i) (0, vc, false, false, [] ++ clientO (newRep 0 lg) oK)
      ⟨Nat.zero_le _, hvc, by rw [List.length_append]; simpa using hol⟩ (Sub.r (Sub.r (Sub.r (Sub.r (Sub.r (Sub.cons rfl (by congr 1) (Sub.nil _)))))))
      (fun _ s => sep_keep [1, 1, 1, 1, 1, 0] rfl s) (fun ⟨i, rv, e1, e2, l⟩ hinv => ?_)
  obtain ⟨hi, hrv, hl⟩ := hinv
  refine TC.seq (fun K15 hK15 => ?_)
  refine TC.region ?_
  refine tp rfl rfl rfl (PV.lss rfl rfl rfl) ?_
  refine TL.dec (fun h33 => ?_) (fun h33 => ?_)
  obtain ⟨b_a, off_a, cap_a, cs_a, T_a, z_a, us_a, hv_a, hc_a, hb_a, hl_a, hs_a, hE_a⟩ := IsL.at hF (j := i) (by omega)
  obtain ⟨a0, a1, e_a⟩ := two hE_a.2
  replace hs_a := hs_a.trans (hE_a.1.trans (congrArg ints e_a))
  refine TL.nil ?_
  refine TE.next hK15 ?_
  clear hK15
  refine TC.seq (fun K16 hK16 => ?_)
  refine TC.yes rfl ?_
  refine TC.skip ?_
  refine TE.next hK16 ?_
  clear hK16
  refine TC.seq (fun K17 hK17 => ?_)
  refine TC.block ?_
  refine TC.seq (fun K18 hK18 => ?_)
  refine TC.region ?_
  refine tp rfl rfl rfl (PV.indexSlV (r := off_a + i * 2) hv_a rfl Tryz.underlying22 sz40 rfl rfl (by omega) (by omega) (by omega)) ?_
  refine tp rfl rfl rfl (PV.loadNX (vs := [(.int .i64 (a0)), (.int .i64 (a1))]) rfl Tryz.underlying40 rfl sz40 rfl (RdX.frm hb_a (fun _ h => Frm.of h)) rfl hs_a) ?_
  refine TL.alloc (Want.plain rfl) rfl rfl rfl z40 (fun b8 => ?_)
  change TL _ _ _ _ _ _ _ _ _ [blkA b8 [(.int .i64 0), (.int .i64 0)] 40, blkA r (RepT.cells ({ mK lg e1 e2 with replies := rv })) 104, lgP lg d (((clientC (newRep 0 lg) oK []).length : Nat) : Int) ((sizeS (clientC (newRep 0 lg) oK []) : Nat) : Int), dkL d (clientC (newRep 0 lg) oK []), own rv ((rK e1 e2).length) (ints (List.flatMap ReplyT.flat (rK e1 e2))) 92 3, outP b5 (l), blkA b6 [(.bool false), (.bool (e1)), (.bool (e2))] 39]
  refine TL.store (vs := [(.int .i64 (a0)), (.int .i64 (a1))]) (i := 0) (H' := [blkA b8 [(.int .i64 (a0)), (.int .i64 (a1))] 40, blkA r (RepT.cells ({ mK lg e1 e2 with replies := rv })) 104, lgP lg d (((clientC (newRep 0 lg) oK []).length : Nat) : Int) ((sizeS (clientC (newRep 0 lg) oK []) : Nat) : Int), dkL d (clientC (newRep 0 lg) oK []), own rv ((rK e1 e2).length) (ints (List.flatMap ReplyT.flat (rK e1 e2))) 92 3, outP b5 (l), blkA b6 [(.bool false), (.bool (e1)), (.bool (e2))] 39]) (Want.plain rfl) rfl rfl rfl rfl rfl sz40 (by simp [Value.oneCell']) rfl rfl (lbe rfl) rfl rfl ?_
  refine TL.nil ?_
  refine TE.next hK18 ?_
  clear hK18
  refine TC.seq (fun K19 hK19 => ?_)
  refine TC.region ?_
  refine tp rfl rfl rfl (PV.move rfl rfl) ?_
  refine tp rfl rfl rfl (PV.mkIface rfl Tryz.underlying34 rfl rfl) ?_
  refine tp rfl rfl rfl (PV.indexArr (r := 0) rfl Tryz.underlying40 sz3 rfl rfl (lz rfl) (lz rfl) rfl) ?_
  refine tp rfl rfl rfl (PV.load1 (v := (.int .i64 (a0))) rfl Tryz.underlying3 rfl rfl (Rd.own 0 rfl rfl) rfl) ?_
  refine tp rfl rfl rfl (PV.and (r := (a0 % 8)) rfl rfl rfl (mask (k := 3) (by decide) _)) ?_
  refine tp rfl rfl rfl (PV.indexArr (r := 1) rfl Tryz.underlying40 sz3 rfl rfl (lz rfl) (lz rfl) rfl) ?_
  refine tp rfl rfl rfl (PV.load1 (v := (.int .i64 (a1))) rfl Tryz.underlying3 rfl rfl (Rd.own 0 rfl rfl) rfl) ?_
  refine tp rfl rfl rfl (PV.buildSegs (cs := ints (MsgT.mk 1 0 RowT.zero a1 0 BallotT.zero BallotT.zero ChangeT.zero ViewT.zero).flat) (segs := [[Value.int .i64 0], [Value.int .i64 0], ints RowT.zero.flat, [Value.int .i64 0], [Value.int .i64 0], ints BallotT.zero.flat, ints BallotT.zero.flat, ints ChangeT.zero.flat, ints ViewT.zero.flat]) (res := [[Value.int .i64 1], [Value.int .i64 0], ints RowT.zero.flat, [Value.int .i64 a1], [Value.int .i64 0], ints BallotT.zero.flat, ints BallotT.zero.flat, ints ChangeT.zero.flat, ints ViewT.zero.flat]) (parts := [(0, [Value.int .i64 1]), (3, [Value.int .i64 a1])]) rfl rfl Tryz.underlying54 (by kernel_rfl) (by kernel_rfl) rfl (putSegs_step rfl ((rfl : [Value.int .i64 1].length = 1).trans (rfl : [Value.int .i64 0].length = 1).symm) (putSegs_step rfl ((rfl : [Value.int .i64 a1].length = 1).trans (rfl : [Value.int .i64 0].length = 1).symm) putSegs_nil)) (MsgT.eq (MsgT.mk 1 0 RowT.zero a1 0 BallotT.zero BallotT.zero ChangeT.zero ViewT.zero)).symm) ?_
  refine TL.callR (A := [blkA r (RepT.cells ({ mK lg e1 e2 with replies := rv })) 104, own rv ((rK e1 e2).length) (ints (List.flatMap ReplyT.flat (rK e1 e2))) 92 3, outP b5 (l)]) (B := [blkA b8 [(.int .i64 (a0)), (.int .i64 (a1))] 40, lgP lg d (((clientC (newRep 0 lg) oK []).length : Nat) : Int) ((sizeS (clientC (newRep 0 lg) oK []) : Nat) : Int), dkL d (clientC (newRep 0 lg) oK []), blkA b6 [(.bool false), (.bool (e1)), (.bool (e2))] 39]) (Want.plain rfl) rfl rfl rfl nm13 rfl (take1L_does r b5 lg (mK lg e1 e2) rv (a0 % 8) (MsgT.mk 1 0 RowT.zero a1 0 BallotT.zero BallotT.zero ChangeT.zero ViewT.zero) a1 (rK e1 e2) (l) (mK_lone lg e1 e2) (by decide) (by decide) rfl rfl (by omega) (by have := rK_len e1 e2; omega)) (fun _ s => sep_selR [1, 3, 3] rfl s) (fun _ _ _ => trivial) (fun vR HR hR => ?_)
  obtain ⟨vk, hvk, hH⟩ := hR
  rw [(mK_step lg e1 e2 (a0 % 8) a1).1, (mK_step lg e1 e2 (a0 % 8) a1).2 _ rfl] at hH
  subst hH
  change TL _ _ _ _ _ _ _ _ _ [blkA r (RepT.cells ({ mK lg (e1 || decide (a0 % 8 = 1 ∧ a1 = 1)) (e2 || decide (a0 % 8 = 2 ∧ a1 = 1)) with replies := vk })) 104, own vk ((rK (e1 || decide (a0 % 8 = 1 ∧ a1 = 1)) (e2 || decide (a0 % 8 = 2 ∧ a1 = 1))).length) (ints (List.flatMap ReplyT.flat (rK (e1 || decide (a0 % 8 = 1 ∧ a1 = 1)) (e2 || decide (a0 % 8 = 2 ∧ a1 = 1))))) 92 3, outP b5 (l ++ keptO (mK lg e1 e2) (a0 % 8) a1), blkA b8 [(.int .i64 (a0)), (.int .i64 (a1))] 40, lgP lg d (((clientC (newRep 0 lg) oK []).length : Nat) : Int) ((sizeS (clientC (newRep 0 lg) oK []) : Nat) : Int), dkL d (clientC (newRep 0 lg) oK []), blkA b6 [(.bool false), (.bool (e1)), (.bool (e2))] 39]
  have hol := keptO_len (mK lg e1 e2) (a0 % 8) a1
  refine TL.nil ?_
  refine TE.next hK19 ?_
  clear hK19
  refine TC.seq (fun K20 hK20 => ?_)
  refine TC.seq (fun K21 hK21 => ?_)
  refine TC.region ?_
  refine tp rfl rfl rfl (PV.indexArr (r := 0) rfl Tryz.underlying40 sz3 rfl rfl (lz rfl) (lz rfl) rfl) ?_
  refine tp rfl rfl rfl (PV.load1 (v := (.int .i64 (a0))) rfl Tryz.underlying3 rfl rfl (Rd.own 3 rfl rfl) rfl) ?_
  refine tp rfl rfl rfl (PV.and (r := (a0 % 8)) rfl rfl rfl (mask (k := 3) (by decide) _)) ?_
  refine tp rfl rfl rfl (PV.assign rfl rfl) ?_
  refine TL.nil ?_
  refine TE.next hK21 ?_
  clear hK21
  refine TC.seq (fun K22 hK22 => ?_)
  refine TC.region ?_
  refine tp rfl rfl rfl (PV.indexArr (r := 1) rfl Tryz.underlying40 sz3 rfl rfl (lz rfl) (lz rfl) rfl) ?_
  refine tp rfl rfl rfl (PV.load1 (v := (.int .i64 (a1))) rfl Tryz.underlying3 rfl rfl (Rd.own 3 rfl rfl) rfl) ?_
  refine tp rfl rfl rfl (PV.eql rfl rfl rfl) ?_
  refine TL.dec (fun h50 => ?_) (fun h50 => ?_)
  refine tp rfl rfl rfl (PV.move rfl rfl) ?_
  refine tq rfl rfl rfl rfl rfl (PV.move rfl rfl) ?_
  refine tq rfl rfl rfl rfl rfl (PV.eql rfl rfl rfl) ?_
  refine TL.dec (fun h53 => ?_) (fun h53 => ?_)
  rw [show (e1 || decide (a0 % 8 = 1 ∧ a1 = 1)) = true by rw [decide_eq_true (show a0 % 8 = 1 ∧ a1 = 1 by omega), Bool.or_true], show (e2 || decide (a0 % 8 = 2 ∧ a1 = 1)) = e2 by rw [decide_eq_false (show ¬ (a0 % 8 = 2 ∧ a1 = 1) by omega), Bool.or_false]]
  refine tq rfl rfl rfl rfl rfl (PV.move rfl rfl) ?_
  refine TL.unmet (b := true) rfl rfl rfl rfl (lb rfl) ?_
  refine TL.unmet (b := true) rfl rfl rfl rfl (lb rfl) ?_
  refine tq rfl rfl rfl rfl rfl (PV.pick rfl rfl rfl) ?_
  refine tp rfl rfl rfl (PV.pick rfl rfl rfl) ?_
  refine TL.nil ?_
  refine TE.next hK22 ?_
  clear hK22
  refine TC.yes rfl ?_
  refine TC.region ?_
  refine tp rfl rfl rfl (PV.to (v' := (.int .i64 1)) (PV.move rfl rfl) (by rw [h53])) ?_
  refine tp rfl rfl rfl (PV.indexArr (r := 1) rfl Tryz.underlying39 sz4 rfl rfl (lz rfl) (lz rfl) rfl) ?_
  refine TL.store1 (i := 6) (H' := [blkA r (RepT.cells ({ mK lg true e2 with replies := vk })) 104, own vk ((rK true e2).length) (ints (List.flatMap ReplyT.flat (rK true e2))) 92 3, outP b5 (l ++ keptO (mK lg e1 e2) (a0 % 8) a1), blkA b8 [(.int .i64 (a0)), (.int .i64 (a1))] 40, lgP lg d (((clientC (newRep 0 lg) oK []).length : Nat) : Int) ((sizeS (clientC (newRep 0 lg) oK []) : Nat) : Int), dkL d (clientC (newRep 0 lg) oK []), blkA b6 [(.bool false), (.bool true), (.bool (e2))] 39]) (Want.plain rfl) rfl rfl rfl rfl rfl sz4 rfl rfl (lb rfl) rfl rfl ?_
  refine TL.nil ?_
  refine TE.next hK20 ?_
  clear hK20
  refine TC.seq (fun K23 hK23 => ?_)
  refine TC.draw (fun w => Frm F w ∧ w.heap[b6]? = some (.cells ([(.bool false), (.bool true), (.bool (e2))]).toArray 39 (0, 0)) ∧ True) mixed rfl (fun _ s => ⟨Frm.of s, s.block 6 (lb rfl) rfl, trivial⟩) ?_
  refine TD.take (i := 0) rfl (by kernel_rfl) (by kernel_rfl) (by kernel_rfl) (fun _ _ _ _ h => h) (Want.plain rfl) rfl rfl (PV.move rfl rfl) ?_
  refine TD.take (i := 2) rfl (by kernel_rfl) (by kernel_rfl) (by kernel_rfl) (fun _ _ _ _ h => h) (Want.plain rfl) rfl rfl (PV.indexArr (r := 1) rfl Tryz.underlying39 sz4 rfl rfl (lz rfl) (lz rfl) rfl) ?_
  refine TD.take (i := 3) rfl (by kernel_rfl) (by kernel_rfl) (by kernel_rfl) (fun _ _ _ _ h => h) (Want.plain rfl) rfl rfl (PV.load1 (v := (.bool true)) rfl Tryz.underlying4 rfl rfl (fun _ h => h.2.1) rfl) ?_
  refine TD.all [1] (by kernel_rfl) rfl ?_
  refine AllT.cons rfl ?_ ?_
  refine TL.callR (A := [blkA r (RepT.cells ({ mK lg true e2 with replies := vk })) 104]) (B := [own vk ((rK true e2).length) (ints (List.flatMap ReplyT.flat (rK true e2))) 92 3, outP b5 (l ++ keptO (mK lg e1 e2) (a0 % 8) a1), blkA b8 [(.int .i64 (a0)), (.int .i64 (a1))] 40, lgP lg d (((clientC (newRep 0 lg) oK []).length : Nat) : Int) ((sizeS (clientC (newRep 0 lg) oK []) : Nat) : Int), dkL d (clientC (newRep 0 lg) oK []), blkA b6 [(.bool false), (.bool true), (.bool (e2))] 39]) (Want.plain rfl) rfl rfl rfl nm14 rfl (rBusyL_does r (mK lg true e2) vk ) (fun _ s => s) (fun _ _ _ => trivial) (fun vR HR hR => ?_)
  obtain ⟨hv, rfl⟩ := hR
  rw [mK_busy] at hv
  subst hv
  change TL _ _ _ _ _ _ _ _ _ [blkA r (RepT.cells ({ mK lg true e2 with replies := vk })) 104, own vk ((rK true e2).length) (ints (List.flatMap ReplyT.flat (rK true e2))) 92 3, outP b5 (l ++ keptO (mK lg e1 e2) (a0 % 8) a1), blkA b8 [(.int .i64 (a0)), (.int .i64 (a1))] 40, lgP lg d (((clientC (newRep 0 lg) oK []).length : Nat) : Int) ((sizeS (clientC (newRep 0 lg) oK []) : Nat) : Int), dkL d (clientC (newRep 0 lg) oK []), blkA b6 [(.bool false), (.bool true), (.bool (e2))] 39]
  refine TL.nil ?_
  refine TE.draw (fun _ s => ⟨Frm.of s, s.block 6 (lb rfl) rfl, trivial⟩) ?_
  refine TD.take (i := 4) rfl (by kernel_rfl) (by kernel_rfl) (by kernel_rfl) (fun _ _ _ _ h => h) (Want.plain rfl) rfl rfl (PV.move rfl rfl) ?_
  refine TD.take (i := 5) rfl (by kernel_rfl) (by kernel_rfl) (by kernel_rfl) (fun _ _ _ _ h => h) (Want.met rfl rfl rfl) rfl rfl (PV.indexArr (r := 2) rfl Tryz.underlying39 sz4 rfl rfl (lz rfl) (lz rfl) rfl) ?_
  refine TD.take (i := 6) rfl (by kernel_rfl) (by kernel_rfl) (by kernel_rfl) (fun _ _ _ _ h => h) (Want.met rfl rfl rfl) rfl rfl (PV.load1 (v := (.bool (e2))) rfl Tryz.underlying4 rfl rfl (fun _ h => h.2.1) rfl) ?_
  refine TD.take (i := 7) rfl (by kernel_rfl) (by kernel_rfl) (by kernel_rfl) (fun _ _ _ _ h => h) (Want.plain rfl) rfl rfl (PV.pick rfl rfl rfl) ?_
  refine TD.take (i := 8) rfl (by kernel_rfl) (by kernel_rfl) (by kernel_rfl) (fun _ _ _ _ h => h) (Want.plain rfl) rfl rfl (PV.not rfl rfl rfl) ?_
  refine TD.take (i := 9) rfl (by kernel_rfl) (by kernel_rfl) (by kernel_rfl) (fun _ _ _ _ h => h) (Want.plain rfl) rfl rfl (PV.neqBo rfl Tryz.underlying4 rfl rfl) ?_
  refine TD.decB (fun h70 => ?_) (fun h70 => ?_)
  · exact absurd h70 (by revert h70; cases e1 <;> cases e2 <;> simp)
  refine TD.done (by kernel_rfl) ?_
  refine TE.next hK23 ?_
  clear hK23
  refine TC.no rfl ?_
  refine TC.skip ?_
  refine TE.blockEnd ?_
  refine TE.next hK17 ?_
  clear hK17
  refine TC.region ?_
  refine tp rfl rfl rfl (PV.add rfl rfl rfl (wrap_i64 (by omega) (by omega))) ?_
  refine tp rfl rfl rfl (PV.move rfl rfl) ?_
  refine TL.nil ?_
  exact TE.round ((i + 1, vk, true, e2, l ++ keptO (mK lg e1 e2) (a0 % 8) a1) : (Nat) × (Value) × (Bool) × (Bool) × (List SaidT)) ⟨by omega, hvk, by rw [List.length_append]; omega⟩ (by show l0.length - (i + 1) < l0.length - i; omega)
    (Sub.r (Sub.r (Sub.r (Sub.r (Sub.r (Sub.cons rfl (by simp) (Sub.nil _)))))))
    (fun _ s => sep_keep [0, 3, 3, 0, 0, 1] rfl s)
  exact AllT.nil
  refine tq rfl rfl rfl rfl rfl (PV.move rfl rfl) ?_
  refine tq rfl rfl rfl rfl rfl (PV.move rfl rfl) ?_
  refine tq rfl rfl rfl rfl rfl (PV.eql rfl rfl rfl) ?_
  refine TL.dec (fun h56 => ?_) (fun h56 => ?_)
  rw [show (e1 || decide (a0 % 8 = 1 ∧ a1 = 1)) = e1 by rw [decide_eq_false (show ¬ (a0 % 8 = 1 ∧ a1 = 1) by omega), Bool.or_false], show (e2 || decide (a0 % 8 = 2 ∧ a1 = 1)) = true by rw [decide_eq_true (show a0 % 8 = 2 ∧ a1 = 1 by omega), Bool.or_true]]
  refine tq rfl rfl rfl rfl rfl (PV.pick rfl rfl rfl) ?_
  refine tp rfl rfl rfl (PV.pick rfl rfl rfl) ?_
  refine TL.nil ?_
  refine TE.next hK22 ?_
  clear hK22
  refine TC.yes rfl ?_
  refine TC.region ?_
  refine tp rfl rfl rfl (PV.to (v' := (.int .i64 2)) (PV.move rfl rfl) (by rw [h56])) ?_
  refine tp rfl rfl rfl (PV.indexArr (r := 2) rfl Tryz.underlying39 sz4 rfl rfl (lz rfl) (lz rfl) rfl) ?_
  refine TL.store1 (i := 6) (H' := [blkA r (RepT.cells ({ mK lg e1 true with replies := vk })) 104, own vk ((rK e1 true).length) (ints (List.flatMap ReplyT.flat (rK e1 true))) 92 3, outP b5 (l ++ keptO (mK lg e1 e2) (a0 % 8) a1), blkA b8 [(.int .i64 (a0)), (.int .i64 (a1))] 40, lgP lg d (((clientC (newRep 0 lg) oK []).length : Nat) : Int) ((sizeS (clientC (newRep 0 lg) oK []) : Nat) : Int), dkL d (clientC (newRep 0 lg) oK []), blkA b6 [(.bool false), (.bool (e1)), (.bool true)] 39]) (Want.plain rfl) rfl rfl rfl rfl rfl sz4 rfl rfl (lb rfl) rfl rfl ?_
  refine TL.nil ?_
  refine TE.next hK20 ?_
  clear hK20
  refine TC.seq (fun K24 hK24 => ?_)
  refine TC.draw (fun w => Frm F w ∧ w.heap[b6]? = some (.cells ([(.bool false), (.bool (e1)), (.bool true)]).toArray 39 (0, 0)) ∧ True) mixed rfl (fun _ s => ⟨Frm.of s, s.block 6 (lb rfl) rfl, trivial⟩) ?_
  refine TD.take (i := 0) rfl (by kernel_rfl) (by kernel_rfl) (by kernel_rfl) (fun _ _ _ _ h => h) (Want.plain rfl) rfl rfl (PV.move rfl rfl) ?_
  refine TD.take (i := 2) rfl (by kernel_rfl) (by kernel_rfl) (by kernel_rfl) (fun _ _ _ _ h => h) (Want.plain rfl) rfl rfl (PV.indexArr (r := 1) rfl Tryz.underlying39 sz4 rfl rfl (lz rfl) (lz rfl) rfl) ?_
  refine TD.take (i := 3) rfl (by kernel_rfl) (by kernel_rfl) (by kernel_rfl) (fun _ _ _ _ h => h) (Want.plain rfl) rfl rfl (PV.load1 (v := (.bool (e1))) rfl Tryz.underlying4 rfl rfl (fun _ h => h.2.1) rfl) ?_
  refine TD.decB (fun h64 => ?_) (fun h64 => ?_)
  refine TD.all [1] (by kernel_rfl) rfl ?_
  refine AllT.cons rfl ?_ ?_
  refine TL.callR (A := [blkA r (RepT.cells ({ mK lg e1 true with replies := vk })) 104]) (B := [own vk ((rK e1 true).length) (ints (List.flatMap ReplyT.flat (rK e1 true))) 92 3, outP b5 (l ++ keptO (mK lg e1 e2) (a0 % 8) a1), blkA b8 [(.int .i64 (a0)), (.int .i64 (a1))] 40, lgP lg d (((clientC (newRep 0 lg) oK []).length : Nat) : Int) ((sizeS (clientC (newRep 0 lg) oK []) : Nat) : Int), dkL d (clientC (newRep 0 lg) oK []), blkA b6 [(.bool false), (.bool (e1)), (.bool true)] 39]) (Want.plain rfl) rfl rfl rfl nm14 rfl (rBusyL_does r (mK lg e1 true) vk ) (fun _ s => s) (fun _ _ _ => trivial) (fun vR HR hR => ?_)
  obtain ⟨hv, rfl⟩ := hR
  rw [mK_busy] at hv
  subst hv
  change TL _ _ _ _ _ _ _ _ _ [blkA r (RepT.cells ({ mK lg e1 true with replies := vk })) 104, own vk ((rK e1 true).length) (ints (List.flatMap ReplyT.flat (rK e1 true))) 92 3, outP b5 (l ++ keptO (mK lg e1 e2) (a0 % 8) a1), blkA b8 [(.int .i64 (a0)), (.int .i64 (a1))] 40, lgP lg d (((clientC (newRep 0 lg) oK []).length : Nat) : Int) ((sizeS (clientC (newRep 0 lg) oK []) : Nat) : Int), dkL d (clientC (newRep 0 lg) oK []), blkA b6 [(.bool false), (.bool (e1)), (.bool true)] 39]
  refine TL.nil ?_
  refine TE.draw (fun _ s => ⟨Frm.of s, s.block 6 (lb rfl) rfl, trivial⟩) ?_
  refine TD.take (i := 4) rfl (by kernel_rfl) (by kernel_rfl) (by kernel_rfl) (fun _ _ _ _ h => h) (Want.plain rfl) rfl rfl (PV.move rfl rfl) ?_
  refine TD.take (i := 5) rfl (by kernel_rfl) (by kernel_rfl) (by kernel_rfl) (fun _ _ _ _ h => h) (Want.met rfl rfl rfl) rfl rfl (PV.indexArr (r := 2) rfl Tryz.underlying39 sz4 rfl rfl (lz rfl) (lz rfl) rfl) ?_
  refine TD.take (i := 6) rfl (by kernel_rfl) (by kernel_rfl) (by kernel_rfl) (fun _ _ _ _ h => h) (Want.met rfl rfl rfl) rfl rfl (PV.load1 (v := (.bool true)) rfl Tryz.underlying4 rfl rfl (fun _ h => h.2.1) rfl) ?_
  refine TD.take (i := 7) rfl (by kernel_rfl) (by kernel_rfl) (by kernel_rfl) (fun _ _ _ _ h => h) (Want.plain rfl) rfl rfl (PV.pick rfl rfl rfl) ?_
  refine TD.take (i := 8) rfl (by kernel_rfl) (by kernel_rfl) (by kernel_rfl) (fun _ _ _ _ h => h) (Want.plain rfl) rfl rfl (PV.not (r := false) rfl rfl rfl) ?_
  refine TD.take (i := 9) rfl (by kernel_rfl) (by kernel_rfl) (by kernel_rfl) (fun _ _ _ _ h => h) (Want.plain rfl) rfl rfl (PV.neqBo rfl Tryz.underlying4 rfl rfl) ?_
  refine TD.decB (fun h70 => ?_) (fun h70 => ?_)
  · exact absurd h70 (by revert h70; rw [h64]; cases e1 <;> cases e2 <;> simp)
  refine TD.done (by kernel_rfl) ?_
  refine TE.next hK24 ?_
  clear hK24
  refine TC.no rfl ?_
  refine TC.skip ?_
  refine TE.blockEnd ?_
  refine TE.next hK17 ?_
  clear hK17
  refine TC.region ?_
  refine tp rfl rfl rfl (PV.add rfl rfl rfl (wrap_i64 (by omega) (by omega))) ?_
  refine tp rfl rfl rfl (PV.move rfl rfl) ?_
  refine TL.nil ?_
  exact TE.round ((i + 1, vk, e1, true, l ++ keptO (mK lg e1 e2) (a0 % 8) a1) : (Nat) × (Value) × (Bool) × (Bool) × (List SaidT)) ⟨by omega, hvk, by rw [List.length_append]; omega⟩ (by show l0.length - (i + 1) < l0.length - i; omega)
    (Sub.r (Sub.r (Sub.r (Sub.r (Sub.r (Sub.cons rfl (by simp) (Sub.nil _)))))))
    (fun _ s => sep_keep [0, 3, 3, 0, 0, 1] rfl s)
  exact AllT.nil
  refine TD.all [1] (by kernel_rfl) rfl ?_
  refine AllT.cons rfl ?_ ?_
  refine TL.callR (A := [blkA r (RepT.cells ({ mK lg e1 true with replies := vk })) 104]) (B := [own vk ((rK e1 true).length) (ints (List.flatMap ReplyT.flat (rK e1 true))) 92 3, outP b5 (l ++ keptO (mK lg e1 e2) (a0 % 8) a1), blkA b8 [(.int .i64 (a0)), (.int .i64 (a1))] 40, lgP lg d (((clientC (newRep 0 lg) oK []).length : Nat) : Int) ((sizeS (clientC (newRep 0 lg) oK []) : Nat) : Int), dkL d (clientC (newRep 0 lg) oK []), blkA b6 [(.bool false), (.bool (e1)), (.bool true)] 39]) (Want.plain rfl) rfl rfl rfl nm14 rfl (rBusyL_does r (mK lg e1 true) vk ) (fun _ s => s) (fun _ _ _ => trivial) (fun vR HR hR => ?_)
  obtain ⟨hv, rfl⟩ := hR
  rw [mK_busy] at hv
  subst hv
  change TL _ _ _ _ _ _ _ _ _ [blkA r (RepT.cells ({ mK lg e1 true with replies := vk })) 104, own vk ((rK e1 true).length) (ints (List.flatMap ReplyT.flat (rK e1 true))) 92 3, outP b5 (l ++ keptO (mK lg e1 e2) (a0 % 8) a1), blkA b8 [(.int .i64 (a0)), (.int .i64 (a1))] 40, lgP lg d (((clientC (newRep 0 lg) oK []).length : Nat) : Int) ((sizeS (clientC (newRep 0 lg) oK []) : Nat) : Int), dkL d (clientC (newRep 0 lg) oK []), blkA b6 [(.bool false), (.bool (e1)), (.bool true)] 39]
  refine TL.nil ?_
  refine TE.draw (fun _ s => ⟨Frm.of s, s.block 6 (lb rfl) rfl, trivial⟩) ?_
  refine TD.take (i := 4) rfl (by kernel_rfl) (by kernel_rfl) (by kernel_rfl) (fun _ _ _ _ h => h) (Want.plain rfl) rfl rfl (PV.move rfl rfl) ?_
  refine TD.takeNot (i := 5) (b := false) rfl (by kernel_rfl) (by kernel_rfl) (by kernel_rfl) (fun _ _ _ _ h => h) rfl rfl rfl rfl rfl ?_
  refine TD.takeNot (i := 6) (b := false) rfl (by kernel_rfl) (by kernel_rfl) (by kernel_rfl) (fun _ _ _ _ h => h) rfl rfl rfl rfl rfl ?_
  refine TD.take (i := 7) rfl (by kernel_rfl) (by kernel_rfl) (by kernel_rfl) (fun _ _ _ _ h => h) (Want.plain rfl) rfl rfl (PV.pick rfl rfl rfl) ?_
  refine TD.take (i := 8) rfl (by kernel_rfl) (by kernel_rfl) (by kernel_rfl) (fun _ _ _ _ h => h) (Want.plain rfl) rfl rfl (PV.not (r := true) rfl rfl rfl) ?_
  refine TD.take (i := 9) rfl (by kernel_rfl) (by kernel_rfl) (by kernel_rfl) (fun _ _ _ _ h => h) (Want.plain rfl) rfl rfl (PV.neqBo rfl Tryz.underlying4 rfl rfl) ?_
  refine TD.decB (fun h70 => ?_) (fun h70 => ?_)
  · exact absurd h70 (by revert h70; rw [h64]; cases e1 <;> cases e2 <;> simp)
  refine TD.done (by kernel_rfl) ?_
  refine TE.next hK24 ?_
  clear hK24
  refine TC.no rfl ?_
  refine TC.skip ?_
  refine TE.blockEnd ?_
  refine TE.next hK17 ?_
  clear hK17
  refine TC.region ?_
  refine tp rfl rfl rfl (PV.add rfl rfl rfl (wrap_i64 (by omega) (by omega))) ?_
  refine tp rfl rfl rfl (PV.move rfl rfl) ?_
  refine TL.nil ?_
  exact TE.round ((i + 1, vk, e1, true, l ++ keptO (mK lg e1 e2) (a0 % 8) a1) : (Nat) × (Value) × (Bool) × (Bool) × (List SaidT)) ⟨by omega, hvk, by rw [List.length_append]; omega⟩ (by show l0.length - (i + 1) < l0.length - i; omega)
    (Sub.r (Sub.r (Sub.r (Sub.r (Sub.r (Sub.cons rfl (by simp) (Sub.nil _)))))))
    (fun _ s => sep_keep [0, 3, 3, 0, 0, 1] rfl s)
  exact AllT.nil
  rw [show (e1 || decide (a0 % 8 = 1 ∧ a1 = 1)) = e1 by rw [decide_eq_false (show ¬ (a0 % 8 = 1 ∧ a1 = 1) by omega), Bool.or_false], show (e2 || decide (a0 % 8 = 2 ∧ a1 = 1)) = e2 by rw [decide_eq_false (show ¬ (a0 % 8 = 2 ∧ a1 = 1) by omega), Bool.or_false]]
  refine tq rfl rfl rfl rfl rfl (PV.pick rfl rfl rfl) ?_
  refine tp rfl rfl rfl (PV.pick rfl rfl rfl) ?_
  refine TL.nil ?_
  refine TE.next hK22 ?_
  clear hK22
  refine TC.no rfl ?_
  refine TC.skip ?_
  refine TE.next hK20 ?_
  clear hK20
  refine TC.seq (fun K25 hK25 => ?_)
  refine TC.draw (fun w => Frm F w ∧ w.heap[b6]? = some (.cells ([(.bool false), (.bool (e1)), (.bool (e2))]).toArray 39 (0, 0)) ∧ True) mixed rfl (fun _ s => ⟨Frm.of s, s.block 6 (lb rfl) rfl, trivial⟩) ?_
  refine TD.take (i := 0) rfl (by kernel_rfl) (by kernel_rfl) (by kernel_rfl) (fun _ _ _ _ h => h) (Want.plain rfl) rfl rfl (PV.move rfl rfl) ?_
  refine TD.take (i := 2) rfl (by kernel_rfl) (by kernel_rfl) (by kernel_rfl) (fun _ _ _ _ h => h) (Want.plain rfl) rfl rfl (PV.indexArr (r := 1) rfl Tryz.underlying39 sz4 rfl rfl (lz rfl) (lz rfl) rfl) ?_
  refine TD.take (i := 3) rfl (by kernel_rfl) (by kernel_rfl) (by kernel_rfl) (fun _ _ _ _ h => h) (Want.plain rfl) rfl rfl (PV.load1 (v := (.bool (e1))) rfl Tryz.underlying4 rfl rfl (fun _ h => h.2.1) rfl) ?_
  refine TD.decB (fun h64 => ?_) (fun h64 => ?_)
  refine TD.all [1] (by kernel_rfl) rfl ?_
  refine AllT.cons rfl ?_ ?_
  refine TL.callR (A := [blkA r (RepT.cells ({ mK lg e1 e2 with replies := vk })) 104]) (B := [own vk ((rK e1 e2).length) (ints (List.flatMap ReplyT.flat (rK e1 e2))) 92 3, outP b5 (l ++ keptO (mK lg e1 e2) (a0 % 8) a1), blkA b8 [(.int .i64 (a0)), (.int .i64 (a1))] 40, lgP lg d (((clientC (newRep 0 lg) oK []).length : Nat) : Int) ((sizeS (clientC (newRep 0 lg) oK []) : Nat) : Int), dkL d (clientC (newRep 0 lg) oK []), blkA b6 [(.bool false), (.bool (e1)), (.bool (e2))] 39]) (Want.plain rfl) rfl rfl rfl nm14 rfl (rBusyL_does r (mK lg e1 e2) vk ) (fun _ s => s) (fun _ _ _ => trivial) (fun vR HR hR => ?_)
  obtain ⟨hv, rfl⟩ := hR
  rw [mK_busy] at hv
  subst hv
  change TL _ _ _ _ _ _ _ _ _ [blkA r (RepT.cells ({ mK lg e1 e2 with replies := vk })) 104, own vk ((rK e1 e2).length) (ints (List.flatMap ReplyT.flat (rK e1 e2))) 92 3, outP b5 (l ++ keptO (mK lg e1 e2) (a0 % 8) a1), blkA b8 [(.int .i64 (a0)), (.int .i64 (a1))] 40, lgP lg d (((clientC (newRep 0 lg) oK []).length : Nat) : Int) ((sizeS (clientC (newRep 0 lg) oK []) : Nat) : Int), dkL d (clientC (newRep 0 lg) oK []), blkA b6 [(.bool false), (.bool (e1)), (.bool (e2))] 39]
  refine TL.nil ?_
  refine TE.draw (fun _ s => ⟨Frm.of s, s.block 6 (lb rfl) rfl, trivial⟩) ?_
  refine TD.take (i := 4) rfl (by kernel_rfl) (by kernel_rfl) (by kernel_rfl) (fun _ _ _ _ h => h) (Want.plain rfl) rfl rfl (PV.move rfl rfl) ?_
  refine TD.take (i := 5) rfl (by kernel_rfl) (by kernel_rfl) (by kernel_rfl) (fun _ _ _ _ h => h) (Want.met rfl rfl rfl) rfl rfl (PV.indexArr (r := 2) rfl Tryz.underlying39 sz4 rfl rfl (lz rfl) (lz rfl) rfl) ?_
  refine TD.take (i := 6) rfl (by kernel_rfl) (by kernel_rfl) (by kernel_rfl) (fun _ _ _ _ h => h) (Want.met rfl rfl rfl) rfl rfl (PV.load1 (v := (.bool (e2))) rfl Tryz.underlying4 rfl rfl (fun _ h => h.2.1) rfl) ?_
  refine TD.take (i := 7) rfl (by kernel_rfl) (by kernel_rfl) (by kernel_rfl) (fun _ _ _ _ h => h) (Want.plain rfl) rfl rfl (PV.pick rfl rfl rfl) ?_
  refine TD.take (i := 8) rfl (by kernel_rfl) (by kernel_rfl) (by kernel_rfl) (fun _ _ _ _ h => h) (Want.plain rfl) rfl rfl (PV.not rfl rfl rfl) ?_
  refine TD.take (i := 9) rfl (by kernel_rfl) (by kernel_rfl) (by kernel_rfl) (fun _ _ _ _ h => h) (Want.plain rfl) rfl rfl (PV.neqBo rfl Tryz.underlying4 rfl rfl) ?_
  refine TD.decB (fun h70 => ?_) (fun h70 => ?_)
  · exact absurd h70 (by revert h70; rw [h64]; cases e1 <;> cases e2 <;> simp)
  refine TD.done (by kernel_rfl) ?_
  refine TE.next hK25 ?_
  clear hK25
  refine TC.no rfl ?_
  refine TC.skip ?_
  refine TE.blockEnd ?_
  refine TE.next hK17 ?_
  clear hK17
  refine TC.region ?_
  refine tp rfl rfl rfl (PV.add rfl rfl rfl (wrap_i64 (by omega) (by omega))) ?_
  refine tp rfl rfl rfl (PV.move rfl rfl) ?_
  refine TL.nil ?_
  exact TE.round ((i + 1, vk, e1, e2, l ++ keptO (mK lg e1 e2) (a0 % 8) a1) : (Nat) × (Value) × (Bool) × (Bool) × (List SaidT)) ⟨by omega, hvk, by rw [List.length_append]; omega⟩ (by show l0.length - (i + 1) < l0.length - i; omega)
    (Sub.r (Sub.r (Sub.r (Sub.r (Sub.r (Sub.cons rfl (by simp) (Sub.nil _)))))))
    (fun _ s => sep_keep [0, 3, 3, 0, 0, 1] rfl s)
  exact AllT.nil
  refine TD.all [1] (by kernel_rfl) rfl ?_
  refine AllT.cons rfl ?_ ?_
  refine TL.callR (A := [blkA r (RepT.cells ({ mK lg e1 e2 with replies := vk })) 104]) (B := [own vk ((rK e1 e2).length) (ints (List.flatMap ReplyT.flat (rK e1 e2))) 92 3, outP b5 (l ++ keptO (mK lg e1 e2) (a0 % 8) a1), blkA b8 [(.int .i64 (a0)), (.int .i64 (a1))] 40, lgP lg d (((clientC (newRep 0 lg) oK []).length : Nat) : Int) ((sizeS (clientC (newRep 0 lg) oK []) : Nat) : Int), dkL d (clientC (newRep 0 lg) oK []), blkA b6 [(.bool false), (.bool (e1)), (.bool (e2))] 39]) (Want.plain rfl) rfl rfl rfl nm14 rfl (rBusyL_does r (mK lg e1 e2) vk ) (fun _ s => s) (fun _ _ _ => trivial) (fun vR HR hR => ?_)
  obtain ⟨hv, rfl⟩ := hR
  rw [mK_busy] at hv
  subst hv
  change TL _ _ _ _ _ _ _ _ _ [blkA r (RepT.cells ({ mK lg e1 e2 with replies := vk })) 104, own vk ((rK e1 e2).length) (ints (List.flatMap ReplyT.flat (rK e1 e2))) 92 3, outP b5 (l ++ keptO (mK lg e1 e2) (a0 % 8) a1), blkA b8 [(.int .i64 (a0)), (.int .i64 (a1))] 40, lgP lg d (((clientC (newRep 0 lg) oK []).length : Nat) : Int) ((sizeS (clientC (newRep 0 lg) oK []) : Nat) : Int), dkL d (clientC (newRep 0 lg) oK []), blkA b6 [(.bool false), (.bool (e1)), (.bool (e2))] 39]
  refine TL.nil ?_
  refine TE.draw (fun _ s => ⟨Frm.of s, s.block 6 (lb rfl) rfl, trivial⟩) ?_
  refine TD.take (i := 4) rfl (by kernel_rfl) (by kernel_rfl) (by kernel_rfl) (fun _ _ _ _ h => h) (Want.plain rfl) rfl rfl (PV.move rfl rfl) ?_
  refine TD.takeNot (i := 5) (b := false) rfl (by kernel_rfl) (by kernel_rfl) (by kernel_rfl) (fun _ _ _ _ h => h) rfl rfl rfl rfl rfl ?_
  refine TD.takeNot (i := 6) (b := false) rfl (by kernel_rfl) (by kernel_rfl) (by kernel_rfl) (fun _ _ _ _ h => h) rfl rfl rfl rfl rfl ?_
  refine TD.take (i := 7) rfl (by kernel_rfl) (by kernel_rfl) (by kernel_rfl) (fun _ _ _ _ h => h) (Want.plain rfl) rfl rfl (PV.pick rfl rfl rfl) ?_
  refine TD.take (i := 8) rfl (by kernel_rfl) (by kernel_rfl) (by kernel_rfl) (fun _ _ _ _ h => h) (Want.plain rfl) rfl rfl (PV.not (r := true) rfl rfl rfl) ?_
  refine TD.take (i := 9) rfl (by kernel_rfl) (by kernel_rfl) (by kernel_rfl) (fun _ _ _ _ h => h) (Want.plain rfl) rfl rfl (PV.neqBo rfl Tryz.underlying4 rfl rfl) ?_
  refine TD.decB (fun h70 => ?_) (fun h70 => ?_)
  · exact absurd h70 (by revert h70; rw [h64]; cases e1 <;> cases e2 <;> simp)
  refine TD.done (by kernel_rfl) ?_
  refine TE.next hK25 ?_
  clear hK25
  refine TC.no rfl ?_
  refine TC.skip ?_
  refine TE.blockEnd ?_
  refine TE.next hK17 ?_
  clear hK17
  refine TC.region ?_
  refine tp rfl rfl rfl (PV.add rfl rfl rfl (wrap_i64 (by omega) (by omega))) ?_
  refine tp rfl rfl rfl (PV.move rfl rfl) ?_
  refine TL.nil ?_
  exact TE.round ((i + 1, vk, e1, e2, l ++ keptO (mK lg e1 e2) (a0 % 8) a1) : (Nat) × (Value) × (Bool) × (Bool) × (List SaidT)) ⟨by omega, hvk, by rw [List.length_append]; omega⟩ (by show l0.length - (i + 1) < l0.length - i; omega)
    (Sub.r (Sub.r (Sub.r (Sub.r (Sub.r (Sub.cons rfl (by simp) (Sub.nil _)))))))
    (fun _ s => sep_keep [0, 3, 3, 0, 0, 1] rfl s)
  exact AllT.nil
  rw [show (e1 || decide (a0 % 8 = 1 ∧ a1 = 1)) = e1 by rw [decide_eq_false (show ¬ (a0 % 8 = 1 ∧ a1 = 1) by omega), Bool.or_false], show (e2 || decide (a0 % 8 = 2 ∧ a1 = 1)) = e2 by rw [decide_eq_false (show ¬ (a0 % 8 = 2 ∧ a1 = 1) by omega), Bool.or_false]]
  refine tp rfl rfl rfl (PV.move rfl rfl) ?_
  refine TL.unmet (b := false) rfl rfl rfl rfl (lb rfl) ?_
  refine TL.unmet (b := false) rfl rfl rfl rfl (lb rfl) ?_
  refine TL.unmet (b := false) rfl rfl rfl rfl (lb rfl) ?_
  refine TL.unmetU rfl rfl rfl rfl (lb rfl) ?_
  refine TL.unmetU rfl rfl rfl rfl (lb rfl) ?_
  refine TL.unmet (b := false) rfl rfl rfl rfl (lb rfl) ?_
  refine tp rfl rfl rfl (PV.pick rfl rfl rfl) ?_
  refine TL.nil ?_
  refine TE.next hK22 ?_
  clear hK22
  refine TC.no rfl ?_
  refine TC.skip ?_
  refine TE.next hK20 ?_
  clear hK20
  refine TC.seq (fun K26 hK26 => ?_)
  refine TC.draw (fun w => Frm F w ∧ w.heap[b6]? = some (.cells ([(.bool false), (.bool (e1)), (.bool (e2))]).toArray 39 (0, 0)) ∧ True) mixed rfl (fun _ s => ⟨Frm.of s, s.block 6 (lb rfl) rfl, trivial⟩) ?_
  refine TD.take (i := 0) rfl (by kernel_rfl) (by kernel_rfl) (by kernel_rfl) (fun _ _ _ _ h => h) (Want.plain rfl) rfl rfl (PV.move rfl rfl) ?_
  refine TD.take (i := 2) rfl (by kernel_rfl) (by kernel_rfl) (by kernel_rfl) (fun _ _ _ _ h => h) (Want.plain rfl) rfl rfl (PV.indexArr (r := 1) rfl Tryz.underlying39 sz4 rfl rfl (lz rfl) (lz rfl) rfl) ?_
  refine TD.take (i := 3) rfl (by kernel_rfl) (by kernel_rfl) (by kernel_rfl) (fun _ _ _ _ h => h) (Want.plain rfl) rfl rfl (PV.load1 (v := (.bool (e1))) rfl Tryz.underlying4 rfl rfl (fun _ h => h.2.1) rfl) ?_
  refine TD.decB (fun h64 => ?_) (fun h64 => ?_)
  refine TD.all [1] (by kernel_rfl) rfl ?_
  refine AllT.cons rfl ?_ ?_
  refine TL.callR (A := [blkA r (RepT.cells ({ mK lg e1 e2 with replies := vk })) 104]) (B := [own vk ((rK e1 e2).length) (ints (List.flatMap ReplyT.flat (rK e1 e2))) 92 3, outP b5 (l ++ keptO (mK lg e1 e2) (a0 % 8) a1), blkA b8 [(.int .i64 (a0)), (.int .i64 (a1))] 40, lgP lg d (((clientC (newRep 0 lg) oK []).length : Nat) : Int) ((sizeS (clientC (newRep 0 lg) oK []) : Nat) : Int), dkL d (clientC (newRep 0 lg) oK []), blkA b6 [(.bool false), (.bool (e1)), (.bool (e2))] 39]) (Want.plain rfl) rfl rfl rfl nm14 rfl (rBusyL_does r (mK lg e1 e2) vk ) (fun _ s => s) (fun _ _ _ => trivial) (fun vR HR hR => ?_)
  obtain ⟨hv, rfl⟩ := hR
  rw [mK_busy] at hv
  subst hv
  change TL _ _ _ _ _ _ _ _ _ [blkA r (RepT.cells ({ mK lg e1 e2 with replies := vk })) 104, own vk ((rK e1 e2).length) (ints (List.flatMap ReplyT.flat (rK e1 e2))) 92 3, outP b5 (l ++ keptO (mK lg e1 e2) (a0 % 8) a1), blkA b8 [(.int .i64 (a0)), (.int .i64 (a1))] 40, lgP lg d (((clientC (newRep 0 lg) oK []).length : Nat) : Int) ((sizeS (clientC (newRep 0 lg) oK []) : Nat) : Int), dkL d (clientC (newRep 0 lg) oK []), blkA b6 [(.bool false), (.bool (e1)), (.bool (e2))] 39]
  refine TL.nil ?_
  refine TE.draw (fun _ s => ⟨Frm.of s, s.block 6 (lb rfl) rfl, trivial⟩) ?_
  refine TD.take (i := 4) rfl (by kernel_rfl) (by kernel_rfl) (by kernel_rfl) (fun _ _ _ _ h => h) (Want.plain rfl) rfl rfl (PV.move rfl rfl) ?_
  refine TD.take (i := 5) rfl (by kernel_rfl) (by kernel_rfl) (by kernel_rfl) (fun _ _ _ _ h => h) (Want.met rfl rfl rfl) rfl rfl (PV.indexArr (r := 2) rfl Tryz.underlying39 sz4 rfl rfl (lz rfl) (lz rfl) rfl) ?_
  refine TD.take (i := 6) rfl (by kernel_rfl) (by kernel_rfl) (by kernel_rfl) (fun _ _ _ _ h => h) (Want.met rfl rfl rfl) rfl rfl (PV.load1 (v := (.bool (e2))) rfl Tryz.underlying4 rfl rfl (fun _ h => h.2.1) rfl) ?_
  refine TD.take (i := 7) rfl (by kernel_rfl) (by kernel_rfl) (by kernel_rfl) (fun _ _ _ _ h => h) (Want.plain rfl) rfl rfl (PV.pick rfl rfl rfl) ?_
  refine TD.take (i := 8) rfl (by kernel_rfl) (by kernel_rfl) (by kernel_rfl) (fun _ _ _ _ h => h) (Want.plain rfl) rfl rfl (PV.not rfl rfl rfl) ?_
  refine TD.take (i := 9) rfl (by kernel_rfl) (by kernel_rfl) (by kernel_rfl) (fun _ _ _ _ h => h) (Want.plain rfl) rfl rfl (PV.neqBo rfl Tryz.underlying4 rfl rfl) ?_
  refine TD.decB (fun h70 => ?_) (fun h70 => ?_)
  · exact absurd h70 (by revert h70; rw [h64]; cases e1 <;> cases e2 <;> simp)
  refine TD.done (by kernel_rfl) ?_
  refine TE.next hK26 ?_
  clear hK26
  refine TC.no rfl ?_
  refine TC.skip ?_
  refine TE.blockEnd ?_
  refine TE.next hK17 ?_
  clear hK17
  refine TC.region ?_
  refine tp rfl rfl rfl (PV.add rfl rfl rfl (wrap_i64 (by omega) (by omega))) ?_
  refine tp rfl rfl rfl (PV.move rfl rfl) ?_
  refine TL.nil ?_
  exact TE.round ((i + 1, vk, e1, e2, l ++ keptO (mK lg e1 e2) (a0 % 8) a1) : (Nat) × (Value) × (Bool) × (Bool) × (List SaidT)) ⟨by omega, hvk, by rw [List.length_append]; omega⟩ (by show l0.length - (i + 1) < l0.length - i; omega)
    (Sub.r (Sub.r (Sub.r (Sub.r (Sub.r (Sub.cons rfl (by simp) (Sub.nil _)))))))
    (fun _ s => sep_keep [0, 3, 3, 0, 0, 1] rfl s)
  exact AllT.nil
  refine TD.all [1] (by kernel_rfl) rfl ?_
  refine AllT.cons rfl ?_ ?_
  refine TL.callR (A := [blkA r (RepT.cells ({ mK lg e1 e2 with replies := vk })) 104]) (B := [own vk ((rK e1 e2).length) (ints (List.flatMap ReplyT.flat (rK e1 e2))) 92 3, outP b5 (l ++ keptO (mK lg e1 e2) (a0 % 8) a1), blkA b8 [(.int .i64 (a0)), (.int .i64 (a1))] 40, lgP lg d (((clientC (newRep 0 lg) oK []).length : Nat) : Int) ((sizeS (clientC (newRep 0 lg) oK []) : Nat) : Int), dkL d (clientC (newRep 0 lg) oK []), blkA b6 [(.bool false), (.bool (e1)), (.bool (e2))] 39]) (Want.plain rfl) rfl rfl rfl nm14 rfl (rBusyL_does r (mK lg e1 e2) vk ) (fun _ s => s) (fun _ _ _ => trivial) (fun vR HR hR => ?_)
  obtain ⟨hv, rfl⟩ := hR
  rw [mK_busy] at hv
  subst hv
  change TL _ _ _ _ _ _ _ _ _ [blkA r (RepT.cells ({ mK lg e1 e2 with replies := vk })) 104, own vk ((rK e1 e2).length) (ints (List.flatMap ReplyT.flat (rK e1 e2))) 92 3, outP b5 (l ++ keptO (mK lg e1 e2) (a0 % 8) a1), blkA b8 [(.int .i64 (a0)), (.int .i64 (a1))] 40, lgP lg d (((clientC (newRep 0 lg) oK []).length : Nat) : Int) ((sizeS (clientC (newRep 0 lg) oK []) : Nat) : Int), dkL d (clientC (newRep 0 lg) oK []), blkA b6 [(.bool false), (.bool (e1)), (.bool (e2))] 39]
  refine TL.nil ?_
  refine TE.draw (fun _ s => ⟨Frm.of s, s.block 6 (lb rfl) rfl, trivial⟩) ?_
  refine TD.take (i := 4) rfl (by kernel_rfl) (by kernel_rfl) (by kernel_rfl) (fun _ _ _ _ h => h) (Want.plain rfl) rfl rfl (PV.move rfl rfl) ?_
  refine TD.takeNot (i := 5) (b := false) rfl (by kernel_rfl) (by kernel_rfl) (by kernel_rfl) (fun _ _ _ _ h => h) rfl rfl rfl rfl rfl ?_
  refine TD.takeNot (i := 6) (b := false) rfl (by kernel_rfl) (by kernel_rfl) (by kernel_rfl) (fun _ _ _ _ h => h) rfl rfl rfl rfl rfl ?_
  refine TD.take (i := 7) rfl (by kernel_rfl) (by kernel_rfl) (by kernel_rfl) (fun _ _ _ _ h => h) (Want.plain rfl) rfl rfl (PV.pick rfl rfl rfl) ?_
  refine TD.take (i := 8) rfl (by kernel_rfl) (by kernel_rfl) (by kernel_rfl) (fun _ _ _ _ h => h) (Want.plain rfl) rfl rfl (PV.not (r := true) rfl rfl rfl) ?_
  refine TD.take (i := 9) rfl (by kernel_rfl) (by kernel_rfl) (by kernel_rfl) (fun _ _ _ _ h => h) (Want.plain rfl) rfl rfl (PV.neqBo rfl Tryz.underlying4 rfl rfl) ?_
  refine TD.decB (fun h70 => ?_) (fun h70 => ?_)
  · exact absurd h70 (by revert h70; rw [h64]; cases e1 <;> cases e2 <;> simp)
  refine TD.done (by kernel_rfl) ?_
  refine TE.next hK26 ?_
  clear hK26
  refine TC.no rfl ?_
  refine TC.skip ?_
  refine TE.blockEnd ?_
  refine TE.next hK17 ?_
  clear hK17
  refine TC.region ?_
  refine tp rfl rfl rfl (PV.add rfl rfl rfl (wrap_i64 (by omega) (by omega))) ?_
  refine tp rfl rfl rfl (PV.move rfl rfl) ?_
  refine TL.nil ?_
  exact TE.round ((i + 1, vk, e1, e2, l ++ keptO (mK lg e1 e2) (a0 % 8) a1) : (Nat) × (Value) × (Bool) × (Bool) × (List SaidT)) ⟨by omega, hvk, by rw [List.length_append]; omega⟩ (by show l0.length - (i + 1) < l0.length - i; omega)
    (Sub.r (Sub.r (Sub.r (Sub.r (Sub.r (Sub.cons rfl (by simp) (Sub.nil _)))))))
    (fun _ s => sep_keep [0, 3, 3, 0, 0, 1] rfl s)
  exact AllT.nil
  refine TL.nil ?_
  refine TE.next hK15 ?_
  clear hK15
  refine TC.seq (fun K27 hK27 => ?_)
  refine TC.no rfl ?_
  refine TC.exit ?_
  refine TE.pass ?_
  clear hK27
  refine TE.pass ?_
  refine TE.hit ?_
  refine TE.next hK13 ?_
  clear hK13
  refine TC.seq (fun K28 hK28 => ?_)
  refine TC.draw (fun w => Frm F w ∧ w.heap[b6]? = some (.cells ([(.bool false), (.bool (e1)), (.bool (e2))]).toArray 39 (0, 0)) ∧ True) mixed rfl (fun _ s => ⟨Frm.of s, s.block 5 (lb rfl) rfl, trivial⟩) ?_
  refine TD.take (i := 0) rfl (by kernel_rfl) (by kernel_rfl) (by kernel_rfl) (fun _ _ _ _ h => h) (Want.plain rfl) rfl rfl (PV.move rfl rfl) ?_
  refine TD.take (i := 7) rfl (by kernel_rfl) (by kernel_rfl) (by kernel_rfl) (fun _ _ _ _ h => h) (Want.plain rfl) rfl rfl (PV.indexArr (r := 1) rfl Tryz.underlying39 sz4 rfl rfl (lz rfl) (lz rfl) rfl) ?_
  refine TD.take (i := 8) rfl (by kernel_rfl) (by kernel_rfl) (by kernel_rfl) (fun _ _ _ _ h => h) (Want.plain rfl) rfl rfl (PV.load1 (v := (.bool (e1))) rfl Tryz.underlying4 rfl rfl (fun _ h => h.2.1) rfl) ?_
  refine TD.decB (fun h78 => ?_) (fun h78 => ?_)
  refine TD.all [1, 3] (by kernel_rfl) rfl ?_
  refine AllT.cons rfl ?_ ?_
  refine TL.callR (A := [blkA r (RepT.cells ({ mK lg e1 e2 with replies := rv })) 104, own rv ((rK e1 e2).length) (ints (List.flatMap ReplyT.flat (rK e1 e2))) 92 3]) (B := [lgP lg d (((clientC (newRep 0 lg) oK []).length : Nat) : Int) ((sizeS (clientC (newRep 0 lg) oK []) : Nat) : Int), dkL d (clientC (newRep 0 lg) oK []), outP b5 (l), blkA b6 [(.bool false), (.bool (e1)), (.bool (e2))] 39]) (Want.plain rfl) rfl rfl rfl nm15 rfl (replies_does r { (mK lg e1 e2) with replies := rv } (rK e1 e2) (by have := rK_len e1 e2; omega)) (fun _ s => sep_selR [0, 2] rfl s) (fun _ _ _ => trivial) (fun vR HR hR => ?_)
  obtain ⟨_, rfl, rfl⟩ := hR
  revert vR
  intro uc1
  change TL _ _ _ _ _ _ _ _ _ [blkA r (RepT.cells ({ mK lg e1 e2 with replies := rv })) 104, own rv ((rK e1 e2).length) (ints (List.flatMap ReplyT.flat (rK e1 e2))) 92 3, own uc1 ((rK e1 e2).length) (ints (List.flatMap ReplyT.flat (rK e1 e2))) 92 3, lgP lg d (((clientC (newRep 0 lg) oK []).length : Nat) : Int) ((sizeS (clientC (newRep 0 lg) oK []) : Nat) : Int), dkL d (clientC (newRep 0 lg) oK []), outP b5 (l), blkA b6 [(.bool false), (.bool (e1)), (.bool (e2))] 39]
  refine TL.ownLen 2 rfl rfl (fun hluc1 _ => ?_)
  refine TL.nil ?_
  refine TE.draw (fun _ s => ⟨Frm.of s, s.block 6 (lb rfl) rfl, trivial⟩) ?_
  refine TD.take (i := 2) rfl (by kernel_rfl) (by kernel_rfl) (by kernel_rfl) (fun _ _ _ _ h => h) (Want.plain rfl) rfl rfl (PV.lenV rfl Tryz.underlying55 rfl hluc1) ?_
  refine TD.take (i := 9) rfl (by kernel_rfl) (by kernel_rfl) (by kernel_rfl) (fun _ _ _ _ h => h) (Want.plain rfl) rfl rfl (PV.move rfl rfl) ?_
  refine TD.take (i := 10) rfl (by kernel_rfl) (by kernel_rfl) (by kernel_rfl) (fun _ _ _ _ h => h) (Want.met rfl rfl rfl) rfl rfl (PV.indexArr (r := 2) rfl Tryz.underlying39 sz4 rfl rfl (lz rfl) (lz rfl) rfl) ?_
  refine TD.take (i := 11) rfl (by kernel_rfl) (by kernel_rfl) (by kernel_rfl) (fun _ _ _ _ h => h) (Want.met rfl rfl rfl) rfl rfl (PV.load1 (v := (.bool (e2))) rfl Tryz.underlying4 rfl rfl (fun _ h => h.2.1) rfl) ?_
  refine TD.take (i := 12) rfl (by kernel_rfl) (by kernel_rfl) (by kernel_rfl) (fun _ _ _ _ h => h) (Want.plain rfl) rfl rfl (PV.pick rfl rfl rfl) ?_
  refine TD.all [3] (by kernel_rfl) rfl ?_
  refine AllT.cons rfl ?_ ?_
  refine TL.makeMapB (Want.plain rfl) rfl rfl rfl (fun m75 => ?_)
  change TL _ _ _ _ _ _ _ _ _ [mapB m75 [], blkA r (RepT.cells ({ mK lg e1 e2 with replies := rv })) 104, own rv ((rK e1 e2).length) (ints (List.flatMap ReplyT.flat (rK e1 e2))) 92 3, own uc1 ((rK e1 e2).length) (ints (List.flatMap ReplyT.flat (rK e1 e2))) 92 3, lgP lg d (((clientC (newRep 0 lg) oK []).length : Nat) : Int) ((sizeS (clientC (newRep 0 lg) oK []) : Nat) : Int), dkL d (clientC (newRep 0 lg) oK []), outP b5 (l), blkA b6 [(.bool false), (.bool (e1)), (.bool (e2))] 39]
  refine TL.nil ?_
  refine TE.draw (fun _ s => ⟨Frm.of s, s.block 7 (lb rfl) rfl, trivial⟩) ?_
  refine TD.all [4, 5] (by kernel_rfl) rfl ?_
  refine AllT.cons rfl ?_ ?_
  refine TL.insertB (i := 0) (H' := [mapB m75 [(true, (.int .i64 1))], blkA r (RepT.cells ({ mK lg e1 e2 with replies := rv })) 104, own rv ((rK e1 e2).length) (ints (List.flatMap ReplyT.flat (rK e1 e2))) 92 3, own uc1 ((rK e1 e2).length) (ints (List.flatMap ReplyT.flat (rK e1 e2))) 92 3, lgP lg d (((clientC (newRep 0 lg) oK []).length : Nat) : Int) ((sizeS (clientC (newRep 0 lg) oK []) : Nat) : Int), dkL d (clientC (newRep 0 lg) oK []), outP b5 (l), blkA b6 [(.bool false), (.bool (e1)), (.bool (e2))] 39]) (Want.plain rfl) rfl rfl Tryz.underlying57 Tryz.underlying4 rfl rfl rfl rfl rfl rfl rfl ?_
  refine TL.nil ?_
  refine TE.draw (fun _ s => ⟨Frm.of s, s.block 7 (lb rfl) rfl, trivial⟩) ?_
  refine TD.all [5] (by kernel_rfl) rfl ?_
  refine AllT.cons rfl ?_ ?_
  refine TL.insertB (i := 0) (H' := [mapB m75 [(true, (.int .i64 1)), (false, (.int .i64 0))], blkA r (RepT.cells ({ mK lg e1 e2 with replies := rv })) 104, own rv ((rK e1 e2).length) (ints (List.flatMap ReplyT.flat (rK e1 e2))) 92 3, own uc1 ((rK e1 e2).length) (ints (List.flatMap ReplyT.flat (rK e1 e2))) 92 3, lgP lg d (((clientC (newRep 0 lg) oK []).length : Nat) : Int) ((sizeS (clientC (newRep 0 lg) oK []) : Nat) : Int), dkL d (clientC (newRep 0 lg) oK []), outP b5 (l), blkA b6 [(.bool false), (.bool (e1)), (.bool (e2))] 39]) (Want.plain rfl) rfl rfl Tryz.underlying57 Tryz.underlying4 rfl rfl rfl rfl rfl rfl rfl ?_
  refine TL.nil ?_
  refine TE.draw (fun _ s => ⟨Frm.of s, s.block 7 (lb rfl) rfl, trivial⟩) ?_
  refine TD.take (i := 6) rfl (by kernel_rfl) (by kernel_rfl) (by kernel_rfl) (fun _ _ _ _ h => h) (Want.plain rfl) rfl rfl (PV.move rfl rfl) ?_
  refine TD.all [13] (by kernel_rfl) rfl ?_
  refine AllT.cons rfl ?_ ?_
  refine tp rfl rfl rfl (PV.lookupB (i := 0) (v := (.int .i64 ((bif e2 then 1 else 0)))) rfl Tryz.underlying57 Tryz.underlying4 z3 rfl rfl rfl rfl (by cases e2 <;> rfl)) ?_
  refine TL.nil ?_
  refine TE.draw (fun _ s => ⟨Frm.of s, s.block 7 (lb rfl) rfl, trivial⟩) ?_
  refine TD.take (i := 14) rfl (by kernel_rfl) (by kernel_rfl) (by kernel_rfl) (fun _ _ _ _ h => h) (Want.plain rfl) rfl rfl (PV.eql rfl rfl rfl) ?_
  refine TD.dec (fun h84 => ?_) (fun h84 => ?_)
  refine TD.take (i := 15) rfl (by kernel_rfl) (by kernel_rfl) (by kernel_rfl) (fun _ _ _ _ h => h) (Want.plain rfl) rfl rfl (PV.move rfl rfl) ?_
  refine TD.take (i := 16) rfl (by kernel_rfl) (by kernel_rfl) (by kernel_rfl) (fun _ _ _ _ h => h) (Want.met rfl rfl rfl) rfl rfl (PV.move rfl rfl) ?_
  refine TD.take (i := 18) rfl (by kernel_rfl) (by kernel_rfl) (by kernel_rfl) (fun _ _ _ _ h => h) (Want.met rfl rfl rfl) rfl rfl (PV.move rfl rfl) ?_
  refine TD.all [17] (by kernel_rfl) rfl ?_
  refine AllT.cons rfl ?_ ?_
  refine TL.callR (A := [blkA r (RepT.cells ({ mK lg e1 e2 with replies := rv })) 104]) (B := [mapB m75 [(true, (.int .i64 1)), (false, (.int .i64 0))], own rv ((rK e1 e2).length) (ints (List.flatMap ReplyT.flat (rK e1 e2))) 92 3, own uc1 ((rK e1 e2).length) (ints (List.flatMap ReplyT.flat (rK e1 e2))) 92 3, lgP lg d (((clientC (newRep 0 lg) oK []).length : Nat) : Int) ((sizeS (clientC (newRep 0 lg) oK []) : Nat) : Int), dkL d (clientC (newRep 0 lg) oK []), outP b5 (l), blkA b6 [(.bool false), (.bool (e1)), (.bool (e2))] 39]) (Want.met rfl rfl rfl) rfl rfl rfl nm16 rfl (rValueL_does r (mK lg e1 e2) rv 0) (fun _ s => sep_selR [1] rfl s) (fun _ _ _ => trivial) (fun vR HR hR => ?_)
  obtain ⟨hv, rfl⟩ := hR
  rw [mK_value] at hv
  subst hv
  change TL _ _ _ _ _ _ _ _ _ [blkA r (RepT.cells ({ mK lg e1 e2 with replies := rv })) 104, mapB m75 [(true, (.int .i64 1)), (false, (.int .i64 0))], own rv ((rK e1 e2).length) (ints (List.flatMap ReplyT.flat (rK e1 e2))) 92 3, own uc1 ((rK e1 e2).length) (ints (List.flatMap ReplyT.flat (rK e1 e2))) 92 3, lgP lg d (((clientC (newRep 0 lg) oK []).length : Nat) : Int) ((sizeS (clientC (newRep 0 lg) oK []) : Nat) : Int), dkL d (clientC (newRep 0 lg) oK []), outP b5 (l), blkA b6 [(.bool false), (.bool (e1)), (.bool (e2))] 39]
  refine TL.nil ?_
  refine TE.draw (fun _ s => ⟨Frm.of s, s.block 7 (lb rfl) rfl, trivial⟩) ?_
  refine TD.all [19] (by kernel_rfl) rfl ?_
  refine AllT.cons rfl ?_ ?_
  refine TL.callR (A := [blkA r (RepT.cells ({ mK lg e1 e2 with replies := rv })) 104, own rv ((rK e1 e2).length) (ints (List.flatMap ReplyT.flat (rK e1 e2))) 92 3]) (B := [mapB m75 [(true, (.int .i64 1)), (false, (.int .i64 0))], own uc1 ((rK e1 e2).length) (ints (List.flatMap ReplyT.flat (rK e1 e2))) 92 3, lgP lg d (((clientC (newRep 0 lg) oK []).length : Nat) : Int) ((sizeS (clientC (newRep 0 lg) oK []) : Nat) : Int), dkL d (clientC (newRep 0 lg) oK []), outP b5 (l), blkA b6 [(.bool false), (.bool (e1)), (.bool (e2))] 39]) (Want.met rfl rfl rfl) rfl rfl rfl nm15 rfl (replies_does r { (mK lg e1 e2) with replies := rv } (rK e1 e2) (by have := rK_len e1 e2; omega)) (fun _ s => sep_selR [0, 1] rfl s) (fun _ _ _ => trivial) (fun vR HR hR => ?_)
  obtain ⟨_, rfl, rfl⟩ := hR
  revert vR
  intro uc2
  change TL _ _ _ _ _ _ _ _ _ [blkA r (RepT.cells ({ mK lg e1 e2 with replies := rv })) 104, own rv ((rK e1 e2).length) (ints (List.flatMap ReplyT.flat (rK e1 e2))) 92 3, own uc2 ((rK e1 e2).length) (ints (List.flatMap ReplyT.flat (rK e1 e2))) 92 3, mapB m75 [(true, (.int .i64 1)), (false, (.int .i64 0))], own uc1 ((rK e1 e2).length) (ints (List.flatMap ReplyT.flat (rK e1 e2))) 92 3, lgP lg d (((clientC (newRep 0 lg) oK []).length : Nat) : Int) ((sizeS (clientC (newRep 0 lg) oK []) : Nat) : Int), dkL d (clientC (newRep 0 lg) oK []), outP b5 (l), blkA b6 [(.bool false), (.bool (e1)), (.bool (e2))] 39]
  refine TL.ownLen 2 rfl rfl (fun hluc2 _ => ?_)
  refine TL.nil ?_
  refine TE.draw (fun _ s => ⟨Frm.of s, s.block 8 (lb rfl) rfl, trivial⟩) ?_
  refine TD.take (i := 20) rfl (by kernel_rfl) (by kernel_rfl) (by kernel_rfl) (fun _ _ _ _ h => h) (Want.met rfl rfl rfl) rfl rfl (PV.lenV rfl Tryz.underlying55 rfl hluc2) ?_
  refine TD.take (i := 21) rfl (by kernel_rfl) (by kernel_rfl) (by kernel_rfl) (fun _ _ _ _ h => h) (Want.met rfl rfl rfl) rfl rfl (PV.eql rfl rfl rfl) ?_
  refine TD.take (i := 22) rfl (by kernel_rfl) (by kernel_rfl) (by kernel_rfl) (fun _ _ _ _ h => h) (Want.plain rfl) rfl rfl (PV.pick rfl rfl rfl) ?_
  refine TD.take (i := 23) rfl (by kernel_rfl) (by kernel_rfl) (by kernel_rfl) (fun _ _ _ _ h => h) (Want.plain rfl) rfl rfl (PV.assign rfl rfl) ?_
  refine TD.done (by kernel_rfl) ?_
  refine TE.next hK28 ?_
  clear hK28
  refine TC.ret ?_
  refine TE.weak (Sub.refl _) (fun _ s => sep_keep [] rfl s) ?_
  refine TE.ret1 rfl rfl ?_
  exact ⟨by first | rfl | simp, rfl⟩
  exact AllT.nil
  exact AllT.nil
  · exact absurd (by rw [h78]; cases e2 <;> rfl) h84
  exact AllT.nil
  exact AllT.nil
  refine AllT.cons rfl ?_ ?_
  refine TL.insertB (i := 0) (H' := [mapB m75 [(false, (.int .i64 0))], blkA r (RepT.cells ({ mK lg e1 e2 with replies := rv })) 104, own rv ((rK e1 e2).length) (ints (List.flatMap ReplyT.flat (rK e1 e2))) 92 3, own uc1 ((rK e1 e2).length) (ints (List.flatMap ReplyT.flat (rK e1 e2))) 92 3, lgP lg d (((clientC (newRep 0 lg) oK []).length : Nat) : Int) ((sizeS (clientC (newRep 0 lg) oK []) : Nat) : Int), dkL d (clientC (newRep 0 lg) oK []), outP b5 (l), blkA b6 [(.bool false), (.bool (e1)), (.bool (e2))] 39]) (Want.plain rfl) rfl rfl Tryz.underlying57 Tryz.underlying4 rfl rfl rfl rfl rfl rfl rfl ?_
  refine TL.nil ?_
  refine TE.draw (fun _ s => ⟨Frm.of s, s.block 7 (lb rfl) rfl, trivial⟩) ?_
  refine TD.all [4] (by kernel_rfl) rfl ?_
  refine AllT.cons rfl ?_ ?_
  refine TL.insertB (i := 0) (H' := [mapB m75 [(false, (.int .i64 0)), (true, (.int .i64 1))], blkA r (RepT.cells ({ mK lg e1 e2 with replies := rv })) 104, own rv ((rK e1 e2).length) (ints (List.flatMap ReplyT.flat (rK e1 e2))) 92 3, own uc1 ((rK e1 e2).length) (ints (List.flatMap ReplyT.flat (rK e1 e2))) 92 3, lgP lg d (((clientC (newRep 0 lg) oK []).length : Nat) : Int) ((sizeS (clientC (newRep 0 lg) oK []) : Nat) : Int), dkL d (clientC (newRep 0 lg) oK []), outP b5 (l), blkA b6 [(.bool false), (.bool (e1)), (.bool (e2))] 39]) (Want.plain rfl) rfl rfl Tryz.underlying57 Tryz.underlying4 rfl rfl rfl rfl rfl rfl rfl ?_
  refine TL.nil ?_
  refine TE.draw (fun _ s => ⟨Frm.of s, s.block 7 (lb rfl) rfl, trivial⟩) ?_
  refine TD.take (i := 6) rfl (by kernel_rfl) (by kernel_rfl) (by kernel_rfl) (fun _ _ _ _ h => h) (Want.plain rfl) rfl rfl (PV.move rfl rfl) ?_
  refine TD.all [13] (by kernel_rfl) rfl ?_
  refine AllT.cons rfl ?_ ?_
  refine tp rfl rfl rfl (PV.lookupB (i := 0) (v := (.int .i64 ((bif e2 then 1 else 0)))) rfl Tryz.underlying57 Tryz.underlying4 z3 rfl rfl rfl rfl (by cases e2 <;> rfl)) ?_
  refine TL.nil ?_
  refine TE.draw (fun _ s => ⟨Frm.of s, s.block 7 (lb rfl) rfl, trivial⟩) ?_
  refine TD.take (i := 14) rfl (by kernel_rfl) (by kernel_rfl) (by kernel_rfl) (fun _ _ _ _ h => h) (Want.plain rfl) rfl rfl (PV.eql rfl rfl rfl) ?_
  refine TD.dec (fun h84 => ?_) (fun h84 => ?_)
  refine TD.take (i := 15) rfl (by kernel_rfl) (by kernel_rfl) (by kernel_rfl) (fun _ _ _ _ h => h) (Want.plain rfl) rfl rfl (PV.move rfl rfl) ?_
  refine TD.take (i := 16) rfl (by kernel_rfl) (by kernel_rfl) (by kernel_rfl) (fun _ _ _ _ h => h) (Want.met rfl rfl rfl) rfl rfl (PV.move rfl rfl) ?_
  refine TD.take (i := 18) rfl (by kernel_rfl) (by kernel_rfl) (by kernel_rfl) (fun _ _ _ _ h => h) (Want.met rfl rfl rfl) rfl rfl (PV.move rfl rfl) ?_
  refine TD.all [17] (by kernel_rfl) rfl ?_
  refine AllT.cons rfl ?_ ?_
  refine TL.callR (A := [blkA r (RepT.cells ({ mK lg e1 e2 with replies := rv })) 104]) (B := [mapB m75 [(false, (.int .i64 0)), (true, (.int .i64 1))], own rv ((rK e1 e2).length) (ints (List.flatMap ReplyT.flat (rK e1 e2))) 92 3, own uc1 ((rK e1 e2).length) (ints (List.flatMap ReplyT.flat (rK e1 e2))) 92 3, lgP lg d (((clientC (newRep 0 lg) oK []).length : Nat) : Int) ((sizeS (clientC (newRep 0 lg) oK []) : Nat) : Int), dkL d (clientC (newRep 0 lg) oK []), outP b5 (l), blkA b6 [(.bool false), (.bool (e1)), (.bool (e2))] 39]) (Want.met rfl rfl rfl) rfl rfl rfl nm16 rfl (rValueL_does r (mK lg e1 e2) rv 0) (fun _ s => sep_selR [1] rfl s) (fun _ _ _ => trivial) (fun vR HR hR => ?_)
  obtain ⟨hv, rfl⟩ := hR
  rw [mK_value] at hv
  subst hv
  change TL _ _ _ _ _ _ _ _ _ [blkA r (RepT.cells ({ mK lg e1 e2 with replies := rv })) 104, mapB m75 [(false, (.int .i64 0)), (true, (.int .i64 1))], own rv ((rK e1 e2).length) (ints (List.flatMap ReplyT.flat (rK e1 e2))) 92 3, own uc1 ((rK e1 e2).length) (ints (List.flatMap ReplyT.flat (rK e1 e2))) 92 3, lgP lg d (((clientC (newRep 0 lg) oK []).length : Nat) : Int) ((sizeS (clientC (newRep 0 lg) oK []) : Nat) : Int), dkL d (clientC (newRep 0 lg) oK []), outP b5 (l), blkA b6 [(.bool false), (.bool (e1)), (.bool (e2))] 39]
  refine TL.nil ?_
  refine TE.draw (fun _ s => ⟨Frm.of s, s.block 7 (lb rfl) rfl, trivial⟩) ?_
  refine TD.all [19] (by kernel_rfl) rfl ?_
  refine AllT.cons rfl ?_ ?_
  refine TL.callR (A := [blkA r (RepT.cells ({ mK lg e1 e2 with replies := rv })) 104, own rv ((rK e1 e2).length) (ints (List.flatMap ReplyT.flat (rK e1 e2))) 92 3]) (B := [mapB m75 [(false, (.int .i64 0)), (true, (.int .i64 1))], own uc1 ((rK e1 e2).length) (ints (List.flatMap ReplyT.flat (rK e1 e2))) 92 3, lgP lg d (((clientC (newRep 0 lg) oK []).length : Nat) : Int) ((sizeS (clientC (newRep 0 lg) oK []) : Nat) : Int), dkL d (clientC (newRep 0 lg) oK []), outP b5 (l), blkA b6 [(.bool false), (.bool (e1)), (.bool (e2))] 39]) (Want.met rfl rfl rfl) rfl rfl rfl nm15 rfl (replies_does r { (mK lg e1 e2) with replies := rv } (rK e1 e2) (by have := rK_len e1 e2; omega)) (fun _ s => sep_selR [0, 1] rfl s) (fun _ _ _ => trivial) (fun vR HR hR => ?_)
  obtain ⟨_, rfl, rfl⟩ := hR
  revert vR
  intro uc2
  change TL _ _ _ _ _ _ _ _ _ [blkA r (RepT.cells ({ mK lg e1 e2 with replies := rv })) 104, own rv ((rK e1 e2).length) (ints (List.flatMap ReplyT.flat (rK e1 e2))) 92 3, own uc2 ((rK e1 e2).length) (ints (List.flatMap ReplyT.flat (rK e1 e2))) 92 3, mapB m75 [(false, (.int .i64 0)), (true, (.int .i64 1))], own uc1 ((rK e1 e2).length) (ints (List.flatMap ReplyT.flat (rK e1 e2))) 92 3, lgP lg d (((clientC (newRep 0 lg) oK []).length : Nat) : Int) ((sizeS (clientC (newRep 0 lg) oK []) : Nat) : Int), dkL d (clientC (newRep 0 lg) oK []), outP b5 (l), blkA b6 [(.bool false), (.bool (e1)), (.bool (e2))] 39]
  refine TL.ownLen 2 rfl rfl (fun hluc2 _ => ?_)
  refine TL.nil ?_
  refine TE.draw (fun _ s => ⟨Frm.of s, s.block 8 (lb rfl) rfl, trivial⟩) ?_
  refine TD.take (i := 20) rfl (by kernel_rfl) (by kernel_rfl) (by kernel_rfl) (fun _ _ _ _ h => h) (Want.met rfl rfl rfl) rfl rfl (PV.lenV rfl Tryz.underlying55 rfl hluc2) ?_
  refine TD.take (i := 21) rfl (by kernel_rfl) (by kernel_rfl) (by kernel_rfl) (fun _ _ _ _ h => h) (Want.met rfl rfl rfl) rfl rfl (PV.eql rfl rfl rfl) ?_
  refine TD.take (i := 22) rfl (by kernel_rfl) (by kernel_rfl) (by kernel_rfl) (fun _ _ _ _ h => h) (Want.plain rfl) rfl rfl (PV.pick rfl rfl rfl) ?_
  refine TD.take (i := 23) rfl (by kernel_rfl) (by kernel_rfl) (by kernel_rfl) (fun _ _ _ _ h => h) (Want.plain rfl) rfl rfl (PV.assign rfl rfl) ?_
  refine TD.done (by kernel_rfl) ?_
  refine TE.next hK28 ?_
  clear hK28
  refine TC.ret ?_
  refine TE.weak (Sub.refl _) (fun _ s => sep_keep [] rfl s) ?_
  refine TE.ret1 rfl rfl ?_
  exact ⟨by first | rfl | simp, rfl⟩
  exact AllT.nil
  exact AllT.nil
  · exact absurd (by rw [h78]; cases e2 <;> rfl) h84
  exact AllT.nil
  exact AllT.nil
  exact AllT.nil
  exact AllT.nil
  refine AllT.cons rfl ?_ ?_
  refine TL.makeMapB (Want.plain rfl) rfl rfl rfl (fun m75 => ?_)
  change TL _ _ _ _ _ _ _ _ _ [mapB m75 [], blkA r (RepT.cells ({ mK lg e1 e2 with replies := rv })) 104, lgP lg d (((clientC (newRep 0 lg) oK []).length : Nat) : Int) ((sizeS (clientC (newRep 0 lg) oK []) : Nat) : Int), dkL d (clientC (newRep 0 lg) oK []), own rv ((rK e1 e2).length) (ints (List.flatMap ReplyT.flat (rK e1 e2))) 92 3, outP b5 (l), blkA b6 [(.bool false), (.bool (e1)), (.bool (e2))] 39]
  refine TL.nil ?_
  refine TE.draw (fun _ s => ⟨Frm.of s, s.block 6 (lb rfl) rfl, trivial⟩) ?_
  refine TD.all [1, 4, 5] (by kernel_rfl) rfl ?_
  refine AllT.cons rfl ?_ ?_
  refine TL.callR (A := [blkA r (RepT.cells ({ mK lg e1 e2 with replies := rv })) 104, own rv ((rK e1 e2).length) (ints (List.flatMap ReplyT.flat (rK e1 e2))) 92 3]) (B := [mapB m75 [], lgP lg d (((clientC (newRep 0 lg) oK []).length : Nat) : Int) ((sizeS (clientC (newRep 0 lg) oK []) : Nat) : Int), dkL d (clientC (newRep 0 lg) oK []), outP b5 (l), blkA b6 [(.bool false), (.bool (e1)), (.bool (e2))] 39]) (Want.plain rfl) rfl rfl rfl nm15 rfl (replies_does r { (mK lg e1 e2) with replies := rv } (rK e1 e2) (by have := rK_len e1 e2; omega)) (fun _ s => sep_selR [1, 3] rfl s) (fun _ _ _ => trivial) (fun vR HR hR => ?_)
  obtain ⟨_, rfl, rfl⟩ := hR
  revert vR
  intro uc1
  change TL _ _ _ _ _ _ _ _ _ [blkA r (RepT.cells ({ mK lg e1 e2 with replies := rv })) 104, own rv ((rK e1 e2).length) (ints (List.flatMap ReplyT.flat (rK e1 e2))) 92 3, own uc1 ((rK e1 e2).length) (ints (List.flatMap ReplyT.flat (rK e1 e2))) 92 3, mapB m75 [], lgP lg d (((clientC (newRep 0 lg) oK []).length : Nat) : Int) ((sizeS (clientC (newRep 0 lg) oK []) : Nat) : Int), dkL d (clientC (newRep 0 lg) oK []), outP b5 (l), blkA b6 [(.bool false), (.bool (e1)), (.bool (e2))] 39]
  refine TL.ownLen 2 rfl rfl (fun hluc1 _ => ?_)
  refine TL.nil ?_
  refine TE.draw (fun _ s => ⟨Frm.of s, s.block 7 (lb rfl) rfl, trivial⟩) ?_
  refine TD.take (i := 2) rfl (by kernel_rfl) (by kernel_rfl) (by kernel_rfl) (fun _ _ _ _ h => h) (Want.plain rfl) rfl rfl (PV.lenV rfl Tryz.underlying55 rfl hluc1) ?_
  refine TD.take (i := 9) rfl (by kernel_rfl) (by kernel_rfl) (by kernel_rfl) (fun _ _ _ _ h => h) (Want.plain rfl) rfl rfl (PV.move rfl rfl) ?_
  refine TD.take (i := 10) rfl (by kernel_rfl) (by kernel_rfl) (by kernel_rfl) (fun _ _ _ _ h => h) (Want.met rfl rfl rfl) rfl rfl (PV.indexArr (r := 2) rfl Tryz.underlying39 sz4 rfl rfl (lz rfl) (lz rfl) rfl) ?_
  refine TD.take (i := 11) rfl (by kernel_rfl) (by kernel_rfl) (by kernel_rfl) (fun _ _ _ _ h => h) (Want.met rfl rfl rfl) rfl rfl (PV.load1 (v := (.bool (e2))) rfl Tryz.underlying4 rfl rfl (fun _ h => h.2.1) rfl) ?_
  refine TD.take (i := 12) rfl (by kernel_rfl) (by kernel_rfl) (by kernel_rfl) (fun _ _ _ _ h => h) (Want.plain rfl) rfl rfl (PV.pick rfl rfl rfl) ?_
  refine TD.all [4, 5] (by kernel_rfl) rfl ?_
  refine AllT.cons rfl ?_ ?_
  refine TL.insertB (i := 3) (H' := [blkA r (RepT.cells ({ mK lg e1 e2 with replies := rv })) 104, own rv ((rK e1 e2).length) (ints (List.flatMap ReplyT.flat (rK e1 e2))) 92 3, own uc1 ((rK e1 e2).length) (ints (List.flatMap ReplyT.flat (rK e1 e2))) 92 3, mapB m75 [(true, (.int .i64 1))], lgP lg d (((clientC (newRep 0 lg) oK []).length : Nat) : Int) ((sizeS (clientC (newRep 0 lg) oK []) : Nat) : Int), dkL d (clientC (newRep 0 lg) oK []), outP b5 (l), blkA b6 [(.bool false), (.bool (e1)), (.bool (e2))] 39]) (Want.plain rfl) rfl rfl Tryz.underlying57 Tryz.underlying4 rfl rfl rfl rfl rfl rfl rfl ?_
  refine TL.nil ?_
  refine TE.draw (fun _ s => ⟨Frm.of s, s.block 7 (lb rfl) rfl, trivial⟩) ?_
  refine TD.all [5] (by kernel_rfl) rfl ?_
  refine AllT.cons rfl ?_ ?_
  refine TL.insertB (i := 3) (H' := [blkA r (RepT.cells ({ mK lg e1 e2 with replies := rv })) 104, own rv ((rK e1 e2).length) (ints (List.flatMap ReplyT.flat (rK e1 e2))) 92 3, own uc1 ((rK e1 e2).length) (ints (List.flatMap ReplyT.flat (rK e1 e2))) 92 3, mapB m75 [(true, (.int .i64 1)), (false, (.int .i64 0))], lgP lg d (((clientC (newRep 0 lg) oK []).length : Nat) : Int) ((sizeS (clientC (newRep 0 lg) oK []) : Nat) : Int), dkL d (clientC (newRep 0 lg) oK []), outP b5 (l), blkA b6 [(.bool false), (.bool (e1)), (.bool (e2))] 39]) (Want.plain rfl) rfl rfl Tryz.underlying57 Tryz.underlying4 rfl rfl rfl rfl rfl rfl rfl ?_
  refine TL.nil ?_
  refine TE.draw (fun _ s => ⟨Frm.of s, s.block 7 (lb rfl) rfl, trivial⟩) ?_
  refine TD.take (i := 6) rfl (by kernel_rfl) (by kernel_rfl) (by kernel_rfl) (fun _ _ _ _ h => h) (Want.plain rfl) rfl rfl (PV.move rfl rfl) ?_
  refine TD.all [13] (by kernel_rfl) rfl ?_
  refine AllT.cons rfl ?_ ?_
  refine tp rfl rfl rfl (PV.lookupB (i := 3) (v := (.int .i64 ((bif e2 then 1 else 0)))) rfl Tryz.underlying57 Tryz.underlying4 z3 rfl rfl rfl rfl (by cases e2 <;> rfl)) ?_
  refine TL.nil ?_
  refine TE.draw (fun _ s => ⟨Frm.of s, s.block 7 (lb rfl) rfl, trivial⟩) ?_
  refine TD.take (i := 14) rfl (by kernel_rfl) (by kernel_rfl) (by kernel_rfl) (fun _ _ _ _ h => h) (Want.plain rfl) rfl rfl (PV.eql rfl rfl rfl) ?_
  refine TD.dec (fun h84 => ?_) (fun h84 => ?_)
  refine TD.take (i := 15) rfl (by kernel_rfl) (by kernel_rfl) (by kernel_rfl) (fun _ _ _ _ h => h) (Want.plain rfl) rfl rfl (PV.move rfl rfl) ?_
  refine TD.take (i := 16) rfl (by kernel_rfl) (by kernel_rfl) (by kernel_rfl) (fun _ _ _ _ h => h) (Want.met rfl rfl rfl) rfl rfl (PV.move rfl rfl) ?_
  refine TD.take (i := 18) rfl (by kernel_rfl) (by kernel_rfl) (by kernel_rfl) (fun _ _ _ _ h => h) (Want.met rfl rfl rfl) rfl rfl (PV.move rfl rfl) ?_
  refine TD.all [17] (by kernel_rfl) rfl ?_
  refine AllT.cons rfl ?_ ?_
  refine TL.callR (A := [blkA r (RepT.cells ({ mK lg e1 e2 with replies := rv })) 104]) (B := [own rv ((rK e1 e2).length) (ints (List.flatMap ReplyT.flat (rK e1 e2))) 92 3, own uc1 ((rK e1 e2).length) (ints (List.flatMap ReplyT.flat (rK e1 e2))) 92 3, mapB m75 [(true, (.int .i64 1)), (false, (.int .i64 0))], lgP lg d (((clientC (newRep 0 lg) oK []).length : Nat) : Int) ((sizeS (clientC (newRep 0 lg) oK []) : Nat) : Int), dkL d (clientC (newRep 0 lg) oK []), outP b5 (l), blkA b6 [(.bool false), (.bool (e1)), (.bool (e2))] 39]) (Want.met rfl rfl rfl) rfl rfl rfl nm16 rfl (rValueL_does r (mK lg e1 e2) rv 0) (fun _ s => s) (fun _ _ _ => trivial) (fun vR HR hR => ?_)
  obtain ⟨hv, rfl⟩ := hR
  rw [mK_value] at hv
  subst hv
  change TL _ _ _ _ _ _ _ _ _ [blkA r (RepT.cells ({ mK lg e1 e2 with replies := rv })) 104, own rv ((rK e1 e2).length) (ints (List.flatMap ReplyT.flat (rK e1 e2))) 92 3, own uc1 ((rK e1 e2).length) (ints (List.flatMap ReplyT.flat (rK e1 e2))) 92 3, mapB m75 [(true, (.int .i64 1)), (false, (.int .i64 0))], lgP lg d (((clientC (newRep 0 lg) oK []).length : Nat) : Int) ((sizeS (clientC (newRep 0 lg) oK []) : Nat) : Int), dkL d (clientC (newRep 0 lg) oK []), outP b5 (l), blkA b6 [(.bool false), (.bool (e1)), (.bool (e2))] 39]
  refine TL.nil ?_
  refine TE.draw (fun _ s => ⟨Frm.of s, s.block 7 (lb rfl) rfl, trivial⟩) ?_
  refine TD.all [19] (by kernel_rfl) rfl ?_
  refine AllT.cons rfl ?_ ?_
  refine TL.callR (A := [blkA r (RepT.cells ({ mK lg e1 e2 with replies := rv })) 104, own rv ((rK e1 e2).length) (ints (List.flatMap ReplyT.flat (rK e1 e2))) 92 3]) (B := [own uc1 ((rK e1 e2).length) (ints (List.flatMap ReplyT.flat (rK e1 e2))) 92 3, mapB m75 [(true, (.int .i64 1)), (false, (.int .i64 0))], lgP lg d (((clientC (newRep 0 lg) oK []).length : Nat) : Int) ((sizeS (clientC (newRep 0 lg) oK []) : Nat) : Int), dkL d (clientC (newRep 0 lg) oK []), outP b5 (l), blkA b6 [(.bool false), (.bool (e1)), (.bool (e2))] 39]) (Want.met rfl rfl rfl) rfl rfl rfl nm15 rfl (replies_does r { (mK lg e1 e2) with replies := rv } (rK e1 e2) (by have := rK_len e1 e2; omega)) (fun _ s => s) (fun _ _ _ => trivial) (fun vR HR hR => ?_)
  obtain ⟨_, rfl, rfl⟩ := hR
  revert vR
  intro uc2
  change TL _ _ _ _ _ _ _ _ _ [blkA r (RepT.cells ({ mK lg e1 e2 with replies := rv })) 104, own rv ((rK e1 e2).length) (ints (List.flatMap ReplyT.flat (rK e1 e2))) 92 3, own uc2 ((rK e1 e2).length) (ints (List.flatMap ReplyT.flat (rK e1 e2))) 92 3, own uc1 ((rK e1 e2).length) (ints (List.flatMap ReplyT.flat (rK e1 e2))) 92 3, mapB m75 [(true, (.int .i64 1)), (false, (.int .i64 0))], lgP lg d (((clientC (newRep 0 lg) oK []).length : Nat) : Int) ((sizeS (clientC (newRep 0 lg) oK []) : Nat) : Int), dkL d (clientC (newRep 0 lg) oK []), outP b5 (l), blkA b6 [(.bool false), (.bool (e1)), (.bool (e2))] 39]
  refine TL.ownLen 2 rfl rfl (fun hluc2 _ => ?_)
  refine TL.nil ?_
  refine TE.draw (fun _ s => ⟨Frm.of s, s.block 8 (lb rfl) rfl, trivial⟩) ?_
  refine TD.take (i := 20) rfl (by kernel_rfl) (by kernel_rfl) (by kernel_rfl) (fun _ _ _ _ h => h) (Want.met rfl rfl rfl) rfl rfl (PV.lenV rfl Tryz.underlying55 rfl hluc2) ?_
  refine TD.take (i := 21) rfl (by kernel_rfl) (by kernel_rfl) (by kernel_rfl) (fun _ _ _ _ h => h) (Want.met rfl rfl rfl) rfl rfl (PV.eql rfl rfl rfl) ?_
  refine TD.take (i := 22) rfl (by kernel_rfl) (by kernel_rfl) (by kernel_rfl) (fun _ _ _ _ h => h) (Want.plain rfl) rfl rfl (PV.pick rfl rfl rfl) ?_
  refine TD.take (i := 23) rfl (by kernel_rfl) (by kernel_rfl) (by kernel_rfl) (fun _ _ _ _ h => h) (Want.plain rfl) rfl rfl (PV.assign rfl rfl) ?_
  refine TD.done (by kernel_rfl) ?_
  refine TE.next hK28 ?_
  clear hK28
  refine TC.ret ?_
  refine TE.weak (Sub.refl _) (fun _ s => sep_keep [] rfl s) ?_
  refine TE.ret1 rfl rfl ?_
  exact ⟨by first | rfl | simp, rfl⟩
  exact AllT.nil
  exact AllT.nil
  · exact absurd (by rw [h78]; cases e2 <;> rfl) h84
  exact AllT.nil
  exact AllT.nil
  refine AllT.cons rfl ?_ ?_
  refine TL.insertB (i := 3) (H' := [blkA r (RepT.cells ({ mK lg e1 e2 with replies := rv })) 104, own rv ((rK e1 e2).length) (ints (List.flatMap ReplyT.flat (rK e1 e2))) 92 3, own uc1 ((rK e1 e2).length) (ints (List.flatMap ReplyT.flat (rK e1 e2))) 92 3, mapB m75 [(false, (.int .i64 0))], lgP lg d (((clientC (newRep 0 lg) oK []).length : Nat) : Int) ((sizeS (clientC (newRep 0 lg) oK []) : Nat) : Int), dkL d (clientC (newRep 0 lg) oK []), outP b5 (l), blkA b6 [(.bool false), (.bool (e1)), (.bool (e2))] 39]) (Want.plain rfl) rfl rfl Tryz.underlying57 Tryz.underlying4 rfl rfl rfl rfl rfl rfl rfl ?_
  refine TL.nil ?_
  refine TE.draw (fun _ s => ⟨Frm.of s, s.block 7 (lb rfl) rfl, trivial⟩) ?_
  refine TD.all [4] (by kernel_rfl) rfl ?_
  refine AllT.cons rfl ?_ ?_
  refine TL.insertB (i := 3) (H' := [blkA r (RepT.cells ({ mK lg e1 e2 with replies := rv })) 104, own rv ((rK e1 e2).length) (ints (List.flatMap ReplyT.flat (rK e1 e2))) 92 3, own uc1 ((rK e1 e2).length) (ints (List.flatMap ReplyT.flat (rK e1 e2))) 92 3, mapB m75 [(false, (.int .i64 0)), (true, (.int .i64 1))], lgP lg d (((clientC (newRep 0 lg) oK []).length : Nat) : Int) ((sizeS (clientC (newRep 0 lg) oK []) : Nat) : Int), dkL d (clientC (newRep 0 lg) oK []), outP b5 (l), blkA b6 [(.bool false), (.bool (e1)), (.bool (e2))] 39]) (Want.plain rfl) rfl rfl Tryz.underlying57 Tryz.underlying4 rfl rfl rfl rfl rfl rfl rfl ?_
  refine TL.nil ?_
  refine TE.draw (fun _ s => ⟨Frm.of s, s.block 7 (lb rfl) rfl, trivial⟩) ?_
  refine TD.take (i := 6) rfl (by kernel_rfl) (by kernel_rfl) (by kernel_rfl) (fun _ _ _ _ h => h) (Want.plain rfl) rfl rfl (PV.move rfl rfl) ?_
  refine TD.all [13] (by kernel_rfl) rfl ?_
  refine AllT.cons rfl ?_ ?_
  refine tp rfl rfl rfl (PV.lookupB (i := 3) (v := (.int .i64 ((bif e2 then 1 else 0)))) rfl Tryz.underlying57 Tryz.underlying4 z3 rfl rfl rfl rfl (by cases e2 <;> rfl)) ?_
  refine TL.nil ?_
  refine TE.draw (fun _ s => ⟨Frm.of s, s.block 7 (lb rfl) rfl, trivial⟩) ?_
  refine TD.take (i := 14) rfl (by kernel_rfl) (by kernel_rfl) (by kernel_rfl) (fun _ _ _ _ h => h) (Want.plain rfl) rfl rfl (PV.eql rfl rfl rfl) ?_
  refine TD.dec (fun h84 => ?_) (fun h84 => ?_)
  refine TD.take (i := 15) rfl (by kernel_rfl) (by kernel_rfl) (by kernel_rfl) (fun _ _ _ _ h => h) (Want.plain rfl) rfl rfl (PV.move rfl rfl) ?_
  refine TD.take (i := 16) rfl (by kernel_rfl) (by kernel_rfl) (by kernel_rfl) (fun _ _ _ _ h => h) (Want.met rfl rfl rfl) rfl rfl (PV.move rfl rfl) ?_
  refine TD.take (i := 18) rfl (by kernel_rfl) (by kernel_rfl) (by kernel_rfl) (fun _ _ _ _ h => h) (Want.met rfl rfl rfl) rfl rfl (PV.move rfl rfl) ?_
  refine TD.all [17] (by kernel_rfl) rfl ?_
  refine AllT.cons rfl ?_ ?_
  refine TL.callR (A := [blkA r (RepT.cells ({ mK lg e1 e2 with replies := rv })) 104]) (B := [own rv ((rK e1 e2).length) (ints (List.flatMap ReplyT.flat (rK e1 e2))) 92 3, own uc1 ((rK e1 e2).length) (ints (List.flatMap ReplyT.flat (rK e1 e2))) 92 3, mapB m75 [(false, (.int .i64 0)), (true, (.int .i64 1))], lgP lg d (((clientC (newRep 0 lg) oK []).length : Nat) : Int) ((sizeS (clientC (newRep 0 lg) oK []) : Nat) : Int), dkL d (clientC (newRep 0 lg) oK []), outP b5 (l), blkA b6 [(.bool false), (.bool (e1)), (.bool (e2))] 39]) (Want.met rfl rfl rfl) rfl rfl rfl nm16 rfl (rValueL_does r (mK lg e1 e2) rv 0) (fun _ s => s) (fun _ _ _ => trivial) (fun vR HR hR => ?_)
  obtain ⟨hv, rfl⟩ := hR
  rw [mK_value] at hv
  subst hv
  change TL _ _ _ _ _ _ _ _ _ [blkA r (RepT.cells ({ mK lg e1 e2 with replies := rv })) 104, own rv ((rK e1 e2).length) (ints (List.flatMap ReplyT.flat (rK e1 e2))) 92 3, own uc1 ((rK e1 e2).length) (ints (List.flatMap ReplyT.flat (rK e1 e2))) 92 3, mapB m75 [(false, (.int .i64 0)), (true, (.int .i64 1))], lgP lg d (((clientC (newRep 0 lg) oK []).length : Nat) : Int) ((sizeS (clientC (newRep 0 lg) oK []) : Nat) : Int), dkL d (clientC (newRep 0 lg) oK []), outP b5 (l), blkA b6 [(.bool false), (.bool (e1)), (.bool (e2))] 39]
  refine TL.nil ?_
  refine TE.draw (fun _ s => ⟨Frm.of s, s.block 7 (lb rfl) rfl, trivial⟩) ?_
  refine TD.all [19] (by kernel_rfl) rfl ?_
  refine AllT.cons rfl ?_ ?_
  refine TL.callR (A := [blkA r (RepT.cells ({ mK lg e1 e2 with replies := rv })) 104, own rv ((rK e1 e2).length) (ints (List.flatMap ReplyT.flat (rK e1 e2))) 92 3]) (B := [own uc1 ((rK e1 e2).length) (ints (List.flatMap ReplyT.flat (rK e1 e2))) 92 3, mapB m75 [(false, (.int .i64 0)), (true, (.int .i64 1))], lgP lg d (((clientC (newRep 0 lg) oK []).length : Nat) : Int) ((sizeS (clientC (newRep 0 lg) oK []) : Nat) : Int), dkL d (clientC (newRep 0 lg) oK []), outP b5 (l), blkA b6 [(.bool false), (.bool (e1)), (.bool (e2))] 39]) (Want.met rfl rfl rfl) rfl rfl rfl nm15 rfl (replies_does r { (mK lg e1 e2) with replies := rv } (rK e1 e2) (by have := rK_len e1 e2; omega)) (fun _ s => s) (fun _ _ _ => trivial) (fun vR HR hR => ?_)
  obtain ⟨_, rfl, rfl⟩ := hR
  revert vR
  intro uc2
  change TL _ _ _ _ _ _ _ _ _ [blkA r (RepT.cells ({ mK lg e1 e2 with replies := rv })) 104, own rv ((rK e1 e2).length) (ints (List.flatMap ReplyT.flat (rK e1 e2))) 92 3, own uc2 ((rK e1 e2).length) (ints (List.flatMap ReplyT.flat (rK e1 e2))) 92 3, own uc1 ((rK e1 e2).length) (ints (List.flatMap ReplyT.flat (rK e1 e2))) 92 3, mapB m75 [(false, (.int .i64 0)), (true, (.int .i64 1))], lgP lg d (((clientC (newRep 0 lg) oK []).length : Nat) : Int) ((sizeS (clientC (newRep 0 lg) oK []) : Nat) : Int), dkL d (clientC (newRep 0 lg) oK []), outP b5 (l), blkA b6 [(.bool false), (.bool (e1)), (.bool (e2))] 39]
  refine TL.ownLen 2 rfl rfl (fun hluc2 _ => ?_)
  refine TL.nil ?_
  refine TE.draw (fun _ s => ⟨Frm.of s, s.block 8 (lb rfl) rfl, trivial⟩) ?_
  refine TD.take (i := 20) rfl (by kernel_rfl) (by kernel_rfl) (by kernel_rfl) (fun _ _ _ _ h => h) (Want.met rfl rfl rfl) rfl rfl (PV.lenV rfl Tryz.underlying55 rfl hluc2) ?_
  refine TD.take (i := 21) rfl (by kernel_rfl) (by kernel_rfl) (by kernel_rfl) (fun _ _ _ _ h => h) (Want.met rfl rfl rfl) rfl rfl (PV.eql rfl rfl rfl) ?_
  refine TD.take (i := 22) rfl (by kernel_rfl) (by kernel_rfl) (by kernel_rfl) (fun _ _ _ _ h => h) (Want.plain rfl) rfl rfl (PV.pick rfl rfl rfl) ?_
  refine TD.take (i := 23) rfl (by kernel_rfl) (by kernel_rfl) (by kernel_rfl) (fun _ _ _ _ h => h) (Want.plain rfl) rfl rfl (PV.assign rfl rfl) ?_
  refine TD.done (by kernel_rfl) ?_
  refine TE.next hK28 ?_
  clear hK28
  refine TC.ret ?_
  refine TE.weak (Sub.refl _) (fun _ s => sep_keep [] rfl s) ?_
  refine TE.ret1 rfl rfl ?_
  exact ⟨by first | rfl | simp, rfl⟩
  exact AllT.nil
  exact AllT.nil
  · exact absurd (by rw [h78]; cases e2 <;> rfl) h84
  exact AllT.nil
  exact AllT.nil
  exact AllT.nil
  refine AllT.cons rfl ?_ ?_
  refine TL.insertB (i := 0) (H' := [mapB m75 [(true, (.int .i64 1))], blkA r (RepT.cells ({ mK lg e1 e2 with replies := rv })) 104, lgP lg d (((clientC (newRep 0 lg) oK []).length : Nat) : Int) ((sizeS (clientC (newRep 0 lg) oK []) : Nat) : Int), dkL d (clientC (newRep 0 lg) oK []), own rv ((rK e1 e2).length) (ints (List.flatMap ReplyT.flat (rK e1 e2))) 92 3, outP b5 (l), blkA b6 [(.bool false), (.bool (e1)), (.bool (e2))] 39]) (Want.plain rfl) rfl rfl Tryz.underlying57 Tryz.underlying4 rfl rfl rfl rfl rfl rfl rfl ?_
  refine TL.nil ?_
  refine TE.draw (fun _ s => ⟨Frm.of s, s.block 6 (lb rfl) rfl, trivial⟩) ?_
  refine TD.all [1, 5] (by kernel_rfl) rfl ?_
  refine AllT.cons rfl ?_ ?_
  refine TL.callR (A := [blkA r (RepT.cells ({ mK lg e1 e2 with replies := rv })) 104, own rv ((rK e1 e2).length) (ints (List.flatMap ReplyT.flat (rK e1 e2))) 92 3]) (B := [mapB m75 [(true, (.int .i64 1))], lgP lg d (((clientC (newRep 0 lg) oK []).length : Nat) : Int) ((sizeS (clientC (newRep 0 lg) oK []) : Nat) : Int), dkL d (clientC (newRep 0 lg) oK []), outP b5 (l), blkA b6 [(.bool false), (.bool (e1)), (.bool (e2))] 39]) (Want.plain rfl) rfl rfl rfl nm15 rfl (replies_does r { (mK lg e1 e2) with replies := rv } (rK e1 e2) (by have := rK_len e1 e2; omega)) (fun _ s => sep_selR [1, 3] rfl s) (fun _ _ _ => trivial) (fun vR HR hR => ?_)
  obtain ⟨_, rfl, rfl⟩ := hR
  revert vR
  intro uc1
  change TL _ _ _ _ _ _ _ _ _ [blkA r (RepT.cells ({ mK lg e1 e2 with replies := rv })) 104, own rv ((rK e1 e2).length) (ints (List.flatMap ReplyT.flat (rK e1 e2))) 92 3, own uc1 ((rK e1 e2).length) (ints (List.flatMap ReplyT.flat (rK e1 e2))) 92 3, mapB m75 [(true, (.int .i64 1))], lgP lg d (((clientC (newRep 0 lg) oK []).length : Nat) : Int) ((sizeS (clientC (newRep 0 lg) oK []) : Nat) : Int), dkL d (clientC (newRep 0 lg) oK []), outP b5 (l), blkA b6 [(.bool false), (.bool (e1)), (.bool (e2))] 39]
  refine TL.ownLen 2 rfl rfl (fun hluc1 _ => ?_)
  refine TL.nil ?_
  refine TE.draw (fun _ s => ⟨Frm.of s, s.block 7 (lb rfl) rfl, trivial⟩) ?_
  refine TD.take (i := 2) rfl (by kernel_rfl) (by kernel_rfl) (by kernel_rfl) (fun _ _ _ _ h => h) (Want.plain rfl) rfl rfl (PV.lenV rfl Tryz.underlying55 rfl hluc1) ?_
  refine TD.take (i := 9) rfl (by kernel_rfl) (by kernel_rfl) (by kernel_rfl) (fun _ _ _ _ h => h) (Want.plain rfl) rfl rfl (PV.move rfl rfl) ?_
  refine TD.take (i := 10) rfl (by kernel_rfl) (by kernel_rfl) (by kernel_rfl) (fun _ _ _ _ h => h) (Want.met rfl rfl rfl) rfl rfl (PV.indexArr (r := 2) rfl Tryz.underlying39 sz4 rfl rfl (lz rfl) (lz rfl) rfl) ?_
  refine TD.take (i := 11) rfl (by kernel_rfl) (by kernel_rfl) (by kernel_rfl) (fun _ _ _ _ h => h) (Want.met rfl rfl rfl) rfl rfl (PV.load1 (v := (.bool (e2))) rfl Tryz.underlying4 rfl rfl (fun _ h => h.2.1) rfl) ?_
  refine TD.take (i := 12) rfl (by kernel_rfl) (by kernel_rfl) (by kernel_rfl) (fun _ _ _ _ h => h) (Want.plain rfl) rfl rfl (PV.pick rfl rfl rfl) ?_
  refine TD.all [5] (by kernel_rfl) rfl ?_
  refine AllT.cons rfl ?_ ?_
  refine TL.insertB (i := 3) (H' := [blkA r (RepT.cells ({ mK lg e1 e2 with replies := rv })) 104, own rv ((rK e1 e2).length) (ints (List.flatMap ReplyT.flat (rK e1 e2))) 92 3, own uc1 ((rK e1 e2).length) (ints (List.flatMap ReplyT.flat (rK e1 e2))) 92 3, mapB m75 [(true, (.int .i64 1)), (false, (.int .i64 0))], lgP lg d (((clientC (newRep 0 lg) oK []).length : Nat) : Int) ((sizeS (clientC (newRep 0 lg) oK []) : Nat) : Int), dkL d (clientC (newRep 0 lg) oK []), outP b5 (l), blkA b6 [(.bool false), (.bool (e1)), (.bool (e2))] 39]) (Want.plain rfl) rfl rfl Tryz.underlying57 Tryz.underlying4 rfl rfl rfl rfl rfl rfl rfl ?_
  refine TL.nil ?_
  refine TE.draw (fun _ s => ⟨Frm.of s, s.block 7 (lb rfl) rfl, trivial⟩) ?_
  refine TD.take (i := 6) rfl (by kernel_rfl) (by kernel_rfl) (by kernel_rfl) (fun _ _ _ _ h => h) (Want.plain rfl) rfl rfl (PV.move rfl rfl) ?_
  refine TD.all [13] (by kernel_rfl) rfl ?_
  refine AllT.cons rfl ?_ ?_
  refine tp rfl rfl rfl (PV.lookupB (i := 3) (v := (.int .i64 ((bif e2 then 1 else 0)))) rfl Tryz.underlying57 Tryz.underlying4 z3 rfl rfl rfl rfl (by cases e2 <;> rfl)) ?_
  refine TL.nil ?_
  refine TE.draw (fun _ s => ⟨Frm.of s, s.block 7 (lb rfl) rfl, trivial⟩) ?_
  refine TD.take (i := 14) rfl (by kernel_rfl) (by kernel_rfl) (by kernel_rfl) (fun _ _ _ _ h => h) (Want.plain rfl) rfl rfl (PV.eql rfl rfl rfl) ?_
  refine TD.dec (fun h84 => ?_) (fun h84 => ?_)
  refine TD.take (i := 15) rfl (by kernel_rfl) (by kernel_rfl) (by kernel_rfl) (fun _ _ _ _ h => h) (Want.plain rfl) rfl rfl (PV.move rfl rfl) ?_
  refine TD.take (i := 16) rfl (by kernel_rfl) (by kernel_rfl) (by kernel_rfl) (fun _ _ _ _ h => h) (Want.met rfl rfl rfl) rfl rfl (PV.move rfl rfl) ?_
  refine TD.take (i := 18) rfl (by kernel_rfl) (by kernel_rfl) (by kernel_rfl) (fun _ _ _ _ h => h) (Want.met rfl rfl rfl) rfl rfl (PV.move rfl rfl) ?_
  refine TD.all [17] (by kernel_rfl) rfl ?_
  refine AllT.cons rfl ?_ ?_
  refine TL.callR (A := [blkA r (RepT.cells ({ mK lg e1 e2 with replies := rv })) 104]) (B := [own rv ((rK e1 e2).length) (ints (List.flatMap ReplyT.flat (rK e1 e2))) 92 3, own uc1 ((rK e1 e2).length) (ints (List.flatMap ReplyT.flat (rK e1 e2))) 92 3, mapB m75 [(true, (.int .i64 1)), (false, (.int .i64 0))], lgP lg d (((clientC (newRep 0 lg) oK []).length : Nat) : Int) ((sizeS (clientC (newRep 0 lg) oK []) : Nat) : Int), dkL d (clientC (newRep 0 lg) oK []), outP b5 (l), blkA b6 [(.bool false), (.bool (e1)), (.bool (e2))] 39]) (Want.met rfl rfl rfl) rfl rfl rfl nm16 rfl (rValueL_does r (mK lg e1 e2) rv 0) (fun _ s => s) (fun _ _ _ => trivial) (fun vR HR hR => ?_)
  obtain ⟨hv, rfl⟩ := hR
  rw [mK_value] at hv
  subst hv
  change TL _ _ _ _ _ _ _ _ _ [blkA r (RepT.cells ({ mK lg e1 e2 with replies := rv })) 104, own rv ((rK e1 e2).length) (ints (List.flatMap ReplyT.flat (rK e1 e2))) 92 3, own uc1 ((rK e1 e2).length) (ints (List.flatMap ReplyT.flat (rK e1 e2))) 92 3, mapB m75 [(true, (.int .i64 1)), (false, (.int .i64 0))], lgP lg d (((clientC (newRep 0 lg) oK []).length : Nat) : Int) ((sizeS (clientC (newRep 0 lg) oK []) : Nat) : Int), dkL d (clientC (newRep 0 lg) oK []), outP b5 (l), blkA b6 [(.bool false), (.bool (e1)), (.bool (e2))] 39]
  refine TL.nil ?_
  refine TE.draw (fun _ s => ⟨Frm.of s, s.block 7 (lb rfl) rfl, trivial⟩) ?_
  refine TD.all [19] (by kernel_rfl) rfl ?_
  refine AllT.cons rfl ?_ ?_
  refine TL.callR (A := [blkA r (RepT.cells ({ mK lg e1 e2 with replies := rv })) 104, own rv ((rK e1 e2).length) (ints (List.flatMap ReplyT.flat (rK e1 e2))) 92 3]) (B := [own uc1 ((rK e1 e2).length) (ints (List.flatMap ReplyT.flat (rK e1 e2))) 92 3, mapB m75 [(true, (.int .i64 1)), (false, (.int .i64 0))], lgP lg d (((clientC (newRep 0 lg) oK []).length : Nat) : Int) ((sizeS (clientC (newRep 0 lg) oK []) : Nat) : Int), dkL d (clientC (newRep 0 lg) oK []), outP b5 (l), blkA b6 [(.bool false), (.bool (e1)), (.bool (e2))] 39]) (Want.met rfl rfl rfl) rfl rfl rfl nm15 rfl (replies_does r { (mK lg e1 e2) with replies := rv } (rK e1 e2) (by have := rK_len e1 e2; omega)) (fun _ s => s) (fun _ _ _ => trivial) (fun vR HR hR => ?_)
  obtain ⟨_, rfl, rfl⟩ := hR
  revert vR
  intro uc2
  change TL _ _ _ _ _ _ _ _ _ [blkA r (RepT.cells ({ mK lg e1 e2 with replies := rv })) 104, own rv ((rK e1 e2).length) (ints (List.flatMap ReplyT.flat (rK e1 e2))) 92 3, own uc2 ((rK e1 e2).length) (ints (List.flatMap ReplyT.flat (rK e1 e2))) 92 3, own uc1 ((rK e1 e2).length) (ints (List.flatMap ReplyT.flat (rK e1 e2))) 92 3, mapB m75 [(true, (.int .i64 1)), (false, (.int .i64 0))], lgP lg d (((clientC (newRep 0 lg) oK []).length : Nat) : Int) ((sizeS (clientC (newRep 0 lg) oK []) : Nat) : Int), dkL d (clientC (newRep 0 lg) oK []), outP b5 (l), blkA b6 [(.bool false), (.bool (e1)), (.bool (e2))] 39]
  refine TL.ownLen 2 rfl rfl (fun hluc2 _ => ?_)
  refine TL.nil ?_
  refine TE.draw (fun _ s => ⟨Frm.of s, s.block 8 (lb rfl) rfl, trivial⟩) ?_
  refine TD.take (i := 20) rfl (by kernel_rfl) (by kernel_rfl) (by kernel_rfl) (fun _ _ _ _ h => h) (Want.met rfl rfl rfl) rfl rfl (PV.lenV rfl Tryz.underlying55 rfl hluc2) ?_
  refine TD.take (i := 21) rfl (by kernel_rfl) (by kernel_rfl) (by kernel_rfl) (fun _ _ _ _ h => h) (Want.met rfl rfl rfl) rfl rfl (PV.eql rfl rfl rfl) ?_
  refine TD.take (i := 22) rfl (by kernel_rfl) (by kernel_rfl) (by kernel_rfl) (fun _ _ _ _ h => h) (Want.plain rfl) rfl rfl (PV.pick rfl rfl rfl) ?_
  refine TD.take (i := 23) rfl (by kernel_rfl) (by kernel_rfl) (by kernel_rfl) (fun _ _ _ _ h => h) (Want.plain rfl) rfl rfl (PV.assign rfl rfl) ?_
  refine TD.done (by kernel_rfl) ?_
  refine TE.next hK28 ?_
  clear hK28
  refine TC.ret ?_
  refine TE.weak (Sub.refl _) (fun _ s => sep_keep [] rfl s) ?_
  refine TE.ret1 rfl rfl ?_
  exact ⟨by first | rfl | simp, rfl⟩
  exact AllT.nil
  exact AllT.nil
  · exact absurd (by rw [h78]; cases e2 <;> rfl) h84
  exact AllT.nil
  exact AllT.nil
  refine AllT.cons rfl ?_ ?_
  refine TL.insertB (i := 0) (H' := [mapB m75 [(true, (.int .i64 1)), (false, (.int .i64 0))], blkA r (RepT.cells ({ mK lg e1 e2 with replies := rv })) 104, lgP lg d (((clientC (newRep 0 lg) oK []).length : Nat) : Int) ((sizeS (clientC (newRep 0 lg) oK []) : Nat) : Int), dkL d (clientC (newRep 0 lg) oK []), own rv ((rK e1 e2).length) (ints (List.flatMap ReplyT.flat (rK e1 e2))) 92 3, outP b5 (l), blkA b6 [(.bool false), (.bool (e1)), (.bool (e2))] 39]) (Want.plain rfl) rfl rfl Tryz.underlying57 Tryz.underlying4 rfl rfl rfl rfl rfl rfl rfl ?_
  refine TL.nil ?_
  refine TE.draw (fun _ s => ⟨Frm.of s, s.block 6 (lb rfl) rfl, trivial⟩) ?_
  refine TD.take (i := 6) rfl (by kernel_rfl) (by kernel_rfl) (by kernel_rfl) (fun _ _ _ _ h => h) (Want.plain rfl) rfl rfl (PV.move rfl rfl) ?_
  refine TD.all [1] (by kernel_rfl) rfl ?_
  refine AllT.cons rfl ?_ ?_
  refine TL.callR (A := [blkA r (RepT.cells ({ mK lg e1 e2 with replies := rv })) 104, own rv ((rK e1 e2).length) (ints (List.flatMap ReplyT.flat (rK e1 e2))) 92 3]) (B := [mapB m75 [(true, (.int .i64 1)), (false, (.int .i64 0))], lgP lg d (((clientC (newRep 0 lg) oK []).length : Nat) : Int) ((sizeS (clientC (newRep 0 lg) oK []) : Nat) : Int), dkL d (clientC (newRep 0 lg) oK []), outP b5 (l), blkA b6 [(.bool false), (.bool (e1)), (.bool (e2))] 39]) (Want.plain rfl) rfl rfl rfl nm15 rfl (replies_does r { (mK lg e1 e2) with replies := rv } (rK e1 e2) (by have := rK_len e1 e2; omega)) (fun _ s => sep_selR [1, 3] rfl s) (fun _ _ _ => trivial) (fun vR HR hR => ?_)
  obtain ⟨_, rfl, rfl⟩ := hR
  revert vR
  intro uc1
  change TL _ _ _ _ _ _ _ _ _ [blkA r (RepT.cells ({ mK lg e1 e2 with replies := rv })) 104, own rv ((rK e1 e2).length) (ints (List.flatMap ReplyT.flat (rK e1 e2))) 92 3, own uc1 ((rK e1 e2).length) (ints (List.flatMap ReplyT.flat (rK e1 e2))) 92 3, mapB m75 [(true, (.int .i64 1)), (false, (.int .i64 0))], lgP lg d (((clientC (newRep 0 lg) oK []).length : Nat) : Int) ((sizeS (clientC (newRep 0 lg) oK []) : Nat) : Int), dkL d (clientC (newRep 0 lg) oK []), outP b5 (l), blkA b6 [(.bool false), (.bool (e1)), (.bool (e2))] 39]
  refine TL.ownLen 2 rfl rfl (fun hluc1 _ => ?_)
  refine TL.nil ?_
  refine TE.draw (fun _ s => ⟨Frm.of s, s.block 7 (lb rfl) rfl, trivial⟩) ?_
  refine TD.take (i := 2) rfl (by kernel_rfl) (by kernel_rfl) (by kernel_rfl) (fun _ _ _ _ h => h) (Want.plain rfl) rfl rfl (PV.lenV rfl Tryz.underlying55 rfl hluc1) ?_
  refine TD.take (i := 9) rfl (by kernel_rfl) (by kernel_rfl) (by kernel_rfl) (fun _ _ _ _ h => h) (Want.plain rfl) rfl rfl (PV.move rfl rfl) ?_
  refine TD.take (i := 10) rfl (by kernel_rfl) (by kernel_rfl) (by kernel_rfl) (fun _ _ _ _ h => h) (Want.met rfl rfl rfl) rfl rfl (PV.indexArr (r := 2) rfl Tryz.underlying39 sz4 rfl rfl (lz rfl) (lz rfl) rfl) ?_
  refine TD.take (i := 11) rfl (by kernel_rfl) (by kernel_rfl) (by kernel_rfl) (fun _ _ _ _ h => h) (Want.met rfl rfl rfl) rfl rfl (PV.load1 (v := (.bool (e2))) rfl Tryz.underlying4 rfl rfl (fun _ h => h.2.1) rfl) ?_
  refine TD.take (i := 12) rfl (by kernel_rfl) (by kernel_rfl) (by kernel_rfl) (fun _ _ _ _ h => h) (Want.plain rfl) rfl rfl (PV.pick rfl rfl rfl) ?_
  refine TD.all [13] (by kernel_rfl) rfl ?_
  refine AllT.cons rfl ?_ ?_
  refine tp rfl rfl rfl (PV.lookupB (i := 3) (v := (.int .i64 ((bif e2 then 1 else 0)))) rfl Tryz.underlying57 Tryz.underlying4 z3 rfl rfl rfl rfl (by cases e2 <;> rfl)) ?_
  refine TL.nil ?_
  refine TE.draw (fun _ s => ⟨Frm.of s, s.block 7 (lb rfl) rfl, trivial⟩) ?_
  refine TD.take (i := 14) rfl (by kernel_rfl) (by kernel_rfl) (by kernel_rfl) (fun _ _ _ _ h => h) (Want.plain rfl) rfl rfl (PV.eql rfl rfl rfl) ?_
  refine TD.dec (fun h84 => ?_) (fun h84 => ?_)
  refine TD.take (i := 15) rfl (by kernel_rfl) (by kernel_rfl) (by kernel_rfl) (fun _ _ _ _ h => h) (Want.plain rfl) rfl rfl (PV.move rfl rfl) ?_
  refine TD.take (i := 16) rfl (by kernel_rfl) (by kernel_rfl) (by kernel_rfl) (fun _ _ _ _ h => h) (Want.met rfl rfl rfl) rfl rfl (PV.move rfl rfl) ?_
  refine TD.take (i := 18) rfl (by kernel_rfl) (by kernel_rfl) (by kernel_rfl) (fun _ _ _ _ h => h) (Want.met rfl rfl rfl) rfl rfl (PV.move rfl rfl) ?_
  refine TD.all [17] (by kernel_rfl) rfl ?_
  refine AllT.cons rfl ?_ ?_
  refine TL.callR (A := [blkA r (RepT.cells ({ mK lg e1 e2 with replies := rv })) 104]) (B := [own rv ((rK e1 e2).length) (ints (List.flatMap ReplyT.flat (rK e1 e2))) 92 3, own uc1 ((rK e1 e2).length) (ints (List.flatMap ReplyT.flat (rK e1 e2))) 92 3, mapB m75 [(true, (.int .i64 1)), (false, (.int .i64 0))], lgP lg d (((clientC (newRep 0 lg) oK []).length : Nat) : Int) ((sizeS (clientC (newRep 0 lg) oK []) : Nat) : Int), dkL d (clientC (newRep 0 lg) oK []), outP b5 (l), blkA b6 [(.bool false), (.bool (e1)), (.bool (e2))] 39]) (Want.met rfl rfl rfl) rfl rfl rfl nm16 rfl (rValueL_does r (mK lg e1 e2) rv 0) (fun _ s => s) (fun _ _ _ => trivial) (fun vR HR hR => ?_)
  obtain ⟨hv, rfl⟩ := hR
  rw [mK_value] at hv
  subst hv
  change TL _ _ _ _ _ _ _ _ _ [blkA r (RepT.cells ({ mK lg e1 e2 with replies := rv })) 104, own rv ((rK e1 e2).length) (ints (List.flatMap ReplyT.flat (rK e1 e2))) 92 3, own uc1 ((rK e1 e2).length) (ints (List.flatMap ReplyT.flat (rK e1 e2))) 92 3, mapB m75 [(true, (.int .i64 1)), (false, (.int .i64 0))], lgP lg d (((clientC (newRep 0 lg) oK []).length : Nat) : Int) ((sizeS (clientC (newRep 0 lg) oK []) : Nat) : Int), dkL d (clientC (newRep 0 lg) oK []), outP b5 (l), blkA b6 [(.bool false), (.bool (e1)), (.bool (e2))] 39]
  refine TL.nil ?_
  refine TE.draw (fun _ s => ⟨Frm.of s, s.block 7 (lb rfl) rfl, trivial⟩) ?_
  refine TD.all [19] (by kernel_rfl) rfl ?_
  refine AllT.cons rfl ?_ ?_
  refine TL.callR (A := [blkA r (RepT.cells ({ mK lg e1 e2 with replies := rv })) 104, own rv ((rK e1 e2).length) (ints (List.flatMap ReplyT.flat (rK e1 e2))) 92 3]) (B := [own uc1 ((rK e1 e2).length) (ints (List.flatMap ReplyT.flat (rK e1 e2))) 92 3, mapB m75 [(true, (.int .i64 1)), (false, (.int .i64 0))], lgP lg d (((clientC (newRep 0 lg) oK []).length : Nat) : Int) ((sizeS (clientC (newRep 0 lg) oK []) : Nat) : Int), dkL d (clientC (newRep 0 lg) oK []), outP b5 (l), blkA b6 [(.bool false), (.bool (e1)), (.bool (e2))] 39]) (Want.met rfl rfl rfl) rfl rfl rfl nm15 rfl (replies_does r { (mK lg e1 e2) with replies := rv } (rK e1 e2) (by have := rK_len e1 e2; omega)) (fun _ s => s) (fun _ _ _ => trivial) (fun vR HR hR => ?_)
  obtain ⟨_, rfl, rfl⟩ := hR
  revert vR
  intro uc2
  change TL _ _ _ _ _ _ _ _ _ [blkA r (RepT.cells ({ mK lg e1 e2 with replies := rv })) 104, own rv ((rK e1 e2).length) (ints (List.flatMap ReplyT.flat (rK e1 e2))) 92 3, own uc2 ((rK e1 e2).length) (ints (List.flatMap ReplyT.flat (rK e1 e2))) 92 3, own uc1 ((rK e1 e2).length) (ints (List.flatMap ReplyT.flat (rK e1 e2))) 92 3, mapB m75 [(true, (.int .i64 1)), (false, (.int .i64 0))], lgP lg d (((clientC (newRep 0 lg) oK []).length : Nat) : Int) ((sizeS (clientC (newRep 0 lg) oK []) : Nat) : Int), dkL d (clientC (newRep 0 lg) oK []), outP b5 (l), blkA b6 [(.bool false), (.bool (e1)), (.bool (e2))] 39]
  refine TL.ownLen 2 rfl rfl (fun hluc2 _ => ?_)
  refine TL.nil ?_
  refine TE.draw (fun _ s => ⟨Frm.of s, s.block 8 (lb rfl) rfl, trivial⟩) ?_
  refine TD.take (i := 20) rfl (by kernel_rfl) (by kernel_rfl) (by kernel_rfl) (fun _ _ _ _ h => h) (Want.met rfl rfl rfl) rfl rfl (PV.lenV rfl Tryz.underlying55 rfl hluc2) ?_
  refine TD.take (i := 21) rfl (by kernel_rfl) (by kernel_rfl) (by kernel_rfl) (fun _ _ _ _ h => h) (Want.met rfl rfl rfl) rfl rfl (PV.eql rfl rfl rfl) ?_
  refine TD.take (i := 22) rfl (by kernel_rfl) (by kernel_rfl) (by kernel_rfl) (fun _ _ _ _ h => h) (Want.plain rfl) rfl rfl (PV.pick rfl rfl rfl) ?_
  refine TD.take (i := 23) rfl (by kernel_rfl) (by kernel_rfl) (by kernel_rfl) (fun _ _ _ _ h => h) (Want.plain rfl) rfl rfl (PV.assign rfl rfl) ?_
  refine TD.done (by kernel_rfl) ?_
  refine TE.next hK28 ?_
  clear hK28
  refine TC.ret ?_
  refine TE.weak (Sub.refl _) (fun _ s => sep_keep [] rfl s) ?_
  refine TE.ret1 rfl rfl ?_
  exact ⟨by first | rfl | simp, rfl⟩
  exact AllT.nil
  exact AllT.nil
  · exact absurd (by rw [h78]; cases e2 <;> rfl) h84
  exact AllT.nil
  exact AllT.nil
  exact AllT.nil
  refine AllT.cons rfl ?_ ?_
  refine TL.insertB (i := 0) (H' := [mapB m75 [(false, (.int .i64 0))], blkA r (RepT.cells ({ mK lg e1 e2 with replies := rv })) 104, lgP lg d (((clientC (newRep 0 lg) oK []).length : Nat) : Int) ((sizeS (clientC (newRep 0 lg) oK []) : Nat) : Int), dkL d (clientC (newRep 0 lg) oK []), own rv ((rK e1 e2).length) (ints (List.flatMap ReplyT.flat (rK e1 e2))) 92 3, outP b5 (l), blkA b6 [(.bool false), (.bool (e1)), (.bool (e2))] 39]) (Want.plain rfl) rfl rfl Tryz.underlying57 Tryz.underlying4 rfl rfl rfl rfl rfl rfl rfl ?_
  refine TL.nil ?_
  refine TE.draw (fun _ s => ⟨Frm.of s, s.block 6 (lb rfl) rfl, trivial⟩) ?_
  refine TD.all [1, 4] (by kernel_rfl) rfl ?_
  refine AllT.cons rfl ?_ ?_
  refine TL.callR (A := [blkA r (RepT.cells ({ mK lg e1 e2 with replies := rv })) 104, own rv ((rK e1 e2).length) (ints (List.flatMap ReplyT.flat (rK e1 e2))) 92 3]) (B := [mapB m75 [(false, (.int .i64 0))], lgP lg d (((clientC (newRep 0 lg) oK []).length : Nat) : Int) ((sizeS (clientC (newRep 0 lg) oK []) : Nat) : Int), dkL d (clientC (newRep 0 lg) oK []), outP b5 (l), blkA b6 [(.bool false), (.bool (e1)), (.bool (e2))] 39]) (Want.plain rfl) rfl rfl rfl nm15 rfl (replies_does r { (mK lg e1 e2) with replies := rv } (rK e1 e2) (by have := rK_len e1 e2; omega)) (fun _ s => sep_selR [1, 3] rfl s) (fun _ _ _ => trivial) (fun vR HR hR => ?_)
  obtain ⟨_, rfl, rfl⟩ := hR
  revert vR
  intro uc1
  change TL _ _ _ _ _ _ _ _ _ [blkA r (RepT.cells ({ mK lg e1 e2 with replies := rv })) 104, own rv ((rK e1 e2).length) (ints (List.flatMap ReplyT.flat (rK e1 e2))) 92 3, own uc1 ((rK e1 e2).length) (ints (List.flatMap ReplyT.flat (rK e1 e2))) 92 3, mapB m75 [(false, (.int .i64 0))], lgP lg d (((clientC (newRep 0 lg) oK []).length : Nat) : Int) ((sizeS (clientC (newRep 0 lg) oK []) : Nat) : Int), dkL d (clientC (newRep 0 lg) oK []), outP b5 (l), blkA b6 [(.bool false), (.bool (e1)), (.bool (e2))] 39]
  refine TL.ownLen 2 rfl rfl (fun hluc1 _ => ?_)
  refine TL.nil ?_
  refine TE.draw (fun _ s => ⟨Frm.of s, s.block 7 (lb rfl) rfl, trivial⟩) ?_
  refine TD.take (i := 2) rfl (by kernel_rfl) (by kernel_rfl) (by kernel_rfl) (fun _ _ _ _ h => h) (Want.plain rfl) rfl rfl (PV.lenV rfl Tryz.underlying55 rfl hluc1) ?_
  refine TD.take (i := 9) rfl (by kernel_rfl) (by kernel_rfl) (by kernel_rfl) (fun _ _ _ _ h => h) (Want.plain rfl) rfl rfl (PV.move rfl rfl) ?_
  refine TD.take (i := 10) rfl (by kernel_rfl) (by kernel_rfl) (by kernel_rfl) (fun _ _ _ _ h => h) (Want.met rfl rfl rfl) rfl rfl (PV.indexArr (r := 2) rfl Tryz.underlying39 sz4 rfl rfl (lz rfl) (lz rfl) rfl) ?_
  refine TD.take (i := 11) rfl (by kernel_rfl) (by kernel_rfl) (by kernel_rfl) (fun _ _ _ _ h => h) (Want.met rfl rfl rfl) rfl rfl (PV.load1 (v := (.bool (e2))) rfl Tryz.underlying4 rfl rfl (fun _ h => h.2.1) rfl) ?_
  refine TD.take (i := 12) rfl (by kernel_rfl) (by kernel_rfl) (by kernel_rfl) (fun _ _ _ _ h => h) (Want.plain rfl) rfl rfl (PV.pick rfl rfl rfl) ?_
  refine TD.all [4] (by kernel_rfl) rfl ?_
  refine AllT.cons rfl ?_ ?_
  refine TL.insertB (i := 3) (H' := [blkA r (RepT.cells ({ mK lg e1 e2 with replies := rv })) 104, own rv ((rK e1 e2).length) (ints (List.flatMap ReplyT.flat (rK e1 e2))) 92 3, own uc1 ((rK e1 e2).length) (ints (List.flatMap ReplyT.flat (rK e1 e2))) 92 3, mapB m75 [(false, (.int .i64 0)), (true, (.int .i64 1))], lgP lg d (((clientC (newRep 0 lg) oK []).length : Nat) : Int) ((sizeS (clientC (newRep 0 lg) oK []) : Nat) : Int), dkL d (clientC (newRep 0 lg) oK []), outP b5 (l), blkA b6 [(.bool false), (.bool (e1)), (.bool (e2))] 39]) (Want.plain rfl) rfl rfl Tryz.underlying57 Tryz.underlying4 rfl rfl rfl rfl rfl rfl rfl ?_
  refine TL.nil ?_
  refine TE.draw (fun _ s => ⟨Frm.of s, s.block 7 (lb rfl) rfl, trivial⟩) ?_
  refine TD.take (i := 6) rfl (by kernel_rfl) (by kernel_rfl) (by kernel_rfl) (fun _ _ _ _ h => h) (Want.plain rfl) rfl rfl (PV.move rfl rfl) ?_
  refine TD.all [13] (by kernel_rfl) rfl ?_
  refine AllT.cons rfl ?_ ?_
  refine tp rfl rfl rfl (PV.lookupB (i := 3) (v := (.int .i64 ((bif e2 then 1 else 0)))) rfl Tryz.underlying57 Tryz.underlying4 z3 rfl rfl rfl rfl (by cases e2 <;> rfl)) ?_
  refine TL.nil ?_
  refine TE.draw (fun _ s => ⟨Frm.of s, s.block 7 (lb rfl) rfl, trivial⟩) ?_
  refine TD.take (i := 14) rfl (by kernel_rfl) (by kernel_rfl) (by kernel_rfl) (fun _ _ _ _ h => h) (Want.plain rfl) rfl rfl (PV.eql rfl rfl rfl) ?_
  refine TD.dec (fun h84 => ?_) (fun h84 => ?_)
  refine TD.take (i := 15) rfl (by kernel_rfl) (by kernel_rfl) (by kernel_rfl) (fun _ _ _ _ h => h) (Want.plain rfl) rfl rfl (PV.move rfl rfl) ?_
  refine TD.take (i := 16) rfl (by kernel_rfl) (by kernel_rfl) (by kernel_rfl) (fun _ _ _ _ h => h) (Want.met rfl rfl rfl) rfl rfl (PV.move rfl rfl) ?_
  refine TD.take (i := 18) rfl (by kernel_rfl) (by kernel_rfl) (by kernel_rfl) (fun _ _ _ _ h => h) (Want.met rfl rfl rfl) rfl rfl (PV.move rfl rfl) ?_
  refine TD.all [17] (by kernel_rfl) rfl ?_
  refine AllT.cons rfl ?_ ?_
  refine TL.callR (A := [blkA r (RepT.cells ({ mK lg e1 e2 with replies := rv })) 104]) (B := [own rv ((rK e1 e2).length) (ints (List.flatMap ReplyT.flat (rK e1 e2))) 92 3, own uc1 ((rK e1 e2).length) (ints (List.flatMap ReplyT.flat (rK e1 e2))) 92 3, mapB m75 [(false, (.int .i64 0)), (true, (.int .i64 1))], lgP lg d (((clientC (newRep 0 lg) oK []).length : Nat) : Int) ((sizeS (clientC (newRep 0 lg) oK []) : Nat) : Int), dkL d (clientC (newRep 0 lg) oK []), outP b5 (l), blkA b6 [(.bool false), (.bool (e1)), (.bool (e2))] 39]) (Want.met rfl rfl rfl) rfl rfl rfl nm16 rfl (rValueL_does r (mK lg e1 e2) rv 0) (fun _ s => s) (fun _ _ _ => trivial) (fun vR HR hR => ?_)
  obtain ⟨hv, rfl⟩ := hR
  rw [mK_value] at hv
  subst hv
  change TL _ _ _ _ _ _ _ _ _ [blkA r (RepT.cells ({ mK lg e1 e2 with replies := rv })) 104, own rv ((rK e1 e2).length) (ints (List.flatMap ReplyT.flat (rK e1 e2))) 92 3, own uc1 ((rK e1 e2).length) (ints (List.flatMap ReplyT.flat (rK e1 e2))) 92 3, mapB m75 [(false, (.int .i64 0)), (true, (.int .i64 1))], lgP lg d (((clientC (newRep 0 lg) oK []).length : Nat) : Int) ((sizeS (clientC (newRep 0 lg) oK []) : Nat) : Int), dkL d (clientC (newRep 0 lg) oK []), outP b5 (l), blkA b6 [(.bool false), (.bool (e1)), (.bool (e2))] 39]
  refine TL.nil ?_
  refine TE.draw (fun _ s => ⟨Frm.of s, s.block 7 (lb rfl) rfl, trivial⟩) ?_
  refine TD.all [19] (by kernel_rfl) rfl ?_
  refine AllT.cons rfl ?_ ?_
  refine TL.callR (A := [blkA r (RepT.cells ({ mK lg e1 e2 with replies := rv })) 104, own rv ((rK e1 e2).length) (ints (List.flatMap ReplyT.flat (rK e1 e2))) 92 3]) (B := [own uc1 ((rK e1 e2).length) (ints (List.flatMap ReplyT.flat (rK e1 e2))) 92 3, mapB m75 [(false, (.int .i64 0)), (true, (.int .i64 1))], lgP lg d (((clientC (newRep 0 lg) oK []).length : Nat) : Int) ((sizeS (clientC (newRep 0 lg) oK []) : Nat) : Int), dkL d (clientC (newRep 0 lg) oK []), outP b5 (l), blkA b6 [(.bool false), (.bool (e1)), (.bool (e2))] 39]) (Want.met rfl rfl rfl) rfl rfl rfl nm15 rfl (replies_does r { (mK lg e1 e2) with replies := rv } (rK e1 e2) (by have := rK_len e1 e2; omega)) (fun _ s => s) (fun _ _ _ => trivial) (fun vR HR hR => ?_)
  obtain ⟨_, rfl, rfl⟩ := hR
  revert vR
  intro uc2
  change TL _ _ _ _ _ _ _ _ _ [blkA r (RepT.cells ({ mK lg e1 e2 with replies := rv })) 104, own rv ((rK e1 e2).length) (ints (List.flatMap ReplyT.flat (rK e1 e2))) 92 3, own uc2 ((rK e1 e2).length) (ints (List.flatMap ReplyT.flat (rK e1 e2))) 92 3, own uc1 ((rK e1 e2).length) (ints (List.flatMap ReplyT.flat (rK e1 e2))) 92 3, mapB m75 [(false, (.int .i64 0)), (true, (.int .i64 1))], lgP lg d (((clientC (newRep 0 lg) oK []).length : Nat) : Int) ((sizeS (clientC (newRep 0 lg) oK []) : Nat) : Int), dkL d (clientC (newRep 0 lg) oK []), outP b5 (l), blkA b6 [(.bool false), (.bool (e1)), (.bool (e2))] 39]
  refine TL.ownLen 2 rfl rfl (fun hluc2 _ => ?_)
  refine TL.nil ?_
  refine TE.draw (fun _ s => ⟨Frm.of s, s.block 8 (lb rfl) rfl, trivial⟩) ?_
  refine TD.take (i := 20) rfl (by kernel_rfl) (by kernel_rfl) (by kernel_rfl) (fun _ _ _ _ h => h) (Want.met rfl rfl rfl) rfl rfl (PV.lenV rfl Tryz.underlying55 rfl hluc2) ?_
  refine TD.take (i := 21) rfl (by kernel_rfl) (by kernel_rfl) (by kernel_rfl) (fun _ _ _ _ h => h) (Want.met rfl rfl rfl) rfl rfl (PV.eql rfl rfl rfl) ?_
  refine TD.take (i := 22) rfl (by kernel_rfl) (by kernel_rfl) (by kernel_rfl) (fun _ _ _ _ h => h) (Want.plain rfl) rfl rfl (PV.pick rfl rfl rfl) ?_
  refine TD.take (i := 23) rfl (by kernel_rfl) (by kernel_rfl) (by kernel_rfl) (fun _ _ _ _ h => h) (Want.plain rfl) rfl rfl (PV.assign rfl rfl) ?_
  refine TD.done (by kernel_rfl) ?_
  refine TE.next hK28 ?_
  clear hK28
  refine TC.ret ?_
  refine TE.weak (Sub.refl _) (fun _ s => sep_keep [] rfl s) ?_
  refine TE.ret1 rfl rfl ?_
  exact ⟨by first | rfl | simp, rfl⟩
  exact AllT.nil
  exact AllT.nil
  · exact absurd (by rw [h78]; cases e2 <;> rfl) h84
  exact AllT.nil
  exact AllT.nil
  refine AllT.cons rfl ?_ ?_
  refine TL.insertB (i := 0) (H' := [mapB m75 [(false, (.int .i64 0)), (true, (.int .i64 1))], blkA r (RepT.cells ({ mK lg e1 e2 with replies := rv })) 104, lgP lg d (((clientC (newRep 0 lg) oK []).length : Nat) : Int) ((sizeS (clientC (newRep 0 lg) oK []) : Nat) : Int), dkL d (clientC (newRep 0 lg) oK []), own rv ((rK e1 e2).length) (ints (List.flatMap ReplyT.flat (rK e1 e2))) 92 3, outP b5 (l), blkA b6 [(.bool false), (.bool (e1)), (.bool (e2))] 39]) (Want.plain rfl) rfl rfl Tryz.underlying57 Tryz.underlying4 rfl rfl rfl rfl rfl rfl rfl ?_
  refine TL.nil ?_
  refine TE.draw (fun _ s => ⟨Frm.of s, s.block 6 (lb rfl) rfl, trivial⟩) ?_
  refine TD.take (i := 6) rfl (by kernel_rfl) (by kernel_rfl) (by kernel_rfl) (fun _ _ _ _ h => h) (Want.plain rfl) rfl rfl (PV.move rfl rfl) ?_
  refine TD.all [1] (by kernel_rfl) rfl ?_
  refine AllT.cons rfl ?_ ?_
  refine TL.callR (A := [blkA r (RepT.cells ({ mK lg e1 e2 with replies := rv })) 104, own rv ((rK e1 e2).length) (ints (List.flatMap ReplyT.flat (rK e1 e2))) 92 3]) (B := [mapB m75 [(false, (.int .i64 0)), (true, (.int .i64 1))], lgP lg d (((clientC (newRep 0 lg) oK []).length : Nat) : Int) ((sizeS (clientC (newRep 0 lg) oK []) : Nat) : Int), dkL d (clientC (newRep 0 lg) oK []), outP b5 (l), blkA b6 [(.bool false), (.bool (e1)), (.bool (e2))] 39]) (Want.plain rfl) rfl rfl rfl nm15 rfl (replies_does r { (mK lg e1 e2) with replies := rv } (rK e1 e2) (by have := rK_len e1 e2; omega)) (fun _ s => sep_selR [1, 3] rfl s) (fun _ _ _ => trivial) (fun vR HR hR => ?_)
  obtain ⟨_, rfl, rfl⟩ := hR
  revert vR
  intro uc1
  change TL _ _ _ _ _ _ _ _ _ [blkA r (RepT.cells ({ mK lg e1 e2 with replies := rv })) 104, own rv ((rK e1 e2).length) (ints (List.flatMap ReplyT.flat (rK e1 e2))) 92 3, own uc1 ((rK e1 e2).length) (ints (List.flatMap ReplyT.flat (rK e1 e2))) 92 3, mapB m75 [(false, (.int .i64 0)), (true, (.int .i64 1))], lgP lg d (((clientC (newRep 0 lg) oK []).length : Nat) : Int) ((sizeS (clientC (newRep 0 lg) oK []) : Nat) : Int), dkL d (clientC (newRep 0 lg) oK []), outP b5 (l), blkA b6 [(.bool false), (.bool (e1)), (.bool (e2))] 39]
  refine TL.ownLen 2 rfl rfl (fun hluc1 _ => ?_)
  refine TL.nil ?_
  refine TE.draw (fun _ s => ⟨Frm.of s, s.block 7 (lb rfl) rfl, trivial⟩) ?_
  refine TD.take (i := 2) rfl (by kernel_rfl) (by kernel_rfl) (by kernel_rfl) (fun _ _ _ _ h => h) (Want.plain rfl) rfl rfl (PV.lenV rfl Tryz.underlying55 rfl hluc1) ?_
  refine TD.take (i := 9) rfl (by kernel_rfl) (by kernel_rfl) (by kernel_rfl) (fun _ _ _ _ h => h) (Want.plain rfl) rfl rfl (PV.move rfl rfl) ?_
  refine TD.take (i := 10) rfl (by kernel_rfl) (by kernel_rfl) (by kernel_rfl) (fun _ _ _ _ h => h) (Want.met rfl rfl rfl) rfl rfl (PV.indexArr (r := 2) rfl Tryz.underlying39 sz4 rfl rfl (lz rfl) (lz rfl) rfl) ?_
  refine TD.take (i := 11) rfl (by kernel_rfl) (by kernel_rfl) (by kernel_rfl) (fun _ _ _ _ h => h) (Want.met rfl rfl rfl) rfl rfl (PV.load1 (v := (.bool (e2))) rfl Tryz.underlying4 rfl rfl (fun _ h => h.2.1) rfl) ?_
  refine TD.take (i := 12) rfl (by kernel_rfl) (by kernel_rfl) (by kernel_rfl) (fun _ _ _ _ h => h) (Want.plain rfl) rfl rfl (PV.pick rfl rfl rfl) ?_
  refine TD.all [13] (by kernel_rfl) rfl ?_
  refine AllT.cons rfl ?_ ?_
  refine tp rfl rfl rfl (PV.lookupB (i := 3) (v := (.int .i64 ((bif e2 then 1 else 0)))) rfl Tryz.underlying57 Tryz.underlying4 z3 rfl rfl rfl rfl (by cases e2 <;> rfl)) ?_
  refine TL.nil ?_
  refine TE.draw (fun _ s => ⟨Frm.of s, s.block 7 (lb rfl) rfl, trivial⟩) ?_
  refine TD.take (i := 14) rfl (by kernel_rfl) (by kernel_rfl) (by kernel_rfl) (fun _ _ _ _ h => h) (Want.plain rfl) rfl rfl (PV.eql rfl rfl rfl) ?_
  refine TD.dec (fun h84 => ?_) (fun h84 => ?_)
  refine TD.take (i := 15) rfl (by kernel_rfl) (by kernel_rfl) (by kernel_rfl) (fun _ _ _ _ h => h) (Want.plain rfl) rfl rfl (PV.move rfl rfl) ?_
  refine TD.take (i := 16) rfl (by kernel_rfl) (by kernel_rfl) (by kernel_rfl) (fun _ _ _ _ h => h) (Want.met rfl rfl rfl) rfl rfl (PV.move rfl rfl) ?_
  refine TD.take (i := 18) rfl (by kernel_rfl) (by kernel_rfl) (by kernel_rfl) (fun _ _ _ _ h => h) (Want.met rfl rfl rfl) rfl rfl (PV.move rfl rfl) ?_
  refine TD.all [17] (by kernel_rfl) rfl ?_
  refine AllT.cons rfl ?_ ?_
  refine TL.callR (A := [blkA r (RepT.cells ({ mK lg e1 e2 with replies := rv })) 104]) (B := [own rv ((rK e1 e2).length) (ints (List.flatMap ReplyT.flat (rK e1 e2))) 92 3, own uc1 ((rK e1 e2).length) (ints (List.flatMap ReplyT.flat (rK e1 e2))) 92 3, mapB m75 [(false, (.int .i64 0)), (true, (.int .i64 1))], lgP lg d (((clientC (newRep 0 lg) oK []).length : Nat) : Int) ((sizeS (clientC (newRep 0 lg) oK []) : Nat) : Int), dkL d (clientC (newRep 0 lg) oK []), outP b5 (l), blkA b6 [(.bool false), (.bool (e1)), (.bool (e2))] 39]) (Want.met rfl rfl rfl) rfl rfl rfl nm16 rfl (rValueL_does r (mK lg e1 e2) rv 0) (fun _ s => s) (fun _ _ _ => trivial) (fun vR HR hR => ?_)
  obtain ⟨hv, rfl⟩ := hR
  rw [mK_value] at hv
  subst hv
  change TL _ _ _ _ _ _ _ _ _ [blkA r (RepT.cells ({ mK lg e1 e2 with replies := rv })) 104, own rv ((rK e1 e2).length) (ints (List.flatMap ReplyT.flat (rK e1 e2))) 92 3, own uc1 ((rK e1 e2).length) (ints (List.flatMap ReplyT.flat (rK e1 e2))) 92 3, mapB m75 [(false, (.int .i64 0)), (true, (.int .i64 1))], lgP lg d (((clientC (newRep 0 lg) oK []).length : Nat) : Int) ((sizeS (clientC (newRep 0 lg) oK []) : Nat) : Int), dkL d (clientC (newRep 0 lg) oK []), outP b5 (l), blkA b6 [(.bool false), (.bool (e1)), (.bool (e2))] 39]
  refine TL.nil ?_
  refine TE.draw (fun _ s => ⟨Frm.of s, s.block 7 (lb rfl) rfl, trivial⟩) ?_
  refine TD.all [19] (by kernel_rfl) rfl ?_
  refine AllT.cons rfl ?_ ?_
  refine TL.callR (A := [blkA r (RepT.cells ({ mK lg e1 e2 with replies := rv })) 104, own rv ((rK e1 e2).length) (ints (List.flatMap ReplyT.flat (rK e1 e2))) 92 3]) (B := [own uc1 ((rK e1 e2).length) (ints (List.flatMap ReplyT.flat (rK e1 e2))) 92 3, mapB m75 [(false, (.int .i64 0)), (true, (.int .i64 1))], lgP lg d (((clientC (newRep 0 lg) oK []).length : Nat) : Int) ((sizeS (clientC (newRep 0 lg) oK []) : Nat) : Int), dkL d (clientC (newRep 0 lg) oK []), outP b5 (l), blkA b6 [(.bool false), (.bool (e1)), (.bool (e2))] 39]) (Want.met rfl rfl rfl) rfl rfl rfl nm15 rfl (replies_does r { (mK lg e1 e2) with replies := rv } (rK e1 e2) (by have := rK_len e1 e2; omega)) (fun _ s => s) (fun _ _ _ => trivial) (fun vR HR hR => ?_)
  obtain ⟨_, rfl, rfl⟩ := hR
  revert vR
  intro uc2
  change TL _ _ _ _ _ _ _ _ _ [blkA r (RepT.cells ({ mK lg e1 e2 with replies := rv })) 104, own rv ((rK e1 e2).length) (ints (List.flatMap ReplyT.flat (rK e1 e2))) 92 3, own uc2 ((rK e1 e2).length) (ints (List.flatMap ReplyT.flat (rK e1 e2))) 92 3, own uc1 ((rK e1 e2).length) (ints (List.flatMap ReplyT.flat (rK e1 e2))) 92 3, mapB m75 [(false, (.int .i64 0)), (true, (.int .i64 1))], lgP lg d (((clientC (newRep 0 lg) oK []).length : Nat) : Int) ((sizeS (clientC (newRep 0 lg) oK []) : Nat) : Int), dkL d (clientC (newRep 0 lg) oK []), outP b5 (l), blkA b6 [(.bool false), (.bool (e1)), (.bool (e2))] 39]
  refine TL.ownLen 2 rfl rfl (fun hluc2 _ => ?_)
  refine TL.nil ?_
  refine TE.draw (fun _ s => ⟨Frm.of s, s.block 8 (lb rfl) rfl, trivial⟩) ?_
  refine TD.take (i := 20) rfl (by kernel_rfl) (by kernel_rfl) (by kernel_rfl) (fun _ _ _ _ h => h) (Want.met rfl rfl rfl) rfl rfl (PV.lenV rfl Tryz.underlying55 rfl hluc2) ?_
  refine TD.take (i := 21) rfl (by kernel_rfl) (by kernel_rfl) (by kernel_rfl) (fun _ _ _ _ h => h) (Want.met rfl rfl rfl) rfl rfl (PV.eql rfl rfl rfl) ?_
  refine TD.take (i := 22) rfl (by kernel_rfl) (by kernel_rfl) (by kernel_rfl) (fun _ _ _ _ h => h) (Want.plain rfl) rfl rfl (PV.pick rfl rfl rfl) ?_
  refine TD.take (i := 23) rfl (by kernel_rfl) (by kernel_rfl) (by kernel_rfl) (fun _ _ _ _ h => h) (Want.plain rfl) rfl rfl (PV.assign rfl rfl) ?_
  refine TD.done (by kernel_rfl) ?_
  refine TE.next hK28 ?_
  clear hK28
  refine TC.ret ?_
  refine TE.weak (Sub.refl _) (fun _ s => sep_keep [] rfl s) ?_
  refine TE.ret1 rfl rfl ?_
  exact ⟨by first | rfl | simp, rfl⟩
  exact AllT.nil
  exact AllT.nil
  · exact absurd (by rw [h78]; cases e2 <;> rfl) h84
  exact AllT.nil
  exact AllT.nil
  exact AllT.nil
  exact AllT.nil
  exact AllT.nil
  refine TD.all [1, 3] (by kernel_rfl) rfl ?_
  refine AllT.cons rfl ?_ ?_
  refine TL.callR (A := [blkA r (RepT.cells ({ mK lg e1 e2 with replies := rv })) 104, own rv ((rK e1 e2).length) (ints (List.flatMap ReplyT.flat (rK e1 e2))) 92 3]) (B := [lgP lg d (((clientC (newRep 0 lg) oK []).length : Nat) : Int) ((sizeS (clientC (newRep 0 lg) oK []) : Nat) : Int), dkL d (clientC (newRep 0 lg) oK []), outP b5 (l), blkA b6 [(.bool false), (.bool (e1)), (.bool (e2))] 39]) (Want.plain rfl) rfl rfl rfl nm15 rfl (replies_does r { (mK lg e1 e2) with replies := rv } (rK e1 e2) (by have := rK_len e1 e2; omega)) (fun _ s => sep_selR [0, 2] rfl s) (fun _ _ _ => trivial) (fun vR HR hR => ?_)
  obtain ⟨_, rfl, rfl⟩ := hR
  revert vR
  intro uc1
  change TL _ _ _ _ _ _ _ _ _ [blkA r (RepT.cells ({ mK lg e1 e2 with replies := rv })) 104, own rv ((rK e1 e2).length) (ints (List.flatMap ReplyT.flat (rK e1 e2))) 92 3, own uc1 ((rK e1 e2).length) (ints (List.flatMap ReplyT.flat (rK e1 e2))) 92 3, lgP lg d (((clientC (newRep 0 lg) oK []).length : Nat) : Int) ((sizeS (clientC (newRep 0 lg) oK []) : Nat) : Int), dkL d (clientC (newRep 0 lg) oK []), outP b5 (l), blkA b6 [(.bool false), (.bool (e1)), (.bool (e2))] 39]
  refine TL.ownLen 2 rfl rfl (fun hluc1 _ => ?_)
  refine TL.nil ?_
  refine TE.draw (fun _ s => ⟨Frm.of s, s.block 6 (lb rfl) rfl, trivial⟩) ?_
  refine TD.take (i := 2) rfl (by kernel_rfl) (by kernel_rfl) (by kernel_rfl) (fun _ _ _ _ h => h) (Want.plain rfl) rfl rfl (PV.lenV rfl Tryz.underlying55 rfl hluc1) ?_
  refine TD.take (i := 9) rfl (by kernel_rfl) (by kernel_rfl) (by kernel_rfl) (fun _ _ _ _ h => h) (Want.plain rfl) rfl rfl (PV.move rfl rfl) ?_
  refine TD.takeNot (i := 10) (b := false) rfl (by kernel_rfl) (by kernel_rfl) (by kernel_rfl) (fun _ _ _ _ h => h) rfl rfl rfl rfl rfl ?_
  refine TD.takeNot (i := 11) (b := false) rfl (by kernel_rfl) (by kernel_rfl) (by kernel_rfl) (fun _ _ _ _ h => h) rfl rfl rfl rfl rfl ?_
  refine TD.take (i := 12) rfl (by kernel_rfl) (by kernel_rfl) (by kernel_rfl) (fun _ _ _ _ h => h) (Want.plain rfl) rfl rfl (PV.pick rfl rfl rfl) ?_
  refine TD.all [3] (by kernel_rfl) rfl ?_
  refine AllT.cons rfl ?_ ?_
  refine TL.makeMapB (Want.plain rfl) rfl rfl rfl (fun m75 => ?_)
  change TL _ _ _ _ _ _ _ _ _ [mapB m75 [], blkA r (RepT.cells ({ mK lg e1 e2 with replies := rv })) 104, own rv ((rK e1 e2).length) (ints (List.flatMap ReplyT.flat (rK e1 e2))) 92 3, own uc1 ((rK e1 e2).length) (ints (List.flatMap ReplyT.flat (rK e1 e2))) 92 3, lgP lg d (((clientC (newRep 0 lg) oK []).length : Nat) : Int) ((sizeS (clientC (newRep 0 lg) oK []) : Nat) : Int), dkL d (clientC (newRep 0 lg) oK []), outP b5 (l), blkA b6 [(.bool false), (.bool (e1)), (.bool (e2))] 39]
  refine TL.nil ?_
  refine TE.draw (fun _ s => ⟨Frm.of s, s.block 7 (lb rfl) rfl, trivial⟩) ?_
  refine TD.all [4, 5] (by kernel_rfl) rfl ?_
  refine AllT.cons rfl ?_ ?_
  refine TL.insertB (i := 0) (H' := [mapB m75 [(true, (.int .i64 1))], blkA r (RepT.cells ({ mK lg e1 e2 with replies := rv })) 104, own rv ((rK e1 e2).length) (ints (List.flatMap ReplyT.flat (rK e1 e2))) 92 3, own uc1 ((rK e1 e2).length) (ints (List.flatMap ReplyT.flat (rK e1 e2))) 92 3, lgP lg d (((clientC (newRep 0 lg) oK []).length : Nat) : Int) ((sizeS (clientC (newRep 0 lg) oK []) : Nat) : Int), dkL d (clientC (newRep 0 lg) oK []), outP b5 (l), blkA b6 [(.bool false), (.bool (e1)), (.bool (e2))] 39]) (Want.plain rfl) rfl rfl Tryz.underlying57 Tryz.underlying4 rfl rfl rfl rfl rfl rfl rfl ?_
  refine TL.nil ?_
  refine TE.draw (fun _ s => ⟨Frm.of s, s.block 7 (lb rfl) rfl, trivial⟩) ?_
  refine TD.all [5] (by kernel_rfl) rfl ?_
  refine AllT.cons rfl ?_ ?_
  refine TL.insertB (i := 0) (H' := [mapB m75 [(true, (.int .i64 1)), (false, (.int .i64 0))], blkA r (RepT.cells ({ mK lg e1 e2 with replies := rv })) 104, own rv ((rK e1 e2).length) (ints (List.flatMap ReplyT.flat (rK e1 e2))) 92 3, own uc1 ((rK e1 e2).length) (ints (List.flatMap ReplyT.flat (rK e1 e2))) 92 3, lgP lg d (((clientC (newRep 0 lg) oK []).length : Nat) : Int) ((sizeS (clientC (newRep 0 lg) oK []) : Nat) : Int), dkL d (clientC (newRep 0 lg) oK []), outP b5 (l), blkA b6 [(.bool false), (.bool (e1)), (.bool (e2))] 39]) (Want.plain rfl) rfl rfl Tryz.underlying57 Tryz.underlying4 rfl rfl rfl rfl rfl rfl rfl ?_
  refine TL.nil ?_
  refine TE.draw (fun _ s => ⟨Frm.of s, s.block 7 (lb rfl) rfl, trivial⟩) ?_
  refine TD.take (i := 6) rfl (by kernel_rfl) (by kernel_rfl) (by kernel_rfl) (fun _ _ _ _ h => h) (Want.plain rfl) rfl rfl (PV.move rfl rfl) ?_
  refine TD.all [13] (by kernel_rfl) rfl ?_
  refine AllT.cons rfl ?_ ?_
  refine tp rfl rfl rfl (PV.lookupB (i := 0) (v := (.int .i64 ((bif false then 1 else 0)))) rfl Tryz.underlying57 Tryz.underlying4 z3 rfl rfl rfl rfl (by rfl)) ?_
  refine TL.nil ?_
  refine TE.draw (fun _ s => ⟨Frm.of s, s.block 7 (lb rfl) rfl, trivial⟩) ?_
  refine TD.take (i := 14) rfl (by kernel_rfl) (by kernel_rfl) (by kernel_rfl) (fun _ _ _ _ h => h) (Want.plain rfl) rfl rfl (PV.eql rfl rfl rfl) ?_
  refine TD.dec (fun h84 => ?_) (fun h84 => ?_)
  refine TD.take (i := 15) rfl (by kernel_rfl) (by kernel_rfl) (by kernel_rfl) (fun _ _ _ _ h => h) (Want.plain rfl) rfl rfl (PV.move rfl rfl) ?_
  refine TD.take (i := 16) rfl (by kernel_rfl) (by kernel_rfl) (by kernel_rfl) (fun _ _ _ _ h => h) (Want.met rfl rfl rfl) rfl rfl (PV.move rfl rfl) ?_
  refine TD.take (i := 18) rfl (by kernel_rfl) (by kernel_rfl) (by kernel_rfl) (fun _ _ _ _ h => h) (Want.met rfl rfl rfl) rfl rfl (PV.move rfl rfl) ?_
  refine TD.all [17] (by kernel_rfl) rfl ?_
  refine AllT.cons rfl ?_ ?_
  refine TL.callR (A := [blkA r (RepT.cells ({ mK lg e1 e2 with replies := rv })) 104]) (B := [mapB m75 [(true, (.int .i64 1)), (false, (.int .i64 0))], own rv ((rK e1 e2).length) (ints (List.flatMap ReplyT.flat (rK e1 e2))) 92 3, own uc1 ((rK e1 e2).length) (ints (List.flatMap ReplyT.flat (rK e1 e2))) 92 3, lgP lg d (((clientC (newRep 0 lg) oK []).length : Nat) : Int) ((sizeS (clientC (newRep 0 lg) oK []) : Nat) : Int), dkL d (clientC (newRep 0 lg) oK []), outP b5 (l), blkA b6 [(.bool false), (.bool (e1)), (.bool (e2))] 39]) (Want.met rfl rfl rfl) rfl rfl rfl nm16 rfl (rValueL_does r (mK lg e1 e2) rv 0) (fun _ s => sep_selR [1] rfl s) (fun _ _ _ => trivial) (fun vR HR hR => ?_)
  obtain ⟨hv, rfl⟩ := hR
  rw [mK_value] at hv
  subst hv
  change TL _ _ _ _ _ _ _ _ _ [blkA r (RepT.cells ({ mK lg e1 e2 with replies := rv })) 104, mapB m75 [(true, (.int .i64 1)), (false, (.int .i64 0))], own rv ((rK e1 e2).length) (ints (List.flatMap ReplyT.flat (rK e1 e2))) 92 3, own uc1 ((rK e1 e2).length) (ints (List.flatMap ReplyT.flat (rK e1 e2))) 92 3, lgP lg d (((clientC (newRep 0 lg) oK []).length : Nat) : Int) ((sizeS (clientC (newRep 0 lg) oK []) : Nat) : Int), dkL d (clientC (newRep 0 lg) oK []), outP b5 (l), blkA b6 [(.bool false), (.bool (e1)), (.bool (e2))] 39]
  refine TL.nil ?_
  refine TE.draw (fun _ s => ⟨Frm.of s, s.block 7 (lb rfl) rfl, trivial⟩) ?_
  refine TD.all [19] (by kernel_rfl) rfl ?_
  refine AllT.cons rfl ?_ ?_
  refine TL.callR (A := [blkA r (RepT.cells ({ mK lg e1 e2 with replies := rv })) 104, own rv ((rK e1 e2).length) (ints (List.flatMap ReplyT.flat (rK e1 e2))) 92 3]) (B := [mapB m75 [(true, (.int .i64 1)), (false, (.int .i64 0))], own uc1 ((rK e1 e2).length) (ints (List.flatMap ReplyT.flat (rK e1 e2))) 92 3, lgP lg d (((clientC (newRep 0 lg) oK []).length : Nat) : Int) ((sizeS (clientC (newRep 0 lg) oK []) : Nat) : Int), dkL d (clientC (newRep 0 lg) oK []), outP b5 (l), blkA b6 [(.bool false), (.bool (e1)), (.bool (e2))] 39]) (Want.met rfl rfl rfl) rfl rfl rfl nm15 rfl (replies_does r { (mK lg e1 e2) with replies := rv } (rK e1 e2) (by have := rK_len e1 e2; omega)) (fun _ s => sep_selR [0, 1] rfl s) (fun _ _ _ => trivial) (fun vR HR hR => ?_)
  obtain ⟨_, rfl, rfl⟩ := hR
  revert vR
  intro uc2
  change TL _ _ _ _ _ _ _ _ _ [blkA r (RepT.cells ({ mK lg e1 e2 with replies := rv })) 104, own rv ((rK e1 e2).length) (ints (List.flatMap ReplyT.flat (rK e1 e2))) 92 3, own uc2 ((rK e1 e2).length) (ints (List.flatMap ReplyT.flat (rK e1 e2))) 92 3, mapB m75 [(true, (.int .i64 1)), (false, (.int .i64 0))], own uc1 ((rK e1 e2).length) (ints (List.flatMap ReplyT.flat (rK e1 e2))) 92 3, lgP lg d (((clientC (newRep 0 lg) oK []).length : Nat) : Int) ((sizeS (clientC (newRep 0 lg) oK []) : Nat) : Int), dkL d (clientC (newRep 0 lg) oK []), outP b5 (l), blkA b6 [(.bool false), (.bool (e1)), (.bool (e2))] 39]
  refine TL.ownLen 2 rfl rfl (fun hluc2 _ => ?_)
  refine TL.nil ?_
  refine TE.draw (fun _ s => ⟨Frm.of s, s.block 8 (lb rfl) rfl, trivial⟩) ?_
  refine TD.take (i := 20) rfl (by kernel_rfl) (by kernel_rfl) (by kernel_rfl) (fun _ _ _ _ h => h) (Want.met rfl rfl rfl) rfl rfl (PV.lenV rfl Tryz.underlying55 rfl hluc2) ?_
  refine TD.take (i := 21) rfl (by kernel_rfl) (by kernel_rfl) (by kernel_rfl) (fun _ _ _ _ h => h) (Want.met rfl rfl rfl) rfl rfl (PV.eql rfl rfl rfl) ?_
  refine TD.take (i := 22) rfl (by kernel_rfl) (by kernel_rfl) (by kernel_rfl) (fun _ _ _ _ h => h) (Want.plain rfl) rfl rfl (PV.pick rfl rfl rfl) ?_
  refine TD.take (i := 23) rfl (by kernel_rfl) (by kernel_rfl) (by kernel_rfl) (fun _ _ _ _ h => h) (Want.plain rfl) rfl rfl (PV.assign rfl rfl) ?_
  refine TD.done (by kernel_rfl) ?_
  refine TE.next hK28 ?_
  clear hK28
  refine TC.ret ?_
  refine TE.weak (Sub.refl _) (fun _ s => sep_keep [] rfl s) ?_
  refine TE.ret1 rfl rfl ?_
  exact ⟨by first | rfl | simp, rfl⟩
  exact AllT.nil
  exact AllT.nil
  · exact absurd (by rw [h78]; cases e2 <;> rfl) h84
  exact AllT.nil
  exact AllT.nil
  refine AllT.cons rfl ?_ ?_
  refine TL.insertB (i := 0) (H' := [mapB m75 [(false, (.int .i64 0))], blkA r (RepT.cells ({ mK lg e1 e2 with replies := rv })) 104, own rv ((rK e1 e2).length) (ints (List.flatMap ReplyT.flat (rK e1 e2))) 92 3, own uc1 ((rK e1 e2).length) (ints (List.flatMap ReplyT.flat (rK e1 e2))) 92 3, lgP lg d (((clientC (newRep 0 lg) oK []).length : Nat) : Int) ((sizeS (clientC (newRep 0 lg) oK []) : Nat) : Int), dkL d (clientC (newRep 0 lg) oK []), outP b5 (l), blkA b6 [(.bool false), (.bool (e1)), (.bool (e2))] 39]) (Want.plain rfl) rfl rfl Tryz.underlying57 Tryz.underlying4 rfl rfl rfl rfl rfl rfl rfl ?_
  refine TL.nil ?_
  refine TE.draw (fun _ s => ⟨Frm.of s, s.block 7 (lb rfl) rfl, trivial⟩) ?_
  refine TD.all [4] (by kernel_rfl) rfl ?_
  refine AllT.cons rfl ?_ ?_
  refine TL.insertB (i := 0) (H' := [mapB m75 [(false, (.int .i64 0)), (true, (.int .i64 1))], blkA r (RepT.cells ({ mK lg e1 e2 with replies := rv })) 104, own rv ((rK e1 e2).length) (ints (List.flatMap ReplyT.flat (rK e1 e2))) 92 3, own uc1 ((rK e1 e2).length) (ints (List.flatMap ReplyT.flat (rK e1 e2))) 92 3, lgP lg d (((clientC (newRep 0 lg) oK []).length : Nat) : Int) ((sizeS (clientC (newRep 0 lg) oK []) : Nat) : Int), dkL d (clientC (newRep 0 lg) oK []), outP b5 (l), blkA b6 [(.bool false), (.bool (e1)), (.bool (e2))] 39]) (Want.plain rfl) rfl rfl Tryz.underlying57 Tryz.underlying4 rfl rfl rfl rfl rfl rfl rfl ?_
  refine TL.nil ?_
  refine TE.draw (fun _ s => ⟨Frm.of s, s.block 7 (lb rfl) rfl, trivial⟩) ?_
  refine TD.take (i := 6) rfl (by kernel_rfl) (by kernel_rfl) (by kernel_rfl) (fun _ _ _ _ h => h) (Want.plain rfl) rfl rfl (PV.move rfl rfl) ?_
  refine TD.all [13] (by kernel_rfl) rfl ?_
  refine AllT.cons rfl ?_ ?_
  refine tp rfl rfl rfl (PV.lookupB (i := 0) (v := (.int .i64 ((bif false then 1 else 0)))) rfl Tryz.underlying57 Tryz.underlying4 z3 rfl rfl rfl rfl (by rfl)) ?_
  refine TL.nil ?_
  refine TE.draw (fun _ s => ⟨Frm.of s, s.block 7 (lb rfl) rfl, trivial⟩) ?_
  refine TD.take (i := 14) rfl (by kernel_rfl) (by kernel_rfl) (by kernel_rfl) (fun _ _ _ _ h => h) (Want.plain rfl) rfl rfl (PV.eql rfl rfl rfl) ?_
  refine TD.dec (fun h84 => ?_) (fun h84 => ?_)
  refine TD.take (i := 15) rfl (by kernel_rfl) (by kernel_rfl) (by kernel_rfl) (fun _ _ _ _ h => h) (Want.plain rfl) rfl rfl (PV.move rfl rfl) ?_
  refine TD.take (i := 16) rfl (by kernel_rfl) (by kernel_rfl) (by kernel_rfl) (fun _ _ _ _ h => h) (Want.met rfl rfl rfl) rfl rfl (PV.move rfl rfl) ?_
  refine TD.take (i := 18) rfl (by kernel_rfl) (by kernel_rfl) (by kernel_rfl) (fun _ _ _ _ h => h) (Want.met rfl rfl rfl) rfl rfl (PV.move rfl rfl) ?_
  refine TD.all [17] (by kernel_rfl) rfl ?_
  refine AllT.cons rfl ?_ ?_
  refine TL.callR (A := [blkA r (RepT.cells ({ mK lg e1 e2 with replies := rv })) 104]) (B := [mapB m75 [(false, (.int .i64 0)), (true, (.int .i64 1))], own rv ((rK e1 e2).length) (ints (List.flatMap ReplyT.flat (rK e1 e2))) 92 3, own uc1 ((rK e1 e2).length) (ints (List.flatMap ReplyT.flat (rK e1 e2))) 92 3, lgP lg d (((clientC (newRep 0 lg) oK []).length : Nat) : Int) ((sizeS (clientC (newRep 0 lg) oK []) : Nat) : Int), dkL d (clientC (newRep 0 lg) oK []), outP b5 (l), blkA b6 [(.bool false), (.bool (e1)), (.bool (e2))] 39]) (Want.met rfl rfl rfl) rfl rfl rfl nm16 rfl (rValueL_does r (mK lg e1 e2) rv 0) (fun _ s => sep_selR [1] rfl s) (fun _ _ _ => trivial) (fun vR HR hR => ?_)
  obtain ⟨hv, rfl⟩ := hR
  rw [mK_value] at hv
  subst hv
  change TL _ _ _ _ _ _ _ _ _ [blkA r (RepT.cells ({ mK lg e1 e2 with replies := rv })) 104, mapB m75 [(false, (.int .i64 0)), (true, (.int .i64 1))], own rv ((rK e1 e2).length) (ints (List.flatMap ReplyT.flat (rK e1 e2))) 92 3, own uc1 ((rK e1 e2).length) (ints (List.flatMap ReplyT.flat (rK e1 e2))) 92 3, lgP lg d (((clientC (newRep 0 lg) oK []).length : Nat) : Int) ((sizeS (clientC (newRep 0 lg) oK []) : Nat) : Int), dkL d (clientC (newRep 0 lg) oK []), outP b5 (l), blkA b6 [(.bool false), (.bool (e1)), (.bool (e2))] 39]
  refine TL.nil ?_
  refine TE.draw (fun _ s => ⟨Frm.of s, s.block 7 (lb rfl) rfl, trivial⟩) ?_
  refine TD.all [19] (by kernel_rfl) rfl ?_
  refine AllT.cons rfl ?_ ?_
  refine TL.callR (A := [blkA r (RepT.cells ({ mK lg e1 e2 with replies := rv })) 104, own rv ((rK e1 e2).length) (ints (List.flatMap ReplyT.flat (rK e1 e2))) 92 3]) (B := [mapB m75 [(false, (.int .i64 0)), (true, (.int .i64 1))], own uc1 ((rK e1 e2).length) (ints (List.flatMap ReplyT.flat (rK e1 e2))) 92 3, lgP lg d (((clientC (newRep 0 lg) oK []).length : Nat) : Int) ((sizeS (clientC (newRep 0 lg) oK []) : Nat) : Int), dkL d (clientC (newRep 0 lg) oK []), outP b5 (l), blkA b6 [(.bool false), (.bool (e1)), (.bool (e2))] 39]) (Want.met rfl rfl rfl) rfl rfl rfl nm15 rfl (replies_does r { (mK lg e1 e2) with replies := rv } (rK e1 e2) (by have := rK_len e1 e2; omega)) (fun _ s => sep_selR [0, 1] rfl s) (fun _ _ _ => trivial) (fun vR HR hR => ?_)
  obtain ⟨_, rfl, rfl⟩ := hR
  revert vR
  intro uc2
  change TL _ _ _ _ _ _ _ _ _ [blkA r (RepT.cells ({ mK lg e1 e2 with replies := rv })) 104, own rv ((rK e1 e2).length) (ints (List.flatMap ReplyT.flat (rK e1 e2))) 92 3, own uc2 ((rK e1 e2).length) (ints (List.flatMap ReplyT.flat (rK e1 e2))) 92 3, mapB m75 [(false, (.int .i64 0)), (true, (.int .i64 1))], own uc1 ((rK e1 e2).length) (ints (List.flatMap ReplyT.flat (rK e1 e2))) 92 3, lgP lg d (((clientC (newRep 0 lg) oK []).length : Nat) : Int) ((sizeS (clientC (newRep 0 lg) oK []) : Nat) : Int), dkL d (clientC (newRep 0 lg) oK []), outP b5 (l), blkA b6 [(.bool false), (.bool (e1)), (.bool (e2))] 39]
  refine TL.ownLen 2 rfl rfl (fun hluc2 _ => ?_)
  refine TL.nil ?_
  refine TE.draw (fun _ s => ⟨Frm.of s, s.block 8 (lb rfl) rfl, trivial⟩) ?_
  refine TD.take (i := 20) rfl (by kernel_rfl) (by kernel_rfl) (by kernel_rfl) (fun _ _ _ _ h => h) (Want.met rfl rfl rfl) rfl rfl (PV.lenV rfl Tryz.underlying55 rfl hluc2) ?_
  refine TD.take (i := 21) rfl (by kernel_rfl) (by kernel_rfl) (by kernel_rfl) (fun _ _ _ _ h => h) (Want.met rfl rfl rfl) rfl rfl (PV.eql rfl rfl rfl) ?_
  refine TD.take (i := 22) rfl (by kernel_rfl) (by kernel_rfl) (by kernel_rfl) (fun _ _ _ _ h => h) (Want.plain rfl) rfl rfl (PV.pick rfl rfl rfl) ?_
  refine TD.take (i := 23) rfl (by kernel_rfl) (by kernel_rfl) (by kernel_rfl) (fun _ _ _ _ h => h) (Want.plain rfl) rfl rfl (PV.assign rfl rfl) ?_
  refine TD.done (by kernel_rfl) ?_
  refine TE.next hK28 ?_
  clear hK28
  refine TC.ret ?_
  refine TE.weak (Sub.refl _) (fun _ s => sep_keep [] rfl s) ?_
  refine TE.ret1 rfl rfl ?_
  exact ⟨by first | rfl | simp, rfl⟩
  exact AllT.nil
  exact AllT.nil
  · exact absurd (by rw [h78]; cases e2 <;> rfl) h84
  exact AllT.nil
  exact AllT.nil
  exact AllT.nil
  exact AllT.nil
  refine AllT.cons rfl ?_ ?_
  refine TL.makeMapB (Want.plain rfl) rfl rfl rfl (fun m75 => ?_)
  change TL _ _ _ _ _ _ _ _ _ [mapB m75 [], blkA r (RepT.cells ({ mK lg e1 e2 with replies := rv })) 104, lgP lg d (((clientC (newRep 0 lg) oK []).length : Nat) : Int) ((sizeS (clientC (newRep 0 lg) oK []) : Nat) : Int), dkL d (clientC (newRep 0 lg) oK []), own rv ((rK e1 e2).length) (ints (List.flatMap ReplyT.flat (rK e1 e2))) 92 3, outP b5 (l), blkA b6 [(.bool false), (.bool (e1)), (.bool (e2))] 39]
  refine TL.nil ?_
  refine TE.draw (fun _ s => ⟨Frm.of s, s.block 6 (lb rfl) rfl, trivial⟩) ?_
  refine TD.all [1, 4, 5] (by kernel_rfl) rfl ?_
  refine AllT.cons rfl ?_ ?_
  refine TL.callR (A := [blkA r (RepT.cells ({ mK lg e1 e2 with replies := rv })) 104, own rv ((rK e1 e2).length) (ints (List.flatMap ReplyT.flat (rK e1 e2))) 92 3]) (B := [mapB m75 [], lgP lg d (((clientC (newRep 0 lg) oK []).length : Nat) : Int) ((sizeS (clientC (newRep 0 lg) oK []) : Nat) : Int), dkL d (clientC (newRep 0 lg) oK []), outP b5 (l), blkA b6 [(.bool false), (.bool (e1)), (.bool (e2))] 39]) (Want.plain rfl) rfl rfl rfl nm15 rfl (replies_does r { (mK lg e1 e2) with replies := rv } (rK e1 e2) (by have := rK_len e1 e2; omega)) (fun _ s => sep_selR [1, 3] rfl s) (fun _ _ _ => trivial) (fun vR HR hR => ?_)
  obtain ⟨_, rfl, rfl⟩ := hR
  revert vR
  intro uc1
  change TL _ _ _ _ _ _ _ _ _ [blkA r (RepT.cells ({ mK lg e1 e2 with replies := rv })) 104, own rv ((rK e1 e2).length) (ints (List.flatMap ReplyT.flat (rK e1 e2))) 92 3, own uc1 ((rK e1 e2).length) (ints (List.flatMap ReplyT.flat (rK e1 e2))) 92 3, mapB m75 [], lgP lg d (((clientC (newRep 0 lg) oK []).length : Nat) : Int) ((sizeS (clientC (newRep 0 lg) oK []) : Nat) : Int), dkL d (clientC (newRep 0 lg) oK []), outP b5 (l), blkA b6 [(.bool false), (.bool (e1)), (.bool (e2))] 39]
  refine TL.ownLen 2 rfl rfl (fun hluc1 _ => ?_)
  refine TL.nil ?_
  refine TE.draw (fun _ s => ⟨Frm.of s, s.block 7 (lb rfl) rfl, trivial⟩) ?_
  refine TD.take (i := 2) rfl (by kernel_rfl) (by kernel_rfl) (by kernel_rfl) (fun _ _ _ _ h => h) (Want.plain rfl) rfl rfl (PV.lenV rfl Tryz.underlying55 rfl hluc1) ?_
  refine TD.take (i := 9) rfl (by kernel_rfl) (by kernel_rfl) (by kernel_rfl) (fun _ _ _ _ h => h) (Want.plain rfl) rfl rfl (PV.move rfl rfl) ?_
  refine TD.takeNot (i := 10) (b := false) rfl (by kernel_rfl) (by kernel_rfl) (by kernel_rfl) (fun _ _ _ _ h => h) rfl rfl rfl rfl rfl ?_
  refine TD.takeNot (i := 11) (b := false) rfl (by kernel_rfl) (by kernel_rfl) (by kernel_rfl) (fun _ _ _ _ h => h) rfl rfl rfl rfl rfl ?_
  refine TD.take (i := 12) rfl (by kernel_rfl) (by kernel_rfl) (by kernel_rfl) (fun _ _ _ _ h => h) (Want.plain rfl) rfl rfl (PV.pick rfl rfl rfl) ?_
  refine TD.all [4, 5] (by kernel_rfl) rfl ?_
  refine AllT.cons rfl ?_ ?_
  refine TL.insertB (i := 3) (H' := [blkA r (RepT.cells ({ mK lg e1 e2 with replies := rv })) 104, own rv ((rK e1 e2).length) (ints (List.flatMap ReplyT.flat (rK e1 e2))) 92 3, own uc1 ((rK e1 e2).length) (ints (List.flatMap ReplyT.flat (rK e1 e2))) 92 3, mapB m75 [(true, (.int .i64 1))], lgP lg d (((clientC (newRep 0 lg) oK []).length : Nat) : Int) ((sizeS (clientC (newRep 0 lg) oK []) : Nat) : Int), dkL d (clientC (newRep 0 lg) oK []), outP b5 (l), blkA b6 [(.bool false), (.bool (e1)), (.bool (e2))] 39]) (Want.plain rfl) rfl rfl Tryz.underlying57 Tryz.underlying4 rfl rfl rfl rfl rfl rfl rfl ?_
  refine TL.nil ?_
  refine TE.draw (fun _ s => ⟨Frm.of s, s.block 7 (lb rfl) rfl, trivial⟩) ?_
  refine TD.all [5] (by kernel_rfl) rfl ?_
  refine AllT.cons rfl ?_ ?_
  refine TL.insertB (i := 3) (H' := [blkA r (RepT.cells ({ mK lg e1 e2 with replies := rv })) 104, own rv ((rK e1 e2).length) (ints (List.flatMap ReplyT.flat (rK e1 e2))) 92 3, own uc1 ((rK e1 e2).length) (ints (List.flatMap ReplyT.flat (rK e1 e2))) 92 3, mapB m75 [(true, (.int .i64 1)), (false, (.int .i64 0))], lgP lg d (((clientC (newRep 0 lg) oK []).length : Nat) : Int) ((sizeS (clientC (newRep 0 lg) oK []) : Nat) : Int), dkL d (clientC (newRep 0 lg) oK []), outP b5 (l), blkA b6 [(.bool false), (.bool (e1)), (.bool (e2))] 39]) (Want.plain rfl) rfl rfl Tryz.underlying57 Tryz.underlying4 rfl rfl rfl rfl rfl rfl rfl ?_
  refine TL.nil ?_
  refine TE.draw (fun _ s => ⟨Frm.of s, s.block 7 (lb rfl) rfl, trivial⟩) ?_
  refine TD.take (i := 6) rfl (by kernel_rfl) (by kernel_rfl) (by kernel_rfl) (fun _ _ _ _ h => h) (Want.plain rfl) rfl rfl (PV.move rfl rfl) ?_
  refine TD.all [13] (by kernel_rfl) rfl ?_
  refine AllT.cons rfl ?_ ?_
  refine tp rfl rfl rfl (PV.lookupB (i := 3) (v := (.int .i64 ((bif false then 1 else 0)))) rfl Tryz.underlying57 Tryz.underlying4 z3 rfl rfl rfl rfl (by rfl)) ?_
  refine TL.nil ?_
  refine TE.draw (fun _ s => ⟨Frm.of s, s.block 7 (lb rfl) rfl, trivial⟩) ?_
  refine TD.take (i := 14) rfl (by kernel_rfl) (by kernel_rfl) (by kernel_rfl) (fun _ _ _ _ h => h) (Want.plain rfl) rfl rfl (PV.eql rfl rfl rfl) ?_
  refine TD.dec (fun h84 => ?_) (fun h84 => ?_)
  refine TD.take (i := 15) rfl (by kernel_rfl) (by kernel_rfl) (by kernel_rfl) (fun _ _ _ _ h => h) (Want.plain rfl) rfl rfl (PV.move rfl rfl) ?_
  refine TD.take (i := 16) rfl (by kernel_rfl) (by kernel_rfl) (by kernel_rfl) (fun _ _ _ _ h => h) (Want.met rfl rfl rfl) rfl rfl (PV.move rfl rfl) ?_
  refine TD.take (i := 18) rfl (by kernel_rfl) (by kernel_rfl) (by kernel_rfl) (fun _ _ _ _ h => h) (Want.met rfl rfl rfl) rfl rfl (PV.move rfl rfl) ?_
  refine TD.all [17] (by kernel_rfl) rfl ?_
  refine AllT.cons rfl ?_ ?_
  refine TL.callR (A := [blkA r (RepT.cells ({ mK lg e1 e2 with replies := rv })) 104]) (B := [own rv ((rK e1 e2).length) (ints (List.flatMap ReplyT.flat (rK e1 e2))) 92 3, own uc1 ((rK e1 e2).length) (ints (List.flatMap ReplyT.flat (rK e1 e2))) 92 3, mapB m75 [(true, (.int .i64 1)), (false, (.int .i64 0))], lgP lg d (((clientC (newRep 0 lg) oK []).length : Nat) : Int) ((sizeS (clientC (newRep 0 lg) oK []) : Nat) : Int), dkL d (clientC (newRep 0 lg) oK []), outP b5 (l), blkA b6 [(.bool false), (.bool (e1)), (.bool (e2))] 39]) (Want.met rfl rfl rfl) rfl rfl rfl nm16 rfl (rValueL_does r (mK lg e1 e2) rv 0) (fun _ s => s) (fun _ _ _ => trivial) (fun vR HR hR => ?_)
  obtain ⟨hv, rfl⟩ := hR
  rw [mK_value] at hv
  subst hv
  change TL _ _ _ _ _ _ _ _ _ [blkA r (RepT.cells ({ mK lg e1 e2 with replies := rv })) 104, own rv ((rK e1 e2).length) (ints (List.flatMap ReplyT.flat (rK e1 e2))) 92 3, own uc1 ((rK e1 e2).length) (ints (List.flatMap ReplyT.flat (rK e1 e2))) 92 3, mapB m75 [(true, (.int .i64 1)), (false, (.int .i64 0))], lgP lg d (((clientC (newRep 0 lg) oK []).length : Nat) : Int) ((sizeS (clientC (newRep 0 lg) oK []) : Nat) : Int), dkL d (clientC (newRep 0 lg) oK []), outP b5 (l), blkA b6 [(.bool false), (.bool (e1)), (.bool (e2))] 39]
  refine TL.nil ?_
  refine TE.draw (fun _ s => ⟨Frm.of s, s.block 7 (lb rfl) rfl, trivial⟩) ?_
  refine TD.all [19] (by kernel_rfl) rfl ?_
  refine AllT.cons rfl ?_ ?_
  refine TL.callR (A := [blkA r (RepT.cells ({ mK lg e1 e2 with replies := rv })) 104, own rv ((rK e1 e2).length) (ints (List.flatMap ReplyT.flat (rK e1 e2))) 92 3]) (B := [own uc1 ((rK e1 e2).length) (ints (List.flatMap ReplyT.flat (rK e1 e2))) 92 3, mapB m75 [(true, (.int .i64 1)), (false, (.int .i64 0))], lgP lg d (((clientC (newRep 0 lg) oK []).length : Nat) : Int) ((sizeS (clientC (newRep 0 lg) oK []) : Nat) : Int), dkL d (clientC (newRep 0 lg) oK []), outP b5 (l), blkA b6 [(.bool false), (.bool (e1)), (.bool (e2))] 39]) (Want.met rfl rfl rfl) rfl rfl rfl nm15 rfl (replies_does r { (mK lg e1 e2) with replies := rv } (rK e1 e2) (by have := rK_len e1 e2; omega)) (fun _ s => s) (fun _ _ _ => trivial) (fun vR HR hR => ?_)
  obtain ⟨_, rfl, rfl⟩ := hR
  revert vR
  intro uc2
  change TL _ _ _ _ _ _ _ _ _ [blkA r (RepT.cells ({ mK lg e1 e2 with replies := rv })) 104, own rv ((rK e1 e2).length) (ints (List.flatMap ReplyT.flat (rK e1 e2))) 92 3, own uc2 ((rK e1 e2).length) (ints (List.flatMap ReplyT.flat (rK e1 e2))) 92 3, own uc1 ((rK e1 e2).length) (ints (List.flatMap ReplyT.flat (rK e1 e2))) 92 3, mapB m75 [(true, (.int .i64 1)), (false, (.int .i64 0))], lgP lg d (((clientC (newRep 0 lg) oK []).length : Nat) : Int) ((sizeS (clientC (newRep 0 lg) oK []) : Nat) : Int), dkL d (clientC (newRep 0 lg) oK []), outP b5 (l), blkA b6 [(.bool false), (.bool (e1)), (.bool (e2))] 39]
  refine TL.ownLen 2 rfl rfl (fun hluc2 _ => ?_)
  refine TL.nil ?_
  refine TE.draw (fun _ s => ⟨Frm.of s, s.block 8 (lb rfl) rfl, trivial⟩) ?_
  refine TD.take (i := 20) rfl (by kernel_rfl) (by kernel_rfl) (by kernel_rfl) (fun _ _ _ _ h => h) (Want.met rfl rfl rfl) rfl rfl (PV.lenV rfl Tryz.underlying55 rfl hluc2) ?_
  refine TD.take (i := 21) rfl (by kernel_rfl) (by kernel_rfl) (by kernel_rfl) (fun _ _ _ _ h => h) (Want.met rfl rfl rfl) rfl rfl (PV.eql rfl rfl rfl) ?_
  refine TD.take (i := 22) rfl (by kernel_rfl) (by kernel_rfl) (by kernel_rfl) (fun _ _ _ _ h => h) (Want.plain rfl) rfl rfl (PV.pick rfl rfl rfl) ?_
  refine TD.take (i := 23) rfl (by kernel_rfl) (by kernel_rfl) (by kernel_rfl) (fun _ _ _ _ h => h) (Want.plain rfl) rfl rfl (PV.assign rfl rfl) ?_
  refine TD.done (by kernel_rfl) ?_
  refine TE.next hK28 ?_
  clear hK28
  refine TC.ret ?_
  refine TE.weak (Sub.refl _) (fun _ s => sep_keep [] rfl s) ?_
  refine TE.ret1 rfl rfl ?_
  exact ⟨by first | rfl | simp, rfl⟩
  exact AllT.nil
  exact AllT.nil
  · exact absurd (by rw [h78]; cases e2 <;> rfl) h84
  exact AllT.nil
  exact AllT.nil
  refine AllT.cons rfl ?_ ?_
  refine TL.insertB (i := 3) (H' := [blkA r (RepT.cells ({ mK lg e1 e2 with replies := rv })) 104, own rv ((rK e1 e2).length) (ints (List.flatMap ReplyT.flat (rK e1 e2))) 92 3, own uc1 ((rK e1 e2).length) (ints (List.flatMap ReplyT.flat (rK e1 e2))) 92 3, mapB m75 [(false, (.int .i64 0))], lgP lg d (((clientC (newRep 0 lg) oK []).length : Nat) : Int) ((sizeS (clientC (newRep 0 lg) oK []) : Nat) : Int), dkL d (clientC (newRep 0 lg) oK []), outP b5 (l), blkA b6 [(.bool false), (.bool (e1)), (.bool (e2))] 39]) (Want.plain rfl) rfl rfl Tryz.underlying57 Tryz.underlying4 rfl rfl rfl rfl rfl rfl rfl ?_
  refine TL.nil ?_
  refine TE.draw (fun _ s => ⟨Frm.of s, s.block 7 (lb rfl) rfl, trivial⟩) ?_
  refine TD.all [4] (by kernel_rfl) rfl ?_
  refine AllT.cons rfl ?_ ?_
  refine TL.insertB (i := 3) (H' := [blkA r (RepT.cells ({ mK lg e1 e2 with replies := rv })) 104, own rv ((rK e1 e2).length) (ints (List.flatMap ReplyT.flat (rK e1 e2))) 92 3, own uc1 ((rK e1 e2).length) (ints (List.flatMap ReplyT.flat (rK e1 e2))) 92 3, mapB m75 [(false, (.int .i64 0)), (true, (.int .i64 1))], lgP lg d (((clientC (newRep 0 lg) oK []).length : Nat) : Int) ((sizeS (clientC (newRep 0 lg) oK []) : Nat) : Int), dkL d (clientC (newRep 0 lg) oK []), outP b5 (l), blkA b6 [(.bool false), (.bool (e1)), (.bool (e2))] 39]) (Want.plain rfl) rfl rfl Tryz.underlying57 Tryz.underlying4 rfl rfl rfl rfl rfl rfl rfl ?_
  refine TL.nil ?_
  refine TE.draw (fun _ s => ⟨Frm.of s, s.block 7 (lb rfl) rfl, trivial⟩) ?_
  refine TD.take (i := 6) rfl (by kernel_rfl) (by kernel_rfl) (by kernel_rfl) (fun _ _ _ _ h => h) (Want.plain rfl) rfl rfl (PV.move rfl rfl) ?_
  refine TD.all [13] (by kernel_rfl) rfl ?_
  refine AllT.cons rfl ?_ ?_
  refine tp rfl rfl rfl (PV.lookupB (i := 3) (v := (.int .i64 ((bif false then 1 else 0)))) rfl Tryz.underlying57 Tryz.underlying4 z3 rfl rfl rfl rfl (by rfl)) ?_
  refine TL.nil ?_
  refine TE.draw (fun _ s => ⟨Frm.of s, s.block 7 (lb rfl) rfl, trivial⟩) ?_
  refine TD.take (i := 14) rfl (by kernel_rfl) (by kernel_rfl) (by kernel_rfl) (fun _ _ _ _ h => h) (Want.plain rfl) rfl rfl (PV.eql rfl rfl rfl) ?_
  refine TD.dec (fun h84 => ?_) (fun h84 => ?_)
  refine TD.take (i := 15) rfl (by kernel_rfl) (by kernel_rfl) (by kernel_rfl) (fun _ _ _ _ h => h) (Want.plain rfl) rfl rfl (PV.move rfl rfl) ?_
  refine TD.take (i := 16) rfl (by kernel_rfl) (by kernel_rfl) (by kernel_rfl) (fun _ _ _ _ h => h) (Want.met rfl rfl rfl) rfl rfl (PV.move rfl rfl) ?_
  refine TD.take (i := 18) rfl (by kernel_rfl) (by kernel_rfl) (by kernel_rfl) (fun _ _ _ _ h => h) (Want.met rfl rfl rfl) rfl rfl (PV.move rfl rfl) ?_
  refine TD.all [17] (by kernel_rfl) rfl ?_
  refine AllT.cons rfl ?_ ?_
  refine TL.callR (A := [blkA r (RepT.cells ({ mK lg e1 e2 with replies := rv })) 104]) (B := [own rv ((rK e1 e2).length) (ints (List.flatMap ReplyT.flat (rK e1 e2))) 92 3, own uc1 ((rK e1 e2).length) (ints (List.flatMap ReplyT.flat (rK e1 e2))) 92 3, mapB m75 [(false, (.int .i64 0)), (true, (.int .i64 1))], lgP lg d (((clientC (newRep 0 lg) oK []).length : Nat) : Int) ((sizeS (clientC (newRep 0 lg) oK []) : Nat) : Int), dkL d (clientC (newRep 0 lg) oK []), outP b5 (l), blkA b6 [(.bool false), (.bool (e1)), (.bool (e2))] 39]) (Want.met rfl rfl rfl) rfl rfl rfl nm16 rfl (rValueL_does r (mK lg e1 e2) rv 0) (fun _ s => s) (fun _ _ _ => trivial) (fun vR HR hR => ?_)
  obtain ⟨hv, rfl⟩ := hR
  rw [mK_value] at hv
  subst hv
  change TL _ _ _ _ _ _ _ _ _ [blkA r (RepT.cells ({ mK lg e1 e2 with replies := rv })) 104, own rv ((rK e1 e2).length) (ints (List.flatMap ReplyT.flat (rK e1 e2))) 92 3, own uc1 ((rK e1 e2).length) (ints (List.flatMap ReplyT.flat (rK e1 e2))) 92 3, mapB m75 [(false, (.int .i64 0)), (true, (.int .i64 1))], lgP lg d (((clientC (newRep 0 lg) oK []).length : Nat) : Int) ((sizeS (clientC (newRep 0 lg) oK []) : Nat) : Int), dkL d (clientC (newRep 0 lg) oK []), outP b5 (l), blkA b6 [(.bool false), (.bool (e1)), (.bool (e2))] 39]
  refine TL.nil ?_
  refine TE.draw (fun _ s => ⟨Frm.of s, s.block 7 (lb rfl) rfl, trivial⟩) ?_
  refine TD.all [19] (by kernel_rfl) rfl ?_
  refine AllT.cons rfl ?_ ?_
  refine TL.callR (A := [blkA r (RepT.cells ({ mK lg e1 e2 with replies := rv })) 104, own rv ((rK e1 e2).length) (ints (List.flatMap ReplyT.flat (rK e1 e2))) 92 3]) (B := [own uc1 ((rK e1 e2).length) (ints (List.flatMap ReplyT.flat (rK e1 e2))) 92 3, mapB m75 [(false, (.int .i64 0)), (true, (.int .i64 1))], lgP lg d (((clientC (newRep 0 lg) oK []).length : Nat) : Int) ((sizeS (clientC (newRep 0 lg) oK []) : Nat) : Int), dkL d (clientC (newRep 0 lg) oK []), outP b5 (l), blkA b6 [(.bool false), (.bool (e1)), (.bool (e2))] 39]) (Want.met rfl rfl rfl) rfl rfl rfl nm15 rfl (replies_does r { (mK lg e1 e2) with replies := rv } (rK e1 e2) (by have := rK_len e1 e2; omega)) (fun _ s => s) (fun _ _ _ => trivial) (fun vR HR hR => ?_)
  obtain ⟨_, rfl, rfl⟩ := hR
  revert vR
  intro uc2
  change TL _ _ _ _ _ _ _ _ _ [blkA r (RepT.cells ({ mK lg e1 e2 with replies := rv })) 104, own rv ((rK e1 e2).length) (ints (List.flatMap ReplyT.flat (rK e1 e2))) 92 3, own uc2 ((rK e1 e2).length) (ints (List.flatMap ReplyT.flat (rK e1 e2))) 92 3, own uc1 ((rK e1 e2).length) (ints (List.flatMap ReplyT.flat (rK e1 e2))) 92 3, mapB m75 [(false, (.int .i64 0)), (true, (.int .i64 1))], lgP lg d (((clientC (newRep 0 lg) oK []).length : Nat) : Int) ((sizeS (clientC (newRep 0 lg) oK []) : Nat) : Int), dkL d (clientC (newRep 0 lg) oK []), outP b5 (l), blkA b6 [(.bool false), (.bool (e1)), (.bool (e2))] 39]
  refine TL.ownLen 2 rfl rfl (fun hluc2 _ => ?_)
  refine TL.nil ?_
  refine TE.draw (fun _ s => ⟨Frm.of s, s.block 8 (lb rfl) rfl, trivial⟩) ?_
  refine TD.take (i := 20) rfl (by kernel_rfl) (by kernel_rfl) (by kernel_rfl) (fun _ _ _ _ h => h) (Want.met rfl rfl rfl) rfl rfl (PV.lenV rfl Tryz.underlying55 rfl hluc2) ?_
  refine TD.take (i := 21) rfl (by kernel_rfl) (by kernel_rfl) (by kernel_rfl) (fun _ _ _ _ h => h) (Want.met rfl rfl rfl) rfl rfl (PV.eql rfl rfl rfl) ?_
  refine TD.take (i := 22) rfl (by kernel_rfl) (by kernel_rfl) (by kernel_rfl) (fun _ _ _ _ h => h) (Want.plain rfl) rfl rfl (PV.pick rfl rfl rfl) ?_
  refine TD.take (i := 23) rfl (by kernel_rfl) (by kernel_rfl) (by kernel_rfl) (fun _ _ _ _ h => h) (Want.plain rfl) rfl rfl (PV.assign rfl rfl) ?_
  refine TD.done (by kernel_rfl) ?_
  refine TE.next hK28 ?_
  clear hK28
  refine TC.ret ?_
  refine TE.weak (Sub.refl _) (fun _ s => sep_keep [] rfl s) ?_
  refine TE.ret1 rfl rfl ?_
  exact ⟨by first | rfl | simp, rfl⟩
  exact AllT.nil
  exact AllT.nil
  · exact absurd (by rw [h78]; cases e2 <;> rfl) h84
  exact AllT.nil
  exact AllT.nil
  exact AllT.nil
  refine AllT.cons rfl ?_ ?_
  refine TL.insertB (i := 0) (H' := [mapB m75 [(true, (.int .i64 1))], blkA r (RepT.cells ({ mK lg e1 e2 with replies := rv })) 104, lgP lg d (((clientC (newRep 0 lg) oK []).length : Nat) : Int) ((sizeS (clientC (newRep 0 lg) oK []) : Nat) : Int), dkL d (clientC (newRep 0 lg) oK []), own rv ((rK e1 e2).length) (ints (List.flatMap ReplyT.flat (rK e1 e2))) 92 3, outP b5 (l), blkA b6 [(.bool false), (.bool (e1)), (.bool (e2))] 39]) (Want.plain rfl) rfl rfl Tryz.underlying57 Tryz.underlying4 rfl rfl rfl rfl rfl rfl rfl ?_
  refine TL.nil ?_
  refine TE.draw (fun _ s => ⟨Frm.of s, s.block 6 (lb rfl) rfl, trivial⟩) ?_
  refine TD.all [1, 5] (by kernel_rfl) rfl ?_
  refine AllT.cons rfl ?_ ?_
  refine TL.callR (A := [blkA r (RepT.cells ({ mK lg e1 e2 with replies := rv })) 104, own rv ((rK e1 e2).length) (ints (List.flatMap ReplyT.flat (rK e1 e2))) 92 3]) (B := [mapB m75 [(true, (.int .i64 1))], lgP lg d (((clientC (newRep 0 lg) oK []).length : Nat) : Int) ((sizeS (clientC (newRep 0 lg) oK []) : Nat) : Int), dkL d (clientC (newRep 0 lg) oK []), outP b5 (l), blkA b6 [(.bool false), (.bool (e1)), (.bool (e2))] 39]) (Want.plain rfl) rfl rfl rfl nm15 rfl (replies_does r { (mK lg e1 e2) with replies := rv } (rK e1 e2) (by have := rK_len e1 e2; omega)) (fun _ s => sep_selR [1, 3] rfl s) (fun _ _ _ => trivial) (fun vR HR hR => ?_)
  obtain ⟨_, rfl, rfl⟩ := hR
  revert vR
  intro uc1
  change TL _ _ _ _ _ _ _ _ _ [blkA r (RepT.cells ({ mK lg e1 e2 with replies := rv })) 104, own rv ((rK e1 e2).length) (ints (List.flatMap ReplyT.flat (rK e1 e2))) 92 3, own uc1 ((rK e1 e2).length) (ints (List.flatMap ReplyT.flat (rK e1 e2))) 92 3, mapB m75 [(true, (.int .i64 1))], lgP lg d (((clientC (newRep 0 lg) oK []).length : Nat) : Int) ((sizeS (clientC (newRep 0 lg) oK []) : Nat) : Int), dkL d (clientC (newRep 0 lg) oK []), outP b5 (l), blkA b6 [(.bool false), (.bool (e1)), (.bool (e2))] 39]
  refine TL.ownLen 2 rfl rfl (fun hluc1 _ => ?_)
  refine TL.nil ?_
  refine TE.draw (fun _ s => ⟨Frm.of s, s.block 7 (lb rfl) rfl, trivial⟩) ?_
  refine TD.take (i := 2) rfl (by kernel_rfl) (by kernel_rfl) (by kernel_rfl) (fun _ _ _ _ h => h) (Want.plain rfl) rfl rfl (PV.lenV rfl Tryz.underlying55 rfl hluc1) ?_
  refine TD.take (i := 9) rfl (by kernel_rfl) (by kernel_rfl) (by kernel_rfl) (fun _ _ _ _ h => h) (Want.plain rfl) rfl rfl (PV.move rfl rfl) ?_
  refine TD.takeNot (i := 10) (b := false) rfl (by kernel_rfl) (by kernel_rfl) (by kernel_rfl) (fun _ _ _ _ h => h) rfl rfl rfl rfl rfl ?_
  refine TD.takeNot (i := 11) (b := false) rfl (by kernel_rfl) (by kernel_rfl) (by kernel_rfl) (fun _ _ _ _ h => h) rfl rfl rfl rfl rfl ?_
  refine TD.take (i := 12) rfl (by kernel_rfl) (by kernel_rfl) (by kernel_rfl) (fun _ _ _ _ h => h) (Want.plain rfl) rfl rfl (PV.pick rfl rfl rfl) ?_
  refine TD.all [5] (by kernel_rfl) rfl ?_
  refine AllT.cons rfl ?_ ?_
  refine TL.insertB (i := 3) (H' := [blkA r (RepT.cells ({ mK lg e1 e2 with replies := rv })) 104, own rv ((rK e1 e2).length) (ints (List.flatMap ReplyT.flat (rK e1 e2))) 92 3, own uc1 ((rK e1 e2).length) (ints (List.flatMap ReplyT.flat (rK e1 e2))) 92 3, mapB m75 [(true, (.int .i64 1)), (false, (.int .i64 0))], lgP lg d (((clientC (newRep 0 lg) oK []).length : Nat) : Int) ((sizeS (clientC (newRep 0 lg) oK []) : Nat) : Int), dkL d (clientC (newRep 0 lg) oK []), outP b5 (l), blkA b6 [(.bool false), (.bool (e1)), (.bool (e2))] 39]) (Want.plain rfl) rfl rfl Tryz.underlying57 Tryz.underlying4 rfl rfl rfl rfl rfl rfl rfl ?_
  refine TL.nil ?_
  refine TE.draw (fun _ s => ⟨Frm.of s, s.block 7 (lb rfl) rfl, trivial⟩) ?_
  refine TD.take (i := 6) rfl (by kernel_rfl) (by kernel_rfl) (by kernel_rfl) (fun _ _ _ _ h => h) (Want.plain rfl) rfl rfl (PV.move rfl rfl) ?_
  refine TD.all [13] (by kernel_rfl) rfl ?_
  refine AllT.cons rfl ?_ ?_
  refine tp rfl rfl rfl (PV.lookupB (i := 3) (v := (.int .i64 ((bif false then 1 else 0)))) rfl Tryz.underlying57 Tryz.underlying4 z3 rfl rfl rfl rfl (by rfl)) ?_
  refine TL.nil ?_
  refine TE.draw (fun _ s => ⟨Frm.of s, s.block 7 (lb rfl) rfl, trivial⟩) ?_
  refine TD.take (i := 14) rfl (by kernel_rfl) (by kernel_rfl) (by kernel_rfl) (fun _ _ _ _ h => h) (Want.plain rfl) rfl rfl (PV.eql rfl rfl rfl) ?_
  refine TD.dec (fun h84 => ?_) (fun h84 => ?_)
  refine TD.take (i := 15) rfl (by kernel_rfl) (by kernel_rfl) (by kernel_rfl) (fun _ _ _ _ h => h) (Want.plain rfl) rfl rfl (PV.move rfl rfl) ?_
  refine TD.take (i := 16) rfl (by kernel_rfl) (by kernel_rfl) (by kernel_rfl) (fun _ _ _ _ h => h) (Want.met rfl rfl rfl) rfl rfl (PV.move rfl rfl) ?_
  refine TD.take (i := 18) rfl (by kernel_rfl) (by kernel_rfl) (by kernel_rfl) (fun _ _ _ _ h => h) (Want.met rfl rfl rfl) rfl rfl (PV.move rfl rfl) ?_
  refine TD.all [17] (by kernel_rfl) rfl ?_
  refine AllT.cons rfl ?_ ?_
  refine TL.callR (A := [blkA r (RepT.cells ({ mK lg e1 e2 with replies := rv })) 104]) (B := [own rv ((rK e1 e2).length) (ints (List.flatMap ReplyT.flat (rK e1 e2))) 92 3, own uc1 ((rK e1 e2).length) (ints (List.flatMap ReplyT.flat (rK e1 e2))) 92 3, mapB m75 [(true, (.int .i64 1)), (false, (.int .i64 0))], lgP lg d (((clientC (newRep 0 lg) oK []).length : Nat) : Int) ((sizeS (clientC (newRep 0 lg) oK []) : Nat) : Int), dkL d (clientC (newRep 0 lg) oK []), outP b5 (l), blkA b6 [(.bool false), (.bool (e1)), (.bool (e2))] 39]) (Want.met rfl rfl rfl) rfl rfl rfl nm16 rfl (rValueL_does r (mK lg e1 e2) rv 0) (fun _ s => s) (fun _ _ _ => trivial) (fun vR HR hR => ?_)
  obtain ⟨hv, rfl⟩ := hR
  rw [mK_value] at hv
  subst hv
  change TL _ _ _ _ _ _ _ _ _ [blkA r (RepT.cells ({ mK lg e1 e2 with replies := rv })) 104, own rv ((rK e1 e2).length) (ints (List.flatMap ReplyT.flat (rK e1 e2))) 92 3, own uc1 ((rK e1 e2).length) (ints (List.flatMap ReplyT.flat (rK e1 e2))) 92 3, mapB m75 [(true, (.int .i64 1)), (false, (.int .i64 0))], lgP lg d (((clientC (newRep 0 lg) oK []).length : Nat) : Int) ((sizeS (clientC (newRep 0 lg) oK []) : Nat) : Int), dkL d (clientC (newRep 0 lg) oK []), outP b5 (l), blkA b6 [(.bool false), (.bool (e1)), (.bool (e2))] 39]
  refine TL.nil ?_
  refine TE.draw (fun _ s => ⟨Frm.of s, s.block 7 (lb rfl) rfl, trivial⟩) ?_
  refine TD.all [19] (by kernel_rfl) rfl ?_
  refine AllT.cons rfl ?_ ?_
  refine TL.callR (A := [blkA r (RepT.cells ({ mK lg e1 e2 with replies := rv })) 104, own rv ((rK e1 e2).length) (ints (List.flatMap ReplyT.flat (rK e1 e2))) 92 3]) (B := [own uc1 ((rK e1 e2).length) (ints (List.flatMap ReplyT.flat (rK e1 e2))) 92 3, mapB m75 [(true, (.int .i64 1)), (false, (.int .i64 0))], lgP lg d (((clientC (newRep 0 lg) oK []).length : Nat) : Int) ((sizeS (clientC (newRep 0 lg) oK []) : Nat) : Int), dkL d (clientC (newRep 0 lg) oK []), outP b5 (l), blkA b6 [(.bool false), (.bool (e1)), (.bool (e2))] 39]) (Want.met rfl rfl rfl) rfl rfl rfl nm15 rfl (replies_does r { (mK lg e1 e2) with replies := rv } (rK e1 e2) (by have := rK_len e1 e2; omega)) (fun _ s => s) (fun _ _ _ => trivial) (fun vR HR hR => ?_)
  obtain ⟨_, rfl, rfl⟩ := hR
  revert vR
  intro uc2
  change TL _ _ _ _ _ _ _ _ _ [blkA r (RepT.cells ({ mK lg e1 e2 with replies := rv })) 104, own rv ((rK e1 e2).length) (ints (List.flatMap ReplyT.flat (rK e1 e2))) 92 3, own uc2 ((rK e1 e2).length) (ints (List.flatMap ReplyT.flat (rK e1 e2))) 92 3, own uc1 ((rK e1 e2).length) (ints (List.flatMap ReplyT.flat (rK e1 e2))) 92 3, mapB m75 [(true, (.int .i64 1)), (false, (.int .i64 0))], lgP lg d (((clientC (newRep 0 lg) oK []).length : Nat) : Int) ((sizeS (clientC (newRep 0 lg) oK []) : Nat) : Int), dkL d (clientC (newRep 0 lg) oK []), outP b5 (l), blkA b6 [(.bool false), (.bool (e1)), (.bool (e2))] 39]
  refine TL.ownLen 2 rfl rfl (fun hluc2 _ => ?_)
  refine TL.nil ?_
  refine TE.draw (fun _ s => ⟨Frm.of s, s.block 8 (lb rfl) rfl, trivial⟩) ?_
  refine TD.take (i := 20) rfl (by kernel_rfl) (by kernel_rfl) (by kernel_rfl) (fun _ _ _ _ h => h) (Want.met rfl rfl rfl) rfl rfl (PV.lenV rfl Tryz.underlying55 rfl hluc2) ?_
  refine TD.take (i := 21) rfl (by kernel_rfl) (by kernel_rfl) (by kernel_rfl) (fun _ _ _ _ h => h) (Want.met rfl rfl rfl) rfl rfl (PV.eql rfl rfl rfl) ?_
  refine TD.take (i := 22) rfl (by kernel_rfl) (by kernel_rfl) (by kernel_rfl) (fun _ _ _ _ h => h) (Want.plain rfl) rfl rfl (PV.pick rfl rfl rfl) ?_
  refine TD.take (i := 23) rfl (by kernel_rfl) (by kernel_rfl) (by kernel_rfl) (fun _ _ _ _ h => h) (Want.plain rfl) rfl rfl (PV.assign rfl rfl) ?_
  refine TD.done (by kernel_rfl) ?_
  refine TE.next hK28 ?_
  clear hK28
  refine TC.ret ?_
  refine TE.weak (Sub.refl _) (fun _ s => sep_keep [] rfl s) ?_
  refine TE.ret1 rfl rfl ?_
  exact ⟨by first | rfl | simp, rfl⟩
  exact AllT.nil
  exact AllT.nil
  · exact absurd (by rw [h78]; cases e2 <;> rfl) h84
  exact AllT.nil
  exact AllT.nil
  refine AllT.cons rfl ?_ ?_
  refine TL.insertB (i := 0) (H' := [mapB m75 [(true, (.int .i64 1)), (false, (.int .i64 0))], blkA r (RepT.cells ({ mK lg e1 e2 with replies := rv })) 104, lgP lg d (((clientC (newRep 0 lg) oK []).length : Nat) : Int) ((sizeS (clientC (newRep 0 lg) oK []) : Nat) : Int), dkL d (clientC (newRep 0 lg) oK []), own rv ((rK e1 e2).length) (ints (List.flatMap ReplyT.flat (rK e1 e2))) 92 3, outP b5 (l), blkA b6 [(.bool false), (.bool (e1)), (.bool (e2))] 39]) (Want.plain rfl) rfl rfl Tryz.underlying57 Tryz.underlying4 rfl rfl rfl rfl rfl rfl rfl ?_
  refine TL.nil ?_
  refine TE.draw (fun _ s => ⟨Frm.of s, s.block 6 (lb rfl) rfl, trivial⟩) ?_
  refine TD.take (i := 6) rfl (by kernel_rfl) (by kernel_rfl) (by kernel_rfl) (fun _ _ _ _ h => h) (Want.plain rfl) rfl rfl (PV.move rfl rfl) ?_
  refine TD.all [1] (by kernel_rfl) rfl ?_
  refine AllT.cons rfl ?_ ?_
  refine TL.callR (A := [blkA r (RepT.cells ({ mK lg e1 e2 with replies := rv })) 104, own rv ((rK e1 e2).length) (ints (List.flatMap ReplyT.flat (rK e1 e2))) 92 3]) (B := [mapB m75 [(true, (.int .i64 1)), (false, (.int .i64 0))], lgP lg d (((clientC (newRep 0 lg) oK []).length : Nat) : Int) ((sizeS (clientC (newRep 0 lg) oK []) : Nat) : Int), dkL d (clientC (newRep 0 lg) oK []), outP b5 (l), blkA b6 [(.bool false), (.bool (e1)), (.bool (e2))] 39]) (Want.plain rfl) rfl rfl rfl nm15 rfl (replies_does r { (mK lg e1 e2) with replies := rv } (rK e1 e2) (by have := rK_len e1 e2; omega)) (fun _ s => sep_selR [1, 3] rfl s) (fun _ _ _ => trivial) (fun vR HR hR => ?_)
  obtain ⟨_, rfl, rfl⟩ := hR
  revert vR
  intro uc1
  change TL _ _ _ _ _ _ _ _ _ [blkA r (RepT.cells ({ mK lg e1 e2 with replies := rv })) 104, own rv ((rK e1 e2).length) (ints (List.flatMap ReplyT.flat (rK e1 e2))) 92 3, own uc1 ((rK e1 e2).length) (ints (List.flatMap ReplyT.flat (rK e1 e2))) 92 3, mapB m75 [(true, (.int .i64 1)), (false, (.int .i64 0))], lgP lg d (((clientC (newRep 0 lg) oK []).length : Nat) : Int) ((sizeS (clientC (newRep 0 lg) oK []) : Nat) : Int), dkL d (clientC (newRep 0 lg) oK []), outP b5 (l), blkA b6 [(.bool false), (.bool (e1)), (.bool (e2))] 39]
  refine TL.ownLen 2 rfl rfl (fun hluc1 _ => ?_)
  refine TL.nil ?_
  refine TE.draw (fun _ s => ⟨Frm.of s, s.block 7 (lb rfl) rfl, trivial⟩) ?_
  refine TD.take (i := 2) rfl (by kernel_rfl) (by kernel_rfl) (by kernel_rfl) (fun _ _ _ _ h => h) (Want.plain rfl) rfl rfl (PV.lenV rfl Tryz.underlying55 rfl hluc1) ?_
  refine TD.take (i := 9) rfl (by kernel_rfl) (by kernel_rfl) (by kernel_rfl) (fun _ _ _ _ h => h) (Want.plain rfl) rfl rfl (PV.move rfl rfl) ?_
  refine TD.takeNot (i := 10) (b := false) rfl (by kernel_rfl) (by kernel_rfl) (by kernel_rfl) (fun _ _ _ _ h => h) rfl rfl rfl rfl rfl ?_
  refine TD.takeNot (i := 11) (b := false) rfl (by kernel_rfl) (by kernel_rfl) (by kernel_rfl) (fun _ _ _ _ h => h) rfl rfl rfl rfl rfl ?_
  refine TD.take (i := 12) rfl (by kernel_rfl) (by kernel_rfl) (by kernel_rfl) (fun _ _ _ _ h => h) (Want.plain rfl) rfl rfl (PV.pick rfl rfl rfl) ?_
  refine TD.all [13] (by kernel_rfl) rfl ?_
  refine AllT.cons rfl ?_ ?_
  refine tp rfl rfl rfl (PV.lookupB (i := 3) (v := (.int .i64 ((bif false then 1 else 0)))) rfl Tryz.underlying57 Tryz.underlying4 z3 rfl rfl rfl rfl (by rfl)) ?_
  refine TL.nil ?_
  refine TE.draw (fun _ s => ⟨Frm.of s, s.block 7 (lb rfl) rfl, trivial⟩) ?_
  refine TD.take (i := 14) rfl (by kernel_rfl) (by kernel_rfl) (by kernel_rfl) (fun _ _ _ _ h => h) (Want.plain rfl) rfl rfl (PV.eql rfl rfl rfl) ?_
  refine TD.dec (fun h84 => ?_) (fun h84 => ?_)
  refine TD.take (i := 15) rfl (by kernel_rfl) (by kernel_rfl) (by kernel_rfl) (fun _ _ _ _ h => h) (Want.plain rfl) rfl rfl (PV.move rfl rfl) ?_
  refine TD.take (i := 16) rfl (by kernel_rfl) (by kernel_rfl) (by kernel_rfl) (fun _ _ _ _ h => h) (Want.met rfl rfl rfl) rfl rfl (PV.move rfl rfl) ?_
  refine TD.take (i := 18) rfl (by kernel_rfl) (by kernel_rfl) (by kernel_rfl) (fun _ _ _ _ h => h) (Want.met rfl rfl rfl) rfl rfl (PV.move rfl rfl) ?_
  refine TD.all [17] (by kernel_rfl) rfl ?_
  refine AllT.cons rfl ?_ ?_
  refine TL.callR (A := [blkA r (RepT.cells ({ mK lg e1 e2 with replies := rv })) 104]) (B := [own rv ((rK e1 e2).length) (ints (List.flatMap ReplyT.flat (rK e1 e2))) 92 3, own uc1 ((rK e1 e2).length) (ints (List.flatMap ReplyT.flat (rK e1 e2))) 92 3, mapB m75 [(true, (.int .i64 1)), (false, (.int .i64 0))], lgP lg d (((clientC (newRep 0 lg) oK []).length : Nat) : Int) ((sizeS (clientC (newRep 0 lg) oK []) : Nat) : Int), dkL d (clientC (newRep 0 lg) oK []), outP b5 (l), blkA b6 [(.bool false), (.bool (e1)), (.bool (e2))] 39]) (Want.met rfl rfl rfl) rfl rfl rfl nm16 rfl (rValueL_does r (mK lg e1 e2) rv 0) (fun _ s => s) (fun _ _ _ => trivial) (fun vR HR hR => ?_)
  obtain ⟨hv, rfl⟩ := hR
  rw [mK_value] at hv
  subst hv
  change TL _ _ _ _ _ _ _ _ _ [blkA r (RepT.cells ({ mK lg e1 e2 with replies := rv })) 104, own rv ((rK e1 e2).length) (ints (List.flatMap ReplyT.flat (rK e1 e2))) 92 3, own uc1 ((rK e1 e2).length) (ints (List.flatMap ReplyT.flat (rK e1 e2))) 92 3, mapB m75 [(true, (.int .i64 1)), (false, (.int .i64 0))], lgP lg d (((clientC (newRep 0 lg) oK []).length : Nat) : Int) ((sizeS (clientC (newRep 0 lg) oK []) : Nat) : Int), dkL d (clientC (newRep 0 lg) oK []), outP b5 (l), blkA b6 [(.bool false), (.bool (e1)), (.bool (e2))] 39]
  refine TL.nil ?_
  refine TE.draw (fun _ s => ⟨Frm.of s, s.block 7 (lb rfl) rfl, trivial⟩) ?_
  refine TD.all [19] (by kernel_rfl) rfl ?_
  refine AllT.cons rfl ?_ ?_
  refine TL.callR (A := [blkA r (RepT.cells ({ mK lg e1 e2 with replies := rv })) 104, own rv ((rK e1 e2).length) (ints (List.flatMap ReplyT.flat (rK e1 e2))) 92 3]) (B := [own uc1 ((rK e1 e2).length) (ints (List.flatMap ReplyT.flat (rK e1 e2))) 92 3, mapB m75 [(true, (.int .i64 1)), (false, (.int .i64 0))], lgP lg d (((clientC (newRep 0 lg) oK []).length : Nat) : Int) ((sizeS (clientC (newRep 0 lg) oK []) : Nat) : Int), dkL d (clientC (newRep 0 lg) oK []), outP b5 (l), blkA b6 [(.bool false), (.bool (e1)), (.bool (e2))] 39]) (Want.met rfl rfl rfl) rfl rfl rfl nm15 rfl (replies_does r { (mK lg e1 e2) with replies := rv } (rK e1 e2) (by have := rK_len e1 e2; omega)) (fun _ s => s) (fun _ _ _ => trivial) (fun vR HR hR => ?_)
  obtain ⟨_, rfl, rfl⟩ := hR
  revert vR
  intro uc2
  change TL _ _ _ _ _ _ _ _ _ [blkA r (RepT.cells ({ mK lg e1 e2 with replies := rv })) 104, own rv ((rK e1 e2).length) (ints (List.flatMap ReplyT.flat (rK e1 e2))) 92 3, own uc2 ((rK e1 e2).length) (ints (List.flatMap ReplyT.flat (rK e1 e2))) 92 3, own uc1 ((rK e1 e2).length) (ints (List.flatMap ReplyT.flat (rK e1 e2))) 92 3, mapB m75 [(true, (.int .i64 1)), (false, (.int .i64 0))], lgP lg d (((clientC (newRep 0 lg) oK []).length : Nat) : Int) ((sizeS (clientC (newRep 0 lg) oK []) : Nat) : Int), dkL d (clientC (newRep 0 lg) oK []), outP b5 (l), blkA b6 [(.bool false), (.bool (e1)), (.bool (e2))] 39]
  refine TL.ownLen 2 rfl rfl (fun hluc2 _ => ?_)
  refine TL.nil ?_
  refine TE.draw (fun _ s => ⟨Frm.of s, s.block 8 (lb rfl) rfl, trivial⟩) ?_
  refine TD.take (i := 20) rfl (by kernel_rfl) (by kernel_rfl) (by kernel_rfl) (fun _ _ _ _ h => h) (Want.met rfl rfl rfl) rfl rfl (PV.lenV rfl Tryz.underlying55 rfl hluc2) ?_
  refine TD.take (i := 21) rfl (by kernel_rfl) (by kernel_rfl) (by kernel_rfl) (fun _ _ _ _ h => h) (Want.met rfl rfl rfl) rfl rfl (PV.eql rfl rfl rfl) ?_
  refine TD.take (i := 22) rfl (by kernel_rfl) (by kernel_rfl) (by kernel_rfl) (fun _ _ _ _ h => h) (Want.plain rfl) rfl rfl (PV.pick rfl rfl rfl) ?_
  refine TD.take (i := 23) rfl (by kernel_rfl) (by kernel_rfl) (by kernel_rfl) (fun _ _ _ _ h => h) (Want.plain rfl) rfl rfl (PV.assign rfl rfl) ?_
  refine TD.done (by kernel_rfl) ?_
  refine TE.next hK28 ?_
  clear hK28
  refine TC.ret ?_
  refine TE.weak (Sub.refl _) (fun _ s => sep_keep [] rfl s) ?_
  refine TE.ret1 rfl rfl ?_
  exact ⟨by first | rfl | simp, rfl⟩
  exact AllT.nil
  exact AllT.nil
  · exact absurd (by rw [h78]; cases e2 <;> rfl) h84
  exact AllT.nil
  exact AllT.nil
  exact AllT.nil
  refine AllT.cons rfl ?_ ?_
  refine TL.insertB (i := 0) (H' := [mapB m75 [(false, (.int .i64 0))], blkA r (RepT.cells ({ mK lg e1 e2 with replies := rv })) 104, lgP lg d (((clientC (newRep 0 lg) oK []).length : Nat) : Int) ((sizeS (clientC (newRep 0 lg) oK []) : Nat) : Int), dkL d (clientC (newRep 0 lg) oK []), own rv ((rK e1 e2).length) (ints (List.flatMap ReplyT.flat (rK e1 e2))) 92 3, outP b5 (l), blkA b6 [(.bool false), (.bool (e1)), (.bool (e2))] 39]) (Want.plain rfl) rfl rfl Tryz.underlying57 Tryz.underlying4 rfl rfl rfl rfl rfl rfl rfl ?_
  refine TL.nil ?_
  refine TE.draw (fun _ s => ⟨Frm.of s, s.block 6 (lb rfl) rfl, trivial⟩) ?_
  refine TD.all [1, 4] (by kernel_rfl) rfl ?_
  refine AllT.cons rfl ?_ ?_
  refine TL.callR (A := [blkA r (RepT.cells ({ mK lg e1 e2 with replies := rv })) 104, own rv ((rK e1 e2).length) (ints (List.flatMap ReplyT.flat (rK e1 e2))) 92 3]) (B := [mapB m75 [(false, (.int .i64 0))], lgP lg d (((clientC (newRep 0 lg) oK []).length : Nat) : Int) ((sizeS (clientC (newRep 0 lg) oK []) : Nat) : Int), dkL d (clientC (newRep 0 lg) oK []), outP b5 (l), blkA b6 [(.bool false), (.bool (e1)), (.bool (e2))] 39]) (Want.plain rfl) rfl rfl rfl nm15 rfl (replies_does r { (mK lg e1 e2) with replies := rv } (rK e1 e2) (by have := rK_len e1 e2; omega)) (fun _ s => sep_selR [1, 3] rfl s) (fun _ _ _ => trivial) (fun vR HR hR => ?_)
  obtain ⟨_, rfl, rfl⟩ := hR
  revert vR
  intro uc1
  change TL _ _ _ _ _ _ _ _ _ [blkA r (RepT.cells ({ mK lg e1 e2 with replies := rv })) 104, own rv ((rK e1 e2).length) (ints (List.flatMap ReplyT.flat (rK e1 e2))) 92 3, own uc1 ((rK e1 e2).length) (ints (List.flatMap ReplyT.flat (rK e1 e2))) 92 3, mapB m75 [(false, (.int .i64 0))], lgP lg d (((clientC (newRep 0 lg) oK []).length : Nat) : Int) ((sizeS (clientC (newRep 0 lg) oK []) : Nat) : Int), dkL d (clientC (newRep 0 lg) oK []), outP b5 (l), blkA b6 [(.bool false), (.bool (e1)), (.bool (e2))] 39]
  refine TL.ownLen 2 rfl rfl (fun hluc1 _ => ?_)
  refine TL.nil ?_
  refine TE.draw (fun _ s => ⟨Frm.of s, s.block 7 (lb rfl) rfl, trivial⟩) ?_
  refine TD.take (i := 2) rfl (by kernel_rfl) (by kernel_rfl) (by kernel_rfl) (fun _ _ _ _ h => h) (Want.plain rfl) rfl rfl (PV.lenV rfl Tryz.underlying55 rfl hluc1) ?_
  refine TD.take (i := 9) rfl (by kernel_rfl) (by kernel_rfl) (by kernel_rfl) (fun _ _ _ _ h => h) (Want.plain rfl) rfl rfl (PV.move rfl rfl) ?_
  refine TD.takeNot (i := 10) (b := false) rfl (by kernel_rfl) (by kernel_rfl) (by kernel_rfl) (fun _ _ _ _ h => h) rfl rfl rfl rfl rfl ?_
  refine TD.takeNot (i := 11) (b := false) rfl (by kernel_rfl) (by kernel_rfl) (by kernel_rfl) (fun _ _ _ _ h => h) rfl rfl rfl rfl rfl ?_
  refine TD.take (i := 12) rfl (by kernel_rfl) (by kernel_rfl) (by kernel_rfl) (fun _ _ _ _ h => h) (Want.plain rfl) rfl rfl (PV.pick rfl rfl rfl) ?_
  refine TD.all [4] (by kernel_rfl) rfl ?_
  refine AllT.cons rfl ?_ ?_
  refine TL.insertB (i := 3) (H' := [blkA r (RepT.cells ({ mK lg e1 e2 with replies := rv })) 104, own rv ((rK e1 e2).length) (ints (List.flatMap ReplyT.flat (rK e1 e2))) 92 3, own uc1 ((rK e1 e2).length) (ints (List.flatMap ReplyT.flat (rK e1 e2))) 92 3, mapB m75 [(false, (.int .i64 0)), (true, (.int .i64 1))], lgP lg d (((clientC (newRep 0 lg) oK []).length : Nat) : Int) ((sizeS (clientC (newRep 0 lg) oK []) : Nat) : Int), dkL d (clientC (newRep 0 lg) oK []), outP b5 (l), blkA b6 [(.bool false), (.bool (e1)), (.bool (e2))] 39]) (Want.plain rfl) rfl rfl Tryz.underlying57 Tryz.underlying4 rfl rfl rfl rfl rfl rfl rfl ?_
  refine TL.nil ?_
  refine TE.draw (fun _ s => ⟨Frm.of s, s.block 7 (lb rfl) rfl, trivial⟩) ?_
  refine TD.take (i := 6) rfl (by kernel_rfl) (by kernel_rfl) (by kernel_rfl) (fun _ _ _ _ h => h) (Want.plain rfl) rfl rfl (PV.move rfl rfl) ?_
  refine TD.all [13] (by kernel_rfl) rfl ?_
  refine AllT.cons rfl ?_ ?_
  refine tp rfl rfl rfl (PV.lookupB (i := 3) (v := (.int .i64 ((bif false then 1 else 0)))) rfl Tryz.underlying57 Tryz.underlying4 z3 rfl rfl rfl rfl (by rfl)) ?_
  refine TL.nil ?_
  refine TE.draw (fun _ s => ⟨Frm.of s, s.block 7 (lb rfl) rfl, trivial⟩) ?_
  refine TD.take (i := 14) rfl (by kernel_rfl) (by kernel_rfl) (by kernel_rfl) (fun _ _ _ _ h => h) (Want.plain rfl) rfl rfl (PV.eql rfl rfl rfl) ?_
  refine TD.dec (fun h84 => ?_) (fun h84 => ?_)
  refine TD.take (i := 15) rfl (by kernel_rfl) (by kernel_rfl) (by kernel_rfl) (fun _ _ _ _ h => h) (Want.plain rfl) rfl rfl (PV.move rfl rfl) ?_
  refine TD.take (i := 16) rfl (by kernel_rfl) (by kernel_rfl) (by kernel_rfl) (fun _ _ _ _ h => h) (Want.met rfl rfl rfl) rfl rfl (PV.move rfl rfl) ?_
  refine TD.take (i := 18) rfl (by kernel_rfl) (by kernel_rfl) (by kernel_rfl) (fun _ _ _ _ h => h) (Want.met rfl rfl rfl) rfl rfl (PV.move rfl rfl) ?_
  refine TD.all [17] (by kernel_rfl) rfl ?_
  refine AllT.cons rfl ?_ ?_
  refine TL.callR (A := [blkA r (RepT.cells ({ mK lg e1 e2 with replies := rv })) 104]) (B := [own rv ((rK e1 e2).length) (ints (List.flatMap ReplyT.flat (rK e1 e2))) 92 3, own uc1 ((rK e1 e2).length) (ints (List.flatMap ReplyT.flat (rK e1 e2))) 92 3, mapB m75 [(false, (.int .i64 0)), (true, (.int .i64 1))], lgP lg d (((clientC (newRep 0 lg) oK []).length : Nat) : Int) ((sizeS (clientC (newRep 0 lg) oK []) : Nat) : Int), dkL d (clientC (newRep 0 lg) oK []), outP b5 (l), blkA b6 [(.bool false), (.bool (e1)), (.bool (e2))] 39]) (Want.met rfl rfl rfl) rfl rfl rfl nm16 rfl (rValueL_does r (mK lg e1 e2) rv 0) (fun _ s => s) (fun _ _ _ => trivial) (fun vR HR hR => ?_)
  obtain ⟨hv, rfl⟩ := hR
  rw [mK_value] at hv
  subst hv
  change TL _ _ _ _ _ _ _ _ _ [blkA r (RepT.cells ({ mK lg e1 e2 with replies := rv })) 104, own rv ((rK e1 e2).length) (ints (List.flatMap ReplyT.flat (rK e1 e2))) 92 3, own uc1 ((rK e1 e2).length) (ints (List.flatMap ReplyT.flat (rK e1 e2))) 92 3, mapB m75 [(false, (.int .i64 0)), (true, (.int .i64 1))], lgP lg d (((clientC (newRep 0 lg) oK []).length : Nat) : Int) ((sizeS (clientC (newRep 0 lg) oK []) : Nat) : Int), dkL d (clientC (newRep 0 lg) oK []), outP b5 (l), blkA b6 [(.bool false), (.bool (e1)), (.bool (e2))] 39]
  refine TL.nil ?_
  refine TE.draw (fun _ s => ⟨Frm.of s, s.block 7 (lb rfl) rfl, trivial⟩) ?_
  refine TD.all [19] (by kernel_rfl) rfl ?_
  refine AllT.cons rfl ?_ ?_
  refine TL.callR (A := [blkA r (RepT.cells ({ mK lg e1 e2 with replies := rv })) 104, own rv ((rK e1 e2).length) (ints (List.flatMap ReplyT.flat (rK e1 e2))) 92 3]) (B := [own uc1 ((rK e1 e2).length) (ints (List.flatMap ReplyT.flat (rK e1 e2))) 92 3, mapB m75 [(false, (.int .i64 0)), (true, (.int .i64 1))], lgP lg d (((clientC (newRep 0 lg) oK []).length : Nat) : Int) ((sizeS (clientC (newRep 0 lg) oK []) : Nat) : Int), dkL d (clientC (newRep 0 lg) oK []), outP b5 (l), blkA b6 [(.bool false), (.bool (e1)), (.bool (e2))] 39]) (Want.met rfl rfl rfl) rfl rfl rfl nm15 rfl (replies_does r { (mK lg e1 e2) with replies := rv } (rK e1 e2) (by have := rK_len e1 e2; omega)) (fun _ s => s) (fun _ _ _ => trivial) (fun vR HR hR => ?_)
  obtain ⟨_, rfl, rfl⟩ := hR
  revert vR
  intro uc2
  change TL _ _ _ _ _ _ _ _ _ [blkA r (RepT.cells ({ mK lg e1 e2 with replies := rv })) 104, own rv ((rK e1 e2).length) (ints (List.flatMap ReplyT.flat (rK e1 e2))) 92 3, own uc2 ((rK e1 e2).length) (ints (List.flatMap ReplyT.flat (rK e1 e2))) 92 3, own uc1 ((rK e1 e2).length) (ints (List.flatMap ReplyT.flat (rK e1 e2))) 92 3, mapB m75 [(false, (.int .i64 0)), (true, (.int .i64 1))], lgP lg d (((clientC (newRep 0 lg) oK []).length : Nat) : Int) ((sizeS (clientC (newRep 0 lg) oK []) : Nat) : Int), dkL d (clientC (newRep 0 lg) oK []), outP b5 (l), blkA b6 [(.bool false), (.bool (e1)), (.bool (e2))] 39]
  refine TL.ownLen 2 rfl rfl (fun hluc2 _ => ?_)
  refine TL.nil ?_
  refine TE.draw (fun _ s => ⟨Frm.of s, s.block 8 (lb rfl) rfl, trivial⟩) ?_
  refine TD.take (i := 20) rfl (by kernel_rfl) (by kernel_rfl) (by kernel_rfl) (fun _ _ _ _ h => h) (Want.met rfl rfl rfl) rfl rfl (PV.lenV rfl Tryz.underlying55 rfl hluc2) ?_
  refine TD.take (i := 21) rfl (by kernel_rfl) (by kernel_rfl) (by kernel_rfl) (fun _ _ _ _ h => h) (Want.met rfl rfl rfl) rfl rfl (PV.eql rfl rfl rfl) ?_
  refine TD.take (i := 22) rfl (by kernel_rfl) (by kernel_rfl) (by kernel_rfl) (fun _ _ _ _ h => h) (Want.plain rfl) rfl rfl (PV.pick rfl rfl rfl) ?_
  refine TD.take (i := 23) rfl (by kernel_rfl) (by kernel_rfl) (by kernel_rfl) (fun _ _ _ _ h => h) (Want.plain rfl) rfl rfl (PV.assign rfl rfl) ?_
  refine TD.done (by kernel_rfl) ?_
  refine TE.next hK28 ?_
  clear hK28
  refine TC.ret ?_
  refine TE.weak (Sub.refl _) (fun _ s => sep_keep [] rfl s) ?_
  refine TE.ret1 rfl rfl ?_
  exact ⟨by first | rfl | simp, rfl⟩
  exact AllT.nil
  exact AllT.nil
  · exact absurd (by rw [h78]; cases e2 <;> rfl) h84
  exact AllT.nil
  exact AllT.nil
  refine AllT.cons rfl ?_ ?_
  refine TL.insertB (i := 0) (H' := [mapB m75 [(false, (.int .i64 0)), (true, (.int .i64 1))], blkA r (RepT.cells ({ mK lg e1 e2 with replies := rv })) 104, lgP lg d (((clientC (newRep 0 lg) oK []).length : Nat) : Int) ((sizeS (clientC (newRep 0 lg) oK []) : Nat) : Int), dkL d (clientC (newRep 0 lg) oK []), own rv ((rK e1 e2).length) (ints (List.flatMap ReplyT.flat (rK e1 e2))) 92 3, outP b5 (l), blkA b6 [(.bool false), (.bool (e1)), (.bool (e2))] 39]) (Want.plain rfl) rfl rfl Tryz.underlying57 Tryz.underlying4 rfl rfl rfl rfl rfl rfl rfl ?_
  refine TL.nil ?_
  refine TE.draw (fun _ s => ⟨Frm.of s, s.block 6 (lb rfl) rfl, trivial⟩) ?_
  refine TD.take (i := 6) rfl (by kernel_rfl) (by kernel_rfl) (by kernel_rfl) (fun _ _ _ _ h => h) (Want.plain rfl) rfl rfl (PV.move rfl rfl) ?_
  refine TD.all [1] (by kernel_rfl) rfl ?_
  refine AllT.cons rfl ?_ ?_
  refine TL.callR (A := [blkA r (RepT.cells ({ mK lg e1 e2 with replies := rv })) 104, own rv ((rK e1 e2).length) (ints (List.flatMap ReplyT.flat (rK e1 e2))) 92 3]) (B := [mapB m75 [(false, (.int .i64 0)), (true, (.int .i64 1))], lgP lg d (((clientC (newRep 0 lg) oK []).length : Nat) : Int) ((sizeS (clientC (newRep 0 lg) oK []) : Nat) : Int), dkL d (clientC (newRep 0 lg) oK []), outP b5 (l), blkA b6 [(.bool false), (.bool (e1)), (.bool (e2))] 39]) (Want.plain rfl) rfl rfl rfl nm15 rfl (replies_does r { (mK lg e1 e2) with replies := rv } (rK e1 e2) (by have := rK_len e1 e2; omega)) (fun _ s => sep_selR [1, 3] rfl s) (fun _ _ _ => trivial) (fun vR HR hR => ?_)
  obtain ⟨_, rfl, rfl⟩ := hR
  revert vR
  intro uc1
  change TL _ _ _ _ _ _ _ _ _ [blkA r (RepT.cells ({ mK lg e1 e2 with replies := rv })) 104, own rv ((rK e1 e2).length) (ints (List.flatMap ReplyT.flat (rK e1 e2))) 92 3, own uc1 ((rK e1 e2).length) (ints (List.flatMap ReplyT.flat (rK e1 e2))) 92 3, mapB m75 [(false, (.int .i64 0)), (true, (.int .i64 1))], lgP lg d (((clientC (newRep 0 lg) oK []).length : Nat) : Int) ((sizeS (clientC (newRep 0 lg) oK []) : Nat) : Int), dkL d (clientC (newRep 0 lg) oK []), outP b5 (l), blkA b6 [(.bool false), (.bool (e1)), (.bool (e2))] 39]
  refine TL.ownLen 2 rfl rfl (fun hluc1 _ => ?_)
  refine TL.nil ?_
  refine TE.draw (fun _ s => ⟨Frm.of s, s.block 7 (lb rfl) rfl, trivial⟩) ?_
  refine TD.take (i := 2) rfl (by kernel_rfl) (by kernel_rfl) (by kernel_rfl) (fun _ _ _ _ h => h) (Want.plain rfl) rfl rfl (PV.lenV rfl Tryz.underlying55 rfl hluc1) ?_
  refine TD.take (i := 9) rfl (by kernel_rfl) (by kernel_rfl) (by kernel_rfl) (fun _ _ _ _ h => h) (Want.plain rfl) rfl rfl (PV.move rfl rfl) ?_
  refine TD.takeNot (i := 10) (b := false) rfl (by kernel_rfl) (by kernel_rfl) (by kernel_rfl) (fun _ _ _ _ h => h) rfl rfl rfl rfl rfl ?_
  refine TD.takeNot (i := 11) (b := false) rfl (by kernel_rfl) (by kernel_rfl) (by kernel_rfl) (fun _ _ _ _ h => h) rfl rfl rfl rfl rfl ?_
  refine TD.take (i := 12) rfl (by kernel_rfl) (by kernel_rfl) (by kernel_rfl) (fun _ _ _ _ h => h) (Want.plain rfl) rfl rfl (PV.pick rfl rfl rfl) ?_
  refine TD.all [13] (by kernel_rfl) rfl ?_
  refine AllT.cons rfl ?_ ?_
  refine tp rfl rfl rfl (PV.lookupB (i := 3) (v := (.int .i64 ((bif false then 1 else 0)))) rfl Tryz.underlying57 Tryz.underlying4 z3 rfl rfl rfl rfl (by rfl)) ?_
  refine TL.nil ?_
  refine TE.draw (fun _ s => ⟨Frm.of s, s.block 7 (lb rfl) rfl, trivial⟩) ?_
  refine TD.take (i := 14) rfl (by kernel_rfl) (by kernel_rfl) (by kernel_rfl) (fun _ _ _ _ h => h) (Want.plain rfl) rfl rfl (PV.eql rfl rfl rfl) ?_
  refine TD.dec (fun h84 => ?_) (fun h84 => ?_)
  refine TD.take (i := 15) rfl (by kernel_rfl) (by kernel_rfl) (by kernel_rfl) (fun _ _ _ _ h => h) (Want.plain rfl) rfl rfl (PV.move rfl rfl) ?_
  refine TD.take (i := 16) rfl (by kernel_rfl) (by kernel_rfl) (by kernel_rfl) (fun _ _ _ _ h => h) (Want.met rfl rfl rfl) rfl rfl (PV.move rfl rfl) ?_
  refine TD.take (i := 18) rfl (by kernel_rfl) (by kernel_rfl) (by kernel_rfl) (fun _ _ _ _ h => h) (Want.met rfl rfl rfl) rfl rfl (PV.move rfl rfl) ?_
  refine TD.all [17] (by kernel_rfl) rfl ?_
  refine AllT.cons rfl ?_ ?_
  refine TL.callR (A := [blkA r (RepT.cells ({ mK lg e1 e2 with replies := rv })) 104]) (B := [own rv ((rK e1 e2).length) (ints (List.flatMap ReplyT.flat (rK e1 e2))) 92 3, own uc1 ((rK e1 e2).length) (ints (List.flatMap ReplyT.flat (rK e1 e2))) 92 3, mapB m75 [(false, (.int .i64 0)), (true, (.int .i64 1))], lgP lg d (((clientC (newRep 0 lg) oK []).length : Nat) : Int) ((sizeS (clientC (newRep 0 lg) oK []) : Nat) : Int), dkL d (clientC (newRep 0 lg) oK []), outP b5 (l), blkA b6 [(.bool false), (.bool (e1)), (.bool (e2))] 39]) (Want.met rfl rfl rfl) rfl rfl rfl nm16 rfl (rValueL_does r (mK lg e1 e2) rv 0) (fun _ s => s) (fun _ _ _ => trivial) (fun vR HR hR => ?_)
  obtain ⟨hv, rfl⟩ := hR
  rw [mK_value] at hv
  subst hv
  change TL _ _ _ _ _ _ _ _ _ [blkA r (RepT.cells ({ mK lg e1 e2 with replies := rv })) 104, own rv ((rK e1 e2).length) (ints (List.flatMap ReplyT.flat (rK e1 e2))) 92 3, own uc1 ((rK e1 e2).length) (ints (List.flatMap ReplyT.flat (rK e1 e2))) 92 3, mapB m75 [(false, (.int .i64 0)), (true, (.int .i64 1))], lgP lg d (((clientC (newRep 0 lg) oK []).length : Nat) : Int) ((sizeS (clientC (newRep 0 lg) oK []) : Nat) : Int), dkL d (clientC (newRep 0 lg) oK []), outP b5 (l), blkA b6 [(.bool false), (.bool (e1)), (.bool (e2))] 39]
  refine TL.nil ?_
  refine TE.draw (fun _ s => ⟨Frm.of s, s.block 7 (lb rfl) rfl, trivial⟩) ?_
  refine TD.all [19] (by kernel_rfl) rfl ?_
  refine AllT.cons rfl ?_ ?_
  refine TL.callR (A := [blkA r (RepT.cells ({ mK lg e1 e2 with replies := rv })) 104, own rv ((rK e1 e2).length) (ints (List.flatMap ReplyT.flat (rK e1 e2))) 92 3]) (B := [own uc1 ((rK e1 e2).length) (ints (List.flatMap ReplyT.flat (rK e1 e2))) 92 3, mapB m75 [(false, (.int .i64 0)), (true, (.int .i64 1))], lgP lg d (((clientC (newRep 0 lg) oK []).length : Nat) : Int) ((sizeS (clientC (newRep 0 lg) oK []) : Nat) : Int), dkL d (clientC (newRep 0 lg) oK []), outP b5 (l), blkA b6 [(.bool false), (.bool (e1)), (.bool (e2))] 39]) (Want.met rfl rfl rfl) rfl rfl rfl nm15 rfl (replies_does r { (mK lg e1 e2) with replies := rv } (rK e1 e2) (by have := rK_len e1 e2; omega)) (fun _ s => s) (fun _ _ _ => trivial) (fun vR HR hR => ?_)
  obtain ⟨_, rfl, rfl⟩ := hR
  revert vR
  intro uc2
  change TL _ _ _ _ _ _ _ _ _ [blkA r (RepT.cells ({ mK lg e1 e2 with replies := rv })) 104, own rv ((rK e1 e2).length) (ints (List.flatMap ReplyT.flat (rK e1 e2))) 92 3, own uc2 ((rK e1 e2).length) (ints (List.flatMap ReplyT.flat (rK e1 e2))) 92 3, own uc1 ((rK e1 e2).length) (ints (List.flatMap ReplyT.flat (rK e1 e2))) 92 3, mapB m75 [(false, (.int .i64 0)), (true, (.int .i64 1))], lgP lg d (((clientC (newRep 0 lg) oK []).length : Nat) : Int) ((sizeS (clientC (newRep 0 lg) oK []) : Nat) : Int), dkL d (clientC (newRep 0 lg) oK []), outP b5 (l), blkA b6 [(.bool false), (.bool (e1)), (.bool (e2))] 39]
  refine TL.ownLen 2 rfl rfl (fun hluc2 _ => ?_)
  refine TL.nil ?_
  refine TE.draw (fun _ s => ⟨Frm.of s, s.block 8 (lb rfl) rfl, trivial⟩) ?_
  refine TD.take (i := 20) rfl (by kernel_rfl) (by kernel_rfl) (by kernel_rfl) (fun _ _ _ _ h => h) (Want.met rfl rfl rfl) rfl rfl (PV.lenV rfl Tryz.underlying55 rfl hluc2) ?_
  refine TD.take (i := 21) rfl (by kernel_rfl) (by kernel_rfl) (by kernel_rfl) (fun _ _ _ _ h => h) (Want.met rfl rfl rfl) rfl rfl (PV.eql rfl rfl rfl) ?_
  refine TD.take (i := 22) rfl (by kernel_rfl) (by kernel_rfl) (by kernel_rfl) (fun _ _ _ _ h => h) (Want.plain rfl) rfl rfl (PV.pick rfl rfl rfl) ?_
  refine TD.take (i := 23) rfl (by kernel_rfl) (by kernel_rfl) (by kernel_rfl) (fun _ _ _ _ h => h) (Want.plain rfl) rfl rfl (PV.assign rfl rfl) ?_
  refine TD.done (by kernel_rfl) ?_
  refine TE.next hK28 ?_
  clear hK28
  refine TC.ret ?_
  refine TE.weak (Sub.refl _) (fun _ s => sep_keep [] rfl s) ?_
  refine TE.ret1 rfl rfl ?_
  exact ⟨by first | rfl | simp, rfl⟩
  exact AllT.nil
  exact AllT.nil
  · exact absurd (by rw [h78]; cases e2 <;> rfl) h84
  exact AllT.nil
  exact AllT.nil
  exact AllT.nil
  exact AllT.nil
  exact AllT.nil
end Go.Proofs.YtfceaphohlbnbaaGreat
end
