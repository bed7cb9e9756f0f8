/-
  Joined texts: what a statement's proof reaches.
-/
import Derived.Test.YtfceaphohlbnbaaGreatPRuns6
section
namespace Go.Proofs.YtfceaphohlbnbaaGreat

open Go Leg Codec Api Dsk Wal

set_option linter.unusedSimpArgs false
set_option linter.unusedVariables false

set_option maxRecDepth 100000

set_option maxHeartbeats 8000000

theorem replicaRuns_does (x : Value) (l0 : List (List Int)) :
    Does Tryz.prog 4 #[x] (IsL 4 EA x l0) [] (Ret (fun r' H => r' = .bool true ∧ H = [])) := by
  refine Does.body (vs := [x]) (n := 254) Tryz.func4 rfl rfl rfl (fun w0 F hF => ?_)
  refine TC.seq (fun K1 hK1 => ?_)
  refine TC.region ?_
  refine tp rfl rfl rfl (PV.assign rfl rfl) ?_
  refine TL.nil ?_
  refine TE.next hK1 ?_
  clear hK1
  refine TC.seq (fun K2 hK2 => ?_)
  refine TC.seq (fun K3 hK3 => ?_)
  refine TC.region ?_
  refine TL.callR (A := []) (B := []) (Want.plain rfl) rfl rfl rfl nm9 rfl (fit_does) (fun _ s => s) (fun _ _ _ => trivial) (fun vR HR hR => ?_)
  obtain ⟨rfl, rfl⟩ := hR
  change TL _ _ _ _ _ _ _ _ _ []
  refine tp rfl rfl rfl (PV.not (r := false) rfl rfl rfl) ?_
  refine TL.nil ?_
  refine TE.next hK3 ?_
  clear hK3
  refine TC.no rfl ?_
  refine TC.skip ?_
  refine TE.next hK2 ?_
  clear hK2
  refine TC.seq (fun K4 hK4 => ?_)
  refine TC.seq (fun K5 hK5 => ?_)
  refine TC.region ?_
  refine tp rfl rfl rfl (PV.move rfl rfl) ?_
  refine tp rfl rfl rfl (PV.lenV rfl Tryz.underlying60 rfl hF.len) ?_
  refine tp rfl rfl rfl (PV.gtr rfl rfl rfl) ?_
  refine TL.dec (fun h27 => ?_) (fun h27 => ?_)
  refine TL.nil ?_
  refine TE.next hK5 ?_
  clear hK5
  refine TC.yes rfl ?_
  refine TC.seq (fun K6 hK6 => ?_)
  refine TC.region ?_
  refine tp rfl rfl rfl (PV.assign rfl rfl) ?_
  refine TL.nil ?_
  refine TE.next hK6 ?_
  clear hK6
  refine TC.ret ?_
  refine TE.passRet ?_
  clear hK4
  refine TE.weak (Sub.refl _) (fun _ s => sep_keep [] rfl s) ?_
  refine TE.ret1 rfl rfl ?_
  exact ⟨rfl, rfl⟩
  refine TL.nil ?_
  refine TE.next hK5 ?_
  clear hK5
  refine TC.no rfl ?_
  refine TC.skip ?_
  refine TE.next hK4 ?_
  clear hK4
  refine TC.seq (fun K7 hK7 => ?_)
  refine TC.region ?_
  refine TL.callR (A := []) (B := []) (Want.plain rfl) rfl rfl rfl nm11 rfl (dkNew_does) (fun _ s => s) (fun _ _ _ => trivial) (fun vR HR hR => ?_)
  obtain ⟨d, rfl, rfl⟩ := hR
  change TL _ _ _ _ _ _ _ _ _ [dkL d ([])]
  refine tp rfl rfl rfl (PV.assign rfl rfl) ?_
  refine TL.nil ?_
  refine TE.next hK7 ?_
  clear hK7
  refine TC.seq (fun K8 hK8 => ?_)
  refine TC.region ?_
  refine tp rfl rfl rfl (PV.move rfl rfl) ?_
  refine TL.callR (A := [dkL d ([])]) (B := []) (Want.plain rfl) rfl rfl rfl nm10 rfl (start0_does 0 d) (fun _ s => s) (fun _ _ _ => trivial) (fun vR HR hR => ?_)
  obtain ⟨r, lg, rfl, rfl⟩ := hR
  change TL _ _ _ _ _ _ _ _ _ [blkA r (RepT.cells ({ newRep 0 lg with replies := (.slice none 0 0) })) 104, lgP lg d ((([]).length : Nat) : Int) ((sizeS ([]) : Nat) : Int), dkL d ([])]
  have hL0 := Lone.new 0 lg 0
  have hrn : ([] : List ReplyT).length = 0 := rfl
  refine TL.ownNilI 92 3 (fun _ => ?_)
  change TL _ _ _ _ _ _ _ _ _ [own (.slice none 0 0) ((([] : List ReplyT)).length) (ints (List.flatMap ReplyT.flat (([] : List ReplyT)))) 92 3, blkA r (RepT.cells ({ newRep 0 lg with replies := (.slice none 0 0) })) 104, lgP lg d ((([]).length : Nat) : Int) ((sizeS ([]) : Nat) : Int), dkL d ([])]
  refine tp rfl rfl rfl (PV.move rfl rfl) ?_
  refine tp rfl rfl rfl (PV.extract (vs := [(.pointer (some ⟨r, 0, none⟩)), (.int .i64 0)]) rfl rfl rfl) ?_
  refine tp rfl rfl rfl (PV.extract (vs := [(.pointer (some ⟨r, 0, none⟩)), (.int .i64 0)]) rfl rfl rfl) ?_
  refine tp rfl rfl rfl (PV.assign rfl rfl) ?_
  refine tp rfl rfl rfl (PV.assign rfl rfl) ?_
  refine TL.nil ?_
  refine TE.next hK8 ?_
  clear hK8
  refine TC.seq (fun K9 hK9 => ?_)
  refine TC.region ?_
  refine TL.alloc (Want.plain rfl) rfl rfl rfl z32 (fun b6 => ?_)
  change TL _ _ _ _ _ _ _ _ _ [blkA b6 [(.slice none 0 0)] 32, own (.slice none 0 0) ((([] : List ReplyT)).length) (ints (List.flatMap ReplyT.flat (([] : List ReplyT)))) 92 3, blkA r (RepT.cells ({ newRep 0 lg with replies := (.slice none 0 0) })) 104, lgP lg d ((([]).length : Nat) : Int) ((sizeS ([]) : Nat) : Int), dkL d ([])]
  refine TL.nil ?_
  refine TE.next hK9 ?_
  clear hK9
  refine TC.seq (fun K10 hK10 => ?_)
  refine TC.region ?_
  refine outNew ?_
  change TL _ _ _ _ _ _ _ _ _ [outP b6 ([]), own (.slice none 0 0) ((([] : List ReplyT)).length) (ints (List.flatMap ReplyT.flat (([] : List ReplyT)))) 92 3, blkA r (RepT.cells ({ newRep 0 lg with replies := (.slice none 0 0) })) 104, lgP lg d ((([]).length : Nat) : Int) ((sizeS ([]) : Nat) : Int), dkL d ([])]
  refine TL.alloc (Want.plain rfl) rfl rfl rfl z61 (fun b7 => ?_)
  change TL _ _ _ _ _ _ _ _ _ [blkA b7 (ints (#v[0, 0, 0, 0]).toList) 61, outP b6 ([]), own (.slice none 0 0) ((([] : List ReplyT)).length) (ints (List.flatMap ReplyT.flat (([] : List ReplyT)))) 92 3, blkA r (RepT.cells ({ newRep 0 lg with replies := (.slice none 0 0) })) 104, lgP lg d ((([]).length : Nat) : Int) ((sizeS ([]) : Nat) : Int), dkL d ([])]
  refine TL.alloc (Want.plain rfl) rfl rfl rfl z61 (fun b8 => ?_)
  change TL _ _ _ _ _ _ _ _ _ [blkA b8 (ints (#v[0, 0, 0, 0]).toList) 61, blkA b7 (ints (#v[0, 0, 0, 0]).toList) 61, outP b6 ([]), own (.slice none 0 0) ((([] : List ReplyT)).length) (ints (List.flatMap ReplyT.flat (([] : List ReplyT)))) 92 3, blkA r (RepT.cells ({ newRep 0 lg with replies := (.slice none 0 0) })) 104, lgP lg d ((([]).length : Nat) : Int) ((sizeS ([]) : Nat) : Int), dkL d ([])]
  refine TL.nil ?_
  refine TE.next hK10 ?_
  clear hK10
  refine TC.seq (fun K11 hK11 => ?_)
  refine TC.region ?_
  refine TL.alloc (Want.plain rfl) rfl rfl rfl z61 (fun b9 => ?_)
  change TL _ _ _ _ _ _ _ _ _ [blkA b9 (ints (#v[0, 0, 0, 0]).toList) 61, blkA b8 (ints (#v[0, 0, 0, 0]).toList) 61, blkA b7 (ints (#v[0, 0, 0, 0]).toList) 61, outP b6 ([]), own (.slice none 0 0) ((([] : List ReplyT)).length) (ints (List.flatMap ReplyT.flat (([] : List ReplyT)))) 92 3, blkA r (RepT.cells ({ newRep 0 lg with replies := (.slice none 0 0) })) 104, lgP lg d ((([]).length : Nat) : Int) ((sizeS ([]) : Nat) : Int), dkL d ([])]
  refine TL.alloc (Want.plain rfl) rfl rfl rfl z61 (fun b10 => ?_)
  change TL _ _ _ _ _ _ _ _ _ [blkA b10 (ints (#v[0, 0, 0, 0]).toList) 61, blkA b9 (ints (#v[0, 0, 0, 0]).toList) 61, blkA b8 (ints (#v[0, 0, 0, 0]).toList) 61, blkA b7 (ints (#v[0, 0, 0, 0]).toList) 61, outP b6 ([]), own (.slice none 0 0) ((([] : List ReplyT)).length) (ints (List.flatMap ReplyT.flat (([] : List ReplyT)))) 92 3, blkA r (RepT.cells ({ newRep 0 lg with replies := (.slice none 0 0) })) 104, lgP lg d ((([]).length : Nat) : Int) ((sizeS ([]) : Nat) : Int), dkL d ([])]
  refine TL.nil ?_
  refine TE.next hK11 ?_
  clear hK11
  refine TC.seq (fun K12 hK12 => ?_)
  refine TC.region ?_
  refine tp rfl rfl rfl (PV.assign rfl rfl) ?_
  refine tp rfl rfl rfl (PV.assign rfl rfl) ?_
  refine tp rfl rfl rfl (PV.assign rfl rfl) ?_
  refine tp rfl rfl rfl (PV.assign rfl rfl) ?_
  refine TL.nil ?_
  refine TE.next hK12 ?_
  clear hK12
  refine TC.seq (fun K13 hK13 => ?_)
  refine TC.seq (fun K14 hK14 => ?_)
  refine TC.region ?_
  refine tp rfl rfl rfl (PV.move rfl rfl) ?_
  refine tp rfl rfl rfl (PV.lenV rfl Tryz.underlying60 rfl hF.len) ?_
  refine tp rfl rfl rfl (PV.move rfl rfl) ?_
  refine TL.nil ?_
  refine TE.next hK14 ?_
  clear hK14
  refine TC.block ?_
  refine TC.loop (α := (Nat) × (RepT) × (Value) × (RowT) × (List (List UInt8)) × (List ReplyT) × (List SaidT) × (Bool)) (fun ⟨i, y, rv, c, recs, rs, l, one⟩ => i ≤ l0.length ∧ rv.oneCell' = true ∧ RunI y lg i c ∧ sizeS recs ≤ 7 * i ∧ rs.length ≤ 2 * i ∧ l.length ≤ 10 * i) (fun ⟨i, y, rv, c, recs, rs, l, one⟩ => [(4, (.pointer (some ⟨r, 0, none⟩))), (6, (.pointer (some ⟨b6, 0, none⟩))), (7, (.pointer (some ⟨b7, 0, none⟩))), (8, (.pointer (some ⟨b8, 0, none⟩))), (9, (.pointer (some ⟨b9, 0, none⟩))), (10, (.pointer (some ⟨b10, 0, none⟩))), (11, (.bool (y.busy))), (12, (.bool (one))), (13, (.int .i64 (((rs.length : Nat) : Int)))), (14, (.int .i64 (y.own.version))), (34, x), (35, (.int .i64 (((l0.length : Nat) : Int)))), (36, (.int .i64 (((i : Nat) : Int))))]) (fun ⟨i, y, rv, c, recs, rs, l, one⟩ => [blkA r (RepT.cells ({ y with replies := rv })) 104, lgP lg d (((recs).length : Nat) : Int) ((sizeS (recs) : Nat) : Int), dkL d (recs), own rv ((rs).length) (ints (List.flatMap ReplyT.flat (rs))) 92 3, outP b6 (l), blkA b7 (ints (haveV c).toList) 61, blkA b8 (ints (haveV y.own).toList) 61, blkA b9 (ints (valV c).toList) 61, blkA b10 (ints (valV y.own).toList) 61]) (fun ⟨i, y, rv, c, recs, rs, l, one⟩ => l0.length - i) (0, newRep 0 lg, .slice none 0 0, RowT.zero, [], [], [], false)
      ⟨Nat.zero_le _, rfl, RunI.new lg, Nat.le_refl 0, Nat.le_refl 0, Nat.le_refl 0⟩ (Sub.r (Sub.r (Sub.r (Sub.r (Sub.r (Sub.r (Sub.r (Sub.r (Sub.cons rfl (by congr 1) (Sub.cons rfl (by congr 1) (Sub.r (Sub.r (Sub.cons rfl (by congr 1) (Sub.nil _))))))))))))))
      (fun _ s => by dsimp only; rw [haveV_zero, show haveV (newRep 0 lg).own = #v[0, 0, 0, 0] from haveV_zero, valV_zero, show valV (newRep 0 lg).own = #v[0, 0, 0, 0] from valV_zero]; exact sep_keep [6, 6, 6, 5, 4, 3, 2, 1, 0] rfl s) (fun ⟨i, y, rv, c, recs, rs, l, one⟩ hinv => ?_)
  obtain ⟨hi, hrv, hI, hsz, hrs, hl⟩ := hinv
  refine TC.seq (fun K15 hK15 => ?_)
  refine TC.region ?_
  refine tp rfl rfl rfl (PV.lss rfl rfl rfl) ?_
  refine TL.dec (fun h37 => ?_) (fun h37 => ?_)
  obtain ⟨b_a, off_a, cap_a, cs_a, T_a, z_a, us_a, hv_a, hc_a, hb_a, hl_a, hs_a, hE_a⟩ := IsL.at hF (j := i) (by omega)
  obtain ⟨a0, a1, a2, a3, e_a⟩ := four hE_a.2
  replace hs_a := hs_a.trans (hE_a.1.trans (congrArg ints e_a))
  refine TL.nil ?_
  refine TE.next hK15 ?_
  clear hK15
  refine TC.seq (fun K16 hK16 => ?_)
  refine TC.yes rfl ?_
  refine TC.skip ?_
  refine TE.next hK16 ?_
  clear hK16
  refine TC.seq (fun K17 hK17 => ?_)
  refine TC.block ?_
  refine TC.seq (fun K18 hK18 => ?_)
  refine TC.region ?_
  refine tp rfl rfl rfl (PV.indexSlV (r := off_a + i * 4) hv_a rfl Tryz.underlying60 sz63 rfl rfl (by omega) (by omega) (by omega)) ?_
  refine tp rfl rfl rfl (PV.loadNX (vs := [(.int .i64 (a0)), (.int .i64 (a1)), (.int .i64 (a2)), (.int .i64 (a3))]) rfl Tryz.underlying63 rfl sz63 rfl (RdX.frm hb_a (fun _ h => Frm.of h)) rfl hs_a) ?_
  refine TL.alloc (Want.plain rfl) rfl rfl rfl z63 (fun b16 => ?_)
  change TL _ _ _ _ _ _ _ _ _ [blkA b16 [(.int .i64 0), (.int .i64 0), (.int .i64 0), (.int .i64 0)] 63, blkA r (RepT.cells ({ y with replies := rv })) 104, lgP lg d (((recs).length : Nat) : Int) ((sizeS (recs) : Nat) : Int), dkL d (recs), own rv ((rs).length) (ints (List.flatMap ReplyT.flat (rs))) 92 3, outP b6 (l), blkA b7 (ints (haveV c).toList) 61, blkA b8 (ints (haveV y.own).toList) 61, blkA b9 (ints (valV c).toList) 61, blkA b10 (ints (valV y.own).toList) 61]
  refine TL.store (vs := [(.int .i64 (a0)), (.int .i64 (a1)), (.int .i64 (a2)), (.int .i64 (a3))]) (i := 0) (H' := [blkA b16 [(.int .i64 (a0)), (.int .i64 (a1)), (.int .i64 (a2)), (.int .i64 (a3))] 63, blkA r (RepT.cells ({ y with replies := rv })) 104, lgP lg d (((recs).length : Nat) : Int) ((sizeS (recs) : Nat) : Int), dkL d (recs), own rv ((rs).length) (ints (List.flatMap ReplyT.flat (rs))) 92 3, outP b6 (l), blkA b7 (ints (haveV c).toList) 61, blkA b8 (ints (haveV y.own).toList) 61, blkA b9 (ints (valV c).toList) 61, blkA b10 (ints (valV y.own).toList) 61]) (Want.plain rfl) rfl rfl rfl rfl rfl sz63 (by simp [Value.oneCell']) rfl rfl (lbe rfl) rfl rfl ?_
  refine TL.nil ?_
  refine TE.next hK18 ?_
  clear hK18
  refine TC.seq (fun K19 hK19 => ?_)
  refine TC.region ?_
  refine tp rfl rfl rfl (PV.fieldAddr (r := 0) rfl Tryz.underlying63 rfl sz3 rfl rfl) ?_
  refine tp rfl rfl rfl (PV.load1 (v := (.int .i64 (a0))) rfl Tryz.underlying3 rfl rfl (Rd.own 0 rfl rfl) rfl) ?_
  refine tp rfl rfl rfl (PV.rem (r := (a0.tmod 6)) rfl rfl rfl (by omega) rfl) ?_
  have qm := tmK a0 (k := 6) (by decide)
  refine tp rfl rfl rfl (PV.add rfl rfl rfl (wrap_i64 (by omega) (by omega))) ?_
  obtain ⟨kq, hkq, hkqe⟩ : ∃ kq : Nat, kq < 6 ∧ a0 % 6 = ((kq : Nat) : Int) := ⟨(a0 % 6).toNat, by omega, by omega⟩
  refine tp rfl rfl rfl (PV.rem (r := ((kq : Nat) : Int)) rfl rfl rfl (by omega) (by rw [modK a0 (by decide)]; exact hkqe)) ?_
  refine tp rfl rfl rfl (PV.assign rfl rfl) ?_
  refine TL.nil ?_
  refine TE.next hK19 ?_
  clear hK19
  refine TC.seq (fun K20 hK20 => ?_)
  refine TC.cut (α := (Bool)) (fun inB => inB = true ↔ (0 ≤ a1 ∧ a1 < 4)) (fun inB => [(4, (.pointer (some ⟨r, 0, none⟩))), (6, (.pointer (some ⟨b6, 0, none⟩))), (7, (.pointer (some ⟨b7, 0, none⟩))), (8, (.pointer (some ⟨b8, 0, none⟩))), (9, (.pointer (some ⟨b9, 0, none⟩))), (10, (.pointer (some ⟨b10, 0, none⟩))), (11, (.bool (y.busy))), (12, (.bool (one))), (13, (.int .i64 (((rs.length : Nat) : Int)))), (14, (.int .i64 (y.own.version))), (16, (.pointer (some ⟨b16, 0, none⟩))), (17, (.int .i64 (((kq : Nat) : Int)))), (18, (.bool (inB))), (34, x), (35, (.int .i64 (((l0.length : Nat) : Int)))), (36, (.int .i64 (((i : Nat) : Int))))]) (fun inB => [blkA b16 [(.int .i64 (a0)), (.int .i64 (a1)), (.int .i64 (a2)), (.int .i64 (a3))] 63, blkA r (RepT.cells ({ y with replies := rv })) 104, lgP lg d (((recs).length : Nat) : Int) ((sizeS (recs) : Nat) : Int), dkL d (recs), own rv ((rs).length) (ints (List.flatMap ReplyT.flat (rs))) 92 3, outP b6 (l), blkA b7 (ints (haveV c).toList) 61, blkA b8 (ints (haveV y.own).toList) 61, blkA b9 (ints (valV c).toList) 61, blkA b10 (ints (valV y.own).toList) 61]) (fun inB hinv => ?_) (fun tl20 => ?_)
  have hin := hinv
  refine TE.next hK20 ?_
  clear hK20
  refine TC.seq (fun K21 hK21 => ?_)
  refine TC.region ?_
  obtain ⟨q, hq, hqe⟩ : ∃ q : Nat, q < 4 ∧ max (min a1 3) 0 = ((q : Nat) : Int) := ⟨(max (min a1 3) 0).toNat, by omega, by omega⟩
  have hkey : inB = true → a1 = ((q : Nat) : Int) := fun h => by have := hin.1 h; omega
  have hsm := hI.com.small hq
  have hci := (hI.lone.own.cells q hq).inn
  have hov := hI.lone.own.ver
  refine tp rfl rfl rfl (PV.fieldAddr (r := 1) rfl Tryz.underlying63 rfl sz3 rfl rfl) ?_
  refine tp rfl rfl rfl (PV.load1 (v := (.int .i64 (a1))) rfl Tryz.underlying3 rfl rfl (Rd.own 0 rfl rfl) rfl) ?_
  refine tp rfl rfl rfl (PV.minI rfl rfl rfl) ?_
  refine tp rfl rfl rfl (PV.to (v' := (.int .i64 (((q : Nat) : Int)))) (PV.maxI rfl rfl rfl) (by rw [hqe])) ?_
  refine tp rfl rfl rfl (PV.assign rfl rfl) ?_
  refine TL.nil ?_
  refine TE.next hK21 ?_
  clear hK21
  refine TC.seq (fun K22 hK22 => ?_)
  refine TC.seq (fun K23 hK23 => ?_)
  refine TC.region ?_
  refine tp rfl rfl rfl (PV.move rfl rfl) ?_
  refine tp rfl rfl rfl (PV.geq rfl rfl rfl) ?_
  refine TL.dec (fun h58 => ?_) (fun h58 => ?_)
  refine TL.nil ?_
  refine TE.next hK23 ?_
  clear hK23
  refine TC.yes rfl ?_
  refine TC.seq (fun K24 hK24 => ?_)
  refine TC.seq (fun K25 hK25 => ?_)
  refine TC.region ?_
  refine tp rfl rfl rfl (PV.move rfl rfl) ?_
  refine tp rfl rfl rfl (PV.eql rfl rfl rfl) ?_
  refine TL.dec (fun h60 => ?_) (fun h60 => ?_)
  refine TL.nil ?_
  refine TE.next hK25 ?_
  clear hK25
  refine TC.yes rfl ?_
  refine TC.region ?_
  refine tp rfl rfl rfl (PV.move rfl rfl) ?_
  refine TL.callR (A := [blkA r (RepT.cells ({ y with replies := rv })) 104, own rv ((rs).length) (ints (List.flatMap ReplyT.flat (rs))) 92 3, outP b6 (l)]) (B := [blkA b16 [(.int .i64 (a0)), (.int .i64 (a1)), (.int .i64 (a2)), (.int .i64 (a3))] 63, lgP lg d (((recs).length : Nat) : Int) ((sizeS (recs) : Nat) : Int), dkL d (recs), blkA b7 (ints (haveV c).toList) 61, blkA b8 (ints (haveV y.own).toList) 61, blkA b9 (ints (valV c).toList) 61, blkA b10 (ints (valV y.own).toList) 61]) (Want.plain rfl) rfl rfl rfl nm17 rfl (keepL_does r b6 lg y rv 0 (rs) (l) hI.lone (by decide) (by omega) (by omega) (by omega)) (fun _ s => sep_selR [1, 3, 3] rfl s) (fun _ _ _ => trivial) (fun vR HR hR => ?_)
  obtain ⟨vq1, hvq1, rfl⟩ := hR
  change TL _ _ _ _ _ _ _ _ _ [blkA r (RepT.cells ({ keepX y 0 with replies := vq1 })) 104, own vq1 ((keepR y 0 (rs)).length) (ints (List.flatMap ReplyT.flat (keepR y 0 (rs)))) 92 3, outP b6 (l ++ keepO y 0), blkA b16 [(.int .i64 (a0)), (.int .i64 (a1)), (.int .i64 (a2)), (.int .i64 (a3))] 63, lgP lg d (((recs).length : Nat) : Int) ((sizeS (recs) : Nat) : Int), dkL d (recs), blkA b7 (ints (haveV c).toList) 61, blkA b8 (ints (haveV y.own).toList) 61, blkA b9 (ints (valV c).toList) 61, blkA b10 (ints (valV y.own).toList) 61]
  have hLvq1 := hI.lone.keep
  have hovq1 := keepO_len y 0
  have hrvq1 := keepR_len y 0 (rs)
  refine TL.nil ?_
  refine TE.next hK24 ?_
  clear hK24
  refine TC.seq (fun K26 hK26 => ?_)
  refine TC.seq (fun K27 hK27 => ?_)
  refine TC.region ?_
  refine tp rfl rfl rfl (PV.move rfl rfl) ?_
  refine TL.decB (fun h68 => ?_) (fun h68 => ?_)
  obtain ⟨hI3, hbz, hown3, hlen3⟩ := hI.keepB h68 rs
  refine tp rfl rfl rfl (PV.move rfl rfl) ?_
  refine tq rfl rfl rfl rfl rfl (PV.move rfl rfl) ?_
  refine tq rfl rfl rfl rfl rfl (PV.eql rfl rfl rfl) ?_
  refine TL.dec (fun h71 => ?_) (fun h71 => ?_)
  refine tp rfl rfl rfl (PV.pick rfl rfl rfl) ?_
  refine TL.nil ?_
  refine TE.next hK27 ?_
  clear hK27
  refine TC.yes rfl ?_
  refine TC.seq (fun K28 hK28 => ?_)
  refine TC.region ?_
  refine tp rfl rfl rfl (PV.assign rfl rfl) ?_
  refine tp rfl rfl rfl (PV.assign rfl rfl) ?_
  refine TL.nil ?_
  refine TE.next hK28 ?_
  clear hK28
  refine TC.seq (fun K29 hK29 => ?_)
  refine TC.draw (fun w => Frm F w ∧ w.heap[b8]? = some (.cells (ints (haveV y.own).toList).toArray 61 (0, 0)) ∧ w.heap[b10]? = some (.cells (ints (valV y.own).toList).toArray 61 (0, 0)) ∧ True) mixed rfl (fun _ s => ⟨Frm.of s, s.block 7 (lb rfl) rfl, s.block 9 (lb rfl) rfl, trivial⟩) ?_
  refine TD.take (i := 0) rfl (by kernel_rfl) (by kernel_rfl) (by kernel_rfl) (fun _ _ _ _ h => h) (Want.plain rfl) rfl rfl (PV.loadN (vs := ints (haveV y.own).toList) rfl Tryz.underlying61 rfl sz61 rfl (fun _ h => h.2.1) (vi4_len (haveV y.own)) (whole (vi4_len (haveV y.own)))) ?_
  refine TD.take (i := 1) rfl (by kernel_rfl) (by kernel_rfl) (by kernel_rfl) (fun _ _ _ _ h => h) (Want.plain rfl) rfl rfl (PV.loadN (vs := ints (valV y.own).toList) rfl Tryz.underlying61 rfl sz61 rfl (fun _ h => h.2.2.1) (vi4_len (valV y.own)) (whole (vi4_len (valV y.own)))) ?_
  refine TD.all [2] (by kernel_rfl) rfl ?_
  refine AllT.cons rfl ?_ ?_
  refine TL.store (vs := ints (haveV y.own).toList) (i := 6) (H' := [blkA r (RepT.cells ({ keepX y 0 with replies := vq1 })) 104, own vq1 ((keepR y 0 (rs)).length) (ints (List.flatMap ReplyT.flat (keepR y 0 (rs)))) 92 3, outP b6 (l ++ keepO y 0), blkA b16 [(.int .i64 (a0)), (.int .i64 (a1)), (.int .i64 (a2)), (.int .i64 (a3))] 63, lgP lg d (((recs).length : Nat) : Int) ((sizeS (recs) : Nat) : Int), dkL d (recs), blkA b7 (ints (haveV y.own).toList) 61, blkA b8 (ints (haveV y.own).toList) 61, blkA b9 (ints (valV c).toList) 61, blkA b10 (ints (valV y.own).toList) 61]) (Want.plain rfl) rfl rfl rfl rfl rfl (by rw [(vi4_len (haveV y.own))]; exact sz61) (ints_one _) rfl rfl (by have h0 := (vi4_len (haveV c)); have h1 := (vi4_len (haveV y.own)); omega) (wwhole ((vi4_len (haveV c)).trans (vi4_len (haveV y.own)).symm)) rfl ?_
  refine TL.nil ?_
  refine TE.draw (fun _ s => ⟨Frm.of s, s.block 7 (lb rfl) rfl, s.block 9 (lb rfl) rfl, trivial⟩) ?_
  refine TD.all [3] (by kernel_rfl) rfl ?_
  refine AllT.cons rfl ?_ ?_
  refine TL.store (vs := ints (valV y.own).toList) (i := 8) (H' := [blkA r (RepT.cells ({ keepX y 0 with replies := vq1 })) 104, own vq1 ((keepR y 0 (rs)).length) (ints (List.flatMap ReplyT.flat (keepR y 0 (rs)))) 92 3, outP b6 (l ++ keepO y 0), blkA b16 [(.int .i64 (a0)), (.int .i64 (a1)), (.int .i64 (a2)), (.int .i64 (a3))] 63, lgP lg d (((recs).length : Nat) : Int) ((sizeS (recs) : Nat) : Int), dkL d (recs), blkA b7 (ints (haveV y.own).toList) 61, blkA b8 (ints (haveV y.own).toList) 61, blkA b9 (ints (valV y.own).toList) 61, blkA b10 (ints (valV y.own).toList) 61]) (Want.plain rfl) rfl rfl rfl rfl rfl (by rw [(vi4_len (valV y.own))]; exact sz61) (ints_one _) rfl rfl (by have h0 := (vi4_len (valV c)); have h1 := (vi4_len (valV y.own)); omega) (wwhole ((vi4_len (valV c)).trans (vi4_len (valV y.own)).symm)) rfl ?_
  refine TL.nil ?_
  refine TE.draw (fun _ s => ⟨Frm.of s, s.block 7 (lb rfl) rfl, s.block 9 (lb rfl) rfl, trivial⟩) ?_
  refine TD.done (by kernel_rfl) ?_
  refine TE.next hK29 ?_
  clear hK29
  refine TC.region ?_
  refine tp rfl rfl rfl (PV.move rfl rfl) ?_
  refine tp rfl rfl rfl (PV.add rfl rfl rfl (wrap_i64 (by omega) (by omega))) ?_
  refine tp rfl rfl rfl (PV.assign rfl rfl) ?_
  refine TL.nil ?_
  refine TE.next hK26 ?_
  clear hK26
  refine TC.seq (fun K30 hK30 => ?_)
  refine TC.region ?_
  refine tp rfl rfl rfl (PV.move rfl rfl) ?_
  refine tp rfl rfl rfl (PV.move rfl rfl) ?_
  refine tq rfl rfl rfl rfl rfl (PV.move rfl rfl) ?_
  refine tq rfl rfl rfl rfl rfl (PV.eql rfl rfl rfl) ?_
  refine TL.dec (fun h80 => ?_) (fun h80 => ?_)
  refine tp rfl rfl rfl (PV.pick rfl rfl rfl) ?_
  refine tp rfl rfl rfl (PV.assign rfl rfl) ?_
  refine TL.nil ?_
  refine TE.next hK30 ?_
  clear hK30
  refine TC.seq (fun K31 hK31 => ?_)
  refine TC.seq (fun K32 hK32 => ?_)
  refine TC.region ?_
  refine tp rfl rfl rfl (PV.move rfl rfl) ?_
  refine TL.callR (A := [blkA r (RepT.cells ({ keepX y 0 with replies := vq1 })) 104]) (B := [own vq1 ((keepR y 0 (rs)).length) (ints (List.flatMap ReplyT.flat (keepR y 0 (rs)))) 92 3, outP b6 (l ++ keepO y 0), blkA b16 [(.int .i64 (a0)), (.int .i64 (a1)), (.int .i64 (a2)), (.int .i64 (a3))] 63, lgP lg d (((recs).length : Nat) : Int) ((sizeS (recs) : Nat) : Int), dkL d (recs), blkA b7 (ints (haveV y.own).toList) 61, blkA b8 (ints (haveV y.own).toList) 61, blkA b9 (ints (valV y.own).toList) 61, blkA b10 (ints (valV y.own).toList) 61]) (Want.plain rfl) rfl rfl rfl nm14 rfl (rBusyL_does r (keepX y 0) vq1 ) (fun _ s => s) (fun _ _ _ => trivial) (fun vR HR hR => ?_)
  obtain ⟨hv, rfl⟩ := hR
  rw [hbz] at hv
  subst hv
  change TL _ _ _ _ _ _ _ _ _ [blkA r (RepT.cells ({ keepX y 0 with replies := vq1 })) 104, own vq1 ((keepR y 0 (rs)).length) (ints (List.flatMap ReplyT.flat (keepR y 0 (rs)))) 92 3, outP b6 (l ++ keepO y 0), blkA b16 [(.int .i64 (a0)), (.int .i64 (a1)), (.int .i64 (a2)), (.int .i64 (a3))] 63, lgP lg d (((recs).length : Nat) : Int) ((sizeS (recs) : Nat) : Int), dkL d (recs), blkA b7 (ints (haveV y.own).toList) 61, blkA b8 (ints (haveV y.own).toList) 61, blkA b9 (ints (valV y.own).toList) 61, blkA b10 (ints (valV y.own).toList) 61]
  refine tp rfl rfl rfl (PV.move rfl rfl) ?_
  refine tp rfl rfl rfl (PV.neqBo rfl Tryz.underlying4 rfl rfl) ?_
  refine tp rfl rfl rfl (PV.move rfl rfl) ?_
  refine tq rfl rfl rfl rfl rfl (PV.move rfl rfl) ?_
  refine TL.callR (A := [blkA r (RepT.cells ({ keepX y 0 with replies := vq1 })) 104, own vq1 ((keepR y 0 (rs)).length) (ints (List.flatMap ReplyT.flat (keepR y 0 (rs)))) 92 3]) (B := [outP b6 (l ++ keepO y 0), blkA b16 [(.int .i64 (a0)), (.int .i64 (a1)), (.int .i64 (a2)), (.int .i64 (a3))] 63, lgP lg d (((recs).length : Nat) : Int) ((sizeS (recs) : Nat) : Int), dkL d (recs), blkA b7 (ints (haveV y.own).toList) 61, blkA b8 (ints (haveV y.own).toList) 61, blkA b9 (ints (valV y.own).toList) 61, blkA b10 (ints (valV y.own).toList) 61]) (Want.met rfl rfl rfl) rfl rfl rfl nm15 rfl (replies_does r { (keepX y 0) with replies := vq1 } (keepR y 0 (rs)) (by omega)) (fun _ s => s) (fun _ _ _ => trivial) (fun vR HR hR => ?_)
  obtain ⟨_, rfl, rfl⟩ := hR
  revert vR
  intro uc2
  change TL _ _ _ _ _ _ _ _ _ [blkA r (RepT.cells ({ keepX y 0 with replies := vq1 })) 104, own vq1 ((keepR y 0 (rs)).length) (ints (List.flatMap ReplyT.flat (keepR y 0 (rs)))) 92 3, own uc2 ((keepR y 0 (rs)).length) (ints (List.flatMap ReplyT.flat (keepR y 0 (rs)))) 92 3, outP b6 (l ++ keepO y 0), blkA b16 [(.int .i64 (a0)), (.int .i64 (a1)), (.int .i64 (a2)), (.int .i64 (a3))] 63, lgP lg d (((recs).length : Nat) : Int) ((sizeS (recs) : Nat) : Int), dkL d (recs), blkA b7 (ints (haveV y.own).toList) 61, blkA b8 (ints (haveV y.own).toList) 61, blkA b9 (ints (valV y.own).toList) 61, blkA b10 (ints (valV y.own).toList) 61]
  refine TL.ownLen 2 rfl rfl (fun hluc2 _ => ?_)
  refine tq rfl rfl rfl rfl rfl (PV.lenV rfl Tryz.underlying55 rfl hluc2) ?_
  refine tq rfl rfl rfl rfl rfl (PV.move rfl rfl) ?_
  refine tq rfl rfl rfl rfl rfl (PV.neq rfl rfl rfl) ?_
  refine TL.dec (fun h91 => ?_) (fun h91 => ?_)
  · exact absurd (by rw [hlen3]; simp) h91
  refine tp rfl rfl rfl (PV.pick rfl rfl rfl) ?_
  refine TL.nil ?_
  refine TE.next hK32 ?_
  clear hK32
  refine TC.no rfl ?_
  refine TC.skip ?_
  refine TE.next hK31 ?_
  clear hK31
  refine TC.exit ?_
  refine TE.pass ?_
  clear hK22
  refine TE.hit ?_
  refine TE.next hK17 ?_
  clear hK17
  refine TC.region ?_
  refine tp rfl rfl rfl (PV.add rfl rfl rfl (wrap_i64 (by omega) (by omega))) ?_
  refine tp rfl rfl rfl (PV.move rfl rfl) ?_
  refine TL.nil ?_
  exact TE.round ((i + 1, keepX y 0, vq1, y.own, recs, keepR y 0 rs, l ++ keepO y 0, true) : (Nat) × (RepT) × (Value) × (RowT) × (List (List UInt8)) × (List ReplyT) × (List SaidT) × (Bool)) ⟨by omega, hvq1, hI3.more (Nat.le_succ _), by omega, by omega, (by rw [List.length_append]; omega)⟩ (by show l0.length - (i + 1) < l0.length - i; omega)
    (Sub.r (Sub.r (Sub.r (Sub.r (Sub.r (Sub.r (Sub.cons rfl (by rw [hbz]) (Sub.r (Sub.cons rfl (by rw [hlen3]; simp) (Sub.cons rfl (by rw [hown3]) (Sub.r (Sub.r (Sub.cons rfl (by simp) (Sub.nil _))))))))))))))
    (fun _ s => by dsimp only; rw [show haveV (keepX y 0).own = haveV y.own by rw [hown3], show valV (keepX y 0).own = valV y.own by rw [hown3]]; exact sep_keep [0, 4, 4, 0, 1, 2, 2, 2, 2] rfl s)
  refine tp rfl rfl rfl (PV.pick rfl rfl rfl) ?_
  refine tp rfl rfl rfl (PV.assign rfl rfl) ?_
  refine TL.nil ?_
  refine TE.next hK30 ?_
  clear hK30
  refine TC.seq (fun K33 hK33 => ?_)
  refine TC.seq (fun K34 hK34 => ?_)
  refine TC.region ?_
  refine tp rfl rfl rfl (PV.move rfl rfl) ?_
  refine TL.callR (A := [blkA r (RepT.cells ({ keepX y 0 with replies := vq1 })) 104]) (B := [own vq1 ((keepR y 0 (rs)).length) (ints (List.flatMap ReplyT.flat (keepR y 0 (rs)))) 92 3, outP b6 (l ++ keepO y 0), blkA b16 [(.int .i64 (a0)), (.int .i64 (a1)), (.int .i64 (a2)), (.int .i64 (a3))] 63, lgP lg d (((recs).length : Nat) : Int) ((sizeS (recs) : Nat) : Int), dkL d (recs), blkA b7 (ints (haveV y.own).toList) 61, blkA b8 (ints (haveV y.own).toList) 61, blkA b9 (ints (valV y.own).toList) 61, blkA b10 (ints (valV y.own).toList) 61]) (Want.plain rfl) rfl rfl rfl nm14 rfl (rBusyL_does r (keepX y 0) vq1 ) (fun _ s => s) (fun _ _ _ => trivial) (fun vR HR hR => ?_)
  obtain ⟨hv, rfl⟩ := hR
  rw [hbz] at hv
  subst hv
  change TL _ _ _ _ _ _ _ _ _ [blkA r (RepT.cells ({ keepX y 0 with replies := vq1 })) 104, own vq1 ((keepR y 0 (rs)).length) (ints (List.flatMap ReplyT.flat (keepR y 0 (rs)))) 92 3, outP b6 (l ++ keepO y 0), blkA b16 [(.int .i64 (a0)), (.int .i64 (a1)), (.int .i64 (a2)), (.int .i64 (a3))] 63, lgP lg d (((recs).length : Nat) : Int) ((sizeS (recs) : Nat) : Int), dkL d (recs), blkA b7 (ints (haveV y.own).toList) 61, blkA b8 (ints (haveV y.own).toList) 61, blkA b9 (ints (valV y.own).toList) 61, blkA b10 (ints (valV y.own).toList) 61]
  refine tp rfl rfl rfl (PV.move rfl rfl) ?_
  refine tp rfl rfl rfl (PV.neqBo rfl Tryz.underlying4 rfl rfl) ?_
  refine tp rfl rfl rfl (PV.move rfl rfl) ?_
  refine tq rfl rfl rfl rfl rfl (PV.move rfl rfl) ?_
  refine TL.callR (A := [blkA r (RepT.cells ({ keepX y 0 with replies := vq1 })) 104, own vq1 ((keepR y 0 (rs)).length) (ints (List.flatMap ReplyT.flat (keepR y 0 (rs)))) 92 3]) (B := [outP b6 (l ++ keepO y 0), blkA b16 [(.int .i64 (a0)), (.int .i64 (a1)), (.int .i64 (a2)), (.int .i64 (a3))] 63, lgP lg d (((recs).length : Nat) : Int) ((sizeS (recs) : Nat) : Int), dkL d (recs), blkA b7 (ints (haveV y.own).toList) 61, blkA b8 (ints (haveV y.own).toList) 61, blkA b9 (ints (valV y.own).toList) 61, blkA b10 (ints (valV y.own).toList) 61]) (Want.met rfl rfl rfl) rfl rfl rfl nm15 rfl (replies_does r { (keepX y 0) with replies := vq1 } (keepR y 0 (rs)) (by omega)) (fun _ s => s) (fun _ _ _ => trivial) (fun vR HR hR => ?_)
  obtain ⟨_, rfl, rfl⟩ := hR
  revert vR
  intro uc2
  change TL _ _ _ _ _ _ _ _ _ [blkA r (RepT.cells ({ keepX y 0 with replies := vq1 })) 104, own vq1 ((keepR y 0 (rs)).length) (ints (List.flatMap ReplyT.flat (keepR y 0 (rs)))) 92 3, own uc2 ((keepR y 0 (rs)).length) (ints (List.flatMap ReplyT.flat (keepR y 0 (rs)))) 92 3, outP b6 (l ++ keepO y 0), blkA b16 [(.int .i64 (a0)), (.int .i64 (a1)), (.int .i64 (a2)), (.int .i64 (a3))] 63, lgP lg d (((recs).length : Nat) : Int) ((sizeS (recs) : Nat) : Int), dkL d (recs), blkA b7 (ints (haveV y.own).toList) 61, blkA b8 (ints (haveV y.own).toList) 61, blkA b9 (ints (valV y.own).toList) 61, blkA b10 (ints (valV y.own).toList) 61]
  refine TL.ownLen 2 rfl rfl (fun hluc2 _ => ?_)
  refine tq rfl rfl rfl rfl rfl (PV.lenV rfl Tryz.underlying55 rfl hluc2) ?_
  refine tq rfl rfl rfl rfl rfl (PV.move rfl rfl) ?_
  refine tq rfl rfl rfl rfl rfl (PV.neq rfl rfl rfl) ?_
  refine TL.dec (fun h91 => ?_) (fun h91 => ?_)
  · exact absurd (by rw [hlen3]; simp) h91
  refine tp rfl rfl rfl (PV.pick rfl rfl rfl) ?_
  refine TL.nil ?_
  refine TE.next hK34 ?_
  clear hK34
  refine TC.no rfl ?_
  refine TC.skip ?_
  refine TE.next hK33 ?_
  clear hK33
  refine TC.exit ?_
  refine TE.pass ?_
  clear hK22
  refine TE.hit ?_
  refine TE.next hK17 ?_
  clear hK17
  refine TC.region ?_
  refine tp rfl rfl rfl (PV.add rfl rfl rfl (wrap_i64 (by omega) (by omega))) ?_
  refine tp rfl rfl rfl (PV.move rfl rfl) ?_
  refine TL.nil ?_
  exact TE.round ((i + 1, keepX y 0, vq1, y.own, recs, keepR y 0 rs, l ++ keepO y 0, false) : (Nat) × (RepT) × (Value) × (RowT) × (List (List UInt8)) × (List ReplyT) × (List SaidT) × (Bool)) ⟨by omega, hvq1, hI3.more (Nat.le_succ _), by omega, by omega, (by rw [List.length_append]; omega)⟩ (by show l0.length - (i + 1) < l0.length - i; omega)
    (Sub.r (Sub.r (Sub.r (Sub.r (Sub.r (Sub.r (Sub.cons rfl (by rw [hbz]) (Sub.r (Sub.cons rfl (by rw [hlen3]; simp) (Sub.cons rfl (by rw [hown3]) (Sub.r (Sub.r (Sub.cons rfl (by simp) (Sub.nil _))))))))))))))
    (fun _ s => by dsimp only; rw [show haveV (keepX y 0).own = haveV y.own by rw [hown3], show valV (keepX y 0).own = valV y.own by rw [hown3]]; exact sep_keep [0, 4, 4, 0, 1, 2, 2, 2, 2] rfl s)
  exact AllT.nil
  exact AllT.nil
  · exact absurd h60 h71
  obtain ⟨hkx, hkr⟩ := keep_free hI.lone.id h68 rs
  refine tp rfl rfl rfl (PV.move rfl rfl) ?_
  refine TL.unmet (b := false) rfl rfl rfl rfl (lb rfl) ?_
  refine TL.unmet (b := false) rfl rfl rfl rfl (lb rfl) ?_
  refine tp rfl rfl rfl (PV.pick rfl rfl rfl) ?_
  refine TL.nil ?_
  refine TE.next hK27 ?_
  clear hK27
  refine TC.no rfl ?_
  refine TC.skip ?_
  refine TE.next hK26 ?_
  clear hK26
  refine TC.seq (fun K35 hK35 => ?_)
  refine TC.region ?_
  refine tp rfl rfl rfl (PV.move rfl rfl) ?_
  refine TL.decB (fun h77 => ?_) (fun h77 => ?_)
  refine tp rfl rfl rfl (PV.move rfl rfl) ?_
  refine TL.unmet (b := true) rfl rfl rfl rfl (lb rfl) ?_
  refine TL.unmet (b := true) rfl rfl rfl rfl (lb rfl) ?_
  refine tp rfl rfl rfl (PV.pick rfl rfl rfl) ?_
  refine tp rfl rfl rfl (PV.assign rfl rfl) ?_
  refine TL.nil ?_
  refine TE.next hK35 ?_
  clear hK35
  refine TC.seq (fun K36 hK36 => ?_)
  refine TC.seq (fun K37 hK37 => ?_)
  refine TC.region ?_
  refine tp rfl rfl rfl (PV.move rfl rfl) ?_
  refine TL.callR (A := [blkA r (RepT.cells ({ keepX y 0 with replies := vq1 })) 104]) (B := [own vq1 ((keepR y 0 (rs)).length) (ints (List.flatMap ReplyT.flat (keepR y 0 (rs)))) 92 3, outP b6 (l ++ keepO y 0), blkA b16 [(.int .i64 (a0)), (.int .i64 (a1)), (.int .i64 (a2)), (.int .i64 (a3))] 63, lgP lg d (((recs).length : Nat) : Int) ((sizeS (recs) : Nat) : Int), dkL d (recs), blkA b7 (ints (haveV c).toList) 61, blkA b8 (ints (haveV y.own).toList) 61, blkA b9 (ints (valV c).toList) 61, blkA b10 (ints (valV y.own).toList) 61]) (Want.plain rfl) rfl rfl rfl nm14 rfl (rBusyL_does r (keepX y 0) vq1 ) (fun _ s => s) (fun _ _ _ => trivial) (fun vR HR hR => ?_)
  obtain ⟨hv, rfl⟩ := hR
  rw [hkx, h68] at hv
  subst hv
  change TL _ _ _ _ _ _ _ _ _ [blkA r (RepT.cells ({ keepX y 0 with replies := vq1 })) 104, own vq1 ((keepR y 0 (rs)).length) (ints (List.flatMap ReplyT.flat (keepR y 0 (rs)))) 92 3, outP b6 (l ++ keepO y 0), blkA b16 [(.int .i64 (a0)), (.int .i64 (a1)), (.int .i64 (a2)), (.int .i64 (a3))] 63, lgP lg d (((recs).length : Nat) : Int) ((sizeS (recs) : Nat) : Int), dkL d (recs), blkA b7 (ints (haveV c).toList) 61, blkA b8 (ints (haveV y.own).toList) 61, blkA b9 (ints (valV c).toList) 61, blkA b10 (ints (valV y.own).toList) 61]
  refine tp rfl rfl rfl (PV.move rfl rfl) ?_
  refine tp rfl rfl rfl (PV.neqBo rfl Tryz.underlying4 rfl rfl) ?_
  refine TL.decB (fun h85 => ?_) (fun h85 => ?_)
  · exact absurd h85 (by rw [h68]; decide)
  refine tp rfl rfl rfl (PV.move rfl rfl) ?_
  refine tq rfl rfl rfl rfl rfl (PV.move rfl rfl) ?_
  refine TL.callR (A := [blkA r (RepT.cells ({ keepX y 0 with replies := vq1 })) 104, own vq1 ((keepR y 0 (rs)).length) (ints (List.flatMap ReplyT.flat (keepR y 0 (rs)))) 92 3]) (B := [outP b6 (l ++ keepO y 0), blkA b16 [(.int .i64 (a0)), (.int .i64 (a1)), (.int .i64 (a2)), (.int .i64 (a3))] 63, lgP lg d (((recs).length : Nat) : Int) ((sizeS (recs) : Nat) : Int), dkL d (recs), blkA b7 (ints (haveV c).toList) 61, blkA b8 (ints (haveV y.own).toList) 61, blkA b9 (ints (valV c).toList) 61, blkA b10 (ints (valV y.own).toList) 61]) (Want.met rfl rfl rfl) rfl rfl rfl nm15 rfl (replies_does r { (keepX y 0) with replies := vq1 } (keepR y 0 (rs)) (by omega)) (fun _ s => s) (fun _ _ _ => trivial) (fun vR HR hR => ?_)
  obtain ⟨_, rfl, rfl⟩ := hR
  revert vR
  intro uc2
  change TL _ _ _ _ _ _ _ _ _ [blkA r (RepT.cells ({ keepX y 0 with replies := vq1 })) 104, own vq1 ((keepR y 0 (rs)).length) (ints (List.flatMap ReplyT.flat (keepR y 0 (rs)))) 92 3, own uc2 ((keepR y 0 (rs)).length) (ints (List.flatMap ReplyT.flat (keepR y 0 (rs)))) 92 3, outP b6 (l ++ keepO y 0), blkA b16 [(.int .i64 (a0)), (.int .i64 (a1)), (.int .i64 (a2)), (.int .i64 (a3))] 63, lgP lg d (((recs).length : Nat) : Int) ((sizeS (recs) : Nat) : Int), dkL d (recs), blkA b7 (ints (haveV c).toList) 61, blkA b8 (ints (haveV y.own).toList) 61, blkA b9 (ints (valV c).toList) 61, blkA b10 (ints (valV y.own).toList) 61]
  refine TL.ownLen 2 rfl rfl (fun hluc2 _ => ?_)
  refine tq rfl rfl rfl rfl rfl (PV.lenV rfl Tryz.underlying55 rfl hluc2) ?_
  refine tq rfl rfl rfl rfl rfl (PV.move rfl rfl) ?_
  refine tq rfl rfl rfl rfl rfl (PV.neq rfl rfl rfl) ?_
  refine TL.dec (fun h91 => ?_) (fun h91 => ?_)
  · exact absurd (by rw [hkr]) h91
  refine tp rfl rfl rfl (PV.pick rfl rfl rfl) ?_
  refine TL.nil ?_
  refine TE.next hK37 ?_
  clear hK37
  refine TC.no rfl ?_
  refine TC.skip ?_
  refine TE.next hK36 ?_
  clear hK36
  refine TC.exit ?_
  refine TE.pass ?_
  clear hK22
  refine TE.hit ?_
  refine TE.next hK17 ?_
  clear hK17
  refine TC.region ?_
  refine tp rfl rfl rfl (PV.add rfl rfl rfl (wrap_i64 (by omega) (by omega))) ?_
  refine tp rfl rfl rfl (PV.move rfl rfl) ?_
  refine TL.nil ?_
  exact TE.round ((i + 1, keepX y 0, vq1, c, recs, keepR y 0 rs, l ++ keepO y 0, true) : (Nat) × (RepT) × (Value) × (RowT) × (List (List UInt8)) × (List ReplyT) × (List SaidT) × (Bool)) ⟨by omega, hvq1, (by rw [hkx]; exact hI.more (Nat.le_succ _)), by omega, by omega, (by rw [List.length_append]; omega)⟩ (by show l0.length - (i + 1) < l0.length - i; omega)
    (Sub.r (Sub.r (Sub.r (Sub.r (Sub.r (Sub.r (Sub.cons rfl (by rw [hkx]) (Sub.r (Sub.cons rfl (by rw [hkr]) (Sub.cons rfl (by rw [hkx]) (Sub.r (Sub.r (Sub.cons rfl (by simp) (Sub.nil _))))))))))))))
    (fun _ s => by dsimp only; rw [show haveV (keepX y 0).own = haveV y.own by rw [hkx], show valV (keepX y 0).own = valV y.own by rw [hkx]]; exact sep_keep [0, 4, 4, 0, 1, 2, 2, 2, 2] rfl s)
  refine tp rfl rfl rfl (PV.move rfl rfl) ?_
  refine tq rfl rfl rfl rfl rfl (PV.move rfl rfl) ?_
  refine tq rfl rfl rfl rfl rfl (PV.eql rfl rfl rfl) ?_
  refine TL.dec (fun h80 => ?_) (fun h80 => ?_)
  refine tp rfl rfl rfl (PV.pick rfl rfl rfl) ?_
  refine tp rfl rfl rfl (PV.assign rfl rfl) ?_
  refine TL.nil ?_
  refine TE.next hK35 ?_
  clear hK35
  refine TC.seq (fun K38 hK38 => ?_)
  refine TC.seq (fun K39 hK39 => ?_)
  refine TC.region ?_
  refine tp rfl rfl rfl (PV.move rfl rfl) ?_
  refine TL.callR (A := [blkA r (RepT.cells ({ keepX y 0 with replies := vq1 })) 104]) (B := [own vq1 ((keepR y 0 (rs)).length) (ints (List.flatMap ReplyT.flat (keepR y 0 (rs)))) 92 3, outP b6 (l ++ keepO y 0), blkA b16 [(.int .i64 (a0)), (.int .i64 (a1)), (.int .i64 (a2)), (.int .i64 (a3))] 63, lgP lg d (((recs).length : Nat) : Int) ((sizeS (recs) : Nat) : Int), dkL d (recs), blkA b7 (ints (haveV c).toList) 61, blkA b8 (ints (haveV y.own).toList) 61, blkA b9 (ints (valV c).toList) 61, blkA b10 (ints (valV y.own).toList) 61]) (Want.plain rfl) rfl rfl rfl nm14 rfl (rBusyL_does r (keepX y 0) vq1 ) (fun _ s => s) (fun _ _ _ => trivial) (fun vR HR hR => ?_)
  obtain ⟨hv, rfl⟩ := hR
  rw [hkx, h68] at hv
  subst hv
  change TL _ _ _ _ _ _ _ _ _ [blkA r (RepT.cells ({ keepX y 0 with replies := vq1 })) 104, own vq1 ((keepR y 0 (rs)).length) (ints (List.flatMap ReplyT.flat (keepR y 0 (rs)))) 92 3, outP b6 (l ++ keepO y 0), blkA b16 [(.int .i64 (a0)), (.int .i64 (a1)), (.int .i64 (a2)), (.int .i64 (a3))] 63, lgP lg d (((recs).length : Nat) : Int) ((sizeS (recs) : Nat) : Int), dkL d (recs), blkA b7 (ints (haveV c).toList) 61, blkA b8 (ints (haveV y.own).toList) 61, blkA b9 (ints (valV c).toList) 61, blkA b10 (ints (valV y.own).toList) 61]
  refine tp rfl rfl rfl (PV.move rfl rfl) ?_
  refine tp rfl rfl rfl (PV.neqBo rfl Tryz.underlying4 rfl rfl) ?_
  refine TL.decB (fun h85 => ?_) (fun h85 => ?_)
  · exact absurd h85 (by rw [h68]; decide)
  refine tp rfl rfl rfl (PV.move rfl rfl) ?_
  refine tq rfl rfl rfl rfl rfl (PV.move rfl rfl) ?_
  refine TL.callR (A := [blkA r (RepT.cells ({ keepX y 0 with replies := vq1 })) 104, own vq1 ((keepR y 0 (rs)).length) (ints (List.flatMap ReplyT.flat (keepR y 0 (rs)))) 92 3]) (B := [outP b6 (l ++ keepO y 0), blkA b16 [(.int .i64 (a0)), (.int .i64 (a1)), (.int .i64 (a2)), (.int .i64 (a3))] 63, lgP lg d (((recs).length : Nat) : Int) ((sizeS (recs) : Nat) : Int), dkL d (recs), blkA b7 (ints (haveV c).toList) 61, blkA b8 (ints (haveV y.own).toList) 61, blkA b9 (ints (valV c).toList) 61, blkA b10 (ints (valV y.own).toList) 61]) (Want.met rfl rfl rfl) rfl rfl rfl nm15 rfl (replies_does r { (keepX y 0) with replies := vq1 } (keepR y 0 (rs)) (by omega)) (fun _ s => s) (fun _ _ _ => trivial) (fun vR HR hR => ?_)
  obtain ⟨_, rfl, rfl⟩ := hR
  revert vR
  intro uc2
  change TL _ _ _ _ _ _ _ _ _ [blkA r (RepT.cells ({ keepX y 0 with replies := vq1 })) 104, own vq1 ((keepR y 0 (rs)).length) (ints (List.flatMap ReplyT.flat (keepR y 0 (rs)))) 92 3, own uc2 ((keepR y 0 (rs)).length) (ints (List.flatMap ReplyT.flat (keepR y 0 (rs)))) 92 3, outP b6 (l ++ keepO y 0), blkA b16 [(.int .i64 (a0)), (.int .i64 (a1)), (.int .i64 (a2)), (.int .i64 (a3))] 63, lgP lg d (((recs).length : Nat) : Int) ((sizeS (recs) : Nat) : Int), dkL d (recs), blkA b7 (ints (haveV c).toList) 61, blkA b8 (ints (haveV y.own).toList) 61, blkA b9 (ints (valV c).toList) 61, blkA b10 (ints (valV y.own).toList) 61]
  refine TL.ownLen 2 rfl rfl (fun hluc2 _ => ?_)
  refine tq rfl rfl rfl rfl rfl (PV.lenV rfl Tryz.underlying55 rfl hluc2) ?_
  refine tq rfl rfl rfl rfl rfl (PV.move rfl rfl) ?_
  refine tq rfl rfl rfl rfl rfl (PV.neq rfl rfl rfl) ?_
  refine TL.dec (fun h91 => ?_) (fun h91 => ?_)
  · exact absurd (by rw [hkr]) h91
  refine tp rfl rfl rfl (PV.pick rfl rfl rfl) ?_
  refine TL.nil ?_
  refine TE.next hK39 ?_
  clear hK39
  refine TC.no rfl ?_
  refine TC.skip ?_
  refine TE.next hK38 ?_
  clear hK38
  refine TC.exit ?_
  refine TE.pass ?_
  clear hK22
  refine TE.hit ?_
  refine TE.next hK17 ?_
  clear hK17
  refine TC.region ?_
  refine tp rfl rfl rfl (PV.add rfl rfl rfl (wrap_i64 (by omega) (by omega))) ?_
  refine tp rfl rfl rfl (PV.move rfl rfl) ?_
  refine TL.nil ?_
  exact TE.round ((i + 1, keepX y 0, vq1, c, recs, keepR y 0 rs, l ++ keepO y 0, true) : (Nat) × (RepT) × (Value) × (RowT) × (List (List UInt8)) × (List ReplyT) × (List SaidT) × (Bool)) ⟨by omega, hvq1, (by rw [hkx]; exact hI.more (Nat.le_succ _)), by omega, by omega, (by rw [List.length_append]; omega)⟩ (by show l0.length - (i + 1) < l0.length - i; omega)
    (Sub.r (Sub.r (Sub.r (Sub.r (Sub.r (Sub.r (Sub.cons rfl (by rw [hkx]) (Sub.r (Sub.cons rfl (by rw [hkr]) (Sub.cons rfl (by rw [hkx]) (Sub.r (Sub.r (Sub.cons rfl (by simp) (Sub.nil _))))))))))))))
    (fun _ s => by dsimp only; rw [show haveV (keepX y 0).own = haveV y.own by rw [hkx], show valV (keepX y 0).own = valV y.own by rw [hkx]]; exact sep_keep [0, 4, 4, 0, 1, 2, 2, 2, 2] rfl s)
  refine tp rfl rfl rfl (PV.pick rfl rfl rfl) ?_
  refine tp rfl rfl rfl (PV.assign rfl rfl) ?_
  refine TL.nil ?_
  refine TE.next hK35 ?_
  clear hK35
  refine TC.seq (fun K40 hK40 => ?_)
  refine TC.seq (fun K41 hK41 => ?_)
  refine TC.region ?_
  refine tp rfl rfl rfl (PV.move rfl rfl) ?_
  refine TL.callR (A := [blkA r (RepT.cells ({ keepX y 0 with replies := vq1 })) 104]) (B := [own vq1 ((keepR y 0 (rs)).length) (ints (List.flatMap ReplyT.flat (keepR y 0 (rs)))) 92 3, outP b6 (l ++ keepO y 0), blkA b16 [(.int .i64 (a0)), (.int .i64 (a1)), (.int .i64 (a2)), (.int .i64 (a3))] 63, lgP lg d (((recs).length : Nat) : Int) ((sizeS (recs) : Nat) : Int), dkL d (recs), blkA b7 (ints (haveV c).toList) 61, blkA b8 (ints (haveV y.own).toList) 61, blkA b9 (ints (valV c).toList) 61, blkA b10 (ints (valV y.own).toList) 61]) (Want.plain rfl) rfl rfl rfl nm14 rfl (rBusyL_does r (keepX y 0) vq1 ) (fun _ s => s) (fun _ _ _ => trivial) (fun vR HR hR => ?_)
  obtain ⟨hv, rfl⟩ := hR
  rw [hkx, h68] at hv
  subst hv
  change TL _ _ _ _ _ _ _ _ _ [blkA r (RepT.cells ({ keepX y 0 with replies := vq1 })) 104, own vq1 ((keepR y 0 (rs)).length) (ints (List.flatMap ReplyT.flat (keepR y 0 (rs)))) 92 3, outP b6 (l ++ keepO y 0), blkA b16 [(.int .i64 (a0)), (.int .i64 (a1)), (.int .i64 (a2)), (.int .i64 (a3))] 63, lgP lg d (((recs).length : Nat) : Int) ((sizeS (recs) : Nat) : Int), dkL d (recs), blkA b7 (ints (haveV c).toList) 61, blkA b8 (ints (haveV y.own).toList) 61, blkA b9 (ints (valV c).toList) 61, blkA b10 (ints (valV y.own).toList) 61]
  refine tp rfl rfl rfl (PV.move rfl rfl) ?_
  refine tp rfl rfl rfl (PV.neqBo rfl Tryz.underlying4 rfl rfl) ?_
  refine TL.decB (fun h85 => ?_) (fun h85 => ?_)
  · exact absurd h85 (by rw [h68]; decide)
  refine tp rfl rfl rfl (PV.move rfl rfl) ?_
  refine tq rfl rfl rfl rfl rfl (PV.move rfl rfl) ?_
  refine TL.callR (A := [blkA r (RepT.cells ({ keepX y 0 with replies := vq1 })) 104, own vq1 ((keepR y 0 (rs)).length) (ints (List.flatMap ReplyT.flat (keepR y 0 (rs)))) 92 3]) (B := [outP b6 (l ++ keepO y 0), blkA b16 [(.int .i64 (a0)), (.int .i64 (a1)), (.int .i64 (a2)), (.int .i64 (a3))] 63, lgP lg d (((recs).length : Nat) : Int) ((sizeS (recs) : Nat) : Int), dkL d (recs), blkA b7 (ints (haveV c).toList) 61, blkA b8 (ints (haveV y.own).toList) 61, blkA b9 (ints (valV c).toList) 61, blkA b10 (ints (valV y.own).toList) 61]) (Want.met rfl rfl rfl) rfl rfl rfl nm15 rfl (replies_does r { (keepX y 0) with replies := vq1 } (keepR y 0 (rs)) (by omega)) (fun _ s => s) (fun _ _ _ => trivial) (fun vR HR hR => ?_)
  obtain ⟨_, rfl, rfl⟩ := hR
  revert vR
  intro uc2
  change TL _ _ _ _ _ _ _ _ _ [blkA r (RepT.cells ({ keepX y 0 with replies := vq1 })) 104, own vq1 ((keepR y 0 (rs)).length) (ints (List.flatMap ReplyT.flat (keepR y 0 (rs)))) 92 3, own uc2 ((keepR y 0 (rs)).length) (ints (List.flatMap ReplyT.flat (keepR y 0 (rs)))) 92 3, outP b6 (l ++ keepO y 0), blkA b16 [(.int .i64 (a0)), (.int .i64 (a1)), (.int .i64 (a2)), (.int .i64 (a3))] 63, lgP lg d (((recs).length : Nat) : Int) ((sizeS (recs) : Nat) : Int), dkL d (recs), blkA b7 (ints (haveV c).toList) 61, blkA b8 (ints (haveV y.own).toList) 61, blkA b9 (ints (valV c).toList) 61, blkA b10 (ints (valV y.own).toList) 61]
  refine TL.ownLen 2 rfl rfl (fun hluc2 _ => ?_)
  refine tq rfl rfl rfl rfl rfl (PV.lenV rfl Tryz.underlying55 rfl hluc2) ?_
  refine tq rfl rfl rfl rfl rfl (PV.move rfl rfl) ?_
  refine tq rfl rfl rfl rfl rfl (PV.neq rfl rfl rfl) ?_
  refine TL.dec (fun h91 => ?_) (fun h91 => ?_)
  · exact absurd (by rw [hkr]) h91
  refine tp rfl rfl rfl (PV.pick rfl rfl rfl) ?_
  refine TL.nil ?_
  refine TE.next hK41 ?_
  clear hK41
  refine TC.no rfl ?_
  refine TC.skip ?_
  refine TE.next hK40 ?_
  clear hK40
  refine TC.exit ?_
  refine TE.pass ?_
  clear hK22
  refine TE.hit ?_
  refine TE.next hK17 ?_
  clear hK17
  refine TC.region ?_
  refine tp rfl rfl rfl (PV.add rfl rfl rfl (wrap_i64 (by omega) (by omega))) ?_
  refine tp rfl rfl rfl (PV.move rfl rfl) ?_
  refine TL.nil ?_
  exact TE.round ((i + 1, keepX y 0, vq1, c, recs, keepR y 0 rs, l ++ keepO y 0, false) : (Nat) × (RepT) × (Value) × (RowT) × (List (List UInt8)) × (List ReplyT) × (List SaidT) × (Bool)) ⟨by omega, hvq1, (by rw [hkx]; exact hI.more (Nat.le_succ _)), by omega, by omega, (by rw [List.length_append]; omega)⟩ (by show l0.length - (i + 1) < l0.length - i; omega)
    (Sub.r (Sub.r (Sub.r (Sub.r (Sub.r (Sub.r (Sub.cons rfl (by rw [hkx]) (Sub.r (Sub.cons rfl (by rw [hkr]) (Sub.cons rfl (by rw [hkx]) (Sub.r (Sub.r (Sub.cons rfl (by simp) (Sub.nil _))))))))))))))
    (fun _ s => by dsimp only; rw [show haveV (keepX y 0).own = haveV y.own by rw [hkx], show valV (keepX y 0).own = valV y.own by rw [hkx]]; exact sep_keep [0, 4, 4, 0, 1, 2, 2, 2, 2] rfl s)
  refine TL.nil ?_
  refine TE.next hK25 ?_
  clear hK25
  refine TC.no rfl ?_
  refine TC.region ?_
  refine tp rfl rfl rfl (PV.move rfl rfl) ?_
  refine tp rfl rfl rfl (PV.mkIface rfl Tryz.underlying34 rfl rfl) ?_
  refine tp rfl rfl rfl (PV.move rfl rfl) ?_
  refine tp rfl rfl rfl (PV.buildSegs (cs := ints (MsgT.mk 1 0 RowT.zero y.own.version 0 BallotT.zero BallotT.zero ChangeT.zero ViewT.zero).flat) (segs := [[Value.int .i64 0], [Value.int .i64 0], ints RowT.zero.flat, [Value.int .i64 0], [Value.int .i64 0], ints BallotT.zero.flat, ints BallotT.zero.flat, ints ChangeT.zero.flat, ints ViewT.zero.flat]) (res := [[Value.int .i64 1], [Value.int .i64 0], ints RowT.zero.flat, [Value.int .i64 y.own.version], [Value.int .i64 0], ints BallotT.zero.flat, ints BallotT.zero.flat, ints ChangeT.zero.flat, ints ViewT.zero.flat]) (parts := [(0, [Value.int .i64 1]), (3, [Value.int .i64 y.own.version])]) rfl rfl Tryz.underlying54 (by kernel_rfl) (by kernel_rfl) rfl (putSegs_step rfl ((rfl : [Value.int .i64 1].length = 1).trans (rfl : [Value.int .i64 0].length = 1).symm) (putSegs_step rfl ((rfl : [Value.int .i64 y.own.version].length = 1).trans (rfl : [Value.int .i64 0].length = 1).symm) putSegs_nil)) (MsgT.eq (MsgT.mk 1 0 RowT.zero y.own.version 0 BallotT.zero BallotT.zero ChangeT.zero ViewT.zero)).symm) ?_
  refine TL.callR (A := [blkA r (RepT.cells ({ y with replies := rv })) 104, own rv ((rs).length) (ints (List.flatMap ReplyT.flat (rs))) 92 3, outP b6 (l)]) (B := [blkA b16 [(.int .i64 (a0)), (.int .i64 (a1)), (.int .i64 (a2)), (.int .i64 (a3))] 63, lgP lg d (((recs).length : Nat) : Int) ((sizeS (recs) : Nat) : Int), dkL d (recs), blkA b7 (ints (haveV c).toList) 61, blkA b8 (ints (haveV y.own).toList) 61, blkA b9 (ints (valV c).toList) 61, blkA b10 (ints (valV y.own).toList) 61]) (Want.plain rfl) rfl rfl rfl nm13 rfl (take1L_does r b6 lg y rv 1 (MsgT.mk 1 0 RowT.zero y.own.version 0 BallotT.zero BallotT.zero ChangeT.zero ViewT.zero) y.own.version (rs) (l) hI.lone (by decide) (by omega) rfl rfl (by omega) (by omega)) (fun _ s => sep_selR [1, 3, 3] rfl s) (fun _ _ _ => trivial) (fun vR HR hR => ?_)
  obtain ⟨vk1, hvk1, rfl⟩ := hR
  change TL _ _ _ _ _ _ _ _ _ [blkA r (RepT.cells ({ keptS y 1 y.own.version with replies := vk1 })) 104, own vk1 ((keptR y 1 y.own.version (rs)).length) (ints (List.flatMap ReplyT.flat (keptR y 1 y.own.version (rs)))) 92 3, outP b6 (l ++ keptO y 1 y.own.version), blkA b16 [(.int .i64 (a0)), (.int .i64 (a1)), (.int .i64 (a2)), (.int .i64 (a3))] 63, lgP lg d (((recs).length : Nat) : Int) ((sizeS (recs) : Nat) : Int), dkL d (recs), blkA b7 (ints (haveV c).toList) 61, blkA b8 (ints (haveV y.own).toList) 61, blkA b9 (ints (valV c).toList) 61, blkA b10 (ints (valV y.own).toList) 61]
  have hLvk1 := hI.lone.kept 1 y.own.version
  have hovk1 := keptO_len y 1 y.own.version
  have hrvk1 := keptR_len y 1 y.own.version (rs)
  obtain ⟨hI3, hbz, hown3⟩ := hI.one
  have hR3 := hI.oneR rs
  refine TL.nil ?_
  refine TE.next hK24 ?_
  clear hK24
  refine TC.seq (fun K42 hK42 => ?_)
  refine TC.seq (fun K43 hK43 => ?_)
  refine TC.region ?_
  refine tp rfl rfl rfl (PV.move rfl rfl) ?_
  refine TL.decB (fun h68 => ?_) (fun h68 => ?_)
  refine tp rfl rfl rfl (PV.move rfl rfl) ?_
  refine tq rfl rfl rfl rfl rfl (PV.move rfl rfl) ?_
  refine tq rfl rfl rfl rfl rfl (PV.eql rfl rfl rfl) ?_
  refine TL.dec (fun h71 => ?_) (fun h71 => ?_)
  · exact absurd h71 h60
  refine tp rfl rfl rfl (PV.pick rfl rfl rfl) ?_
  refine TL.nil ?_
  refine TE.next hK43 ?_
  clear hK43
  refine TC.no rfl ?_
  refine TC.skip ?_
  refine TE.next hK42 ?_
  clear hK42
  refine TC.seq (fun K44 hK44 => ?_)
  refine TC.region ?_
  refine tp rfl rfl rfl (PV.move rfl rfl) ?_
  refine TL.decB (fun h77 => ?_) (fun h77 => ?_)
  refine tp rfl rfl rfl (PV.move rfl rfl) ?_
  refine TL.unmet (b := true) rfl rfl rfl rfl (lb rfl) ?_
  refine TL.unmet (b := true) rfl rfl rfl rfl (lb rfl) ?_
  refine tp rfl rfl rfl (PV.pick rfl rfl rfl) ?_
  refine tp rfl rfl rfl (PV.assign rfl rfl) ?_
  refine TL.nil ?_
  refine TE.next hK44 ?_
  clear hK44
  refine TC.seq (fun K45 hK45 => ?_)
  refine TC.seq (fun K46 hK46 => ?_)
  refine TC.region ?_
  refine tp rfl rfl rfl (PV.move rfl rfl) ?_
  refine TL.callR (A := [blkA r (RepT.cells ({ keptS y 1 y.own.version with replies := vk1 })) 104]) (B := [own vk1 ((keptR y 1 y.own.version (rs)).length) (ints (List.flatMap ReplyT.flat (keptR y 1 y.own.version (rs)))) 92 3, outP b6 (l ++ keptO y 1 y.own.version), blkA b16 [(.int .i64 (a0)), (.int .i64 (a1)), (.int .i64 (a2)), (.int .i64 (a3))] 63, lgP lg d (((recs).length : Nat) : Int) ((sizeS (recs) : Nat) : Int), dkL d (recs), blkA b7 (ints (haveV c).toList) 61, blkA b8 (ints (haveV y.own).toList) 61, blkA b9 (ints (valV c).toList) 61, blkA b10 (ints (valV y.own).toList) 61]) (Want.plain rfl) rfl rfl rfl nm14 rfl (rBusyL_does r (keptS y 1 y.own.version) vk1 ) (fun _ s => s) (fun _ _ _ => trivial) (fun vR HR hR => ?_)
  obtain ⟨hv, rfl⟩ := hR
  rw [hbz] at hv
  subst hv
  change TL _ _ _ _ _ _ _ _ _ [blkA r (RepT.cells ({ keptS y 1 y.own.version with replies := vk1 })) 104, own vk1 ((keptR y 1 y.own.version (rs)).length) (ints (List.flatMap ReplyT.flat (keptR y 1 y.own.version (rs)))) 92 3, outP b6 (l ++ keptO y 1 y.own.version), blkA b16 [(.int .i64 (a0)), (.int .i64 (a1)), (.int .i64 (a2)), (.int .i64 (a3))] 63, lgP lg d (((recs).length : Nat) : Int) ((sizeS (recs) : Nat) : Int), dkL d (recs), blkA b7 (ints (haveV c).toList) 61, blkA b8 (ints (haveV y.own).toList) 61, blkA b9 (ints (valV c).toList) 61, blkA b10 (ints (valV y.own).toList) 61]
  refine tp rfl rfl rfl (PV.move rfl rfl) ?_
  refine tp rfl rfl rfl (PV.neqBo rfl Tryz.underlying4 rfl rfl) ?_
  refine TL.decB (fun h85 => ?_) (fun h85 => ?_)
  · exact absurd h85 (by simp)
  refine tp rfl rfl rfl (PV.move rfl rfl) ?_
  refine tq rfl rfl rfl rfl rfl (PV.move rfl rfl) ?_
  refine TL.callR (A := [blkA r (RepT.cells ({ keptS y 1 y.own.version with replies := vk1 })) 104, own vk1 ((keptR y 1 y.own.version (rs)).length) (ints (List.flatMap ReplyT.flat (keptR y 1 y.own.version (rs)))) 92 3]) (B := [outP b6 (l ++ keptO y 1 y.own.version), blkA b16 [(.int .i64 (a0)), (.int .i64 (a1)), (.int .i64 (a2)), (.int .i64 (a3))] 63, lgP lg d (((recs).length : Nat) : Int) ((sizeS (recs) : Nat) : Int), dkL d (recs), blkA b7 (ints (haveV c).toList) 61, blkA b8 (ints (haveV y.own).toList) 61, blkA b9 (ints (valV c).toList) 61, blkA b10 (ints (valV y.own).toList) 61]) (Want.met rfl rfl rfl) rfl rfl rfl nm15 rfl (replies_does r { (keptS y 1 y.own.version) with replies := vk1 } (keptR y 1 y.own.version (rs)) (by omega)) (fun _ s => s) (fun _ _ _ => trivial) (fun vR HR hR => ?_)
  obtain ⟨_, rfl, rfl⟩ := hR
  revert vR
  intro uc2
  change TL _ _ _ _ _ _ _ _ _ [blkA r (RepT.cells ({ keptS y 1 y.own.version with replies := vk1 })) 104, own vk1 ((keptR y 1 y.own.version (rs)).length) (ints (List.flatMap ReplyT.flat (keptR y 1 y.own.version (rs)))) 92 3, own uc2 ((keptR y 1 y.own.version (rs)).length) (ints (List.flatMap ReplyT.flat (keptR y 1 y.own.version (rs)))) 92 3, outP b6 (l ++ keptO y 1 y.own.version), blkA b16 [(.int .i64 (a0)), (.int .i64 (a1)), (.int .i64 (a2)), (.int .i64 (a3))] 63, lgP lg d (((recs).length : Nat) : Int) ((sizeS (recs) : Nat) : Int), dkL d (recs), blkA b7 (ints (haveV c).toList) 61, blkA b8 (ints (haveV y.own).toList) 61, blkA b9 (ints (valV c).toList) 61, blkA b10 (ints (valV y.own).toList) 61]
  refine TL.ownLen 2 rfl rfl (fun hluc2 _ => ?_)
  refine tq rfl rfl rfl rfl rfl (PV.lenV rfl Tryz.underlying55 rfl hluc2) ?_
  refine tq rfl rfl rfl rfl rfl (PV.move rfl rfl) ?_
  refine tq rfl rfl rfl rfl rfl (PV.neq rfl rfl rfl) ?_
  refine TL.dec (fun h91 => ?_) (fun h91 => ?_)
  · exact absurd (by rw [hR3]) h91
  refine tp rfl rfl rfl (PV.pick rfl rfl rfl) ?_
  refine TL.nil ?_
  refine TE.next hK46 ?_
  clear hK46
  refine TC.no rfl ?_
  refine TC.skip ?_
  refine TE.next hK45 ?_
  clear hK45
  refine TC.exit ?_
  refine TE.pass ?_
  clear hK22
  refine TE.hit ?_
  refine TE.next hK17 ?_
  clear hK17
  refine TC.region ?_
  refine tp rfl rfl rfl (PV.add rfl rfl rfl (wrap_i64 (by omega) (by omega))) ?_
  refine tp rfl rfl rfl (PV.move rfl rfl) ?_
  refine TL.nil ?_
  exact TE.round ((i + 1, keptS y 1 y.own.version, vk1, c, recs, keptR y 1 y.own.version rs, l ++ keptO y 1 y.own.version, true) : (Nat) × (RepT) × (Value) × (RowT) × (List (List UInt8)) × (List ReplyT) × (List SaidT) × (Bool)) ⟨by omega, hvk1, hI3.more (Nat.le_succ _), by omega, by omega, (by rw [List.length_append]; omega)⟩ (by show l0.length - (i + 1) < l0.length - i; omega)
    (Sub.r (Sub.r (Sub.r (Sub.r (Sub.r (Sub.r (Sub.cons rfl (by rw [hbz]) (Sub.r (Sub.cons rfl (by rw [hR3]) (Sub.cons rfl (by rw [hown3]) (Sub.r (Sub.r (Sub.cons rfl (by simp) (Sub.nil _))))))))))))))
    (fun _ s => by dsimp only; rw [show haveV (keptS y 1 y.own.version).own = haveV y.own by rw [hown3], show valV (keptS y 1 y.own.version).own = valV y.own by rw [hown3]]; exact sep_keep [0, 4, 4, 0, 1, 2, 2, 2, 2] rfl s)
  refine tp rfl rfl rfl (PV.move rfl rfl) ?_
  refine tq rfl rfl rfl rfl rfl (PV.move rfl rfl) ?_
  refine tq rfl rfl rfl rfl rfl (PV.eql rfl rfl rfl) ?_
  refine TL.dec (fun h80 => ?_) (fun h80 => ?_)
  refine tp rfl rfl rfl (PV.pick rfl rfl rfl) ?_
  refine tp rfl rfl rfl (PV.assign rfl rfl) ?_
  refine TL.nil ?_
  refine TE.next hK44 ?_
  clear hK44
  refine TC.seq (fun K47 hK47 => ?_)
  refine TC.seq (fun K48 hK48 => ?_)
  refine TC.region ?_
  refine tp rfl rfl rfl (PV.move rfl rfl) ?_
  refine TL.callR (A := [blkA r (RepT.cells ({ keptS y 1 y.own.version with replies := vk1 })) 104]) (B := [own vk1 ((keptR y 1 y.own.version (rs)).length) (ints (List.flatMap ReplyT.flat (keptR y 1 y.own.version (rs)))) 92 3, outP b6 (l ++ keptO y 1 y.own.version), blkA b16 [(.int .i64 (a0)), (.int .i64 (a1)), (.int .i64 (a2)), (.int .i64 (a3))] 63, lgP lg d (((recs).length : Nat) : Int) ((sizeS (recs) : Nat) : Int), dkL d (recs), blkA b7 (ints (haveV c).toList) 61, blkA b8 (ints (haveV y.own).toList) 61, blkA b9 (ints (valV c).toList) 61, blkA b10 (ints (valV y.own).toList) 61]) (Want.plain rfl) rfl rfl rfl nm14 rfl (rBusyL_does r (keptS y 1 y.own.version) vk1 ) (fun _ s => s) (fun _ _ _ => trivial) (fun vR HR hR => ?_)
  obtain ⟨hv, rfl⟩ := hR
  rw [hbz] at hv
  subst hv
  change TL _ _ _ _ _ _ _ _ _ [blkA r (RepT.cells ({ keptS y 1 y.own.version with replies := vk1 })) 104, own vk1 ((keptR y 1 y.own.version (rs)).length) (ints (List.flatMap ReplyT.flat (keptR y 1 y.own.version (rs)))) 92 3, outP b6 (l ++ keptO y 1 y.own.version), blkA b16 [(.int .i64 (a0)), (.int .i64 (a1)), (.int .i64 (a2)), (.int .i64 (a3))] 63, lgP lg d (((recs).length : Nat) : Int) ((sizeS (recs) : Nat) : Int), dkL d (recs), blkA b7 (ints (haveV c).toList) 61, blkA b8 (ints (haveV y.own).toList) 61, blkA b9 (ints (valV c).toList) 61, blkA b10 (ints (valV y.own).toList) 61]
  refine tp rfl rfl rfl (PV.move rfl rfl) ?_
  refine tp rfl rfl rfl (PV.neqBo rfl Tryz.underlying4 rfl rfl) ?_
  refine TL.decB (fun h85 => ?_) (fun h85 => ?_)
  · exact absurd h85 (by simp)
  refine tp rfl rfl rfl (PV.move rfl rfl) ?_
  refine tq rfl rfl rfl rfl rfl (PV.move rfl rfl) ?_
  refine TL.callR (A := [blkA r (RepT.cells ({ keptS y 1 y.own.version with replies := vk1 })) 104, own vk1 ((keptR y 1 y.own.version (rs)).length) (ints (List.flatMap ReplyT.flat (keptR y 1 y.own.version (rs)))) 92 3]) (B := [outP b6 (l ++ keptO y 1 y.own.version), blkA b16 [(.int .i64 (a0)), (.int .i64 (a1)), (.int .i64 (a2)), (.int .i64 (a3))] 63, lgP lg d (((recs).length : Nat) : Int) ((sizeS (recs) : Nat) : Int), dkL d (recs), blkA b7 (ints (haveV c).toList) 61, blkA b8 (ints (haveV y.own).toList) 61, blkA b9 (ints (valV c).toList) 61, blkA b10 (ints (valV y.own).toList) 61]) (Want.met rfl rfl rfl) rfl rfl rfl nm15 rfl (replies_does r { (keptS y 1 y.own.version) with replies := vk1 } (keptR y 1 y.own.version (rs)) (by omega)) (fun _ s => s) (fun _ _ _ => trivial) (fun vR HR hR => ?_)
  obtain ⟨_, rfl, rfl⟩ := hR
  revert vR
  intro uc2
  change TL _ _ _ _ _ _ _ _ _ [blkA r (RepT.cells ({ keptS y 1 y.own.version with replies := vk1 })) 104, own vk1 ((keptR y 1 y.own.version (rs)).length) (ints (List.flatMap ReplyT.flat (keptR y 1 y.own.version (rs)))) 92 3, own uc2 ((keptR y 1 y.own.version (rs)).length) (ints (List.flatMap ReplyT.flat (keptR y 1 y.own.version (rs)))) 92 3, outP b6 (l ++ keptO y 1 y.own.version), blkA b16 [(.int .i64 (a0)), (.int .i64 (a1)), (.int .i64 (a2)), (.int .i64 (a3))] 63, lgP lg d (((recs).length : Nat) : Int) ((sizeS (recs) : Nat) : Int), dkL d (recs), blkA b7 (ints (haveV c).toList) 61, blkA b8 (ints (haveV y.own).toList) 61, blkA b9 (ints (valV c).toList) 61, blkA b10 (ints (valV y.own).toList) 61]
  refine TL.ownLen 2 rfl rfl (fun hluc2 _ => ?_)
  refine tq rfl rfl rfl rfl rfl (PV.lenV rfl Tryz.underlying55 rfl hluc2) ?_
  refine tq rfl rfl rfl rfl rfl (PV.move rfl rfl) ?_
  refine tq rfl rfl rfl rfl rfl (PV.neq rfl rfl rfl) ?_
  refine TL.dec (fun h91 => ?_) (fun h91 => ?_)
  · exact absurd (by rw [hR3]) h91
  refine tp rfl rfl rfl (PV.pick rfl rfl rfl) ?_
  refine TL.nil ?_
  refine TE.next hK48 ?_
  clear hK48
  refine TC.no rfl ?_
  refine TC.skip ?_
  refine TE.next hK47 ?_
  clear hK47
  refine TC.exit ?_
  refine TE.pass ?_
  clear hK22
  refine TE.hit ?_
  refine TE.next hK17 ?_
  clear hK17
  refine TC.region ?_
  refine tp rfl rfl rfl (PV.add rfl rfl rfl (wrap_i64 (by omega) (by omega))) ?_
  refine tp rfl rfl rfl (PV.move rfl rfl) ?_
  refine TL.nil ?_
  exact TE.round ((i + 1, keptS y 1 y.own.version, vk1, c, recs, keptR y 1 y.own.version rs, l ++ keptO y 1 y.own.version, true) : (Nat) × (RepT) × (Value) × (RowT) × (List (List UInt8)) × (List ReplyT) × (List SaidT) × (Bool)) ⟨by omega, hvk1, hI3.more (Nat.le_succ _), by omega, by omega, (by rw [List.length_append]; omega)⟩ (by show l0.length - (i + 1) < l0.length - i; omega)
    (Sub.r (Sub.r (Sub.r (Sub.r (Sub.r (Sub.r (Sub.cons rfl (by rw [hbz]) (Sub.r (Sub.cons rfl (by rw [hR3]) (Sub.cons rfl (by rw [hown3]) (Sub.r (Sub.r (Sub.cons rfl (by simp) (Sub.nil _))))))))))))))
    (fun _ s => by dsimp only; rw [show haveV (keptS y 1 y.own.version).own = haveV y.own by rw [hown3], show valV (keptS y 1 y.own.version).own = valV y.own by rw [hown3]]; exact sep_keep [0, 4, 4, 0, 1, 2, 2, 2, 2] rfl s)
  refine tp rfl rfl rfl (PV.pick rfl rfl rfl) ?_
  refine tp rfl rfl rfl (PV.assign rfl rfl) ?_
  refine TL.nil ?_
  refine TE.next hK44 ?_
  clear hK44
  refine TC.seq (fun K49 hK49 => ?_)
  refine TC.seq (fun K50 hK50 => ?_)
  refine TC.region ?_
  refine tp rfl rfl rfl (PV.move rfl rfl) ?_
  refine TL.callR (A := [blkA r (RepT.cells ({ keptS y 1 y.own.version with replies := vk1 })) 104]) (B := [own vk1 ((keptR y 1 y.own.version (rs)).length) (ints (List.flatMap ReplyT.flat (keptR y 1 y.own.version (rs)))) 92 3, outP b6 (l ++ keptO y 1 y.own.version), blkA b16 [(.int .i64 (a0)), (.int .i64 (a1)), (.int .i64 (a2)), (.int .i64 (a3))] 63, lgP lg d (((recs).length : Nat) : Int) ((sizeS (recs) : Nat) : Int), dkL d (recs), blkA b7 (ints (haveV c).toList) 61, blkA b8 (ints (haveV y.own).toList) 61, blkA b9 (ints (valV c).toList) 61, blkA b10 (ints (valV y.own).toList) 61]) (Want.plain rfl) rfl rfl rfl nm14 rfl (rBusyL_does r (keptS y 1 y.own.version) vk1 ) (fun _ s => s) (fun _ _ _ => trivial) (fun vR HR hR => ?_)
  obtain ⟨hv, rfl⟩ := hR
  rw [hbz] at hv
  subst hv
  change TL _ _ _ _ _ _ _ _ _ [blkA r (RepT.cells ({ keptS y 1 y.own.version with replies := vk1 })) 104, own vk1 ((keptR y 1 y.own.version (rs)).length) (ints (List.flatMap ReplyT.flat (keptR y 1 y.own.version (rs)))) 92 3, outP b6 (l ++ keptO y 1 y.own.version), blkA b16 [(.int .i64 (a0)), (.int .i64 (a1)), (.int .i64 (a2)), (.int .i64 (a3))] 63, lgP lg d (((recs).length : Nat) : Int) ((sizeS (recs) : Nat) : Int), dkL d (recs), blkA b7 (ints (haveV c).toList) 61, blkA b8 (ints (haveV y.own).toList) 61, blkA b9 (ints (valV c).toList) 61, blkA b10 (ints (valV y.own).toList) 61]
  refine tp rfl rfl rfl (PV.move rfl rfl) ?_
  refine tp rfl rfl rfl (PV.neqBo rfl Tryz.underlying4 rfl rfl) ?_
  refine TL.decB (fun h85 => ?_) (fun h85 => ?_)
  · exact absurd h85 (by simp)
  refine tp rfl rfl rfl (PV.move rfl rfl) ?_
  refine tq rfl rfl rfl rfl rfl (PV.move rfl rfl) ?_
  refine TL.callR (A := [blkA r (RepT.cells ({ keptS y 1 y.own.version with replies := vk1 })) 104, own vk1 ((keptR y 1 y.own.version (rs)).length) (ints (List.flatMap ReplyT.flat (keptR y 1 y.own.version (rs)))) 92 3]) (B := [outP b6 (l ++ keptO y 1 y.own.version), blkA b16 [(.int .i64 (a0)), (.int .i64 (a1)), (.int .i64 (a2)), (.int .i64 (a3))] 63, lgP lg d (((recs).length : Nat) : Int) ((sizeS (recs) : Nat) : Int), dkL d (recs), blkA b7 (ints (haveV c).toList) 61, blkA b8 (ints (haveV y.own).toList) 61, blkA b9 (ints (valV c).toList) 61, blkA b10 (ints (valV y.own).toList) 61]) (Want.met rfl rfl rfl) rfl rfl rfl nm15 rfl (replies_does r { (keptS y 1 y.own.version) with replies := vk1 } (keptR y 1 y.own.version (rs)) (by omega)) (fun _ s => s) (fun _ _ _ => trivial) (fun vR HR hR => ?_)
  obtain ⟨_, rfl, rfl⟩ := hR
  revert vR
  intro uc2
  change TL _ _ _ _ _ _ _ _ _ [blkA r (RepT.cells ({ keptS y 1 y.own.version with replies := vk1 })) 104, own vk1 ((keptR y 1 y.own.version (rs)).length) (ints (List.flatMap ReplyT.flat (keptR y 1 y.own.version (rs)))) 92 3, own uc2 ((keptR y 1 y.own.version (rs)).length) (ints (List.flatMap ReplyT.flat (keptR y 1 y.own.version (rs)))) 92 3, outP b6 (l ++ keptO y 1 y.own.version), blkA b16 [(.int .i64 (a0)), (.int .i64 (a1)), (.int .i64 (a2)), (.int .i64 (a3))] 63, lgP lg d (((recs).length : Nat) : Int) ((sizeS (recs) : Nat) : Int), dkL d (recs), blkA b7 (ints (haveV c).toList) 61, blkA b8 (ints (haveV y.own).toList) 61, blkA b9 (ints (valV c).toList) 61, blkA b10 (ints (valV y.own).toList) 61]
  refine TL.ownLen 2 rfl rfl (fun hluc2 _ => ?_)
  refine tq rfl rfl rfl rfl rfl (PV.lenV rfl Tryz.underlying55 rfl hluc2) ?_
  refine tq rfl rfl rfl rfl rfl (PV.move rfl rfl) ?_
  refine tq rfl rfl rfl rfl rfl (PV.neq rfl rfl rfl) ?_
  refine TL.dec (fun h91 => ?_) (fun h91 => ?_)
  · exact absurd (by rw [hR3]) h91
  refine tp rfl rfl rfl (PV.pick rfl rfl rfl) ?_
  refine TL.nil ?_
  refine TE.next hK50 ?_
  clear hK50
  refine TC.no rfl ?_
  refine TC.skip ?_
  refine TE.next hK49 ?_
  clear hK49
  refine TC.exit ?_
  refine TE.pass ?_
  clear hK22
  refine TE.hit ?_
  refine TE.next hK17 ?_
  clear hK17
  refine TC.region ?_
  refine tp rfl rfl rfl (PV.add rfl rfl rfl (wrap_i64 (by omega) (by omega))) ?_
  refine tp rfl rfl rfl (PV.move rfl rfl) ?_
  refine TL.nil ?_
  exact TE.round ((i + 1, keptS y 1 y.own.version, vk1, c, recs, keptR y 1 y.own.version rs, l ++ keptO y 1 y.own.version, false) : (Nat) × (RepT) × (Value) × (RowT) × (List (List UInt8)) × (List ReplyT) × (List SaidT) × (Bool)) ⟨by omega, hvk1, hI3.more (Nat.le_succ _), by omega, by omega, (by rw [List.length_append]; omega)⟩ (by show l0.length - (i + 1) < l0.length - i; omega)
    (Sub.r (Sub.r (Sub.r (Sub.r (Sub.r (Sub.r (Sub.cons rfl (by rw [hbz]) (Sub.r (Sub.cons rfl (by rw [hR3]) (Sub.cons rfl (by rw [hown3]) (Sub.r (Sub.r (Sub.cons rfl (by simp) (Sub.nil _))))))))))))))
    (fun _ s => by dsimp only; rw [show haveV (keptS y 1 y.own.version).own = haveV y.own by rw [hown3], show valV (keptS y 1 y.own.version).own = valV y.own by rw [hown3]]; exact sep_keep [0, 4, 4, 0, 1, 2, 2, 2, 2] rfl s)
  refine tp rfl rfl rfl (PV.move rfl rfl) ?_
  refine TL.unmet (b := false) rfl rfl rfl rfl (lb rfl) ?_
  refine TL.unmet (b := false) rfl rfl rfl rfl (lb rfl) ?_
  refine tp rfl rfl rfl (PV.pick rfl rfl rfl) ?_
  refine TL.nil ?_
  refine TE.next hK43 ?_
  clear hK43
  refine TC.no rfl ?_
  refine TC.skip ?_
  refine TE.next hK42 ?_
  clear hK42
  refine TC.seq (fun K51 hK51 => ?_)
  refine TC.region ?_
  refine tp rfl rfl rfl (PV.move rfl rfl) ?_
  refine TL.decB (fun h77 => ?_) (fun h77 => ?_)
  refine tp rfl rfl rfl (PV.move rfl rfl) ?_
  refine TL.unmet (b := true) rfl rfl rfl rfl (lb rfl) ?_
  refine TL.unmet (b := true) rfl rfl rfl rfl (lb rfl) ?_
  refine tp rfl rfl rfl (PV.pick rfl rfl rfl) ?_
  refine tp rfl rfl rfl (PV.assign rfl rfl) ?_
  refine TL.nil ?_
  refine TE.next hK51 ?_
  clear hK51
  refine TC.seq (fun K52 hK52 => ?_)
  refine TC.seq (fun K53 hK53 => ?_)
  refine TC.region ?_
  refine tp rfl rfl rfl (PV.move rfl rfl) ?_
  refine TL.callR (A := [blkA r (RepT.cells ({ keptS y 1 y.own.version with replies := vk1 })) 104]) (B := [own vk1 ((keptR y 1 y.own.version (rs)).length) (ints (List.flatMap ReplyT.flat (keptR y 1 y.own.version (rs)))) 92 3, outP b6 (l ++ keptO y 1 y.own.version), blkA b16 [(.int .i64 (a0)), (.int .i64 (a1)), (.int .i64 (a2)), (.int .i64 (a3))] 63, lgP lg d (((recs).length : Nat) : Int) ((sizeS (recs) : Nat) : Int), dkL d (recs), blkA b7 (ints (haveV c).toList) 61, blkA b8 (ints (haveV y.own).toList) 61, blkA b9 (ints (valV c).toList) 61, blkA b10 (ints (valV y.own).toList) 61]) (Want.plain rfl) rfl rfl rfl nm14 rfl (rBusyL_does r (keptS y 1 y.own.version) vk1 ) (fun _ s => s) (fun _ _ _ => trivial) (fun vR HR hR => ?_)
  obtain ⟨hv, rfl⟩ := hR
  rw [hbz] at hv
  subst hv
  change TL _ _ _ _ _ _ _ _ _ [blkA r (RepT.cells ({ keptS y 1 y.own.version with replies := vk1 })) 104, own vk1 ((keptR y 1 y.own.version (rs)).length) (ints (List.flatMap ReplyT.flat (keptR y 1 y.own.version (rs)))) 92 3, outP b6 (l ++ keptO y 1 y.own.version), blkA b16 [(.int .i64 (a0)), (.int .i64 (a1)), (.int .i64 (a2)), (.int .i64 (a3))] 63, lgP lg d (((recs).length : Nat) : Int) ((sizeS (recs) : Nat) : Int), dkL d (recs), blkA b7 (ints (haveV c).toList) 61, blkA b8 (ints (haveV y.own).toList) 61, blkA b9 (ints (valV c).toList) 61, blkA b10 (ints (valV y.own).toList) 61]
  refine tp rfl rfl rfl (PV.move rfl rfl) ?_
  refine tp rfl rfl rfl (PV.neqBo rfl Tryz.underlying4 rfl rfl) ?_
  refine TL.decB (fun h85 => ?_) (fun h85 => ?_)
  · exact absurd h85 (by simp)
  refine tp rfl rfl rfl (PV.move rfl rfl) ?_
  refine tq rfl rfl rfl rfl rfl (PV.move rfl rfl) ?_
  refine TL.callR (A := [blkA r (RepT.cells ({ keptS y 1 y.own.version with replies := vk1 })) 104, own vk1 ((keptR y 1 y.own.version (rs)).length) (ints (List.flatMap ReplyT.flat (keptR y 1 y.own.version (rs)))) 92 3]) (B := [outP b6 (l ++ keptO y 1 y.own.version), blkA b16 [(.int .i64 (a0)), (.int .i64 (a1)), (.int .i64 (a2)), (.int .i64 (a3))] 63, lgP lg d (((recs).length : Nat) : Int) ((sizeS (recs) : Nat) : Int), dkL d (recs), blkA b7 (ints (haveV c).toList) 61, blkA b8 (ints (haveV y.own).toList) 61, blkA b9 (ints (valV c).toList) 61, blkA b10 (ints (valV y.own).toList) 61]) (Want.met rfl rfl rfl) rfl rfl rfl nm15 rfl (replies_does r { (keptS y 1 y.own.version) with replies := vk1 } (keptR y 1 y.own.version (rs)) (by omega)) (fun _ s => s) (fun _ _ _ => trivial) (fun vR HR hR => ?_)
  obtain ⟨_, rfl, rfl⟩ := hR
  revert vR
  intro uc2
  change TL _ _ _ _ _ _ _ _ _ [blkA r (RepT.cells ({ keptS y 1 y.own.version with replies := vk1 })) 104, own vk1 ((keptR y 1 y.own.version (rs)).length) (ints (List.flatMap ReplyT.flat (keptR y 1 y.own.version (rs)))) 92 3, own uc2 ((keptR y 1 y.own.version (rs)).length) (ints (List.flatMap ReplyT.flat (keptR y 1 y.own.version (rs)))) 92 3, outP b6 (l ++ keptO y 1 y.own.version), blkA b16 [(.int .i64 (a0)), (.int .i64 (a1)), (.int .i64 (a2)), (.int .i64 (a3))] 63, lgP lg d (((recs).length : Nat) : Int) ((sizeS (recs) : Nat) : Int), dkL d (recs), blkA b7 (ints (haveV c).toList) 61, blkA b8 (ints (haveV y.own).toList) 61, blkA b9 (ints (valV c).toList) 61, blkA b10 (ints (valV y.own).toList) 61]
  refine TL.ownLen 2 rfl rfl (fun hluc2 _ => ?_)
  refine tq rfl rfl rfl rfl rfl (PV.lenV rfl Tryz.underlying55 rfl hluc2) ?_
  refine tq rfl rfl rfl rfl rfl (PV.move rfl rfl) ?_
  refine tq rfl rfl rfl rfl rfl (PV.neq rfl rfl rfl) ?_
  refine TL.dec (fun h91 => ?_) (fun h91 => ?_)
  · exact absurd (by rw [hR3]) h91
  refine tp rfl rfl rfl (PV.pick rfl rfl rfl) ?_
  refine TL.nil ?_
  refine TE.next hK53 ?_
  clear hK53
  refine TC.no rfl ?_
  refine TC.skip ?_
  refine TE.next hK52 ?_
  clear hK52
  refine TC.exit ?_
  refine TE.pass ?_
  clear hK22
  refine TE.hit ?_
  refine TE.next hK17 ?_
  clear hK17
  refine TC.region ?_
  refine tp rfl rfl rfl (PV.add rfl rfl rfl (wrap_i64 (by omega) (by omega))) ?_
  refine tp rfl rfl rfl (PV.move rfl rfl) ?_
  refine TL.nil ?_
  exact TE.round ((i + 1, keptS y 1 y.own.version, vk1, c, recs, keptR y 1 y.own.version rs, l ++ keptO y 1 y.own.version, true) : (Nat) × (RepT) × (Value) × (RowT) × (List (List UInt8)) × (List ReplyT) × (List SaidT) × (Bool)) ⟨by omega, hvk1, hI3.more (Nat.le_succ _), by omega, by omega, (by rw [List.length_append]; omega)⟩ (by show l0.length - (i + 1) < l0.length - i; omega)
    (Sub.r (Sub.r (Sub.r (Sub.r (Sub.r (Sub.r (Sub.cons rfl (by rw [hbz]) (Sub.r (Sub.cons rfl (by rw [hR3]) (Sub.cons rfl (by rw [hown3]) (Sub.r (Sub.r (Sub.cons rfl (by simp) (Sub.nil _))))))))))))))
    (fun _ s => by dsimp only; rw [show haveV (keptS y 1 y.own.version).own = haveV y.own by rw [hown3], show valV (keptS y 1 y.own.version).own = valV y.own by rw [hown3]]; exact sep_keep [0, 4, 4, 0, 1, 2, 2, 2, 2] rfl s)
  refine tp rfl rfl rfl (PV.move rfl rfl) ?_
  refine tq rfl rfl rfl rfl rfl (PV.move rfl rfl) ?_
  refine tq rfl rfl rfl rfl rfl (PV.eql rfl rfl rfl) ?_
  refine TL.dec (fun h80 => ?_) (fun h80 => ?_)
  refine tp rfl rfl rfl (PV.pick rfl rfl rfl) ?_
  refine tp rfl rfl rfl (PV.assign rfl rfl) ?_
  refine TL.nil ?_
  refine TE.next hK51 ?_
  clear hK51
  refine TC.seq (fun K54 hK54 => ?_)
  refine TC.seq (fun K55 hK55 => ?_)
  refine TC.region ?_
  refine tp rfl rfl rfl (PV.move rfl rfl) ?_
  refine TL.callR (A := [blkA r (RepT.cells ({ keptS y 1 y.own.version with replies := vk1 })) 104]) (B := [own vk1 ((keptR y 1 y.own.version (rs)).length) (ints (List.flatMap ReplyT.flat (keptR y 1 y.own.version (rs)))) 92 3, outP b6 (l ++ keptO y 1 y.own.version), blkA b16 [(.int .i64 (a0)), (.int .i64 (a1)), (.int .i64 (a2)), (.int .i64 (a3))] 63, lgP lg d (((recs).length : Nat) : Int) ((sizeS (recs) : Nat) : Int), dkL d (recs), blkA b7 (ints (haveV c).toList) 61, blkA b8 (ints (haveV y.own).toList) 61, blkA b9 (ints (valV c).toList) 61, blkA b10 (ints (valV y.own).toList) 61]) (Want.plain rfl) rfl rfl rfl nm14 rfl (rBusyL_does r (keptS y 1 y.own.version) vk1 ) (fun _ s => s) (fun _ _ _ => trivial) (fun vR HR hR => ?_)
  obtain ⟨hv, rfl⟩ := hR
  rw [hbz] at hv
  subst hv
  change TL _ _ _ _ _ _ _ _ _ [blkA r (RepT.cells ({ keptS y 1 y.own.version with replies := vk1 })) 104, own vk1 ((keptR y 1 y.own.version (rs)).length) (ints (List.flatMap ReplyT.flat (keptR y 1 y.own.version (rs)))) 92 3, outP b6 (l ++ keptO y 1 y.own.version), blkA b16 [(.int .i64 (a0)), (.int .i64 (a1)), (.int .i64 (a2)), (.int .i64 (a3))] 63, lgP lg d (((recs).length : Nat) : Int) ((sizeS (recs) : Nat) : Int), dkL d (recs), blkA b7 (ints (haveV c).toList) 61, blkA b8 (ints (haveV y.own).toList) 61, blkA b9 (ints (valV c).toList) 61, blkA b10 (ints (valV y.own).toList) 61]
  refine tp rfl rfl rfl (PV.move rfl rfl) ?_
  refine tp rfl rfl rfl (PV.neqBo rfl Tryz.underlying4 rfl rfl) ?_
  refine TL.decB (fun h85 => ?_) (fun h85 => ?_)
  · exact absurd h85 (by simp)
  refine tp rfl rfl rfl (PV.move rfl rfl) ?_
  refine tq rfl rfl rfl rfl rfl (PV.move rfl rfl) ?_
  refine TL.callR (A := [blkA r (RepT.cells ({ keptS y 1 y.own.version with replies := vk1 })) 104, own vk1 ((keptR y 1 y.own.version (rs)).length) (ints (List.flatMap ReplyT.flat (keptR y 1 y.own.version (rs)))) 92 3]) (B := [outP b6 (l ++ keptO y 1 y.own.version), blkA b16 [(.int .i64 (a0)), (.int .i64 (a1)), (.int .i64 (a2)), (.int .i64 (a3))] 63, lgP lg d (((recs).length : Nat) : Int) ((sizeS (recs) : Nat) : Int), dkL d (recs), blkA b7 (ints (haveV c).toList) 61, blkA b8 (ints (haveV y.own).toList) 61, blkA b9 (ints (valV c).toList) 61, blkA b10 (ints (valV y.own).toList) 61]) (Want.met rfl rfl rfl) rfl rfl rfl nm15 rfl (replies_does r { (keptS y 1 y.own.version) with replies := vk1 } (keptR y 1 y.own.version (rs)) (by omega)) (fun _ s => s) (fun _ _ _ => trivial) (fun vR HR hR => ?_)
  obtain ⟨_, rfl, rfl⟩ := hR
  revert vR
  intro uc2
  change TL _ _ _ _ _ _ _ _ _ [blkA r (RepT.cells ({ keptS y 1 y.own.version with replies := vk1 })) 104, own vk1 ((keptR y 1 y.own.version (rs)).length) (ints (List.flatMap ReplyT.flat (keptR y 1 y.own.version (rs)))) 92 3, own uc2 ((keptR y 1 y.own.version (rs)).length) (ints (List.flatMap ReplyT.flat (keptR y 1 y.own.version (rs)))) 92 3, outP b6 (l ++ keptO y 1 y.own.version), blkA b16 [(.int .i64 (a0)), (.int .i64 (a1)), (.int .i64 (a2)), (.int .i64 (a3))] 63, lgP lg d (((recs).length : Nat) : Int) ((sizeS (recs) : Nat) : Int), dkL d (recs), blkA b7 (ints (haveV c).toList) 61, blkA b8 (ints (haveV y.own).toList) 61, blkA b9 (ints (valV c).toList) 61, blkA b10 (ints (valV y.own).toList) 61]
  refine TL.ownLen 2 rfl rfl (fun hluc2 _ => ?_)
  refine tq rfl rfl rfl rfl rfl (PV.lenV rfl Tryz.underlying55 rfl hluc2) ?_
  refine tq rfl rfl rfl rfl rfl (PV.move rfl rfl) ?_
  refine tq rfl rfl rfl rfl rfl (PV.neq rfl rfl rfl) ?_
  refine TL.dec (fun h91 => ?_) (fun h91 => ?_)
  · exact absurd (by rw [hR3]) h91
  refine tp rfl rfl rfl (PV.pick rfl rfl rfl) ?_
  refine TL.nil ?_
  refine TE.next hK55 ?_
  clear hK55
  refine TC.no rfl ?_
  refine TC.skip ?_
  refine TE.next hK54 ?_
  clear hK54
  refine TC.exit ?_
  refine TE.pass ?_
  clear hK22
  refine TE.hit ?_
  refine TE.next hK17 ?_
  clear hK17
  refine TC.region ?_
  refine tp rfl rfl rfl (PV.add rfl rfl rfl (wrap_i64 (by omega) (by omega))) ?_
  refine tp rfl rfl rfl (PV.move rfl rfl) ?_
  refine TL.nil ?_
  exact TE.round ((i + 1, keptS y 1 y.own.version, vk1, c, recs, keptR y 1 y.own.version rs, l ++ keptO y 1 y.own.version, true) : (Nat) × (RepT) × (Value) × (RowT) × (List (List UInt8)) × (List ReplyT) × (List SaidT) × (Bool)) ⟨by omega, hvk1, hI3.more (Nat.le_succ _), by omega, by omega, (by rw [List.length_append]; omega)⟩ (by show l0.length - (i + 1) < l0.length - i; omega)
    (Sub.r (Sub.r (Sub.r (Sub.r (Sub.r (Sub.r (Sub.cons rfl (by rw [hbz]) (Sub.r (Sub.cons rfl (by rw [hR3]) (Sub.cons rfl (by rw [hown3]) (Sub.r (Sub.r (Sub.cons rfl (by simp) (Sub.nil _))))))))))))))
    (fun _ s => by dsimp only; rw [show haveV (keptS y 1 y.own.version).own = haveV y.own by rw [hown3], show valV (keptS y 1 y.own.version).own = valV y.own by rw [hown3]]; exact sep_keep [0, 4, 4, 0, 1, 2, 2, 2, 2] rfl s)
  refine tp rfl rfl rfl (PV.pick rfl rfl rfl) ?_
  refine tp rfl rfl rfl (PV.assign rfl rfl) ?_
  refine TL.nil ?_
  refine TE.next hK51 ?_
  clear hK51
  refine TC.seq (fun K56 hK56 => ?_)
  refine TC.seq (fun K57 hK57 => ?_)
  refine TC.region ?_
  refine tp rfl rfl rfl (PV.move rfl rfl) ?_
  refine TL.callR (A := [blkA r (RepT.cells ({ keptS y 1 y.own.version with replies := vk1 })) 104]) (B := [own vk1 ((keptR y 1 y.own.version (rs)).length) (ints (List.flatMap ReplyT.flat (keptR y 1 y.own.version (rs)))) 92 3, outP b6 (l ++ keptO y 1 y.own.version), blkA b16 [(.int .i64 (a0)), (.int .i64 (a1)), (.int .i64 (a2)), (.int .i64 (a3))] 63, lgP lg d (((recs).length : Nat) : Int) ((sizeS (recs) : Nat) : Int), dkL d (recs), blkA b7 (ints (haveV c).toList) 61, blkA b8 (ints (haveV y.own).toList) 61, blkA b9 (ints (valV c).toList) 61, blkA b10 (ints (valV y.own).toList) 61]) (Want.plain rfl) rfl rfl rfl nm14 rfl (rBusyL_does r (keptS y 1 y.own.version) vk1 ) (fun _ s => s) (fun _ _ _ => trivial) (fun vR HR hR => ?_)
  obtain ⟨hv, rfl⟩ := hR
  rw [hbz] at hv
  subst hv
  change TL _ _ _ _ _ _ _ _ _ [blkA r (RepT.cells ({ keptS y 1 y.own.version with replies := vk1 })) 104, own vk1 ((keptR y 1 y.own.version (rs)).length) (ints (List.flatMap ReplyT.flat (keptR y 1 y.own.version (rs)))) 92 3, outP b6 (l ++ keptO y 1 y.own.version), blkA b16 [(.int .i64 (a0)), (.int .i64 (a1)), (.int .i64 (a2)), (.int .i64 (a3))] 63, lgP lg d (((recs).length : Nat) : Int) ((sizeS (recs) : Nat) : Int), dkL d (recs), blkA b7 (ints (haveV c).toList) 61, blkA b8 (ints (haveV y.own).toList) 61, blkA b9 (ints (valV c).toList) 61, blkA b10 (ints (valV y.own).toList) 61]
  refine tp rfl rfl rfl (PV.move rfl rfl) ?_
  refine tp rfl rfl rfl (PV.neqBo rfl Tryz.underlying4 rfl rfl) ?_
  refine TL.decB (fun h85 => ?_) (fun h85 => ?_)
  · exact absurd h85 (by simp)
  refine tp rfl rfl rfl (PV.move rfl rfl) ?_
  refine tq rfl rfl rfl rfl rfl (PV.move rfl rfl) ?_
  refine TL.callR (A := [blkA r (RepT.cells ({ keptS y 1 y.own.version with replies := vk1 })) 104, own vk1 ((keptR y 1 y.own.version (rs)).length) (ints (List.flatMap ReplyT.flat (keptR y 1 y.own.version (rs)))) 92 3]) (B := [outP b6 (l ++ keptO y 1 y.own.version), blkA b16 [(.int .i64 (a0)), (.int .i64 (a1)), (.int .i64 (a2)), (.int .i64 (a3))] 63, lgP lg d (((recs).length : Nat) : Int) ((sizeS (recs) : Nat) : Int), dkL d (recs), blkA b7 (ints (haveV c).toList) 61, blkA b8 (ints (haveV y.own).toList) 61, blkA b9 (ints (valV c).toList) 61, blkA b10 (ints (valV y.own).toList) 61]) (Want.met rfl rfl rfl) rfl rfl rfl nm15 rfl (replies_does r { (keptS y 1 y.own.version) with replies := vk1 } (keptR y 1 y.own.version (rs)) (by omega)) (fun _ s => s) (fun _ _ _ => trivial) (fun vR HR hR => ?_)
  obtain ⟨_, rfl, rfl⟩ := hR
  revert vR
  intro uc2
  change TL _ _ _ _ _ _ _ _ _ [blkA r (RepT.cells ({ keptS y 1 y.own.version with replies := vk1 })) 104, own vk1 ((keptR y 1 y.own.version (rs)).length) (ints (List.flatMap ReplyT.flat (keptR y 1 y.own.version (rs)))) 92 3, own uc2 ((keptR y 1 y.own.version (rs)).length) (ints (List.flatMap ReplyT.flat (keptR y 1 y.own.version (rs)))) 92 3, outP b6 (l ++ keptO y 1 y.own.version), blkA b16 [(.int .i64 (a0)), (.int .i64 (a1)), (.int .i64 (a2)), (.int .i64 (a3))] 63, lgP lg d (((recs).length : Nat) : Int) ((sizeS (recs) : Nat) : Int), dkL d (recs), blkA b7 (ints (haveV c).toList) 61, blkA b8 (ints (haveV y.own).toList) 61, blkA b9 (ints (valV c).toList) 61, blkA b10 (ints (valV y.own).toList) 61]
  refine TL.ownLen 2 rfl rfl (fun hluc2 _ => ?_)
  refine tq rfl rfl rfl rfl rfl (PV.lenV rfl Tryz.underlying55 rfl hluc2) ?_
  refine tq rfl rfl rfl rfl rfl (PV.move rfl rfl) ?_
  refine tq rfl rfl rfl rfl rfl (PV.neq rfl rfl rfl) ?_
  refine TL.dec (fun h91 => ?_) (fun h91 => ?_)
  · exact absurd (by rw [hR3]) h91
  refine tp rfl rfl rfl (PV.pick rfl rfl rfl) ?_
  refine TL.nil ?_
  refine TE.next hK57 ?_
  clear hK57
  refine TC.no rfl ?_
  refine TC.skip ?_
  refine TE.next hK56 ?_
  clear hK56
  refine TC.exit ?_
  refine TE.pass ?_
  clear hK22
  refine TE.hit ?_
  refine TE.next hK17 ?_
  clear hK17
  refine TC.region ?_
  refine tp rfl rfl rfl (PV.add rfl rfl rfl (wrap_i64 (by omega) (by omega))) ?_
  refine tp rfl rfl rfl (PV.move rfl rfl) ?_
  refine TL.nil ?_
  exact TE.round ((i + 1, keptS y 1 y.own.version, vk1, c, recs, keptR y 1 y.own.version rs, l ++ keptO y 1 y.own.version, false) : (Nat) × (RepT) × (Value) × (RowT) × (List (List UInt8)) × (List ReplyT) × (List SaidT) × (Bool)) ⟨by omega, hvk1, hI3.more (Nat.le_succ _), by omega, by omega, (by rw [List.length_append]; omega)⟩ (by show l0.length - (i + 1) < l0.length - i; omega)
    (Sub.r (Sub.r (Sub.r (Sub.r (Sub.r (Sub.r (Sub.cons rfl (by rw [hbz]) (Sub.r (Sub.cons rfl (by rw [hR3]) (Sub.cons rfl (by rw [hown3]) (Sub.r (Sub.r (Sub.cons rfl (by simp) (Sub.nil _))))))))))))))
    (fun _ s => by dsimp only; rw [show haveV (keptS y 1 y.own.version).own = haveV y.own by rw [hown3], show valV (keptS y 1 y.own.version).own = valV y.own by rw [hown3]]; exact sep_keep [0, 4, 4, 0, 1, 2, 2, 2, 2] rfl s)
  refine TL.nil ?_
  refine TE.next hK23 ?_
  clear hK23
  refine TC.no rfl ?_
  refine TC.skip ?_
  refine TE.next hK22 ?_
  clear hK22
  refine TC.seq (fun K58 hK58 => ?_)
  refine TC.region ?_
  refine tp rfl rfl rfl (PV.fieldAddr (r := 2) rfl Tryz.underlying63 rfl sz3 rfl rfl) ?_
  refine tp rfl rfl rfl (PV.load1 (v := (.int .i64 (a2))) rfl Tryz.underlying3 rfl rfl (Rd.own 0 rfl rfl) rfl) ?_
  refine tp rfl rfl rfl (PV.and (r := (a2 % 2199023255552)) rfl rfl rfl (mask (k := 41) (by decide) _)) ?_
  refine tp rfl rfl rfl (PV.assign rfl rfl) ?_
  refine TL.nil ?_
  refine TE.next hK58 ?_
  clear hK58
  refine TC.seq (fun K59 hK59 => ?_)
  refine TC.region ?_
  refine tp rfl rfl rfl (PV.assign rfl rfl) ?_
  refine TL.nil ?_
  refine TE.next hK59 ?_
  clear hK59
  refine TC.seq (fun K60 hK60 => ?_)
  refine TC.cut (α := (Int)) (fun want => want = wantF y c inB ((kq : Nat) : Int) (a2 % 2199023255552) a3 q hq) (fun want => [(4, (.pointer (some ⟨r, 0, none⟩))), (6, (.pointer (some ⟨b6, 0, none⟩))), (7, (.pointer (some ⟨b7, 0, none⟩))), (8, (.pointer (some ⟨b8, 0, none⟩))), (9, (.pointer (some ⟨b9, 0, none⟩))), (10, (.pointer (some ⟨b10, 0, none⟩))), (11, (.bool (y.busy))), (12, (.bool (one))), (13, (.int .i64 (((rs.length : Nat) : Int)))), (14, (.int .i64 (y.own.version))), (16, (.pointer (some ⟨b16, 0, none⟩))), (17, (.int .i64 (((kq : Nat) : Int)))), (19, (.int .i64 (((q : Nat) : Int)))), (20, (.int .i64 ((a2 % 2199023255552)))), (21, (.int .i64 (want))), (34, x), (35, (.int .i64 (((l0.length : Nat) : Int)))), (36, (.int .i64 (((i : Nat) : Int))))]) (fun want => [blkA b16 [(.int .i64 (a0)), (.int .i64 (a1)), (.int .i64 (a2)), (.int .i64 (a3))] 63, blkA r (RepT.cells ({ y with replies := rv })) 104, lgP lg d (((recs).length : Nat) : Int) ((sizeS (recs) : Nat) : Int), dkL d (recs), own rv ((rs).length) (ints (List.flatMap ReplyT.flat (rs))) 92 3, outP b6 (l), blkA b7 (ints (haveV c).toList) 61, blkA b8 (ints (haveV y.own).toList) 61, blkA b9 (ints (valV c).toList) 61, blkA b10 (ints (valV y.own).toList) 61]) (fun want hinv => ?_) (fun tl60 => ?_)
  have hw := hinv
  refine TE.next hK60 ?_
  clear hK60
  refine TC.seq (fun K61 hK61 => ?_)
  refine TC.draw (fun w => Frm F w ∧ w.heap[b16]? = some (.cells ([(.int .i64 (a0)), (.int .i64 (a1)), (.int .i64 (a2)), (.int .i64 (a3))]).toArray 63 (0, 0)) ∧ True) mixed rfl (fun _ s => ⟨Frm.of s, s.block 0 (lb rfl) rfl, trivial⟩) ?_
  refine TD.take (i := 0) rfl (by kernel_rfl) (by kernel_rfl) (by kernel_rfl) (fun _ _ _ _ h => h) (Want.plain rfl) rfl rfl (PV.move rfl rfl) ?_
  refine TD.take (i := 1) rfl (by kernel_rfl) (by kernel_rfl) (by kernel_rfl) (fun _ _ _ _ h => h) (Want.plain rfl) rfl rfl (PV.mkIface rfl Tryz.underlying34 rfl rfl) ?_
  refine TD.take (i := 2) rfl (by kernel_rfl) (by kernel_rfl) (by kernel_rfl) (fun _ _ _ _ h => h) (Want.plain rfl) rfl rfl (PV.build (cells := #[(.int .i64 0), (.int .i64 1), (.int .i64 2), (.int .i64 3)]) rfl rfl (by as_aux_lemma => kernel_rfl)) ?_
  refine TD.take (i := 3) rfl (by kernel_rfl) (by kernel_rfl) (by kernel_rfl) (fun _ _ _ _ h => h) (Want.plain rfl) rfl rfl (PV.move rfl rfl) ?_
  refine TD.take (i := 4) rfl (by kernel_rfl) (by kernel_rfl) (by kernel_rfl) (fun _ _ _ _ h => h) (Want.plain rfl) rfl rfl (PV.index1 (cs := [(.int .i64 0), (.int .i64 1), (.int .i64 2), (.int .i64 3)]) (v := (.int .i64 (((kq : Nat) : Int)))) (r := kq) rfl Tryz.underlying61 Tryz.underlying3 rfl sz3 rfl rfl (by omega) (by omega) (by omega) (kinds_at (by omega))) ?_
  refine TD.take (i := 5) rfl (by kernel_rfl) (by kernel_rfl) (by kernel_rfl) (fun _ _ _ _ h => h) (Want.plain rfl) rfl rfl (PV.fieldAddr (r := 1) rfl Tryz.underlying63 rfl sz3 rfl rfl) ?_
  refine TD.take (i := 6) rfl (by kernel_rfl) (by kernel_rfl) (by kernel_rfl) (fun _ _ _ _ h => h) (Want.plain rfl) rfl rfl (PV.load1 (v := (.int .i64 (a1))) rfl Tryz.underlying3 rfl rfl (fun _ h => h.2.1) rfl) ?_
  refine TD.take (i := 7) rfl (by kernel_rfl) (by kernel_rfl) (by kernel_rfl) (fun _ _ _ _ h => h) (Want.plain rfl) rfl rfl (PV.move rfl rfl) ?_
  refine TD.take (i := 8) rfl (by kernel_rfl) (by kernel_rfl) (by kernel_rfl) (fun _ _ _ _ h => h) (Want.plain rfl) rfl rfl (PV.fieldAddr (r := 3) rfl Tryz.underlying63 rfl sz3 rfl rfl) ?_
  refine TD.take (i := 9) rfl (by kernel_rfl) (by kernel_rfl) (by kernel_rfl) (fun _ _ _ _ h => h) (Want.plain rfl) rfl rfl (PV.load1 (v := (.int .i64 (a3))) rfl Tryz.underlying3 rfl rfl (fun _ h => h.2.1) rfl) ?_
  refine TD.take (i := 10) rfl (by kernel_rfl) (by kernel_rfl) (by kernel_rfl) (fun _ _ _ _ h => h) (Want.plain rfl) rfl rfl (PV.buildSegs (cs := ints (OpT.mk ((kq : Nat) : Int) 0 a3 a1 (a2 % 2199023255552) ChangeT.zero 0 0 0).flat) (segs := [[Value.int .i64 0], [Value.int .i64 0], [Value.int .i64 0], [Value.int .i64 0], [Value.int .i64 0], ints ChangeT.zero.flat, [Value.int .i64 0], [Value.int .i64 0], [Value.int .i64 0]]) (res := [[Value.int .i64 ((kq : Nat) : Int)], [Value.int .i64 0], [Value.int .i64 a3], [Value.int .i64 a1], [Value.int .i64 (a2 % 2199023255552)], ints ChangeT.zero.flat, [Value.int .i64 0], [Value.int .i64 0], [Value.int .i64 0]]) (parts := [(0, [Value.int .i64 ((kq : Nat) : Int)]), (3, [Value.int .i64 a1]), (4, [Value.int .i64 (a2 % 2199023255552)]), (2, [Value.int .i64 a3])]) rfl rfl Tryz.underlying38 (by kernel_rfl) (by kernel_rfl) rfl (putSegs_step rfl ((rfl : [Value.int .i64 ((kq : Nat) : Int)].length = 1).trans (rfl : [Value.int .i64 0].length = 1).symm) (putSegs_step rfl ((rfl : [Value.int .i64 a1].length = 1).trans (rfl : [Value.int .i64 0].length = 1).symm) (putSegs_step rfl ((rfl : [Value.int .i64 (a2 % 2199023255552)].length = 1).trans (rfl : [Value.int .i64 0].length = 1).symm) (putSegs_step rfl ((rfl : [Value.int .i64 a3].length = 1).trans (rfl : [Value.int .i64 0].length = 1).symm) putSegs_nil)))) (OpT.eq (OpT.mk ((kq : Nat) : Int) 0 a3 a1 (a2 % 2199023255552) ChangeT.zero 0 0 0)).symm) ?_
  refine TD.all [11] (by kernel_rfl) rfl ?_
  refine AllT.cons rfl ?_ ?_
  generalize ho : (OpT.mk ((kq : Nat) : Int) 0 a3 a1 (a2 % 2199023255552) ChangeT.zero 0 0 0) = o
  have hok : o.kind = ((kq : Nat) : Int) ∧ o.key = a1 ∧ o.n = (a2 % 2199023255552) ∧ o.to' = a3 := by subst ho; exact ⟨rfl, rfl, rfl, rfl⟩
  refine TL.callR (A := [blkA r (RepT.cells ({ y with replies := rv })) 104, lgP lg d (((recs).length : Nat) : Int) ((sizeS (recs) : Nat) : Int), dkL d (recs), own rv ((rs).length) (ints (List.flatMap ReplyT.flat (rs))) 92 3, outP b6 (l)]) (B := [blkA b16 [(.int .i64 (a0)), (.int .i64 (a1)), (.int .i64 (a2)), (.int .i64 (a3))] 63, blkA b7 (ints (haveV c).toList) 61, blkA b8 (ints (haveV y.own).toList) 61, blkA b9 (ints (valV c).toList) 61, blkA b10 (ints (valV y.own).toList) 61]) (Want.plain rfl) rfl rfl rfl nm12 rfl (clientL_does r b6 lg d y rv o recs rs l hI.lone (by decide) (by omega) (by omega) (by omega) (by omega) (fun _ => by rw [hok.1]; omega)) (fun _ s => sep_selR [1, 1, 1, 1, 1] rfl s) (fun _ _ _ => trivial) (fun vR HR hR => ?_)
  obtain ⟨hv, vc, hvc, rfl⟩ := hR
  subst hv
  change TL _ _ _ _ _ _ _ _ _ [blkA r (RepT.cells ({ clientX y o with replies := vc })) 104, lgP lg d (((clientC y o (recs)).length : Nat) : Int) ((sizeS (clientC y o (recs)) : Nat) : Int), dkL d (clientC y o (recs)), own vc ((clientR y o (rs)).length) (ints (List.flatMap ReplyT.flat (clientR y o (rs)))) 92 3, outP b6 (l ++ clientO y o), blkA b16 [(.int .i64 (a0)), (.int .i64 (a1)), (.int .i64 (a2)), (.int .i64 (a3))] 63, blkA b7 (ints (haveV c).toList) 61, blkA b8 (ints (haveV y.own).toList) 61, blkA b9 (ints (valV c).toList) 61, blkA b10 (ints (valV y.own).toList) 61]
  have hew : (want = 7 ∧ (cN y o).2.2 = 6) ∨ (cN y o).2.2 = want := by
    have q1 := err_want hI (by omega) o hq (b := inB) (by rw [hok.2.1]; exact hin) (by rw [hok.2.1]; exact hkey) (by rw [hok.2.2.1]; omega) (by rw [hok.1]; omega)
    simp only [hok.1, hok.2.2.1, hok.2.2.2] at q1
    rw [← hw] at q1
    exact q1
  have hI2 : RunI (clientX y o) lg (i + 1) c := hI.client (by omega) o hq (by rw [hok.2.1]; exact hin) (by rw [hok.2.1]; exact hkey) (by rw [hok.1]; omega)
  have hol := clientO_len y o
  have hrl := clientR_len y o rs
  have hsl := clientC_size (recs := recs) hI.lone (by omega) o
  refine TL.nil ?_
  refine TE.draw (fun _ s => ⟨Frm.of s, s.block 5 (lb rfl) rfl, trivial⟩) ?_
  refine TD.take (i := 12) rfl (by kernel_rfl) (by kernel_rfl) (by kernel_rfl) (fun _ _ _ _ h => h) (Want.plain rfl) rfl rfl (PV.assign rfl rfl) ?_
  refine TD.done (by kernel_rfl) ?_
  refine TE.next hK61 ?_
  clear hK61
  refine TC.seq (fun K62 hK62 => ?_)
  refine TC.seq (fun K63 hK63 => ?_)
  refine TC.region ?_
  refine tp rfl rfl rfl (PV.move rfl rfl) ?_
  refine tp rfl rfl rfl (PV.eql rfl rfl rfl) ?_
  refine TL.dec (fun h162 => ?_) (fun h162 => ?_)
  refine tp rfl rfl rfl (PV.move rfl rfl) ?_
  refine tq rfl rfl rfl rfl rfl (PV.move rfl rfl) ?_
  refine tq rfl rfl rfl rfl rfl (PV.eql rfl rfl rfl) ?_
  refine TL.dec (fun h165 => ?_) (fun h165 => ?_)
  refine tp rfl rfl rfl (PV.pick rfl rfl rfl) ?_
  refine TL.nil ?_
  refine TE.next hK63 ?_
  clear hK63
  refine TC.yes rfl ?_
  refine TC.seq (fun K64 hK64 => ?_)
  refine TC.region ?_
  refine tp rfl rfl rfl (PV.assign rfl rfl) ?_
  refine TL.nil ?_
  refine TE.next hK64 ?_
  clear hK64
  refine TC.ret ?_
  refine TE.passRet ?_
  clear hK62
  refine TE.blockRet ?_
  refine TE.passRet ?_
  clear hK17
  refine TE.passRet ?_
  refine TE.blockRet ?_
  refine TE.passRet ?_
  clear hK13
  refine TE.weak (Sub.refl _) (fun _ s => sep_keep [] rfl s) ?_
  refine TE.ret1 rfl rfl ?_
  exact ⟨rfl, rfl⟩
  refine tp rfl rfl rfl (PV.pick rfl rfl rfl) ?_
  refine TL.nil ?_
  refine TE.next hK63 ?_
  clear hK63
  refine TC.no rfl ?_
  refine TC.skip ?_
  refine TE.next hK62 ?_
  clear hK62
  refine TC.seq (fun K65 hK65 => ?_)
  refine TC.seq (fun K66 hK66 => ?_)
  refine TC.region ?_
  refine tp rfl rfl rfl (PV.move rfl rfl) ?_
  refine tp rfl rfl rfl (PV.move rfl rfl) ?_
  refine tp rfl rfl rfl (PV.neq rfl rfl rfl) ?_
  refine TL.dec (fun h169 => ?_) (fun h169 => ?_)
  · exact absurd (by omega) h169
  refine TL.nil ?_
  refine TE.next hK66 ?_
  clear hK66
  refine TC.no rfl ?_
  refine TC.skip ?_
  refine TE.next hK65 ?_
  clear hK65
  refine TC.seq (fun K67 hK67 => ?_)
  refine TC.cut (α := Unit) (fun _u => True) (fun _u => [(4, (.pointer (some ⟨r, 0, none⟩))), (6, (.pointer (some ⟨b6, 0, none⟩))), (7, (.pointer (some ⟨b7, 0, none⟩))), (8, (.pointer (some ⟨b8, 0, none⟩))), (9, (.pointer (some ⟨b9, 0, none⟩))), (10, (.pointer (some ⟨b10, 0, none⟩))), (11, (.bool ((clientX y o).busy))), (12, (.bool (one))), (13, (.int .i64 ((((clientR y o rs).length : Nat) : Int)))), (14, (.int .i64 ((clientX y o).own.version))), (19, (.int .i64 (((q : Nat) : Int)))), (34, x), (35, (.int .i64 (((l0.length : Nat) : Int)))), (36, (.int .i64 (((i : Nat) : Int))))]) (fun _u => [blkA r (RepT.cells ({ clientX y o with replies := vc })) 104, lgP lg d (((clientC y o (recs)).length : Nat) : Int) ((sizeS (clientC y o (recs)) : Nat) : Int), dkL d (clientC y o (recs)), own vc ((clientR y o (rs)).length) (ints (List.flatMap ReplyT.flat (clientR y o (rs)))) 92 3, outP b6 (l ++ clientO y o), blkA b7 (ints (haveV c).toList) 61, blkA b8 (ints (haveV (clientX y o).own).toList) 61, blkA b9 (ints (valV c).toList) 61, blkA b10 (ints (valV (clientX y o).own).toList) 61]) (fun _u hinv => ?_) (fun tl67 => ?_)
  have _ := hinv
  refine TE.next hK67 ?_
  clear hK67
  refine TC.seq (fun K68 hK68 => ?_)
  refine TC.draw (fun w => Frm F w ∧ w.heap[b9]? = some (.cells (ints (valV c).toList).toArray 61 (0, 0)) ∧ w.heap[b7]? = some (.cells (ints (haveV c).toList).toArray 61 (0, 0)) ∧ True) mixed rfl (fun _ s => ⟨Frm.of s, s.block 7 (lb rfl) rfl, s.block 5 (lb rfl) rfl, trivial⟩) ?_
  refine TD.take (i := 0) rfl (by kernel_rfl) (by kernel_rfl) (by kernel_rfl) (fun _ _ _ _ h => h) (Want.plain rfl) rfl rfl (PV.move rfl rfl) ?_
  refine TD.take (i := 2) rfl (by kernel_rfl) (by kernel_rfl) (by kernel_rfl) (fun _ _ _ _ h => h) (Want.plain rfl) rfl rfl (PV.move rfl rfl) ?_
  refine TD.all [1] (by kernel_rfl) rfl ?_
  refine AllT.cons rfl ?_ ?_
  refine TL.callR (A := [blkA r (RepT.cells ({ clientX y o with replies := vc })) 104]) (B := [lgP lg d (((clientC y o (recs)).length : Nat) : Int) ((sizeS (clientC y o (recs)) : Nat) : Int), dkL d (clientC y o (recs)), own vc ((clientR y o (rs)).length) (ints (List.flatMap ReplyT.flat (clientR y o (rs)))) 92 3, outP b6 (l ++ clientO y o), blkA b7 (ints (haveV c).toList) 61, blkA b8 (ints (haveV (clientX y o).own).toList) 61, blkA b9 (ints (valV c).toList) 61, blkA b10 (ints (valV (clientX y o).own).toList) 61]) (Want.plain rfl) rfl rfl rfl nm14 rfl (rBusyL_does r (clientX y o) vc ) (fun _ s => s) (fun _ _ _ => trivial) (fun vR HR hR => ?_)
  obtain ⟨rfl, rfl⟩ := hR
  change TL _ _ _ _ _ _ _ _ _ [blkA r (RepT.cells ({ clientX y o with replies := vc })) 104, lgP lg d (((clientC y o (recs)).length : Nat) : Int) ((sizeS (clientC y o (recs)) : Nat) : Int), dkL d (clientC y o (recs)), own vc ((clientR y o (rs)).length) (ints (List.flatMap ReplyT.flat (clientR y o (rs)))) 92 3, outP b6 (l ++ clientO y o), blkA b7 (ints (haveV c).toList) 61, blkA b8 (ints (haveV (clientX y o).own).toList) 61, blkA b9 (ints (valV c).toList) 61, blkA b10 (ints (valV (clientX y o).own).toList) 61]
  refine TL.nil ?_
  refine TE.draw (fun _ s => ⟨Frm.of s, s.block 7 (lb rfl) rfl, s.block 5 (lb rfl) rfl, trivial⟩) ?_
  refine TD.take (i := 3) rfl (by kernel_rfl) (by kernel_rfl) (by kernel_rfl) (fun _ _ _ _ h => h) (Want.plain rfl) rfl rfl (PV.neqBo rfl Tryz.underlying4 rfl rfl) ?_
  refine TD.decB (fun h220 => ?_) (fun h220 => ?_)
  · exact absurd h220 (by simp)
  refine TD.take (i := 4) rfl (by kernel_rfl) (by kernel_rfl) (by kernel_rfl) (fun _ _ _ _ h => h) (Want.plain rfl) rfl rfl (PV.move rfl rfl) ?_
  refine TD.take (i := 5) rfl (by kernel_rfl) (by kernel_rfl) (by kernel_rfl) (fun _ _ _ _ h => h) (Want.met rfl rfl rfl) rfl rfl (PV.move rfl rfl) ?_
  refine TD.take (i := 8) rfl (by kernel_rfl) (by kernel_rfl) (by kernel_rfl) (fun _ _ _ _ h => h) (Want.met rfl rfl rfl) rfl rfl (PV.move rfl rfl) ?_
  refine TD.all [6] (by kernel_rfl) rfl ?_
  refine AllT.cons rfl ?_ ?_
  refine TL.callR (A := [blkA r (RepT.cells ({ clientX y o with replies := vc })) 104, own vc ((clientR y o (rs)).length) (ints (List.flatMap ReplyT.flat (clientR y o (rs)))) 92 3]) (B := [lgP lg d (((clientC y o (recs)).length : Nat) : Int) ((sizeS (clientC y o (recs)) : Nat) : Int), dkL d (clientC y o (recs)), outP b6 (l ++ clientO y o), blkA b7 (ints (haveV c).toList) 61, blkA b8 (ints (haveV (clientX y o).own).toList) 61, blkA b9 (ints (valV c).toList) 61, blkA b10 (ints (valV (clientX y o).own).toList) 61]) (Want.met rfl rfl rfl) rfl rfl rfl nm15 rfl (replies_does r { (clientX y o) with replies := vc } (clientR y o (rs)) (by omega)) (fun _ s => sep_selR [0, 2] rfl s) (fun _ _ _ => trivial) (fun vR HR hR => ?_)
  obtain ⟨_, rfl, rfl⟩ := hR
  revert vR
  intro uc1
  change TL _ _ _ _ _ _ _ _ _ [blkA r (RepT.cells ({ clientX y o with replies := vc })) 104, own vc ((clientR y o (rs)).length) (ints (List.flatMap ReplyT.flat (clientR y o (rs)))) 92 3, own uc1 ((clientR y o (rs)).length) (ints (List.flatMap ReplyT.flat (clientR y o (rs)))) 92 3, lgP lg d (((clientC y o (recs)).length : Nat) : Int) ((sizeS (clientC y o (recs)) : Nat) : Int), dkL d (clientC y o (recs)), outP b6 (l ++ clientO y o), blkA b7 (ints (haveV c).toList) 61, blkA b8 (ints (haveV (clientX y o).own).toList) 61, blkA b9 (ints (valV c).toList) 61, blkA b10 (ints (valV (clientX y o).own).toList) 61]
  refine TL.ownLen 2 rfl rfl (fun hluc1 _ => ?_)
  refine TL.nil ?_
  refine TE.draw (fun _ s => ⟨Frm.of s, s.block 8 (lb rfl) rfl, s.block 6 (lb rfl) rfl, trivial⟩) ?_
  refine TD.take (i := 7) rfl (by kernel_rfl) (by kernel_rfl) (by kernel_rfl) (fun _ _ _ _ h => h) (Want.met rfl rfl rfl) rfl rfl (PV.lenV rfl Tryz.underlying55 rfl hluc1) ?_
  refine TD.take (i := 9) rfl (by kernel_rfl) (by kernel_rfl) (by kernel_rfl) (fun _ _ _ _ h => h) (Want.met rfl rfl rfl) rfl rfl (PV.neq rfl rfl rfl) ?_
  refine TD.dec (fun h226 => ?_) (fun h226 => ?_)
  · exact absurd rfl h226
  refine TD.take (i := 10) rfl (by kernel_rfl) (by kernel_rfl) (by kernel_rfl) (fun _ _ _ _ h => h) (Want.plain rfl) rfl rfl (PV.pick rfl rfl rfl) ?_
  refine TD.take (i := 11) rfl (by kernel_rfl) (by kernel_rfl) (by kernel_rfl) (fun _ _ _ _ h => h) (Want.plain rfl) rfl rfl (PV.move rfl rfl) ?_
  refine TD.take (i := 12) rfl (by kernel_rfl) (by kernel_rfl) (by kernel_rfl) (fun _ _ _ _ h => h) (Want.met rfl rfl rfl) rfl rfl (PV.move rfl rfl) ?_
  refine TD.take (i := 13) rfl (by kernel_rfl) (by kernel_rfl) (by kernel_rfl) (fun _ _ _ _ h => h) (Want.met rfl rfl rfl) rfl rfl (PV.move rfl rfl) ?_
  refine TD.take (i := 15) rfl (by kernel_rfl) (by kernel_rfl) (by kernel_rfl) (fun _ _ _ _ h => h) (Want.met rfl rfl rfl) rfl rfl (PV.move rfl rfl) ?_
  refine TD.take (i := 16) rfl (by kernel_rfl) (by kernel_rfl) (by kernel_rfl) (fun _ _ _ _ h => h) (Want.met rfl rfl rfl) rfl rfl (PV.indexArr (r := q) rfl Tryz.underlying61 sz3 rfl rfl (by omega) (by omega) (by omega)) ?_
  refine TD.take (i := 17) rfl (by kernel_rfl) (by kernel_rfl) (by kernel_rfl) (fun _ _ _ _ h => h) (Want.met rfl rfl rfl) rfl rfl (PV.load1 (v := (.int .i64 (((valV c)[q]'(by omega))))) rfl Tryz.underlying3 rfl rfl (fun _ h => h.2.1) (vi_at (valV c) (by omega))) ?_
  refine TD.all [14] (by kernel_rfl) rfl ?_
  refine AllT.cons rfl ?_ ?_
  refine TL.callR (A := [blkA r (RepT.cells ({ clientX y o with replies := vc })) 104]) (B := [own vc ((clientR y o (rs)).length) (ints (List.flatMap ReplyT.flat (clientR y o (rs)))) 92 3, own uc1 ((clientR y o (rs)).length) (ints (List.flatMap ReplyT.flat (clientR y o (rs)))) 92 3, lgP lg d (((clientC y o (recs)).length : Nat) : Int) ((sizeS (clientC y o (recs)) : Nat) : Int), dkL d (clientC y o (recs)), outP b6 (l ++ clientO y o), blkA b7 (ints (haveV c).toList) 61, blkA b8 (ints (haveV (clientX y o).own).toList) 61, blkA b9 (ints (valV c).toList) 61, blkA b10 (ints (valV (clientX y o).own).toList) 61]) (Want.met rfl rfl rfl) rfl rfl rfl nm16 rfl (rValueL_does r (clientX y o) vc ((q : Nat) : Int)) (fun _ s => s) (fun _ _ _ => trivial) (fun vR HR hR => ?_)
  obtain ⟨hv, rfl⟩ := hR
  rw [hI2.value hq] at hv
  subst hv
  change TL _ _ _ _ _ _ _ _ _ [blkA r (RepT.cells ({ clientX y o with replies := vc })) 104, own vc ((clientR y o (rs)).length) (ints (List.flatMap ReplyT.flat (clientR y o (rs)))) 92 3, own uc1 ((clientR y o (rs)).length) (ints (List.flatMap ReplyT.flat (clientR y o (rs)))) 92 3, lgP lg d (((clientC y o (recs)).length : Nat) : Int) ((sizeS (clientC y o (recs)) : Nat) : Int), dkL d (clientC y o (recs)), outP b6 (l ++ clientO y o), blkA b7 (ints (haveV c).toList) 61, blkA b8 (ints (haveV (clientX y o).own).toList) 61, blkA b9 (ints (valV c).toList) 61, blkA b10 (ints (valV (clientX y o).own).toList) 61]
  refine TL.nil ?_
  refine TE.draw (fun _ s => ⟨Frm.of s, s.block 8 (lb rfl) rfl, s.block 6 (lb rfl) rfl, trivial⟩) ?_
  refine TD.take (i := 18) rfl (by kernel_rfl) (by kernel_rfl) (by kernel_rfl) (fun _ _ _ _ h => h) (Want.met rfl rfl rfl) rfl rfl (PV.neq rfl rfl rfl) ?_
  refine TD.dec (fun h235 => ?_) (fun h235 => ?_)
  · exact absurd rfl h235
  refine TD.take (i := 19) rfl (by kernel_rfl) (by kernel_rfl) (by kernel_rfl) (fun _ _ _ _ h => h) (Want.plain rfl) rfl rfl (PV.pick rfl rfl rfl) ?_
  refine TD.take (i := 20) rfl (by kernel_rfl) (by kernel_rfl) (by kernel_rfl) (fun _ _ _ _ h => h) (Want.plain rfl) rfl rfl (PV.move rfl rfl) ?_
  refine TD.take (i := 21) rfl (by kernel_rfl) (by kernel_rfl) (by kernel_rfl) (fun _ _ _ _ h => h) (Want.met rfl rfl rfl) rfl rfl (PV.move rfl rfl) ?_
  refine TD.take (i := 22) rfl (by kernel_rfl) (by kernel_rfl) (by kernel_rfl) (fun _ _ _ _ h => h) (Want.met rfl rfl rfl) rfl rfl (PV.move rfl rfl) ?_
  refine TD.take (i := 24) rfl (by kernel_rfl) (by kernel_rfl) (by kernel_rfl) (fun _ _ _ _ h => h) (Want.met rfl rfl rfl) rfl rfl (PV.move rfl rfl) ?_
  refine TD.take (i := 25) rfl (by kernel_rfl) (by kernel_rfl) (by kernel_rfl) (fun _ _ _ _ h => h) (Want.met rfl rfl rfl) rfl rfl (PV.indexArr (r := q) rfl Tryz.underlying61 sz3 rfl rfl (by omega) (by omega) (by omega)) ?_
  refine TD.take (i := 26) rfl (by kernel_rfl) (by kernel_rfl) (by kernel_rfl) (fun _ _ _ _ h => h) (Want.met rfl rfl rfl) rfl rfl (PV.load1 (v := (.int .i64 (((haveV c)[q]'(by omega))))) rfl Tryz.underlying3 rfl rfl (fun _ h => h.2.2.1) (vi_at (haveV c) (by omega))) ?_
  refine TD.all [23] (by kernel_rfl) rfl ?_
  refine AllT.cons rfl ?_ ?_
  refine TL.callR (A := [blkA r (RepT.cells ({ clientX y o with replies := vc })) 104]) (B := [own vc ((clientR y o (rs)).length) (ints (List.flatMap ReplyT.flat (clientR y o (rs)))) 92 3, own uc1 ((clientR y o (rs)).length) (ints (List.flatMap ReplyT.flat (clientR y o (rs)))) 92 3, lgP lg d (((clientC y o (recs)).length : Nat) : Int) ((sizeS (clientC y o (recs)) : Nat) : Int), dkL d (clientC y o (recs)), outP b6 (l ++ clientO y o), blkA b7 (ints (haveV c).toList) 61, blkA b8 (ints (haveV (clientX y o).own).toList) 61, blkA b9 (ints (valV c).toList) 61, blkA b10 (ints (valV (clientX y o).own).toList) 61]) (Want.met rfl rfl rfl) rfl rfl rfl nm19 rfl (rRightsL_does r (clientX y o) vc 0 ((q : Nat) : Int)) (fun _ s => s) (fun _ _ _ => trivial) (fun vR HR hR => ?_)
  obtain ⟨hv, rfl⟩ := hR
  rw [hI2.rights hq] at hv
  subst hv
  change TL _ _ _ _ _ _ _ _ _ [blkA r (RepT.cells ({ clientX y o with replies := vc })) 104, own vc ((clientR y o (rs)).length) (ints (List.flatMap ReplyT.flat (clientR y o (rs)))) 92 3, own uc1 ((clientR y o (rs)).length) (ints (List.flatMap ReplyT.flat (clientR y o (rs)))) 92 3, lgP lg d (((clientC y o (recs)).length : Nat) : Int) ((sizeS (clientC y o (recs)) : Nat) : Int), dkL d (clientC y o (recs)), outP b6 (l ++ clientO y o), blkA b7 (ints (haveV c).toList) 61, blkA b8 (ints (haveV (clientX y o).own).toList) 61, blkA b9 (ints (valV c).toList) 61, blkA b10 (ints (valV (clientX y o).own).toList) 61]
  refine TL.nil ?_
  refine TE.draw (fun _ s => ⟨Frm.of s, s.block 8 (lb rfl) rfl, s.block 6 (lb rfl) rfl, trivial⟩) ?_
  refine TD.take (i := 27) rfl (by kernel_rfl) (by kernel_rfl) (by kernel_rfl) (fun _ _ _ _ h => h) (Want.met rfl rfl rfl) rfl rfl (PV.neq rfl rfl rfl) ?_
  refine TD.dec (fun h244 => ?_) (fun h244 => ?_)
  · exact absurd rfl h244
  refine TD.take (i := 28) rfl (by kernel_rfl) (by kernel_rfl) (by kernel_rfl) (fun _ _ _ _ h => h) (Want.plain rfl) rfl rfl (PV.pick rfl rfl rfl) ?_
  refine TD.take (i := 29) rfl (by kernel_rfl) (by kernel_rfl) (by kernel_rfl) (fun _ _ _ _ h => h) (Want.plain rfl) rfl rfl (PV.move rfl rfl) ?_
  refine TD.take (i := 30) rfl (by kernel_rfl) (by kernel_rfl) (by kernel_rfl) (fun _ _ _ _ h => h) (Want.met rfl rfl rfl) rfl rfl (PV.move rfl rfl) ?_
  refine TD.take (i := 33) rfl (by kernel_rfl) (by kernel_rfl) (by kernel_rfl) (fun _ _ _ _ h => h) (Want.met rfl rfl rfl) rfl rfl (PV.move rfl rfl) ?_
  refine TD.all [31] (by kernel_rfl) rfl ?_
  refine AllT.cons rfl ?_ ?_
  refine TL.callR (A := [blkA r (RepT.cells ({ clientX y o with replies := vc })) 104]) (B := [own vc ((clientR y o (rs)).length) (ints (List.flatMap ReplyT.flat (clientR y o (rs)))) 92 3, own uc1 ((clientR y o (rs)).length) (ints (List.flatMap ReplyT.flat (clientR y o (rs)))) 92 3, lgP lg d (((clientC y o (recs)).length : Nat) : Int) ((sizeS (clientC y o (recs)) : Nat) : Int), dkL d (clientC y o (recs)), outP b6 (l ++ clientO y o), blkA b7 (ints (haveV c).toList) 61, blkA b8 (ints (haveV (clientX y o).own).toList) 61, blkA b9 (ints (valV c).toList) 61, blkA b10 (ints (valV (clientX y o).own).toList) 61]) (Want.met rfl rfl rfl) rfl rfl rfl nm18 rfl (rOwnL_does r (clientX y o) vc ) (fun _ s => s) (fun _ _ _ => trivial) (fun vR HR hR => ?_)
  obtain ⟨rfl, rfl⟩ := hR
  change TL _ _ _ _ _ _ _ _ _ [blkA r (RepT.cells ({ clientX y o with replies := vc })) 104, own vc ((clientR y o (rs)).length) (ints (List.flatMap ReplyT.flat (clientR y o (rs)))) 92 3, own uc1 ((clientR y o (rs)).length) (ints (List.flatMap ReplyT.flat (clientR y o (rs)))) 92 3, lgP lg d (((clientC y o (recs)).length : Nat) : Int) ((sizeS (clientC y o (recs)) : Nat) : Int), dkL d (clientC y o (recs)), outP b6 (l ++ clientO y o), blkA b7 (ints (haveV c).toList) 61, blkA b8 (ints (haveV (clientX y o).own).toList) 61, blkA b9 (ints (valV c).toList) 61, blkA b10 (ints (valV (clientX y o).own).toList) 61]
  refine TL.nil ?_
  refine TE.draw (fun _ s => ⟨Frm.of s, s.block 8 (lb rfl) rfl, s.block 6 (lb rfl) rfl, trivial⟩) ?_
  refine TD.take (i := 32) rfl (by kernel_rfl) (by kernel_rfl) (by kernel_rfl) (fun _ _ _ _ h => h) (Want.met rfl rfl rfl) rfl rfl (PV.field1 (cs := ints ((clientX y o).own).flat) (v := Value.int .i64 (((clientX y o).own).version)) rfl Tryz.underlying48 rfl Tryz.underlying3 rfl rfl (RowT.at_version ((clientX y o).own) rfl)) ?_
  refine TD.take (i := 34) rfl (by kernel_rfl) (by kernel_rfl) (by kernel_rfl) (fun _ _ _ _ h => h) (Want.met rfl rfl rfl) rfl rfl (PV.neq rfl rfl rfl) ?_
  refine TD.dec (fun h251 => ?_) (fun h251 => ?_)
  · exact absurd rfl h251
  refine TD.take (i := 35) rfl (by kernel_rfl) (by kernel_rfl) (by kernel_rfl) (fun _ _ _ _ h => h) (Want.plain rfl) rfl rfl (PV.pick rfl rfl rfl) ?_
  refine TD.done (by kernel_rfl) ?_
  refine TE.next hK68 ?_
  clear hK68
  refine TC.no rfl ?_
  refine TC.skip ?_
  refine TE.blockEnd ?_
  refine TE.next hK17 ?_
  clear hK17
  refine TC.region ?_
  refine tp rfl rfl rfl (PV.add rfl rfl rfl (wrap_i64 (by omega) (by omega))) ?_
  refine tp rfl rfl rfl (PV.move rfl rfl) ?_
  refine TL.nil ?_
  exact TE.round ((i + 1, clientX y o, vc, c, clientC y o recs, clientR y o rs, l ++ clientO y o, one) : (Nat) × (RepT) × (Value) × (RowT) × (List (List UInt8)) × (List ReplyT) × (List SaidT) × (Bool)) ⟨by omega, hvc, hI2, by omega, by omega, (by rw [List.length_append]; omega)⟩ (by show l0.length - (i + 1) < l0.length - i; omega)
    (Sub.r (Sub.r (Sub.r (Sub.r (Sub.r (Sub.r (Sub.r (Sub.r (Sub.r (Sub.r (Sub.r (Sub.r (Sub.cons rfl (by simp) (Sub.nil _))))))))))))))
    (fun _ s => sep_keep [0, 2, 2, 0, 1, 1, 1, 1, 1] rfl s)
  exact AllT.nil
  exact AllT.nil
  exact AllT.nil
  exact AllT.nil
  exact AllT.nil
  clear hK67
  refine TC.seq (fun K69 hK69 => ?_)
  refine TC.region ?_
  refine tp rfl rfl rfl (PV.move rfl rfl) ?_
  refine tp rfl rfl rfl (PV.neq rfl rfl rfl) ?_
  refine TL.dec (fun h171 => ?_) (fun h171 => ?_)
  have hdn := client_done y o rs (Or.inl (by omega))
  refine tp rfl rfl rfl (PV.move rfl rfl) ?_
  refine TL.unmet (b := true) rfl rfl rfl rfl (lb rfl) ?_
  refine TL.unmet (b := true) rfl rfl rfl rfl (lb rfl) ?_
  refine tp rfl rfl rfl (PV.pick rfl rfl rfl) ?_
  refine TL.nil ?_
  refine TE.next hK69 ?_
  clear hK69
  refine TC.yes rfl ?_
  refine TC.region ?_
  refine tp rfl rfl rfl (PV.move rfl rfl) ?_
  refine tp rfl rfl rfl (PV.add rfl rfl rfl (wrap_i64 (by omega) (by omega))) ?_
  refine tp rfl rfl rfl (PV.assign rfl rfl) ?_
  refine TL.nil ?_
  exact TE.weak
    (Sub.r (Sub.r (Sub.r (Sub.r (Sub.r (Sub.r (Sub.cons rfl (by rw [hdn.1]) (Sub.r (Sub.cons rfl (by rw [hdn.2.2.1]; simp) (Sub.cons rfl (by rw [hdn.2.1]) (Sub.r (Sub.r (Sub.r (Sub.r (Sub.nil _)))))))))))))))
    (fun _ s => by dsimp only; rw [show haveV (clientX y o).own = haveV y.own by rw [hdn.2.1], show valV (clientX y o).own = valV y.own by rw [hdn.2.1]]; exact sep_keep [0, 0, 0, 0, 0, 1, 1, 1, 1] rfl s)
    (tl67 (() : Unit) trivial)
  · exact absurd h171 (by omega)
  refine tp rfl rfl rfl (PV.move rfl rfl) ?_
  refine TL.unmet (b := false) rfl rfl rfl rfl (lb rfl) ?_
  refine TL.unmet (b := false) rfl rfl rfl rfl (lb rfl) ?_
  refine tp rfl rfl rfl (PV.pick rfl rfl rfl) ?_
  refine TL.nil ?_
  refine TE.next hK63 ?_
  clear hK63
  refine TC.no rfl ?_
  refine TC.skip ?_
  refine TE.next hK62 ?_
  clear hK62
  refine TC.seq (fun K70 hK70 => ?_)
  refine TC.seq (fun K71 hK71 => ?_)
  refine TC.region ?_
  refine tp rfl rfl rfl (PV.move rfl rfl) ?_
  refine tp rfl rfl rfl (PV.move rfl rfl) ?_
  refine tp rfl rfl rfl (PV.neq rfl rfl rfl) ?_
  refine TL.dec (fun h169 => ?_) (fun h169 => ?_)
  · exact absurd (by omega) h169
  refine TL.nil ?_
  refine TE.next hK71 ?_
  clear hK71
  refine TC.no rfl ?_
  refine TC.skip ?_
  refine TE.next hK70 ?_
  clear hK70
  refine TC.seq (fun K72 hK72 => ?_)
  refine TC.cut (α := Unit) (fun _u => True) (fun _u => [(4, (.pointer (some ⟨r, 0, none⟩))), (6, (.pointer (some ⟨b6, 0, none⟩))), (7, (.pointer (some ⟨b7, 0, none⟩))), (8, (.pointer (some ⟨b8, 0, none⟩))), (9, (.pointer (some ⟨b9, 0, none⟩))), (10, (.pointer (some ⟨b10, 0, none⟩))), (11, (.bool ((clientX y o).busy))), (12, (.bool (one))), (13, (.int .i64 ((((clientR y o rs).length : Nat) : Int)))), (14, (.int .i64 ((clientX y o).own.version))), (19, (.int .i64 (((q : Nat) : Int)))), (34, x), (35, (.int .i64 (((l0.length : Nat) : Int)))), (36, (.int .i64 (((i : Nat) : Int))))]) (fun _u => [blkA r (RepT.cells ({ clientX y o with replies := vc })) 104, lgP lg d (((clientC y o (recs)).length : Nat) : Int) ((sizeS (clientC y o (recs)) : Nat) : Int), dkL d (clientC y o (recs)), own vc ((clientR y o (rs)).length) (ints (List.flatMap ReplyT.flat (clientR y o (rs)))) 92 3, outP b6 (l ++ clientO y o), blkA b7 (ints (haveV c).toList) 61, blkA b8 (ints (haveV (clientX y o).own).toList) 61, blkA b9 (ints (valV c).toList) 61, blkA b10 (ints (valV (clientX y o).own).toList) 61]) (fun _u hinv => ?_) (fun tl72 => ?_)
  have _ := hinv
  refine TE.next hK72 ?_
  clear hK72
  refine TC.seq (fun K73 hK73 => ?_)
  refine TC.draw (fun w => Frm F w ∧ w.heap[b9]? = some (.cells (ints (valV c).toList).toArray 61 (0, 0)) ∧ w.heap[b7]? = some (.cells (ints (haveV c).toList).toArray 61 (0, 0)) ∧ True) mixed rfl (fun _ s => ⟨Frm.of s, s.block 7 (lb rfl) rfl, s.block 5 (lb rfl) rfl, trivial⟩) ?_
  refine TD.take (i := 0) rfl (by kernel_rfl) (by kernel_rfl) (by kernel_rfl) (fun _ _ _ _ h => h) (Want.plain rfl) rfl rfl (PV.move rfl rfl) ?_
  refine TD.take (i := 2) rfl (by kernel_rfl) (by kernel_rfl) (by kernel_rfl) (fun _ _ _ _ h => h) (Want.plain rfl) rfl rfl (PV.move rfl rfl) ?_
  refine TD.all [1] (by kernel_rfl) rfl ?_
  refine AllT.cons rfl ?_ ?_
  refine TL.callR (A := [blkA r (RepT.cells ({ clientX y o with replies := vc })) 104]) (B := [lgP lg d (((clientC y o (recs)).length : Nat) : Int) ((sizeS (clientC y o (recs)) : Nat) : Int), dkL d (clientC y o (recs)), own vc ((clientR y o (rs)).length) (ints (List.flatMap ReplyT.flat (clientR y o (rs)))) 92 3, outP b6 (l ++ clientO y o), blkA b7 (ints (haveV c).toList) 61, blkA b8 (ints (haveV (clientX y o).own).toList) 61, blkA b9 (ints (valV c).toList) 61, blkA b10 (ints (valV (clientX y o).own).toList) 61]) (Want.plain rfl) rfl rfl rfl nm14 rfl (rBusyL_does r (clientX y o) vc ) (fun _ s => s) (fun _ _ _ => trivial) (fun vR HR hR => ?_)
  obtain ⟨rfl, rfl⟩ := hR
  change TL _ _ _ _ _ _ _ _ _ [blkA r (RepT.cells ({ clientX y o with replies := vc })) 104, lgP lg d (((clientC y o (recs)).length : Nat) : Int) ((sizeS (clientC y o (recs)) : Nat) : Int), dkL d (clientC y o (recs)), own vc ((clientR y o (rs)).length) (ints (List.flatMap ReplyT.flat (clientR y o (rs)))) 92 3, outP b6 (l ++ clientO y o), blkA b7 (ints (haveV c).toList) 61, blkA b8 (ints (haveV (clientX y o).own).toList) 61, blkA b9 (ints (valV c).toList) 61, blkA b10 (ints (valV (clientX y o).own).toList) 61]
  refine TL.nil ?_
  refine TE.draw (fun _ s => ⟨Frm.of s, s.block 7 (lb rfl) rfl, s.block 5 (lb rfl) rfl, trivial⟩) ?_
  refine TD.take (i := 3) rfl (by kernel_rfl) (by kernel_rfl) (by kernel_rfl) (fun _ _ _ _ h => h) (Want.plain rfl) rfl rfl (PV.neqBo rfl Tryz.underlying4 rfl rfl) ?_
  refine TD.decB (fun h220 => ?_) (fun h220 => ?_)
  · exact absurd h220 (by simp)
  refine TD.take (i := 4) rfl (by kernel_rfl) (by kernel_rfl) (by kernel_rfl) (fun _ _ _ _ h => h) (Want.plain rfl) rfl rfl (PV.move rfl rfl) ?_
  refine TD.take (i := 5) rfl (by kernel_rfl) (by kernel_rfl) (by kernel_rfl) (fun _ _ _ _ h => h) (Want.met rfl rfl rfl) rfl rfl (PV.move rfl rfl) ?_
  refine TD.take (i := 8) rfl (by kernel_rfl) (by kernel_rfl) (by kernel_rfl) (fun _ _ _ _ h => h) (Want.met rfl rfl rfl) rfl rfl (PV.move rfl rfl) ?_
  refine TD.all [6] (by kernel_rfl) rfl ?_
  refine AllT.cons rfl ?_ ?_
  refine TL.callR (A := [blkA r (RepT.cells ({ clientX y o with replies := vc })) 104, own vc ((clientR y o (rs)).length) (ints (List.flatMap ReplyT.flat (clientR y o (rs)))) 92 3]) (B := [lgP lg d (((clientC y o (recs)).length : Nat) : Int) ((sizeS (clientC y o (recs)) : Nat) : Int), dkL d (clientC y o (recs)), outP b6 (l ++ clientO y o), blkA b7 (ints (haveV c).toList) 61, blkA b8 (ints (haveV (clientX y o).own).toList) 61, blkA b9 (ints (valV c).toList) 61, blkA b10 (ints (valV (clientX y o).own).toList) 61]) (Want.met rfl rfl rfl) rfl rfl rfl nm15 rfl (replies_does r { (clientX y o) with replies := vc } (clientR y o (rs)) (by omega)) (fun _ s => sep_selR [0, 2] rfl s) (fun _ _ _ => trivial) (fun vR HR hR => ?_)
  obtain ⟨_, rfl, rfl⟩ := hR
  revert vR
  intro uc1
  change TL _ _ _ _ _ _ _ _ _ [blkA r (RepT.cells ({ clientX y o with replies := vc })) 104, own vc ((clientR y o (rs)).length) (ints (List.flatMap ReplyT.flat (clientR y o (rs)))) 92 3, own uc1 ((clientR y o (rs)).length) (ints (List.flatMap ReplyT.flat (clientR y o (rs)))) 92 3, lgP lg d (((clientC y o (recs)).length : Nat) : Int) ((sizeS (clientC y o (recs)) : Nat) : Int), dkL d (clientC y o (recs)), outP b6 (l ++ clientO y o), blkA b7 (ints (haveV c).toList) 61, blkA b8 (ints (haveV (clientX y o).own).toList) 61, blkA b9 (ints (valV c).toList) 61, blkA b10 (ints (valV (clientX y o).own).toList) 61]
  refine TL.ownLen 2 rfl rfl (fun hluc1 _ => ?_)
  refine TL.nil ?_
  refine TE.draw (fun _ s => ⟨Frm.of s, s.block 8 (lb rfl) rfl, s.block 6 (lb rfl) rfl, trivial⟩) ?_
  refine TD.take (i := 7) rfl (by kernel_rfl) (by kernel_rfl) (by kernel_rfl) (fun _ _ _ _ h => h) (Want.met rfl rfl rfl) rfl rfl (PV.lenV rfl Tryz.underlying55 rfl hluc1) ?_
  refine TD.take (i := 9) rfl (by kernel_rfl) (by kernel_rfl) (by kernel_rfl) (fun _ _ _ _ h => h) (Want.met rfl rfl rfl) rfl rfl (PV.neq rfl rfl rfl) ?_
  refine TD.dec (fun h226 => ?_) (fun h226 => ?_)
  · exact absurd rfl h226
  refine TD.take (i := 10) rfl (by kernel_rfl) (by kernel_rfl) (by kernel_rfl) (fun _ _ _ _ h => h) (Want.plain rfl) rfl rfl (PV.pick rfl rfl rfl) ?_
  refine TD.take (i := 11) rfl (by kernel_rfl) (by kernel_rfl) (by kernel_rfl) (fun _ _ _ _ h => h) (Want.plain rfl) rfl rfl (PV.move rfl rfl) ?_
  refine TD.take (i := 12) rfl (by kernel_rfl) (by kernel_rfl) (by kernel_rfl) (fun _ _ _ _ h => h) (Want.met rfl rfl rfl) rfl rfl (PV.move rfl rfl) ?_
  refine TD.take (i := 13) rfl (by kernel_rfl) (by kernel_rfl) (by kernel_rfl) (fun _ _ _ _ h => h) (Want.met rfl rfl rfl) rfl rfl (PV.move rfl rfl) ?_
  refine TD.take (i := 15) rfl (by kernel_rfl) (by kernel_rfl) (by kernel_rfl) (fun _ _ _ _ h => h) (Want.met rfl rfl rfl) rfl rfl (PV.move rfl rfl) ?_
  refine TD.take (i := 16) rfl (by kernel_rfl) (by kernel_rfl) (by kernel_rfl) (fun _ _ _ _ h => h) (Want.met rfl rfl rfl) rfl rfl (PV.indexArr (r := q) rfl Tryz.underlying61 sz3 rfl rfl (by omega) (by omega) (by omega)) ?_
  refine TD.take (i := 17) rfl (by kernel_rfl) (by kernel_rfl) (by kernel_rfl) (fun _ _ _ _ h => h) (Want.met rfl rfl rfl) rfl rfl (PV.load1 (v := (.int .i64 (((valV c)[q]'(by omega))))) rfl Tryz.underlying3 rfl rfl (fun _ h => h.2.1) (vi_at (valV c) (by omega))) ?_
  refine TD.all [14] (by kernel_rfl) rfl ?_
  refine AllT.cons rfl ?_ ?_
  refine TL.callR (A := [blkA r (RepT.cells ({ clientX y o with replies := vc })) 104]) (B := [own vc ((clientR y o (rs)).length) (ints (List.flatMap ReplyT.flat (clientR y o (rs)))) 92 3, own uc1 ((clientR y o (rs)).length) (ints (List.flatMap ReplyT.flat (clientR y o (rs)))) 92 3, lgP lg d (((clientC y o (recs)).length : Nat) : Int) ((sizeS (clientC y o (recs)) : Nat) : Int), dkL d (clientC y o (recs)), outP b6 (l ++ clientO y o), blkA b7 (ints (haveV c).toList) 61, blkA b8 (ints (haveV (clientX y o).own).toList) 61, blkA b9 (ints (valV c).toList) 61, blkA b10 (ints (valV (clientX y o).own).toList) 61]) (Want.met rfl rfl rfl) rfl rfl rfl nm16 rfl (rValueL_does r (clientX y o) vc ((q : Nat) : Int)) (fun _ s => s) (fun _ _ _ => trivial) (fun vR HR hR => ?_)
  obtain ⟨hv, rfl⟩ := hR
  rw [hI2.value hq] at hv
  subst hv
  change TL _ _ _ _ _ _ _ _ _ [blkA r (RepT.cells ({ clientX y o with replies := vc })) 104, own vc ((clientR y o (rs)).length) (ints (List.flatMap ReplyT.flat (clientR y o (rs)))) 92 3, own uc1 ((clientR y o (rs)).length) (ints (List.flatMap ReplyT.flat (clientR y o (rs)))) 92 3, lgP lg d (((clientC y o (recs)).length : Nat) : Int) ((sizeS (clientC y o (recs)) : Nat) : Int), dkL d (clientC y o (recs)), outP b6 (l ++ clientO y o), blkA b7 (ints (haveV c).toList) 61, blkA b8 (ints (haveV (clientX y o).own).toList) 61, blkA b9 (ints (valV c).toList) 61, blkA b10 (ints (valV (clientX y o).own).toList) 61]
  refine TL.nil ?_
  refine TE.draw (fun _ s => ⟨Frm.of s, s.block 8 (lb rfl) rfl, s.block 6 (lb rfl) rfl, trivial⟩) ?_
  refine TD.take (i := 18) rfl (by kernel_rfl) (by kernel_rfl) (by kernel_rfl) (fun _ _ _ _ h => h) (Want.met rfl rfl rfl) rfl rfl (PV.neq rfl rfl rfl) ?_
  refine TD.dec (fun h235 => ?_) (fun h235 => ?_)
  · exact absurd rfl h235
  refine TD.take (i := 19) rfl (by kernel_rfl) (by kernel_rfl) (by kernel_rfl) (fun _ _ _ _ h => h) (Want.plain rfl) rfl rfl (PV.pick rfl rfl rfl) ?_
  refine TD.take (i := 20) rfl (by kernel_rfl) (by kernel_rfl) (by kernel_rfl) (fun _ _ _ _ h => h) (Want.plain rfl) rfl rfl (PV.move rfl rfl) ?_
  refine TD.take (i := 21) rfl (by kernel_rfl) (by kernel_rfl) (by kernel_rfl) (fun _ _ _ _ h => h) (Want.met rfl rfl rfl) rfl rfl (PV.move rfl rfl) ?_
  refine TD.take (i := 22) rfl (by kernel_rfl) (by kernel_rfl) (by kernel_rfl) (fun _ _ _ _ h => h) (Want.met rfl rfl rfl) rfl rfl (PV.move rfl rfl) ?_
  refine TD.take (i := 24) rfl (by kernel_rfl) (by kernel_rfl) (by kernel_rfl) (fun _ _ _ _ h => h) (Want.met rfl rfl rfl) rfl rfl (PV.move rfl rfl) ?_
  refine TD.take (i := 25) rfl (by kernel_rfl) (by kernel_rfl) (by kernel_rfl) (fun _ _ _ _ h => h) (Want.met rfl rfl rfl) rfl rfl (PV.indexArr (r := q) rfl Tryz.underlying61 sz3 rfl rfl (by omega) (by omega) (by omega)) ?_
  refine TD.take (i := 26) rfl (by kernel_rfl) (by kernel_rfl) (by kernel_rfl) (fun _ _ _ _ h => h) (Want.met rfl rfl rfl) rfl rfl (PV.load1 (v := (.int .i64 (((haveV c)[q]'(by omega))))) rfl Tryz.underlying3 rfl rfl (fun _ h => h.2.2.1) (vi_at (haveV c) (by omega))) ?_
  refine TD.all [23] (by kernel_rfl) rfl ?_
  refine AllT.cons rfl ?_ ?_
  refine TL.callR (A := [blkA r (RepT.cells ({ clientX y o with replies := vc })) 104]) (B := [own vc ((clientR y o (rs)).length) (ints (List.flatMap ReplyT.flat (clientR y o (rs)))) 92 3, own uc1 ((clientR y o (rs)).length) (ints (List.flatMap ReplyT.flat (clientR y o (rs)))) 92 3, lgP lg d (((clientC y o (recs)).length : Nat) : Int) ((sizeS (clientC y o (recs)) : Nat) : Int), dkL d (clientC y o (recs)), outP b6 (l ++ clientO y o), blkA b7 (ints (haveV c).toList) 61, blkA b8 (ints (haveV (clientX y o).own).toList) 61, blkA b9 (ints (valV c).toList) 61, blkA b10 (ints (valV (clientX y o).own).toList) 61]) (Want.met rfl rfl rfl) rfl rfl rfl nm19 rfl (rRightsL_does r (clientX y o) vc 0 ((q : Nat) : Int)) (fun _ s => s) (fun _ _ _ => trivial) (fun vR HR hR => ?_)
  obtain ⟨hv, rfl⟩ := hR
  rw [hI2.rights hq] at hv
  subst hv
  change TL _ _ _ _ _ _ _ _ _ [blkA r (RepT.cells ({ clientX y o with replies := vc })) 104, own vc ((clientR y o (rs)).length) (ints (List.flatMap ReplyT.flat (clientR y o (rs)))) 92 3, own uc1 ((clientR y o (rs)).length) (ints (List.flatMap ReplyT.flat (clientR y o (rs)))) 92 3, lgP lg d (((clientC y o (recs)).length : Nat) : Int) ((sizeS (clientC y o (recs)) : Nat) : Int), dkL d (clientC y o (recs)), outP b6 (l ++ clientO y o), blkA b7 (ints (haveV c).toList) 61, blkA b8 (ints (haveV (clientX y o).own).toList) 61, blkA b9 (ints (valV c).toList) 61, blkA b10 (ints (valV (clientX y o).own).toList) 61]
  refine TL.nil ?_
  refine TE.draw (fun _ s => ⟨Frm.of s, s.block 8 (lb rfl) rfl, s.block 6 (lb rfl) rfl, trivial⟩) ?_
  refine TD.take (i := 27) rfl (by kernel_rfl) (by kernel_rfl) (by kernel_rfl) (fun _ _ _ _ h => h) (Want.met rfl rfl rfl) rfl rfl (PV.neq rfl rfl rfl) ?_
  refine TD.dec (fun h244 => ?_) (fun h244 => ?_)
  · exact absurd rfl h244
  refine TD.take (i := 28) rfl (by kernel_rfl) (by kernel_rfl) (by kernel_rfl) (fun _ _ _ _ h => h) (Want.plain rfl) rfl rfl (PV.pick rfl rfl rfl) ?_
  refine TD.take (i := 29) rfl (by kernel_rfl) (by kernel_rfl) (by kernel_rfl) (fun _ _ _ _ h => h) (Want.plain rfl) rfl rfl (PV.move rfl rfl) ?_
  refine TD.take (i := 30) rfl (by kernel_rfl) (by kernel_rfl) (by kernel_rfl) (fun _ _ _ _ h => h) (Want.met rfl rfl rfl) rfl rfl (PV.move rfl rfl) ?_
  refine TD.take (i := 33) rfl (by kernel_rfl) (by kernel_rfl) (by kernel_rfl) (fun _ _ _ _ h => h) (Want.met rfl rfl rfl) rfl rfl (PV.move rfl rfl) ?_
  refine TD.all [31] (by kernel_rfl) rfl ?_
  refine AllT.cons rfl ?_ ?_
  refine TL.callR (A := [blkA r (RepT.cells ({ clientX y o with replies := vc })) 104]) (B := [own vc ((clientR y o (rs)).length) (ints (List.flatMap ReplyT.flat (clientR y o (rs)))) 92 3, own uc1 ((clientR y o (rs)).length) (ints (List.flatMap ReplyT.flat (clientR y o (rs)))) 92 3, lgP lg d (((clientC y o (recs)).length : Nat) : Int) ((sizeS (clientC y o (recs)) : Nat) : Int), dkL d (clientC y o (recs)), outP b6 (l ++ clientO y o), blkA b7 (ints (haveV c).toList) 61, blkA b8 (ints (haveV (clientX y o).own).toList) 61, blkA b9 (ints (valV c).toList) 61, blkA b10 (ints (valV (clientX y o).own).toList) 61]) (Want.met rfl rfl rfl) rfl rfl rfl nm18 rfl (rOwnL_does r (clientX y o) vc ) (fun _ s => s) (fun _ _ _ => trivial) (fun vR HR hR => ?_)
  obtain ⟨rfl, rfl⟩ := hR
  change TL _ _ _ _ _ _ _ _ _ [blkA r (RepT.cells ({ clientX y o with replies := vc })) 104, own vc ((clientR y o (rs)).length) (ints (List.flatMap ReplyT.flat (clientR y o (rs)))) 92 3, own uc1 ((clientR y o (rs)).length) (ints (List.flatMap ReplyT.flat (clientR y o (rs)))) 92 3, lgP lg d (((clientC y o (recs)).length : Nat) : Int) ((sizeS (clientC y o (recs)) : Nat) : Int), dkL d (clientC y o (recs)), outP b6 (l ++ clientO y o), blkA b7 (ints (haveV c).toList) 61, blkA b8 (ints (haveV (clientX y o).own).toList) 61, blkA b9 (ints (valV c).toList) 61, blkA b10 (ints (valV (clientX y o).own).toList) 61]
  refine TL.nil ?_
  refine TE.draw (fun _ s => ⟨Frm.of s, s.block 8 (lb rfl) rfl, s.block 6 (lb rfl) rfl, trivial⟩) ?_
  refine TD.take (i := 32) rfl (by kernel_rfl) (by kernel_rfl) (by kernel_rfl) (fun _ _ _ _ h => h) (Want.met rfl rfl rfl) rfl rfl (PV.field1 (cs := ints ((clientX y o).own).flat) (v := Value.int .i64 (((clientX y o).own).version)) rfl Tryz.underlying48 rfl Tryz.underlying3 rfl rfl (RowT.at_version ((clientX y o).own) rfl)) ?_
  refine TD.take (i := 34) rfl (by kernel_rfl) (by kernel_rfl) (by kernel_rfl) (fun _ _ _ _ h => h) (Want.met rfl rfl rfl) rfl rfl (PV.neq rfl rfl rfl) ?_
  refine TD.dec (fun h251 => ?_) (fun h251 => ?_)
  · exact absurd rfl h251
  refine TD.take (i := 35) rfl (by kernel_rfl) (by kernel_rfl) (by kernel_rfl) (fun _ _ _ _ h => h) (Want.plain rfl) rfl rfl (PV.pick rfl rfl rfl) ?_
  refine TD.done (by kernel_rfl) ?_
  refine TE.next hK73 ?_
  clear hK73
  refine TC.no rfl ?_
  refine TC.skip ?_
  refine TE.blockEnd ?_
  refine TE.next hK17 ?_
  clear hK17
  refine TC.region ?_
  refine tp rfl rfl rfl (PV.add rfl rfl rfl (wrap_i64 (by omega) (by omega))) ?_
  refine tp rfl rfl rfl (PV.move rfl rfl) ?_
  refine TL.nil ?_
  exact TE.round ((i + 1, clientX y o, vc, c, clientC y o recs, clientR y o rs, l ++ clientO y o, one) : (Nat) × (RepT) × (Value) × (RowT) × (List (List UInt8)) × (List ReplyT) × (List SaidT) × (Bool)) ⟨by omega, hvc, hI2, by omega, by omega, (by rw [List.length_append]; omega)⟩ (by show l0.length - (i + 1) < l0.length - i; omega)
    (Sub.r (Sub.r (Sub.r (Sub.r (Sub.r (Sub.r (Sub.r (Sub.r (Sub.r (Sub.r (Sub.r (Sub.r (Sub.cons rfl (by simp) (Sub.nil _))))))))))))))
    (fun _ s => sep_keep [0, 2, 2, 0, 1, 1, 1, 1, 1] rfl s)
  exact AllT.nil
  exact AllT.nil
  exact AllT.nil
  exact AllT.nil
  exact AllT.nil
  clear hK72
  refine TC.seq (fun K74 hK74 => ?_)
  refine TC.region ?_
  refine tp rfl rfl rfl (PV.move rfl rfl) ?_
  refine tp rfl rfl rfl (PV.neq rfl rfl rfl) ?_
  refine TL.dec (fun h171 => ?_) (fun h171 => ?_)
  have hdn := client_done y o rs (Or.inl (by omega))
  refine tp rfl rfl rfl (PV.move rfl rfl) ?_
  refine TL.unmet (b := true) rfl rfl rfl rfl (lb rfl) ?_
  refine TL.unmet (b := true) rfl rfl rfl rfl (lb rfl) ?_
  refine tp rfl rfl rfl (PV.pick rfl rfl rfl) ?_
  refine TL.nil ?_
  refine TE.next hK74 ?_
  clear hK74
  refine TC.yes rfl ?_
  refine TC.region ?_
  refine tp rfl rfl rfl (PV.move rfl rfl) ?_
  refine tp rfl rfl rfl (PV.add rfl rfl rfl (wrap_i64 (by omega) (by omega))) ?_
  refine tp rfl rfl rfl (PV.assign rfl rfl) ?_
  refine TL.nil ?_
  exact TE.weak
    (Sub.r (Sub.r (Sub.r (Sub.r (Sub.r (Sub.r (Sub.cons rfl (by rw [hdn.1]) (Sub.r (Sub.cons rfl (by rw [hdn.2.2.1]; simp) (Sub.cons rfl (by rw [hdn.2.1]) (Sub.r (Sub.r (Sub.r (Sub.r (Sub.nil _)))))))))))))))
    (fun _ s => by dsimp only; rw [show haveV (clientX y o).own = haveV y.own by rw [hdn.2.1], show valV (clientX y o).own = valV y.own by rw [hdn.2.1]]; exact sep_keep [0, 0, 0, 0, 0, 1, 1, 1, 1] rfl s)
    (tl72 (() : Unit) trivial)
  refine tp rfl rfl rfl (PV.move rfl rfl) ?_
  refine tq rfl rfl rfl rfl rfl (PV.move rfl rfl) ?_
  refine tq rfl rfl rfl rfl rfl (PV.eql rfl rfl rfl) ?_
  refine TL.dec (fun h174 => ?_) (fun h174 => ?_)
  have hdn := client_done y o rs (Or.inr (by rw [hok.1]; exact h174))
  refine tp rfl rfl rfl (PV.pick rfl rfl rfl) ?_
  refine TL.nil ?_
  refine TE.next hK74 ?_
  clear hK74
  refine TC.yes rfl ?_
  refine TC.region ?_
  refine tp rfl rfl rfl (PV.move rfl rfl) ?_
  refine tp rfl rfl rfl (PV.add rfl rfl rfl (wrap_i64 (by omega) (by omega))) ?_
  refine tp rfl rfl rfl (PV.assign rfl rfl) ?_
  refine TL.nil ?_
  exact TE.weak
    (Sub.r (Sub.r (Sub.r (Sub.r (Sub.r (Sub.r (Sub.cons rfl (by rw [hdn.1]) (Sub.r (Sub.cons rfl (by rw [hdn.2.2.1]; simp) (Sub.cons rfl (by rw [hdn.2.1]) (Sub.r (Sub.r (Sub.r (Sub.r (Sub.nil _)))))))))))))))
    (fun _ s => by dsimp only; rw [show haveV (clientX y o).own = haveV y.own by rw [hdn.2.1], show valV (clientX y o).own = valV y.own by rw [hdn.2.1]]; exact sep_keep [0, 0, 0, 0, 0, 1, 1, 1, 1] rfl s)
    (tl72 (() : Unit) trivial)
  obtain ⟨hk1, hk2, hk3, hk4, hk5, hk6⟩ := client_kept hI (by omega) o hq (b := inB) (by rw [hok.2.1]; exact hin) (by rw [hok.2.1]; exact hkey) (by rw [hok.1]; omega) rs (by omega) (by rw [hok.1]; exact h174)
  refine tp rfl rfl rfl (PV.pick rfl rfl rfl) ?_
  refine TL.nil ?_
  refine TE.next hK74 ?_
  clear hK74
  refine TC.no rfl ?_
  refine TC.seq (fun K75 hK75 => ?_)
  refine TC.region ?_
  refine tp rfl rfl rfl (PV.assign rfl rfl) ?_
  refine TL.nil ?_
  refine TE.next hK75 ?_
  clear hK75
  refine TC.seq (fun K76 hK76 => ?_)
  refine TC.region ?_
  refine tp rfl rfl rfl (PV.move rfl rfl) ?_
  refine tp rfl rfl rfl (PV.add rfl rfl rfl (wrap_i64 (by omega) (by omega))) ?_
  refine tp rfl rfl rfl (PV.assign rfl rfl) ?_
  refine TL.nil ?_
  refine TE.next hK76 ?_
  clear hK76
  refine TC.seq (fun K77 hK77 => ?_)
  refine TC.draw (fun w => Frm F w ∧ w.heap[b7]? = some (.cells (ints (haveV c).toList).toArray 61 (0, 0)) ∧ w.heap[b9]? = some (.cells (ints (valV c).toList).toArray 61 (0, 0)) ∧ True) mixed rfl (fun _ s => ⟨Frm.of s, s.block 6 (lb rfl) rfl, s.block 8 (lb rfl) rfl, trivial⟩) ?_
  refine TD.take (i := 0) rfl (by kernel_rfl) (by kernel_rfl) (by kernel_rfl) (fun _ _ _ _ h => h) (Want.plain rfl) rfl rfl (PV.loadN (vs := ints (haveV c).toList) rfl Tryz.underlying61 rfl sz61 rfl (fun _ h => h.2.1) (vi4_len (haveV c)) (whole (vi4_len (haveV c)))) ?_
  refine TD.take (i := 1) rfl (by kernel_rfl) (by kernel_rfl) (by kernel_rfl) (fun _ _ _ _ h => h) (Want.plain rfl) rfl rfl (PV.loadN (vs := ints (valV c).toList) rfl Tryz.underlying61 rfl sz61 rfl (fun _ h => h.2.2.1) (vi4_len (valV c)) (whole (vi4_len (valV c)))) ?_
  refine TD.all [2] (by kernel_rfl) rfl ?_
  refine AllT.cons rfl ?_ ?_
  refine TL.store (vs := ints (haveV c).toList) (i := 7) (H' := [blkA r (RepT.cells ({ clientX y o with replies := vc })) 104, lgP lg d (((clientC y o (recs)).length : Nat) : Int) ((sizeS (clientC y o (recs)) : Nat) : Int), dkL d (clientC y o (recs)), own vc ((clientR y o (rs)).length) (ints (List.flatMap ReplyT.flat (clientR y o (rs)))) 92 3, outP b6 (l ++ clientO y o), blkA b16 [(.int .i64 (a0)), (.int .i64 (a1)), (.int .i64 (a2)), (.int .i64 (a3))] 63, blkA b7 (ints (haveV c).toList) 61, blkA b8 (ints (haveV c).toList) 61, blkA b9 (ints (valV c).toList) 61, blkA b10 (ints (valV y.own).toList) 61]) (Want.plain rfl) rfl rfl rfl rfl rfl (by rw [(vi4_len (haveV c))]; exact sz61) (ints_one _) rfl rfl (by have h0 := (vi4_len (haveV y.own)); have h1 := (vi4_len (haveV c)); omega) (wwhole ((vi4_len (haveV y.own)).trans (vi4_len (haveV c)).symm)) rfl ?_
  refine TL.nil ?_
  refine TE.draw (fun _ s => ⟨Frm.of s, s.block 6 (lb rfl) rfl, s.block 8 (lb rfl) rfl, trivial⟩) ?_
  refine TD.all [3] (by kernel_rfl) rfl ?_
  refine AllT.cons rfl ?_ ?_
  refine TL.store (vs := ints (valV c).toList) (i := 9) (H' := [blkA r (RepT.cells ({ clientX y o with replies := vc })) 104, lgP lg d (((clientC y o (recs)).length : Nat) : Int) ((sizeS (clientC y o (recs)) : Nat) : Int), dkL d (clientC y o (recs)), own vc ((clientR y o (rs)).length) (ints (List.flatMap ReplyT.flat (clientR y o (rs)))) 92 3, outP b6 (l ++ clientO y o), blkA b16 [(.int .i64 (a0)), (.int .i64 (a1)), (.int .i64 (a2)), (.int .i64 (a3))] 63, blkA b7 (ints (haveV c).toList) 61, blkA b8 (ints (haveV c).toList) 61, blkA b9 (ints (valV c).toList) 61, blkA b10 (ints (valV c).toList) 61]) (Want.plain rfl) rfl rfl rfl rfl rfl (by rw [(vi4_len (valV c))]; exact sz61) (ints_one _) rfl rfl (by have h0 := (vi4_len (valV y.own)); have h1 := (vi4_len (valV c)); omega) (wwhole ((vi4_len (valV y.own)).trans (vi4_len (valV c)).symm)) rfl ?_
  refine TL.nil ?_
  refine TE.draw (fun _ s => ⟨Frm.of s, s.block 6 (lb rfl) rfl, s.block 8 (lb rfl) rfl, trivial⟩) ?_
  refine TD.done (by kernel_rfl) ?_
  refine TE.next hK77 ?_
  clear hK77
  refine TC.seq (fun K78 hK78 => ?_)
  refine TC.region ?_
  refine tp rfl rfl rfl (PV.move rfl rfl) ?_
  refine TL.nil ?_
  refine TE.next hK78 ?_
  clear hK78
  refine TC.block ?_
  refine TC.seq (fun K79 hK79 => ?_)
  refine TC.region ?_
  refine tp rfl rfl rfl (PV.eql rfl rfl rfl) ?_
  refine TL.dec (fun h190 => ?_) (fun h190 => ?_)
  refine tp rfl rfl rfl (PV.assign rfl rfl) ?_
  refine TL.nil ?_
  refine TE.next hK79 ?_
  clear hK79
  refine TC.yes rfl ?_
  refine TC.seq (fun K80 hK80 => ?_)
  refine TC.region ?_
  refine tp rfl rfl rfl (PV.move rfl rfl) ?_
  refine tp rfl rfl rfl (PV.indexArr (r := q) rfl Tryz.underlying61 sz3 rfl rfl (by omega) (by omega) (by omega)) ?_
  refine tp rfl rfl rfl (PV.load1 (v := (.int .i64 (((haveV c)[q]'(by omega))))) rfl Tryz.underlying3 rfl rfl (Rd.own 7 rfl rfl) (vi_at (haveV c) (by omega))) ?_
  refine tp rfl rfl rfl (PV.move rfl rfl) ?_
  refine tp rfl rfl rfl (PV.add rfl rfl rfl (wrap_i64 (by omega) (by omega))) ?_
  refine tp rfl rfl rfl (PV.indexArr (r := q) rfl Tryz.underlying61 sz3 rfl rfl (by omega) (by omega) (by omega)) ?_
  refine TL.store1 (i := 7) (H' := [blkA r (RepT.cells ({ clientX y o with replies := vc })) 104, lgP lg d (((clientC y o (recs)).length : Nat) : Int) ((sizeS (clientC y o (recs)) : Nat) : Int), dkL d (clientC y o (recs)), own vc ((clientR y o (rs)).length) (ints (List.flatMap ReplyT.flat (clientR y o (rs)))) 92 3, outP b6 (l ++ clientO y o), blkA b16 [(.int .i64 (a0)), (.int .i64 (a1)), (.int .i64 (a2)), (.int .i64 (a3))] 63, blkA b7 (ints (haveV c).toList) 61, blkA b8 (ints ((haveV c).set q (((haveV c)[q]'(by omega)) + (a2 % 2199023255552)) (by omega)).toList) 61, blkA b9 (ints (valV c).toList) 61, blkA b10 (ints (valV c).toList) 61]) (Want.plain rfl) rfl rfl rfl rfl rfl sz3 rfl rfl (by have h0 := (vi4_len (haveV c)); omega) (vi_st (haveV c) (by omega) _) rfl ?_
  refine TL.nil ?_
  refine TE.next hK80 ?_
  clear hK80
  refine TC.region ?_
  refine tp rfl rfl rfl (PV.move rfl rfl) ?_
  refine tp rfl rfl rfl (PV.indexArr (r := q) rfl Tryz.underlying61 sz3 rfl rfl (by omega) (by omega) (by omega)) ?_
  refine tp rfl rfl rfl (PV.load1 (v := (.int .i64 (((valV c)[q]'(by omega))))) rfl Tryz.underlying3 rfl rfl (Rd.own 9 rfl rfl) (vi_at (valV c) (by omega))) ?_
  refine tp rfl rfl rfl (PV.move rfl rfl) ?_
  refine tp rfl rfl rfl (PV.add rfl rfl rfl (wrap_i64 (by omega) (by omega))) ?_
  refine tp rfl rfl rfl (PV.indexArr (r := q) rfl Tryz.underlying61 sz3 rfl rfl (by omega) (by omega) (by omega)) ?_
  refine TL.store1 (i := 9) (H' := [blkA r (RepT.cells ({ clientX y o with replies := vc })) 104, lgP lg d (((clientC y o (recs)).length : Nat) : Int) ((sizeS (clientC y o (recs)) : Nat) : Int), dkL d (clientC y o (recs)), own vc ((clientR y o (rs)).length) (ints (List.flatMap ReplyT.flat (clientR y o (rs)))) 92 3, outP b6 (l ++ clientO y o), blkA b16 [(.int .i64 (a0)), (.int .i64 (a1)), (.int .i64 (a2)), (.int .i64 (a3))] 63, blkA b7 (ints (haveV c).toList) 61, blkA b8 (ints ((haveV c).set q (((haveV c)[q]'(by omega)) + (a2 % 2199023255552)) (by omega)).toList) 61, blkA b9 (ints (valV c).toList) 61, blkA b10 (ints ((valV c).set q (((valV c)[q]'(by omega)) + (a2 % 2199023255552)) (by omega)).toList) 61]) (Want.plain rfl) rfl rfl rfl rfl rfl sz3 rfl rfl (by have h0 := (vi4_len (valV c)); omega) (vi_st (valV c) (by omega) _) rfl ?_
  refine TL.nil ?_
  refine TE.blockEnd ?_
  have hko : o.kind = 0 := by rw [hok.1]; omega
  rw [hko, hok.2.2.1, hok.2.2.2] at hk5
  have hp8 : haveV (clientX y o).own = (haveV c).set q ((haveV c)[q] + (a2 % 2199023255552)) hq := by rw [hk5]; exact (haveV_grown c hq _ (by rw [(hasC_0 c.cells[q] (a2 % 2199023255552) a3).1, haveV_at _ hq])).symm
  have hp10 : valV (clientX y o).own = (valV c).set q ((valV c)[q] + (a2 % 2199023255552)) hq := by rw [hk5]; exact (valV_grown c hq _ (by rw [(hasC_0 c.cells[q] (a2 % 2199023255552) a3).2, valV_at _ hq])).symm
  exact TE.weak
    (Sub.r (Sub.r (Sub.r (Sub.r (Sub.r (Sub.r (Sub.cons rfl (by rw [hk1]) (Sub.r (Sub.cons rfl (by rw [hk3]) (Sub.cons rfl (by rw [hk2]) (Sub.r (Sub.r (Sub.r (Sub.r (Sub.nil _)))))))))))))))
    (fun _ s => by dsimp only; rw [hp8, hp10]; exact sep_keep [0, 0, 0, 0, 0, 1, 1, 1, 1] rfl s)
    (tl72 (() : Unit) trivial)
  refine tp rfl rfl rfl (PV.assign rfl rfl) ?_
  refine TL.nil ?_
  refine TE.next hK79 ?_
  clear hK79
  refine TC.no rfl ?_
  refine TC.seq (fun K81 hK81 => ?_)
  refine TC.region ?_
  refine tp rfl rfl rfl (PV.eql rfl rfl rfl) ?_
  refine TL.dec (fun h204 => ?_) (fun h204 => ?_)
  refine tp rfl rfl rfl (PV.assign rfl rfl) ?_
  refine TL.nil ?_
  refine TE.next hK81 ?_
  clear hK81
  refine TC.yes rfl ?_
  refine TC.seq (fun K82 hK82 => ?_)
  refine TC.region ?_
  refine tp rfl rfl rfl (PV.move rfl rfl) ?_
  refine tp rfl rfl rfl (PV.indexArr (r := q) rfl Tryz.underlying61 sz3 rfl rfl (by omega) (by omega) (by omega)) ?_
  refine tp rfl rfl rfl (PV.load1 (v := (.int .i64 (((haveV c)[q]'(by omega))))) rfl Tryz.underlying3 rfl rfl (Rd.own 7 rfl rfl) (vi_at (haveV c) (by omega))) ?_
  refine tp rfl rfl rfl (PV.move rfl rfl) ?_
  refine tp rfl rfl rfl (PV.sub rfl rfl rfl (wrap_i64 (by omega) (by omega))) ?_
  refine tp rfl rfl rfl (PV.indexArr (r := q) rfl Tryz.underlying61 sz3 rfl rfl (by omega) (by omega) (by omega)) ?_
  refine TL.store1 (i := 7) (H' := [blkA r (RepT.cells ({ clientX y o with replies := vc })) 104, lgP lg d (((clientC y o (recs)).length : Nat) : Int) ((sizeS (clientC y o (recs)) : Nat) : Int), dkL d (clientC y o (recs)), own vc ((clientR y o (rs)).length) (ints (List.flatMap ReplyT.flat (clientR y o (rs)))) 92 3, outP b6 (l ++ clientO y o), blkA b16 [(.int .i64 (a0)), (.int .i64 (a1)), (.int .i64 (a2)), (.int .i64 (a3))] 63, blkA b7 (ints (haveV c).toList) 61, blkA b8 (ints ((haveV c).set q (((haveV c)[q]'(by omega)) - (a2 % 2199023255552)) (by omega)).toList) 61, blkA b9 (ints (valV c).toList) 61, blkA b10 (ints (valV c).toList) 61]) (Want.plain rfl) rfl rfl rfl rfl rfl sz3 rfl rfl (by have h0 := (vi4_len (haveV c)); omega) (vi_st (haveV c) (by omega) _) rfl ?_
  refine TL.nil ?_
  refine TE.next hK82 ?_
  clear hK82
  refine TC.region ?_
  refine tp rfl rfl rfl (PV.move rfl rfl) ?_
  refine tp rfl rfl rfl (PV.indexArr (r := q) rfl Tryz.underlying61 sz3 rfl rfl (by omega) (by omega) (by omega)) ?_
  refine tp rfl rfl rfl (PV.load1 (v := (.int .i64 (((valV c)[q]'(by omega))))) rfl Tryz.underlying3 rfl rfl (Rd.own 9 rfl rfl) (vi_at (valV c) (by omega))) ?_
  refine tp rfl rfl rfl (PV.move rfl rfl) ?_
  refine tp rfl rfl rfl (PV.sub rfl rfl rfl (wrap_i64 (by omega) (by omega))) ?_
  refine tp rfl rfl rfl (PV.indexArr (r := q) rfl Tryz.underlying61 sz3 rfl rfl (by omega) (by omega) (by omega)) ?_
  refine TL.store1 (i := 9) (H' := [blkA r (RepT.cells ({ clientX y o with replies := vc })) 104, lgP lg d (((clientC y o (recs)).length : Nat) : Int) ((sizeS (clientC y o (recs)) : Nat) : Int), dkL d (clientC y o (recs)), own vc ((clientR y o (rs)).length) (ints (List.flatMap ReplyT.flat (clientR y o (rs)))) 92 3, outP b6 (l ++ clientO y o), blkA b16 [(.int .i64 (a0)), (.int .i64 (a1)), (.int .i64 (a2)), (.int .i64 (a3))] 63, blkA b7 (ints (haveV c).toList) 61, blkA b8 (ints ((haveV c).set q (((haveV c)[q]'(by omega)) - (a2 % 2199023255552)) (by omega)).toList) 61, blkA b9 (ints (valV c).toList) 61, blkA b10 (ints ((valV c).set q (((valV c)[q]'(by omega)) - (a2 % 2199023255552)) (by omega)).toList) 61]) (Want.plain rfl) rfl rfl rfl rfl rfl sz3 rfl rfl (by have h0 := (vi4_len (valV c)); omega) (vi_st (valV c) (by omega) _) rfl ?_
  refine TL.nil ?_
  refine TE.blockEnd ?_
  have hko : o.kind = 1 := by rw [hok.1]; omega
  rw [hko, hok.2.2.1, hok.2.2.2] at hk5
  have hp8 : haveV (clientX y o).own = (haveV c).set q ((haveV c)[q] - (a2 % 2199023255552)) hq := by rw [hk5]; exact (haveV_grown c hq _ (by rw [(hasC_1 c.cells[q] (a2 % 2199023255552) a3).1, haveV_at _ hq])).symm
  have hp10 : valV (clientX y o).own = (valV c).set q ((valV c)[q] - (a2 % 2199023255552)) hq := by rw [hk5]; exact (valV_grown c hq _ (by rw [(hasC_1 c.cells[q] (a2 % 2199023255552) a3).2, valV_at _ hq])).symm
  exact TE.weak
    (Sub.r (Sub.r (Sub.r (Sub.r (Sub.r (Sub.r (Sub.cons rfl (by rw [hk1]) (Sub.r (Sub.cons rfl (by rw [hk3]) (Sub.cons rfl (by rw [hk2]) (Sub.r (Sub.r (Sub.r (Sub.r (Sub.nil _)))))))))))))))
    (fun _ s => by dsimp only; rw [hp8, hp10]; exact sep_keep [0, 0, 0, 0, 0, 1, 1, 1, 1] rfl s)
    (tl72 (() : Unit) trivial)
  refine tp rfl rfl rfl (PV.assign rfl rfl) ?_
  refine TL.nil ?_
  refine TE.next hK81 ?_
  clear hK81
  refine TC.no rfl ?_
  refine TC.region ?_
  refine tp rfl rfl rfl (PV.move rfl rfl) ?_
  refine tp rfl rfl rfl (PV.indexArr (r := q) rfl Tryz.underlying61 sz3 rfl rfl (by omega) (by omega) (by omega)) ?_
  refine tp rfl rfl rfl (PV.load1 (v := (.int .i64 (((haveV c)[q]'(by omega))))) rfl Tryz.underlying3 rfl rfl (Rd.own 7 rfl rfl) (vi_at (haveV c) (by omega))) ?_
  refine tp rfl rfl rfl (PV.move rfl rfl) ?_
  refine tp rfl rfl rfl (PV.sub rfl rfl rfl (wrap_i64 (by omega) (by omega))) ?_
  refine tp rfl rfl rfl (PV.indexArr (r := q) rfl Tryz.underlying61 sz3 rfl rfl (by omega) (by omega) (by omega)) ?_
  refine TL.store1 (i := 7) (H' := [blkA r (RepT.cells ({ clientX y o with replies := vc })) 104, lgP lg d (((clientC y o (recs)).length : Nat) : Int) ((sizeS (clientC y o (recs)) : Nat) : Int), dkL d (clientC y o (recs)), own vc ((clientR y o (rs)).length) (ints (List.flatMap ReplyT.flat (clientR y o (rs)))) 92 3, outP b6 (l ++ clientO y o), blkA b16 [(.int .i64 (a0)), (.int .i64 (a1)), (.int .i64 (a2)), (.int .i64 (a3))] 63, blkA b7 (ints (haveV c).toList) 61, blkA b8 (ints ((haveV c).set q (((haveV c)[q]'(by omega)) - (a2 % 2199023255552)) (by omega)).toList) 61, blkA b9 (ints (valV c).toList) 61, blkA b10 (ints (valV c).toList) 61]) (Want.plain rfl) rfl rfl rfl rfl rfl sz3 rfl rfl (by have h0 := (vi4_len (haveV c)); omega) (vi_st (haveV c) (by omega) _) rfl ?_
  refine TL.nil ?_
  refine TE.blockEnd ?_
  have hko : o.kind = 2 := by rw [hok.1]; omega
  rw [hko, hok.2.2.1, hok.2.2.2] at hk5
  have hp8 : haveV (clientX y o).own = (haveV c).set q ((haveV c)[q] - (a2 % 2199023255552)) hq := by rw [hk5]; exact (haveV_grown c hq _ (by rw [(hasC_2 c.cells[q] (a2 % 2199023255552) a3 (by have := hk6 hko; rw [hok.2.2.2] at this; exact this)).1, haveV_at _ hq])).symm
  have hp10 : valV (clientX y o).own = valV c := by rw [hk5]; exact (valV_same c hq _ (hasC_2 c.cells[q] (a2 % 2199023255552) a3 (by have := hk6 hko; rw [hok.2.2.2] at this; exact this)).2).symm
  exact TE.weak
    (Sub.r (Sub.r (Sub.r (Sub.r (Sub.r (Sub.r (Sub.cons rfl (by rw [hk1]) (Sub.r (Sub.cons rfl (by rw [hk3]) (Sub.cons rfl (by rw [hk2]) (Sub.r (Sub.r (Sub.r (Sub.r (Sub.nil _)))))))))))))))
    (fun _ s => by dsimp only; rw [hp8, hp10]; exact sep_keep [0, 0, 0, 0, 0, 1, 1, 1, 1] rfl s)
    (tl72 (() : Unit) trivial)
  exact AllT.nil
  exact AllT.nil
  exact AllT.nil
  clear hK60
  refine TC.block ?_
  refine TC.seq (fun K83 hK83 => ?_)
  refine TC.region ?_
  refine tp rfl rfl rfl (PV.move rfl rfl) ?_
  refine TL.decB (fun h97 => ?_) (fun h97 => ?_)
  refine tp rfl rfl rfl (PV.not (r := false) rfl rfl rfl) ?_
  refine tp rfl rfl rfl (PV.assign rfl rfl) ?_
  refine TL.nil ?_
  refine TE.next hK83 ?_
  clear hK83
  refine TC.no rfl ?_
  refine TC.seq (fun K84 hK84 => ?_)
  refine TC.region ?_
  refine tp rfl rfl rfl (PV.move rfl rfl) ?_
  refine tp rfl rfl rfl (PV.eql rfl rfl rfl) ?_
  refine TL.dec (fun h101 => ?_) (fun h101 => ?_)
  refine tp rfl rfl rfl (PV.assign rfl rfl) ?_
  refine TL.nil ?_
  refine TE.next hK84 ?_
  clear hK84
  refine TC.yes rfl ?_
  refine TC.skip ?_
  refine TE.blockEnd ?_
  exact TE.weak
    (Sub.r (Sub.r (Sub.r (Sub.r (Sub.r (Sub.r (Sub.r (Sub.r (Sub.r (Sub.r (Sub.r (Sub.r (Sub.r (Sub.r (Sub.r (Sub.r (Sub.r (Sub.r (Sub.nil _)))))))))))))))))))
    (fun _ s => sep_keep [0, 0, 0, 0, 0, 0, 0, 0, 0, 0] rfl s)
    (tl60 ((0) : (Int)) (by show (0 : Int) = wantF y c inB ((kq : Nat) : Int) (a2 % 2199023255552) a3 q hq; unfold wantF; (repeat' split) <;> first | rfl | omega | contradiction | simp_all))
  refine tp rfl rfl rfl (PV.assign rfl rfl) ?_
  refine TL.nil ?_
  refine TE.next hK84 ?_
  clear hK84
  refine TC.no rfl ?_
  refine TC.seq (fun K85 hK85 => ?_)
  refine TC.region ?_
  refine tp rfl rfl rfl (PV.move rfl rfl) ?_
  refine TL.decB (fun h103 => ?_) (fun h103 => ?_)
  refine tp rfl rfl rfl (PV.assign rfl rfl) ?_
  refine TL.nil ?_
  refine TE.next hK85 ?_
  clear hK85
  refine TC.yes rfl ?_
  refine TC.region ?_
  refine tp rfl rfl rfl (PV.assign rfl rfl) ?_
  refine TL.nil ?_
  refine TE.blockEnd ?_
  exact TE.weak
    (Sub.r (Sub.r (Sub.r (Sub.r (Sub.r (Sub.r (Sub.r (Sub.r (Sub.r (Sub.r (Sub.r (Sub.r (Sub.r (Sub.r (Sub.r (Sub.r (Sub.r (Sub.r (Sub.nil _)))))))))))))))))))
    (fun _ s => sep_keep [0, 0, 0, 0, 0, 0, 0, 0, 0, 0] rfl s)
    (tl60 ((8) : (Int)) (by show (8 : Int) = wantF y c inB ((kq : Nat) : Int) (a2 % 2199023255552) a3 q hq; unfold wantF; (repeat' split) <;> first | rfl | omega | contradiction | simp_all))
  refine tp rfl rfl rfl (PV.assign rfl rfl) ?_
  refine TL.nil ?_
  refine TE.next hK85 ?_
  clear hK85
  refine TC.no rfl ?_
  refine TC.seq (fun K86 hK86 => ?_)
  refine TC.region ?_
  refine tp rfl rfl rfl (PV.move rfl rfl) ?_
  refine tp rfl rfl rfl (PV.lss rfl rfl rfl) ?_
  refine TL.dec (fun h106 => ?_) (fun h106 => ?_)
  refine tp rfl rfl rfl (PV.move rfl rfl) ?_
  refine TL.unmet (b := true) rfl rfl rfl rfl (lb rfl) ?_
  refine TL.unmet (b := true) rfl rfl rfl rfl (lb rfl) ?_
  refine tp rfl rfl rfl (PV.pick rfl rfl rfl) ?_
  refine tp rfl rfl rfl (PV.move rfl rfl) ?_
  refine TL.unmet (b := true) rfl rfl rfl rfl (lb rfl) ?_
  refine TL.unmet (b := true) rfl rfl rfl rfl (lb rfl) ?_
  refine TL.unmet (b := true) rfl rfl rfl rfl (lb rfl) ?_
  refine TL.unmetU rfl rfl rfl rfl (lb rfl) ?_
  refine TL.unmetU rfl rfl rfl rfl (lb rfl) ?_
  refine TL.unmetU rfl rfl rfl rfl (lb rfl) ?_
  refine TL.unmetU rfl rfl rfl rfl (lb rfl) ?_
  refine TL.unmetU rfl rfl rfl rfl (lb rfl) ?_
  refine TL.unmetU rfl rfl rfl rfl (lb rfl) ?_
  refine TL.unmetU rfl rfl rfl rfl (lb rfl) ?_
  refine TL.unmetU rfl rfl rfl rfl (lb rfl) ?_
  refine TL.unmet (b := true) rfl rfl rfl rfl (lb rfl) ?_
  refine tp rfl rfl rfl (PV.pick rfl rfl rfl) ?_
  refine tp rfl rfl rfl (PV.assign rfl rfl) ?_
  refine TL.nil ?_
  refine TE.next hK86 ?_
  clear hK86
  refine TC.yes rfl ?_
  refine TC.region ?_
  refine tp rfl rfl rfl (PV.assign rfl rfl) ?_
  refine TL.nil ?_
  refine TE.blockEnd ?_
  exact TE.weak
    (Sub.r (Sub.r (Sub.r (Sub.r (Sub.r (Sub.r (Sub.r (Sub.r (Sub.r (Sub.r (Sub.r (Sub.r (Sub.r (Sub.r (Sub.r (Sub.r (Sub.r (Sub.r (Sub.nil _)))))))))))))))))))
    (fun _ s => sep_keep [0, 0, 0, 0, 0, 0, 0, 0, 0, 0] rfl s)
    (tl60 ((5) : (Int)) (by show (5 : Int) = wantF y c inB ((kq : Nat) : Int) (a2 % 2199023255552) a3 q hq; unfold wantF; (repeat' split) <;> first | rfl | omega | contradiction | simp_all))
  refine tp rfl rfl rfl (PV.move rfl rfl) ?_
  refine tq rfl rfl rfl rfl rfl (PV.move rfl rfl) ?_
  refine tq rfl rfl rfl rfl rfl (PV.gtr rfl rfl rfl) ?_
  refine TL.dec (fun h109 => ?_) (fun h109 => ?_)
  refine tp rfl rfl rfl (PV.pick rfl rfl rfl) ?_
  refine tp rfl rfl rfl (PV.move rfl rfl) ?_
  refine TL.unmet (b := true) rfl rfl rfl rfl (lb rfl) ?_
  refine TL.unmet (b := true) rfl rfl rfl rfl (lb rfl) ?_
  refine TL.unmet (b := true) rfl rfl rfl rfl (lb rfl) ?_
  refine TL.unmetU rfl rfl rfl rfl (lb rfl) ?_
  refine TL.unmetU rfl rfl rfl rfl (lb rfl) ?_
  refine TL.unmetU rfl rfl rfl rfl (lb rfl) ?_
  refine TL.unmetU rfl rfl rfl rfl (lb rfl) ?_
  refine TL.unmetU rfl rfl rfl rfl (lb rfl) ?_
  refine TL.unmetU rfl rfl rfl rfl (lb rfl) ?_
  refine TL.unmetU rfl rfl rfl rfl (lb rfl) ?_
  refine TL.unmetU rfl rfl rfl rfl (lb rfl) ?_
  refine TL.unmet (b := true) rfl rfl rfl rfl (lb rfl) ?_
  refine tp rfl rfl rfl (PV.pick rfl rfl rfl) ?_
  refine tp rfl rfl rfl (PV.assign rfl rfl) ?_
  refine TL.nil ?_
  refine TE.next hK86 ?_
  clear hK86
  refine TC.yes rfl ?_
  refine TC.region ?_
  refine tp rfl rfl rfl (PV.assign rfl rfl) ?_
  refine TL.nil ?_
  refine TE.blockEnd ?_
  exact TE.weak
    (Sub.r (Sub.r (Sub.r (Sub.r (Sub.r (Sub.r (Sub.r (Sub.r (Sub.r (Sub.r (Sub.r (Sub.r (Sub.r (Sub.r (Sub.r (Sub.r (Sub.r (Sub.r (Sub.nil _)))))))))))))))))))
    (fun _ s => sep_keep [0, 0, 0, 0, 0, 0, 0, 0, 0, 0] rfl s)
    (tl60 ((5) : (Int)) (by show (5 : Int) = wantF y c inB ((kq : Nat) : Int) (a2 % 2199023255552) a3 q hq; unfold wantF; (repeat' split) <;> first | rfl | omega | contradiction | simp_all))
  refine tp rfl rfl rfl (PV.pick rfl rfl rfl) ?_
  refine tp rfl rfl rfl (PV.move rfl rfl) ?_
  refine tq rfl rfl rfl rfl rfl (PV.move rfl rfl) ?_
  refine tq rfl rfl rfl rfl rfl (PV.eql rfl rfl rfl) ?_
  refine TL.dec (fun h113 => ?_) (fun h113 => ?_)
  refine tq rfl rfl rfl rfl rfl (PV.move rfl rfl) ?_
  refine tq rfl rfl rfl rfl rfl (PV.fieldAddr (r := 3) rfl Tryz.underlying63 rfl sz3 rfl rfl) ?_
  refine tq rfl rfl rfl rfl rfl (PV.load1 (v := (.int .i64 (a3))) rfl Tryz.underlying3 rfl rfl (Rd.own 0 rfl rfl) rfl) ?_
  refine tq rfl rfl rfl rfl rfl (PV.lss rfl rfl rfl) ?_
  refine TL.dec (fun h117 => ?_) (fun h117 => ?_)
  refine tq rfl rfl rfl rfl rfl (PV.move rfl rfl) ?_
  refine TL.unmet (b := true) rfl rfl rfl rfl (lb rfl) ?_
  refine TL.unmet (b := true) rfl rfl rfl rfl (lb rfl) ?_
  refine TL.unmet (b := true) rfl rfl rfl rfl (lb rfl) ?_
  refine tq rfl rfl rfl rfl rfl (PV.pick rfl rfl rfl) ?_
  refine tq rfl rfl rfl rfl rfl (PV.pick rfl rfl rfl) ?_
  refine tp rfl rfl rfl (PV.pick rfl rfl rfl) ?_
  refine tp rfl rfl rfl (PV.assign rfl rfl) ?_
  refine TL.nil ?_
  refine TE.next hK86 ?_
  clear hK86
  refine TC.yes rfl ?_
  refine TC.region ?_
  refine tp rfl rfl rfl (PV.assign rfl rfl) ?_
  refine TL.nil ?_
  refine TE.blockEnd ?_
  exact TE.weak
    (Sub.r (Sub.r (Sub.r (Sub.r (Sub.r (Sub.r (Sub.r (Sub.r (Sub.r (Sub.r (Sub.r (Sub.r (Sub.r (Sub.r (Sub.r (Sub.r (Sub.r (Sub.r (Sub.nil _)))))))))))))))))))
    (fun _ s => sep_keep [0, 0, 0, 0, 0, 0, 0, 0, 0, 0] rfl s)
    (tl60 ((5) : (Int)) (by show (5 : Int) = wantF y c inB ((kq : Nat) : Int) (a2 % 2199023255552) a3 q hq; unfold wantF; (repeat' split) <;> first | rfl | omega | contradiction | simp_all))
  refine tq rfl rfl rfl rfl rfl (PV.move rfl rfl) ?_
  refine tq rfl rfl rfl rfl rfl (PV.fieldAddr (r := 3) rfl Tryz.underlying63 rfl sz3 rfl rfl) ?_
  refine tq rfl rfl rfl rfl rfl (PV.load1 (v := (.int .i64 (a3))) rfl Tryz.underlying3 rfl rfl (Rd.own 0 rfl rfl) rfl) ?_
  refine tq rfl rfl rfl rfl rfl (PV.gtr rfl rfl rfl) ?_
  refine TL.dec (fun h121 => ?_) (fun h121 => ?_)
  refine tq rfl rfl rfl rfl rfl (PV.pick rfl rfl rfl) ?_
  refine tq rfl rfl rfl rfl rfl (PV.pick rfl rfl rfl) ?_
  refine tp rfl rfl rfl (PV.pick rfl rfl rfl) ?_
  refine tp rfl rfl rfl (PV.assign rfl rfl) ?_
  refine TL.nil ?_
  refine TE.next hK86 ?_
  clear hK86
  refine TC.yes rfl ?_
  refine TC.region ?_
  refine tp rfl rfl rfl (PV.assign rfl rfl) ?_
  refine TL.nil ?_
  refine TE.blockEnd ?_
  exact TE.weak
    (Sub.r (Sub.r (Sub.r (Sub.r (Sub.r (Sub.r (Sub.r (Sub.r (Sub.r (Sub.r (Sub.r (Sub.r (Sub.r (Sub.r (Sub.r (Sub.r (Sub.r (Sub.r (Sub.nil _)))))))))))))))))))
    (fun _ s => sep_keep [0, 0, 0, 0, 0, 0, 0, 0, 0, 0] rfl s)
    (tl60 ((5) : (Int)) (by show (5 : Int) = wantF y c inB ((kq : Nat) : Int) (a2 % 2199023255552) a3 q hq; unfold wantF; (repeat' split) <;> first | rfl | omega | contradiction | simp_all))
  refine tq rfl rfl rfl rfl rfl (PV.pick rfl rfl rfl) ?_
  refine tq rfl rfl rfl rfl rfl (PV.pick rfl rfl rfl) ?_
  refine tp rfl rfl rfl (PV.pick rfl rfl rfl) ?_
  refine tp rfl rfl rfl (PV.assign rfl rfl) ?_
  refine TL.nil ?_
  refine TE.next hK86 ?_
  clear hK86
  refine TC.no rfl ?_
  refine TC.seq (fun K87 hK87 => ?_)
  refine TC.region ?_
  refine tp rfl rfl rfl (PV.move rfl rfl) ?_
  refine tp rfl rfl rfl (PV.gtr rfl rfl rfl) ?_
  refine TL.dec (fun h127 => ?_) (fun h127 => ?_)
  refine tp rfl rfl rfl (PV.move rfl rfl) ?_
  refine tq rfl rfl rfl rfl rfl (PV.move rfl rfl) ?_
  refine tq rfl rfl rfl rfl rfl (PV.indexArr (r := q) rfl Tryz.underlying61 sz3 rfl rfl (by omega) (by omega) (by omega)) ?_
  refine tq rfl rfl rfl rfl rfl (PV.load1 (v := (.int .i64 (((haveV c)[q]'(by omega))))) rfl Tryz.underlying3 rfl rfl (Rd.own 6 rfl rfl) (vi_at (haveV c) (by omega))) ?_
  refine tq rfl rfl rfl rfl rfl (PV.move rfl rfl) ?_
  refine tq rfl rfl rfl rfl rfl (PV.lss rfl rfl rfl) ?_
  refine TL.dec (fun h133 => ?_) (fun h133 => ?_)
  refine tp rfl rfl rfl (PV.pick rfl rfl rfl) ?_
  refine tp rfl rfl rfl (PV.assign rfl rfl) ?_
  refine TL.nil ?_
  refine TE.next hK87 ?_
  clear hK87
  refine TC.yes rfl ?_
  refine TC.region ?_
  refine tp rfl rfl rfl (PV.assign rfl rfl) ?_
  refine TL.nil ?_
  refine TE.blockEnd ?_
  exact TE.weak
    (Sub.r (Sub.r (Sub.r (Sub.r (Sub.r (Sub.r (Sub.r (Sub.r (Sub.r (Sub.r (Sub.r (Sub.r (Sub.r (Sub.r (Sub.r (Sub.r (Sub.r (Sub.r (Sub.nil _)))))))))))))))))))
    (fun _ s => sep_keep [0, 0, 0, 0, 0, 0, 0, 0, 0, 0] rfl s)
    (tl60 ((7) : (Int)) (by show (7 : Int) = wantF y c inB ((kq : Nat) : Int) (a2 % 2199023255552) a3 q hq; unfold wantF; (repeat' split) <;> first | rfl | omega | contradiction | simp_all))
  refine tp rfl rfl rfl (PV.pick rfl rfl rfl) ?_
  refine tp rfl rfl rfl (PV.assign rfl rfl) ?_
  refine TL.nil ?_
  refine TE.next hK87 ?_
  clear hK87
  refine TC.no rfl ?_
  refine TC.seq (fun K88 hK88 => ?_)
  refine TC.region ?_
  refine tp rfl rfl rfl (PV.move rfl rfl) ?_
  refine tp rfl rfl rfl (PV.eql rfl rfl rfl) ?_
  refine TL.dec (fun h137 => ?_) (fun h137 => ?_)
  refine tp rfl rfl rfl (PV.move rfl rfl) ?_
  refine tq rfl rfl rfl rfl rfl (PV.move rfl rfl) ?_
  refine TL.callR (A := [blkA r (RepT.cells ({ y with replies := rv })) 104]) (B := [blkA b16 [(.int .i64 (a0)), (.int .i64 (a1)), (.int .i64 (a2)), (.int .i64 (a3))] 63, lgP lg d (((recs).length : Nat) : Int) ((sizeS (recs) : Nat) : Int), dkL d (recs), own rv ((rs).length) (ints (List.flatMap ReplyT.flat (rs))) 92 3, outP b6 (l), blkA b7 (ints (haveV c).toList) 61, blkA b8 (ints (haveV y.own).toList) 61, blkA b9 (ints (valV c).toList) 61, blkA b10 (ints (valV y.own).toList) 61]) (Want.met rfl rfl rfl) rfl rfl rfl nm18 rfl (rOwnL_does r y rv ) (fun _ s => sep_selR [1] rfl s) (fun _ _ _ => trivial) (fun vR HR hR => ?_)
  obtain ⟨rfl, rfl⟩ := hR
  change TL _ _ _ _ _ _ _ _ _ [blkA r (RepT.cells ({ y with replies := rv })) 104, blkA b16 [(.int .i64 (a0)), (.int .i64 (a1)), (.int .i64 (a2)), (.int .i64 (a3))] 63, lgP lg d (((recs).length : Nat) : Int) ((sizeS (recs) : Nat) : Int), dkL d (recs), own rv ((rs).length) (ints (List.flatMap ReplyT.flat (rs))) 92 3, outP b6 (l), blkA b7 (ints (haveV c).toList) 61, blkA b8 (ints (haveV y.own).toList) 61, blkA b9 (ints (valV c).toList) 61, blkA b10 (ints (valV y.own).toList) 61]
  refine tq rfl rfl rfl rfl rfl (PV.fieldN (cs := ints y.own.flat) (vs := ints (flats y.own.cells.toList)) rfl Tryz.underlying48 rfl Tryz.underlying45 rfl sz45 rfl (RowT.sub_cells y.own 0 rfl (by decide) (whole (vs4_len y.own.cells)))) ?_
  refine tq rfl rfl rfl rfl rfl (PV.move rfl rfl) ?_
  refine tq rfl rfl rfl rfl rfl (PV.indexN (cs := ints (flats y.own.cells.toList)) (vs := ints (y.own.cells[q]'(by omega)).flat) (r := q * 7) rfl Tryz.underlying45 Tryz.underlying44 rfl sz44 rfl rfl (by omega) (by omega) (by omega) (vs_sub CellT.flat_length y.own.cells (i := q) 0 (by omega) (by omega) (by decide) (whole (CellT.len (y.own.cells[q]'(by omega)))))) ?_
  refine tq rfl rfl rfl rfl rfl (PV.field1 (cs := ints (y.own.cells[q]'(by omega)).flat) (v := Value.int .i64 ((y.own.cells[q]'(by omega)).inn)) rfl Tryz.underlying44 rfl Tryz.underlying3 rfl rfl (CellT.at_inn (y.own.cells[q]'(by omega)) rfl)) ?_
  refine tq rfl rfl rfl rfl rfl (PV.move rfl rfl) ?_
  refine tq rfl rfl rfl rfl rfl (PV.add rfl rfl rfl (wrap_i64 (by omega) (by omega))) ?_
  refine tq rfl rfl rfl rfl rfl (PV.gtr rfl rfl rfl) ?_
  refine TL.dec (fun h147 => ?_) (fun h147 => ?_)
  refine tp rfl rfl rfl (PV.pick rfl rfl rfl) ?_
  refine tp rfl rfl rfl (PV.assign rfl rfl) ?_
  refine TL.nil ?_
  refine TE.next hK88 ?_
  clear hK88
  refine TC.yes rfl ?_
  refine TC.region ?_
  refine tp rfl rfl rfl (PV.assign rfl rfl) ?_
  refine TL.nil ?_
  refine TE.blockEnd ?_
  exact TE.weak
    (Sub.r (Sub.r (Sub.r (Sub.r (Sub.r (Sub.r (Sub.r (Sub.r (Sub.r (Sub.r (Sub.r (Sub.r (Sub.r (Sub.r (Sub.r (Sub.r (Sub.r (Sub.r (Sub.nil _)))))))))))))))))))
    (fun _ s => sep_keep [1, 0, 0, 0, 0, 0, 0, 0, 0, 0] rfl s)
    (tl60 ((6) : (Int)) (by show (6 : Int) = wantF y c inB ((kq : Nat) : Int) (a2 % 2199023255552) a3 q hq; unfold wantF; (repeat' split) <;> first | rfl | omega | contradiction | simp_all))
  refine tp rfl rfl rfl (PV.pick rfl rfl rfl) ?_
  refine tp rfl rfl rfl (PV.assign rfl rfl) ?_
  refine TL.nil ?_
  refine TE.next hK88 ?_
  clear hK88
  refine TC.no rfl ?_
  refine TC.skip ?_
  refine TE.blockEnd ?_
  exact TE.weak
    (Sub.r (Sub.r (Sub.r (Sub.r (Sub.r (Sub.r (Sub.r (Sub.r (Sub.r (Sub.r (Sub.r (Sub.r (Sub.r (Sub.r (Sub.r (Sub.r (Sub.r (Sub.r (Sub.nil _)))))))))))))))))))
    (fun _ s => sep_keep [1, 0, 0, 0, 0, 0, 0, 0, 0, 0] rfl s)
    (tl60 ((0) : (Int)) (by show (0 : Int) = wantF y c inB ((kq : Nat) : Int) (a2 % 2199023255552) a3 q hq; unfold wantF; (repeat' split) <;> first | rfl | omega | contradiction | simp_all))
  refine tp rfl rfl rfl (PV.move rfl rfl) ?_
  refine TL.unmet (b := false) rfl rfl rfl rfl (lb rfl) ?_
  refine TL.unmet (b := false) rfl rfl rfl rfl (lb rfl) ?_
  refine TL.unmet (b := false) rfl rfl rfl rfl (lb rfl) ?_
  refine TL.unmet (b := false) rfl rfl rfl rfl (lb rfl) ?_
  refine TL.unmet (b := false) rfl rfl rfl rfl (lb rfl) ?_
  refine TL.unmet (b := false) rfl rfl rfl rfl (lb rfl) ?_
  refine TL.unmet (b := false) rfl rfl rfl rfl (lb rfl) ?_
  refine TL.unmet (b := false) rfl rfl rfl rfl (lb rfl) ?_
  refine TL.unmet (b := false) rfl rfl rfl rfl (lb rfl) ?_
  refine tp rfl rfl rfl (PV.pick rfl rfl rfl) ?_
  refine tp rfl rfl rfl (PV.assign rfl rfl) ?_
  refine TL.nil ?_
  refine TE.next hK88 ?_
  clear hK88
  refine TC.no rfl ?_
  refine TC.skip ?_
  refine TE.blockEnd ?_
  exact TE.weak
    (Sub.r (Sub.r (Sub.r (Sub.r (Sub.r (Sub.r (Sub.r (Sub.r (Sub.r (Sub.r (Sub.r (Sub.r (Sub.r (Sub.r (Sub.r (Sub.r (Sub.r (Sub.r (Sub.nil _)))))))))))))))))))
    (fun _ s => sep_keep [0, 0, 0, 0, 0, 0, 0, 0, 0, 0] rfl s)
    (tl60 ((0) : (Int)) (by show (0 : Int) = wantF y c inB ((kq : Nat) : Int) (a2 % 2199023255552) a3 q hq; unfold wantF; (repeat' split) <;> first | rfl | omega | contradiction | simp_all))
  refine tp rfl rfl rfl (PV.move rfl rfl) ?_
  refine TL.unmet (b := false) rfl rfl rfl rfl (lb rfl) ?_
  refine TL.unmet (b := false) rfl rfl rfl rfl (lb rfl) ?_
  refine TL.unmet (b := false) rfl rfl rfl rfl (lb rfl) ?_
  refine TL.unmet (b := false) rfl rfl rfl rfl (lb rfl) ?_
  refine TL.unmet (b := false) rfl rfl rfl rfl (lb rfl) ?_
  refine tp rfl rfl rfl (PV.pick rfl rfl rfl) ?_
  refine tp rfl rfl rfl (PV.assign rfl rfl) ?_
  refine TL.nil ?_
  refine TE.next hK87 ?_
  clear hK87
  refine TC.no rfl ?_
  refine TC.seq (fun K89 hK89 => ?_)
  refine TC.region ?_
  refine tp rfl rfl rfl (PV.move rfl rfl) ?_
  refine tp rfl rfl rfl (PV.eql rfl rfl rfl) ?_
  refine TL.dec (fun h137 => ?_) (fun h137 => ?_)
  refine tp rfl rfl rfl (PV.move rfl rfl) ?_
  refine tq rfl rfl rfl rfl rfl (PV.move rfl rfl) ?_
  refine TL.callR (A := [blkA r (RepT.cells ({ y with replies := rv })) 104]) (B := [blkA b16 [(.int .i64 (a0)), (.int .i64 (a1)), (.int .i64 (a2)), (.int .i64 (a3))] 63, lgP lg d (((recs).length : Nat) : Int) ((sizeS (recs) : Nat) : Int), dkL d (recs), own rv ((rs).length) (ints (List.flatMap ReplyT.flat (rs))) 92 3, outP b6 (l), blkA b7 (ints (haveV c).toList) 61, blkA b8 (ints (haveV y.own).toList) 61, blkA b9 (ints (valV c).toList) 61, blkA b10 (ints (valV y.own).toList) 61]) (Want.met rfl rfl rfl) rfl rfl rfl nm18 rfl (rOwnL_does r y rv ) (fun _ s => sep_selR [1] rfl s) (fun _ _ _ => trivial) (fun vR HR hR => ?_)
  obtain ⟨rfl, rfl⟩ := hR
  change TL _ _ _ _ _ _ _ _ _ [blkA r (RepT.cells ({ y with replies := rv })) 104, blkA b16 [(.int .i64 (a0)), (.int .i64 (a1)), (.int .i64 (a2)), (.int .i64 (a3))] 63, lgP lg d (((recs).length : Nat) : Int) ((sizeS (recs) : Nat) : Int), dkL d (recs), own rv ((rs).length) (ints (List.flatMap ReplyT.flat (rs))) 92 3, outP b6 (l), blkA b7 (ints (haveV c).toList) 61, blkA b8 (ints (haveV y.own).toList) 61, blkA b9 (ints (valV c).toList) 61, blkA b10 (ints (valV y.own).toList) 61]
  refine tq rfl rfl rfl rfl rfl (PV.fieldN (cs := ints y.own.flat) (vs := ints (flats y.own.cells.toList)) rfl Tryz.underlying48 rfl Tryz.underlying45 rfl sz45 rfl (RowT.sub_cells y.own 0 rfl (by decide) (whole (vs4_len y.own.cells)))) ?_
  refine tq rfl rfl rfl rfl rfl (PV.move rfl rfl) ?_
  refine tq rfl rfl rfl rfl rfl (PV.indexN (cs := ints (flats y.own.cells.toList)) (vs := ints (y.own.cells[q]'(by omega)).flat) (r := q * 7) rfl Tryz.underlying45 Tryz.underlying44 rfl sz44 rfl rfl (by omega) (by omega) (by omega) (vs_sub CellT.flat_length y.own.cells (i := q) 0 (by omega) (by omega) (by decide) (whole (CellT.len (y.own.cells[q]'(by omega)))))) ?_
  refine tq rfl rfl rfl rfl rfl (PV.field1 (cs := ints (y.own.cells[q]'(by omega)).flat) (v := Value.int .i64 ((y.own.cells[q]'(by omega)).inn)) rfl Tryz.underlying44 rfl Tryz.underlying3 rfl rfl (CellT.at_inn (y.own.cells[q]'(by omega)) rfl)) ?_
  refine tq rfl rfl rfl rfl rfl (PV.move rfl rfl) ?_
  refine tq rfl rfl rfl rfl rfl (PV.add rfl rfl rfl (wrap_i64 (by omega) (by omega))) ?_
  refine tq rfl rfl rfl rfl rfl (PV.gtr rfl rfl rfl) ?_
  refine TL.dec (fun h147 => ?_) (fun h147 => ?_)
  refine tp rfl rfl rfl (PV.pick rfl rfl rfl) ?_
  refine tp rfl rfl rfl (PV.assign rfl rfl) ?_
  refine TL.nil ?_
  refine TE.next hK89 ?_
  clear hK89
  refine TC.yes rfl ?_
  refine TC.region ?_
  refine tp rfl rfl rfl (PV.assign rfl rfl) ?_
  refine TL.nil ?_
  refine TE.blockEnd ?_
  exact TE.weak
    (Sub.r (Sub.r (Sub.r (Sub.r (Sub.r (Sub.r (Sub.r (Sub.r (Sub.r (Sub.r (Sub.r (Sub.r (Sub.r (Sub.r (Sub.r (Sub.r (Sub.r (Sub.r (Sub.nil _)))))))))))))))))))
    (fun _ s => sep_keep [1, 0, 0, 0, 0, 0, 0, 0, 0, 0] rfl s)
    (tl60 ((6) : (Int)) (by show (6 : Int) = wantF y c inB ((kq : Nat) : Int) (a2 % 2199023255552) a3 q hq; unfold wantF; (repeat' split) <;> first | rfl | omega | contradiction | simp_all))
  refine tp rfl rfl rfl (PV.pick rfl rfl rfl) ?_
  refine tp rfl rfl rfl (PV.assign rfl rfl) ?_
  refine TL.nil ?_
  refine TE.next hK89 ?_
  clear hK89
  refine TC.no rfl ?_
  refine TC.skip ?_
  refine TE.blockEnd ?_
  exact TE.weak
    (Sub.r (Sub.r (Sub.r (Sub.r (Sub.r (Sub.r (Sub.r (Sub.r (Sub.r (Sub.r (Sub.r (Sub.r (Sub.r (Sub.r (Sub.r (Sub.r (Sub.r (Sub.r (Sub.nil _)))))))))))))))))))
    (fun _ s => sep_keep [1, 0, 0, 0, 0, 0, 0, 0, 0, 0] rfl s)
    (tl60 ((0) : (Int)) (by show (0 : Int) = wantF y c inB ((kq : Nat) : Int) (a2 % 2199023255552) a3 q hq; unfold wantF; (repeat' split) <;> first | rfl | omega | contradiction | simp_all))
  refine tp rfl rfl rfl (PV.move rfl rfl) ?_
  refine TL.unmet (b := false) rfl rfl rfl rfl (lb rfl) ?_
  refine TL.unmet (b := false) rfl rfl rfl rfl (lb rfl) ?_
  refine TL.unmet (b := false) rfl rfl rfl rfl (lb rfl) ?_
  refine TL.unmet (b := false) rfl rfl rfl rfl (lb rfl) ?_
  refine TL.unmet (b := false) rfl rfl rfl rfl (lb rfl) ?_
  refine TL.unmet (b := false) rfl rfl rfl rfl (lb rfl) ?_
  refine TL.unmet (b := false) rfl rfl rfl rfl (lb rfl) ?_
  refine TL.unmet (b := false) rfl rfl rfl rfl (lb rfl) ?_
  refine TL.unmet (b := false) rfl rfl rfl rfl (lb rfl) ?_
  refine tp rfl rfl rfl (PV.pick rfl rfl rfl) ?_
  refine tp rfl rfl rfl (PV.assign rfl rfl) ?_
  refine TL.nil ?_
  refine TE.next hK89 ?_
  clear hK89
  refine TC.no rfl ?_
  refine TC.skip ?_
  refine TE.blockEnd ?_
  exact TE.weak
    (Sub.r (Sub.r (Sub.r (Sub.r (Sub.r (Sub.r (Sub.r (Sub.r (Sub.r (Sub.r (Sub.r (Sub.r (Sub.r (Sub.r (Sub.r (Sub.r (Sub.r (Sub.r (Sub.nil _)))))))))))))))))))
    (fun _ s => sep_keep [0, 0, 0, 0, 0, 0, 0, 0, 0, 0] rfl s)
    (tl60 ((0) : (Int)) (by show (0 : Int) = wantF y c inB ((kq : Nat) : Int) (a2 % 2199023255552) a3 q hq; unfold wantF; (repeat' split) <;> first | rfl | omega | contradiction | simp_all))
  refine tq rfl rfl rfl rfl rfl (PV.move rfl rfl) ?_
  refine TL.unmet (b := false) rfl rfl rfl rfl (lb rfl) ?_
  refine TL.unmet (b := false) rfl rfl rfl rfl (lb rfl) ?_
  refine TL.unmet (b := false) rfl rfl rfl rfl (lb rfl) ?_
  refine TL.unmet (b := false) rfl rfl rfl rfl (lb rfl) ?_
  refine TL.unmetU rfl rfl rfl rfl (lb rfl) ?_
  refine TL.unmetU rfl rfl rfl rfl (lb rfl) ?_
  refine TL.unmetU rfl rfl rfl rfl (lb rfl) ?_
  refine TL.unmet (b := false) rfl rfl rfl rfl (lb rfl) ?_
  refine tq rfl rfl rfl rfl rfl (PV.pick rfl rfl rfl) ?_
  refine tp rfl rfl rfl (PV.pick rfl rfl rfl) ?_
  refine tp rfl rfl rfl (PV.assign rfl rfl) ?_
  refine TL.nil ?_
  refine TE.next hK86 ?_
  clear hK86
  refine TC.no rfl ?_
  refine TC.seq (fun K90 hK90 => ?_)
  refine TC.region ?_
  refine tp rfl rfl rfl (PV.move rfl rfl) ?_
  refine tp rfl rfl rfl (PV.gtr rfl rfl rfl) ?_
  refine TL.dec (fun h127 => ?_) (fun h127 => ?_)
  refine tp rfl rfl rfl (PV.move rfl rfl) ?_
  refine tq rfl rfl rfl rfl rfl (PV.move rfl rfl) ?_
  refine tq rfl rfl rfl rfl rfl (PV.indexArr (r := q) rfl Tryz.underlying61 sz3 rfl rfl (by omega) (by omega) (by omega)) ?_
  refine tq rfl rfl rfl rfl rfl (PV.load1 (v := (.int .i64 (((haveV c)[q]'(by omega))))) rfl Tryz.underlying3 rfl rfl (Rd.own 6 rfl rfl) (vi_at (haveV c) (by omega))) ?_
  refine tq rfl rfl rfl rfl rfl (PV.move rfl rfl) ?_
  refine tq rfl rfl rfl rfl rfl (PV.lss rfl rfl rfl) ?_
  refine TL.dec (fun h133 => ?_) (fun h133 => ?_)
  refine tp rfl rfl rfl (PV.pick rfl rfl rfl) ?_
  refine tp rfl rfl rfl (PV.assign rfl rfl) ?_
  refine TL.nil ?_
  refine TE.next hK90 ?_
  clear hK90
  refine TC.yes rfl ?_
  refine TC.region ?_
  refine tp rfl rfl rfl (PV.assign rfl rfl) ?_
  refine TL.nil ?_
  refine TE.blockEnd ?_
  exact TE.weak
    (Sub.r (Sub.r (Sub.r (Sub.r (Sub.r (Sub.r (Sub.r (Sub.r (Sub.r (Sub.r (Sub.r (Sub.r (Sub.r (Sub.r (Sub.r (Sub.r (Sub.r (Sub.r (Sub.nil _)))))))))))))))))))
    (fun _ s => sep_keep [0, 0, 0, 0, 0, 0, 0, 0, 0, 0] rfl s)
    (tl60 ((7) : (Int)) (by show (7 : Int) = wantF y c inB ((kq : Nat) : Int) (a2 % 2199023255552) a3 q hq; unfold wantF; (repeat' split) <;> first | rfl | omega | contradiction | simp_all))
  refine tp rfl rfl rfl (PV.pick rfl rfl rfl) ?_
  refine tp rfl rfl rfl (PV.assign rfl rfl) ?_
  refine TL.nil ?_
  refine TE.next hK90 ?_
  clear hK90
  refine TC.no rfl ?_
  refine TC.seq (fun K91 hK91 => ?_)
  refine TC.region ?_
  refine tp rfl rfl rfl (PV.move rfl rfl) ?_
  refine tp rfl rfl rfl (PV.eql rfl rfl rfl) ?_
  refine TL.dec (fun h137 => ?_) (fun h137 => ?_)
  refine tp rfl rfl rfl (PV.move rfl rfl) ?_
  refine tq rfl rfl rfl rfl rfl (PV.move rfl rfl) ?_
  refine TL.callR (A := [blkA r (RepT.cells ({ y with replies := rv })) 104]) (B := [blkA b16 [(.int .i64 (a0)), (.int .i64 (a1)), (.int .i64 (a2)), (.int .i64 (a3))] 63, lgP lg d (((recs).length : Nat) : Int) ((sizeS (recs) : Nat) : Int), dkL d (recs), own rv ((rs).length) (ints (List.flatMap ReplyT.flat (rs))) 92 3, outP b6 (l), blkA b7 (ints (haveV c).toList) 61, blkA b8 (ints (haveV y.own).toList) 61, blkA b9 (ints (valV c).toList) 61, blkA b10 (ints (valV y.own).toList) 61]) (Want.met rfl rfl rfl) rfl rfl rfl nm18 rfl (rOwnL_does r y rv ) (fun _ s => sep_selR [1] rfl s) (fun _ _ _ => trivial) (fun vR HR hR => ?_)
  obtain ⟨rfl, rfl⟩ := hR
  change TL _ _ _ _ _ _ _ _ _ [blkA r (RepT.cells ({ y with replies := rv })) 104, blkA b16 [(.int .i64 (a0)), (.int .i64 (a1)), (.int .i64 (a2)), (.int .i64 (a3))] 63, lgP lg d (((recs).length : Nat) : Int) ((sizeS (recs) : Nat) : Int), dkL d (recs), own rv ((rs).length) (ints (List.flatMap ReplyT.flat (rs))) 92 3, outP b6 (l), blkA b7 (ints (haveV c).toList) 61, blkA b8 (ints (haveV y.own).toList) 61, blkA b9 (ints (valV c).toList) 61, blkA b10 (ints (valV y.own).toList) 61]
  refine tq rfl rfl rfl rfl rfl (PV.fieldN (cs := ints y.own.flat) (vs := ints (flats y.own.cells.toList)) rfl Tryz.underlying48 rfl Tryz.underlying45 rfl sz45 rfl (RowT.sub_cells y.own 0 rfl (by decide) (whole (vs4_len y.own.cells)))) ?_
  refine tq rfl rfl rfl rfl rfl (PV.move rfl rfl) ?_
  refine tq rfl rfl rfl rfl rfl (PV.indexN (cs := ints (flats y.own.cells.toList)) (vs := ints (y.own.cells[q]'(by omega)).flat) (r := q * 7) rfl Tryz.underlying45 Tryz.underlying44 rfl sz44 rfl rfl (by omega) (by omega) (by omega) (vs_sub CellT.flat_length y.own.cells (i := q) 0 (by omega) (by omega) (by decide) (whole (CellT.len (y.own.cells[q]'(by omega)))))) ?_
  refine tq rfl rfl rfl rfl rfl (PV.field1 (cs := ints (y.own.cells[q]'(by omega)).flat) (v := Value.int .i64 ((y.own.cells[q]'(by omega)).inn)) rfl Tryz.underlying44 rfl Tryz.underlying3 rfl rfl (CellT.at_inn (y.own.cells[q]'(by omega)) rfl)) ?_
  refine tq rfl rfl rfl rfl rfl (PV.move rfl rfl) ?_
  refine tq rfl rfl rfl rfl rfl (PV.add rfl rfl rfl (wrap_i64 (by omega) (by omega))) ?_
  refine tq rfl rfl rfl rfl rfl (PV.gtr rfl rfl rfl) ?_
  refine TL.dec (fun h147 => ?_) (fun h147 => ?_)
  refine tp rfl rfl rfl (PV.pick rfl rfl rfl) ?_
  refine tp rfl rfl rfl (PV.assign rfl rfl) ?_
  refine TL.nil ?_
  refine TE.next hK91 ?_
  clear hK91
  refine TC.yes rfl ?_
  refine TC.region ?_
  refine tp rfl rfl rfl (PV.assign rfl rfl) ?_
  refine TL.nil ?_
  refine TE.blockEnd ?_
  exact TE.weak
    (Sub.r (Sub.r (Sub.r (Sub.r (Sub.r (Sub.r (Sub.r (Sub.r (Sub.r (Sub.r (Sub.r (Sub.r (Sub.r (Sub.r (Sub.r (Sub.r (Sub.r (Sub.r (Sub.nil _)))))))))))))))))))
    (fun _ s => sep_keep [1, 0, 0, 0, 0, 0, 0, 0, 0, 0] rfl s)
    (tl60 ((6) : (Int)) (by show (6 : Int) = wantF y c inB ((kq : Nat) : Int) (a2 % 2199023255552) a3 q hq; unfold wantF; (repeat' split) <;> first | rfl | omega | contradiction | simp_all))
  refine tp rfl rfl rfl (PV.pick rfl rfl rfl) ?_
  refine tp rfl rfl rfl (PV.assign rfl rfl) ?_
  refine TL.nil ?_
  refine TE.next hK91 ?_
  clear hK91
  refine TC.no rfl ?_
  refine TC.skip ?_
  refine TE.blockEnd ?_
  exact TE.weak
    (Sub.r (Sub.r (Sub.r (Sub.r (Sub.r (Sub.r (Sub.r (Sub.r (Sub.r (Sub.r (Sub.r (Sub.r (Sub.r (Sub.r (Sub.r (Sub.r (Sub.r (Sub.r (Sub.nil _)))))))))))))))))))
    (fun _ s => sep_keep [1, 0, 0, 0, 0, 0, 0, 0, 0, 0] rfl s)
    (tl60 ((0) : (Int)) (by show (0 : Int) = wantF y c inB ((kq : Nat) : Int) (a2 % 2199023255552) a3 q hq; unfold wantF; (repeat' split) <;> first | rfl | omega | contradiction | simp_all))
  refine tp rfl rfl rfl (PV.move rfl rfl) ?_
  refine TL.unmet (b := false) rfl rfl rfl rfl (lb rfl) ?_
  refine TL.unmet (b := false) rfl rfl rfl rfl (lb rfl) ?_
  refine TL.unmet (b := false) rfl rfl rfl rfl (lb rfl) ?_
  refine TL.unmet (b := false) rfl rfl rfl rfl (lb rfl) ?_
  refine TL.unmet (b := false) rfl rfl rfl rfl (lb rfl) ?_
  refine TL.unmet (b := false) rfl rfl rfl rfl (lb rfl) ?_
  refine TL.unmet (b := false) rfl rfl rfl rfl (lb rfl) ?_
  refine TL.unmet (b := false) rfl rfl rfl rfl (lb rfl) ?_
  refine TL.unmet (b := false) rfl rfl rfl rfl (lb rfl) ?_
  refine tp rfl rfl rfl (PV.pick rfl rfl rfl) ?_
  refine tp rfl rfl rfl (PV.assign rfl rfl) ?_
  refine TL.nil ?_
  refine TE.next hK91 ?_
  clear hK91
  refine TC.no rfl ?_
  refine TC.skip ?_
  refine TE.blockEnd ?_
  exact TE.weak
    (Sub.r (Sub.r (Sub.r (Sub.r (Sub.r (Sub.r (Sub.r (Sub.r (Sub.r (Sub.r (Sub.r (Sub.r (Sub.r (Sub.r (Sub.r (Sub.r (Sub.r (Sub.r (Sub.nil _)))))))))))))))))))
    (fun _ s => sep_keep [0, 0, 0, 0, 0, 0, 0, 0, 0, 0] rfl s)
    (tl60 ((0) : (Int)) (by show (0 : Int) = wantF y c inB ((kq : Nat) : Int) (a2 % 2199023255552) a3 q hq; unfold wantF; (repeat' split) <;> first | rfl | omega | contradiction | simp_all))
  refine tp rfl rfl rfl (PV.move rfl rfl) ?_
  refine TL.unmet (b := false) rfl rfl rfl rfl (lb rfl) ?_
  refine TL.unmet (b := false) rfl rfl rfl rfl (lb rfl) ?_
  refine TL.unmet (b := false) rfl rfl rfl rfl (lb rfl) ?_
  refine TL.unmet (b := false) rfl rfl rfl rfl (lb rfl) ?_
  refine TL.unmet (b := false) rfl rfl rfl rfl (lb rfl) ?_
  refine tp rfl rfl rfl (PV.pick rfl rfl rfl) ?_
  refine tp rfl rfl rfl (PV.assign rfl rfl) ?_
  refine TL.nil ?_
  refine TE.next hK90 ?_
  clear hK90
  refine TC.no rfl ?_
  refine TC.seq (fun K92 hK92 => ?_)
  refine TC.region ?_
  refine tp rfl rfl rfl (PV.move rfl rfl) ?_
  refine tp rfl rfl rfl (PV.eql rfl rfl rfl) ?_
  refine TL.dec (fun h137 => ?_) (fun h137 => ?_)
  refine tp rfl rfl rfl (PV.move rfl rfl) ?_
  refine tq rfl rfl rfl rfl rfl (PV.move rfl rfl) ?_
  refine TL.callR (A := [blkA r (RepT.cells ({ y with replies := rv })) 104]) (B := [blkA b16 [(.int .i64 (a0)), (.int .i64 (a1)), (.int .i64 (a2)), (.int .i64 (a3))] 63, lgP lg d (((recs).length : Nat) : Int) ((sizeS (recs) : Nat) : Int), dkL d (recs), own rv ((rs).length) (ints (List.flatMap ReplyT.flat (rs))) 92 3, outP b6 (l), blkA b7 (ints (haveV c).toList) 61, blkA b8 (ints (haveV y.own).toList) 61, blkA b9 (ints (valV c).toList) 61, blkA b10 (ints (valV y.own).toList) 61]) (Want.met rfl rfl rfl) rfl rfl rfl nm18 rfl (rOwnL_does r y rv ) (fun _ s => sep_selR [1] rfl s) (fun _ _ _ => trivial) (fun vR HR hR => ?_)
  obtain ⟨rfl, rfl⟩ := hR
  change TL _ _ _ _ _ _ _ _ _ [blkA r (RepT.cells ({ y with replies := rv })) 104, blkA b16 [(.int .i64 (a0)), (.int .i64 (a1)), (.int .i64 (a2)), (.int .i64 (a3))] 63, lgP lg d (((recs).length : Nat) : Int) ((sizeS (recs) : Nat) : Int), dkL d (recs), own rv ((rs).length) (ints (List.flatMap ReplyT.flat (rs))) 92 3, outP b6 (l), blkA b7 (ints (haveV c).toList) 61, blkA b8 (ints (haveV y.own).toList) 61, blkA b9 (ints (valV c).toList) 61, blkA b10 (ints (valV y.own).toList) 61]
  refine tq rfl rfl rfl rfl rfl (PV.fieldN (cs := ints y.own.flat) (vs := ints (flats y.own.cells.toList)) rfl Tryz.underlying48 rfl Tryz.underlying45 rfl sz45 rfl (RowT.sub_cells y.own 0 rfl (by decide) (whole (vs4_len y.own.cells)))) ?_
  refine tq rfl rfl rfl rfl rfl (PV.move rfl rfl) ?_
  refine tq rfl rfl rfl rfl rfl (PV.indexN (cs := ints (flats y.own.cells.toList)) (vs := ints (y.own.cells[q]'(by omega)).flat) (r := q * 7) rfl Tryz.underlying45 Tryz.underlying44 rfl sz44 rfl rfl (by omega) (by omega) (by omega) (vs_sub CellT.flat_length y.own.cells (i := q) 0 (by omega) (by omega) (by decide) (whole (CellT.len (y.own.cells[q]'(by omega)))))) ?_
  refine tq rfl rfl rfl rfl rfl (PV.field1 (cs := ints (y.own.cells[q]'(by omega)).flat) (v := Value.int .i64 ((y.own.cells[q]'(by omega)).inn)) rfl Tryz.underlying44 rfl Tryz.underlying3 rfl rfl (CellT.at_inn (y.own.cells[q]'(by omega)) rfl)) ?_
  refine tq rfl rfl rfl rfl rfl (PV.move rfl rfl) ?_
  refine tq rfl rfl rfl rfl rfl (PV.add rfl rfl rfl (wrap_i64 (by omega) (by omega))) ?_
  refine tq rfl rfl rfl rfl rfl (PV.gtr rfl rfl rfl) ?_
  refine TL.dec (fun h147 => ?_) (fun h147 => ?_)
  refine tp rfl rfl rfl (PV.pick rfl rfl rfl) ?_
  refine tp rfl rfl rfl (PV.assign rfl rfl) ?_
  refine TL.nil ?_
  refine TE.next hK92 ?_
  clear hK92
  refine TC.yes rfl ?_
  refine TC.region ?_
  refine tp rfl rfl rfl (PV.assign rfl rfl) ?_
  refine TL.nil ?_
  refine TE.blockEnd ?_
  exact TE.weak
    (Sub.r (Sub.r (Sub.r (Sub.r (Sub.r (Sub.r (Sub.r (Sub.r (Sub.r (Sub.r (Sub.r (Sub.r (Sub.r (Sub.r (Sub.r (Sub.r (Sub.r (Sub.r (Sub.nil _)))))))))))))))))))
    (fun _ s => sep_keep [1, 0, 0, 0, 0, 0, 0, 0, 0, 0] rfl s)
    (tl60 ((6) : (Int)) (by show (6 : Int) = wantF y c inB ((kq : Nat) : Int) (a2 % 2199023255552) a3 q hq; unfold wantF; (repeat' split) <;> first | rfl | omega | contradiction | simp_all))
  refine tp rfl rfl rfl (PV.pick rfl rfl rfl) ?_
  refine tp rfl rfl rfl (PV.assign rfl rfl) ?_
  refine TL.nil ?_
  refine TE.next hK92 ?_
  clear hK92
  refine TC.no rfl ?_
  refine TC.skip ?_
  refine TE.blockEnd ?_
  exact TE.weak
    (Sub.r (Sub.r (Sub.r (Sub.r (Sub.r (Sub.r (Sub.r (Sub.r (Sub.r (Sub.r (Sub.r (Sub.r (Sub.r (Sub.r (Sub.r (Sub.r (Sub.r (Sub.r (Sub.nil _)))))))))))))))))))
    (fun _ s => sep_keep [1, 0, 0, 0, 0, 0, 0, 0, 0, 0] rfl s)
    (tl60 ((0) : (Int)) (by show (0 : Int) = wantF y c inB ((kq : Nat) : Int) (a2 % 2199023255552) a3 q hq; unfold wantF; (repeat' split) <;> first | rfl | omega | contradiction | simp_all))
  refine tp rfl rfl rfl (PV.move rfl rfl) ?_
  refine TL.unmet (b := false) rfl rfl rfl rfl (lb rfl) ?_
  refine TL.unmet (b := false) rfl rfl rfl rfl (lb rfl) ?_
  refine TL.unmet (b := false) rfl rfl rfl rfl (lb rfl) ?_
  refine TL.unmet (b := false) rfl rfl rfl rfl (lb rfl) ?_
  refine TL.unmet (b := false) rfl rfl rfl rfl (lb rfl) ?_
  refine TL.unmet (b := false) rfl rfl rfl rfl (lb rfl) ?_
  refine TL.unmet (b := false) rfl rfl rfl rfl (lb rfl) ?_
  refine TL.unmet (b := false) rfl rfl rfl rfl (lb rfl) ?_
  refine TL.unmet (b := false) rfl rfl rfl rfl (lb rfl) ?_
  refine tp rfl rfl rfl (PV.pick rfl rfl rfl) ?_
  refine tp rfl rfl rfl (PV.assign rfl rfl) ?_
  refine TL.nil ?_
  refine TE.next hK92 ?_
  clear hK92
  refine TC.no rfl ?_
  refine TC.skip ?_
  refine TE.blockEnd ?_
  exact TE.weak
    (Sub.r (Sub.r (Sub.r (Sub.r (Sub.r (Sub.r (Sub.r (Sub.r (Sub.r (Sub.r (Sub.r (Sub.r (Sub.r (Sub.r (Sub.r (Sub.r (Sub.r (Sub.r (Sub.nil _)))))))))))))))))))
    (fun _ s => sep_keep [0, 0, 0, 0, 0, 0, 0, 0, 0, 0] rfl s)
    (tl60 ((0) : (Int)) (by show (0 : Int) = wantF y c inB ((kq : Nat) : Int) (a2 % 2199023255552) a3 q hq; unfold wantF; (repeat' split) <;> first | rfl | omega | contradiction | simp_all))
  refine tp rfl rfl rfl (PV.not (r := true) rfl rfl rfl) ?_
  refine tp rfl rfl rfl (PV.assign rfl rfl) ?_
  refine TL.nil ?_
  refine TE.next hK83 ?_
  clear hK83
  refine TC.yes rfl ?_
  refine TC.region ?_
  refine tp rfl rfl rfl (PV.assign rfl rfl) ?_
  refine TL.nil ?_
  refine TE.blockEnd ?_
  exact TE.weak
    (Sub.r (Sub.r (Sub.r (Sub.r (Sub.r (Sub.r (Sub.r (Sub.r (Sub.r (Sub.r (Sub.r (Sub.r (Sub.r (Sub.r (Sub.r (Sub.r (Sub.r (Sub.r (Sub.nil _)))))))))))))))))))
    (fun _ s => sep_keep [0, 0, 0, 0, 0, 0, 0, 0, 0, 0] rfl s)
    (tl60 ((5) : (Int)) (by show (5 : Int) = wantF y c inB ((kq : Nat) : Int) (a2 % 2199023255552) a3 q hq; unfold wantF; (repeat' split) <;> first | rfl | omega | contradiction | simp_all))
  clear hK20
  refine TC.region ?_
  refine tp rfl rfl rfl (PV.fieldAddr (r := 1) rfl Tryz.underlying63 rfl sz3 rfl rfl) ?_
  refine tp rfl rfl rfl (PV.load1 (v := (.int .i64 (a1))) rfl Tryz.underlying3 rfl rfl (Rd.own 0 rfl rfl) rfl) ?_
  refine tp rfl rfl rfl (PV.geq rfl rfl rfl) ?_
  refine TL.dec (fun h47 => ?_) (fun h47 => ?_)
  refine tp rfl rfl rfl (PV.move rfl rfl) ?_
  refine tq rfl rfl rfl rfl rfl (PV.fieldAddr (r := 1) rfl Tryz.underlying63 rfl sz3 rfl rfl) ?_
  refine tq rfl rfl rfl rfl rfl (PV.load1 (v := (.int .i64 (a1))) rfl Tryz.underlying3 rfl rfl (Rd.own 0 rfl rfl) rfl) ?_
  refine tq rfl rfl rfl rfl rfl (PV.lss rfl rfl rfl) ?_
  refine TL.dec (fun h51 => ?_) (fun h51 => ?_)
  refine tp rfl rfl rfl (PV.pick rfl rfl rfl) ?_
  refine tp rfl rfl rfl (PV.assign rfl rfl) ?_
  refine TL.nil ?_
  exact TE.weak
    (Sub.r (Sub.r (Sub.r (Sub.r (Sub.r (Sub.r (Sub.r (Sub.r (Sub.r (Sub.r (Sub.r (Sub.r (Sub.r (Sub.r (Sub.r (Sub.r (Sub.nil _)))))))))))))))))
    (fun _ s => s)
    (tl20 ((true) : (Bool)) ⟨fun _ => by omega, fun _ => rfl⟩)
  refine tp rfl rfl rfl (PV.pick rfl rfl rfl) ?_
  refine tp rfl rfl rfl (PV.assign rfl rfl) ?_
  refine TL.nil ?_
  exact TE.weak
    (Sub.r (Sub.r (Sub.r (Sub.r (Sub.r (Sub.r (Sub.r (Sub.r (Sub.r (Sub.r (Sub.r (Sub.r (Sub.r (Sub.r (Sub.r (Sub.r (Sub.nil _)))))))))))))))))
    (fun _ s => s)
    (tl20 ((false) : (Bool)) ⟨fun h => (nomatch h), fun h => absurd h (by omega)⟩)
  refine tp rfl rfl rfl (PV.move rfl rfl) ?_
  refine TL.unmet (b := false) rfl rfl rfl rfl (lb rfl) ?_
  refine TL.unmet (b := false) rfl rfl rfl rfl (lb rfl) ?_
  refine TL.unmet (b := false) rfl rfl rfl rfl (lb rfl) ?_
  refine tp rfl rfl rfl (PV.pick rfl rfl rfl) ?_
  refine tp rfl rfl rfl (PV.assign rfl rfl) ?_
  refine TL.nil ?_
  exact TE.weak
    (Sub.r (Sub.r (Sub.r (Sub.r (Sub.r (Sub.r (Sub.r (Sub.r (Sub.r (Sub.r (Sub.r (Sub.r (Sub.r (Sub.r (Sub.r (Sub.r (Sub.nil _)))))))))))))))))
    (fun _ s => s)
    (tl20 ((false) : (Bool)) ⟨fun h => (nomatch h), fun h => absurd h (by omega)⟩)
  refine TL.nil ?_
  refine TE.next hK15 ?_
  clear hK15
  refine TC.seq (fun K93 hK93 => ?_)
  refine TC.no rfl ?_
  refine TC.exit ?_
  refine TE.pass ?_
  clear hK93
  refine TE.pass ?_
  refine TE.hit ?_
  refine TE.next hK13 ?_
  clear hK13
  refine TC.seq (fun K94 hK94 => ?_)
  refine TC.region ?_
  refine tp rfl rfl rfl (PV.assign rfl rfl) ?_
  refine TL.nil ?_
  refine TE.next hK94 ?_
  clear hK94
  refine TC.ret ?_
  refine TE.weak (Sub.refl _) (fun _ s => sep_keep [] rfl s) ?_
  refine TE.ret1 rfl rfl ?_
  exact ⟨rfl, rfl⟩
end Go.Proofs.YtfceaphohlbnbaaGreat
end
