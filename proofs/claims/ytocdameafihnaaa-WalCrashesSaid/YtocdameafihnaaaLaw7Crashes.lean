/-
  Whatever is lost in a crash while a record is put: walked.
-/

import Derived.Test.YtocdameafihnaaaLaw7A

namespace Go.Proofs.Ytocdameafihnaaa

open Go Leg Codec Api Dsk Wal

set_option maxRecDepth 100000

theorem walCrashes_does (x : Value) (l : List (List UInt8)) (arm c0 c1 c2 : Int) :
    Does Try.prog 11 #[x, (.int .i64 (arm)), (.agg #[(.int .i64 (c0)), (.int .i64 (c1)), (.int .i64 (c2))])] (IsBB x l) [] (Ret (fun v H => v = .bool true ∧ H = [])) := by
  refine Does.body (vs := [x, (.int .i64 (arm)), (.agg #[(.int .i64 (c0)), (.int .i64 (c1)), (.int .i64 (c2))])]) (n := 124) Try.func11 rfl rfl rfl (fun w0 F hF => ?_)
  refine TC.seq (fun K1 hK1 => ?_)
  refine TC.region ?_
  refine TL.box (Want.plain rfl) rfl rfl rfl rfl (fun b5 => ?_)
  change TL _ _ _ _ _ _ _ _ _ [blkA b5 [(.int .i64 (c0)), (.int .i64 (c1)), (.int .i64 (c2))] 45]
  refine TL.v (Want.plain rfl) rfl rfl (PV.assign rfl rfl) ?_
  refine TL.nil ?_
  refine TE.next hK1 ?_
  clear hK1
  refine TC.seq (fun K2 hK2 => ?_)
  refine TC.seq (fun K3 hK3 => ?_)
  refine TC.region ?_
  refine TL.callR (A := []) (B := [blkA b5 [(.int .i64 (c0)), (.int .i64 (c1)), (.int .i64 (c2))] 45]) (Want.plain rfl) rfl rfl rfl nm23 rfl (fit7_does ) (fun _ s => s) (fun _ _ _ => trivial) (fun vR HR hR => ?_)
  obtain ⟨rfl, rfl⟩ := hR
  change TL _ _ _ _ _ _ _ _ _ [blkA b5 [(.int .i64 (c0)), (.int .i64 (c1)), (.int .i64 (c2))] 45]
  refine TL.v (Want.plain rfl) rfl rfl (PV.not (r := false) rfl rfl rfl) ?_
  refine TL.nil ?_
  refine TE.next hK3 ?_
  clear hK3
  refine TC.no rfl ?_
  refine TC.skip ?_
  refine TE.next hK2 ?_
  clear hK2
  refine TC.seq (fun K4 hK4 => ?_)
  refine TC.seq (fun K5 hK5 => ?_)
  refine TC.region ?_
  refine TL.v (Want.plain rfl) rfl rfl (PV.move rfl rfl) ?_
  refine TL.callR (A := []) (B := [blkA b5 [(.int .i64 (c0)), (.int .i64 (c1)), (.int .i64 (c2))] 45]) (Want.plain rfl) rfl rfl rfl nm24 rfl (few_does x l) (fun _ s => s) (fun g d _ => IsL.more EB.more hF d) (fun vR HR hR => ?_)
  obtain ⟨bf, rfl, hbf, rfl⟩ := hR
  change TL _ _ _ _ _ _ _ _ _ [blkA b5 [(.int .i64 (c0)), (.int .i64 (c1)), (.int .i64 (c2))] 45]
  refine TL.decB (fun h23 => ?_) (fun h23 => ?_)
  · skip
    have hl100 := hbf h23
    refine TL.v (Want.plain rfl) rfl rfl (PV.not (r := false) rfl rfl rfl) ?_
    refine TL.nil ?_
    refine TE.next hK5 ?_
    clear hK5
    refine TC.no rfl ?_
    refine TC.skip ?_
    refine TE.next hK4 ?_
    clear hK4
    refine TC.seq (fun K6 hK6 => ?_)
    refine TC.region ?_
    refine TL.callR (A := []) (B := [blkA b5 [(.int .i64 (c0)), (.int .i64 (c1)), (.int .i64 (c2))] 45]) (Want.plain rfl) rfl rfl rfl nm13 rfl (dk_new) (fun _ s => s) (fun _ _ _ => trivial) (fun vR HR hR => ?_)
    obtain ⟨d, rfl, rfl⟩ := hR
    change TL _ _ _ _ _ _ _ _ _ [dk d (DS.new), blkA b5 [(.int .i64 (c0)), (.int .i64 (c1)), (.int .i64 (c2))] 45]
    refine TL.v (Want.plain rfl) rfl rfl (PV.assign rfl rfl) ?_
    refine TL.nil ?_
    refine TE.next hK6 ?_
    clear hK6
    refine TC.seq (fun K7 hK7 => ?_)
    refine TC.region ?_
    refine TL.v (Want.plain rfl) rfl rfl (PV.move rfl rfl) ?_
    obtain ⟨DA, heA, hLA, haA, hdA⟩ := LogD.open LogD.new rfl rfl
    refine TL.callR (A := [dk d (DS.new)]) (B := [blkA b5 [(.int .i64 (c0)), (.int .i64 (c1)), (.int .i64 (c2))] 45]) (Want.plain rfl) rfl rfl rfl nm25 rfl (openEq_does d (DS.new) DA (([] : List (List UInt8))) ((sizeS (([] : List (List UInt8))) : Nat) : Int) DS.new_ok LogD.new.inn (by decide) heA) (fun _ s => s) (fun _ _ _ => trivial) (fun vR HR hR => ?_)
    obtain ⟨lgA, vrA, rfl, rfl⟩ := hR
    change TL _ _ _ _ _ _ _ _ _ [blkA lgA [(.pointer (some ⟨d, 0, none⟩)), (.int .i64 ((((([] : List (List UInt8))).length : Nat) : Int))), (.int .i64 (((sizeS (([] : List (List UInt8))) : Nat) : Int)))] 71, recsP 28 5 vrA (([] : List (List UInt8))), dk d (DA), blkA b5 [(.int .i64 (c0)), (.int .i64 (c1)), (.int .i64 (c2))] 45]
    refine TL.recsLen 1 rfl rfl (fun hvlA hvoA => ?_)
    refine TL.v (Want.plain rfl) rfl rfl (PV.move rfl rfl) ?_
    refine TL.v (Want.plain rfl) rfl rfl (PV.extract (vs := [(.pointer (some ⟨lgA, 0, none⟩)), vrA, (.int .i64 0)]) rfl rfl rfl) ?_
    refine TL.v (Want.plain rfl) rfl rfl (PV.extract (vs := [(.pointer (some ⟨lgA, 0, none⟩)), vrA, (.int .i64 0)]) rfl rfl rfl) ?_
    refine TL.v (Want.plain rfl) rfl rfl (PV.extract (vs := [(.pointer (some ⟨lgA, 0, none⟩)), vrA, (.int .i64 0)]) rfl rfl rfl) ?_
    refine TL.v (Want.plain rfl) rfl rfl (PV.assign rfl rfl) ?_
    refine TL.v (Want.plain rfl) rfl rfl (PV.assign rfl rfl) ?_
    refine TL.v (Want.plain rfl) rfl rfl (PV.assign rfl rfl) ?_
    refine TL.nil ?_
    refine TE.next hK7 ?_
    clear hK7
    refine TC.seq (fun K8 hK8 => ?_)
    refine TC.region ?_
    refine TL.v (Want.plain rfl) rfl rfl (PV.move rfl rfl) ?_
    refine TL.v (Want.plain rfl) rfl rfl (PV.and (r := (arm % 256)) rfl rfl rfl (mask (k := 8) (by decide) arm)) ?_
    refine TL.v (Want.plain rfl) rfl rfl (PV.assign rfl rfl) ?_
    refine TL.nil ?_
    refine TE.next hK8 ?_
    clear hK8
    refine TC.seq (fun K9 hK9 => ?_)
    refine TC.region ?_
    refine TL.v (Want.plain rfl) rfl rfl (PV.move rfl rfl) ?_
    refine TL.v (Want.plain rfl) rfl rfl (PV.move rfl rfl) ?_
    refine TL.callR (A := [dk d (DA)]) (B := [blkA lgA [(.pointer (some ⟨d, 0, none⟩)), (.int .i64 ((((([] : List (List UInt8))).length : Nat) : Int))), (.int .i64 (((sizeS (([] : List (List UInt8))) : Nat) : Int)))] 71, recsP 28 5 vrA (([] : List (List UInt8))), blkA b5 [(.int .i64 (c0)), (.int .i64 (c1)), (.int .i64 (c2))] 45]) (Want.plain rfl) rfl rfl rfl nm14 rfl (dk_arm d (DA) (arm % 256)) (fun _ s => sep_selR [2] rfl s) (fun _ _ _ => trivial) (fun vR HR hR => ?_)
    obtain ⟨_, rfl⟩ := hR
    change TL _ _ _ _ _ _ _ _ _ [dk d ((DA).arm (arm % 256)), blkA lgA [(.pointer (some ⟨d, 0, none⟩)), (.int .i64 ((((([] : List (List UInt8))).length : Nat) : Int))), (.int .i64 (((sizeS (([] : List (List UInt8))) : Nat) : Int)))] 71, recsP 28 5 vrA (([] : List (List UInt8))), blkA b5 [(.int .i64 (c0)), (.int .i64 (c1)), (.int .i64 (c2))] 45]
    refine TL.nil ?_
    refine TE.next hK9 ?_
    clear hK9
    refine TC.seq (fun K10 hK10 => ?_)
    refine TC.region ?_
    refine TL.v (Want.plain rfl) rfl rfl (PV.assign rfl rfl) ?_
    refine TL.nil ?_
    refine TE.next hK10 ?_
    clear hK10
    refine TC.seq (fun K11 hK11 => ?_)
    refine TC.cut (α := (Nat) × (DS)) (fun ⟨m, D2⟩ => m ≤ l.length ∧ Pre D2 (l.take m) l[m]?) (fun ⟨m, D2⟩ => [(0, x), (5, (.pointer (some ⟨b5, 0, none⟩))), (7, (.pointer (some ⟨d, 0, none⟩))), (11, (.int .i64 (((m : Nat) : Int))))]) (fun ⟨m, D2⟩ => [blkA b5 [(.int .i64 (c0)), (.int .i64 (c1)), (.int .i64 (c2))] 45, dk d (D2)]) (fun ⟨m, D2⟩ hinv => ?_) (fun tl11 => ?_)
    · skip
      obtain ⟨hm, hP⟩ := hinv
      refine TE.next hK11 ?_
      clear hK11
      refine TC.seq (fun K12 hK12 => ?_)
      refine TC.region ?_
      refine TL.v (Want.plain rfl) rfl rfl (PV.move rfl rfl) ?_
      refine TL.v (Want.plain rfl) rfl rfl (PV.indexArr (r := 0) rfl Try.underlying45 sz3 rfl rfl (lz rfl) (lz rfl) rfl) ?_
      refine TL.v (Want.plain rfl) rfl rfl (PV.load1 (v := (.int .i64 (c0))) rfl Try.underlying3 rfl rfl (Rd.own 0 rfl rfl) rfl) ?_
      refine TL.v (Want.plain rfl) rfl rfl (PV.indexArr (r := 1) rfl Try.underlying45 sz3 rfl rfl (lz rfl) (lz rfl) rfl) ?_
      refine TL.v (Want.plain rfl) rfl rfl (PV.load1 (v := (.int .i64 (c1))) rfl Try.underlying3 rfl rfl (Rd.own 0 rfl rfl) rfl) ?_
      refine TL.v (Want.plain rfl) rfl rfl (PV.indexArr (r := 2) rfl Try.underlying45 sz3 rfl rfl (lz rfl) (lz rfl) rfl) ?_
      refine TL.v (Want.plain rfl) rfl rfl (PV.load1 (v := (.int .i64 (c2))) rfl Try.underlying3 rfl rfl (Rd.own 0 rfl rfl) rfl) ?_
      refine TL.callR (A := [dk d (D2)]) (B := [blkA b5 [(.int .i64 (c0)), (.int .i64 (c1)), (.int .i64 (c2))] 45]) (Want.plain rfl) rfl rfl rfl nm19 rfl (dk_crash d (D2) c0 c1 c2 hP.ok) (fun _ s => sep_selR [1] rfl s) (fun _ _ _ => trivial) (fun vR HR hR => ?_)
      obtain ⟨_, rfl⟩ := hR
      change TL _ _ _ _ _ _ _ _ _ [dk d ((D2).crash c0 c1 c2), blkA b5 [(.int .i64 (c0)), (.int .i64 (c1)), (.int .i64 (c2))] 45]
      refine TL.nil ?_
      refine TE.next hK12 ?_
      clear hK12
      refine TC.seq (fun K13 hK13 => ?_)
      refine TC.region ?_
      refine TL.v (Want.plain rfl) rfl rfl (PV.move rfl rfl) ?_
      obtain ⟨hcal, DB, ls, hls, heB, hLB, haB, hdB⟩ := hP.open c0 c1 c2
      refine TL.callR (A := [dk d ((D2).crash c0 c1 c2)]) (B := [blkA b5 [(.int .i64 (c0)), (.int .i64 (c1)), (.int .i64 (c2))] 45]) (Want.plain rfl) rfl rfl rfl nm25 rfl (openEq_does d ((D2).crash c0 c1 c2) DB (ls) ((sizeS (ls) : Nat) : Int) hcal.ok hcal.inn (by show ([] : Secs).length ≤ _; decide) heB) (fun _ s => s) (fun _ _ _ => trivial) (fun vR HR hR => ?_)
      obtain ⟨lgB, vrB, rfl, rfl⟩ := hR
      change TL _ _ _ _ _ _ _ _ _ [blkA lgB [(.pointer (some ⟨d, 0, none⟩)), (.int .i64 ((((ls).length : Nat) : Int))), (.int .i64 (((sizeS (ls) : Nat) : Int)))] 71, recsP 28 5 vrB (ls), dk d (DB), blkA b5 [(.int .i64 (c0)), (.int .i64 (c1)), (.int .i64 (c2))] 45]
      refine TL.recsLen 1 rfl rfl (fun hvlB hvoB => ?_)
      refine TL.v (Want.plain rfl) rfl rfl (PV.move rfl rfl) ?_
      refine TL.v (Want.plain rfl) rfl rfl (PV.extract (vs := [(.pointer (some ⟨lgB, 0, none⟩)), vrB, (.int .i64 0)]) rfl rfl rfl) ?_
      refine TL.v (Want.plain rfl) rfl rfl (PV.extract (vs := [(.pointer (some ⟨lgB, 0, none⟩)), vrB, (.int .i64 0)]) rfl rfl rfl) ?_
      refine TL.v (Want.plain rfl) rfl rfl (PV.extract (vs := [(.pointer (some ⟨lgB, 0, none⟩)), vrB, (.int .i64 0)]) rfl rfl rfl) ?_
      refine TL.v (Want.plain rfl) rfl rfl (PV.assign rfl rfl) ?_
      refine TL.v (Want.plain rfl) rfl rfl (PV.assign rfl rfl) ?_
      refine TL.v (Want.plain rfl) rfl rfl (PV.assign rfl rfl) ?_
      refine TL.nil ?_
      refine TE.next hK13 ?_
      clear hK13
      refine TC.seq (fun K14 hK14 => ?_)
      refine TC.seq (fun K15 hK15 => ?_)
      refine TC.region ?_
      have hlen : m ≤ ls.length ∧ ls.length ≤ m + 1 ∧ ls.length ≤ l.length ∧ ls = l.take ls.length := by
        rcases hls with rfl | ⟨bs, hbs, rfl⟩
        · rw [List.length_take]; exact ⟨by omega, by omega, by omega, by rw [show min m l.length = m by omega]⟩
        · obtain ⟨hml, rfl⟩ := List.getElem?_eq_some_iff.1 hbs
          rw [← List.take_succ_eq_append_getElem hml, List.length_take]; exact ⟨by omega, by omega, by omega, by rw [show min (m + 1) l.length = m + 1 by omega]⟩
      obtain ⟨hl1, hl2, hl3, hl4⟩ := hlen
      skip
      refine TL.v (Want.plain rfl) rfl rfl (PV.move rfl rfl) ?_
      refine TL.v (Want.plain rfl) rfl rfl (PV.neq rfl rfl rfl) ?_
      refine TL.v (Want.plain rfl) rfl rfl (PV.move rfl rfl) ?_
      refine TL.v (Want.met rfl rfl rfl) rfl rfl (PV.move rfl rfl) ?_
      refine TL.callR (A := [blkA lgB [(.pointer (some ⟨d, 0, none⟩)), (.int .i64 ((((ls).length : Nat) : Int))), (.int .i64 (((sizeS (ls) : Nat) : Int)))] 71]) (B := [recsP 28 5 vrB (ls), dk d (DB), blkA b5 [(.int .i64 (c0)), (.int .i64 (c1)), (.int .i64 (c2))] 45]) (Want.met rfl rfl rfl) rfl rfl rfl nm30 rfl (len_does lgB d (((ls).length : Nat) : Int) ((sizeS (ls) : Nat) : Int)) (fun _ s => s) (fun _ _ _ => trivial) (fun vR HR hR => ?_)
      obtain ⟨rfl, rfl⟩ := hR
      change TL _ _ _ _ _ _ _ _ _ [blkA lgB [(.pointer (some ⟨d, 0, none⟩)), (.int .i64 ((((ls).length : Nat) : Int))), (.int .i64 (((sizeS (ls) : Nat) : Int)))] 71, recsP 28 5 vrB (ls), dk d (DB), blkA b5 [(.int .i64 (c0)), (.int .i64 (c1)), (.int .i64 (c2))] 45]
      refine TL.v (Want.met rfl rfl rfl) rfl rfl (PV.move rfl rfl) ?_
      refine TL.v (Want.met rfl rfl rfl) rfl rfl (PV.lenV rfl Try.underlying44 rfl hvlB) ?_
      refine TL.v (Want.met rfl rfl rfl) rfl rfl (PV.neq rfl rfl rfl) ?_
      refine TL.dec (fun h74 => ?_) (fun h74 => ?_)
      · exact absurd rfl h74
      · skip
        refine TL.v (Want.plain rfl) rfl rfl (PV.pick rfl rfl rfl) ?_
        refine TL.v (Want.plain rfl) rfl rfl (PV.move rfl rfl) ?_
        refine TL.v (Want.met rfl rfl rfl) rfl rfl (PV.move rfl rfl) ?_
        refine TL.v (Want.met rfl rfl rfl) rfl rfl (PV.lenV rfl Try.underlying44 rfl hvlB) ?_
        refine TL.v (Want.met rfl rfl rfl) rfl rfl (PV.move rfl rfl) ?_
        refine TL.v (Want.met rfl rfl rfl) rfl rfl (PV.lss rfl rfl rfl) ?_
        refine TL.dec (fun h80 => ?_) (fun h80 => ?_)
        · exact absurd h80 (by omega)
        · skip
          refine TL.v (Want.plain rfl) rfl rfl (PV.pick rfl rfl rfl) ?_
          refine TL.v (Want.plain rfl) rfl rfl (PV.move rfl rfl) ?_
          refine TL.v (Want.met rfl rfl rfl) rfl rfl (PV.move rfl rfl) ?_
          refine TL.v (Want.met rfl rfl rfl) rfl rfl (PV.lenV rfl Try.underlying44 rfl hvlB) ?_
          refine TL.v (Want.met rfl rfl rfl) rfl rfl (PV.move rfl rfl) ?_
          refine TL.v (Want.met rfl rfl rfl) rfl rfl (PV.add rfl rfl rfl (wrap_i64 (by omega) (by omega))) ?_
          refine TL.v (Want.met rfl rfl rfl) rfl rfl (PV.move rfl rfl) ?_
          refine TL.v (Want.met rfl rfl rfl) rfl rfl (PV.lenV rfl Try.underlying44 rfl hF.len) ?_
          refine TL.v (Want.met rfl rfl rfl) rfl rfl (PV.minI rfl rfl rfl) ?_
          refine TL.v (Want.met rfl rfl rfl) rfl rfl (PV.gtr rfl rfl rfl) ?_
          refine TL.dec (fun h90 => ?_) (fun h90 => ?_)
          · exact absurd h90 (by omega)
          · skip
            refine TL.v (Want.plain rfl) rfl rfl (PV.pick rfl rfl rfl) ?_
            refine TL.v (Want.plain rfl) rfl rfl (PV.move rfl rfl) ?_
            refine TL.v (Want.met rfl rfl rfl) rfl rfl (PV.move rfl rfl) ?_
            refine TL.v (Want.met rfl rfl rfl) rfl rfl (PV.move rfl rfl) ?_
            refine TL.v (Want.met rfl rfl rfl) rfl rfl (PV.move rfl rfl) ?_
            refine TL.v (Want.met rfl rfl rfl) rfl rfl (PV.lenV rfl Try.underlying44 rfl hvlB) ?_
            refine TL.v (Want.met rfl rfl rfl) rfl rfl (PV.sliceHE (hi := ls.length) hF rfl Try.underlying44 sz28 rfl rfl rfl hl3) ?_
            refine TL.callR (A := []) (B := [blkA lgB [(.pointer (some ⟨d, 0, none⟩)), (.int .i64 ((((ls).length : Nat) : Int))), (.int .i64 (((sizeS (ls) : Nat) : Int)))] 71, recsP 28 5 vrB (ls), dk d (DB), blkA b5 [(.int .i64 (c0)), (.int .i64 (c1)), (.int .i64 (c2))] 45]) (Want.met rfl rfl rfl) rfl rfl rfl nm26 rfl (same_does vrB (cutLH x 0 ls.length) (ls) ((l.take ls.length))) (fun _ s => s) (fun g d s => ⟨isBB_recs 1 rfl rfl g d s, IsL.more EB.more (IsL.cut hF hl3) d⟩) (fun vR HR hR => ?_)
            obtain ⟨rfl, rfl⟩ := hR
            change TL _ _ _ _ _ _ _ _ _ [blkA lgB [(.pointer (some ⟨d, 0, none⟩)), (.int .i64 ((((ls).length : Nat) : Int))), (.int .i64 (((sizeS (ls) : Nat) : Int)))] 71, recsP 28 5 vrB (ls), dk d (DB), blkA b5 [(.int .i64 (c0)), (.int .i64 (c1)), (.int .i64 (c2))] 45]
            refine TL.dec (fun h98 => ?_) (fun h98 => ?_)
            · skip
              refine TL.v (Want.met rfl rfl rfl) rfl rfl (PV.not (r := false) rfl rfl rfl) ?_
              refine TL.v (Want.plain rfl) rfl rfl (PV.pick rfl rfl rfl) ?_
              refine TL.nil ?_
              refine TE.next hK15 ?_
              clear hK15
              refine TC.no rfl ?_
              refine TC.skip ?_
              refine TE.next hK14 ?_
              clear hK14
              refine TC.seq (fun K16 hK16 => ?_)
              refine TC.seq (fun K17 hK17 => ?_)
              refine TC.region ?_
              refine TL.v (Want.plain rfl) rfl rfl (PV.move rfl rfl) ?_
              refine TL.buildSlice (cells := #[(.int .u8 109), (.int .u8 111), (.int .u8 114), (.int .u8 101)]) (Want.plain rfl) rfl rfl rfl Try.underlying28 in5 rfl rfl rfl (by as_aux_lemma => kernel_rfl) (fun b102 => ?_)
              change TL _ _ _ _ _ _ _ _ _ [blkA b102 [(.int .u8 109), (.int .u8 111), (.int .u8 114), (.int .u8 101)] 5, blkA lgB [(.pointer (some ⟨d, 0, none⟩)), (.int .i64 ((((ls).length : Nat) : Int))), (.int .i64 (((sizeS (ls) : Nat) : Int)))] 71, recsP 28 5 vrB (ls), dk d (DB), blkA b5 [(.int .i64 (c0)), (.int .i64 (c1)), (.int .i64 (c2))] 45]
              refine TL.convLit (i := 0) (H' := [obj b102 (cellsO [(.int .u8 109), (.int .u8 111), (.int .u8 114), (.int .u8 101)] 5 (4, 5)), blkA lgB [(.pointer (some ⟨d, 0, none⟩)), (.int .i64 ((((ls).length : Nat) : Int))), (.int .i64 (((sizeS (ls) : Nat) : Int)))] 71, recsP 28 5 vrB (ls), dk d (DB), blkA b5 [(.int .i64 (c0)), (.int .i64 (c1)), (.int .i64 (c2))] 45]) (Want.plain rfl) rfl rfl rfl Try.underlying28 Try.underlying5 rfl rfl rfl rfl ?_
              refine TL.callR (A := [blkA lgB [(.pointer (some ⟨d, 0, none⟩)), (.int .i64 ((((ls).length : Nat) : Int))), (.int .i64 (((sizeS (ls) : Nat) : Int)))] 71, dk d (DB)]) (B := [obj b102 (cellsO [(.int .u8 109), (.int .u8 111), (.int .u8 114), (.int .u8 101)] 5 (4, 5)), recsP 28 5 vrB (ls), blkA b5 [(.int .i64 (c0)), (.int .i64 (c1)), (.int .i64 (c2))] 45]) (Want.plain rfl) rfl rfl rfl nm27 rfl (putLog_does lgB d (DB) (ls) (.slice (some ⟨b102, 0, none⟩) (4) (4)) ([109, 111, 114, 101]) hLB hdB) (fun _ s => sep_selR [1, 2] rfl s) (fun g d s => IsB.w (isB_lit (bs := [109, 111, 114, 101]) 0 (by simp) rfl rfl g d s)) (fun vR HR hR => ?_)
              rcases hR with ⟨hlongQ, rfl, rfl⟩ | ⟨hshQ, hfullQ, rfl, rfl⟩ | ⟨hshQ, hroomQ, DQ, hLQ, hdQ, haQ, rfl, rfl⟩ | ⟨hshQ, harQ, DQ, hHQ, rfl, rfl⟩
              · exact absurd hlongQ (by decide)
              · skip
                change TL _ _ _ _ _ _ _ _ _ [blkA lgB [(.pointer (some ⟨d, 0, none⟩)), (.int .i64 ((((ls).length : Nat) : Int))), (.int .i64 (((sizeS (ls) : Nat) : Int)))] 71, dk d (DB), obj b102 (cellsO [(.int .u8 109), (.int .u8 111), (.int .u8 114), (.int .u8 101)] 5 (4, 5)), recsP 28 5 vrB (ls), blkA b5 [(.int .i64 (c0)), (.int .i64 (c1)), (.int .i64 (c2))] 45]
                refine TL.v (Want.plain rfl) rfl rfl (PV.neq rfl rfl rfl) ?_
                refine TL.nil ?_
                refine TE.next hK17 ?_
                clear hK17
                refine TC.yes rfl ?_
                refine TC.seq (fun K18 hK18 => ?_)
                refine TC.region ?_
                refine TL.v (Want.plain rfl) rfl rfl (PV.assign rfl rfl) ?_
                refine TL.nil ?_
                refine TE.next hK18 ?_
                clear hK18
                refine TC.ret ?_
                refine TE.passRet ?_
                clear hK16
                refine TE.weak (Sub.refl _) (fun _ s => sep_keep [] rfl s) ?_
                refine TE.ret1 rfl rfl ?_
                first | exact ⟨rfl, rfl⟩ | exact ⟨congrArg Value.bool (decide_eq_true rfl), rfl⟩
              · skip
                obtain ⟨ls2, hls2⟩ : ∃ x, x = ls ++ [[109, 111, 114, 101]] := ⟨_, rfl⟩
                have hnxQ : ((ls) ++ [[109, 111, 114, 101]] : List (List UInt8)) = ls2 := hls2.symm
                rw [hnxQ] at hLQ ⊢
                change TL _ _ _ _ _ _ _ _ _ [blkA lgB [(.pointer (some ⟨d, 0, none⟩)), (.int .i64 ((((ls2).length : Nat) : Int))), (.int .i64 (((sizeS (ls2) : Nat) : Int)))] 71, dk d (DQ), obj b102 (cellsO [(.int .u8 109), (.int .u8 111), (.int .u8 114), (.int .u8 101)] 5 (4, 5)), recsP 28 5 vrB (ls), blkA b5 [(.int .i64 (c0)), (.int .i64 (c1)), (.int .i64 (c2))] 45]
                refine TL.v (Want.plain rfl) rfl rfl (PV.neq rfl rfl rfl) ?_
                refine TL.nil ?_
                refine TE.next hK17 ?_
                clear hK17
                refine TC.no rfl ?_
                refine TC.skip ?_
                refine TE.next hK16 ?_
                clear hK16
                refine TC.seq (fun K19 hK19 => ?_)
                refine TC.region ?_
                refine TL.v (Want.plain rfl) rfl rfl (PV.move rfl rfl) ?_
                obtain ⟨DE, heE, hLE, haE, hdE⟩ := LogD.open hLQ (haQ.trans haB) hdQ
                refine TL.callR (A := [dk d (DQ)]) (B := [blkA lgB [(.pointer (some ⟨d, 0, none⟩)), (.int .i64 ((((ls2).length : Nat) : Int))), (.int .i64 (((sizeS (ls2) : Nat) : Int)))] 71, obj b102 (cellsO [(.int .u8 109), (.int .u8 111), (.int .u8 114), (.int .u8 101)] 5 (4, 5)), recsP 28 5 vrB (ls), blkA b5 [(.int .i64 (c0)), (.int .i64 (c1)), (.int .i64 (c2))] 45]) (Want.plain rfl) rfl rfl rfl nm25 rfl (openEq_does d (DQ) DE (ls2) ((sizeS (ls2) : Nat) : Int) hLQ.ok hLQ.inn (by rw [hLQ.ws]; simp) heE) (fun _ s => sep_selR [1] rfl s) (fun _ _ _ => trivial) (fun vR HR hR => ?_)
                obtain ⟨lgE, vrE, rfl, rfl⟩ := hR
                change TL _ _ _ _ _ _ _ _ _ [blkA lgE [(.pointer (some ⟨d, 0, none⟩)), (.int .i64 ((((ls2).length : Nat) : Int))), (.int .i64 (((sizeS (ls2) : Nat) : Int)))] 71, recsP 28 5 vrE (ls2), dk d (DE), blkA lgB [(.pointer (some ⟨d, 0, none⟩)), (.int .i64 ((((ls2).length : Nat) : Int))), (.int .i64 (((sizeS (ls2) : Nat) : Int)))] 71, obj b102 (cellsO [(.int .u8 109), (.int .u8 111), (.int .u8 114), (.int .u8 101)] 5 (4, 5)), recsP 28 5 vrB (ls), blkA b5 [(.int .i64 (c0)), (.int .i64 (c1)), (.int .i64 (c2))] 45]
                refine TL.recsLen 1 rfl rfl (fun hvlE hvoE => ?_)
                refine TL.v (Want.plain rfl) rfl rfl (PV.move rfl rfl) ?_
                refine TL.v (Want.plain rfl) rfl rfl (PV.extract (vs := [(.pointer (some ⟨lgE, 0, none⟩)), vrE, (.int .i64 0)]) rfl rfl rfl) ?_
                refine TL.v (Want.plain rfl) rfl rfl (PV.extract (vs := [(.pointer (some ⟨lgE, 0, none⟩)), vrE, (.int .i64 0)]) rfl rfl rfl) ?_
                refine TL.v (Want.plain rfl) rfl rfl (PV.extract (vs := [(.pointer (some ⟨lgE, 0, none⟩)), vrE, (.int .i64 0)]) rfl rfl rfl) ?_
                refine TL.v (Want.plain rfl) rfl rfl (PV.assign rfl rfl) ?_
                refine TL.v (Want.plain rfl) rfl rfl (PV.assign rfl rfl) ?_
                refine TL.v (Want.plain rfl) rfl rfl (PV.assign rfl rfl) ?_
                refine TL.nil ?_
                refine TE.next hK19 ?_
                clear hK19
                refine TC.seq (fun K20 hK20 => ?_)
                refine TC.region ?_
                refine TL.v (Want.plain rfl) rfl rfl (PV.move rfl rfl) ?_
                refine TL.v (Want.plain rfl) rfl rfl (PV.eql rfl rfl rfl) ?_
                refine TL.v (Want.plain rfl) rfl rfl (PV.move rfl rfl) ?_
                refine TL.v (Want.met rfl rfl rfl) rfl rfl (PV.move rfl rfl) ?_
                refine TL.v (Want.met rfl rfl rfl) rfl rfl (PV.move rfl rfl) ?_
                refine TL.mono (fun _ s => sep_selR [5] rfl s) ?_
                refine TL.recsOpen (fun us => ?_)
                change TL _ _ _ _ _ _ _ _ _ [own vrB (ls.length) (us) 28 1, bunch us (ls) 5, blkA lgE [(.pointer (some ⟨d, 0, none⟩)), (.int .i64 ((((ls2).length : Nat) : Int))), (.int .i64 (((sizeS (ls2) : Nat) : Int)))] 71, recsP 28 5 vrE (ls2), dk d (DE), blkA lgB [(.pointer (some ⟨d, 0, none⟩)), (.int .i64 ((((ls2).length : Nat) : Int))), (.int .i64 (((sizeS (ls2) : Nat) : Int)))] 71, obj b102 (cellsO [(.int .u8 109), (.int .u8 111), (.int .u8 114), (.int .u8 101)] 5 (4, 5)), blkA b5 [(.int .i64 (c0)), (.int .i64 (c1)), (.int .i64 (c2))] 45]
                refine TL.ownNilI 28 1 (fun _ => ?_)
                refine TL.fact (p := us.length = ls.length ∧ ∀ u ∈ us, u.oneCell' = true) (fun w m => bunch_one 2 rfl rfl m) (fun hus => ?_)
                refine TL.append (k := 0) (m := ls.length) (news := us) (nn' := ls.length) (xs' := us) (Want.met rfl rfl rfl) rfl rfl rfl Try.underlying44 in28 rfl rfl rfl rfl rfl rfl (fun _ s => Src.own 1 rfl rfl s) hus.2 (by simp only [maxLen]; omega) (by omega) (by omega) rfl (fun v117 ov117 => ?_)
                change TL _ _ _ _ _ _ _ _ _ [own v117 (ls.length) (us) 28 1, own vrB (ls.length) (us) 28 1, bunch us (ls) 5, blkA lgE [(.pointer (some ⟨d, 0, none⟩)), (.int .i64 ((((ls2).length : Nat) : Int))), (.int .i64 (((sizeS (ls2) : Nat) : Int)))] 71, recsP 28 5 vrE (ls2), dk d (DE), blkA lgB [(.pointer (some ⟨d, 0, none⟩)), (.int .i64 ((((ls2).length : Nat) : Int))), (.int .i64 (((sizeS (ls2) : Nat) : Int)))] 71, obj b102 (cellsO [(.int .u8 109), (.int .u8 111), (.int .u8 114), (.int .u8 101)] 5 (4, 5)), blkA b5 [(.int .i64 (c0)), (.int .i64 (c1)), (.int .i64 (c2))] 45]
                refine TL.buildSlice (cells := #[(.int .u8 109), (.int .u8 111), (.int .u8 114), (.int .u8 101)]) (Want.met rfl rfl rfl) rfl rfl rfl Try.underlying28 in5 rfl rfl rfl (by as_aux_lemma => kernel_rfl) (fun b118 => ?_)
                change TL _ _ _ _ _ _ _ _ _ [blkA b118 [(.int .u8 109), (.int .u8 111), (.int .u8 114), (.int .u8 101)] 5, own v117 (ls.length) (us) 28 1, own vrB (ls.length) (us) 28 1, bunch us (ls) 5, blkA lgE [(.pointer (some ⟨d, 0, none⟩)), (.int .i64 ((((ls2).length : Nat) : Int))), (.int .i64 (((sizeS (ls2) : Nat) : Int)))] 71, recsP 28 5 vrE (ls2), dk d (DE), blkA lgB [(.pointer (some ⟨d, 0, none⟩)), (.int .i64 ((((ls2).length : Nat) : Int))), (.int .i64 (((sizeS (ls2) : Nat) : Int)))] 71, obj b102 (cellsO [(.int .u8 109), (.int .u8 111), (.int .u8 114), (.int .u8 101)] 5 (4, 5)), blkA b5 [(.int .i64 (c0)), (.int .i64 (c1)), (.int .i64 (c2))] 45]
                refine TL.convLit (i := 0) (H' := [obj b118 (cellsO [(.int .u8 109), (.int .u8 111), (.int .u8 114), (.int .u8 101)] 5 (4, 5)), own v117 (ls.length) (us) 28 1, own vrB (ls.length) (us) 28 1, bunch us (ls) 5, blkA lgE [(.pointer (some ⟨d, 0, none⟩)), (.int .i64 ((((ls2).length : Nat) : Int))), (.int .i64 (((sizeS (ls2) : Nat) : Int)))] 71, recsP 28 5 vrE (ls2), dk d (DE), blkA lgB [(.pointer (some ⟨d, 0, none⟩)), (.int .i64 ((((ls2).length : Nat) : Int))), (.int .i64 (((sizeS (ls2) : Nat) : Int)))] 71, obj b102 (cellsO [(.int .u8 109), (.int .u8 111), (.int .u8 114), (.int .u8 101)] 5 (4, 5)), blkA b5 [(.int .i64 (c0)), (.int .i64 (c1)), (.int .i64 (c2))] 45]) (Want.met rfl rfl rfl) rfl rfl rfl Try.underlying28 Try.underlying5 rfl rfl rfl rfl ?_
                refine TL.buildSlice (cells := #[(.slice (some ⟨b118, 0, none⟩) (4) (4))]) (Want.met rfl rfl rfl) rfl rfl rfl Try.underlying44 in28 rfl rfl rfl (by as_aux_lemma => kernel_rfl) (fun b120 => ?_)
                change TL _ _ _ _ _ _ _ _ _ [blkA b120 [(.slice (some ⟨b118, 0, none⟩) (4) (4))] 28, obj b118 (cellsO [(.int .u8 109), (.int .u8 111), (.int .u8 114), (.int .u8 101)] 5 (4, 5)), own v117 (ls.length) (us) 28 1, own vrB (ls.length) (us) 28 1, bunch us (ls) 5, blkA lgE [(.pointer (some ⟨d, 0, none⟩)), (.int .i64 ((((ls2).length : Nat) : Int))), (.int .i64 (((sizeS (ls2) : Nat) : Int)))] 71, recsP 28 5 vrE (ls2), dk d (DE), blkA lgB [(.pointer (some ⟨d, 0, none⟩)), (.int .i64 ((((ls2).length : Nat) : Int))), (.int .i64 (((sizeS (ls2) : Nat) : Int)))] 71, obj b102 (cellsO [(.int .u8 109), (.int .u8 111), (.int .u8 114), (.int .u8 101)] 5 (4, 5)), blkA b5 [(.int .i64 (c0)), (.int .i64 (c1)), (.int .i64 (c2))] 45]
                refine TL.append (k := 2) (m := 1) (news := [(Value.slice (some ⟨b118, 0, none⟩) (4) (4))]) (nn' := ls2.length) (xs' := us ++ [(Value.slice (some ⟨b118, 0, none⟩) (4) (4))]) (Want.met rfl rfl rfl) rfl rfl rfl Try.underlying44 in28 rfl rfl rfl rfl rfl rfl (fun _ _ => Src.rd rfl (Rd.own 0 rfl rfl) rfl) (List.forall_mem_cons.2 ⟨rfl, fun _ h => by cases h⟩) (by simp only [maxLen]; omega) (by omega) (by rw [hls2, List.length_append]; rfl) rfl (fun v121 ov121 => ?_)
                change TL _ _ _ _ _ _ _ _ _ [blkA b120 [(.slice (some ⟨b118, 0, none⟩) (4) (4))] 28, obj b118 (cellsO [(.int .u8 109), (.int .u8 111), (.int .u8 114), (.int .u8 101)] 5 (4, 5)), own v121 (ls2.length) (us ++ [(Value.slice (some ⟨b118, 0, none⟩) (4) (4))]) 28 1, own vrB (ls.length) (us) 28 1, bunch us (ls) 5, blkA lgE [(.pointer (some ⟨d, 0, none⟩)), (.int .i64 ((((ls2).length : Nat) : Int))), (.int .i64 (((sizeS (ls2) : Nat) : Int)))] 71, recsP 28 5 vrE (ls2), dk d (DE), blkA lgB [(.pointer (some ⟨d, 0, none⟩)), (.int .i64 ((((ls2).length : Nat) : Int))), (.int .i64 (((sizeS (ls2) : Nat) : Int)))] 71, obj b102 (cellsO [(.int .u8 109), (.int .u8 111), (.int .u8 114), (.int .u8 101)] 5 (4, 5)), blkA b5 [(.int .i64 (c0)), (.int .i64 (c1)), (.int .i64 (c2))] 45]
                refine TL.callR (A := []) (B := [blkA b120 [(.slice (some ⟨b118, 0, none⟩) (4) (4))] 28, obj b118 (cellsO [(.int .u8 109), (.int .u8 111), (.int .u8 114), (.int .u8 101)] 5 (4, 5)), own v121 (ls2.length) (us ++ [(Value.slice (some ⟨b118, 0, none⟩) (4) (4))]) 28 1, own vrB (ls.length) (us) 28 1, bunch us (ls) 5, blkA lgE [(.pointer (some ⟨d, 0, none⟩)), (.int .i64 ((((ls2).length : Nat) : Int))), (.int .i64 (((sizeS (ls2) : Nat) : Int)))] 71, recsP 28 5 vrE (ls2), dk d (DE), blkA lgB [(.pointer (some ⟨d, 0, none⟩)), (.int .i64 ((((ls2).length : Nat) : Int))), (.int .i64 (((sizeS (ls2) : Nat) : Int)))] 71, obj b102 (cellsO [(.int .u8 109), (.int .u8 111), (.int .u8 114), (.int .u8 101)] 5 (4, 5)), blkA b5 [(.int .i64 (c0)), (.int .i64 (c1)), (.int .i64 (c2))] 45]) (Want.met rfl rfl rfl) rfl rfl rfl nm26 rfl (same_does vrE v121 (ls2) (ls2)) (fun _ s => s) (fun g d s => ⟨isBB_recs 6 rfl rfl g d s, isBB_own 2 rfl rfl s (by rw [hls2]; exact (Vals.add (vals_bunch 4 rfl rfl g d s) (IsB.w (isB_lit (bs := [109, 111, 114, 101]) 1 (by decide) rfl rfl g d s))).2)⟩) (fun vR HR hR => ?_)
                obtain ⟨rfl, rfl⟩ := hR
                change TL _ _ _ _ _ _ _ _ _ [blkA b120 [(.slice (some ⟨b118, 0, none⟩) (4) (4))] 28, obj b118 (cellsO [(.int .u8 109), (.int .u8 111), (.int .u8 114), (.int .u8 101)] 5 (4, 5)), own v121 (ls2.length) (us ++ [(Value.slice (some ⟨b118, 0, none⟩) (4) (4))]) 28 1, own vrB (ls.length) (us) 28 1, bunch us (ls) 5, blkA lgE [(.pointer (some ⟨d, 0, none⟩)), (.int .i64 ((((ls2).length : Nat) : Int))), (.int .i64 (((sizeS (ls2) : Nat) : Int)))] 71, recsP 28 5 vrE (ls2), dk d (DE), blkA lgB [(.pointer (some ⟨d, 0, none⟩)), (.int .i64 ((((ls2).length : Nat) : Int))), (.int .i64 (((sizeS (ls2) : Nat) : Int)))] 71, obj b102 (cellsO [(.int .u8 109), (.int .u8 111), (.int .u8 114), (.int .u8 101)] 5 (4, 5)), blkA b5 [(.int .i64 (c0)), (.int .i64 (c1)), (.int .i64 (c2))] 45]
                refine TL.v (Want.plain rfl) rfl rfl (PV.pick rfl rfl rfl) ?_
                refine TL.v (Want.plain rfl) rfl rfl (PV.assign rfl rfl) ?_
                refine TL.nil ?_
                refine TE.next hK20 ?_
                clear hK20
                refine TC.ret ?_
                refine TE.weak (Sub.refl _) (fun _ s => sep_keep [] rfl s) ?_
                refine TE.ret1 rfl rfl ?_
                first | exact ⟨rfl, rfl⟩ | exact ⟨congrArg Value.bool (decide_eq_true rfl), rfl⟩
              · exact absurd harQ (by rw [haB]; decide)
            · exact absurd hl4 h98
    clear hK11
    refine TC.seq (fun K21 hK21 => ?_)
    refine TC.region ?_
    refine TL.v (Want.plain rfl) rfl rfl (PV.move rfl rfl) ?_
    refine TL.v (Want.plain rfl) rfl rfl (PV.lenV rfl Try.underlying44 rfl hF.len) ?_
    refine TL.v (Want.plain rfl) rfl rfl (PV.move rfl rfl) ?_
    refine TL.nil ?_
    refine TE.next hK21 ?_
    clear hK21
    refine TC.block ?_
    refine TC.loop (α := (Nat) × (DS)) (fun ⟨k, D⟩ => k ≤ l.length ∧ LogD D (l.take k) ∧ D.dn = false) (fun ⟨k, D⟩ => [(0, x), (5, (.pointer (some ⟨b5, 0, none⟩))), (7, (.pointer (some ⟨d, 0, none⟩))), (8, (.pointer (some ⟨lgA, 0, none⟩))), (11, (.int .i64 (((k : Nat) : Int)))), (37, x), (38, (.int .i64 (((l.length : Nat) : Int)))), (39, (.int .i64 (((k : Nat) : Int))))]) (fun ⟨k, D⟩ => [blkA b5 [(.int .i64 (c0)), (.int .i64 (c1)), (.int .i64 (c2))] 45, blkA lgA [(.pointer (some ⟨d, 0, none⟩)), (.int .i64 ((((l.take k).length : Nat) : Int))), (.int .i64 (((sizeS (l.take k) : Nat) : Int)))] 71, dk d (D)]) (fun ⟨k, D⟩ => l.length - k) (0, DA.arm (arm % 256))
        ⟨Nat.zero_le _, hLA.arm (by omega), hdA⟩ (Sub.r (Sub.r (Sub.r (Sub.r (Sub.cons rfl (by congr 1) (Sub.r (Sub.r (Sub.cons rfl (by congr 1) (Sub.nil _)))))))))
        (fun _ s => sep_selR [2, 1, 0] rfl (sep_keep [0, 0, 1] rfl s)) (fun ⟨k, D⟩ hinv => ?_)
    obtain ⟨hk, hL, hd⟩ := hinv
    refine TC.seq (fun K22 hK22 => ?_)
    refine TC.region ?_
    refine TL.v (Want.plain rfl) rfl rfl (PV.lss rfl rfl rfl) ?_
    refine TL.dec (fun h40 => ?_) (fun h40 => ?_)
    · skip
      obtain ⟨b_a, off_a, cap_a, cs_a, T_a, z_a, us_a, hv_a, hc_a, hb_a, hl_a, hs_a, hE_a⟩ := IsL.at hF (j := k) (by omega)
      obtain ⟨u_a, rfl, hu_a⟩ := hE_a
      refine TL.nil ?_
      refine TE.next hK22 ?_
      clear hK22
      refine TC.seq (fun K23 hK23 => ?_)
      refine TC.yes rfl ?_
      refine TC.skip ?_
      refine TE.next hK23 ?_
      clear hK23
      refine TC.seq (fun K24 hK24 => ?_)
      refine TC.block ?_
      refine TC.seq (fun K25 hK25 => ?_)
      refine TC.region ?_
      refine TL.v (Want.plain rfl) rfl rfl (PV.indexSlV (r := off_a + k) hv_a rfl Try.underlying44 sz28 rfl rfl (by omega) (by omega) (by omega)) ?_
      refine TL.v (Want.plain rfl) rfl rfl (PV.load1X (v := u_a) rfl Try.underlying28 rfl rfl (RdX.frm hb_a (fun _ h => Frm.of h)) (by have := stretch_get (j := 0) hs_a rfl; simpa using this)) ?_
      refine TL.v (Want.plain rfl) rfl rfl (PV.assign rfl rfl) ?_
      refine TL.nil ?_
      refine TE.next hK25 ?_
      clear hK25
      refine TC.seq (fun K26 hK26 => ?_)
      refine TC.seq (fun K27 hK27 => ?_)
      refine TC.region ?_
      refine TL.v (Want.plain rfl) rfl rfl (PV.move rfl rfl) ?_
      refine TL.v (Want.plain rfl) rfl rfl (PV.lenV rfl Try.underlying28 rfl hu_a.len) ?_
      refine TL.v (Want.plain rfl) rfl rfl (PV.gtr rfl rfl rfl) ?_
      refine TL.dec (fun h45 => ?_) (fun h45 => ?_)
      · skip
        refine TL.nil ?_
        refine TE.next hK27 ?_
        clear hK27
        refine TC.yes rfl ?_
        refine TC.seq (fun K28 hK28 => ?_)
        refine TC.region ?_
        refine TL.v (Want.plain rfl) rfl rfl (PV.assign rfl rfl) ?_
        refine TL.nil ?_
        refine TE.next hK28 ?_
        clear hK28
        refine TC.ret ?_
        refine TE.passRet ?_
        clear hK26
        refine TE.blockRet ?_
        refine TE.passRet ?_
        clear hK24
        refine TE.passRet ?_
        refine TE.blockRet ?_
        refine TE.passRet ?_
        refine TE.weak (Sub.refl _) (fun _ s => sep_keep [] rfl s) ?_
        refine TE.ret1 rfl rfl ?_
        first | exact ⟨rfl, rfl⟩ | exact ⟨congrArg Value.bool (decide_eq_true rfl), rfl⟩
      · skip
        refine TL.nil ?_
        refine TE.next hK27 ?_
        clear hK27
        refine TC.no rfl ?_
        refine TC.skip ?_
        refine TE.next hK26 ?_
        clear hK26
        refine TC.seq (fun K29 hK29 => ?_)
        refine TC.seq (fun K30 hK30 => ?_)
        refine TC.region ?_
        refine TL.v (Want.plain rfl) rfl rfl (PV.move rfl rfl) ?_
        refine TL.v (Want.plain rfl) rfl rfl (PV.move rfl rfl) ?_
        refine TL.callR (A := [blkA lgA [(.pointer (some ⟨d, 0, none⟩)), (.int .i64 ((((l.take k).length : Nat) : Int))), (.int .i64 (((sizeS (l.take k) : Nat) : Int)))] 71, dk d (D)]) (B := [blkA b5 [(.int .i64 (c0)), (.int .i64 (c1)), (.int .i64 (c2))] 45]) (Want.plain rfl) rfl rfl rfl nm27 rfl (putLog_does lgA d (D) (l.take k) u_a (l[k]) hL hd) (fun _ s => sep_selR [1, 1] rfl s) (fun g d _ => IsW.more hu_a d) (fun vR HR hR => ?_)
        rcases hR with ⟨hlongP, rfl, rfl⟩ | ⟨hshP, hfullP, rfl, rfl⟩ | ⟨hshP, hroomP, DP, hLP, hdP, haP, rfl, rfl⟩ | ⟨hshP, harP, DP, hHP, rfl, rfl⟩
        · exact absurd hlongP (by omega)
        · skip
          change TL _ _ _ _ _ _ _ _ _ [blkA lgA [(.pointer (some ⟨d, 0, none⟩)), (.int .i64 ((((l.take k).length : Nat) : Int))), (.int .i64 (((sizeS (l.take k) : Nat) : Int)))] 71, dk d (D), blkA b5 [(.int .i64 (c0)), (.int .i64 (c1)), (.int .i64 (c2))] 45]
          refine TL.v (Want.plain rfl) rfl rfl (PV.neq rfl rfl rfl) ?_
          refine TL.nil ?_
          refine TE.next hK30 ?_
          clear hK30
          refine TC.yes rfl ?_
          refine TC.exit ?_
          refine TE.pass ?_
          clear hK29
          refine TE.miss (by decide) ?_
          refine TE.pass ?_
          clear hK24
          refine TE.pass ?_
          refine TE.hit ?_
          exact TE.weak
            (Sub.r (Sub.r (Sub.r (Sub.r (Sub.nil _)))))
            (fun _ s => sep_keep [2, 1] rfl s)
            (tl11 ((k, D) : (Nat) × (DS)) ⟨hk, .inl hL⟩)
        · skip
          have hnxP : ((l.take k) ++ [l[k]] : List (List UInt8)) = l.take (k + 1) := (List.take_succ_eq_append_getElem (by omega)).symm
          rw [hnxP] at hLP ⊢
          change TL _ _ _ _ _ _ _ _ _ [blkA lgA [(.pointer (some ⟨d, 0, none⟩)), (.int .i64 ((((l.take (k + 1)).length : Nat) : Int))), (.int .i64 (((sizeS (l.take (k + 1)) : Nat) : Int)))] 71, dk d (DP), blkA b5 [(.int .i64 (c0)), (.int .i64 (c1)), (.int .i64 (c2))] 45]
          refine TL.v (Want.plain rfl) rfl rfl (PV.neq rfl rfl rfl) ?_
          refine TL.nil ?_
          refine TE.next hK30 ?_
          clear hK30
          refine TC.no rfl ?_
          refine TC.skip ?_
          refine TE.next hK29 ?_
          clear hK29
          refine TC.region ?_
          refine TL.v (Want.plain rfl) rfl rfl (PV.move rfl rfl) ?_
          refine TL.v (Want.plain rfl) rfl rfl (PV.add rfl rfl rfl (wrap_i64 (by omega) (by omega))) ?_
          refine TL.v (Want.plain rfl) rfl rfl (PV.assign rfl rfl) ?_
          refine TL.nil ?_
          refine TE.blockEnd ?_
          refine TE.next hK24 ?_
          clear hK24
          refine TC.region ?_
          refine TL.v (Want.plain rfl) rfl rfl (PV.add rfl rfl rfl (wrap_i64 (by omega) (by omega))) ?_
          refine TL.v (Want.plain rfl) rfl rfl (PV.move rfl rfl) ?_
          refine TL.nil ?_
          exact TE.round ((k + 1, DP) : (Nat) × (DS)) ⟨by omega, hLP, hdP⟩ (by show l.length - (k + 1) < l.length - k; omega)
            (Sub.r (Sub.r (Sub.r (Sub.r (Sub.cons rfl (by simp) (Sub.r (Sub.r (Sub.cons rfl (by simp) (Sub.nil _)))))))))
            (fun _ s => sep_keep [2, 0, 0] rfl s)
        · skip
          change TL _ _ _ _ _ _ _ _ _ [blkA lgA [(.pointer (some ⟨d, 0, none⟩)), (.int .i64 ((((l.take k).length : Nat) : Int))), (.int .i64 (((sizeS (l.take k) : Nat) : Int)))] 71, dk d (DP), blkA b5 [(.int .i64 (c0)), (.int .i64 (c1)), (.int .i64 (c2))] 45]
          refine TL.v (Want.plain rfl) rfl rfl (PV.neq rfl rfl rfl) ?_
          refine TL.nil ?_
          refine TE.next hK30 ?_
          clear hK30
          refine TC.yes rfl ?_
          refine TC.exit ?_
          refine TE.pass ?_
          clear hK29
          refine TE.miss (by decide) ?_
          refine TE.pass ?_
          clear hK24
          refine TE.pass ?_
          refine TE.hit ?_
          exact TE.weak
            (Sub.r (Sub.r (Sub.r (Sub.r (Sub.nil _)))))
            (fun _ s => sep_keep [2, 1] rfl s)
            (tl11 ((k, DP) : (Nat) × (DS)) ⟨hk, .inr ⟨_, List.getElem?_eq_getElem (by omega), hHP⟩⟩)
    · skip
      refine TL.nil ?_
      refine TE.next hK22 ?_
      clear hK22
      refine TC.seq (fun K31 hK31 => ?_)
      refine TC.no rfl ?_
      refine TC.exit ?_
      refine TE.pass ?_
      clear hK31
      refine TE.pass ?_
      refine TE.hit ?_
      exact TE.weak
        (Sub.r (Sub.r (Sub.r (Sub.r (Sub.nil _)))))
        (fun _ s => sep_keep [0, 1] rfl s)
        (tl11 ((k, D) : (Nat) × (DS)) ⟨hk, .inl hL⟩)
  · skip
    refine TL.v (Want.plain rfl) rfl rfl (PV.not (r := true) rfl rfl rfl) ?_
    refine TL.nil ?_
    refine TE.next hK5 ?_
    clear hK5
    refine TC.yes rfl ?_
    refine TC.seq (fun K32 hK32 => ?_)
    refine TC.region ?_
    refine TL.v (Want.plain rfl) rfl rfl (PV.assign rfl rfl) ?_
    refine TL.nil ?_
    refine TE.next hK32 ?_
    clear hK32
    refine TC.ret ?_
    refine TE.passRet ?_
    clear hK4
    refine TE.weak (Sub.refl _) (fun _ s => sep_keep [] rfl s) ?_
    refine TE.ret1 rfl rfl ?_
    first | exact ⟨rfl, rfl⟩ | exact ⟨congrArg Value.bool (decide_eq_true rfl), rfl⟩


theorem walCrashes_list (x : Value) (l : List (List UInt8)) (arm : Int) (c : List Int) (hc : c.length = 3) : Does Try.prog 11 #[x, .int .i64 arm, agI c] (IsBB x l) [] (Ret (fun v H => v = .bool true ∧ H = [])) := by
  match c, hc with
  | [a, b, c], _ => exact walCrashes_does x l arm a b c

end Go.Proofs.Ytocdameafihnaaa
