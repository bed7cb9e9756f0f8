/-
  Records come back in their order, whatever their lengths: walked.
-/

import Derived.Test.YtocdameafihnaaaLaw7A

namespace Go.Proofs.Ytocdameafihnaaa

open Go Leg Codec Api Dsk Wal

set_option maxRecDepth 100000

theorem walPuts_does (x : Value) (l : List (List UInt8)) :
    Does Try.prog 9 #[x] (IsBB x l) [] (Ret (fun v H => v = .bool true ∧ H = [])) := by
  refine Does.body (vs := [x]) (n := 67) Try.func9 rfl rfl rfl (fun w0 F hF => ?_)
  refine TC.seq (fun K1 hK1 => ?_)
  refine TC.region ?_
  refine TL.v (Want.plain rfl) rfl rfl (PV.assign rfl rfl) ?_
  refine TL.nil ?_
  refine TE.next hK1 ?_
  clear hK1
  refine TC.seq (fun K2 hK2 => ?_)
  refine TC.seq (fun K3 hK3 => ?_)
  refine TC.region ?_
  refine TL.callR (A := []) (B := []) (Want.plain rfl) rfl rfl rfl nm23 rfl (fit7_does ) (fun _ s => s) (fun _ _ _ => trivial) (fun vR HR hR => ?_)
  obtain ⟨rfl, rfl⟩ := hR
  change TL _ _ _ _ _ _ _ _ _ []
  refine TL.v (Want.plain rfl) rfl rfl (PV.not (r := false) rfl rfl rfl) ?_
  refine TL.nil ?_
  refine TE.next hK3 ?_
  clear hK3
  refine TC.no rfl ?_
  refine TC.skip ?_
  refine TE.next hK2 ?_
  clear hK2
  refine TC.seq (fun K4 hK4 => ?_)
  refine TC.seq (fun K5 hK5 => ?_)
  refine TC.region ?_
  refine TL.v (Want.plain rfl) rfl rfl (PV.move rfl rfl) ?_
  refine TL.callR (A := []) (B := []) (Want.plain rfl) rfl rfl rfl nm24 rfl (few_does x l) (fun _ s => s) (fun g d _ => IsL.more EB.more hF d) (fun vR HR hR => ?_)
  obtain ⟨bf, rfl, hbf, rfl⟩ := hR
  change TL _ _ _ _ _ _ _ _ _ []
  refine TL.decB (fun h15 => ?_) (fun h15 => ?_)
  · skip
    refine TL.v (Want.plain rfl) rfl rfl (PV.not (r := false) rfl rfl rfl) ?_
    refine TL.nil ?_
    refine TE.next hK5 ?_
    clear hK5
    refine TC.no rfl ?_
    refine TC.skip ?_
    refine TE.next hK4 ?_
    clear hK4
    refine TC.seq (fun K6 hK6 => ?_)
    refine TC.region ?_
    refine TL.callR (A := []) (B := []) (Want.plain rfl) rfl rfl rfl nm13 rfl (dk_new) (fun _ s => s) (fun _ _ _ => trivial) (fun vR HR hR => ?_)
    obtain ⟨d, rfl, rfl⟩ := hR
    change TL _ _ _ _ _ _ _ _ _ [dk d (DS.new)]
    refine TL.v (Want.plain rfl) rfl rfl (PV.assign rfl rfl) ?_
    refine TL.nil ?_
    refine TE.next hK6 ?_
    clear hK6
    refine TC.seq (fun K7 hK7 => ?_)
    refine TC.region ?_
    refine TL.v (Want.plain rfl) rfl rfl (PV.move rfl rfl) ?_
    obtain ⟨DA, heA, hLA, haA, hdA⟩ := LogD.open LogD.new rfl rfl
    refine TL.callR (A := [dk d (DS.new)]) (B := []) (Want.plain rfl) rfl rfl rfl nm25 rfl (openEq_does d (DS.new) DA (([] : List (List UInt8))) ((sizeS (([] : List (List UInt8))) : Nat) : Int) DS.new_ok LogD.new.inn (by decide) heA) (fun _ s => s) (fun _ _ _ => trivial) (fun vR HR hR => ?_)
    obtain ⟨lgA, vrA, rfl, rfl⟩ := hR
    change TL _ _ _ _ _ _ _ _ _ [blkA lgA [(.pointer (some ⟨d, 0, none⟩)), (.int .i64 ((((([] : List (List UInt8))).length : Nat) : Int))), (.int .i64 (((sizeS (([] : List (List UInt8))) : Nat) : Int)))] 71, recsP 28 5 vrA (([] : List (List UInt8))), dk d (DA)]
    refine TL.recsLen 1 rfl rfl (fun hvlA hvoA => ?_)
    refine TL.v (Want.plain rfl) rfl rfl (PV.move rfl rfl) ?_
    refine TL.v (Want.plain rfl) rfl rfl (PV.extract (vs := [(.pointer (some ⟨lgA, 0, none⟩)), vrA, (.int .i64 0)]) rfl rfl rfl) ?_
    refine TL.v (Want.plain rfl) rfl rfl (PV.extract (vs := [(.pointer (some ⟨lgA, 0, none⟩)), vrA, (.int .i64 0)]) rfl rfl rfl) ?_
    refine TL.v (Want.plain rfl) rfl rfl (PV.extract (vs := [(.pointer (some ⟨lgA, 0, none⟩)), vrA, (.int .i64 0)]) rfl rfl rfl) ?_
    refine TL.v (Want.plain rfl) rfl rfl (PV.assign rfl rfl) ?_
    refine TL.v (Want.plain rfl) rfl rfl (PV.assign rfl rfl) ?_
    refine TL.v (Want.plain rfl) rfl rfl (PV.assign rfl rfl) ?_
    refine TL.nil ?_
    refine TE.next hK7 ?_
    clear hK7
    refine TC.seq (fun K8 hK8 => ?_)
    refine TC.seq (fun K9 hK9 => ?_)
    refine TC.region ?_
    refine TL.v (Want.plain rfl) rfl rfl (PV.move rfl rfl) ?_
    refine TL.v (Want.plain rfl) rfl rfl (PV.lenV rfl Try.underlying44 rfl hF.len) ?_
    refine TL.v (Want.plain rfl) rfl rfl (PV.move rfl rfl) ?_
    refine TL.nil ?_
    refine TE.next hK9 ?_
    clear hK9
    refine TC.block ?_
    refine TC.loop (α := (Nat) × (DS)) (fun ⟨k, D⟩ => k ≤ l.length ∧ LogD D (l.take k) ∧ D.dn = false ∧ D.ar = false) (fun ⟨k, D⟩ => [(0, x), (3, (.pointer (some ⟨d, 0, none⟩))), (4, (.pointer (some ⟨lgA, 0, none⟩))), (24, x), (25, (.int .i64 (((l.length : Nat) : Int)))), (26, (.int .i64 (((k : Nat) : Int))))]) (fun ⟨k, D⟩ => [blkA lgA [(.pointer (some ⟨d, 0, none⟩)), (.int .i64 ((((l.take k).length : Nat) : Int))), (.int .i64 (((sizeS (l.take k) : Nat) : Int)))] 71, dk d (D)]) (fun ⟨k, D⟩ => l.length - k) (0, DA)
        ⟨Nat.zero_le _, hLA, hdA, haA⟩ (Sub.r (Sub.r (Sub.r (Sub.r (Sub.r (Sub.cons rfl (by congr 1) (Sub.nil _)))))))
        (fun _ s => sep_keep [0, 1] rfl s) (fun ⟨k, D⟩ hinv => ?_)
    obtain ⟨hk, hL, hd, ha⟩ := hinv
    refine TC.seq (fun K10 hK10 => ?_)
    refine TC.region ?_
    refine TL.v (Want.plain rfl) rfl rfl (PV.lss rfl rfl rfl) ?_
    refine TL.dec (fun h27 => ?_) (fun h27 => ?_)
    · skip
      obtain ⟨b_a, off_a, cap_a, cs_a, T_a, z_a, us_a, hv_a, hc_a, hb_a, hl_a, hs_a, hE_a⟩ := IsL.at hF (j := k) (by omega)
      obtain ⟨u_a, rfl, hu_a⟩ := hE_a
      refine TL.nil ?_
      refine TE.next hK10 ?_
      clear hK10
      refine TC.seq (fun K11 hK11 => ?_)
      refine TC.yes rfl ?_
      refine TC.skip ?_
      refine TE.next hK11 ?_
      clear hK11
      refine TC.seq (fun K12 hK12 => ?_)
      refine TC.block ?_
      refine TC.seq (fun K13 hK13 => ?_)
      refine TC.region ?_
      refine TL.v (Want.plain rfl) rfl rfl (PV.indexSlV (r := off_a + k) hv_a rfl Try.underlying44 sz28 rfl rfl (by omega) (by omega) (by omega)) ?_
      refine TL.v (Want.plain rfl) rfl rfl (PV.load1X (v := u_a) rfl Try.underlying28 rfl rfl (RdX.frm hb_a (fun _ h => Frm.of h)) (by have := stretch_get (j := 0) hs_a rfl; simpa using this)) ?_
      refine TL.v (Want.plain rfl) rfl rfl (PV.assign rfl rfl) ?_
      refine TL.nil ?_
      refine TE.next hK13 ?_
      clear hK13
      refine TC.seq (fun K14 hK14 => ?_)
      refine TC.region ?_
      refine TL.v (Want.plain rfl) rfl rfl (PV.move rfl rfl) ?_
      refine TL.v (Want.plain rfl) rfl rfl (PV.lenV rfl Try.underlying28 rfl hu_a.len) ?_
      refine TL.v (Want.plain rfl) rfl rfl (PV.gtr rfl rfl rfl) ?_
      refine TL.dec (fun h32 => ?_) (fun h32 => ?_)
      · skip
        refine TL.v (Want.plain rfl) rfl rfl (PV.move rfl rfl) ?_
        refine TL.unmet (b := true) rfl rfl rfl rfl (lb rfl) ?_
        refine TL.unmet (b := true) rfl rfl rfl rfl (lb rfl) ?_
        refine TL.unmet (b := true) rfl rfl rfl rfl (lb rfl) ?_
        refine TL.unmet (b := true) rfl rfl rfl rfl (lb rfl) ?_
        refine TL.v (Want.plain rfl) rfl rfl (PV.pick rfl rfl rfl) ?_
        refine TL.nil ?_
        refine TE.next hK14 ?_
        clear hK14
        refine TC.yes rfl ?_
        refine TC.seq (fun K15 hK15 => ?_)
        refine TC.region ?_
        refine TL.v (Want.plain rfl) rfl rfl (PV.assign rfl rfl) ?_
        refine TL.nil ?_
        refine TE.next hK15 ?_
        clear hK15
        refine TC.ret ?_
        refine TE.blockRet ?_
        refine TE.passRet ?_
        clear hK12
        refine TE.passRet ?_
        refine TE.blockRet ?_
        refine TE.passRet ?_
        clear hK8
        refine TE.weak (Sub.refl _) (fun _ s => sep_keep [] rfl s) ?_
        refine TE.ret1 rfl rfl ?_
        first | exact ⟨rfl, rfl⟩ | exact ⟨congrArg Value.bool (decide_eq_true rfl), rfl⟩
      · skip
        refine TL.v (Want.plain rfl) rfl rfl (PV.move rfl rfl) ?_
        refine TL.v (Want.met rfl rfl rfl) rfl rfl (PV.move rfl rfl) ?_
        refine TL.v (Want.met rfl rfl rfl) rfl rfl (PV.move rfl rfl) ?_
        refine TL.callR (A := [blkA lgA [(.pointer (some ⟨d, 0, none⟩)), (.int .i64 ((((l.take k).length : Nat) : Int))), (.int .i64 (((sizeS (l.take k) : Nat) : Int)))] 71, dk d (D)]) (B := []) (Want.met rfl rfl rfl) rfl rfl rfl nm27 rfl (putLog_does lgA d (D) (l.take k) u_a (l[k]) hL hd) (fun _ s => s) (fun g d _ => IsW.more hu_a d) (fun vR HR hR => ?_)
        rcases hR with ⟨hlongP, rfl, rfl⟩ | ⟨hshP, hfullP, rfl, rfl⟩ | ⟨hshP, hroomP, DP, hLP, hdP, haP, rfl, rfl⟩ | ⟨hshP, harP, DP, hHP, rfl, rfl⟩
        · exact absurd hlongP (by omega)
        · skip
          change TL _ _ _ _ _ _ _ _ _ [blkA lgA [(.pointer (some ⟨d, 0, none⟩)), (.int .i64 ((((l.take k).length : Nat) : Int))), (.int .i64 (((sizeS (l.take k) : Nat) : Int)))] 71, dk d (D)]
          refine TL.v (Want.met rfl rfl rfl) rfl rfl (PV.neq rfl rfl rfl) ?_
          refine TL.v (Want.plain rfl) rfl rfl (PV.pick rfl rfl rfl) ?_
          refine TL.nil ?_
          refine TE.next hK14 ?_
          clear hK14
          refine TC.yes rfl ?_
          refine TC.seq (fun K16 hK16 => ?_)
          refine TC.region ?_
          refine TL.v (Want.plain rfl) rfl rfl (PV.assign rfl rfl) ?_
          refine TL.nil ?_
          refine TE.next hK16 ?_
          clear hK16
          refine TC.ret ?_
          refine TE.blockRet ?_
          refine TE.passRet ?_
          clear hK12
          refine TE.passRet ?_
          refine TE.blockRet ?_
          refine TE.passRet ?_
          clear hK8
          refine TE.weak (Sub.refl _) (fun _ s => sep_keep [] rfl s) ?_
          refine TE.ret1 rfl rfl ?_
          first | exact ⟨rfl, rfl⟩ | exact ⟨congrArg Value.bool (decide_eq_true rfl), rfl⟩
        · skip
          have hnxP : ((l.take k) ++ [l[k]] : List (List UInt8)) = l.take (k + 1) := (List.take_succ_eq_append_getElem (by omega)).symm
          rw [hnxP] at hLP ⊢
          change TL _ _ _ _ _ _ _ _ _ [blkA lgA [(.pointer (some ⟨d, 0, none⟩)), (.int .i64 ((((l.take (k + 1)).length : Nat) : Int))), (.int .i64 (((sizeS (l.take (k + 1)) : Nat) : Int)))] 71, dk d (DP)]
          refine TL.v (Want.met rfl rfl rfl) rfl rfl (PV.neq rfl rfl rfl) ?_
          refine TL.v (Want.plain rfl) rfl rfl (PV.pick rfl rfl rfl) ?_
          refine TL.nil ?_
          refine TE.next hK14 ?_
          clear hK14
          refine TC.no rfl ?_
          refine TC.skip ?_
          refine TE.blockEnd ?_
          refine TE.next hK12 ?_
          clear hK12
          refine TC.region ?_
          refine TL.v (Want.plain rfl) rfl rfl (PV.add rfl rfl rfl (wrap_i64 (by omega) (by omega))) ?_
          refine TL.v (Want.plain rfl) rfl rfl (PV.move rfl rfl) ?_
          refine TL.nil ?_
          exact TE.round ((k + 1, DP) : (Nat) × (DS)) ⟨by omega, hLP, hdP, haP.trans ha⟩ (by show l.length - (k + 1) < l.length - k; omega)
            (Sub.r (Sub.r (Sub.r (Sub.r (Sub.r (Sub.cons rfl (by simp) (Sub.nil _)))))))
            (fun _ s => s)
        · exact absurd harP (by rw [ha]; decide)
    · skip
      have hro := hL.room
      refine TL.nil ?_
      refine TE.next hK10 ?_
      clear hK10
      refine TC.seq (fun K17 hK17 => ?_)
      refine TC.no rfl ?_
      refine TC.exit ?_
      refine TE.pass ?_
      clear hK17
      refine TE.pass ?_
      refine TE.hit ?_
      refine TE.next hK8 ?_
      clear hK8
      refine TC.seq (fun K18 hK18 => ?_)
      refine TC.region ?_
      refine TL.v (Want.plain rfl) rfl rfl (PV.move rfl rfl) ?_
      obtain ⟨DB, heB, hLB, haB, hdB⟩ := LogD.open hL ha hd
      refine TL.callR (A := [dk d (D)]) (B := [blkA lgA [(.pointer (some ⟨d, 0, none⟩)), (.int .i64 ((((l.take k).length : Nat) : Int))), (.int .i64 (((sizeS (l.take k) : Nat) : Int)))] 71]) (Want.plain rfl) rfl rfl rfl nm25 rfl (openEq_does d (D) DB (l.take k) ((sizeS (l.take k) : Nat) : Int) hL.ok hL.inn (by rw [hL.ws]; simp) heB) (fun _ s => sep_selR [1] rfl s) (fun _ _ _ => trivial) (fun vR HR hR => ?_)
      obtain ⟨lgB, vrB, rfl, rfl⟩ := hR
      change TL _ _ _ _ _ _ _ _ _ [blkA lgB [(.pointer (some ⟨d, 0, none⟩)), (.int .i64 ((((l.take k).length : Nat) : Int))), (.int .i64 (((sizeS (l.take k) : Nat) : Int)))] 71, recsP 28 5 vrB (l.take k), dk d (DB), blkA lgA [(.pointer (some ⟨d, 0, none⟩)), (.int .i64 ((((l.take k).length : Nat) : Int))), (.int .i64 (((sizeS (l.take k) : Nat) : Int)))] 71]
      refine TL.recsLen 1 rfl rfl (fun hvlB hvoB => ?_)
      refine TL.v (Want.plain rfl) rfl rfl (PV.move rfl rfl) ?_
      refine TL.v (Want.plain rfl) rfl rfl (PV.extract (vs := [(.pointer (some ⟨lgB, 0, none⟩)), vrB, (.int .i64 0)]) rfl rfl rfl) ?_
      refine TL.v (Want.plain rfl) rfl rfl (PV.extract (vs := [(.pointer (some ⟨lgB, 0, none⟩)), vrB, (.int .i64 0)]) rfl rfl rfl) ?_
      refine TL.v (Want.plain rfl) rfl rfl (PV.extract (vs := [(.pointer (some ⟨lgB, 0, none⟩)), vrB, (.int .i64 0)]) rfl rfl rfl) ?_
      refine TL.v (Want.plain rfl) rfl rfl (PV.assign rfl rfl) ?_
      refine TL.v (Want.plain rfl) rfl rfl (PV.assign rfl rfl) ?_
      refine TL.v (Want.plain rfl) rfl rfl (PV.assign rfl rfl) ?_
      refine TL.nil ?_
      refine TE.next hK18 ?_
      clear hK18
      refine TC.seq (fun K19 hK19 => ?_)
      refine TC.region ?_
      refine TL.v (Want.plain rfl) rfl rfl (PV.move rfl rfl) ?_
      refine TL.v (Want.plain rfl) rfl rfl (PV.eql rfl rfl rfl) ?_
      refine TL.v (Want.plain rfl) rfl rfl (PV.move rfl rfl) ?_
      refine TL.v (Want.met rfl rfl rfl) rfl rfl (PV.move rfl rfl) ?_
      refine TL.v (Want.met rfl rfl rfl) rfl rfl (PV.move rfl rfl) ?_
      refine TL.callR (A := []) (B := [blkA lgB [(.pointer (some ⟨d, 0, none⟩)), (.int .i64 ((((l.take k).length : Nat) : Int))), (.int .i64 (((sizeS (l.take k) : Nat) : Int)))] 71, recsP 28 5 vrB (l.take k), dk d (DB), blkA lgA [(.pointer (some ⟨d, 0, none⟩)), (.int .i64 ((((l.take k).length : Nat) : Int))), (.int .i64 (((sizeS (l.take k) : Nat) : Int)))] 71]) (Want.met rfl rfl rfl) rfl rfl rfl nm26 rfl (same_does vrB x (l.take k) (l)) (fun _ s => s) (fun g d s => ⟨isBB_recs 1 rfl rfl g d s, IsL.more EB.more hF d⟩) (fun vR HR hR => ?_)
      obtain ⟨rfl, rfl⟩ := hR
      change TL _ _ _ _ _ _ _ _ _ [blkA lgB [(.pointer (some ⟨d, 0, none⟩)), (.int .i64 ((((l.take k).length : Nat) : Int))), (.int .i64 (((sizeS (l.take k) : Nat) : Int)))] 71, recsP 28 5 vrB (l.take k), dk d (DB), blkA lgA [(.pointer (some ⟨d, 0, none⟩)), (.int .i64 ((((l.take k).length : Nat) : Int))), (.int .i64 (((sizeS (l.take k) : Nat) : Int)))] 71]
      refine TL.dec (fun h51 => ?_) (fun h51 => ?_)
      · skip
        refine TL.v (Want.plain rfl) rfl rfl (PV.pick rfl rfl rfl) ?_
        refine TL.v (Want.plain rfl) rfl rfl (PV.move rfl rfl) ?_
        refine TL.v (Want.met rfl rfl rfl) rfl rfl (PV.move rfl rfl) ?_
        refine TL.callR (A := [blkA lgB [(.pointer (some ⟨d, 0, none⟩)), (.int .i64 ((((l.take k).length : Nat) : Int))), (.int .i64 (((sizeS (l.take k) : Nat) : Int)))] 71]) (B := [recsP 28 5 vrB (l.take k), dk d (DB), blkA lgA [(.pointer (some ⟨d, 0, none⟩)), (.int .i64 ((((l.take k).length : Nat) : Int))), (.int .i64 (((sizeS (l.take k) : Nat) : Int)))] 71]) (Want.met rfl rfl rfl) rfl rfl rfl nm30 rfl (len_does lgB d (((l.take k).length : Nat) : Int) ((sizeS (l.take k) : Nat) : Int)) (fun _ s => s) (fun _ _ _ => trivial) (fun vR HR hR => ?_)
        obtain ⟨rfl, rfl⟩ := hR
        change TL _ _ _ _ _ _ _ _ _ [blkA lgB [(.pointer (some ⟨d, 0, none⟩)), (.int .i64 ((((l.take k).length : Nat) : Int))), (.int .i64 (((sizeS (l.take k) : Nat) : Int)))] 71, recsP 28 5 vrB (l.take k), dk d (DB), blkA lgA [(.pointer (some ⟨d, 0, none⟩)), (.int .i64 ((((l.take k).length : Nat) : Int))), (.int .i64 (((sizeS (l.take k) : Nat) : Int)))] 71]
        refine TL.v (Want.met rfl rfl rfl) rfl rfl (PV.move rfl rfl) ?_
        refine TL.v (Want.met rfl rfl rfl) rfl rfl (PV.lenV rfl Try.underlying44 rfl hF.len) ?_
        refine TL.v (Want.met rfl rfl rfl) rfl rfl (PV.eql rfl rfl rfl) ?_
        refine TL.dec (fun h58 => ?_) (fun h58 => ?_)
        · skip
          refine TL.v (Want.plain rfl) rfl rfl (PV.pick rfl rfl rfl) ?_
          refine TL.v (Want.plain rfl) rfl rfl (PV.move rfl rfl) ?_
          refine TL.v (Want.met rfl rfl rfl) rfl rfl (PV.move rfl rfl) ?_
          refine TL.callR (A := [blkA lgB [(.pointer (some ⟨d, 0, none⟩)), (.int .i64 ((((l.take k).length : Nat) : Int))), (.int .i64 (((sizeS (l.take k) : Nat) : Int)))] 71]) (B := [recsP 28 5 vrB (l.take k), dk d (DB), blkA lgA [(.pointer (some ⟨d, 0, none⟩)), (.int .i64 ((((l.take k).length : Nat) : Int))), (.int .i64 (((sizeS (l.take k) : Nat) : Int)))] 71]) (Want.met rfl rfl rfl) rfl rfl rfl nm29 rfl (room_does lgB d (((l.take k).length : Nat) : Int) ((sizeS (l.take k) : Nat) : Int) (by omega)) (fun _ s => s) (fun _ _ _ => trivial) (fun vR HR hR => ?_)
          obtain ⟨rfl, rfl⟩ := hR
          change TL _ _ _ _ _ _ _ _ _ [blkA lgB [(.pointer (some ⟨d, 0, none⟩)), (.int .i64 ((((l.take k).length : Nat) : Int))), (.int .i64 (((sizeS (l.take k) : Nat) : Int)))] 71, recsP 28 5 vrB (l.take k), dk d (DB), blkA lgA [(.pointer (some ⟨d, 0, none⟩)), (.int .i64 ((((l.take k).length : Nat) : Int))), (.int .i64 (((sizeS (l.take k) : Nat) : Int)))] 71]
          refine TL.v (Want.met rfl rfl rfl) rfl rfl (PV.move rfl rfl) ?_
          refine TL.callR (A := [blkA lgA [(.pointer (some ⟨d, 0, none⟩)), (.int .i64 ((((l.take k).length : Nat) : Int))), (.int .i64 (((sizeS (l.take k) : Nat) : Int)))] 71]) (B := [blkA lgB [(.pointer (some ⟨d, 0, none⟩)), (.int .i64 ((((l.take k).length : Nat) : Int))), (.int .i64 (((sizeS (l.take k) : Nat) : Int)))] 71, recsP 28 5 vrB (l.take k), dk d (DB)]) (Want.met rfl rfl rfl) rfl rfl rfl nm29 rfl (room_does lgA d (((l.take k).length : Nat) : Int) ((sizeS (l.take k) : Nat) : Int) (by omega)) (fun _ s => sep_selR [3] rfl s) (fun _ _ _ => trivial) (fun vR HR hR => ?_)
          obtain ⟨rfl, rfl⟩ := hR
          change TL _ _ _ _ _ _ _ _ _ [blkA lgA [(.pointer (some ⟨d, 0, none⟩)), (.int .i64 ((((l.take k).length : Nat) : Int))), (.int .i64 (((sizeS (l.take k) : Nat) : Int)))] 71, blkA lgB [(.pointer (some ⟨d, 0, none⟩)), (.int .i64 ((((l.take k).length : Nat) : Int))), (.int .i64 (((sizeS (l.take k) : Nat) : Int)))] 71, recsP 28 5 vrB (l.take k), dk d (DB)]
          refine TL.v (Want.met rfl rfl rfl) rfl rfl (PV.eql rfl rfl rfl) ?_
          refine TL.v (Want.plain rfl) rfl rfl (PV.pick rfl rfl rfl) ?_
          refine TL.v (Want.plain rfl) rfl rfl (PV.assign rfl rfl) ?_
          refine TL.nil ?_
          refine TE.next hK19 ?_
          clear hK19
          refine TC.ret ?_
          refine TE.weak (Sub.refl _) (fun _ s => sep_keep [] rfl s) ?_
          refine TE.ret1 rfl rfl ?_
          first | exact ⟨rfl, rfl⟩ | exact ⟨congrArg Value.bool (decide_eq_true rfl), rfl⟩
        · exact absurd h58 (by rw [List.length_take]; omega)
      · exact absurd (List.take_of_length_le (by omega)) h51
  · skip
    refine TL.v (Want.plain rfl) rfl rfl (PV.not (r := true) rfl rfl rfl) ?_
    refine TL.nil ?_
    refine TE.next hK5 ?_
    clear hK5
    refine TC.yes rfl ?_
    refine TC.seq (fun K20 hK20 => ?_)
    refine TC.region ?_
    refine TL.v (Want.plain rfl) rfl rfl (PV.assign rfl rfl) ?_
    refine TL.nil ?_
    refine TE.next hK20 ?_
    clear hK20
    refine TC.ret ?_
    refine TE.passRet ?_
    clear hK4
    refine TE.weak (Sub.refl _) (fun _ s => sep_keep [] rfl s) ?_
    refine TE.ret1 rfl rfl ?_
    first | exact ⟨rfl, rfl⟩ | exact ⟨congrArg Value.bool (decide_eq_true rfl), rfl⟩


end Go.Proofs.Ytocdameafihnaaa
