/-
  Run after run the log has what was put and what a crash has let through: walked.
-/

import Derived.Test.YtocdameafihnaaaLaw7A

namespace Go.Proofs.Ytocdameafihnaaa

open Go Leg Codec Api Dsk Wal

set_option maxRecDepth 100000

set_option maxHeartbeats 8000000

theorem Vals.ones {us : List Value} {ls : List (List UInt8)} {F : Hl} (h : Vals us ls F) : ∀ u ∈ us, u.oneCell' = true := fun u hu => by
  obtain ⟨j, hj, rfl⟩ := List.getElem_of_mem hu
  have := h.2 j (by rw [← h.1]; exact hj)
  rw [List.getD_eq_getElem?_getD, List.getElem?_eq_getElem hj] at this
  exact this.one

theorem walAgain_does (x y z : Value) (L : List (List (List UInt8))) (la lm : List Int) :
    Does Try.prog 10 #[x, y, z] (fun F => IsL 1 EBB x L F ∧ IsI .i64 y la F ∧ IsI .i64 z lm F) [] (Ret (fun v H => v = .bool true ∧ H = [])) := by
  refine Does.body (vs := [x, y, z]) (n := 137) Try.func10 rfl rfl rfl (fun w0 F hF => ?_)
  refine TC.seq (fun K1 hK1 => ?_)
  refine TC.region ?_
  refine TL.v (Want.plain rfl) rfl rfl (PV.assign rfl rfl) ?_
  refine TL.nil ?_
  refine TE.next hK1 ?_
  clear hK1
  refine TC.seq (fun K2 hK2 => ?_)
  refine TC.seq (fun K3 hK3 => ?_)
  refine TC.region ?_
  refine TL.callR (A := []) (B := []) (Want.plain rfl) rfl rfl rfl nm23 rfl (fit7_does ) (fun _ s => s) (fun _ _ _ => trivial) (fun vR HR hR => ?_)
  obtain ⟨rfl, rfl⟩ := hR
  change TL _ _ _ _ _ _ _ _ _ []
  refine TL.v (Want.plain rfl) rfl rfl (PV.not (r := false) rfl rfl rfl) ?_
  refine TL.nil ?_
  refine TE.next hK3 ?_
  clear hK3
  refine TC.no rfl ?_
  refine TC.skip ?_
  refine TE.next hK2 ?_
  clear hK2
  refine TC.seq (fun K4 hK4 => ?_)
  refine TC.seq (fun K5 hK5 => ?_)
  refine TC.region ?_
  refine TL.v (Want.plain rfl) rfl rfl (PV.move rfl rfl) ?_
  refine TL.v (Want.plain rfl) rfl rfl (PV.lenV rfl Try.underlying58 rfl hF.1.len) ?_
  refine TL.v (Want.plain rfl) rfl rfl (PV.gtr rfl rfl rfl) ?_
  refine TL.dec (fun h25 => ?_) (fun h25 => ?_)
  · skip
    refine TL.v (Want.plain rfl) rfl rfl (PV.move rfl rfl) ?_
    refine TL.unmet (b := true) rfl rfl rfl rfl (lb rfl) ?_
    refine TL.unmet (b := true) rfl rfl rfl rfl (lb rfl) ?_
    refine TL.unmet (b := true) rfl rfl rfl rfl (lb rfl) ?_
    refine TL.unmet (b := true) rfl rfl rfl rfl (lb rfl) ?_
    refine TL.unmet (b := true) rfl rfl rfl rfl (lb rfl) ?_
    refine TL.v (Want.plain rfl) rfl rfl (PV.pick rfl rfl rfl) ?_
    refine TL.v (Want.plain rfl) rfl rfl (PV.move rfl rfl) ?_
    refine TL.unmet (b := true) rfl rfl rfl rfl (lb rfl) ?_
    refine TL.unmet (b := true) rfl rfl rfl rfl (lb rfl) ?_
    refine TL.unmet (b := true) rfl rfl rfl rfl (lb rfl) ?_
    refine TL.unmet (b := true) rfl rfl rfl rfl (lb rfl) ?_
    refine TL.unmet (b := true) rfl rfl rfl rfl (lb rfl) ?_
    refine TL.v (Want.plain rfl) rfl rfl (PV.pick rfl rfl rfl) ?_
    refine TL.nil ?_
    refine TE.next hK5 ?_
    clear hK5
    refine TC.yes rfl ?_
    refine TC.seq (fun K6 hK6 => ?_)
    refine TC.region ?_
    refine TL.v (Want.plain rfl) rfl rfl (PV.assign rfl rfl) ?_
    refine TL.nil ?_
    refine TE.next hK6 ?_
    clear hK6
    refine TC.ret ?_
    refine TE.passRet ?_
    clear hK4
    refine TE.weak (Sub.refl _) (fun _ s => sep_keep [] rfl s) ?_
    refine TE.ret1 rfl rfl ?_
    first | exact ⟨rfl, rfl⟩ | exact ⟨congrArg Value.bool (decide_eq_true rfl), rfl⟩
  · skip
    refine TL.v (Want.plain rfl) rfl rfl (PV.move rfl rfl) ?_
    refine TL.v (Want.met rfl rfl rfl) rfl rfl (PV.move rfl rfl) ?_
    refine TL.v (Want.met rfl rfl rfl) rfl rfl (PV.lenV rfl Try.underlying47 rfl hF.2.1.len) ?_
    refine TL.v (Want.met rfl rfl rfl) rfl rfl (PV.move rfl rfl) ?_
    refine TL.v (Want.met rfl rfl rfl) rfl rfl (PV.lenV rfl Try.underlying58 rfl hF.1.len) ?_
    refine TL.v (Want.met rfl rfl rfl) rfl rfl (PV.lss rfl rfl rfl) ?_
    refine TL.dec (fun h31 => ?_) (fun h31 => ?_)
    · skip
      refine TL.v (Want.plain rfl) rfl rfl (PV.pick rfl rfl rfl) ?_
      refine TL.v (Want.plain rfl) rfl rfl (PV.move rfl rfl) ?_
      refine TL.unmet (b := true) rfl rfl rfl rfl (lb rfl) ?_
      refine TL.unmet (b := true) rfl rfl rfl rfl (lb rfl) ?_
      refine TL.unmet (b := true) rfl rfl rfl rfl (lb rfl) ?_
      refine TL.unmet (b := true) rfl rfl rfl rfl (lb rfl) ?_
      refine TL.unmet (b := true) rfl rfl rfl rfl (lb rfl) ?_
      refine TL.v (Want.plain rfl) rfl rfl (PV.pick rfl rfl rfl) ?_
      refine TL.nil ?_
      refine TE.next hK5 ?_
      clear hK5
      refine TC.yes rfl ?_
      refine TC.seq (fun K7 hK7 => ?_)
      refine TC.region ?_
      refine TL.v (Want.plain rfl) rfl rfl (PV.assign rfl rfl) ?_
      refine TL.nil ?_
      refine TE.next hK7 ?_
      clear hK7
      refine TC.ret ?_
      refine TE.passRet ?_
      clear hK4
      refine TE.weak (Sub.refl _) (fun _ s => sep_keep [] rfl s) ?_
      refine TE.ret1 rfl rfl ?_
      first | exact ⟨rfl, rfl⟩ | exact ⟨congrArg Value.bool (decide_eq_true rfl), rfl⟩
    · skip
      refine TL.v (Want.plain rfl) rfl rfl (PV.pick rfl rfl rfl) ?_
      refine TL.v (Want.plain rfl) rfl rfl (PV.move rfl rfl) ?_
      refine TL.v (Want.met rfl rfl rfl) rfl rfl (PV.move rfl rfl) ?_
      refine TL.v (Want.met rfl rfl rfl) rfl rfl (PV.lenV rfl Try.underlying47 rfl hF.2.2.len) ?_
      refine TL.v (Want.met rfl rfl rfl) rfl rfl (PV.move rfl rfl) ?_
      refine TL.v (Want.met rfl rfl rfl) rfl rfl (PV.lenV rfl Try.underlying58 rfl hF.1.len) ?_
      refine TL.v (Want.met rfl rfl rfl) rfl rfl (PV.lss rfl rfl rfl) ?_
      refine TL.dec (fun h38 => ?_) (fun h38 => ?_)
      · skip
        refine TL.v (Want.plain rfl) rfl rfl (PV.pick rfl rfl rfl) ?_
        refine TL.nil ?_
        refine TE.next hK5 ?_
        clear hK5
        refine TC.yes rfl ?_
        refine TC.seq (fun K8 hK8 => ?_)
        refine TC.region ?_
        refine TL.v (Want.plain rfl) rfl rfl (PV.assign rfl rfl) ?_
        refine TL.nil ?_
        refine TE.next hK8 ?_
        clear hK8
        refine TC.ret ?_
        refine TE.passRet ?_
        clear hK4
        refine TE.weak (Sub.refl _) (fun _ s => sep_keep [] rfl s) ?_
        refine TE.ret1 rfl rfl ?_
        first | exact ⟨rfl, rfl⟩ | exact ⟨congrArg Value.bool (decide_eq_true rfl), rfl⟩
      · skip
        refine TL.v (Want.plain rfl) rfl rfl (PV.pick rfl rfl rfl) ?_
        refine TL.nil ?_
        refine TE.next hK5 ?_
        clear hK5
        refine TC.no rfl ?_
        refine TC.skip ?_
        refine TE.next hK4 ?_
        clear hK4
        refine TC.seq (fun K9 hK9 => ?_)
        refine TC.region ?_
        refine TL.callR (A := []) (B := []) (Want.plain rfl) rfl rfl rfl nm13 rfl (dk_new) (fun _ s => s) (fun _ _ _ => trivial) (fun vR HR hR => ?_)
        obtain ⟨d, rfl, rfl⟩ := hR
        change TL _ _ _ _ _ _ _ _ _ [dk d (DS.new)]
        refine TL.v (Want.plain rfl) rfl rfl (PV.assign rfl rfl) ?_
        refine TL.nil ?_
        refine TE.next hK9 ?_
        clear hK9
        refine TC.seq (fun K10 hK10 => ?_)
        refine TC.region ?_
        refine TL.v (Want.plain rfl) rfl rfl (PV.assign rfl rfl) ?_
        refine TL.nil ?_
        refine TE.next hK10 ?_
        clear hK10
        refine TC.seq (fun K11 hK11 => ?_)
        refine TC.seq (fun K12 hK12 => ?_)
        refine TC.region ?_
        refine TL.v (Want.plain rfl) rfl rfl (PV.move rfl rfl) ?_
        refine TL.v (Want.plain rfl) rfl rfl (PV.lenV rfl Try.underlying58 rfl hF.1.len) ?_
        refine TL.v (Want.plain rfl) rfl rfl (PV.move rfl rfl) ?_
        refine TL.nil ?_
        refine TE.next hK12 ?_
        clear hK12
        refine TC.block ?_
        refine TC.loop (α := (Nat) × (List (List UInt8)) × (DS) × (Value) × (List Value)) (fun ⟨k, had, D, vh, us⟩ => k ≤ L.length ∧ LogD D had ∧ D.ar = false ∧ D.dn = false ∧ vh.oneCell' = true ∧ Vals us had F) (fun ⟨k, had, D, vh, us⟩ => [(1, y), (2, z), (7, (.pointer (some ⟨d, 0, none⟩))), (8, vh), (41, x), (42, (.int .i64 (((L.length : Nat) : Int)))), (43, (.int .i64 (((k : Nat) : Int))))]) (fun ⟨k, had, D, vh, us⟩ => [own vh ((had).length) (us) 28 1, dk d (D)]) (fun ⟨k, had, D, vh, us⟩ => L.length - k) (0, [], DS.new, (.slice none 0 0), [])
            ⟨Nat.zero_le _, LogD.new, rfl, rfl, rfl, Vals.nil _⟩ (Sub.r (Sub.r (Sub.r (Sub.r (Sub.r (Sub.r (Sub.cons rfl (by congr 1) (Sub.nil _))))))))
            (fun _ s => sep_ownNil 28 1 s) (fun ⟨k, had, D, vh, us⟩ hinv => ?_)
        obtain ⟨hk, hL, ha, hd, hvh, hV⟩ := hinv
        have hln := hL.len
        refine TC.seq (fun K13 hK13 => ?_)
        refine TC.region ?_
        refine TL.v (Want.plain rfl) rfl rfl (PV.lss rfl rfl rfl) ?_
        refine TL.dec (fun h44 => ?_) (fun h44 => ?_)
        · skip
          obtain ⟨b_a, off_a, cap_a, cs_a, T_a, z_a, us_a, hv_a, hc_a, hb_a, hl_a, hs_a, hE_a⟩ := IsL.at hF.1 (j := k) (by omega)
          obtain ⟨u_a, rfl, hu_a⟩ := hE_a
          obtain ⟨b_e, off_e, cap_e, cs_e, T_e, z_e, hv_e, hb_e, hcs_e, hcp_e⟩ := IsI.at hF.2.1 (j := k) (by omega)
          obtain ⟨b_m, off_m, cap_m, cs_m, T_m, z_m, hv_m, hb_m, hcs_m, hcp_m⟩ := IsI.at hF.2.2 (j := k) (by omega)
          obtain ⟨q, hq, hq2⟩ : ∃ q : Nat, andI .i64 (la.getD k 0) 63 = ((q : Nat) : Int) ∧ q < 64 := ⟨((la.getD k 0) % 64).toNat, by rw [show andI .i64 (la.getD k 0) 63 = (la.getD k 0) % 64 from mask (k := 6) (by decide) _]; omega, by omega⟩
          refine TL.nil ?_
          refine TE.next hK13 ?_
          clear hK13
          refine TC.seq (fun K14 hK14 => ?_)
          refine TC.yes rfl ?_
          refine TC.skip ?_
          refine TE.next hK14 ?_
          clear hK14
          refine TC.seq (fun K15 hK15 => ?_)
          refine TC.block ?_
          refine TC.seq (fun K16 hK16 => ?_)
          refine TC.region ?_
          refine TL.v (Want.plain rfl) rfl rfl (PV.move rfl rfl) ?_
          refine TL.v (Want.plain rfl) rfl rfl (PV.indexSlV (r := off_a + k) hv_a rfl Try.underlying58 sz44 rfl rfl (by omega) (by omega) (by omega)) ?_
          refine TL.v (Want.plain rfl) rfl rfl (PV.load1X (v := u_a) rfl Try.underlying44 rfl rfl (RdX.frm hb_a (fun _ h => Frm.of h)) (by have := stretch_get (j := 0) hs_a rfl; simpa using this)) ?_
          refine TL.v (Want.plain rfl) rfl rfl (PV.assign rfl rfl) ?_
          refine TL.v (Want.plain rfl) rfl rfl (PV.assign rfl rfl) ?_
          refine TL.nil ?_
          refine TE.next hK16 ?_
          clear hK16
          refine TC.seq (fun K17 hK17 => ?_)
          refine TC.seq (fun K18 hK18 => ?_)
          refine TC.region ?_
          refine TL.v (Want.plain rfl) rfl rfl (PV.move rfl rfl) ?_
          refine TL.callR (A := []) (B := [own vh ((had).length) (us) 28 1, dk d (D)]) (Want.plain rfl) rfl rfl rfl nm24 rfl (few_does u_a L[k]) (fun _ s => s) (fun g d _ => IsL.more EB.more hu_a d) (fun vR HR hR => ?_)
          obtain ⟨bf, rfl, hbf, rfl⟩ := hR
          change TL _ _ _ _ _ _ _ _ _ [own vh ((had).length) (us) 28 1, dk d (D)]
          refine TL.decB (fun h49 => ?_) (fun h49 => ?_)
          · skip
            refine TL.v (Want.plain rfl) rfl rfl (PV.not (r := false) rfl rfl rfl) ?_
            refine TL.nil ?_
            refine TE.next hK18 ?_
            clear hK18
            refine TC.no rfl ?_
            refine TC.skip ?_
            refine TE.next hK17 ?_
            clear hK17
            refine TC.seq (fun K19 hK19 => ?_)
            refine TC.region ?_
            refine TL.v (Want.plain rfl) rfl rfl (PV.move rfl rfl) ?_
            obtain ⟨DB, heB, hLB, haB, hdB⟩ := LogD.open hL ha hd
            refine TL.callR (A := [dk d (D)]) (B := [own vh ((had).length) (us) 28 1]) (Want.plain rfl) rfl rfl rfl nm25 rfl (openEq_does d (D) DB (had) ((sizeS (had) : Nat) : Int) hL.ok hL.inn (by rw [hL.ws]; simp) heB) (fun _ s => sep_selR [1] rfl s) (fun _ _ _ => trivial) (fun vR HR hR => ?_)
            obtain ⟨lgB, vrB, rfl, rfl⟩ := hR
            change TL _ _ _ _ _ _ _ _ _ [blkA lgB [(.pointer (some ⟨d, 0, none⟩)), (.int .i64 ((((had).length : Nat) : Int))), (.int .i64 (((sizeS (had) : Nat) : Int)))] 71, recsP 28 5 vrB (had), dk d (DB), own vh ((had).length) (us) 28 1]
            refine TL.recsLen 1 rfl rfl (fun hvlB hvoB => ?_)
            refine TL.v (Want.plain rfl) rfl rfl (PV.move rfl rfl) ?_
            refine TL.v (Want.plain rfl) rfl rfl (PV.extract (vs := [(.pointer (some ⟨lgB, 0, none⟩)), vrB, (.int .i64 0)]) rfl rfl rfl) ?_
            refine TL.v (Want.plain rfl) rfl rfl (PV.extract (vs := [(.pointer (some ⟨lgB, 0, none⟩)), vrB, (.int .i64 0)]) rfl rfl rfl) ?_
            refine TL.v (Want.plain rfl) rfl rfl (PV.extract (vs := [(.pointer (some ⟨lgB, 0, none⟩)), vrB, (.int .i64 0)]) rfl rfl rfl) ?_
            refine TL.v (Want.plain rfl) rfl rfl (PV.assign rfl rfl) ?_
            refine TL.v (Want.plain rfl) rfl rfl (PV.assign rfl rfl) ?_
            refine TL.v (Want.plain rfl) rfl rfl (PV.assign rfl rfl) ?_
            refine TL.nil ?_
            refine TE.next hK19 ?_
            clear hK19
            refine TC.seq (fun K20 hK20 => ?_)
            refine TC.seq (fun K21 hK21 => ?_)
            refine TC.region ?_
            refine TL.v (Want.plain rfl) rfl rfl (PV.move rfl rfl) ?_
            refine TL.v (Want.plain rfl) rfl rfl (PV.neq rfl rfl rfl) ?_
            refine TL.v (Want.plain rfl) rfl rfl (PV.move rfl rfl) ?_
            refine TL.v (Want.met rfl rfl rfl) rfl rfl (PV.move rfl rfl) ?_
            refine TL.v (Want.met rfl rfl rfl) rfl rfl (PV.move rfl rfl) ?_
            refine TL.callR (A := []) (B := [blkA lgB [(.pointer (some ⟨d, 0, none⟩)), (.int .i64 ((((had).length : Nat) : Int))), (.int .i64 (((sizeS (had) : Nat) : Int)))] 71, recsP 28 5 vrB (had), dk d (DB), own vh ((had).length) (us) 28 1]) (Want.met rfl rfl rfl) rfl rfl rfl nm26 rfl (same_does vrB vh (had) (had)) (fun _ s => s) (fun g d s => ⟨isBB_recs 1 rfl rfl g d s, isBB_own 3 rfl rfl s (Vals.more hV d).2⟩) (fun vR HR hR => ?_)
            obtain ⟨rfl, rfl⟩ := hR
            change TL _ _ _ _ _ _ _ _ _ [blkA lgB [(.pointer (some ⟨d, 0, none⟩)), (.int .i64 ((((had).length : Nat) : Int))), (.int .i64 (((sizeS (had) : Nat) : Int)))] 71, recsP 28 5 vrB (had), dk d (DB), own vh ((had).length) (us) 28 1]
            refine TL.dec (fun h62 => ?_) (fun h62 => ?_)
            · skip
              refine TL.v (Want.met rfl rfl rfl) rfl rfl (PV.not (r := false) rfl rfl rfl) ?_
              refine TL.v (Want.plain rfl) rfl rfl (PV.pick rfl rfl rfl) ?_
              refine TL.nil ?_
              refine TE.next hK21 ?_
              clear hK21
              refine TC.no rfl ?_
              refine TC.skip ?_
              refine TE.next hK20 ?_
              clear hK20
              refine TC.seq (fun K22 hK22 => ?_)
              refine TC.region ?_
              refine TL.v (Want.plain rfl) rfl rfl (PV.move rfl rfl) ?_
              refine TL.v (Want.plain rfl) rfl rfl (PV.move rfl rfl) ?_
              refine TL.v (Want.plain rfl) rfl rfl (PV.move rfl rfl) ?_
              refine TL.v (Want.plain rfl) rfl rfl (PV.indexSlV (r := off_e + k) hv_e rfl Try.underlying47 sz3 rfl rfl (by omega) (by omega) (by omega)) ?_
              refine TL.v (Want.plain rfl) rfl rfl (PV.load1X (v := (.int .i64 ((la.getD k 0)))) rfl Try.underlying3 rfl rfl (RdX.frm hb_e (fun _ h => Frm.of h)) hcs_e) ?_
              refine TL.v (Want.plain rfl) rfl rfl (PV.and (r := ((q : Nat) : Int)) rfl rfl rfl hq) ?_
              refine TL.callR (A := [dk d (DB)]) (B := [blkA lgB [(.pointer (some ⟨d, 0, none⟩)), (.int .i64 ((((had).length : Nat) : Int))), (.int .i64 (((sizeS (had) : Nat) : Int)))] 71, recsP 28 5 vrB (had), own vh ((had).length) (us) 28 1]) (Want.plain rfl) rfl rfl rfl nm14 rfl (dk_arm d (DB) ((q : Nat) : Int)) (fun _ s => sep_selR [2] rfl s) (fun _ _ _ => trivial) (fun vR HR hR => ?_)
              obtain ⟨_, rfl⟩ := hR
              change TL _ _ _ _ _ _ _ _ _ [dk d ((DB).arm ((q : Nat) : Int)), blkA lgB [(.pointer (some ⟨d, 0, none⟩)), (.int .i64 ((((had).length : Nat) : Int))), (.int .i64 (((sizeS (had) : Nat) : Int)))] 71, recsP 28 5 vrB (had), own vh ((had).length) (us) 28 1]
              refine TL.nil ?_
              refine TE.next hK22 ?_
              clear hK22
              refine TC.seq (fun K23 hK23 => ?_)
              refine TC.region ?_
              refine TL.v (Want.plain rfl) rfl rfl (PV.assign rfl rfl) ?_
              refine TL.nil ?_
              refine TE.next hK23 ?_
              clear hK23
              refine TC.seq (fun K24 hK24 => ?_)
              refine TC.region ?_
              refine TL.v (Want.plain rfl) rfl rfl (PV.assign rfl rfl) ?_
              refine TL.nil ?_
              refine TE.next hK24 ?_
              clear hK24
              refine TC.seq (fun K25 hK25 => ?_)
              refine TC.cut (α := (List (List UInt8)) × (DS) × (Value) × (List Value) × (Value) × (List UInt8) × (Bool)) (fun ⟨had3, D3, vh3, us3, vl, bl, c⟩ => Pre D3 had3 (cond c (some bl) none) ∧ vh3.oneCell' = true ∧ Vals us3 had3 F ∧ had3.length ≤ 2048 ∧ IsW vl bl F) (fun ⟨had3, D3, vh3, us3, vl, bl, c⟩ => [(1, y), (2, z), (7, (.pointer (some ⟨d, 0, none⟩))), (8, vh3), (9, (.int .i64 (((k : Nat) : Int)))), (14, vl), (15, (.bool (c))), (41, x), (42, (.int .i64 (((L.length : Nat) : Int)))), (43, (.int .i64 (((k : Nat) : Int))))]) (fun ⟨had3, D3, vh3, us3, vl, bl, c⟩ => [own vh3 ((had3).length) (us3) 28 1, dk d (D3)]) (fun ⟨had3, D3, vh3, us3, vl, bl, c⟩ hinv => ?_) (fun tl25 => ?_)
              · skip
                obtain ⟨hP, hvh3, hV3, hln3, hvl⟩ := hinv
                refine TE.next hK25 ?_
                clear hK25
                obtain ⟨s1, hs1⟩ : ∃ r, (lm.getD k 0).fdiv (2 ^ min (8 : Int).toNat IntKind.i64.bits) = r := ⟨_, rfl⟩
                obtain ⟨q1, hq1, hq1'⟩ : ∃ q : Nat, andI .i64 s1 7 = ((q : Nat) : Int) ∧ q < 8 := ⟨(s1 % 8).toNat, by rw [show andI .i64 s1 7 = s1 % 8 from mask (k := 3) (by decide) _]; omega, by omega⟩
                obtain ⟨s2, hs2⟩ : ∃ r, (lm.getD k 0).fdiv (2 ^ min (11 : Int).toNat IntKind.i64.bits) = r := ⟨_, rfl⟩
                obtain ⟨q2, hq2, hq2'⟩ : ∃ q : Nat, andI .i64 s2 63 = ((q : Nat) : Int) ∧ q < 64 := ⟨(s2 % 64).toNat, by rw [show andI .i64 s2 63 = s2 % 64 from mask (k := 6) (by decide) _]; omega, by omega⟩
                refine TC.seq (fun K26 hK26 => ?_)
                refine TC.draw (fun w => Frm F w ∧ True) mixed rfl (fun _ s => ⟨Frm.of s, trivial⟩) ?_
                refine TD.take (i := 0) rfl (by kernel_rfl) (by kernel_rfl) (by kernel_rfl) (fun _ _ _ _ h => h) (Want.plain rfl) rfl rfl (PV.move rfl rfl) ?_
                refine TD.take (i := 1) rfl (by kernel_rfl) (by kernel_rfl) (by kernel_rfl) (fun _ _ _ _ h => h) (Want.plain rfl) rfl rfl (PV.move rfl rfl) ?_
                refine TD.take (i := 2) rfl (by kernel_rfl) (by kernel_rfl) (by kernel_rfl) (fun _ _ _ _ h => h) (Want.plain rfl) rfl rfl (PV.move rfl rfl) ?_
                refine TD.take (i := 3) rfl (by kernel_rfl) (by kernel_rfl) (by kernel_rfl) (fun _ _ _ _ h => h) (Want.plain rfl) rfl rfl (PV.indexSlV (r := off_m + k) hv_m rfl Try.underlying47 sz3 rfl rfl (by omega) (by omega) (by omega)) ?_
                refine TD.take (i := 4) rfl (by kernel_rfl) (by kernel_rfl) (by kernel_rfl) (fun _ _ _ _ h => h) (Want.plain rfl) rfl rfl (PV.load1X (v := (.int .i64 ((lm.getD k 0)))) rfl Try.underlying3 rfl rfl (RdX.frm hb_m (fun _ h => h.1)) hcs_m) ?_
                refine TD.take (i := 5) rfl (by kernel_rfl) (by kernel_rfl) (by kernel_rfl) (fun _ _ _ _ h => h) (Want.plain rfl) rfl rfl (PV.move rfl rfl) ?_
                refine TD.take (i := 6) rfl (by kernel_rfl) (by kernel_rfl) (by kernel_rfl) (fun _ _ _ _ h => h) (Want.plain rfl) rfl rfl (PV.move rfl rfl) ?_
                refine TD.take (i := 7) rfl (by kernel_rfl) (by kernel_rfl) (by kernel_rfl) (fun _ _ _ _ h => h) (Want.plain rfl) rfl rfl (PV.indexSlV (r := off_m + k) hv_m rfl Try.underlying47 sz3 rfl rfl (by omega) (by omega) (by omega)) ?_
                refine TD.take (i := 8) rfl (by kernel_rfl) (by kernel_rfl) (by kernel_rfl) (fun _ _ _ _ h => h) (Want.plain rfl) rfl rfl (PV.load1X (v := (.int .i64 ((lm.getD k 0)))) rfl Try.underlying3 rfl rfl (RdX.frm hb_m (fun _ h => h.1)) hcs_m) ?_
                refine TD.take (i := 9) rfl (by kernel_rfl) (by kernel_rfl) (by kernel_rfl) (fun _ _ _ _ h => h) (Want.plain rfl) rfl rfl (PV.shr (r := s1) rfl rfl rfl (by omega) hs1) ?_
                refine TD.take (i := 10) rfl (by kernel_rfl) (by kernel_rfl) (by kernel_rfl) (fun _ _ _ _ h => h) (Want.plain rfl) rfl rfl (PV.and (r := ((q1 : Nat) : Int)) rfl rfl rfl hq1) ?_
                refine TD.take (i := 11) rfl (by kernel_rfl) (by kernel_rfl) (by kernel_rfl) (fun _ _ _ _ h => h) (Want.plain rfl) rfl rfl (PV.sub rfl rfl rfl (wrap_i64 (by omega) (by omega))) ?_
                refine TD.take (i := 12) rfl (by kernel_rfl) (by kernel_rfl) (by kernel_rfl) (fun _ _ _ _ h => h) (Want.plain rfl) rfl rfl (PV.move rfl rfl) ?_
                refine TD.take (i := 13) rfl (by kernel_rfl) (by kernel_rfl) (by kernel_rfl) (fun _ _ _ _ h => h) (Want.plain rfl) rfl rfl (PV.move rfl rfl) ?_
                refine TD.take (i := 14) rfl (by kernel_rfl) (by kernel_rfl) (by kernel_rfl) (fun _ _ _ _ h => h) (Want.plain rfl) rfl rfl (PV.indexSlV (r := off_m + k) hv_m rfl Try.underlying47 sz3 rfl rfl (by omega) (by omega) (by omega)) ?_
                refine TD.take (i := 15) rfl (by kernel_rfl) (by kernel_rfl) (by kernel_rfl) (fun _ _ _ _ h => h) (Want.plain rfl) rfl rfl (PV.load1X (v := (.int .i64 ((lm.getD k 0)))) rfl Try.underlying3 rfl rfl (RdX.frm hb_m (fun _ h => h.1)) hcs_m) ?_
                refine TD.take (i := 16) rfl (by kernel_rfl) (by kernel_rfl) (by kernel_rfl) (fun _ _ _ _ h => h) (Want.plain rfl) rfl rfl (PV.shr (r := s2) rfl rfl rfl (by omega) hs2) ?_
                refine TD.take (i := 17) rfl (by kernel_rfl) (by kernel_rfl) (by kernel_rfl) (fun _ _ _ _ h => h) (Want.plain rfl) rfl rfl (PV.and (r := ((q2 : Nat) : Int)) rfl rfl rfl hq2) ?_
                refine TD.all [18] (by kernel_rfl) rfl ?_
                refine AllT.cons rfl ?_ ?_
                · skip
                  refine TL.callR (A := [dk d (D3)]) (B := [own vh3 ((had3).length) (us3) 28 1]) (Want.plain rfl) rfl rfl rfl nm19 rfl (dk_crash d (D3) (lm.getD k 0) (((q1 : Nat) : Int) - 1) ((q2 : Nat) : Int) hP.ok) (fun _ s => sep_selR [1] rfl s) (fun _ _ _ => trivial) (fun vR HR hR => ?_)
                  obtain ⟨_, rfl⟩ := hR
                  change TL _ _ _ _ _ _ _ _ _ [dk d ((D3).crash (lm.getD k 0) (((q1 : Nat) : Int) - 1) ((q2 : Nat) : Int)), own vh3 ((had3).length) (us3) 28 1]
                  refine TL.nil ?_
                  refine TE.draw (fun _ s => ⟨Frm.of s, trivial⟩) ?_
                  refine TD.done (by kernel_rfl) ?_
                  refine TE.next hK26 ?_
                  clear hK26
                  refine TC.seq (fun K27 hK27 => ?_)
                  refine TC.region ?_
                  refine TL.v (Want.plain rfl) rfl rfl (PV.move rfl rfl) ?_
                  obtain ⟨hcal, DE, ls, hls, heE, hLE, haE, hdE⟩ := hP.open (lm.getD k 0) (((q1 : Nat) : Int) - 1) ((q2 : Nat) : Int)
                  have hls2 : ls = had3 ∨ (c = true ∧ ls = had3 ++ [bl]) := by
                    rcases hls with r | ⟨b', r1, r2⟩
                    · exact .inl r
                    · cases c <;> simp at r1; exact .inr ⟨rfl, by rw [r2, r1]⟩
                  refine TL.callR (A := [dk d ((D3).crash (lm.getD k 0) (((q1 : Nat) : Int) - 1) ((q2 : Nat) : Int))]) (B := [own vh3 ((had3).length) (us3) 28 1]) (Want.plain rfl) rfl rfl rfl nm25 rfl (openEq_does d ((D3).crash (lm.getD k 0) (((q1 : Nat) : Int) - 1) ((q2 : Nat) : Int)) DE (ls) ((sizeS (ls) : Nat) : Int) hcal.ok hcal.inn (by show ([] : Secs).length ≤ _; decide) heE) (fun _ s => s) (fun _ _ _ => trivial) (fun vR HR hR => ?_)
                  obtain ⟨lgE, vrE, rfl, rfl⟩ := hR
                  change TL _ _ _ _ _ _ _ _ _ [blkA lgE [(.pointer (some ⟨d, 0, none⟩)), (.int .i64 ((((ls).length : Nat) : Int))), (.int .i64 (((sizeS (ls) : Nat) : Int)))] 71, recsP 28 5 vrE (ls), dk d (DE), own vh3 ((had3).length) (us3) 28 1]
                  refine TL.recsLen 1 rfl rfl (fun hvlE hvoE => ?_)
                  refine TL.v (Want.plain rfl) rfl rfl (PV.move rfl rfl) ?_
                  refine TL.v (Want.plain rfl) rfl rfl (PV.extract (vs := [(.pointer (some ⟨lgE, 0, none⟩)), vrE, (.int .i64 0)]) rfl rfl rfl) ?_
                  refine TL.v (Want.plain rfl) rfl rfl (PV.extract (vs := [(.pointer (some ⟨lgE, 0, none⟩)), vrE, (.int .i64 0)]) rfl rfl rfl) ?_
                  refine TL.v (Want.plain rfl) rfl rfl (PV.extract (vs := [(.pointer (some ⟨lgE, 0, none⟩)), vrE, (.int .i64 0)]) rfl rfl rfl) ?_
                  refine TL.v (Want.plain rfl) rfl rfl (PV.assign rfl rfl) ?_
                  refine TL.v (Want.plain rfl) rfl rfl (PV.assign rfl rfl) ?_
                  refine TL.v (Want.plain rfl) rfl rfl (PV.assign rfl rfl) ?_
                  refine TL.nil ?_
                  refine TE.next hK27 ?_
                  clear hK27
                  refine TC.seq (fun K28 hK28 => ?_)
                  refine TC.seq (fun K29 hK29 => ?_)
                  refine TC.region ?_
                  refine TL.v (Want.plain rfl) rfl rfl (PV.move rfl rfl) ?_
                  refine TL.v (Want.plain rfl) rfl rfl (PV.neq rfl rfl rfl) ?_
                  refine TL.nil ?_
                  refine TE.next hK29 ?_
                  clear hK29
                  refine TC.no rfl ?_
                  refine TC.skip ?_
                  refine TE.next hK28 ?_
                  clear hK28
                  refine TC.seq (fun K30 hK30 => ?_)
                  refine TC.seq (fun K31 hK31 => ?_)
                  refine TC.region ?_
                  refine TL.v (Want.plain rfl) rfl rfl (PV.move rfl rfl) ?_
                  refine TL.decB (fun h118 => ?_) (fun h118 => ?_)
                  · skip
                    refine TL.v (Want.plain rfl) rfl rfl (PV.move rfl rfl) ?_
                    refine TL.v (Want.met rfl rfl rfl) rfl rfl (PV.move rfl rfl) ?_
                    refine TL.v (Want.met rfl rfl rfl) rfl rfl (PV.move rfl rfl) ?_
                    refine TL.ownNilI 28 1 (fun _ => ?_)
                    refine TL.append (k := 0) (m := (had3).length) (news := us3) (nn' := (had3).length) (xs' := us3) (Want.met rfl rfl rfl) rfl rfl rfl Try.underlying44 in28 rfl rfl rfl rfl rfl rfl (fun _ s => Src.own 4 rfl rfl s) (Vals.ones hV3) (by simp only [maxLen]; omega) (by omega) (by omega) rfl (fun v122 ov122 => ?_)
                    change TL _ _ _ _ _ _ _ _ _ [own v122 ((had3).length) (us3) 28 1, blkA lgE [(.pointer (some ⟨d, 0, none⟩)), (.int .i64 ((((ls).length : Nat) : Int))), (.int .i64 (((sizeS (ls) : Nat) : Int)))] 71, recsP 28 5 vrE (ls), dk d (DE), own vh3 ((had3).length) (us3) 28 1]
                    refine TL.v (Want.met rfl rfl rfl) rfl rfl (PV.move rfl rfl) ?_
                    refine TL.buildSlice (cells := #[vl]) (Want.met rfl rfl rfl) rfl rfl rfl Try.underlying44 in28 rfl rfl rfl (fill_one hvl.one (by simp)) (fun b124 => ?_)
                    change TL _ _ _ _ _ _ _ _ _ [blkA b124 [vl] 28, own v122 ((had3).length) (us3) 28 1, blkA lgE [(.pointer (some ⟨d, 0, none⟩)), (.int .i64 ((((ls).length : Nat) : Int))), (.int .i64 (((sizeS (ls) : Nat) : Int)))] 71, recsP 28 5 vrE (ls), dk d (DE), own vh3 ((had3).length) (us3) 28 1]
                    refine TL.append (k := 1) (m := 1) (news := [vl]) (nn' := (had3 ++ [bl]).length) (xs' := us3 ++ [vl]) (Want.met rfl rfl rfl) rfl rfl rfl Try.underlying44 in28 rfl rfl rfl rfl rfl rfl (fun _ _ => Src.rd rfl (Rd.own 0 rfl rfl) rfl) (List.forall_mem_cons.2 ⟨hvl.one, fun _ h => by cases h⟩) (by simp only [maxLen]; omega) (by omega) (by rw [List.length_append]; rfl) rfl (fun v125 ov125 => ?_)
                    change TL _ _ _ _ _ _ _ _ _ [blkA b124 [vl] 28, own v125 ((had3 ++ [bl]).length) (us3 ++ [vl]) 28 1, blkA lgE [(.pointer (some ⟨d, 0, none⟩)), (.int .i64 ((((ls).length : Nat) : Int))), (.int .i64 (((sizeS (ls) : Nat) : Int)))] 71, recsP 28 5 vrE (ls), dk d (DE), own vh3 ((had3).length) (us3) 28 1]
                    refine TL.callR (A := []) (B := [blkA b124 [vl] 28, own v125 ((had3 ++ [bl]).length) (us3 ++ [vl]) 28 1, blkA lgE [(.pointer (some ⟨d, 0, none⟩)), (.int .i64 ((((ls).length : Nat) : Int))), (.int .i64 (((sizeS (ls) : Nat) : Int)))] 71, recsP 28 5 vrE (ls), dk d (DE), own vh3 ((had3).length) (us3) 28 1]) (Want.met rfl rfl rfl) rfl rfl rfl nm26 rfl (same_does vrE v125 (ls) (had3 ++ [bl])) (fun _ s => s) (fun g d s => ⟨isBB_recs 3 rfl rfl g d s, isBB_own 1 rfl rfl s (Vals.more (Vals.add hV3 hvl) d).2⟩) (fun vR HR hR => ?_)
                    obtain ⟨rfl, rfl⟩ := hR
                    change TL _ _ _ _ _ _ _ _ _ [blkA b124 [vl] 28, own v125 ((had3 ++ [bl]).length) (us3 ++ [vl]) 28 1, blkA lgE [(.pointer (some ⟨d, 0, none⟩)), (.int .i64 ((((ls).length : Nat) : Int))), (.int .i64 (((sizeS (ls) : Nat) : Int)))] 71, recsP 28 5 vrE (ls), dk d (DE), own vh3 ((had3).length) (us3) 28 1]
                    refine TL.dec (fun h126 => ?_) (fun h126 => ?_)
                    · skip
                      refine TL.v (Want.plain rfl) rfl rfl (PV.pick rfl rfl rfl) ?_
                      refine TL.nil ?_
                      refine TE.next hK31 ?_
                      clear hK31
                      refine TC.yes rfl ?_
                      refine TC.region ?_
                      refine TL.v (Want.plain rfl) rfl rfl (PV.move rfl rfl) ?_
                      refine TL.v (Want.plain rfl) rfl rfl (PV.move rfl rfl) ?_
                      refine TL.buildSlice (cells := #[vl]) (Want.plain rfl) rfl rfl rfl Try.underlying44 in28 rfl rfl rfl (fill_one hvl.one (by simp)) (fun b130 => ?_)
                      change TL _ _ _ _ _ _ _ _ _ [blkA b130 [vl] 28, blkA b124 [vl] 28, own v125 ((had3 ++ [bl]).length) (us3 ++ [vl]) 28 1, blkA lgE [(.pointer (some ⟨d, 0, none⟩)), (.int .i64 ((((ls).length : Nat) : Int))), (.int .i64 (((sizeS (ls) : Nat) : Int)))] 71, recsP 28 5 vrE (ls), dk d (DE), own vh3 ((had3).length) (us3) 28 1]
                      refine TL.append (k := 6) (m := 1) (news := [vl]) (nn' := (had3 ++ [bl]).length) (xs' := us3 ++ [vl]) (Want.plain rfl) rfl rfl rfl Try.underlying44 in28 rfl rfl rfl rfl rfl rfl (fun _ _ => Src.rd rfl (Rd.own 0 rfl rfl) rfl) (List.forall_mem_cons.2 ⟨hvl.one, fun _ h => by cases h⟩) (by simp only [maxLen]; omega) (by omega) (by rw [List.length_append]; rfl) rfl (fun v131 ov131 => ?_)
                      change TL _ _ _ _ _ _ _ _ _ [blkA b130 [vl] 28, blkA b124 [vl] 28, own v125 ((had3 ++ [bl]).length) (us3 ++ [vl]) 28 1, blkA lgE [(.pointer (some ⟨d, 0, none⟩)), (.int .i64 ((((ls).length : Nat) : Int))), (.int .i64 (((sizeS (ls) : Nat) : Int)))] 71, recsP 28 5 vrE (ls), dk d (DE), own v131 ((had3 ++ [bl]).length) (us3 ++ [vl]) 28 1]
                      refine TL.v (Want.plain rfl) rfl rfl (PV.assign rfl rfl) ?_
                      refine TL.nil ?_
                      refine TE.next hK30 ?_
                      clear hK30
                      refine TC.seq (fun K32 hK32 => ?_)
                      refine TC.region ?_
                      refine TL.v (Want.plain rfl) rfl rfl (PV.move rfl rfl) ?_
                      refine TL.v (Want.plain rfl) rfl rfl (PV.move rfl rfl) ?_
                      refine TL.callR (A := []) (B := [blkA b130 [vl] 28, blkA b124 [vl] 28, own v125 ((had3 ++ [bl]).length) (us3 ++ [vl]) 28 1, blkA lgE [(.pointer (some ⟨d, 0, none⟩)), (.int .i64 ((((ls).length : Nat) : Int))), (.int .i64 (((sizeS (ls) : Nat) : Int)))] 71, recsP 28 5 vrE (ls), dk d (DE), own v131 ((had3 ++ [bl]).length) (us3 ++ [vl]) 28 1]) (Want.plain rfl) rfl rfl rfl nm26 rfl (same_does vrE v131 (ls) (had3 ++ [bl])) (fun _ s => s) (fun g d s => ⟨isBB_recs 4 rfl rfl g d s, isBB_own 6 rfl rfl s (Vals.more (Vals.add hV3 hvl) d).2⟩) (fun vR HR hR => ?_)
                      obtain ⟨rfl, rfl⟩ := hR
                      change TL _ _ _ _ _ _ _ _ _ [blkA b130 [vl] 28, blkA b124 [vl] 28, own v125 ((had3 ++ [bl]).length) (us3 ++ [vl]) 28 1, blkA lgE [(.pointer (some ⟨d, 0, none⟩)), (.int .i64 ((((ls).length : Nat) : Int))), (.int .i64 (((sizeS (ls) : Nat) : Int)))] 71, recsP 28 5 vrE (ls), dk d (DE), own v131 ((had3 ++ [bl]).length) (us3 ++ [vl]) 28 1]
                      refine TL.dec (fun h134 => ?_) (fun h134 => ?_)
                      · skip
                        refine TL.v (Want.plain rfl) rfl rfl (PV.not (r := false) rfl rfl rfl) ?_
                        refine TL.nil ?_
                        refine TE.next hK32 ?_
                        clear hK32
                        refine TC.no rfl ?_
                        refine TC.skip ?_
                        refine TE.blockEnd ?_
                        refine TE.next hK15 ?_
                        clear hK15
                        refine TC.region ?_
                        refine TL.v (Want.plain rfl) rfl rfl (PV.add rfl rfl rfl (wrap_i64 (by omega) (by omega))) ?_
                        refine TL.v (Want.plain rfl) rfl rfl (PV.move rfl rfl) ?_
                        refine TL.nil ?_
                        exact TE.round ((k + 1, had3 ++ [bl], DE, v131, us3 ++ [vl]) : (Nat) × (List (List UInt8)) × (DS) × (Value) × (List Value)) ⟨by omega, (by rw [← h134]; exact hLE), haE, hdE, ov131, (Vals.add hV3 hvl)⟩ (by show L.length - (k + 1) < L.length - k; omega)
                          (Sub.r (Sub.r (Sub.r (Sub.r (Sub.r (Sub.r (Sub.cons rfl (by simp) (Sub.nil _))))))))
                          (fun _ s => sep_keep [6, 5] rfl s)
                      · exact absurd (by first | exact h126 | (rcases hls2 with r | ⟨r1, r2⟩; exact r; first | exact absurd r2 h126 | (rw [h118] at r1; cases r1))) h134
                    · skip
                      refine TL.v (Want.plain rfl) rfl rfl (PV.pick rfl rfl rfl) ?_
                      refine TL.nil ?_
                      refine TE.next hK31 ?_
                      clear hK31
                      refine TC.no rfl ?_
                      refine TC.skip ?_
                      refine TE.next hK30 ?_
                      clear hK30
                      refine TC.seq (fun K33 hK33 => ?_)
                      refine TC.region ?_
                      refine TL.v (Want.plain rfl) rfl rfl (PV.move rfl rfl) ?_
                      refine TL.v (Want.plain rfl) rfl rfl (PV.move rfl rfl) ?_
                      refine TL.callR (A := []) (B := [blkA b124 [vl] 28, own v125 ((had3 ++ [bl]).length) (us3 ++ [vl]) 28 1, blkA lgE [(.pointer (some ⟨d, 0, none⟩)), (.int .i64 ((((ls).length : Nat) : Int))), (.int .i64 (((sizeS (ls) : Nat) : Int)))] 71, recsP 28 5 vrE (ls), dk d (DE), own vh3 ((had3).length) (us3) 28 1]) (Want.plain rfl) rfl rfl rfl nm26 rfl (same_does vrE vh3 (ls) (had3)) (fun _ s => s) (fun g d s => ⟨isBB_recs 3 rfl rfl g d s, isBB_own 5 rfl rfl s (Vals.more hV3 d).2⟩) (fun vR HR hR => ?_)
                      obtain ⟨rfl, rfl⟩ := hR
                      change TL _ _ _ _ _ _ _ _ _ [blkA b124 [vl] 28, own v125 ((had3 ++ [bl]).length) (us3 ++ [vl]) 28 1, blkA lgE [(.pointer (some ⟨d, 0, none⟩)), (.int .i64 ((((ls).length : Nat) : Int))), (.int .i64 (((sizeS (ls) : Nat) : Int)))] 71, recsP 28 5 vrE (ls), dk d (DE), own vh3 ((had3).length) (us3) 28 1]
                      refine TL.dec (fun h134 => ?_) (fun h134 => ?_)
                      · skip
                        refine TL.v (Want.plain rfl) rfl rfl (PV.not (r := false) rfl rfl rfl) ?_
                        refine TL.nil ?_
                        refine TE.next hK33 ?_
                        clear hK33
                        refine TC.no rfl ?_
                        refine TC.skip ?_
                        refine TE.blockEnd ?_
                        refine TE.next hK15 ?_
                        clear hK15
                        refine TC.region ?_
                        refine TL.v (Want.plain rfl) rfl rfl (PV.add rfl rfl rfl (wrap_i64 (by omega) (by omega))) ?_
                        refine TL.v (Want.plain rfl) rfl rfl (PV.move rfl rfl) ?_
                        refine TL.nil ?_
                        exact TE.round ((k + 1, had3, DE, vh3, us3) : (Nat) × (List (List UInt8)) × (DS) × (Value) × (List Value)) ⟨by omega, (by rw [← h134]; exact hLE), haE, hdE, hvh3, hV3⟩ (by show L.length - (k + 1) < L.length - k; omega)
                          (Sub.r (Sub.r (Sub.r (Sub.r (Sub.r (Sub.r (Sub.cons rfl (by simp) (Sub.nil _))))))))
                          (fun _ s => sep_keep [5, 4] rfl s)
                      · exact absurd (by first | exact h126 | (rcases hls2 with r | ⟨r1, r2⟩; exact r; first | exact absurd r2 h126 | (rw [h118] at r1; cases r1))) h134
                  · skip
                    refine TL.v (Want.plain rfl) rfl rfl (PV.move rfl rfl) ?_
                    refine TL.unmet (b := false) rfl rfl rfl rfl (lb rfl) ?_
                    refine TL.unmet (b := false) rfl rfl rfl rfl (lb rfl) ?_
                    refine TL.unmet (b := false) rfl rfl rfl rfl (lb rfl) ?_
                    refine TL.unmet (b := false) rfl rfl rfl rfl (lb rfl) ?_
                    refine TL.unmet (b := false) rfl rfl rfl rfl (lb rfl) ?_
                    refine TL.unmet (b := false) rfl rfl rfl rfl (lb rfl) ?_
                    refine TL.unmet (b := false) rfl rfl rfl rfl (lb rfl) ?_
                    refine TL.v (Want.plain rfl) rfl rfl (PV.pick rfl rfl rfl) ?_
                    refine TL.nil ?_
                    refine TE.next hK31 ?_
                    clear hK31
                    refine TC.no rfl ?_
                    refine TC.skip ?_
                    refine TE.next hK30 ?_
                    clear hK30
                    refine TC.seq (fun K34 hK34 => ?_)
                    refine TC.region ?_
                    refine TL.v (Want.plain rfl) rfl rfl (PV.move rfl rfl) ?_
                    refine TL.v (Want.plain rfl) rfl rfl (PV.move rfl rfl) ?_
                    refine TL.callR (A := []) (B := [blkA lgE [(.pointer (some ⟨d, 0, none⟩)), (.int .i64 ((((ls).length : Nat) : Int))), (.int .i64 (((sizeS (ls) : Nat) : Int)))] 71, recsP 28 5 vrE (ls), dk d (DE), own vh3 ((had3).length) (us3) 28 1]) (Want.plain rfl) rfl rfl rfl nm26 rfl (same_does vrE vh3 (ls) (had3)) (fun _ s => s) (fun g d s => ⟨isBB_recs 1 rfl rfl g d s, isBB_own 3 rfl rfl s (Vals.more hV3 d).2⟩) (fun vR HR hR => ?_)
                    obtain ⟨rfl, rfl⟩ := hR
                    change TL _ _ _ _ _ _ _ _ _ [blkA lgE [(.pointer (some ⟨d, 0, none⟩)), (.int .i64 ((((ls).length : Nat) : Int))), (.int .i64 (((sizeS (ls) : Nat) : Int)))] 71, recsP 28 5 vrE (ls), dk d (DE), own vh3 ((had3).length) (us3) 28 1]
                    refine TL.dec (fun h134 => ?_) (fun h134 => ?_)
                    · skip
                      refine TL.v (Want.plain rfl) rfl rfl (PV.not (r := false) rfl rfl rfl) ?_
                      refine TL.nil ?_
                      refine TE.next hK34 ?_
                      clear hK34
                      refine TC.no rfl ?_
                      refine TC.skip ?_
                      refine TE.blockEnd ?_
                      refine TE.next hK15 ?_
                      clear hK15
                      refine TC.region ?_
                      refine TL.v (Want.plain rfl) rfl rfl (PV.add rfl rfl rfl (wrap_i64 (by omega) (by omega))) ?_
                      refine TL.v (Want.plain rfl) rfl rfl (PV.move rfl rfl) ?_
                      refine TL.nil ?_
                      exact TE.round ((k + 1, had3, DE, vh3, us3) : (Nat) × (List (List UInt8)) × (DS) × (Value) × (List Value)) ⟨by omega, (by rw [← h134]; exact hLE), haE, hdE, hvh3, hV3⟩ (by show L.length - (k + 1) < L.length - k; omega)
                        (Sub.r (Sub.r (Sub.r (Sub.r (Sub.r (Sub.r (Sub.cons rfl (by simp) (Sub.nil _))))))))
                        (fun _ s => sep_keep [3, 2] rfl s)
                    · exact absurd (by first | exact h126 | (rcases hls2 with r | ⟨r1, r2⟩; exact r; first | exact absurd r2 h126 | (rw [h118] at r1; cases r1))) h134
                exact AllT.nil
              clear hK25
              refine TC.seq (fun K35 hK35 => ?_)
              refine TC.region ?_
              refine TL.v (Want.plain rfl) rfl rfl (PV.move rfl rfl) ?_
              refine TL.v (Want.plain rfl) rfl rfl (PV.lenV rfl Try.underlying44 rfl hu_a.len) ?_
              refine TL.v (Want.plain rfl) rfl rfl (PV.move rfl rfl) ?_
              refine TL.nil ?_
              refine TE.next hK35 ?_
              clear hK35
              refine TC.block ?_
              refine TC.loop (α := (Nat) × (List (List UInt8)) × (DS) × (Value) × (List Value)) (fun ⟨j, had2, D2, vh2, us2⟩ => j ≤ L[k].length ∧ LogD D2 had2 ∧ D2.dn = false ∧ vh2.oneCell' = true ∧ Vals us2 had2 F) (fun ⟨j, had2, D2, vh2, us2⟩ => [(1, y), (2, z), (7, (.pointer (some ⟨d, 0, none⟩))), (8, vh2), (9, (.int .i64 (((k : Nat) : Int)))), (11, (.pointer (some ⟨lgB, 0, none⟩))), (14, (.slice none 0 0)), (15, (.bool false)), (41, x), (42, (.int .i64 (((L.length : Nat) : Int)))), (43, (.int .i64 (((k : Nat) : Int)))), (72, u_a), (73, (.int .i64 (((L[k].length : Nat) : Int)))), (74, (.int .i64 (((j : Nat) : Int))))]) (fun ⟨j, had2, D2, vh2, us2⟩ => [blkA lgB [(.pointer (some ⟨d, 0, none⟩)), (.int .i64 ((((had2).length : Nat) : Int))), (.int .i64 (((sizeS (had2) : Nat) : Int)))] 71, own vh2 ((had2).length) (us2) 28 1, dk d (D2)]) (fun ⟨j, had2, D2, vh2, us2⟩ => L[k].length - j) (0, had, DB.arm ((q : Nat) : Int), vh, us)
                  ⟨Nat.zero_le _, hLB.arm (by omega), hdB, hvh, hV⟩ (Sub.r (Sub.r (Sub.r (Sub.r (Sub.r (Sub.r (Sub.r (Sub.r (Sub.r (Sub.r (Sub.r (Sub.r (Sub.r (Sub.cons rfl (by congr 1) (Sub.nil _)))))))))))))))
                  (fun _ s => sep_keep [1, 2, 0] rfl s) (fun ⟨j, had2, D2, vh2, us2⟩ hinv => ?_)
              obtain ⟨hj, hL2, hd2, hvh2, hV2⟩ := hinv
              have hln2 := hL2.len
              refine TC.seq (fun K36 hK36 => ?_)
              refine TC.region ?_
              refine TL.v (Want.plain rfl) rfl rfl (PV.lss rfl rfl rfl) ?_
              refine TL.dec (fun h75 => ?_) (fun h75 => ?_)
              · skip
                obtain ⟨b_b, off_b, cap_b, cs_b, T_b, z_b, us_b, hv_b, hc_b, hb_b, hl_b, hs_b, hE_b⟩ := IsL.at hu_a (j := j) (by omega)
                obtain ⟨u_b, rfl, hu_b⟩ := hE_b
                refine TL.nil ?_
                refine TE.next hK36 ?_
                clear hK36
                refine TC.seq (fun K37 hK37 => ?_)
                refine TC.yes rfl ?_
                refine TC.skip ?_
                refine TE.next hK37 ?_
                clear hK37
                refine TC.seq (fun K38 hK38 => ?_)
                refine TC.block ?_
                refine TC.seq (fun K39 hK39 => ?_)
                refine TC.region ?_
                refine TL.v (Want.plain rfl) rfl rfl (PV.indexSlV (r := off_b + j) hv_b rfl Try.underlying44 sz28 rfl rfl (by omega) (by omega) (by omega)) ?_
                refine TL.v (Want.plain rfl) rfl rfl (PV.load1X (v := u_b) rfl Try.underlying28 rfl rfl (RdX.frm hb_b (fun _ h => Frm.of h)) (by have := stretch_get (j := 0) hs_b rfl; simpa using this)) ?_
                refine TL.v (Want.plain rfl) rfl rfl (PV.assign rfl rfl) ?_
                refine TL.nil ?_
                refine TE.next hK39 ?_
                clear hK39
                refine TC.seq (fun K40 hK40 => ?_)
                refine TC.seq (fun K41 hK41 => ?_)
                refine TC.region ?_
                refine TL.v (Want.plain rfl) rfl rfl (PV.move rfl rfl) ?_
                refine TL.v (Want.plain rfl) rfl rfl (PV.lenV rfl Try.underlying28 rfl hu_b.len) ?_
                refine TL.v (Want.plain rfl) rfl rfl (PV.gtr rfl rfl rfl) ?_
                refine TL.dec (fun h80 => ?_) (fun h80 => ?_)
                · skip
                  refine TL.nil ?_
                  refine TE.next hK41 ?_
                  clear hK41
                  refine TC.yes rfl ?_
                  refine TC.seq (fun K42 hK42 => ?_)
                  refine TC.region ?_
                  refine TL.v (Want.plain rfl) rfl rfl (PV.assign rfl rfl) ?_
                  refine TL.nil ?_
                  refine TE.next hK42 ?_
                  clear hK42
                  refine TC.ret ?_
                  refine TE.passRet ?_
                  clear hK40
                  refine TE.blockRet ?_
                  refine TE.passRet ?_
                  clear hK38
                  refine TE.passRet ?_
                  refine TE.blockRet ?_
                  refine TE.passRet ?_
                  refine TE.blockRet ?_
                  refine TE.passRet ?_
                  clear hK15
                  refine TE.passRet ?_
                  refine TE.blockRet ?_
                  refine TE.passRet ?_
                  clear hK11
                  refine TE.weak (Sub.refl _) (fun _ s => sep_keep [] rfl s) ?_
                  refine TE.ret1 rfl rfl ?_
                  first | exact ⟨rfl, rfl⟩ | exact ⟨congrArg Value.bool (decide_eq_true rfl), rfl⟩
                · skip
                  refine TL.nil ?_
                  refine TE.next hK41 ?_
                  clear hK41
                  refine TC.no rfl ?_
                  refine TC.skip ?_
                  refine TE.next hK40 ?_
                  clear hK40
                  refine TC.seq (fun K43 hK43 => ?_)
                  refine TC.seq (fun K44 hK44 => ?_)
                  refine TC.region ?_
                  refine TL.v (Want.plain rfl) rfl rfl (PV.move rfl rfl) ?_
                  refine TL.v (Want.plain rfl) rfl rfl (PV.move rfl rfl) ?_
                  refine TL.callR (A := [blkA lgB [(.pointer (some ⟨d, 0, none⟩)), (.int .i64 ((((had2).length : Nat) : Int))), (.int .i64 (((sizeS (had2) : Nat) : Int)))] 71, dk d (D2)]) (B := [own vh2 ((had2).length) (us2) 28 1]) (Want.plain rfl) rfl rfl rfl nm27 rfl (putLog_does lgB d (D2) (had2) u_b (L[k][j]) hL2 hd2) (fun _ s => sep_selR [0, 1] rfl s) (fun g d _ => IsW.more hu_b d) (fun vR HR hR => ?_)
                  rcases hR with ⟨hlongP, rfl, rfl⟩ | ⟨hshP, hfullP, rfl, rfl⟩ | ⟨hshP, hroomP, DP, hLP, hdP, haP, rfl, rfl⟩ | ⟨hshP, harP, DP, hHP, rfl, rfl⟩
                  · exact absurd hlongP (by omega)
                  · skip
                    change TL _ _ _ _ _ _ _ _ _ [blkA lgB [(.pointer (some ⟨d, 0, none⟩)), (.int .i64 ((((had2).length : Nat) : Int))), (.int .i64 (((sizeS (had2) : Nat) : Int)))] 71, dk d (D2), own vh2 ((had2).length) (us2) 28 1]
                    refine TL.v (Want.plain rfl) rfl rfl (PV.neq rfl rfl rfl) ?_
                    refine TL.nil ?_
                    refine TE.next hK44 ?_
                    clear hK44
                    refine TC.yes rfl ?_
                    refine TC.seq (fun K45 hK45 => ?_)
                    refine TC.region ?_
                    refine TL.v (Want.plain rfl) rfl rfl (PV.move rfl rfl) ?_
                    refine TL.v (Want.plain rfl) rfl rfl (PV.assign rfl rfl) ?_
                    refine TL.v (Want.plain rfl) rfl rfl (PV.assign rfl rfl) ?_
                    refine TL.nil ?_
                    refine TE.next hK45 ?_
                    clear hK45
                    refine TC.exit ?_
                    refine TE.pass ?_
                    clear hK43
                    refine TE.miss (by decide) ?_
                    refine TE.pass ?_
                    clear hK38
                    refine TE.pass ?_
                    refine TE.hit ?_
                    exact TE.weak
                      (Sub.r (Sub.r (Sub.r (Sub.r (Sub.r (Sub.r (Sub.r (Sub.r (Sub.r (Sub.r (Sub.nil _)))))))))))
                      (fun _ s => sep_keep [2, 1] rfl s)
                      (tl25 ((had2, D2, vh2, us2, u_b, L[k][j], true) : (List (List UInt8)) × (DS) × (Value) × (List Value) × (Value) × (List UInt8) × (Bool)) ⟨.inl hL2, hvh2, hV2, hln2, hu_b⟩)
                  · skip
                    change TL _ _ _ _ _ _ _ _ _ [blkA lgB [(.pointer (some ⟨d, 0, none⟩)), (.int .i64 (((((had2) ++ [L[k][j]]).length : Nat) : Int))), (.int .i64 (((sizeS ((had2) ++ [L[k][j]]) : Nat) : Int)))] 71, dk d (DP), own vh2 ((had2).length) (us2) 28 1]
                    refine TL.v (Want.plain rfl) rfl rfl (PV.neq rfl rfl rfl) ?_
                    refine TL.nil ?_
                    refine TE.next hK44 ?_
                    clear hK44
                    refine TC.no rfl ?_
                    refine TC.skip ?_
                    refine TE.next hK43 ?_
                    clear hK43
                    refine TC.region ?_
                    refine TL.v (Want.plain rfl) rfl rfl (PV.move rfl rfl) ?_
                    refine TL.v (Want.plain rfl) rfl rfl (PV.move rfl rfl) ?_
                    refine TL.buildSlice (cells := #[u_b]) (Want.plain rfl) rfl rfl rfl Try.underlying44 in28 rfl rfl rfl (fill_one hu_b.one (by simp)) (fun b88 => ?_)
                    change TL _ _ _ _ _ _ _ _ _ [blkA b88 [u_b] 28, blkA lgB [(.pointer (some ⟨d, 0, none⟩)), (.int .i64 (((((had2) ++ [L[k][j]]).length : Nat) : Int))), (.int .i64 (((sizeS ((had2) ++ [L[k][j]]) : Nat) : Int)))] 71, dk d (DP), own vh2 ((had2).length) (us2) 28 1]
                    refine TL.append (k := 3) (m := 1) (news := [u_b]) (nn' := (had2 ++ [L[k][j]]).length) (xs' := us2 ++ [u_b]) (Want.plain rfl) rfl rfl rfl Try.underlying44 in28 rfl rfl rfl rfl rfl rfl (fun _ _ => Src.rd rfl (Rd.own 0 rfl rfl) rfl) (List.forall_mem_cons.2 ⟨hu_b.one, fun _ h => by cases h⟩) (by simp only [maxLen]; omega) (by omega) (by rw [List.length_append]; rfl) rfl (fun v89 ov89 => ?_)
                    change TL _ _ _ _ _ _ _ _ _ [blkA b88 [u_b] 28, blkA lgB [(.pointer (some ⟨d, 0, none⟩)), (.int .i64 (((((had2) ++ [L[k][j]]).length : Nat) : Int))), (.int .i64 (((sizeS ((had2) ++ [L[k][j]]) : Nat) : Int)))] 71, dk d (DP), own v89 ((had2 ++ [L[k][j]]).length) (us2 ++ [u_b]) 28 1]
                    refine TL.v (Want.plain rfl) rfl rfl (PV.assign rfl rfl) ?_
                    refine TL.nil ?_
                    refine TE.blockEnd ?_
                    refine TE.next hK38 ?_
                    clear hK38
                    refine TC.region ?_
                    refine TL.v (Want.plain rfl) rfl rfl (PV.add rfl rfl rfl (wrap_i64 (by omega) (by omega))) ?_
                    refine TL.v (Want.plain rfl) rfl rfl (PV.move rfl rfl) ?_
                    refine TL.nil ?_
                    exact TE.round ((j + 1, had2 ++ [L[k][j]], DP, v89, us2 ++ [u_b]) : (Nat) × (List (List UInt8)) × (DS) × (Value) × (List Value)) ⟨by omega, hLP, hdP, ov89, (Vals.add hV2 hu_b)⟩ (by show L[k].length - (j + 1) < L[k].length - j; omega)
                      (Sub.r (Sub.r (Sub.r (Sub.r (Sub.r (Sub.r (Sub.r (Sub.r (Sub.r (Sub.r (Sub.r (Sub.r (Sub.r (Sub.cons rfl (by simp) (Sub.nil _)))))))))))))))
                      (fun _ s => sep_keep [1, 2, 1] rfl s)
                  · skip
                    change TL _ _ _ _ _ _ _ _ _ [blkA lgB [(.pointer (some ⟨d, 0, none⟩)), (.int .i64 ((((had2).length : Nat) : Int))), (.int .i64 (((sizeS (had2) : Nat) : Int)))] 71, dk d (DP), own vh2 ((had2).length) (us2) 28 1]
                    refine TL.v (Want.plain rfl) rfl rfl (PV.neq rfl rfl rfl) ?_
                    refine TL.nil ?_
                    refine TE.next hK44 ?_
                    clear hK44
                    refine TC.yes rfl ?_
                    refine TC.seq (fun K46 hK46 => ?_)
                    refine TC.region ?_
                    refine TL.v (Want.plain rfl) rfl rfl (PV.move rfl rfl) ?_
                    refine TL.v (Want.plain rfl) rfl rfl (PV.assign rfl rfl) ?_
                    refine TL.v (Want.plain rfl) rfl rfl (PV.assign rfl rfl) ?_
                    refine TL.nil ?_
                    refine TE.next hK46 ?_
                    clear hK46
                    refine TC.exit ?_
                    refine TE.pass ?_
                    clear hK43
                    refine TE.miss (by decide) ?_
                    refine TE.pass ?_
                    clear hK38
                    refine TE.pass ?_
                    refine TE.hit ?_
                    exact TE.weak
                      (Sub.r (Sub.r (Sub.r (Sub.r (Sub.r (Sub.r (Sub.r (Sub.r (Sub.r (Sub.r (Sub.nil _)))))))))))
                      (fun _ s => sep_keep [2, 1] rfl s)
                      (tl25 ((had2, DP, vh2, us2, u_b, L[k][j], true) : (List (List UInt8)) × (DS) × (Value) × (List Value) × (Value) × (List UInt8) × (Bool)) ⟨.inr ⟨_, rfl, hHP⟩, hvh2, hV2, hln2, hu_b⟩)
              · skip
                refine TL.nil ?_
                refine TE.next hK36 ?_
                clear hK36
                refine TC.seq (fun K47 hK47 => ?_)
                refine TC.no rfl ?_
                refine TC.exit ?_
                refine TE.pass ?_
                clear hK47
                refine TE.pass ?_
                refine TE.hit ?_
                exact TE.weak
                  (Sub.r (Sub.r (Sub.r (Sub.r (Sub.r (Sub.r (Sub.r (Sub.r (Sub.r (Sub.r (Sub.nil _)))))))))))
                  (fun _ s => sep_keep [1, 1] rfl s)
                  (tl25 ((had2, D2, vh2, us2, (.slice none 0 0), [], false) : (List (List UInt8)) × (DS) × (Value) × (List Value) × (Value) × (List UInt8) × (Bool)) ⟨.inl hL2, hvh2, hV2, hln2, .inl (.inl ⟨rfl, rfl⟩)⟩)
            · exact absurd rfl h62
          · skip
            refine TL.v (Want.plain rfl) rfl rfl (PV.not (r := true) rfl rfl rfl) ?_
            refine TL.nil ?_
            refine TE.next hK18 ?_
            clear hK18
            refine TC.yes rfl ?_
            refine TC.seq (fun K48 hK48 => ?_)
            refine TC.region ?_
            refine TL.v (Want.plain rfl) rfl rfl (PV.assign rfl rfl) ?_
            refine TL.nil ?_
            refine TE.next hK48 ?_
            clear hK48
            refine TC.ret ?_
            refine TE.passRet ?_
            clear hK17
            refine TE.blockRet ?_
            refine TE.passRet ?_
            clear hK15
            refine TE.passRet ?_
            refine TE.blockRet ?_
            refine TE.passRet ?_
            clear hK11
            refine TE.weak (Sub.refl _) (fun _ s => sep_keep [] rfl s) ?_
            refine TE.ret1 rfl rfl ?_
            first | exact ⟨rfl, rfl⟩ | exact ⟨congrArg Value.bool (decide_eq_true rfl), rfl⟩
        · skip
          refine TL.nil ?_
          refine TE.next hK13 ?_
          clear hK13
          refine TC.seq (fun K49 hK49 => ?_)
          refine TC.no rfl ?_
          refine TC.exit ?_
          refine TE.pass ?_
          clear hK49
          refine TE.pass ?_
          refine TE.hit ?_
          refine TE.next hK11 ?_
          clear hK11
          refine TC.seq (fun K50 hK50 => ?_)
          refine TC.region ?_
          refine TL.v (Want.plain rfl) rfl rfl (PV.assign rfl rfl) ?_
          refine TL.nil ?_
          refine TE.next hK50 ?_
          clear hK50
          refine TC.ret ?_
          refine TE.weak (Sub.refl _) (fun _ s => sep_keep [] rfl s) ?_
          refine TE.ret1 rfl rfl ?_
          first | exact ⟨rfl, rfl⟩ | exact ⟨congrArg Value.bool (decide_eq_true rfl), rfl⟩


end Go.Proofs.Ytocdameafihnaaa
