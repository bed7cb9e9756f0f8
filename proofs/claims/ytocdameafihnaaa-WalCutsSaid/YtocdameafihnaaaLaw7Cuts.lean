/-
  Of a log of which a sector was changed the records ahead of that are there, and none behind: walked.
-/

import Derived.Test.YtocdameafihnaaaLaw7A

namespace Go.Proofs.Ytocdameafihnaaa

open Go Leg Codec Api Dsk Wal

set_option maxRecDepth 100000

theorem walCuts_does (x y : Value) (l : List (List UInt8)) (at' : Int) (b : List UInt8) :
    Does Try.prog 7 #[x, (.int .i64 (at')), y] (fun F => IsBB x l F ∧ IsB y b F) [] (Ret (fun v H => v = .bool true ∧ H = [])) := by
  refine Does.body (vs := [x, (.int .i64 (at')), y]) (n := 99) Try.func7 rfl rfl rfl (fun w0 F hF => ?_)
  obtain ⟨m, hm, hm2⟩ : ∃ m : Nat, andI .i64 at' 65535 = ((m : Nat) : Int) ∧ m < 65536 := ⟨(at' % 65536).toNat, by rw [and16]; omega, by omega⟩
  refine TC.seq (fun K1 hK1 => ?_)
  refine TC.region ?_
  refine TL.v (Want.plain rfl) rfl rfl (PV.assign rfl rfl) ?_
  refine TL.nil ?_
  refine TE.next hK1 ?_
  clear hK1
  refine TC.seq (fun K2 hK2 => ?_)
  refine TC.seq (fun K3 hK3 => ?_)
  refine TC.region ?_
  refine TL.callR (A := []) (B := []) (Want.plain rfl) rfl rfl rfl nm23 rfl (fit7_does ) (fun _ s => s) (fun _ _ _ => trivial) (fun vR HR hR => ?_)
  obtain ⟨rfl, rfl⟩ := hR
  change TL _ _ _ _ _ _ _ _ _ []
  refine TL.v (Want.plain rfl) rfl rfl (PV.not (r := false) rfl rfl rfl) ?_
  refine TL.nil ?_
  refine TE.next hK3 ?_
  clear hK3
  refine TC.no rfl ?_
  refine TC.skip ?_
  refine TE.next hK2 ?_
  clear hK2
  refine TC.seq (fun K4 hK4 => ?_)
  refine TC.seq (fun K5 hK5 => ?_)
  refine TC.region ?_
  refine TL.v (Want.plain rfl) rfl rfl (PV.move rfl rfl) ?_
  refine TL.callR (A := []) (B := []) (Want.plain rfl) rfl rfl rfl nm24 rfl (few_does x l) (fun _ s => s) (fun g d _ => IsL.more EB.more hF.1 d) (fun vR HR hR => ?_)
  obtain ⟨bf, rfl, hbf, rfl⟩ := hR
  change TL _ _ _ _ _ _ _ _ _ []
  refine TL.decB (fun h22 => ?_) (fun h22 => ?_)
  · skip
    have hl100 := hbf h22
    refine TL.v (Want.plain rfl) rfl rfl (PV.not (r := false) rfl rfl rfl) ?_
    refine TL.v (Want.plain rfl) rfl rfl (PV.move rfl rfl) ?_
    refine TL.v (Want.met rfl rfl rfl) rfl rfl (PV.move rfl rfl) ?_
    refine TL.v (Want.met rfl rfl rfl) rfl rfl (PV.lenV rfl Try.underlying44 rfl hF.1.len) ?_
    refine TL.v (Want.met rfl rfl rfl) rfl rfl (PV.eql rfl rfl rfl) ?_
    refine TL.dec (fun h27 => ?_) (fun h27 => ?_)
    · skip
      refine TL.v (Want.plain rfl) rfl rfl (PV.pick rfl rfl rfl) ?_
      refine TL.v (Want.plain rfl) rfl rfl (PV.move rfl rfl) ?_
      refine TL.unmet (b := true) rfl rfl rfl rfl (lb rfl) ?_
      refine TL.unmet (b := true) rfl rfl rfl rfl (lb rfl) ?_
      refine TL.unmet (b := true) rfl rfl rfl rfl (lb rfl) ?_
      refine TL.v (Want.plain rfl) rfl rfl (PV.pick rfl rfl rfl) ?_
      refine TL.nil ?_
      refine TE.next hK5 ?_
      clear hK5
      refine TC.yes rfl ?_
      refine TC.seq (fun K6 hK6 => ?_)
      refine TC.region ?_
      refine TL.v (Want.plain rfl) rfl rfl (PV.assign rfl rfl) ?_
      refine TL.nil ?_
      refine TE.next hK6 ?_
      clear hK6
      refine TC.ret ?_
      refine TE.passRet ?_
      clear hK4
      refine TE.weak (Sub.refl _) (fun _ s => sep_keep [] rfl s) ?_
      refine TE.ret1 rfl rfl ?_
      first | exact ⟨rfl, rfl⟩ | exact ⟨congrArg Value.bool (decide_eq_true (by rw [hjn])), rfl⟩
    · skip
      refine TL.v (Want.plain rfl) rfl rfl (PV.pick rfl rfl rfl) ?_
      refine TL.v (Want.plain rfl) rfl rfl (PV.move rfl rfl) ?_
      refine TL.v (Want.met rfl rfl rfl) rfl rfl (PV.move rfl rfl) ?_
      refine TL.v (Want.met rfl rfl rfl) rfl rfl (PV.lenV rfl Try.underlying28 rfl (IsB.w hF.2).len) ?_
      refine TL.v (Want.met rfl rfl rfl) rfl rfl (PV.gtr rfl rfl rfl) ?_
      refine TL.dec (fun h32 => ?_) (fun h32 => ?_)
      · skip
        refine TL.v (Want.plain rfl) rfl rfl (PV.pick rfl rfl rfl) ?_
        refine TL.nil ?_
        refine TE.next hK5 ?_
        clear hK5
        refine TC.yes rfl ?_
        refine TC.seq (fun K7 hK7 => ?_)
        refine TC.region ?_
        refine TL.v (Want.plain rfl) rfl rfl (PV.assign rfl rfl) ?_
        refine TL.nil ?_
        refine TE.next hK7 ?_
        clear hK7
        refine TC.ret ?_
        refine TE.passRet ?_
        clear hK4
        refine TE.weak (Sub.refl _) (fun _ s => sep_keep [] rfl s) ?_
        refine TE.ret1 rfl rfl ?_
        first | exact ⟨rfl, rfl⟩ | exact ⟨congrArg Value.bool (decide_eq_true (by rw [hjn])), rfl⟩
      · skip
        refine TL.v (Want.plain rfl) rfl rfl (PV.pick rfl rfl rfl) ?_
        refine TL.nil ?_
        refine TE.next hK5 ?_
        clear hK5
        refine TC.no rfl ?_
        refine TC.skip ?_
        refine TE.next hK4 ?_
        clear hK4
        refine TC.seq (fun K8 hK8 => ?_)
        refine TC.region ?_
        refine TL.callR (A := []) (B := []) (Want.plain rfl) rfl rfl rfl nm13 rfl (dk_new) (fun _ s => s) (fun _ _ _ => trivial) (fun vR HR hR => ?_)
        obtain ⟨d, rfl, rfl⟩ := hR
        change TL _ _ _ _ _ _ _ _ _ [dk d (DS.new)]
        refine TL.v (Want.plain rfl) rfl rfl (PV.assign rfl rfl) ?_
        refine TL.nil ?_
        refine TE.next hK8 ?_
        clear hK8
        refine TC.seq (fun K9 hK9 => ?_)
        refine TC.region ?_
        refine TL.v (Want.plain rfl) rfl rfl (PV.move rfl rfl) ?_
        obtain ⟨DA, heA, hLA, haA, hdA⟩ := LogD.open LogD.new rfl rfl
        refine TL.callR (A := [dk d (DS.new)]) (B := []) (Want.plain rfl) rfl rfl rfl nm25 rfl (openEq_does d (DS.new) DA (([] : List (List UInt8))) ((sizeS (([] : List (List UInt8))) : Nat) : Int) DS.new_ok LogD.new.inn (by decide) heA) (fun _ s => s) (fun _ _ _ => trivial) (fun vR HR hR => ?_)
        obtain ⟨lgA, vrA, rfl, rfl⟩ := hR
        change TL _ _ _ _ _ _ _ _ _ [blkA lgA [(.pointer (some ⟨d, 0, none⟩)), (.int .i64 ((((([] : List (List UInt8))).length : Nat) : Int))), (.int .i64 (((sizeS (([] : List (List UInt8))) : Nat) : Int)))] 71, recsP 28 5 vrA (([] : List (List UInt8))), dk d (DA)]
        refine TL.recsLen 1 rfl rfl (fun hvlA hvoA => ?_)
        refine TL.v (Want.plain rfl) rfl rfl (PV.move rfl rfl) ?_
        refine TL.v (Want.plain rfl) rfl rfl (PV.extract (vs := [(.pointer (some ⟨lgA, 0, none⟩)), vrA, (.int .i64 0)]) rfl rfl rfl) ?_
        refine TL.v (Want.plain rfl) rfl rfl (PV.extract (vs := [(.pointer (some ⟨lgA, 0, none⟩)), vrA, (.int .i64 0)]) rfl rfl rfl) ?_
        refine TL.v (Want.plain rfl) rfl rfl (PV.extract (vs := [(.pointer (some ⟨lgA, 0, none⟩)), vrA, (.int .i64 0)]) rfl rfl rfl) ?_
        refine TL.v (Want.plain rfl) rfl rfl (PV.assign rfl rfl) ?_
        refine TL.v (Want.plain rfl) rfl rfl (PV.assign rfl rfl) ?_
        refine TL.v (Want.plain rfl) rfl rfl (PV.assign rfl rfl) ?_
        refine TL.nil ?_
        refine TE.next hK9 ?_
        clear hK9
        refine TC.seq (fun K10 hK10 => ?_)
        refine TC.region ?_
        refine TL.v (Want.plain rfl) rfl rfl (PV.assign rfl rfl) ?_
        refine TL.nil ?_
        refine TE.next hK10 ?_
        clear hK10
        refine TC.seq (fun K11 hK11 => ?_)
        refine TC.region ?_
        refine TL.v (Want.plain rfl) rfl rfl (PV.assign rfl rfl) ?_
        refine TL.nil ?_
        refine TE.next hK11 ?_
        clear hK11
        refine TC.seq (fun K12 hK12 => ?_)
        refine TC.seq (fun K13 hK13 => ?_)
        refine TC.region ?_
        refine TL.v (Want.plain rfl) rfl rfl (PV.move rfl rfl) ?_
        refine TL.v (Want.plain rfl) rfl rfl (PV.lenV rfl Try.underlying44 rfl hF.1.len) ?_
        refine TL.v (Want.plain rfl) rfl rfl (PV.move rfl rfl) ?_
        refine TL.nil ?_
        refine TE.next hK13 ?_
        clear hK13
        refine TC.block ?_
        refine TC.loop (α := (Nat) × (DS) × (Value)) (fun ⟨k, D, ve⟩ => k ≤ l.length ∧ LogD D (l.take k) ∧ D.dn = false ∧ D.ar = false ∧ ve.oneCell' = true) (fun ⟨k, D, ve⟩ => [(0, x), (1, (.int .i64 (at'))), (2, y), (7, (.pointer (some ⟨d, 0, none⟩))), (8, (.pointer (some ⟨lgA, 0, none⟩))), (11, ve), (12, (.int .i64 (((sizeS (l.take k) : Nat) : Int)))), (41, x), (42, (.int .i64 (((l.length : Nat) : Int)))), (43, (.int .i64 (((k : Nat) : Int))))]) (fun ⟨k, D, ve⟩ => [blkA lgA [(.pointer (some ⟨d, 0, none⟩)), (.int .i64 ((((l.take k).length : Nat) : Int))), (.int .i64 (((sizeS (l.take k) : Nat) : Int)))] 71, dk d (D), own ve (k) (ints (endsN l k)) 3 1]) (fun ⟨k, D, ve⟩ => l.length - k) (0, DA, (.slice none 0 0))
            ⟨Nat.zero_le _, hLA, hdA, haA, rfl⟩ (Sub.r (Sub.r (Sub.r (Sub.r (Sub.r (Sub.r (Sub.cons rfl (by congr 1) (Sub.r (Sub.r (Sub.cons rfl (by congr 1) (Sub.nil _)))))))))))
            (fun _ s => sep_perm (List.Perm.trans (List.Perm.swap _ _ _) (List.Perm.cons _ (List.Perm.swap _ _ _))) (sep_ownNil 3 1 (sep_keep [0, 1] rfl s))) (fun ⟨k, D, ve⟩ hinv => ?_)
        obtain ⟨hk, hL, hd, ha, hve⟩ := hinv
        have hro := hL.room
        refine TC.seq (fun K14 hK14 => ?_)
        refine TC.region ?_
        refine TL.v (Want.plain rfl) rfl rfl (PV.lss rfl rfl rfl) ?_
        refine TL.dec (fun h44 => ?_) (fun h44 => ?_)
        · skip
          obtain ⟨b_a, off_a, cap_a, cs_a, T_a, z_a, us_a, hv_a, hc_a, hb_a, hl_a, hs_a, hE_a⟩ := IsL.at hF.1 (j := k) (by omega)
          obtain ⟨u_a, rfl, hu_a⟩ := hE_a
          refine TL.nil ?_
          refine TE.next hK14 ?_
          clear hK14
          refine TC.seq (fun K15 hK15 => ?_)
          refine TC.yes rfl ?_
          refine TC.skip ?_
          refine TE.next hK15 ?_
          clear hK15
          refine TC.seq (fun K16 hK16 => ?_)
          refine TC.block ?_
          refine TC.seq (fun K17 hK17 => ?_)
          refine TC.region ?_
          refine TL.v (Want.plain rfl) rfl rfl (PV.indexSlV (r := off_a + k) hv_a rfl Try.underlying44 sz28 rfl rfl (by omega) (by omega) (by omega)) ?_
          refine TL.v (Want.plain rfl) rfl rfl (PV.load1X (v := u_a) rfl Try.underlying28 rfl rfl (RdX.frm hb_a (fun _ h => Frm.of h)) (by have := stretch_get (j := 0) hs_a rfl; simpa using this)) ?_
          refine TL.v (Want.plain rfl) rfl rfl (PV.assign rfl rfl) ?_
          refine TL.nil ?_
          refine TE.next hK17 ?_
          clear hK17
          refine TC.seq (fun K18 hK18 => ?_)
          refine TC.seq (fun K19 hK19 => ?_)
          refine TC.region ?_
          refine TL.v (Want.plain rfl) rfl rfl (PV.move rfl rfl) ?_
          refine TL.v (Want.plain rfl) rfl rfl (PV.lenV rfl Try.underlying28 rfl hu_a.len) ?_
          refine TL.v (Want.plain rfl) rfl rfl (PV.gtr rfl rfl rfl) ?_
          refine TL.dec (fun h49 => ?_) (fun h49 => ?_)
          · skip
            refine TL.v (Want.plain rfl) rfl rfl (PV.move rfl rfl) ?_
            refine TL.unmet (b := true) rfl rfl rfl rfl (lb rfl) ?_
            refine TL.unmet (b := true) rfl rfl rfl rfl (lb rfl) ?_
            refine TL.unmet (b := true) rfl rfl rfl rfl (lb rfl) ?_
            refine TL.unmet (b := true) rfl rfl rfl rfl (lb rfl) ?_
            refine TL.v (Want.plain rfl) rfl rfl (PV.pick rfl rfl rfl) ?_
            refine TL.nil ?_
            refine TE.next hK19 ?_
            clear hK19
            refine TC.yes rfl ?_
            refine TC.seq (fun K20 hK20 => ?_)
            refine TC.region ?_
            refine TL.v (Want.plain rfl) rfl rfl (PV.assign rfl rfl) ?_
            refine TL.nil ?_
            refine TE.next hK20 ?_
            clear hK20
            refine TC.ret ?_
            refine TE.passRet ?_
            clear hK18
            refine TE.blockRet ?_
            refine TE.passRet ?_
            clear hK16
            refine TE.passRet ?_
            refine TE.blockRet ?_
            refine TE.passRet ?_
            clear hK12
            refine TE.weak (Sub.refl _) (fun _ s => sep_keep [] rfl s) ?_
            refine TE.ret1 rfl rfl ?_
            first | exact ⟨rfl, rfl⟩ | exact ⟨congrArg Value.bool (decide_eq_true (by rw [hjn])), rfl⟩
          · skip
            refine TL.v (Want.plain rfl) rfl rfl (PV.move rfl rfl) ?_
            refine TL.v (Want.met rfl rfl rfl) rfl rfl (PV.move rfl rfl) ?_
            refine TL.v (Want.met rfl rfl rfl) rfl rfl (PV.move rfl rfl) ?_
            refine TL.callR (A := [blkA lgA [(.pointer (some ⟨d, 0, none⟩)), (.int .i64 ((((l.take k).length : Nat) : Int))), (.int .i64 (((sizeS (l.take k) : Nat) : Int)))] 71, dk d (D)]) (B := [own ve (k) (ints (endsN l k)) 3 1]) (Want.met rfl rfl rfl) rfl rfl rfl nm27 rfl (putLog_does lgA d (D) (l.take k) u_a (l[k]) hL hd) (fun _ s => s) (fun g d _ => IsW.more hu_a d) (fun vR HR hR => ?_)
            rcases hR with ⟨hlongP, rfl, rfl⟩ | ⟨hshP, hfullP, rfl, rfl⟩ | ⟨hshP, hroomP, DP, hLP, hdP, haP, rfl, rfl⟩ | ⟨hshP, harP, DP, hHP, rfl, rfl⟩
            · exact absurd hlongP (by omega)
            · skip
              change TL _ _ _ _ _ _ _ _ _ [blkA lgA [(.pointer (some ⟨d, 0, none⟩)), (.int .i64 ((((l.take k).length : Nat) : Int))), (.int .i64 (((sizeS (l.take k) : Nat) : Int)))] 71, dk d (D), own ve (k) (ints (endsN l k)) 3 1]
              refine TL.v (Want.met rfl rfl rfl) rfl rfl (PV.neq rfl rfl rfl) ?_
              refine TL.v (Want.plain rfl) rfl rfl (PV.pick rfl rfl rfl) ?_
              refine TL.nil ?_
              refine TE.next hK19 ?_
              clear hK19
              refine TC.yes rfl ?_
              refine TC.seq (fun K21 hK21 => ?_)
              refine TC.region ?_
              refine TL.v (Want.plain rfl) rfl rfl (PV.assign rfl rfl) ?_
              refine TL.nil ?_
              refine TE.next hK21 ?_
              clear hK21
              refine TC.ret ?_
              refine TE.passRet ?_
              clear hK18
              refine TE.blockRet ?_
              refine TE.passRet ?_
              clear hK16
              refine TE.passRet ?_
              refine TE.blockRet ?_
              refine TE.passRet ?_
              clear hK12
              refine TE.weak (Sub.refl _) (fun _ s => sep_keep [] rfl s) ?_
              refine TE.ret1 rfl rfl ?_
              first | exact ⟨rfl, rfl⟩ | exact ⟨congrArg Value.bool (decide_eq_true (by rw [hjn])), rfl⟩
            · skip
              have hnxP : ((l.take k) ++ [l[k]] : List (List UInt8)) = l.take (k + 1) := (List.take_succ_eq_append_getElem (by omega)).symm
              rw [hnxP] at hLP ⊢
              change TL _ _ _ _ _ _ _ _ _ [blkA lgA [(.pointer (some ⟨d, 0, none⟩)), (.int .i64 ((((l.take (k + 1)).length : Nat) : Int))), (.int .i64 (((sizeS (l.take (k + 1)) : Nat) : Int)))] 71, dk d (DP), own ve (k) (ints (endsN l k)) 3 1]
              refine TL.v (Want.met rfl rfl rfl) rfl rfl (PV.neq rfl rfl rfl) ?_
              refine TL.v (Want.plain rfl) rfl rfl (PV.pick rfl rfl rfl) ?_
              refine TL.nil ?_
              refine TE.next hK19 ?_
              clear hK19
              refine TC.no rfl ?_
              refine TC.skip ?_
              refine TE.next hK18 ?_
              clear hK18
              refine TC.seq (fun K22 hK22 => ?_)
              refine TC.region ?_
              refine TL.v (Want.plain rfl) rfl rfl (PV.move rfl rfl) ?_
              refine TL.v (Want.plain rfl) rfl rfl (PV.move rfl rfl) ?_
              refine TL.v (Want.plain rfl) rfl rfl (PV.lenV rfl Try.underlying28 rfl hu_a.len) ?_
              refine TL.callR (A := []) (B := [blkA lgA [(.pointer (some ⟨d, 0, none⟩)), (.int .i64 ((((l.take (k + 1)).length : Nat) : Int))), (.int .i64 (((sizeS (l.take (k + 1)) : Nat) : Int)))] 71, dk d (DP), own ve (k) (ints (endsN l k)) 3 1]) (Want.plain rfl) rfl rfl rfl nm28 rfl (pieces_does l[k].length (by omega)) (fun _ s => s) (fun _ _ _ => trivial) (fun vR HR hR => ?_)
              obtain ⟨rfl, rfl⟩ := hR
              change TL _ _ _ _ _ _ _ _ _ [blkA lgA [(.pointer (some ⟨d, 0, none⟩)), (.int .i64 ((((l.take (k + 1)).length : Nat) : Int))), (.int .i64 (((sizeS (l.take (k + 1)) : Nat) : Int)))] 71, dk d (DP), own ve (k) (ints (endsN l k)) 3 1]
              refine TL.v (Want.plain rfl) rfl rfl (PV.to (v' := (.int .i64 (((sizeS (l.take (k + 1)) : Nat) : Int)))) (PV.add rfl rfl rfl (wrap_i64 (by omega) (by omega))) (congrArg (Value.int .i64) (by rw [sizeS_step (show k < l.length by omega)]; simp))) ?_
              refine TL.v (Want.plain rfl) rfl rfl (PV.assign rfl rfl) ?_
              refine TL.nil ?_
              refine TE.next hK22 ?_
              clear hK22
              refine TC.region ?_
              refine TL.v (Want.plain rfl) rfl rfl (PV.move rfl rfl) ?_
              refine TL.v (Want.plain rfl) rfl rfl (PV.move rfl rfl) ?_
              refine TL.buildSlice (cells := #[(.int .i64 (((sizeS (l.take (k + 1)) : Nat) : Int)))]) (Want.plain rfl) rfl rfl rfl Try.underlying47 in3 rfl rfl rfl (by as_aux_lemma => kernel_rfl) (fun b63 => ?_)
              change TL _ _ _ _ _ _ _ _ _ [blkA b63 [(.int .i64 (((sizeS (l.take (k + 1)) : Nat) : Int)))] 3, blkA lgA [(.pointer (some ⟨d, 0, none⟩)), (.int .i64 ((((l.take (k + 1)).length : Nat) : Int))), (.int .i64 (((sizeS (l.take (k + 1)) : Nat) : Int)))] 71, dk d (DP), own ve (k) (ints (endsN l k)) 3 1]
              refine TL.append (k := 3) (news := [(.int .i64 (((sizeS (l.take (k + 1)) : Nat) : Int)))]) (nn' := k + 1) (xs' := ints (endsN l (k + 1))) (Want.plain rfl) rfl rfl rfl Try.underlying47 in3 rfl rfl rfl rfl rfl rfl (fun _ _ => Src.rd rfl (Rd.own 0 rfl rfl) rfl) (by simp [Value.oneCell']) (by simp only [maxLen]; omega) (by omega) rfl (by rw [endsN_succ]; simp [ints]) (fun v64 ov64 => ?_)
              change TL _ _ _ _ _ _ _ _ _ [blkA b63 [(.int .i64 (((sizeS (l.take (k + 1)) : Nat) : Int)))] 3, blkA lgA [(.pointer (some ⟨d, 0, none⟩)), (.int .i64 ((((l.take (k + 1)).length : Nat) : Int))), (.int .i64 (((sizeS (l.take (k + 1)) : Nat) : Int)))] 71, dk d (DP), own v64 (k + 1) (ints (endsN l (k + 1))) 3 1]
              refine TL.v (Want.plain rfl) rfl rfl (PV.assign rfl rfl) ?_
              refine TL.nil ?_
              refine TE.blockEnd ?_
              refine TE.next hK16 ?_
              clear hK16
              refine TC.region ?_
              refine TL.v (Want.plain rfl) rfl rfl (PV.add rfl rfl rfl (wrap_i64 (by omega) (by omega))) ?_
              refine TL.v (Want.plain rfl) rfl rfl (PV.move rfl rfl) ?_
              refine TL.nil ?_
              exact TE.round ((k + 1, DP, v64) : (Nat) × (DS) × (Value)) ⟨by omega, hLP, hdP, haP.trans ha, ov64⟩ (by show l.length - (k + 1) < l.length - k; omega)
                (Sub.r (Sub.r (Sub.r (Sub.r (Sub.r (Sub.r (Sub.r (Sub.r (Sub.r (Sub.cons rfl (by simp) (Sub.nil _)))))))))))
                (fun _ s => sep_keep [1, 1, 1] rfl s)
            · exact absurd harP (by rw [ha]; decide)
        · skip
          have hne : l.take k ≠ [] := List.ne_nil_of_length_pos (by rw [List.length_take]; omega)
          have hpos := sizeS_pos hne
          refine TL.nil ?_
          refine TE.next hK14 ?_
          clear hK14
          refine TC.seq (fun K23 hK23 => ?_)
          refine TC.no rfl ?_
          refine TC.exit ?_
          refine TE.pass ?_
          clear hK23
          refine TE.pass ?_
          refine TE.hit ?_
          refine TE.next hK12 ?_
          clear hK12
          refine TC.seq (fun K24 hK24 => ?_)
          refine TC.region ?_
          refine TL.v (Want.plain rfl) rfl rfl (PV.move rfl rfl) ?_
          refine TL.v (Want.plain rfl) rfl rfl (PV.and (r := ((m : Nat) : Int)) rfl rfl rfl hm) ?_
          refine TL.v (Want.plain rfl) rfl rfl (PV.move rfl rfl) ?_
          refine TL.v (Want.plain rfl) rfl rfl (PV.rem (r := (((m % sizeS (l.take k)) : Nat) : Int)) rfl rfl rfl (by omega) (Int.ofNat_tmod _ _).symm) ?_
          refine TL.v (Want.plain rfl) rfl rfl (PV.assign rfl rfl) ?_
          refine TL.nil ?_
          refine TE.next hK24 ?_
          clear hK24
          refine TC.seq (fun K25 hK25 => ?_)
          refine TC.region ?_
          refine TL.v (Want.plain rfl) rfl rfl (PV.move rfl rfl) ?_
          refine TL.v (Want.plain rfl) rfl rfl (PV.move rfl rfl) ?_
          refine TL.v (Want.plain rfl) rfl rfl (PV.move rfl rfl) ?_
          have hkl : k = l.length := by omega
          obtain ⟨n0, hn0, hn1, hn2⟩ := find_end (l := l) (a := (m % sizeS (l.take k))) k (by omega) (Nat.mod_lt _ hpos)
          obtain ⟨D1, D2, hw1, hok1, hws1, hsy, hc2, hws2, D3, used3, ho⟩ := open_cut (D := D) (l := l) (by rw [hkl, List.take_length] at hL; exact hL) ha hd (b := b) (by omega) (by omega) hn1 hn2
          refine TL.callR (A := [dk d (D)]) (B := [blkA lgA [(.pointer (some ⟨d, 0, none⟩)), (.int .i64 ((((l.take k).length : Nat) : Int))), (.int .i64 (((sizeS (l.take k) : Nat) : Int)))] 71, own ve (k) (ints (endsN l k)) 3 1]) (Want.plain rfl) rfl rfl rfl nm15 rfl (dk_write d (D) (((m % sizeS (l.take k)) : Nat) : Int) y (b) hL.ok (by rw [hL.ws]; simp)) (fun _ s => sep_selR [1] rfl s) (fun g d _ => IsW.more (IsB.w hF.2) d) (fun vR HR hR => ?_)
          obtain ⟨hv, rfl⟩ := hR
          subst hv
          rw [hw1]
          change TL _ _ _ _ _ _ _ _ _ [dk d (D1), blkA lgA [(.pointer (some ⟨d, 0, none⟩)), (.int .i64 ((((l.take k).length : Nat) : Int))), (.int .i64 (((sizeS (l.take k) : Nat) : Int)))] 71, own ve (k) (ints (endsN l k)) 3 1]
          refine TL.nil ?_
          refine TE.next hK25 ?_
          clear hK25
          refine TC.seq (fun K26 hK26 => ?_)
          refine TC.region ?_
          refine TL.v (Want.plain rfl) rfl rfl (PV.move rfl rfl) ?_
          refine TL.callR (A := [dk d (D1)]) (B := [blkA lgA [(.pointer (some ⟨d, 0, none⟩)), (.int .i64 ((((l.take k).length : Nat) : Int))), (.int .i64 (((sizeS (l.take k) : Nat) : Int)))] 71, own ve (k) (ints (endsN l k)) 3 1]) (Want.plain rfl) rfl rfl rfl nm17 rfl (dk_sync d (D1)  hok1) (fun _ s => s) (fun _ _ _ => trivial) (fun vR HR hR => ?_)
          obtain ⟨hv, rfl⟩ := hR
          subst hv
          rw [hsy]
          change TL _ _ _ _ _ _ _ _ _ [dk d (D2), blkA lgA [(.pointer (some ⟨d, 0, none⟩)), (.int .i64 ((((l.take k).length : Nat) : Int))), (.int .i64 (((sizeS (l.take k) : Nat) : Int)))] 71, own ve (k) (ints (endsN l k)) 3 1]
          refine TL.nil ?_
          refine TE.next hK26 ?_
          clear hK26
          refine TC.seq (fun K27 hK27 => ?_)
          refine TC.region ?_
          refine TL.v (Want.plain rfl) rfl rfl (PV.assign rfl rfl) ?_
          refine TL.nil ?_
          refine TE.next hK27 ?_
          clear hK27
          refine TC.seq (fun K28 hK28 => ?_)
          refine TC.block ?_
          refine TC.loop (α := (Nat)) (fun j => j ≤ n0) (fun j => [(0, x), (1, (.int .i64 ((((m % sizeS (l.take k)) : Nat) : Int)))), (7, (.pointer (some ⟨d, 0, none⟩))), (11, ve), (15, (.int .i64 (((j : Nat) : Int))))]) (fun j => [dk d (D2), blkA lgA [(.pointer (some ⟨d, 0, none⟩)), (.int .i64 ((((l.take k).length : Nat) : Int))), (.int .i64 (((sizeS (l.take k) : Nat) : Int)))] 71, own ve (k) (ints (endsN l k)) 3 1]) (fun j => n0 - j) 0
              (Nat.zero_le _) (Sub.r (Sub.r (Sub.r (Sub.r (Sub.cons rfl (by congr 1) (Sub.nil _))))))
              (fun _ s => s) (fun j hinv => ?_)
          obtain hj := hinv
          refine TC.ownAt 2 rfl rfl (by omega) (fun ge capE hvE hcE => ?_)
          have hmj := sizeS_mono (l := l) (i := j + 1) (j := n0)
          refine TC.seq (fun K29 hK29 => ?_)
          refine TC.seq (fun K30 hK30 => ?_)
          refine TC.region ?_
          refine TL.v (Want.plain rfl) rfl rfl (PV.move rfl rfl) ?_
          refine TL.v (Want.plain rfl) rfl rfl (PV.move rfl rfl) ?_
          refine TL.v (Want.plain rfl) rfl rfl (PV.indexSlV (r := j) hvE rfl Try.underlying47 sz3 rfl rfl (by omega) (by omega) (by omega)) ?_
          refine TL.v (Want.plain rfl) rfl rfl (PV.load1X (v := (.int .i64 (((sizeS (l.take (j + 1)) : Nat) : Int)))) rfl Try.underlying3 rfl rfl (RdX.own 2 rfl hvE rfl) (endsN_get (by omega))) ?_
          refine TL.v (Want.plain rfl) rfl rfl (PV.move rfl rfl) ?_
          refine TL.v (Want.plain rfl) rfl rfl (PV.leq rfl rfl rfl) ?_
          refine TL.dec (fun h81 => ?_) (fun h81 => ?_)
          · skip
            refine TL.nil ?_
            refine TE.next hK30 ?_
            clear hK30
            refine TC.yes rfl ?_
            refine TC.skip ?_
            refine TE.next hK29 ?_
            clear hK29
            refine TC.block ?_
            refine TC.region ?_
            refine TL.v (Want.plain rfl) rfl rfl (PV.move rfl rfl) ?_
            refine TL.v (Want.plain rfl) rfl rfl (PV.add rfl rfl rfl (wrap_i64 (by omega) (by omega))) ?_
            refine TL.v (Want.plain rfl) rfl rfl (PV.assign rfl rfl) ?_
            refine TL.nil ?_
            refine TE.blockEnd ?_
            exact TE.round ((j + 1) : (Nat)) (by have hnj : j ≠ n0 := (fun q => by (rw [q] at h81; omega)); show j + 1 ≤ n0; omega) (by have hnj : j ≠ n0 := (fun q => by (rw [q] at h81; omega)); show n0 - (j + 1) < n0 - j; omega)
              (Sub.r (Sub.r (Sub.r (Sub.r (Sub.cons rfl (by simp) (Sub.nil _))))))
              (fun _ s => s)
          · skip
            have hjn : j = n0 := by by_cases q : j = n0; exact q; have := hmj (by omega); omega
            refine TL.nil ?_
            refine TE.next hK30 ?_
            clear hK30
            refine TC.no rfl ?_
            refine TC.exit ?_
            refine TE.pass ?_
            clear hK29
            refine TE.pass ?_
            refine TE.hit ?_
            refine TE.next hK28 ?_
            clear hK28
            refine TC.seq (fun K31 hK31 => ?_)
            refine TC.region ?_
            refine TL.v (Want.plain rfl) rfl rfl (PV.move rfl rfl) ?_
            refine TL.callR (A := [dk d (D2)]) (B := [blkA lgA [(.pointer (some ⟨d, 0, none⟩)), (.int .i64 ((((l.take k).length : Nat) : Int))), (.int .i64 (((sizeS (l.take k) : Nat) : Int)))] 71, own ve (k) (ints (endsN l k)) 3 1]) (Want.plain rfl) rfl rfl rfl nm25 rfl (openEq_does d (D2) D3 (l.take n0) used3 hc2.ok hc2.inn (by rw [hws2]; simp) ho) (fun _ s => s) (fun _ _ _ => trivial) (fun vR HR hR => ?_)
            obtain ⟨lg3, vr3, rfl, rfl⟩ := hR
            change TL _ _ _ _ _ _ _ _ _ [blkA lg3 [(.pointer (some ⟨d, 0, none⟩)), (.int .i64 ((((l.take n0).length : Nat) : Int))), (.int .i64 (used3))] 71, recsP 28 5 vr3 (l.take n0), dk d (D3), blkA lgA [(.pointer (some ⟨d, 0, none⟩)), (.int .i64 ((((l.take k).length : Nat) : Int))), (.int .i64 (((sizeS (l.take k) : Nat) : Int)))] 71, own ve (k) (ints (endsN l k)) 3 1]
            refine TL.recsLen 1 rfl rfl (fun hvl3 hvo3 => ?_)
            refine TL.v (Want.plain rfl) rfl rfl (PV.move rfl rfl) ?_
            refine TL.v (Want.plain rfl) rfl rfl (PV.extract (vs := [(.pointer (some ⟨lg3, 0, none⟩)), vr3, (.int .i64 0)]) rfl rfl rfl) ?_
            refine TL.v (Want.plain rfl) rfl rfl (PV.extract (vs := [(.pointer (some ⟨lg3, 0, none⟩)), vr3, (.int .i64 0)]) rfl rfl rfl) ?_
            refine TL.v (Want.plain rfl) rfl rfl (PV.extract (vs := [(.pointer (some ⟨lg3, 0, none⟩)), vr3, (.int .i64 0)]) rfl rfl rfl) ?_
            refine TL.v (Want.plain rfl) rfl rfl (PV.assign rfl rfl) ?_
            refine TL.v (Want.plain rfl) rfl rfl (PV.assign rfl rfl) ?_
            refine TL.v (Want.plain rfl) rfl rfl (PV.assign rfl rfl) ?_
            refine TL.nil ?_
            refine TE.next hK31 ?_
            clear hK31
            refine TC.seq (fun K32 hK32 => ?_)
            refine TC.region ?_
            refine TL.v (Want.plain rfl) rfl rfl (PV.move rfl rfl) ?_
            refine TL.v (Want.plain rfl) rfl rfl (PV.eql rfl rfl rfl) ?_
            refine TL.v (Want.plain rfl) rfl rfl (PV.move rfl rfl) ?_
            refine TL.v (Want.met rfl rfl rfl) rfl rfl (PV.move rfl rfl) ?_
            refine TL.v (Want.met rfl rfl rfl) rfl rfl (PV.move rfl rfl) ?_
            refine TL.v (Want.met rfl rfl rfl) rfl rfl (PV.move rfl rfl) ?_
            refine TL.v (Want.met rfl rfl rfl) rfl rfl (PV.sliceHE (hi := j) hF.1 rfl Try.underlying44 sz28 rfl rfl rfl (by omega)) ?_
            refine TL.callR (A := []) (B := [blkA lg3 [(.pointer (some ⟨d, 0, none⟩)), (.int .i64 ((((l.take n0).length : Nat) : Int))), (.int .i64 (used3))] 71, recsP 28 5 vr3 (l.take n0), dk d (D3), blkA lgA [(.pointer (some ⟨d, 0, none⟩)), (.int .i64 ((((l.take k).length : Nat) : Int))), (.int .i64 (((sizeS (l.take k) : Nat) : Int)))] 71, own ve (k) (ints (endsN l k)) 3 1]) (Want.met rfl rfl rfl) rfl rfl rfl nm26 rfl (same_does vr3 (cutLH x 0 j) (l.take n0) ((l.take j))) (fun _ s => s) (fun g d s => ⟨isBB_recs 1 rfl rfl g d s, IsL.more EB.more (IsL.cut hF.1 (by omega)) d⟩) (fun vR HR hR => ?_)
            obtain ⟨rfl, rfl⟩ := hR
            change TL _ _ _ _ _ _ _ _ _ [blkA lg3 [(.pointer (some ⟨d, 0, none⟩)), (.int .i64 ((((l.take n0).length : Nat) : Int))), (.int .i64 (used3))] 71, recsP 28 5 vr3 (l.take n0), dk d (D3), blkA lgA [(.pointer (some ⟨d, 0, none⟩)), (.int .i64 ((((l.take k).length : Nat) : Int))), (.int .i64 (((sizeS (l.take k) : Nat) : Int)))] 71, own ve (k) (ints (endsN l k)) 3 1]
            refine TL.v (Want.plain rfl) rfl rfl (PV.pick rfl rfl rfl) ?_
            refine TL.v (Want.plain rfl) rfl rfl (PV.assign rfl rfl) ?_
            refine TL.nil ?_
            refine TE.next hK32 ?_
            clear hK32
            refine TC.ret ?_
            refine TE.weak (Sub.refl _) (fun _ s => sep_keep [] rfl s) ?_
            refine TE.ret1 rfl rfl ?_
            first | exact ⟨rfl, rfl⟩ | exact ⟨congrArg Value.bool (decide_eq_true (by rw [hjn])), rfl⟩
  · skip
    refine TL.v (Want.plain rfl) rfl rfl (PV.not (r := true) rfl rfl rfl) ?_
    refine TL.v (Want.plain rfl) rfl rfl (PV.move rfl rfl) ?_
    refine TL.unmet (b := true) rfl rfl rfl rfl (lb rfl) ?_
    refine TL.unmet (b := true) rfl rfl rfl rfl (lb rfl) ?_
    refine TL.unmet (b := true) rfl rfl rfl rfl (lb rfl) ?_
    refine TL.v (Want.plain rfl) rfl rfl (PV.pick rfl rfl rfl) ?_
    refine TL.v (Want.plain rfl) rfl rfl (PV.move rfl rfl) ?_
    refine TL.unmet (b := true) rfl rfl rfl rfl (lb rfl) ?_
    refine TL.unmet (b := true) rfl rfl rfl rfl (lb rfl) ?_
    refine TL.unmet (b := true) rfl rfl rfl rfl (lb rfl) ?_
    refine TL.v (Want.plain rfl) rfl rfl (PV.pick rfl rfl rfl) ?_
    refine TL.nil ?_
    refine TE.next hK5 ?_
    clear hK5
    refine TC.yes rfl ?_
    refine TC.seq (fun K33 hK33 => ?_)
    refine TC.region ?_
    refine TL.v (Want.plain rfl) rfl rfl (PV.assign rfl rfl) ?_
    refine TL.nil ?_
    refine TE.next hK33 ?_
    clear hK33
    refine TC.ret ?_
    refine TE.passRet ?_
    clear hK4
    refine TE.weak (Sub.refl _) (fun _ s => sep_keep [] rfl s) ?_
    refine TE.ret1 rfl rfl ?_
    first | exact ⟨rfl, rfl⟩ | exact ⟨congrArg Value.bool (decide_eq_true (by rw [hjn])), rfl⟩


end Go.Proofs.Ytocdameafihnaaa
