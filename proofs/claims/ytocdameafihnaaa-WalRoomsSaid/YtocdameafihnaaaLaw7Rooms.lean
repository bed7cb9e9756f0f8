/-
  Records take the sectors that they need: walked.
-/

import Derived.Test.YtocdameafihnaaaLaw7A

namespace Go.Proofs.Ytocdameafihnaaa

open Go Leg Codec Api Dsk Wal

set_option maxRecDepth 100000

theorem walRooms_does (n : Int) (x : Value) (l : List Int) :
    Does Try.prog 8 #[(.int .i64 (n)), x] (IsI .i64 x l) [] (Ret (fun v H => v = .bool true ∧ H = [])) := by
  refine Does.body (vs := [(.int .i64 (n)), x]) (n := 93) Try.func8 rfl rfl rfl (fun w0 F hF => ?_)
  obtain ⟨m, hm, hm2⟩ : ∃ m : Nat, andI .i64 n 65535 = ((m : Nat) : Int) ∧ m < 65536 := ⟨(n % 65536).toNat, by rw [and16]; omega, by omega⟩
  refine TC.seq (fun K1 hK1 => ?_)
  refine TC.region ?_
  refine TL.v (Want.plain rfl) rfl rfl (PV.assign rfl rfl) ?_
  refine TL.nil ?_
  refine TE.next hK1 ?_
  clear hK1
  refine TC.seq (fun K2 hK2 => ?_)
  refine TC.seq (fun K3 hK3 => ?_)
  refine TC.region ?_
  refine TL.callR (A := []) (B := []) (Want.plain rfl) rfl rfl rfl nm23 rfl (fit7_does ) (fun _ s => s) (fun _ _ _ => trivial) (fun vR HR hR => ?_)
  obtain ⟨rfl, rfl⟩ := hR
  change TL _ _ _ _ _ _ _ _ _ []
  refine TL.v (Want.plain rfl) rfl rfl (PV.not (r := false) rfl rfl rfl) ?_
  refine TL.nil ?_
  refine TE.next hK3 ?_
  clear hK3
  refine TC.no rfl ?_
  refine TC.skip ?_
  refine TE.next hK2 ?_
  clear hK2
  refine TC.seq (fun K4 hK4 => ?_)
  refine TC.seq (fun K5 hK5 => ?_)
  refine TC.region ?_
  refine TL.v (Want.plain rfl) rfl rfl (PV.move rfl rfl) ?_
  refine TL.v (Want.plain rfl) rfl rfl (PV.lenV rfl Try.underlying47 rfl hF.len) ?_
  refine TL.v (Want.plain rfl) rfl rfl (PV.gtr rfl rfl rfl) ?_
  refine TL.dec (fun h21 => ?_) (fun h21 => ?_)
  · skip
    refine TL.nil ?_
    refine TE.next hK5 ?_
    clear hK5
    refine TC.yes rfl ?_
    refine TC.seq (fun K6 hK6 => ?_)
    refine TC.region ?_
    refine TL.v (Want.plain rfl) rfl rfl (PV.assign rfl rfl) ?_
    refine TL.nil ?_
    refine TE.next hK6 ?_
    clear hK6
    refine TC.ret ?_
    refine TE.passRet ?_
    clear hK4
    refine TE.weak (Sub.refl _) (fun _ s => sep_keep [] rfl s) ?_
    refine TE.ret1 rfl rfl ?_
    first | exact ⟨rfl, rfl⟩ | exact ⟨congrArg Value.bool (decide_eq_true rfl), rfl⟩
  · skip
    refine TL.nil ?_
    refine TE.next hK5 ?_
    clear hK5
    refine TC.no rfl ?_
    refine TC.skip ?_
    refine TE.next hK4 ?_
    clear hK4
    refine TC.seq (fun K7 hK7 => ?_)
    refine TC.seq (fun K8 hK8 => ?_)
    refine TC.region ?_
    refine TL.v (Want.plain rfl) rfl rfl (PV.move rfl rfl) ?_
    refine TL.v (Want.plain rfl) rfl rfl (PV.and (r := ((m : Nat) : Int)) rfl rfl rfl hm) ?_
    refine TL.callR (A := []) (B := []) (Want.plain rfl) rfl rfl rfl nm28 rfl (pieces_does m (by omega)) (fun _ s => s) (fun _ _ _ => trivial) (fun vR HR hR => ?_)
    obtain ⟨rfl, rfl⟩ := hR
    change TL _ _ _ _ _ _ _ _ _ []
    refine TL.v (Want.plain rfl) rfl rfl (PV.move rfl rfl) ?_
    refine TL.v (Want.plain rfl) rfl rfl (PV.and (r := ((m : Nat) : Int)) rfl rfl rfl hm) ?_
    refine TL.v (Want.plain rfl) rfl rfl (PV.to (v' := (.int .i64 (((m + 51 : Nat) : Int)))) (PV.add rfl rfl rfl (wrap_i64 (by omega) (by omega))) rfl) ?_
    refine TL.v (Want.plain rfl) rfl rfl (PV.quo (r := (((m + 51) / 52 : Nat) : Int)) rfl rfl rfl (by omega) (quoNat (m + 51) 52 (by omega))) ?_
    refine TL.v (Want.plain rfl) rfl rfl (PV.maxI rfl rfl rfl) ?_
    refine TL.v (Want.plain rfl) rfl rfl (PV.neq rfl rfl rfl) ?_
    refine TL.dec (fun h30 => ?_) (fun h30 => ?_)
    · exact absurd (pieces_max m) h30
    · skip
      refine TL.nil ?_
      refine TE.next hK8 ?_
      clear hK8
      refine TC.no rfl ?_
      refine TC.skip ?_
      refine TE.next hK7 ?_
      clear hK7
      refine TC.seq (fun K9 hK9 => ?_)
      refine TC.region ?_
      refine TL.callR (A := []) (B := []) (Want.plain rfl) rfl rfl rfl nm13 rfl (dk_new) (fun _ s => s) (fun _ _ _ => trivial) (fun vR HR hR => ?_)
      obtain ⟨d, rfl, rfl⟩ := hR
      change TL _ _ _ _ _ _ _ _ _ [dk d (DS.new)]
      refine TL.v (Want.plain rfl) rfl rfl (PV.assign rfl rfl) ?_
      refine TL.nil ?_
      refine TE.next hK9 ?_
      clear hK9
      refine TC.seq (fun K10 hK10 => ?_)
      refine TC.region ?_
      refine TL.v (Want.plain rfl) rfl rfl (PV.move rfl rfl) ?_
      obtain ⟨DA, heA, hLA, haA, hdA⟩ := LogD.open LogD.new rfl rfl
      refine TL.callR (A := [dk d (DS.new)]) (B := []) (Want.plain rfl) rfl rfl rfl nm25 rfl (openEq_does d (DS.new) DA (([] : List (List UInt8))) ((sizeS (([] : List (List UInt8))) : Nat) : Int) DS.new_ok LogD.new.inn (by decide) heA) (fun _ s => s) (fun _ _ _ => trivial) (fun vR HR hR => ?_)
      obtain ⟨lgA, vrA, rfl, rfl⟩ := hR
      change TL _ _ _ _ _ _ _ _ _ [blkA lgA [(.pointer (some ⟨d, 0, none⟩)), (.int .i64 ((((([] : List (List UInt8))).length : Nat) : Int))), (.int .i64 (((sizeS (([] : List (List UInt8))) : Nat) : Int)))] 71, recsP 28 5 vrA (([] : List (List UInt8))), dk d (DA)]
      refine TL.recsLen 1 rfl rfl (fun hvlA hvoA => ?_)
      refine TL.v (Want.plain rfl) rfl rfl (PV.move rfl rfl) ?_
      refine TL.v (Want.plain rfl) rfl rfl (PV.extract (vs := [(.pointer (some ⟨lgA, 0, none⟩)), vrA, (.int .i64 0)]) rfl rfl rfl) ?_
      refine TL.v (Want.plain rfl) rfl rfl (PV.extract (vs := [(.pointer (some ⟨lgA, 0, none⟩)), vrA, (.int .i64 0)]) rfl rfl rfl) ?_
      refine TL.v (Want.plain rfl) rfl rfl (PV.extract (vs := [(.pointer (some ⟨lgA, 0, none⟩)), vrA, (.int .i64 0)]) rfl rfl rfl) ?_
      refine TL.v (Want.plain rfl) rfl rfl (PV.assign rfl rfl) ?_
      refine TL.v (Want.plain rfl) rfl rfl (PV.assign rfl rfl) ?_
      refine TL.v (Want.plain rfl) rfl rfl (PV.assign rfl rfl) ?_
      refine TL.nil ?_
      refine TE.next hK10 ?_
      clear hK10
      refine TC.seq (fun K11 hK11 => ?_)
      refine TC.region ?_
      refine TL.v (Want.plain rfl) rfl rfl (PV.assign rfl rfl) ?_
      refine TL.v (Want.plain rfl) rfl rfl (PV.assign rfl rfl) ?_
      refine TL.nil ?_
      refine TE.next hK11 ?_
      clear hK11
      refine TC.seq (fun K12 hK12 => ?_)
      refine TC.seq (fun K13 hK13 => ?_)
      refine TC.region ?_
      refine TL.v (Want.plain rfl) rfl rfl (PV.move rfl rfl) ?_
      refine TL.v (Want.plain rfl) rfl rfl (PV.lenV rfl Try.underlying47 rfl hF.len) ?_
      refine TL.v (Want.plain rfl) rfl rfl (PV.move rfl rfl) ?_
      refine TL.nil ?_
      refine TE.next hK13 ?_
      clear hK13
      refine TC.block ?_
      refine TC.loop (α := (Nat) × (List (List UInt8)) × (DS)) (fun ⟨k, ls, D⟩ => k ≤ l.length ∧ LogD D ls ∧ D.dn = false ∧ D.ar = false) (fun ⟨k, ls, D⟩ => [(5, (.pointer (some ⟨d, 0, none⟩))), (6, (.pointer (some ⟨lgA, 0, none⟩))), (9, (.int .i64 (2048 - ((sizeS ls : Nat) : Int)))), (10, (.int .i64 (((ls.length : Nat) : Int)))), (38, x), (39, (.int .i64 (((l.length : Nat) : Int)))), (40, (.int .i64 (((k : Nat) : Int))))]) (fun ⟨k, ls, D⟩ => [blkA lgA [(.pointer (some ⟨d, 0, none⟩)), (.int .i64 ((((ls).length : Nat) : Int))), (.int .i64 (((sizeS (ls) : Nat) : Int)))] 71, dk d (D)]) (fun ⟨k, ls, D⟩ => l.length - k) (0, [], DA)
          ⟨Nat.zero_le _, hLA, hdA, haA⟩ (Sub.r (Sub.r (Sub.cons rfl (by congr 1) (Sub.cons rfl (by congr 1) (Sub.r (Sub.r (Sub.cons rfl (by congr 1) (Sub.nil _))))))))
          (fun _ s => sep_keep [0, 1] rfl s) (fun ⟨k, ls, D⟩ hinv => ?_)
      obtain ⟨hk, hL, hd, ha⟩ := hinv
      have hro := hL.room
      have hln := hL.len
      refine TC.seq (fun K14 hK14 => ?_)
      refine TC.region ?_
      refine TL.v (Want.plain rfl) rfl rfl (PV.lss rfl rfl rfl) ?_
      refine TL.dec (fun h41 => ?_) (fun h41 => ?_)
      · skip
        obtain ⟨b_a, off_a, cap_a, cs_a, T_a, z_a, hv_a, hb_a, hcs_a, hcp_a⟩ := IsI.at hF (j := k) (by omega)
        obtain ⟨q, hq, hq2⟩ : ∃ q : Nat, andI .i64 (l.getD k 0) 4095 = ((q : Nat) : Int) ∧ q < 4096 := ⟨((l.getD k 0) % 4096).toNat, by rw [show andI .i64 (l.getD k 0) 4095 = (l.getD k 0) % 4096 from mask (k := 12) (by decide) _]; omega, by omega⟩
        refine TL.nil ?_
        refine TE.next hK14 ?_
        clear hK14
        refine TC.seq (fun K15 hK15 => ?_)
        refine TC.yes rfl ?_
        refine TC.skip ?_
        refine TE.next hK15 ?_
        clear hK15
        refine TC.seq (fun K16 hK16 => ?_)
        refine TC.block ?_
        refine TC.seq (fun K17 hK17 => ?_)
        refine TC.region ?_
        refine TL.v (Want.plain rfl) rfl rfl (PV.indexSlV (r := off_a + k) hv_a rfl Try.underlying47 sz3 rfl rfl (by omega) (by omega) (by omega)) ?_
        refine TL.v (Want.plain rfl) rfl rfl (PV.load1X (v := (.int .i64 ((l.getD k 0)))) rfl Try.underlying3 rfl rfl (RdX.frm hb_a (fun _ h => Frm.of h)) hcs_a) ?_
        refine TL.v (Want.plain rfl) rfl rfl (PV.assign rfl rfl) ?_
        refine TL.nil ?_
        refine TE.next hK17 ?_
        clear hK17
        refine TC.seq (fun K18 hK18 => ?_)
        refine TC.region ?_
        refine TL.v (Want.plain rfl) rfl rfl (PV.move rfl rfl) ?_
        refine TL.v (Want.plain rfl) rfl rfl (PV.and (r := ((q : Nat) : Int)) rfl rfl rfl hq) ?_
        refine TL.v (Want.plain rfl) rfl rfl (PV.assign rfl rfl) ?_
        refine TL.nil ?_
        refine TE.next hK18 ?_
        clear hK18
        refine TC.seq (fun K19 hK19 => ?_)
        refine TC.region ?_
        refine TL.v (Want.plain rfl) rfl rfl (PV.assign rfl rfl) ?_
        refine TL.nil ?_
        refine TE.next hK19 ?_
        clear hK19
        refine TC.seq (fun K20 hK20 => ?_)
        refine TC.block ?_
        refine TC.seq (fun K21 hK21 => ?_)
        refine TC.region ?_
        refine TL.v (Want.plain rfl) rfl rfl (PV.move rfl rfl) ?_
        refine TL.v (Want.plain rfl) rfl rfl (PV.gtr rfl rfl rfl) ?_
        refine TL.dec (fun h54 => ?_) (fun h54 => ?_)
        · skip
          refine TL.v (Want.plain rfl) rfl rfl (PV.assign rfl rfl) ?_
          refine TL.nil ?_
          refine TE.next hK21 ?_
          clear hK21
          refine TC.yes rfl ?_
          refine TC.region ?_
          refine TL.v (Want.plain rfl) rfl rfl (PV.assign rfl rfl) ?_
          refine TL.nil ?_
          refine TE.blockEnd ?_
          refine TE.next hK20 ?_
          clear hK20
          refine TC.seq (fun K22 hK22 => ?_)
          refine TC.region ?_
          refine TL.v (Want.plain rfl) rfl rfl (PV.move rfl rfl) ?_
          refine TL.v (Want.plain rfl) rfl rfl (PV.move rfl rfl) ?_
          refine TL.makeB q q (Want.plain rfl) rfl rfl rfl Try.underlying28 in5 rfl rfl rfl rfl (Nat.le_refl _) (by omega) (fun b62 => ?_)
          change TL _ _ _ _ _ _ _ _ _ [blkA b62 (u8s (List.replicate q 0)) 5, blkA lgA [(.pointer (some ⟨d, 0, none⟩)), (.int .i64 ((((ls).length : Nat) : Int))), (.int .i64 (((sizeS (ls) : Nat) : Int)))] 71, dk d (D)]
          refine TL.callR (A := [blkA lgA [(.pointer (some ⟨d, 0, none⟩)), (.int .i64 ((((ls).length : Nat) : Int))), (.int .i64 (((sizeS (ls) : Nat) : Int)))] 71, dk d (D)]) (B := [blkA b62 (u8s (List.replicate q 0)) 5]) (Want.plain rfl) rfl rfl rfl nm27 rfl (putLog_does lgA d (D) (ls) (.slice (some ⟨b62, 0, none⟩) (q) (q)) ((List.replicate q 0)) hL hd) (fun _ s => sep_selR [1, 1] rfl s) (fun g d s => IsB.w (isB_blkN 0 q List.length_replicate (by omega) rfl rfl g d s)) (fun vR HR hR => ?_)
          rcases hR with ⟨hlongP, rfl, rfl⟩ | ⟨hshP, hfullP, rfl, rfl⟩ | ⟨hshP, hroomP, DP, hLP, hdP, haP, rfl, rfl⟩ | ⟨hshP, harP, DP, hHP, rfl, rfl⟩
          · skip
            change TL _ _ _ _ _ _ _ _ _ [blkA lgA [(.pointer (some ⟨d, 0, none⟩)), (.int .i64 ((((ls).length : Nat) : Int))), (.int .i64 (((sizeS (ls) : Nat) : Int)))] 71, dk d (D), blkA b62 (u8s (List.replicate q 0)) 5]
            refine TL.v (Want.plain rfl) rfl rfl (PV.move rfl rfl) ?_
            refine TL.v (Want.plain rfl) rfl rfl (PV.neq rfl rfl rfl) ?_
            refine TL.v (Want.plain rfl) rfl rfl (PV.move rfl rfl) ?_
            refine TL.v (Want.met rfl rfl rfl) rfl rfl (PV.move rfl rfl) ?_
            refine TL.callR (A := [blkA lgA [(.pointer (some ⟨d, 0, none⟩)), (.int .i64 ((((ls).length : Nat) : Int))), (.int .i64 (((sizeS (ls) : Nat) : Int)))] 71]) (B := [dk d (D), blkA b62 (u8s (List.replicate q 0)) 5]) (Want.met rfl rfl rfl) rfl rfl rfl nm29 rfl (room_does lgA d (((ls).length : Nat) : Int) ((sizeS (ls) : Nat) : Int) (by omega)) (fun _ s => s) (fun _ _ _ => trivial) (fun vR HR hR => ?_)
            obtain ⟨rfl, rfl⟩ := hR
            change TL _ _ _ _ _ _ _ _ _ [blkA lgA [(.pointer (some ⟨d, 0, none⟩)), (.int .i64 ((((ls).length : Nat) : Int))), (.int .i64 (((sizeS (ls) : Nat) : Int)))] 71, dk d (D), blkA b62 (u8s (List.replicate q 0)) 5]
            refine TL.v (Want.met rfl rfl rfl) rfl rfl (PV.move rfl rfl) ?_
            refine TL.v (Want.met rfl rfl rfl) rfl rfl (PV.neq rfl rfl rfl) ?_
            refine TL.dec (fun h70 => ?_) (fun h70 => ?_)
            · exact absurd h70 (by omega)
            · skip
              refine TL.v (Want.plain rfl) rfl rfl (PV.pick rfl rfl rfl) ?_
              refine TL.v (Want.plain rfl) rfl rfl (PV.move rfl rfl) ?_
              refine TL.v (Want.met rfl rfl rfl) rfl rfl (PV.move rfl rfl) ?_
              refine TL.callR (A := [blkA lgA [(.pointer (some ⟨d, 0, none⟩)), (.int .i64 ((((ls).length : Nat) : Int))), (.int .i64 (((sizeS (ls) : Nat) : Int)))] 71]) (B := [dk d (D), blkA b62 (u8s (List.replicate q 0)) 5]) (Want.met rfl rfl rfl) rfl rfl rfl nm30 rfl (len_does lgA d (((ls).length : Nat) : Int) ((sizeS (ls) : Nat) : Int)) (fun _ s => s) (fun _ _ _ => trivial) (fun vR HR hR => ?_)
              obtain ⟨rfl, rfl⟩ := hR
              change TL _ _ _ _ _ _ _ _ _ [blkA lgA [(.pointer (some ⟨d, 0, none⟩)), (.int .i64 ((((ls).length : Nat) : Int))), (.int .i64 (((sizeS (ls) : Nat) : Int)))] 71, dk d (D), blkA b62 (u8s (List.replicate q 0)) 5]
              refine TL.v (Want.met rfl rfl rfl) rfl rfl (PV.move rfl rfl) ?_
              refine TL.v (Want.met rfl rfl rfl) rfl rfl (PV.neq rfl rfl rfl) ?_
              refine TL.dec (fun h76 => ?_) (fun h76 => ?_)
              · exact absurd h76 (by omega)
              · skip
                refine TL.v (Want.plain rfl) rfl rfl (PV.pick rfl rfl rfl) ?_
                refine TL.nil ?_
                refine TE.next hK22 ?_
                clear hK22
                refine TC.no rfl ?_
                refine TC.skip ?_
                refine TE.blockEnd ?_
                refine TE.next hK16 ?_
                clear hK16
                refine TC.region ?_
                refine TL.v (Want.plain rfl) rfl rfl (PV.add rfl rfl rfl (wrap_i64 (by omega) (by omega))) ?_
                refine TL.v (Want.plain rfl) rfl rfl (PV.move rfl rfl) ?_
                refine TL.nil ?_
                exact TE.round ((k + 1, ls, D) : (Nat) × (List (List UInt8)) × (DS)) ⟨by omega, hL, hd, ha⟩ (by show l.length - (k + 1) < l.length - k; omega)
                  (Sub.r (Sub.r (Sub.r (Sub.r (Sub.r (Sub.r (Sub.cons rfl (by simp) (Sub.nil _))))))))
                  (fun _ s => sep_keep [0, 0] rfl s)
          · exact absurd hshP (by simp only [List.length_replicate]; omega)
          · exact absurd hshP (by simp only [List.length_replicate]; omega)
          · exact absurd harP (by rw [ha]; decide)
        · skip
          refine TL.v (Want.plain rfl) rfl rfl (PV.assign rfl rfl) ?_
          refine TL.nil ?_
          refine TE.next hK21 ?_
          clear hK21
          refine TC.no rfl ?_
          refine TC.seq (fun K23 hK23 => ?_)
          refine TC.region ?_
          refine TL.v (Want.plain rfl) rfl rfl (PV.move rfl rfl) ?_
          refine TL.callR (A := []) (B := [blkA lgA [(.pointer (some ⟨d, 0, none⟩)), (.int .i64 ((((ls).length : Nat) : Int))), (.int .i64 (((sizeS (ls) : Nat) : Int)))] 71, dk d (D)]) (Want.plain rfl) rfl rfl rfl nm28 rfl (pieces_does q (by omega)) (fun _ s => s) (fun _ _ _ => trivial) (fun vR HR hR => ?_)
          obtain ⟨rfl, rfl⟩ := hR
          change TL _ _ _ _ _ _ _ _ _ [blkA lgA [(.pointer (some ⟨d, 0, none⟩)), (.int .i64 ((((ls).length : Nat) : Int))), (.int .i64 (((sizeS (ls) : Nat) : Int)))] 71, dk d (D)]
          refine TL.v (Want.plain rfl) rfl rfl (PV.move rfl rfl) ?_
          refine TL.v (Want.plain rfl) rfl rfl (PV.gtr rfl rfl rfl) ?_
          refine TL.dec (fun h59 => ?_) (fun h59 => ?_)
          · skip
            refine TL.v (Want.plain rfl) rfl rfl (PV.assign rfl rfl) ?_
            refine TL.nil ?_
            refine TE.next hK23 ?_
            clear hK23
            refine TC.yes rfl ?_
            refine TC.region ?_
            refine TL.v (Want.plain rfl) rfl rfl (PV.assign rfl rfl) ?_
            refine TL.nil ?_
            refine TE.blockEnd ?_
            refine TE.next hK20 ?_
            clear hK20
            refine TC.seq (fun K24 hK24 => ?_)
            refine TC.region ?_
            refine TL.v (Want.plain rfl) rfl rfl (PV.move rfl rfl) ?_
            refine TL.v (Want.plain rfl) rfl rfl (PV.move rfl rfl) ?_
            refine TL.makeB q q (Want.plain rfl) rfl rfl rfl Try.underlying28 in5 rfl rfl rfl rfl (Nat.le_refl _) (by omega) (fun b62 => ?_)
            change TL _ _ _ _ _ _ _ _ _ [blkA b62 (u8s (List.replicate q 0)) 5, blkA lgA [(.pointer (some ⟨d, 0, none⟩)), (.int .i64 ((((ls).length : Nat) : Int))), (.int .i64 (((sizeS (ls) : Nat) : Int)))] 71, dk d (D)]
            refine TL.callR (A := [blkA lgA [(.pointer (some ⟨d, 0, none⟩)), (.int .i64 ((((ls).length : Nat) : Int))), (.int .i64 (((sizeS (ls) : Nat) : Int)))] 71, dk d (D)]) (B := [blkA b62 (u8s (List.replicate q 0)) 5]) (Want.plain rfl) rfl rfl rfl nm27 rfl (putLog_does lgA d (D) (ls) (.slice (some ⟨b62, 0, none⟩) (q) (q)) ((List.replicate q 0)) hL hd) (fun _ s => sep_selR [1, 1] rfl s) (fun g d s => IsB.w (isB_blkN 0 q List.length_replicate (by omega) rfl rfl g d s)) (fun vR HR hR => ?_)
            rcases hR with ⟨hlongP, rfl, rfl⟩ | ⟨hshP, hfullP, rfl, rfl⟩ | ⟨hshP, hroomP, DP, hLP, hdP, haP, rfl, rfl⟩ | ⟨hshP, harP, DP, hHP, rfl, rfl⟩
            · exact absurd hlongP (by simp only [List.length_replicate]; omega)
            · skip
              change TL _ _ _ _ _ _ _ _ _ [blkA lgA [(.pointer (some ⟨d, 0, none⟩)), (.int .i64 ((((ls).length : Nat) : Int))), (.int .i64 (((sizeS (ls) : Nat) : Int)))] 71, dk d (D), blkA b62 (u8s (List.replicate q 0)) 5]
              refine TL.v (Want.plain rfl) rfl rfl (PV.move rfl rfl) ?_
              refine TL.v (Want.plain rfl) rfl rfl (PV.neq rfl rfl rfl) ?_
              refine TL.v (Want.plain rfl) rfl rfl (PV.move rfl rfl) ?_
              refine TL.v (Want.met rfl rfl rfl) rfl rfl (PV.move rfl rfl) ?_
              refine TL.callR (A := [blkA lgA [(.pointer (some ⟨d, 0, none⟩)), (.int .i64 ((((ls).length : Nat) : Int))), (.int .i64 (((sizeS (ls) : Nat) : Int)))] 71]) (B := [dk d (D), blkA b62 (u8s (List.replicate q 0)) 5]) (Want.met rfl rfl rfl) rfl rfl rfl nm29 rfl (room_does lgA d (((ls).length : Nat) : Int) ((sizeS (ls) : Nat) : Int) (by omega)) (fun _ s => s) (fun _ _ _ => trivial) (fun vR HR hR => ?_)
              obtain ⟨rfl, rfl⟩ := hR
              change TL _ _ _ _ _ _ _ _ _ [blkA lgA [(.pointer (some ⟨d, 0, none⟩)), (.int .i64 ((((ls).length : Nat) : Int))), (.int .i64 (((sizeS (ls) : Nat) : Int)))] 71, dk d (D), blkA b62 (u8s (List.replicate q 0)) 5]
              refine TL.v (Want.met rfl rfl rfl) rfl rfl (PV.move rfl rfl) ?_
              refine TL.v (Want.met rfl rfl rfl) rfl rfl (PV.neq rfl rfl rfl) ?_
              refine TL.dec (fun h70 => ?_) (fun h70 => ?_)
              · exact absurd h70 (by omega)
              · skip
                refine TL.v (Want.plain rfl) rfl rfl (PV.pick rfl rfl rfl) ?_
                refine TL.v (Want.plain rfl) rfl rfl (PV.move rfl rfl) ?_
                refine TL.v (Want.met rfl rfl rfl) rfl rfl (PV.move rfl rfl) ?_
                refine TL.callR (A := [blkA lgA [(.pointer (some ⟨d, 0, none⟩)), (.int .i64 ((((ls).length : Nat) : Int))), (.int .i64 (((sizeS (ls) : Nat) : Int)))] 71]) (B := [dk d (D), blkA b62 (u8s (List.replicate q 0)) 5]) (Want.met rfl rfl rfl) rfl rfl rfl nm30 rfl (len_does lgA d (((ls).length : Nat) : Int) ((sizeS (ls) : Nat) : Int)) (fun _ s => s) (fun _ _ _ => trivial) (fun vR HR hR => ?_)
                obtain ⟨rfl, rfl⟩ := hR
                change TL _ _ _ _ _ _ _ _ _ [blkA lgA [(.pointer (some ⟨d, 0, none⟩)), (.int .i64 ((((ls).length : Nat) : Int))), (.int .i64 (((sizeS (ls) : Nat) : Int)))] 71, dk d (D), blkA b62 (u8s (List.replicate q 0)) 5]
                refine TL.v (Want.met rfl rfl rfl) rfl rfl (PV.move rfl rfl) ?_
                refine TL.v (Want.met rfl rfl rfl) rfl rfl (PV.neq rfl rfl rfl) ?_
                refine TL.dec (fun h76 => ?_) (fun h76 => ?_)
                · exact absurd h76 (by omega)
                · skip
                  refine TL.v (Want.plain rfl) rfl rfl (PV.pick rfl rfl rfl) ?_
                  refine TL.nil ?_
                  refine TE.next hK24 ?_
                  clear hK24
                  refine TC.no rfl ?_
                  refine TC.skip ?_
                  refine TE.blockEnd ?_
                  refine TE.next hK16 ?_
                  clear hK16
                  refine TC.region ?_
                  refine TL.v (Want.plain rfl) rfl rfl (PV.add rfl rfl rfl (wrap_i64 (by omega) (by omega))) ?_
                  refine TL.v (Want.plain rfl) rfl rfl (PV.move rfl rfl) ?_
                  refine TL.nil ?_
                  exact TE.round ((k + 1, ls, D) : (Nat) × (List (List UInt8)) × (DS)) ⟨by omega, hL, hd, ha⟩ (by show l.length - (k + 1) < l.length - k; omega)
                    (Sub.r (Sub.r (Sub.r (Sub.r (Sub.r (Sub.r (Sub.cons rfl (by simp) (Sub.nil _))))))))
                    (fun _ s => sep_keep [0, 0] rfl s)
            · exact absurd hroomP (by simp only [List.length_replicate]; omega)
            · exact absurd harP (by rw [ha]; decide)
          · skip
            refine TL.v (Want.plain rfl) rfl rfl (PV.assign rfl rfl) ?_
            refine TL.nil ?_
            refine TE.next hK23 ?_
            clear hK23
            refine TC.no rfl ?_
            refine TC.seq (fun K25 hK25 => ?_)
            refine TC.region ?_
            refine TL.v (Want.plain rfl) rfl rfl (PV.move rfl rfl) ?_
            refine TL.v (Want.plain rfl) rfl rfl (PV.move rfl rfl) ?_
            refine TL.callR (A := []) (B := [blkA lgA [(.pointer (some ⟨d, 0, none⟩)), (.int .i64 ((((ls).length : Nat) : Int))), (.int .i64 (((sizeS (ls) : Nat) : Int)))] 71, dk d (D)]) (Want.plain rfl) rfl rfl rfl nm28 rfl (pieces_does q (by omega)) (fun _ s => s) (fun _ _ _ => trivial) (fun vR HR hR => ?_)
            obtain ⟨rfl, rfl⟩ := hR
            change TL _ _ _ _ _ _ _ _ _ [blkA lgA [(.pointer (some ⟨d, 0, none⟩)), (.int .i64 ((((ls).length : Nat) : Int))), (.int .i64 (((sizeS (ls) : Nat) : Int)))] 71, dk d (D)]
            refine TL.v (Want.plain rfl) rfl rfl (PV.sub rfl rfl rfl (wrap_i64 (by omega) (by omega))) ?_
            refine TL.v (Want.plain rfl) rfl rfl (PV.assign rfl rfl) ?_
            refine TL.nil ?_
            refine TE.next hK25 ?_
            clear hK25
            refine TC.region ?_
            refine TL.v (Want.plain rfl) rfl rfl (PV.move rfl rfl) ?_
            refine TL.v (Want.plain rfl) rfl rfl (PV.add rfl rfl rfl (wrap_i64 (by omega) (by omega))) ?_
            refine TL.v (Want.plain rfl) rfl rfl (PV.assign rfl rfl) ?_
            refine TL.nil ?_
            refine TE.blockEnd ?_
            refine TE.next hK20 ?_
            clear hK20
            refine TC.seq (fun K26 hK26 => ?_)
            refine TC.region ?_
            refine TL.v (Want.plain rfl) rfl rfl (PV.move rfl rfl) ?_
            refine TL.v (Want.plain rfl) rfl rfl (PV.move rfl rfl) ?_
            refine TL.makeB q q (Want.plain rfl) rfl rfl rfl Try.underlying28 in5 rfl rfl rfl rfl (Nat.le_refl _) (by omega) (fun b62 => ?_)
            change TL _ _ _ _ _ _ _ _ _ [blkA b62 (u8s (List.replicate q 0)) 5, blkA lgA [(.pointer (some ⟨d, 0, none⟩)), (.int .i64 ((((ls).length : Nat) : Int))), (.int .i64 (((sizeS (ls) : Nat) : Int)))] 71, dk d (D)]
            refine TL.callR (A := [blkA lgA [(.pointer (some ⟨d, 0, none⟩)), (.int .i64 ((((ls).length : Nat) : Int))), (.int .i64 (((sizeS (ls) : Nat) : Int)))] 71, dk d (D)]) (B := [blkA b62 (u8s (List.replicate q 0)) 5]) (Want.plain rfl) rfl rfl rfl nm27 rfl (putLog_does lgA d (D) (ls) (.slice (some ⟨b62, 0, none⟩) (q) (q)) ((List.replicate q 0)) hL hd) (fun _ s => sep_selR [1, 1] rfl s) (fun g d s => IsB.w (isB_blkN 0 q List.length_replicate (by omega) rfl rfl g d s)) (fun vR HR hR => ?_)
            rcases hR with ⟨hlongP, rfl, rfl⟩ | ⟨hshP, hfullP, rfl, rfl⟩ | ⟨hshP, hroomP, DP, hLP, hdP, haP, rfl, rfl⟩ | ⟨hshP, harP, DP, hHP, rfl, rfl⟩
            · exact absurd hlongP (by simp only [List.length_replicate]; omega)
            · exact absurd hfullP (by simp only [List.length_replicate]; omega)
            · skip
              obtain ⟨ls2, hls2⟩ : ∃ x, x = ls ++ [List.replicate q 0] := ⟨_, rfl⟩
              have hz : sizeS ls2 = sizeS ls + piecesN q := by rw [hls2, sizeS_add, List.length_replicate]
              have hz2 : ls2.length = ls.length + 1 := by rw [hls2, List.length_append]; rfl
              have hnxP : ((ls) ++ [(List.replicate q 0)] : List (List UInt8)) = ls2 := hls2.symm
              rw [hnxP] at hLP ⊢
              have hroP := hLP.room
              change TL _ _ _ _ _ _ _ _ _ [blkA lgA [(.pointer (some ⟨d, 0, none⟩)), (.int .i64 ((((ls2).length : Nat) : Int))), (.int .i64 (((sizeS (ls2) : Nat) : Int)))] 71, dk d (DP), blkA b62 (u8s (List.replicate q 0)) 5]
              refine TL.v (Want.plain rfl) rfl rfl (PV.move rfl rfl) ?_
              refine TL.v (Want.plain rfl) rfl rfl (PV.neq rfl rfl rfl) ?_
              refine TL.v (Want.plain rfl) rfl rfl (PV.move rfl rfl) ?_
              refine TL.v (Want.met rfl rfl rfl) rfl rfl (PV.move rfl rfl) ?_
              refine TL.callR (A := [blkA lgA [(.pointer (some ⟨d, 0, none⟩)), (.int .i64 ((((ls2).length : Nat) : Int))), (.int .i64 (((sizeS (ls2) : Nat) : Int)))] 71]) (B := [dk d (DP), blkA b62 (u8s (List.replicate q 0)) 5]) (Want.met rfl rfl rfl) rfl rfl rfl nm29 rfl (room_does lgA d (((ls2).length : Nat) : Int) ((sizeS (ls2) : Nat) : Int) (by omega)) (fun _ s => s) (fun _ _ _ => trivial) (fun vR HR hR => ?_)
              obtain ⟨rfl, rfl⟩ := hR
              change TL _ _ _ _ _ _ _ _ _ [blkA lgA [(.pointer (some ⟨d, 0, none⟩)), (.int .i64 ((((ls2).length : Nat) : Int))), (.int .i64 (((sizeS (ls2) : Nat) : Int)))] 71, dk d (DP), blkA b62 (u8s (List.replicate q 0)) 5]
              refine TL.v (Want.met rfl rfl rfl) rfl rfl (PV.move rfl rfl) ?_
              refine TL.v (Want.met rfl rfl rfl) rfl rfl (PV.neq rfl rfl rfl) ?_
              refine TL.dec (fun h70 => ?_) (fun h70 => ?_)
              · exact absurd h70 (by omega)
              · skip
                refine TL.v (Want.plain rfl) rfl rfl (PV.pick rfl rfl rfl) ?_
                refine TL.v (Want.plain rfl) rfl rfl (PV.move rfl rfl) ?_
                refine TL.v (Want.met rfl rfl rfl) rfl rfl (PV.move rfl rfl) ?_
                refine TL.callR (A := [blkA lgA [(.pointer (some ⟨d, 0, none⟩)), (.int .i64 ((((ls2).length : Nat) : Int))), (.int .i64 (((sizeS (ls2) : Nat) : Int)))] 71]) (B := [dk d (DP), blkA b62 (u8s (List.replicate q 0)) 5]) (Want.met rfl rfl rfl) rfl rfl rfl nm30 rfl (len_does lgA d (((ls2).length : Nat) : Int) ((sizeS (ls2) : Nat) : Int)) (fun _ s => s) (fun _ _ _ => trivial) (fun vR HR hR => ?_)
                obtain ⟨rfl, rfl⟩ := hR
                change TL _ _ _ _ _ _ _ _ _ [blkA lgA [(.pointer (some ⟨d, 0, none⟩)), (.int .i64 ((((ls2).length : Nat) : Int))), (.int .i64 (((sizeS (ls2) : Nat) : Int)))] 71, dk d (DP), blkA b62 (u8s (List.replicate q 0)) 5]
                refine TL.v (Want.met rfl rfl rfl) rfl rfl (PV.move rfl rfl) ?_
                refine TL.v (Want.met rfl rfl rfl) rfl rfl (PV.neq rfl rfl rfl) ?_
                refine TL.dec (fun h76 => ?_) (fun h76 => ?_)
                · exact absurd h76 (by omega)
                · skip
                  refine TL.v (Want.plain rfl) rfl rfl (PV.pick rfl rfl rfl) ?_
                  refine TL.nil ?_
                  refine TE.next hK26 ?_
                  clear hK26
                  refine TC.no rfl ?_
                  refine TC.skip ?_
                  refine TE.blockEnd ?_
                  refine TE.next hK16 ?_
                  clear hK16
                  refine TC.region ?_
                  refine TL.v (Want.plain rfl) rfl rfl (PV.add rfl rfl rfl (wrap_i64 (by omega) (by omega))) ?_
                  refine TL.v (Want.plain rfl) rfl rfl (PV.move rfl rfl) ?_
                  refine TL.nil ?_
                  exact TE.round ((k + 1, ls2, DP) : (Nat) × (List (List UInt8)) × (DS)) ⟨by omega, hLP, hdP, haP.trans ha⟩ (by show l.length - (k + 1) < l.length - k; omega)
                    (Sub.r (Sub.r (Sub.cons rfl (congrArg (Value.int .i64) (by omega)) (Sub.cons rfl (congrArg (Value.int .i64) (by omega)) (Sub.r (Sub.r (Sub.cons rfl (by simp) (Sub.nil _))))))))
                    (fun _ s => sep_keep [0, 0] rfl s)
            · exact absurd harP (by rw [ha]; decide)
      · skip
        refine TL.nil ?_
        refine TE.next hK14 ?_
        clear hK14
        refine TC.seq (fun K27 hK27 => ?_)
        refine TC.no rfl ?_
        refine TC.exit ?_
        refine TE.pass ?_
        clear hK27
        refine TE.pass ?_
        refine TE.hit ?_
        refine TE.next hK12 ?_
        clear hK12
        refine TC.seq (fun K28 hK28 => ?_)
        refine TC.region ?_
        refine TL.v (Want.plain rfl) rfl rfl (PV.move rfl rfl) ?_
        obtain ⟨DB, heB, hLB, haB, hdB⟩ := LogD.open hL ha hd
        refine TL.callR (A := [dk d (D)]) (B := [blkA lgA [(.pointer (some ⟨d, 0, none⟩)), (.int .i64 ((((ls).length : Nat) : Int))), (.int .i64 (((sizeS (ls) : Nat) : Int)))] 71]) (Want.plain rfl) rfl rfl rfl nm25 rfl (openEq_does d (D) DB (ls) ((sizeS (ls) : Nat) : Int) hL.ok hL.inn (by rw [hL.ws]; simp) heB) (fun _ s => sep_selR [1] rfl s) (fun _ _ _ => trivial) (fun vR HR hR => ?_)
        obtain ⟨lgB, vrB, rfl, rfl⟩ := hR
        change TL _ _ _ _ _ _ _ _ _ [blkA lgB [(.pointer (some ⟨d, 0, none⟩)), (.int .i64 ((((ls).length : Nat) : Int))), (.int .i64 (((sizeS (ls) : Nat) : Int)))] 71, recsP 28 5 vrB (ls), dk d (DB), blkA lgA [(.pointer (some ⟨d, 0, none⟩)), (.int .i64 ((((ls).length : Nat) : Int))), (.int .i64 (((sizeS (ls) : Nat) : Int)))] 71]
        refine TL.recsLen 1 rfl rfl (fun hvlB hvoB => ?_)
        refine TL.v (Want.plain rfl) rfl rfl (PV.move rfl rfl) ?_
        refine TL.v (Want.plain rfl) rfl rfl (PV.extract (vs := [(.pointer (some ⟨lgB, 0, none⟩)), vrB, (.int .i64 0)]) rfl rfl rfl) ?_
        refine TL.v (Want.plain rfl) rfl rfl (PV.extract (vs := [(.pointer (some ⟨lgB, 0, none⟩)), vrB, (.int .i64 0)]) rfl rfl rfl) ?_
        refine TL.v (Want.plain rfl) rfl rfl (PV.extract (vs := [(.pointer (some ⟨lgB, 0, none⟩)), vrB, (.int .i64 0)]) rfl rfl rfl) ?_
        refine TL.v (Want.plain rfl) rfl rfl (PV.assign rfl rfl) ?_
        refine TL.v (Want.plain rfl) rfl rfl (PV.assign rfl rfl) ?_
        refine TL.v (Want.plain rfl) rfl rfl (PV.assign rfl rfl) ?_
        refine TL.nil ?_
        refine TE.next hK28 ?_
        clear hK28
        refine TC.seq (fun K29 hK29 => ?_)
        refine TC.region ?_
        refine TL.v (Want.plain rfl) rfl rfl (PV.move rfl rfl) ?_
        refine TL.v (Want.plain rfl) rfl rfl (PV.eql rfl rfl rfl) ?_
        refine TL.v (Want.plain rfl) rfl rfl (PV.move rfl rfl) ?_
        refine TL.v (Want.met rfl rfl rfl) rfl rfl (PV.move rfl rfl) ?_
        refine TL.v (Want.met rfl rfl rfl) rfl rfl (PV.lenV rfl Try.underlying44 rfl hvlB) ?_
        refine TL.v (Want.met rfl rfl rfl) rfl rfl (PV.move rfl rfl) ?_
        refine TL.v (Want.met rfl rfl rfl) rfl rfl (PV.eql rfl rfl rfl) ?_
        refine TL.v (Want.plain rfl) rfl rfl (PV.pick rfl rfl rfl) ?_
        refine TL.v (Want.plain rfl) rfl rfl (PV.assign rfl rfl) ?_
        refine TL.nil ?_
        refine TE.next hK29 ?_
        clear hK29
        refine TC.ret ?_
        refine TE.weak (Sub.refl _) (fun _ s => sep_keep [] rfl s) ?_
        refine TE.ret1 rfl rfl ?_
        first | exact ⟨rfl, rfl⟩ | exact ⟨congrArg Value.bool (decide_eq_true rfl), rfl⟩


end Go.Proofs.Ytocdameafihnaaa
