/-
  Joined texts: what a statement's proof reaches.
-/
import Derived.Test.YtohmkchalilodaaGreatDoorPLock3
set_option maxHeartbeats 8000000
set_option maxRecDepth 100000
set_option linter.unusedSimpArgs false
set_option linter.unusedVariables false
section
namespace Go.Proofs.YtohmkchalilodaaGreatDoor
open Go Leg Codec Api
theorem bookRow_does (b off T : Nat) (cs : BookT → List Value) (hA : Arnd cs (fun x => ints x.flat) off) (B : BookT) (who : Int) :
 Leg.Does Tryz.prog 66 #[(.pointer (some ⟨b, off, none⟩)), (.int .i64 (who))] (fun _ => True) [blkA b (cs B) T] (Ret (fun r' H => r' = .agg (ints (bookRow B who).flat).toArray ∧ H = [blkA b (cs B) T])) := by
 refine Leg.Does.body (vs := [(.pointer (some ⟨b, off, none⟩)), (.int .i64 (who))]) (n := 15) Tryz.func66 rfl rfl rfl (fun w0 F hF => ?_)
 refine sr fun _ J1 => ?_
 refine TL.alloc (Want.plain rfl) rfl rfl rfl z74 (fun b4 => ?_)
 change TL _ _ _ _ _ _ _ _ _ [blkA b4 (ints RowT.zero.flat) 74, blkA b (cs B) T]
 refine nx J1 ?_
 refine TC.seq fun _ J2 => ?_
 refine sr fun _ J3 => ?_
 refine mv ?_
 refine TL.callR (Want.plain rfl) rfl rfl rfl nm77 rfl (bookMachine_does who) (fun _ s => s) (fun _ _ _ => trivial) (fun vR HR hR => ?_)
 obtain ⟨rfl, rfl⟩ := hR
 refine TL.decB (fun h6 => ?_) (fun h6 => ?_)
 have hm : 0 ≤ who ∧ who < 5 := of_decide_eq_true h6
 refine tp (PV.not (r := false) rfl rfl rfl) ?_
 refine nx J3 ?_
 refine TC.no rfl ?_
 refine TC.skip ?_
 refine TE.next J2 ?_
 refine sr fun _ J4 => ?_
 refine mv ?_
 refine mv ?_
 refine tp (PV.nilCheck rfl rfl) ?_
 refine tp (PV.fieldAddr (r := off) rfl Y77 rfl sz75 rfl rfl) ?_
 refine tp (PV.indexArr (r := off + who.toNat * 174) rfl Y75 sz74 rfl rfl (by omega) (by omega) (by omega)) ?_
 refine tp (PV.loadN (vs := ints (B.rows[who.toNat]'(by omega)).flat) rfl Y74 rfl sz74 rfl (Rd.own 1 rfl rfl) (RowT.len (B.rows[who.toNat]'(by omega))) (Arnd.sub hA (j := who.toNat * 174) (by omega) (by have h0 := (BookT.len B); omega) (BookT.sub_rows B (who.toNat * 174) (by omega) (by omega) (vs_sub RowT.flat_length B.rows (i := who.toNat) 0 (by omega) (by omega) (by decide) (whole (RowT.len (B.rows[who.toNat]'(by omega)))))))) ?_
 refine TL.store (vs := ints (B.rows[who.toNat]'(by omega)).flat) (i := 0) (Want.plain rfl) rfl rfl rfl rfl rfl (by rw [(RowT.len (B.rows[who.toNat]'(by omega)))]; exact sz74) (ints_one _) rfl rfl (by have h0 := (RowT.len RowT.zero); have h1 := (RowT.len (B.rows[who.toNat]'(by omega))); omega) (wwhole ((RowT.len RowT.zero).trans (RowT.len (B.rows[who.toNat]'(by omega))).symm)) rfl ?_
 refine nx J4 ?_
 refine TC.ret ?_
 refine TE.retC (H' := [blkA b (cs B) T]) rfl rfl Y74 rfl sz74 (Rd.own 0 rfl rfl) (RowT.len (B.rows[who.toNat]'(by omega))) (fun _ s => sep_keep [1] rfl s) ?_
 exact ⟨by rw [bookRow, dif_pos h6], rfl⟩
 refine tp (PV.not (r := true) rfl rfl rfl) ?_
 refine nx J3 ?_
 refine TC.yes rfl ?_
 refine sr fun _ J5 => ?_
 refine tp (PV.build (cells := (ints RowT.zero.flat).toArray) rfl rfl (by as_aux_lemma => kernel_rfl)) ?_
 refine TL.store (vs := ints RowT.zero.flat) (i := 0) (Want.plain rfl) rfl rfl rfl rfl rfl (by rw [(RowT.len RowT.zero)]; exact sz74) (ints_one _) rfl rfl (by have h0 := (RowT.len RowT.zero); have h1 := (RowT.len RowT.zero); omega) (wwhole ((RowT.len RowT.zero).trans (RowT.len RowT.zero).symm)) rfl ?_
 refine nx J5 ?_
 refine TC.ret ?_
 refine TE.passRet ?_
 refine TE.retC (H' := [blkA b (cs B) T]) rfl rfl Y74 rfl sz74 (Rd.own 0 rfl rfl) (RowT.len RowT.zero) (fun _ s => sep_keep [1] rfl s) ?_
 exact ⟨by rw [bookRow, dif_neg (by simp [h6])], rfl⟩
theorem bookMerge_does (b off T : Nat) (cs : BookT → List Value) (hA : Arnd cs (fun x => ints x.flat) off) (B : BookT) (who : Int) (x : RowT) (hx : WF x.flat) :
 Leg.Does Tryz.prog 35 #[(.pointer (some ⟨b, off, none⟩)), (.int .i64 (who)), (.agg (ints x.flat).toArray)] (fun _ => True) [blkA b (cs B) T] (Ret (fun r' H => r' = .bool (bookMerge B who x).2 ∧ H = [blkA b (cs (bookMerge B who x).1) T])) := by
 refine Leg.Does.body (n := 33) Tryz.func35 rfl rfl rfl (fun w0 F hF => sr fun _ J1 => TL.box (Want.plain rfl) rfl rfl rfl rfl (fun b5 => ?_))
 change TL _ _ _ _ _ _ _ _ _ [blkA b5 (ints x.flat) 74, blkA b (cs B) T]
 refine PS ?_
 refine nx J1 (TC.seq fun _ J2 => TC.seq fun _ J3 => D2 0 1 mixed ?_)
 refine PD 0 ?_
 refine AL 1 ?_
 refine CR nm77 (bookMachine_does who) (fun _ s => s) fun vR HR hR => ?_
 obtain ⟨rfl, rfl⟩ := hR
 refine TL.decB (fun h8 => ?_) (fun h8 => ?_)
 have hm : 0 ≤ who ∧ who < 5 := of_decide_eq_true h8
 have hrow : bookRow B who = B.rows[who.toNat]'(by omega) := by rw [bookRow, dif_pos h8]
 refine TL.nil (E2 0 1 (ta 2 rfl (PV.not (r := false) rfl rfl rfl) ?_))
 refine PD 3 ?_
 refine tb 4 rfl (PV.loadN (vs := ints x.flat) rfl Y74 rfl sz74 rfl (fun _ h => h.2.1) (RowT.len x) (whole (RowT.len x))) ?_
 refine AL 5 ?_
 refine CR nm78 (rowRight_does x hx) (fun _ s => s) fun vR HR hR => ?_
 obtain ⟨rfl, rfl⟩ := hR
 refine TL.decB (fun h12 => ?_) (fun h12 => ?_)
 refine TL.nil (E2 0 1 (tb 6 rfl (PV.not (r := false) rfl rfl rfl) ?_))
 refine PD 7 ?_
 refine PD 8 ?_
 refine FD 9 0 Y74 sz3 ?_
 refine tb 10 rfl (PV.load1 (v := (.int .i64 (x.version))) rfl Y3 rfl rfl (fun _ h => h.2.1) (RowT.at_version x rfl)) ?_
 refine PD 11 ?_
 refine PD 12 ?_
 refine PD 13 ?_
 refine tb 14 rfl (PV.fieldAddr (r := off) rfl Y77 rfl sz75 rfl rfl) ?_
 refine tb 15 rfl (PV.indexArr (r := off + who.toNat * 174) rfl Y75 sz74 rfl rfl (by omega) (by omega) (by omega)) ?_
 refine tb 16 rfl (PV.fieldAddr (r := off + who.toNat * 174) rfl Y74 rfl sz3 rfl rfl) ?_
 refine tb 17 rfl (PV.load1 (v := (.int .i64 ((B.rows[who.toNat]'(by omega)).version))) rfl Y3 rfl rfl (fun _ h => h.2.2.1) (Arnd.at hA (j := who.toNat * 174) (by omega) (by have h0 := (BookT.len B); omega) (BookT.pt_rows B (who.toNat * 174) (by omega) (by omega) (vs_pt RowT.flat_length B.rows (i := who.toNat) 0 (by omega) (by omega) (by decide) (RowT.at_version _ rfl))))) ?_
 refine PD 18 ?_
 refine TD.dec (fun h25 => ?_) (fun h25 => ?_)
 refine PD 19 ?_
 refine TD.done (by kernel_rfl) (TE.next J3 (CY (sr fun _ J4 => PS ?_)))
 refine nx J4 (TC.ret (TE.passRet (WK [1] (TE.ret1 rfl rfl ?_))))
 have e : bookMerge B who x = (B, false) := by rw [bookMerge, if_neg (fun h => by simp only [Bool.and_eq_true, decide_eq_true_iff] at h; rw [hrow] at h; omega)]
 exact ⟨by rw [e], by rw [e]; rfl⟩
 refine PD 19 ?_
 refine TD.done (by kernel_rfl) (TE.next J3 (CN (CX J2 (TC.seq fun _ J5 => D1 0 mixed ?_))))
 refine PD 0 ?_
 refine PD 1 ?_
 refine ta 2 rfl (PV.loadN (vs := ints x.flat) rfl Y74 rfl sz74 rfl (fun _ h => h.2.1) (RowT.len x) (whole (RowT.len x))) ?_
 refine PD 3 ?_
 refine ta 4 rfl (PV.fieldAddr (r := off) rfl Y77 rfl sz75 rfl rfl) ?_
 refine ta 5 rfl (PV.indexArr (r := off + who.toNat * 174) rfl Y75 sz74 rfl rfl (by omega) (by omega) (by omega)) ?_
 refine AL 6 ?_
 refine TL.store (vs := ints x.flat) (i := 1) (Want.plain rfl) rfl rfl rfl rfl rfl (by rw [(RowT.len x)]; exact sz74) (ints_one _) rfl rfl (by have h0 := (BookT.len B); have h2 := Arnd.le hA B; have h1 := (RowT.len x); omega) (Arnd.wr hA (x := B) (x' := (BookT.mk (B.rows.set who.toNat x (by omega)))) (j := who.toNat * 174) (by omega) (by have h0 := (BookT.len B); have h1 := (RowT.len x); omega) (BookT.wr_rows_ B (who.toNat * 174) (by omega) (by have h1 := (RowT.len x); omega) (vs_wr RowT.flat_length B.rows (i := who.toNat) 0 (by omega) (by omega) (by have h1 := (RowT.len x); omega) (wwhole ((RowT.len (B.rows[who.toNat]'(by omega))).trans (RowT.len x).symm))))) rfl (TL.nil (E1 0 (TD.done (by kernel_rfl) (TE.next J5 (sr fun _ J6 => PS ?_)))))
 refine nx J6 (TC.ret (WK [1] (TE.ret1 rfl rfl ?_)))
 have e : bookMerge B who x = (putRow B who x, true) := by rw [bookMerge, if_pos (by simp only [Bool.and_eq_true, decide_eq_true_iff, hrow]; exact ⟨⟨h8, h12⟩, by omega⟩)]
 exact ⟨by rw [e], by rw [e, putRow, dif_pos h8]; rfl⟩
 refine TL.nil (E2 0 1 (tb 6 rfl (PV.not (r := true) rfl rfl rfl) ?_))
 refine PD 7 ?_
 refine PD 8 ?_
 refine NT 9 ?_
 refine NT 10 ?_
 refine NT 11 ?_
 refine NT 12 ?_
 refine NT 13 ?_
 refine NT 14 ?_
 refine NT 15 ?_
 refine NT 16 ?_
 refine NT 17 ?_
 refine NT 18 ?_
 refine PD 19 ?_
 refine TD.done (by kernel_rfl) (TE.next J3 (CY (sr fun _ J7 => PS ?_)))
 refine nx J7 (TC.ret (TE.passRet (WK [1] (TE.ret1 rfl rfl ?_))))
 have e : bookMerge B who x = (B, false) := by rw [bookMerge, if_neg (fun h => by simp only [Bool.and_eq_true, decide_eq_true_iff] at h; rw [h12] at h; exact absurd h.1.2 (by decide))]
 exact ⟨by rw [e], by rw [e]; rfl⟩
 refine TL.nil (E2 0 1 (ta 2 rfl (PV.not (r := true) rfl rfl rfl) ?_))
 refine PD 3 ?_
 refine NT 4 ?_
 refine NT 5 ?_
 refine NT 6 ?_
 refine PD 7 ?_
 refine PD 8 ?_
 refine NT 9 ?_
 refine NT 10 ?_
 refine NT 11 ?_
 refine NT 12 ?_
 refine NT 13 ?_
 refine NT 14 ?_
 refine NT 15 ?_
 refine NT 16 ?_
 refine NT 17 ?_
 refine NT 18 ?_
 refine PD 19 ?_
 refine TD.done (by kernel_rfl) (TE.next J3 (CY (sr fun _ J8 => PS ?_)))
 refine nx J8 (TC.ret (TE.passRet (WK [1] (TE.ret1 rfl rfl ?_))))
 have e : bookMerge B who x = (B, false) := by rw [bookMerge, if_neg (fun h => by simp only [Bool.and_eq_true, decide_eq_true_iff] at h; rw [h8] at h; exact absurd h.1.1 (by decide))]
 exact ⟨by rw [e], by rw [e]; rfl⟩
theorem bookCell_does (b off T : Nat) (cs : BookT → List Value) (hA : Arnd cs (fun x => ints x.flat) off) (B : BookT) (of' key : Int) :
 Leg.Does Tryz.prog 36 #[(.pointer (some ⟨b, off, none⟩)), (.int .i64 (of')), (.int .i64 (key))] (fun _ => True) [blkA b (cs B) T] (Ret (fun r' H => r' = .agg (ints (bookCell B of' key).flat).toArray ∧ H = [blkA b (cs B) T])) := by
 refine Leg.Does.body (n := 35) Tryz.func36 rfl rfl rfl (fun w0 F hF => sr fun _ J1 => TL.alloc (Want.plain rfl) rfl rfl rfl z70 (fun b6 => ?_))
 change TL _ _ _ _ _ _ _ _ _ [blkA b6 (ints CellT.zero.flat) 70, blkA b (cs B) T]
 refine nx J1 (sr fun _ J2 => TL.alloc (Want.plain rfl) rfl rfl rfl z70 (fun b7 => ?_))
 change TL _ _ _ _ _ _ _ _ _ [blkA b7 (ints CellT.zero.flat) 70, blkA b6 (ints CellT.zero.flat) 70, blkA b (cs B) T]
 refine nx J2 (sr fun _ J3 => PS ?_)
 refine nx J3 (TC.seq fun _ J4 => sr fun _ J5 => PS ?_)
 refine nx J5 (TC.block ?_)
 refine TC.loop (α := (Nat) × (CellT) × (Int)) (fun ⟨k, c, n⟩ => k ≤ 5 ∧ (c, n) = bookTo B of' key k) (fun ⟨k, c, n⟩ => [(0, (.pointer (some ⟨b, off, none⟩))), (1, (.int .i64 (of'))), (2, (.int .i64 (key))), (6, (.pointer (some ⟨b6, 0, none⟩))), (7, (.pointer (some ⟨b7, 0, none⟩))), (8, (.int .i64 (n))), (12, (.int .i64 (((k : Nat) : Int))))]) (fun ⟨k, c, n⟩ => [blkA b7 (ints c.flat) 70, blkA b6 (ints CellT.zero.flat) 70, blkA b (cs B) T]) (fun ⟨k, c, n⟩ => 5 - k) (0, CellT.zero, -1)
  ⟨Nat.zero_le _, rfl⟩ (Sub.r (Sub.r (Sub.r (Sub.r (Sub.r (Sub.cons rfl (by congr 1) (Sub.cons rfl (by congr 1) (Sub.nil _))))))))
  (fun _ s => s) (fun ⟨k, c, n⟩ hinv => ?_)
 obtain ⟨hk, hc⟩ := hinv
 refine sr fun _ J6 => PS ?_
 refine TL.dec (fun h13 => ?_) (fun h13 => ?_)
 refine nx J6 (TC.seq fun _ J7 => CY (CX J7 (TC.seq fun _ J8 => TC.block (sr fun _ J9 => PS ?_))))
 refine PS ?_
 refine nx J9 (sr fun _ J10 => ?_)
 iterate 3 refine PS ?_
 refine tp (PV.fieldAddr (r := off) rfl Y77 rfl sz75 rfl rfl) ?_
 refine tp (PV.indexArr (r := off + k * 174) rfl Y75 sz74 rfl rfl (by omega) (by omega) (by omega)) ?_
 refine tp (PV.loadN (vs := ints (B.rows[k]'(by omega)).flat) rfl Y74 rfl sz74 rfl (RO 2) (RowT.len (B.rows[k]'(by omega))) (Arnd.sub hA (j := k * 174) (by omega) (by have h0 := (BookT.len B); omega) (BookT.sub_rows B (k * 174) (by omega) (by omega) (vs_sub RowT.flat_length B.rows (i := k) 0 (by omega) (by omega) (by decide) (whole (RowT.len (B.rows[k]'(by omega)))))))) ?_
 iterate 3 refine PS ?_
 refine CR nm79 (rowCell_does (B.rows[k]'(by omega)) ((k : Nat) : Int) of' key) (fun _ s => s) fun vR HR hR => ?_
 obtain ⟨rfl, rfl⟩ := hR
 refine PS ?_
 refine tp (PV.extract (vs := [(.agg (ints ((rowCell (B.rows[k]'(by omega)) ((k : Nat) : Int) of' key).1).flat).toArray), (.int .i64 ((rowCell (B.rows[k]'(by omega)) ((k : Nat) : Int) of' key).2))]) rfl rfl rfl) ?_
 refine tp (PV.extract (vs := [(.agg (ints ((rowCell (B.rows[k]'(by omega)) ((k : Nat) : Int) of' key).1).flat).toArray), (.int .i64 ((rowCell (B.rows[k]'(by omega)) ((k : Nat) : Int) of' key).2))]) rfl rfl rfl) ?_
 refine TL.alloc (Want.plain rfl) rfl rfl rfl z70 (fun b10 => ?_)
 change TL _ _ _ _ _ _ _ _ _ [blkA b10 (ints CellT.zero.flat) 70, blkA b7 (ints c.flat) 70, blkA b6 (ints CellT.zero.flat) 70, blkA b (cs B) T]
 refine TL.store (vs := ints ((rowCell (B.rows[k]'(by omega)) ((k : Nat) : Int) of' key).1).flat) (i := 0) (Want.plain rfl) rfl rfl rfl rfl rfl (by rw [(CellT.len ((rowCell (B.rows[k]'(by omega)) ((k : Nat) : Int) of' key).1))]; exact sz70) (ints_one _) rfl rfl (by have h0 := (CellT.len CellT.zero); have h1 := (CellT.len ((rowCell (B.rows[k]'(by omega)) ((k : Nat) : Int) of' key).1)); omega) (wwhole ((CellT.len CellT.zero).trans (CellT.len ((rowCell (B.rows[k]'(by omega)) ((k : Nat) : Int) of' key).1)).symm)) rfl (PS ?_)
 refine nx J10 (sr fun _ J11 => ?_)
 iterate 3 refine PS ?_
 refine TL.dec (fun h30 => ?_) (fun h30 => ?_)
 refine nx J11 (CY (TC.region (tp (PV.loadN (vs := ints ((rowCell (B.rows[k]'(by omega)) ((k : Nat) : Int) of' key).1).flat) rfl Y70 rfl sz70 rfl (RO 0) (CellT.len ((rowCell (B.rows[k]'(by omega)) ((k : Nat) : Int) of' key).1)) (whole (CellT.len ((rowCell (B.rows[k]'(by omega)) ((k : Nat) : Int) of' key).1)))) ?_)))
 refine PS ?_
 refine TL.store (vs := ints ((rowCell (B.rows[k]'(by omega)) ((k : Nat) : Int) of' key).1).flat) (i := 1) (Want.plain rfl) rfl rfl rfl rfl rfl (by rw [(CellT.len ((rowCell (B.rows[k]'(by omega)) ((k : Nat) : Int) of' key).1))]; exact sz70) (ints_one _) rfl rfl (by have h0 := (CellT.len c); have h1 := (CellT.len ((rowCell (B.rows[k]'(by omega)) ((k : Nat) : Int) of' key).1)); omega) (wwhole ((CellT.len c).trans (CellT.len ((rowCell (B.rows[k]'(by omega)) ((k : Nat) : Int) of' key).1)).symm)) rfl (PS ?_)
 refine TL.nil (TE.blockEnd (TE.next J8 (TC.region (tp (PV.add rfl rfl rfl (wrap_i64 (by omega) (by omega))) ?_))))
 refine PS ?_
 refine TL.nil ?_
 exact TE.round ((k + 1, (rowCell (B.rows[k]'(by omega)) ((k : Nat) : Int) of' key).1, (rowCell (B.rows[k]'(by omega)) ((k : Nat) : Int) of' key).2) : (Nat) × (CellT) × (Int)) ⟨by omega, by rw [bookTo_succ, ← hc, bookStep, bookRow_at B (by omega)]; simp [h30]⟩ (by show 5 - (k + 1) < 5 - k; omega)
  (Sub.r (Sub.r (Sub.r (Sub.r (Sub.r (Sub.r (Sub.cons rfl (by simp) (Sub.nil _))))))))
  (fun _ s => sep_keep [1, 1, 1] rfl s)
 refine nx J11 (CN (TC.skip (TE.blockEnd (TE.next J8 (TC.region (tp (PV.add rfl rfl rfl (wrap_i64 (by omega) (by omega))) ?_))))))
 refine PS ?_
 refine TL.nil ?_
 exact TE.round ((k + 1, c, n) : (Nat) × (CellT) × (Int)) ⟨by omega, by rw [bookTo_succ, ← hc, bookStep, bookRow_at B (by omega)]; simp [h30]⟩ (by show 5 - (k + 1) < 5 - k; omega)
  (Sub.r (Sub.r (Sub.r (Sub.r (Sub.r (Sub.r (Sub.cons rfl (by simp) (Sub.nil _))))))))
  (fun _ s => sep_keep [1, 1, 1] rfl s)
 refine nx J6 (TC.seq fun _ J12 => CN (TC.exit (TE.pass (TE.pass (TE.hit (TE.next J4 (sr fun _ J13 => tp (PV.loadN (vs := ints c.flat) rfl Y70 rfl sz70 rfl (RO 0) (CellT.len c) (whole (CellT.len c))) ?_)))))))
 refine TL.store (vs := ints c.flat) (i := 1) (Want.plain rfl) rfl rfl rfl rfl rfl (by rw [(CellT.len c)]; exact sz70) (ints_one _) rfl rfl (by have h0 := (CellT.len CellT.zero); have h1 := (CellT.len c); omega) (wwhole ((CellT.len CellT.zero).trans (CellT.len c).symm)) rfl (nx J13 (TC.ret (TE.retC (H' := [blkA b (cs B) T]) rfl rfl Y70 rfl sz70 (RO 1) (CellT.len c) (fun _ s => sep_keep [2] rfl s) ?_)))
 obtain rfl : k = 5 := by omega
 exact ⟨by rw [bookCell, ← hc], rfl⟩
theorem bookValue_does (b off T : Nat) (cs : BookT → List Value) (hA : Arnd cs (fun x => ints x.flat) off) (B : BookT) (key : Int) :
 Leg.Does Tryz.prog 13 #[(.pointer (some ⟨b, off, none⟩)), (.int .i64 (key))] (fun _ => True) [blkA b (cs B) T] (Ret (fun r' H => r' = .int .i64 (bookValue B key) ∧ H = [blkA b (cs B) T])) := by
 refine Leg.Does.body (n := 24) Tryz.func13 rfl rfl rfl (fun w0 F hF => sr fun _ J1 => PS ?_)
 refine nx J1 (sr fun _ J2 => PS ?_)
 refine nx J2 (TC.seq fun _ J3 => sr fun _ J4 => PS ?_)
 refine nx J4 (TC.block ?_)
 refine TC.loop (α := (Nat) × (Int)) (fun ⟨k, n⟩ => k ≤ 5 ∧ n = valueTo B key k) (fun ⟨k, n⟩ => [(0, (.pointer (some ⟨b, off, none⟩))), (1, (.int .i64 (key))), (4, (.int .i64 0)), (5, (.int .i64 (n))), (8, (.int .i64 (((k : Nat) : Int))))]) (fun ⟨k, n⟩ => [blkA b (cs B) T]) (fun ⟨k, n⟩ => 5 - k) (0, 0)
  ⟨Nat.zero_le _, rfl⟩ SB
  (fun _ s => s) (fun ⟨k, n⟩ hinv => ?_)
 obtain ⟨hk, hc⟩ := hinv
 refine sr fun _ J5 => PS ?_
 refine TL.dec (fun h9 => ?_) (fun h9 => ?_)
 refine nx J5 (TC.seq fun _ J6 => CY (CX J6 (TC.seq fun _ J7 => TC.block (sr fun _ J8 => PS ?_))))
 refine PS ?_
 refine nx J8 (sr fun _ J9 => ?_)
 iterate 3 refine PS ?_
 refine CE nm36 (bookCell_does b off T cs hA B ((k : Nat) : Int) key) (fun _ s => s) ?_
 refine XA z70 fun b7 => ?_
 change TL _ _ _ _ _ _ _ _ _ [blkA b7 (ints CellT.zero.flat) 70, blkA b (cs B) T]
 refine TL.store (vs := ints (bookCell B ((k : Nat) : Int) key).flat) (i := 0) (Want.plain rfl) rfl rfl rfl rfl rfl (by rw [(CellT.len (bookCell B ((k : Nat) : Int) key))]; exact sz70) (ints_one _) rfl rfl (LC (CellT.len _) (CellT.len _)) (wwhole ((CellT.len CellT.zero).trans (CellT.len (bookCell B ((k : Nat) : Int) key)).symm)) rfl (nx J9 (TC.region (PS ?_)))
 refine FA 0 Y70 sz3 ?_
 refine tp (PV.load1 (v := (.int .i64 ((bookCell B ((k : Nat) : Int) key).inn))) rfl Y3 rfl rfl (RO 0) (CellT.at_inn _ rfl)) ?_
 refine FA 1 Y70 sz3 ?_
 refine tp (PV.load1 (v := (.int .i64 ((bookCell B ((k : Nat) : Int) key).out))) rfl Y3 rfl rfl (RO 0) (CellT.at_out _ rfl)) ?_
 refine tp (PV.sub (r := (w64 (((bookCell B ((k : Nat) : Int) key).inn) - ((bookCell B ((k : Nat) : Int) key).out)))) rfl rfl rfl rfl) ?_
 refine tp (PV.add (r := (w64 (n + (w64 (((bookCell B ((k : Nat) : Int) key).inn) - ((bookCell B ((k : Nat) : Int) key).out)))))) rfl rfl rfl rfl) ?_
 refine PS ?_
 refine TL.nil (TE.blockEnd (TE.next J7 (TC.region (AD ?_))))
 refine PS ?_
 refine TL.nil ?_
 exact TE.round ((k + 1, (w64 (n + (w64 (((bookCell B ((k : Nat) : Int) key).inn) - ((bookCell B ((k : Nat) : Int) key).out)))))) : (Nat) × (Int)) ⟨by omega, by rw [valueTo_succ, ← hc]⟩ (by show 5 - (k + 1) < 5 - k; omega)
  SB
  (fun _ s => sep_keep [1] rfl s)
 refine nx J5 (TC.seq fun _ J10 => CN (TC.exit (TE.pass (TE.pass (TE.hit (TE.next J3 (sr fun _ J11 => PS ?_)))))))
 refine PS ?_
 refine nx J11 (TC.ret (WK [0] (TE.ret1 rfl rfl ?_)))
 obtain rfl : k = 5 := by omega
 exact ⟨by rw [hc]; rfl, rfl⟩
theorem bookRights_does (b off T : Nat) (cs : BookT → List Value) (hA : Arnd cs (fun x => ints x.flat) off) (B : BookT) (who key : Int) :
    Leg.Does Tryz.prog 37 #[(.pointer (some ⟨b, off, none⟩)), (.int .i64 (who)), (.int .i64 (key))] (fun _ => True) [blkA b (cs B) T] (Ret (fun r' H => r' = .int .i64 (bookRights B who key) ∧ H = [blkA b (cs B) T])) := by
 refine Leg.Does.body (n := 71) Tryz.func37 rfl rfl rfl (fun w0 F hF => sr fun _ J1 => PS ?_)
 refine nx J1 (TC.seq fun _ J2 => sr fun _ J3 => PS ?_)
 refine CR nm77 (bookMachine_does who) (fun _ s => s) fun vR HR hR => ?_
 obtain ⟨rfl, rfl⟩ := hR
 refine TL.decB (fun h14 => ?_) (fun h14 => ?_)
 have hm : 0 ≤ who ∧ who < 5 := of_decide_eq_true h14
 refine tp (PV.not (r := false) rfl rfl rfl) ?_
 refine nx J3 (CN (CX J2 (sr fun _ J4 => TL.alloc (Want.plain rfl) rfl rfl rfl z154 (fun b7 => ?_))))
 change TL _ _ _ _ _ _ _ _ _ [blkA b7 (ints ((#v[CellT.zero, CellT.zero, CellT.zero, CellT.zero, CellT.zero]).toList.flatMap CellT.flat)) 154, blkA b (cs B) T]
 refine nx J4 (TC.seq fun _ J5 => sr fun _ J6 => PS ?_)
 refine nx J6 (TC.block ?_)
 refine TC.loop (α := (Nat) × (Vector CellT 5)) (fun ⟨k, C⟩ => k ≤ 5 ∧ ∀ (j : Nat) (h : j < 5), j < k → C[j] = bookCell B j key) (fun ⟨k, C⟩ => [(0, (.pointer (some ⟨b, off, none⟩))), (1, (.int .i64 (who))), (2, (.int .i64 (key))), (6, (.int .i64 0)), (7, (.pointer (some ⟨b7, 0, none⟩))), (16, (.int .i64 (((k : Nat) : Int))))]) (fun ⟨k, C⟩ => [blkA b7 (ints (C.toList.flatMap CellT.flat)) 154, blkA b (cs B) T]) (fun ⟨k, C⟩ => 5 - k) (0, #v[CellT.zero, CellT.zero, CellT.zero, CellT.zero, CellT.zero])
     ⟨Nat.zero_le _, fun j _ h => absurd h (by omega)⟩ (Sub.r (Sub.r (Sub.r (Sub.r (Sub.r (Sub.cons rfl (by congr 1) (Sub.nil _)))))))
     (fun _ s => sep_keep [0, 0] rfl s) (fun ⟨k, C⟩ hinv => ?_)
 obtain ⟨hk, hC⟩ := hinv
 refine sr fun _ J7 => PS ?_
 refine TL.dec (fun h17 => ?_) (fun h17 => ?_)
 refine nx J7 (TC.seq fun _ J8 => CY (CX J8 (TC.seq fun _ J9 => TC.block (sr fun _ J10 => PS ?_))))
 refine PS ?_
 refine nx J10 (TC.region ?_)
 iterate 4 refine PS ?_
 refine CR nm36 (bookCell_does b off T cs hA B ((k : Nat) : Int) key) (SM [1]) fun vR HR hR => ?_
 obtain ⟨rfl, rfl⟩ := hR
 refine tp (PV.indexArr (r := k * 7) rfl Y154 sz70 rfl rfl (by omega) (by omega) (by omega)) ?_
 refine TL.store (vs := ints (bookCell B ((k : Nat) : Int) key).flat) (i := 1) (Want.plain rfl) rfl rfl rfl rfl rfl (by rw [(CellT.len (bookCell B ((k : Nat) : Int) key))]; exact sz70) (ints_one _) rfl rfl (by have h0 := (vsc_len C); have h1 := (CellT.len (bookCell B ((k : Nat) : Int) key)); omega) (vs_wr CellT.flat_length C (i := k) 0 (by omega) (by omega) (by have h1 := (CellT.len (bookCell B ((k : Nat) : Int) key)); omega) (wwhole ((CellT.len (C[k]'(by omega))).trans (CellT.len (bookCell B ((k : Nat) : Int) key)).symm))) rfl (TL.nil (TE.blockEnd (TE.next J9 (TC.region (tp (PV.add rfl rfl rfl (wrap_i64 (by omega) (by omega))) ?_)))))
 refine PS ?_
 refine TL.nil ?_
 exact TE.round ((k + 1, (C.set k (bookCell B ((k : Nat) : Int) key) (by omega))) : (Nat) × (Vector CellT 5)) ⟨by omega, fun j h hj => by
        rw [Vector.getElem_set]
        split
        · subst_vars; rfl
        · exact hC j h (by omega)⟩ (by show 5 - (k + 1) < 5 - k; omega)
   (Sub.r (Sub.r (Sub.r (Sub.r (Sub.r (Sub.cons rfl (by simp) (Sub.nil _)))))))
   (fun _ s => sep_keep [1, 0] rfl s)
 refine nx J7 (TC.seq fun _ J11 => CN (TC.exit (TE.pass (TE.pass (TE.hit (TE.next J5 (sr fun _ J12 => PS ?_)))))))
 refine nx J12 (TC.seq fun _ J13 => sr fun _ J14 => ?_)
 iterate 3 refine PS ?_
 refine tp (PV.fieldAddr (r := off) rfl Y77 rfl sz75 rfl rfl) ?_
 refine tp (PV.indexArr (r := off + who.toNat * 174) rfl Y75 sz74 rfl rfl (by omega) (by omega) (by omega)) ?_
 refine tp (PV.loadN (vs := ints (B.rows[who.toNat]'(by omega)).flat) rfl Y74 rfl sz74 rfl (RO 1) (RowT.len (B.rows[who.toNat]'(by omega))) (Arnd.sub hA (j := who.toNat * 174) (by omega) (by have h0 := (BookT.len B); omega) (BookT.sub_rows B (who.toNat * 174) (by omega) (by omega) (vs_sub RowT.flat_length B.rows (i := who.toNat) 0 (by omega) (by omega) (by decide) (whole (RowT.len (B.rows[who.toNat]'(by omega)))))))) ?_
 refine PS ?_
 have hbr : B.rows[who.toNat]'(by omega) = bookRow B who := by rw [bookRow, dif_pos h14]
 rw [hbr]
 refine CR nm80 (rowOwn_does (bookRow B who) who) (fun _ s => s) fun vR HR hR => ?_
 obtain ⟨_, rfl, rfl⟩ := hR
 revert vR
 intro ul1
 refine TL.ownLen 0 rfl rfl (fun hlul1 houl1 => tp (PV.lenV rfl Y155 rfl hlul1) ?_)
 refine PS ?_
 refine nx J14 (TC.block ?_)
 refine TC.loop (α := (Nat) × (Int)) (fun ⟨i, r⟩ => i ≤ (rowOwn (bookRow B who) who).length ∧ r = ((rowOwn (bookRow B who) who).take i).foldl (rightsStep B key) 0) (fun ⟨i, r⟩ => [(0, (.pointer (some ⟨b, off, none⟩))), (6, (.int .i64 0)), (7, (.pointer (some ⟨b7, 0, none⟩))), (9, (.int .i64 (r))), (33, ul1), (34, (.int .i64 ((((rowOwn (bookRow B who) who).length : Nat) : Int)))), (35, (.int .i64 (((i : Nat) : Int))))]) (fun ⟨i, r⟩ => [own ul1 ((rowOwn (bookRow B who) who).length) (ints (rowOwn (bookRow B who) who)) 3 1, blkA b7 (ints (C.toList.flatMap CellT.flat)) 154, blkA b (cs B) T]) (fun ⟨i, r⟩ => (rowOwn (bookRow B who) who).length - i) (0, 0)
     ⟨Nat.zero_le _, rfl⟩ (Sub.r (Sub.r (Sub.r (Sub.cons rfl (by congr 1) (Sub.r (Sub.r (Sub.cons rfl (by congr 1) (Sub.nil _))))))))
     (fun _ s => sep_keep [0, 0, 0] rfl s) (fun ⟨i, r⟩ hinv => ?_)
 obtain ⟨hi, hr⟩ := hinv
 have hE : ∀ (j : Nat) (h : j < 5), C[j] = bookCell B j key := fun j h => hC j h (by omega)
 refine sr fun _ J15 => PS ?_
 refine TL.dec (fun h36 => ?_) (fun h36 => ?_)
 refine nx J15 (TC.seq fun _ J16 => CY (CX J16 (TC.seq fun _ J17 => TC.block (sr fun _ J18 => TL.ownAt 0 rfl rfl (by omega) (fun ga capa hva hcapa => ?_)))))
 obtain ⟨q, hq, hq5⟩ : ∃ q : Nat, (rowOwn (bookRow B who) who)[i] = ((q : Nat) : Int) ∧ q < 5 := by have := rowOwn_mem (bookRow B who) who _ (List.getElem_mem (show i < (rowOwn (bookRow B who) who).length by omega)); exact ⟨(rowOwn (bookRow B who) who)[i].toNat, by omega, by omega⟩
 have hE2 : C[q] = bookCell B (rowOwn (bookRow B who) who)[i] key := by rw [hE q hq5, hq]
 refine tp (PV.indexSlV (r := i) hva rfl Y155 sz3 rfl rfl (by omega) (by omega) (by omega)) ?_
 refine tp (PV.load1X (v := (.int .i64 (((q : Nat) : Int)))) rfl Y3 rfl rfl (RdX.own 0 rfl hva rfl) (by rw [← hq]; simp [ints, show i < (rowOwn (bookRow B who) who).length by omega])) ?_
 refine PS ?_
 refine nx J18 (TC.seq fun _ J19 => D1 1 mixed ?_)
 refine PD 0 ?_
 refine PD 1 ?_
 refine ta 2 rfl (PV.indexArr (r := q * 7) rfl Y154 sz70 rfl rfl (by omega) (by omega) (by omega)) ?_
 refine ta 3 rfl (PV.fieldAddr (r := q * 7) rfl Y70 rfl sz3 rfl rfl) ?_
 refine ta 4 rfl (PV.load1 (v := (.int .i64 ((C[q]'(by omega)).inn))) rfl Y3 rfl rfl (fun _ h => h.2.1) (vs_pt CellT.flat_length C (i := q) 0 (by omega) (by omega) (by decide) (CellT.at_inn _ rfl))) ?_
 refine PD 5 ?_
 refine ta 6 rfl (PV.indexArr (r := q * 7) rfl Y154 sz70 rfl rfl (by omega) (by omega) (by omega)) ?_
 refine ta 7 rfl (PV.fieldAddr (r := q * 7 + 1) rfl Y70 rfl sz3 rfl rfl) ?_
 refine ta 8 rfl (PV.load1 (v := (.int .i64 ((C[q]'(by omega)).out))) rfl Y3 rfl rfl (fun _ h => h.2.1) (vs_pt CellT.flat_length C (i := q) 1 (by omega) (by omega) (by decide) (CellT.at_out _ rfl))) ?_
 refine ta 9 rfl (PV.sub (r := (w64 (((C[q]'(by omega)).inn) - ((C[q]'(by omega)).out)))) rfl rfl rfl rfl) ?_
 refine ta 10 rfl (PV.add (r := (w64 (r + (w64 (((C[q]'(by omega)).inn) - ((C[q]'(by omega)).out)))))) rfl rfl rfl rfl) ?_
 refine PD 11 ?_
 refine TD.done (by kernel_rfl) (TE.next J19 (sr fun _ J20 => PS ?_))
 refine nx J20 (TC.block ?_)
 refine TC.loop (α := (Nat) × (Int)) (fun ⟨o, r3⟩ => o ≤ 5 ∧ r3 = rightsIn B key (rowOwn (bookRow B who) who)[i] (w64 (r + w64 (C[q].inn - C[q].out))) o) (fun ⟨o, r3⟩ => [(0, (.pointer (some ⟨b, off, none⟩))), (6, (.int .i64 0)), (7, (.pointer (some ⟨b7, 0, none⟩))), (9, (.int .i64 (r3))), (11, (.int .i64 (((q : Nat) : Int)))), (33, ul1), (34, (.int .i64 ((((rowOwn (bookRow B who) who).length : Nat) : Int)))), (35, (.int .i64 (((i : Nat) : Int)))), (50, (.int .i64 (((o : Nat) : Int))))]) (fun ⟨o, r3⟩ => [own ul1 ((rowOwn (bookRow B who) who).length) (ints (rowOwn (bookRow B who) who)) 3 1, blkA b7 (ints (C.toList.flatMap CellT.flat)) 154, blkA b (cs B) T]) (fun ⟨o, r3⟩ => 5 - o) (0, (w64 (r + (w64 (((C[q]'(by omega)).inn) - ((C[q]'(by omega)).out))))))
     ⟨Nat.zero_le _, rfl⟩ (Sub.r (Sub.r (Sub.r (Sub.cons rfl (by congr 1) (Sub.r (Sub.r (Sub.r (Sub.r (Sub.cons rfl (by congr 1) (Sub.nil _))))))))))
     (fun _ s => sep_keep [0, 0, 0] rfl s) (fun ⟨o, r3⟩ hinv => ?_)
 obtain ⟨ho, hr3⟩ := hinv
 refine sr fun _ J21 => PS ?_
 refine TL.dec (fun h51 => ?_) (fun h51 => ?_)
 refine nx J21 (TC.seq fun _ J22 => CY (CX J22 (TC.seq fun _ J23 => TC.block (sr fun _ J24 => PS ?_))))
 refine PS ?_
 refine nx J24 (D1 1 mixed ?_)
 refine PD 0 ?_
 refine PD 1 ?_
 refine PD 2 ?_
 refine ta 3 rfl (PV.indexArr (r := o * 7) rfl Y154 sz70 rfl rfl (by omega) (by omega) (by omega)) ?_
 refine ta 4 rfl (PV.fieldAddr (r := o * 7 + 2) rfl Y70 rfl sz68 rfl rfl) ?_
 refine ta 5 rfl (PV.indexArr (r := o * 7 + 2 + q) rfl Y68 sz3 rfl rfl (by omega) (by omega) (by omega)) ?_
 refine ta 6 rfl (PV.load1 (v := (.int .i64 ((((C[o]'(by omega)).given)[q]'(by omega))))) rfl Y3 rfl rfl (fun _ h => h.2.1) (vs_pt CellT.flat_length C (i := o) (2 + q) (by omega) (by omega) (by omega) (CellT.pt_given (C[o]'(by omega)) q (by omega) (by omega) (vi_at ((C[o]'(by omega)).given) (by omega))))) ?_
 refine PD 7 ?_
 refine PD 8 ?_
 refine ta 9 rfl (PV.indexArr (r := q * 7) rfl Y154 sz70 rfl rfl (by omega) (by omega) (by omega)) ?_
 refine ta 10 rfl (PV.fieldAddr (r := q * 7 + 2) rfl Y70 rfl sz68 rfl rfl) ?_
 refine ta 11 rfl (PV.indexArr (r := q * 7 + 2 + o) rfl Y68 sz3 rfl rfl (by omega) (by omega) (by omega)) ?_
 refine ta 12 rfl (PV.load1 (v := (.int .i64 ((((C[q]'(by omega)).given)[o]'(by omega))))) rfl Y3 rfl rfl (fun _ h => h.2.1) (vs_pt CellT.flat_length C (i := q) (2 + o) (by omega) (by omega) (by omega) (CellT.pt_given (C[q]'(by omega)) o (by omega) (by omega) (vi_at ((C[q]'(by omega)).given) (by omega))))) ?_
 refine ta 13 rfl (PV.sub (r := (w64 ((((C[o]'(by omega)).given)[q]'(by omega)) - (((C[q]'(by omega)).given)[o]'(by omega))))) rfl rfl rfl rfl) ?_
 refine ta 14 rfl (PV.add (r := (w64 (r3 + (w64 ((((C[o]'(by omega)).given)[q]'(by omega)) - (((C[q]'(by omega)).given)[o]'(by omega))))))) rfl rfl rfl rfl) ?_
 refine PD 15 ?_
 refine TD.done (by kernel_rfl) (TE.blockEnd (TE.next J23 (TC.region (tp (PV.add rfl rfl rfl (wrap_i64 (by omega) (by omega))) ?_))))
 refine PS ?_
 refine TL.nil ?_
 exact TE.round ((o + 1, (w64 (r3 + (w64 ((((C[o]'(by omega)).given)[q]'(by omega)) - (((C[q]'(by omega)).given)[o]'(by omega))))))) : (Nat) × (Int)) ⟨by omega, by rw [rightsIn_succ, ← hr3, givenOf_at _ (by omega), hq, givenOf_at _ hq5, ← hE o (by omega), ← hE q hq5]⟩ (by show 5 - (o + 1) < 5 - o; omega)
   (Sub.r (Sub.r (Sub.r (Sub.r (Sub.r (Sub.r (Sub.r (Sub.r (Sub.cons rfl (by simp) (Sub.nil _))))))))))
   (fun _ s => sep_keep [0, 0, 0] rfl s)
 refine nx J21 (TC.seq fun _ J25 => CN (TC.exit (TE.pass (TE.pass (TE.hit (TE.blockEnd (TE.next J17 (TC.region (tp (PV.add rfl rfl rfl (wrap_i64 (by omega) (by omega))) ?_)))))))))
 refine PS ?_
 refine TL.nil ?_
 exact TE.round ((i + 1, r3) : (Nat) × (Int)) ⟨by omega, by
          have h5 : o = 5 := by omega
          rw [List.take_succ_eq_append_getElem (by omega), List.foldl_append, ← hr]
          show r3 = rightsStep B key r _
          rw [hr3, h5, rightsStep, ← hE2]⟩ (by show (rowOwn (bookRow B who) who).length - (i + 1) < (rowOwn (bookRow B who) who).length - i; omega)
   (Sub.r (Sub.r (Sub.r (Sub.r (Sub.r (Sub.r (Sub.cons rfl (by simp) (Sub.nil _))))))))
   (fun _ s => sep_keep [0, 0, 0] rfl s)
 refine nx J15 (TC.seq fun _ J26 => CN (TC.exit (TE.pass (TE.pass (TE.hit (TE.next J13 (sr fun _ J27 => PS ?_)))))))
 refine PS ?_
 refine nx J27 (TC.ret (WK [2] (TE.ret1 rfl rfl ?_)))
 obtain rfl : i = (rowOwn (bookRow B who) who).length := by omega
 exact ⟨by rw [bookRights, if_pos h14, hr, List.take_length], rfl⟩
 refine tp (PV.not (r := true) rfl rfl rfl) ?_
 refine nx J3 (CY (sr fun _ J28 => PS ?_))
 refine nx J28 (TC.ret (TE.passRet (WK [0] (TE.ret1 rfl rfl ?_))))
 exact ⟨by rw [bookRights, if_neg (by simp [h14])], rfl⟩
theorem mirRow_does (b off T : Nat) (cs : MirT → List Value) (hA : Arnd cs MirT.cells off) (M : MirT) (who : Int) :
 Leg.Does Tryz.prog 75 #[(.pointer (some ⟨b, off, none⟩)), (.int .i64 (who))] (fun _ => True) [blkA b (cs M) T] (Ret (fun r' H => r' = .agg (ints (mirRow M who).flat).toArray ∧ H = [blkA b (cs M) T])) := by
 refine Leg.Does.body (vs := [(.pointer (some ⟨b, off, none⟩)), (.int .i64 (who))]) (n := 15) Tryz.func75 rfl rfl rfl (fun w0 F hF => ?_)
 refine sr fun _ J1 => ?_
 refine TL.alloc (Want.plain rfl) rfl rfl rfl z74 (fun b4 => ?_)
 change TL _ _ _ _ _ _ _ _ _ [blkA b4 (ints RowT.zero.flat) 74, blkA b (cs M) T]
 refine nx J1 ?_
 refine TC.seq fun _ J2 => ?_
 refine sr fun _ J3 => ?_
 refine mv ?_
 refine TL.callR (Want.plain rfl) rfl rfl rfl nm122 rfl (mirrorMachine_does who) (fun _ s => s) (fun _ _ _ => trivial) (fun vR HR hR => ?_)
 obtain ⟨rfl, rfl⟩ := hR
 refine TL.decB (fun h6 => ?_) (fun h6 => ?_)
 have hm : 0 ≤ who ∧ who < 5 := of_decide_eq_true h6
 refine tp (PV.not (r := false) rfl rfl rfl) ?_
 refine nx J3 ?_
 refine TC.no rfl ?_
 refine TC.skip ?_
 refine TE.next J2 ?_
 refine sr fun _ J4 => ?_
 refine mv ?_
 refine mv ?_
 refine tp (PV.nilCheck rfl rfl) ?_
 refine tp (PV.fieldAddr (r := off) rfl Y88 rfl sz75 rfl rfl) ?_
 refine tp (PV.indexArr (r := off + who.toNat * 174) rfl Y75 sz74 rfl rfl (by omega) (by omega) (by omega)) ?_
 refine tp (PV.loadN (vs := ints (M.rows[who.toNat]'(by omega)).flat) rfl Y74 rfl sz74 rfl (Rd.own 1 rfl rfl) (RowT.len (M.rows[who.toNat]'(by omega))) (Arnd.sub hA (j := who.toNat * 174) (by omega) (by have h0 := (MirT.len M); omega) (MirT.sub_rows M (who.toNat * 174) (by omega) (by omega) (vs_sub RowT.flat_length M.rows (i := who.toNat) 0 (by omega) (by omega) (by decide) (whole (RowT.len (M.rows[who.toNat]'(by omega)))))))) ?_
 refine TL.store (vs := ints (M.rows[who.toNat]'(by omega)).flat) (i := 0) (Want.plain rfl) rfl rfl rfl rfl rfl (by rw [(RowT.len (M.rows[who.toNat]'(by omega)))]; exact sz74) (ints_one _) rfl rfl (by have h0 := (RowT.len RowT.zero); have h1 := (RowT.len (M.rows[who.toNat]'(by omega))); omega) (wwhole ((RowT.len RowT.zero).trans (RowT.len (M.rows[who.toNat]'(by omega))).symm)) rfl ?_
 refine nx J4 ?_
 refine TC.ret ?_
 refine TE.retC (H' := [blkA b (cs M) T]) rfl rfl Y74 rfl sz74 (Rd.own 0 rfl rfl) (RowT.len (M.rows[who.toNat]'(by omega))) (fun _ s => sep_keep [1] rfl s) ?_
 exact ⟨by rw [mirRow, dif_pos h6], rfl⟩
 refine tp (PV.not (r := true) rfl rfl rfl) ?_
 refine nx J3 ?_
 refine TC.yes rfl ?_
 refine sr fun _ J5 => ?_
 refine tp (PV.build (cells := (ints RowT.zero.flat).toArray) rfl rfl (by as_aux_lemma => kernel_rfl)) ?_
 refine TL.store (vs := ints RowT.zero.flat) (i := 0) (Want.plain rfl) rfl rfl rfl rfl rfl (by rw [(RowT.len RowT.zero)]; exact sz74) (ints_one _) rfl rfl (by have h0 := (RowT.len RowT.zero); have h1 := (RowT.len RowT.zero); omega) (wwhole ((RowT.len RowT.zero).trans (RowT.len RowT.zero).symm)) rfl ?_
 refine nx J5 ?_
 refine TC.ret ?_
 refine TE.passRet ?_
 refine TE.retC (H' := [blkA b (cs M) T]) rfl rfl Y74 rfl sz74 (Rd.own 0 rfl rfl) (RowT.len RowT.zero) (fun _ s => sep_keep [1] rfl s) ?_
 exact ⟨by rw [mirRow, dif_neg (by simp [h6])], rfl⟩
theorem mirSealed_does (b off T : Nat) (cs : MirT → List Value) (hA : Arnd cs MirT.cells off) (M : MirT) (who : Int) :
 Leg.Does Tryz.prog 76 #[(.pointer (some ⟨b, off, none⟩)), (.int .i64 (who))] (fun _ => True) [blkA b (cs M) T] (Ret (fun r' H => r' = .bool (mirSealed M who) ∧ H = [blkA b (cs M) T])) := by
 refine Leg.Does.body (n := 15) Tryz.func76 rfl rfl rfl (fun w0 F hF => sr fun _ J1 => PS ?_)
 refine nx J1 ?_
 clear J1
 refine sr fun _ J2 => PS ?_
 refine CR nm122 (mirrorMachine_does who) (fun _ s => s) fun vR HR hR => ?_
 obtain ⟨rfl, rfl⟩ := hR
 refine TL.decB (fun h6 => ?_) (fun h6 => ?_)
 have hm : 0 ≤ who ∧ who < 5 := of_decide_eq_true h6
 iterate 4 refine PS ?_
 refine tq (PV.fieldAddr (r := off + 870) rfl Y88 rfl sz86 rfl rfl) ?_
 refine tq (PV.indexArr (r := off + 870 + who.toNat) rfl Tryz.underlying86 sz4 rfl rfl (by omega) (by omega) (by omega)) ?_
 refine tq (PV.load1 (v := (.bool ((M.sealed[who.toNat]'(by omega))))) rfl Y4 rfl rfl (RO 0) (Arnd.at hA (j := 870 + who.toNat) (by omega) (by have h0 := (MirT.len M); omega) (MirT.pt_sealed M (who.toNat) (by omega) (by omega) (vb_at M.sealed (by omega))))) ?_
 refine PS ?_
 refine PS ?_
 refine nx J2 ?_
 clear J2
 refine TC.ret (WK [0] (TE.ret1 rfl rfl ?_))
 exact ⟨by simp [mirSealed, *], rfl⟩
 refine PS ?_
 iterate 6 refine UF ?_
 refine PS ?_
 refine PS ?_
 refine nx J2 ?_
 clear J2
 refine TC.ret (WK [0] (TE.ret1 rfl rfl ?_))
 exact ⟨by simp [mirSealed, *], rfl⟩
theorem mirTakes_does (b off T : Nat) (cs : MirT → List Value) (hA : Arnd cs MirT.cells off) (M : MirT) (who : Int) (x : RowT) (hx : WF x.flat) :
 Leg.Does Tryz.prog 141 #[(.pointer (some ⟨b, off, none⟩)), (.int .i64 (who)), (.agg (ints x.flat).toArray)] (fun _ => True) [blkA b (cs M) T] (Ret (fun r' H => r' = .bool (mirTakes M who x) ∧ H = [blkA b (cs M) T])) := by
 refine Leg.Does.body (n := 34) Tryz.func141 rfl rfl rfl (fun w0 F hF => sr fun _ J1 => TL.box (Want.plain rfl) rfl rfl rfl rfl (fun b5 => ?_))
 change TL _ _ _ _ _ _ _ _ _ [blkA b5 (ints x.flat) 74, blkA b (cs M) T]
 refine PS ?_
 refine nx J1 ?_
 clear J1
 refine TC.seq fun _ J2 => D2 1 0 mixed ?_
 refine PD 0 ?_
 refine AL 1 ?_
 refine CR nm122 (mirrorMachine_does who) (fun _ s => s) fun vR HR hR => ?_
 obtain ⟨rfl, rfl⟩ := hR
 refine TL.decB (fun h8 => ?_) (fun h8 => ?_)
 have hm : 0 ≤ who ∧ who < 5 := of_decide_eq_true h8
 refine TL.nil (E2 1 0 (PD 2 ?_))
 refine PD 3 ?_
 refine PD 4 ?_
 refine PD 5 ?_
 refine tb 6 rfl (PV.fieldAddr (r := off + 870) rfl Y88 rfl sz86 rfl rfl) ?_
 refine tb 7 rfl (PV.indexArr (r := off + 870 + who.toNat) rfl Tryz.underlying86 sz4 rfl rfl (by omega) (by omega) (by omega)) ?_
 refine tb 8 rfl (PV.load1 (v := (.bool ((M.sealed[who.toNat]'(by omega))))) rfl Y4 rfl rfl (fun _ h => h.2.1) (Arnd.at hA (j := 870 + who.toNat) (by omega) (by have h0 := (MirT.len M); omega) (MirT.pt_sealed M (who.toNat) (by omega) (by omega) (vb_at M.sealed (by omega))))) ?_
 refine TD.decB (fun h15 => ?_) (fun h15 => ?_)
 refine tb 9 rfl (PV.not (r := false) rfl rfl rfl) ?_
 refine PD 10 ?_
 refine PD 11 ?_
 refine NT 12 ?_
 refine NT 13 ?_
 refine PD 14 ?_
 refine PD 15 ?_
 refine NT 16 ?_
 refine NT 17 ?_
 refine NT 18 ?_
 refine NT 19 ?_
 refine NT 20 ?_
 refine NT 21 ?_
 refine NT 22 ?_
 refine NT 23 ?_
 refine NT 24 ?_
 refine NT 25 ?_
 refine PD 26 ?_
 refine PD 27 ?_
 refine TD.done (by kernel_rfl) (TE.next J2 ?_)
 clear J2
 refine TC.ret (WK [1] (TE.ret1 rfl rfl ?_))
 exact ⟨by simp [mirTakes, mirSealed, mirRow, *], rfl⟩
 refine tb 9 rfl (PV.not (r := true) rfl rfl rfl) ?_
 refine PD 10 ?_
 refine PD 11 ?_
 refine tb 12 rfl (PV.loadN (vs := ints x.flat) rfl Y74 rfl sz74 rfl (fun _ h => h.2.2.1) (RowT.len x) (whole (RowT.len x))) ?_
 refine AL 13 ?_
 refine CR nm78 (rowRight_does x hx) (fun _ s => s) fun vR HR hR => ?_
 obtain ⟨rfl, rfl⟩ := hR
 refine TL.decB (fun h20 => ?_) (fun h20 => ?_)
 refine TL.nil (E2 1 0 (PD 14 ?_))
 refine PD 15 ?_
 refine FD 16 0 Y74 sz3 ?_
 refine tb 17 rfl (PV.load1 (v := (.int .i64 (x.version))) rfl Y3 rfl rfl (fun _ h => h.2.2.1) (RowT.at_version x rfl)) ?_
 refine PD 18 ?_
 refine PD 19 ?_
 refine PD 20 ?_
 refine tb 21 rfl (PV.fieldAddr (r := off) rfl Y88 rfl sz75 rfl rfl) ?_
 refine tb 22 rfl (PV.indexArr (r := off + who.toNat * 174) rfl Y75 sz74 rfl rfl (by omega) (by omega) (by omega)) ?_
 refine tb 23 rfl (PV.fieldAddr (r := off + who.toNat * 174) rfl Y74 rfl sz3 rfl rfl) ?_
 refine tb 24 rfl (PV.load1 (v := (.int .i64 ((M.rows[who.toNat]'(by omega)).version))) rfl Y3 rfl rfl (fun _ h => h.2.1) (Arnd.at hA (j := who.toNat * 174) (by omega) (by have h0 := (MirT.len M); omega) (MirT.pt_rows M (who.toNat * 174) (by omega) (by omega) (vs_pt RowT.flat_length M.rows (i := who.toNat) 0 (by omega) (by omega) (by decide) (RowT.at_version _ rfl))))) ?_
 refine PD 25 ?_
 refine PD 26 ?_
 refine PD 27 ?_
 refine TD.done (by kernel_rfl) (TE.next J2 ?_)
 clear J2
 refine TC.ret (WK [1] (TE.ret1 rfl rfl ?_))
 exact ⟨by simp [mirTakes, mirSealed, mirRow, *], rfl⟩
 refine TL.nil (E2 1 0 (PD 14 ?_))
 refine PD 15 ?_
 refine NT 16 ?_
 refine NT 17 ?_
 refine NT 18 ?_
 refine NT 19 ?_
 refine NT 20 ?_
 refine NT 21 ?_
 refine NT 22 ?_
 refine NT 23 ?_
 refine NT 24 ?_
 refine NT 25 ?_
 refine PD 26 ?_
 refine PD 27 ?_
 refine TD.done (by kernel_rfl) (TE.next J2 ?_)
 clear J2
 refine TC.ret (WK [1] (TE.ret1 rfl rfl ?_))
 exact ⟨by simp [mirTakes, mirSealed, mirRow, *], rfl⟩
 refine TL.nil (E2 1 0 (PD 2 ?_))
 refine NT 3 ?_
 refine NT 4 ?_
 refine NT 5 ?_
 refine NT 6 ?_
 refine NT 7 ?_
 refine NT 8 ?_
 refine NT 9 ?_
 refine PD 10 ?_
 refine PD 11 ?_
 refine NT 12 ?_
 refine NT 13 ?_
 refine PD 14 ?_
 refine PD 15 ?_
 refine NT 16 ?_
 refine NT 17 ?_
 refine NT 18 ?_
 refine NT 19 ?_
 refine NT 20 ?_
 refine NT 21 ?_
 refine NT 22 ?_
 refine NT 23 ?_
 refine NT 24 ?_
 refine NT 25 ?_
 refine PD 26 ?_
 refine PD 27 ?_
 refine TD.done (by kernel_rfl) (TE.next J2 ?_)
 clear J2
 refine TC.ret (WK [1] (TE.ret1 rfl rfl ?_))
 exact ⟨by simp [mirTakes, mirSealed, mirRow, *], rfl⟩
theorem mirKeep_does (b off T : Nat) (cs : MirT → List Value) (hA : Arnd cs MirT.cells off) (M : MirT) (who : Int) (x : RowT) (hx : WF x.flat) :
 Leg.Does Tryz.prog 92 #[(.pointer (some ⟨b, off, none⟩)), (.int .i64 (who)), (.agg (ints x.flat).toArray)] (fun _ => True) [blkA b (cs M) T] (Ret (fun r' H => r' = .bool (mirKeep M who x).2 ∧ H = [blkA b (cs (mirKeep M who x).1) T])) := by
 refine Leg.Does.body (n := 18) Tryz.func92 rfl rfl rfl (fun w0 F hF => sr fun _ J1 => TL.box (Want.plain rfl) rfl rfl rfl rfl (fun b5 => ?_))
 change TL _ _ _ _ _ _ _ _ _ [blkA b5 (ints x.flat) 74, blkA b (cs M) T]
 refine PS ?_
 refine nx J1 (TC.seq fun _ J2 => sr fun _ J3 => PS ?_)
 refine PS ?_
 refine tp (PV.loadN (vs := ints x.flat) rfl Y74 rfl sz74 rfl (RO 0) (RowT.len x) (whole (RowT.len x))) ?_
 refine CR nm141 (mirTakes_does b off T cs hA M who x hx) (SM [1]) fun vR HR hR => ?_
 obtain ⟨rfl, rfl⟩ := hR
 refine TL.decB (fun h10 => ?_) (fun h10 => ?_)
 have hm0 : machB who = true := by have := h10; simp only [mirTakes, Bool.and_eq_true] at this; exact this.1.1.1
 have hm : 0 ≤ who ∧ who < 5 := of_decide_eq_true hm0
 refine tp (PV.not (r := false) rfl rfl rfl) ?_
 refine nx J3 (CN (CX J2 (TC.seq fun _ J4 => D1 1 mixed ?_)))
 refine PD 0 ?_
 refine PD 1 ?_
 refine ta 2 rfl (PV.loadN (vs := ints x.flat) rfl Y74 rfl sz74 rfl (fun _ h => h.2.1) (RowT.len x) (whole (RowT.len x))) ?_
 refine PD 3 ?_
 refine ta 4 rfl (PV.fieldAddr (r := off) rfl Y88 rfl sz75 rfl rfl) ?_
 refine ta 5 rfl (PV.indexArr (r := off + who.toNat * 174) rfl Y75 sz74 rfl rfl (by omega) (by omega) (by omega)) ?_
 refine AL 6 ?_
 refine TL.store (vs := ints x.flat) (i := 0) (Want.plain rfl) rfl rfl rfl rfl rfl (by rw [(RowT.len x)]; exact sz74) (ints_one _) rfl rfl (by have h0 := (MirT.len M); have h2 := Arnd.le hA M; have h1 := (RowT.len x); omega) (Arnd.wr hA (x := M) (x' := (MirT.mk (M.rows.set who.toNat x (by omega)) M.sealed)) (j := who.toNat * 174) (by omega) (by have h0 := (MirT.len M); have h1 := (RowT.len x); omega) (MirT.wr_rows_ M (who.toNat * 174) (by omega) (by have h1 := (RowT.len x); omega) (vs_wr RowT.flat_length M.rows (i := who.toNat) 0 (by omega) (by omega) (by have h1 := (RowT.len x); omega) (wwhole ((RowT.len (M.rows[who.toNat]'(by omega))).trans (RowT.len x).symm))))) rfl (TL.nil (E1 1 (TD.done (by kernel_rfl) (TE.next J4 (sr fun _ J5 => PS ?_)))))
 refine nx J5 (TC.ret (WK [0] (TE.ret1 rfl rfl ?_)))
 have e : mirKeep M who x = (mirPut M who x, true) := by rw [mirKeep, if_pos h10]
 exact ⟨by rw [e], by rw [e, mirPut, dif_pos hm0]; rfl⟩
 refine tp (PV.not (r := true) rfl rfl rfl) ?_
 refine nx J3 (CY (sr fun _ J6 => PS ?_))
 refine nx J6 (TC.ret (TE.passRet (WK [0] (TE.ret1 rfl rfl ?_))))
 have e : mirKeep M who x = (M, false) := by rw [mirKeep, if_neg (by simp [h10])]
 exact ⟨by rw [e], by rw [e]; rfl⟩
end Go.Proofs.YtohmkchalilodaaGreatDoor
end

section
namespace Api
open Go Leg Codec
def kRow (k : Int) : Bool := decide (k = 0 ∨ k = 2 ∨ k = 9)
def kAsk (k : Int) : Bool := decide (k = 3 ∨ k = 6)
def readMsgP : Ps (MsgT × Bool) := pb (smallP 10) fun k =>
 if kRow k then pb (smallP 5) fun w => pb rowP fun x => pr (⟨k, w, x, 0, 0, .zero, .zero, .zero, .zero⟩, rightR x)
 else if k = 1 then pb numP fun n => pr (⟨k, 0, .zero, n, 0, .zero, .zero, .zero, .zero⟩, true)
 else if kAsk k then pb numP fun n => pb ballotP fun b => pr (⟨k, 0, .zero, 0, n, b, .zero, .zero, .zero⟩, true)
 else if k = 4 then pb numP fun n => pb ballotP fun b => pb ballotP fun d => pb changeP fun c => pr (⟨k, 0, .zero, 0, n, b, d, c, .zero⟩, true)
 else if k = 5 then pb numP fun n => pb ballotP fun b => pb changeP fun c => pr (⟨k, 0, .zero, 0, n, b, .zero, c, .zero⟩, true)
 else if k = 7 then pb viewP fun v => pr (⟨k, 0, .zero, 0, 0, .zero, .zero, .zero, v⟩, rightV v)
 else if k = 8 then pb (smallP 5) fun w => pb viewP fun v => pr (⟨k, w, .zero, 0, 0, .zero, .zero, .zero, v⟩, rightV v)
 else pr (⟨k, 0, .zero, 0, 0, .zero, .zero, .zero, .zero⟩, true)
def readRecP : Ps (RecT × Bool) := pb (smallP 6) fun k =>
 if k = 0 then pb rowP fun x => pr (⟨k, 0, x, 0, .zero, .zero, .zero⟩, rightR x)
 else if k = 1 then pb (smallP 5) fun w => pb rowP fun x => pr (⟨k, w, x, 0, .zero, .zero, .zero⟩, rightR x)
 else if k = 2 then pb (smallP 5) fun w => pr (⟨k, w, .zero, 0, .zero, .zero, .zero⟩, true)
 else if k = 3 then pb numP fun n => pb ballotP fun b => pr (⟨k, 0, .zero, n, b, .zero, .zero⟩, true)
 else if k = 4 then pb numP fun n => pb ballotP fun b => pb changeP fun c => pr (⟨k, 0, .zero, n, b, c, .zero⟩, true)
 else if k = 5 then pb viewP fun v => pr (⟨k, 0, .zero, 0, .zero, .zero, v⟩, rightV v)
 else pr (⟨k, 0, .zero, 0, .zero, .zero, .zero⟩, true)
def decM (bs : List UInt8) : MsgT × Int := match readMsgP bs with
 | some ((m, true), []) => (m, 0)
 | _ => (.zero, 1)
def decR (bs : List UInt8) : RecT × Int := match readRecP bs with
 | some ((m, true), []) => (m, 0)
 | _ => (.zero, 1)
def encM (m : MsgT) : List UInt8 :=
 if kRow m.kind then encs [m.kind, m.whose] ++ encRow m.row
 else if m.kind = 1 then encs [m.kind, m.version]
 else if kAsk m.kind then encs [m.kind, m.epoch] ++ encs m.ballot.flat
 else if m.kind = 4 then encs [m.kind, m.epoch] ++ encs m.ballot.flat ++ encs m.had.flat ++ encs m.change.flat
 else if m.kind = 5 then encs [m.kind, m.epoch] ++ encs m.ballot.flat ++ encs m.change.flat
 else if m.kind = 7 then encs [m.kind] ++ encs m.view.flat
 else if m.kind = 8 then encs [m.kind, m.whose] ++ encs m.view.flat
 else []
def encR (m : RecT) : List UInt8 :=
 if m.kind = 0 then encs [m.kind] ++ encRow m.row
 else if m.kind = 1 then encs [m.kind, m.whose] ++ encRow m.row
 else if m.kind = 2 then encs [m.kind, m.whose]
 else if m.kind = 3 then encs [m.kind, m.epoch] ++ encs m.ballot.flat
 else if m.kind = 4 then encs [m.kind, m.epoch] ++ encs m.ballot.flat ++ encs m.change.flat
 else if m.kind = 5 then encs [m.kind] ++ encs m.view.flat
 else []
theorem view_rng {v : ViewT} {bs r : List UInt8} (h : viewP bs = some (v, r)) : Rng v := fun i hi => by
 have := (view_spec h).1.2.2 i hi
 exact ⟨this.1, by omega⟩
theorem row_wf {x : RowT} {bs r : List UInt8} (h : rowP bs = some (x, r)) : WF x.flat := (row_spec h).1.wf
end Api
end

section
namespace Api
open Go Leg Codec
def Nm (n : Int) : Prop := 0 ≤ n ∧ n < 9223372036854775808
def OkB (b : BallotT) : Prop := Nm b.round ∧ 0 ≤ b.who ∧ b.who < 5
def OkC (c : ChangeT) : Prop := (0 ≤ c.kind ∧ c.kind < 2) ∧ (0 ≤ c.who ∧ c.who < 5) ∧ (0 ≤ c.heir ∧ c.heir < 5)
def OkV (v : ViewT) : Prop := Nm v.epoch ∧ (0 ≤ v.members ∧ v.members < 32) ∧ ∀ (i : Nat) (h : i < 5), 0 ≤ v.heirs[i] ∧ v.heirs[i] < 6
theorem ballot_enc {b : BallotT} (h : OkB b) (r : List UInt8) : ballotP (encs b.flat ++ r) = some (b, r) := by
 obtain ⟨a, c⟩ := b
 obtain ⟨h1, h2, h3⟩ := h
 replace h3 : c < 5 := h3
 simp only [BallotT.flat, encs_cons, encs_nil, List.append_assoc, List.nil_append, ballotP]
 rw [pb_some (numP_encN h1.1 h1.2 _), pb_some (smallP_enc (n := c) h2 h3 (by omega) _)]; rfl
theorem change_enc {c : ChangeT} (h : OkC c) (r : List UInt8) : changeP (encs c.flat ++ r) = some (c, r) := by
 obtain ⟨a, b, d⟩ := c
 obtain ⟨⟨h1, h2⟩, ⟨h3, h4⟩, h5, h6⟩ := h
 simp only at h1 h2 h3 h4 h5 h6
 simp only [ChangeT.flat, encs_cons, encs_nil, List.append_assoc, List.nil_append, changeP]
 rw [pb_some (smallP_enc h1 h2 (by omega) _), pb_some (smallP_enc h3 h4 (by omega) _), pb_some (smallP_enc h5 h6 (by omega) _)]; rfl
theorem view_enc {v : ViewT} (h : OkV v) (r : List UInt8) : viewP (encs v.flat ++ r) = some (v, r) := by
 obtain ⟨i, o, g⟩ := v
 obtain ⟨h1, ⟨h2, h3⟩, h4⟩ := h
 replace h2 : 0 ≤ o := h2
 replace h3 : o < 32 := h3
 revert h4
 refine vec5 (p := fun g => (∀ (i_1 : Nat) (h : i_1 < 5), 0 ≤ g[i_1] ∧ g[i_1] < 6) → viewP (encs (ViewT.flat ⟨i, o, g⟩) ++ r) = some (⟨i, o, g⟩, r)) (fun a b c d e h4 => ?_) g
 have e0 := h4 0 (by omega)
 have e1 := h4 1 (by omega)
 have e2 := h4 2 (by omega)
 have e3 := h4 3 (by omega)
 have e4 := h4 4 (by omega)
 have s := fun n (h : 0 ≤ n ∧ n < 6) r => smallP_enc (n := n) (lim := 6) h.1 h.2 (by omega) r
 simp only [ViewT.flat, Vector.toList_mk, encs_cons, encs_nil, List.append_assoc, List.nil_append, viewP]
 rw [pb_some (numP_encN h1.1 h1.2 _), pb_some (smallP_enc h2 h3 (by omega) _), pb_some (s a e0 _), pb_some (s b e1 _), pb_some (s c e2 _), pb_some (s d e3 _), pb_some (s e e4 _)]; rfl
def normM (m : MsgT) : MsgT :=
 if kRow m.kind then ⟨m.kind, m.whose, m.row, 0, 0, .zero, .zero, .zero, .zero⟩
 else if m.kind = 1 then ⟨m.kind, 0, .zero, m.version, 0, .zero, .zero, .zero, .zero⟩
 else if kAsk m.kind then ⟨m.kind, 0, .zero, 0, m.epoch, m.ballot, .zero, .zero, .zero⟩
 else if m.kind = 4 then ⟨m.kind, 0, .zero, 0, m.epoch, m.ballot, m.had, m.change, .zero⟩
 else if m.kind = 5 then ⟨m.kind, 0, .zero, 0, m.epoch, m.ballot, .zero, m.change, .zero⟩
 else if m.kind = 7 then ⟨m.kind, 0, .zero, 0, 0, .zero, .zero, .zero, m.view⟩
 else ⟨m.kind, m.whose, .zero, 0, 0, .zero, .zero, .zero, m.view⟩
def okM (m : MsgT) : Bool := if kRow m.kind then rightR m.row else if m.kind = 7 ∨ m.kind = 8 then rightV m.view else true
structure OkM (m : MsgT) : Prop where
 kind : 0 ≤ m.kind ∧ m.kind < 10
 whose : 0 ≤ m.whose ∧ m.whose < 5
 row : TameR m.row
 version : Nm m.version
 epoch : Nm m.epoch
 ballot : OkB m.ballot
 had : OkB m.had
 change : OkC m.change
 view : OkV m.view
theorem msg_enc {m : MsgT} (h : OkM m) (r : List UInt8) : readMsgP (encM m ++ r) = some ((normM m, okM m), r) := by
 have hk := h.kind
 have k0 : smallP 10 (encN m.kind ++ r) = some (m.kind, r) := smallP_enc hk.1 hk.2 (by omega) r
 have kk := fun r => smallP_enc hk.1 hk.2 (show m.kind < 9223372036854775808 by omega) r
 have kw := fun r => smallP_enc h.whose.1 h.whose.2 (show m.whose < 9223372036854775808 by have := h.whose; omega) r
 have kv := fun r => numP_encN h.version.1 h.version.2 r
 have ke := fun r => numP_encN h.epoch.1 h.epoch.2 r
 unfold readMsgP encM normM okM
 by_cases c0 : kRow m.kind = true
 · simp only [if_pos c0, encs_cons, encs_nil, List.append_assoc, List.nil_append]
   rw [pb_some (kk _)]; simp only [if_pos c0]; rw [pb_some (kw _), pb_some (rowP_enc h.row _)]; rfl
 simp only [if_neg c0]
 by_cases c1 : m.kind = 1
 · have q : ¬ (m.kind = 7 ∨ m.kind = 8) := by omega
   simp only [if_pos c1, if_neg q, encs_cons, encs_nil, List.append_assoc, List.nil_append]
   rw [pb_some (kk _)]; simp only [if_neg c0, if_pos c1]; rw [pb_some (kv _)]; rfl
 simp only [if_neg c1]
 by_cases c2 : kAsk m.kind = true
 · have q : ¬ (m.kind = 7 ∨ m.kind = 8) := by have := of_decide_eq_true c2; omega
   simp only [if_pos c2, if_neg q, encs_cons, encs_nil, List.append_assoc, List.nil_append]
   rw [pb_some (kk _)]; simp only [if_neg c0, if_neg c1, if_pos c2]; rw [pb_some (ke _), pb_some (ballot_enc h.ballot _)]; rfl
 simp only [if_neg c2]
 by_cases c3 : m.kind = 4
 · have q : ¬ (m.kind = 7 ∨ m.kind = 8) := by omega
   simp only [if_pos c3, if_neg q, encs_cons, encs_nil, List.append_assoc, List.nil_append]
   rw [pb_some (kk _)]; simp only [if_neg c0, if_neg c1, if_neg c2, if_pos c3]; rw [pb_some (ke _), pb_some (ballot_enc h.ballot _), pb_some (ballot_enc h.had _), pb_some (change_enc h.change _)]; rfl
 simp only [if_neg c3]
 by_cases c4 : m.kind = 5
 · have q : ¬ (m.kind = 7 ∨ m.kind = 8) := by omega
   simp only [if_pos c4, if_neg q, encs_cons, encs_nil, List.append_assoc, List.nil_append]
   rw [pb_some (kk _)]; simp only [if_neg c0, if_neg c1, if_neg c2, if_neg c3, if_pos c4]; rw [pb_some (ke _), pb_some (ballot_enc h.ballot _), pb_some (change_enc h.change _)]; rfl
 simp only [if_neg c4]
 by_cases c5 : m.kind = 7
 · have q : m.kind = 7 ∨ m.kind = 8 := .inl c5
   simp only [if_pos c5, if_pos q, encs_cons, encs_nil, List.append_assoc, List.nil_append]
   rw [pb_some (kk _)]; simp only [if_neg c0, if_neg c1, if_neg c2, if_neg c3, if_neg c4, if_pos c5]; rw [pb_some (view_enc h.view _)]; rfl
 have c6 : m.kind = 8 := by
  have n0 : ¬ (m.kind = 0 ∨ m.kind = 2 ∨ m.kind = 9) := fun e => c0 (decide_eq_true e)
  have n2 : ¬ (m.kind = 3 ∨ m.kind = 6) := fun e => c2 (decide_eq_true e)
  omega
 have q : m.kind = 7 ∨ m.kind = 8 := .inr c6
 simp only [if_neg c5, if_pos c6, if_pos q, encs_cons, encs_nil, List.append_assoc, List.nil_append]
 rw [pb_some (kk _)]; simp only [if_neg c0, if_neg c1, if_neg c2, if_neg c3, if_neg c4, if_neg c5, if_pos c6]; rw [pb_some (kw _), pb_some (view_enc h.view _)]; rfl
theorem heir_z (i : Nat) (hi : i < 5) : RowT.zero.heir[i] = 0 := by match i, hi with | 0, _ | 1, _ | 2, _ | 3, _ | 4, _ => rfl
theorem cell_z (k : Nat) (hk : k < 4) : RowT.zero.cells[k] = CellT.zero := by match k, hk with | 0, _ | 1, _ | 2, _ | 3, _ => rfl
theorem left_z (i : Nat) (hi : i < 5) : RowT.zero.left[i] = RowT.zero.cells := by match i, hi with | 0, _ | 1, _ | 2, _ | 3, _ | 4, _ => rfl
theorem tame_rzero : TameR RowT.zero := ⟨⟨by decide, by decide⟩, fun k hk => by rw [cell_z k hk]; exact tame_zero, fun i hi => by rw [heir_z i hi]; decide, fun i k hi hk => by rw [show RowT.zero.left[i][k] = RowT.zero.cells[k] from by rw [left_z i hi], cell_z k hk]; exact tame_zero, fun i hi _ => by rw [left_z i hi, left_z 0 (by decide)]⟩
structure OkRc (m : RecT) : Prop where
 kind : 0 ≤ m.kind ∧ m.kind < 6
 whose : 0 ≤ m.whose ∧ m.whose < 5
 row : TameR m.row
 epoch : Nm m.epoch
 ballot : OkB m.ballot
 change : OkC m.change
 view : OkV m.view
end Api
end

section
namespace Api
open Go Leg Codec
theorem Rng.zeros {v : ViewT} (h : v.heirs = #v[0, 0, 0, 0, 0]) : Rng v := fun i hi => by
 have : v.heirs[i] = 0 := by
  rw [show v.heirs[i] = (#v[0, 0, 0, 0, 0] : Vector Int 5)[i] from by rw [h]]
  match i, hi with | 0, _ | 1, _ | 2, _ | 3, _ | 4, _ => rfl
 omega
theorem Rng.first : Rng firstV := Rng.zeros rfl
structure GoodV (v : ViewT) : Prop where
 epoch : 1 ≤ v.epoch
 mem : 1 ≤ v.members ∧ v.members < 32
 ok : ∀ (i : Nat) (h : i < 5), okH v v.heirs[i] i = true
 rng : Rng v
end Api
end

section
namespace Api
open Go Leg Codec
def rowMsg (x : RepT) : MsgT := { MsgT.zero with kind := 0, whose := x.id, row := x.own }
def newsMsg (id : Int) (x : RowT) : MsgT := { MsgT.zero with kind := 2, whose := id, row := x }
def bit0 (k w : Int) : Bool := decide (k.fdiv (2 ^ min w.toNat IntKind.i64.bits) % 2 = 0)
def tellL (x : RepT) : List SaidT := ((witL x.id).filter fun w => bit0 x.kept w).map fun w => ⟨w, rowMsg x⟩
def newsTo (id : Int) (x : RowT) (k : Nat) : List SaidT := ((List.range k).filter fun i : Nat => !decide (((i : Nat) : Int) = id)).map fun i : Nat => ⟨((i : Nat) : Int), newsMsg id x⟩
def newsL (id : Int) (x : RowT) : List SaidT := newsTo id x 5
theorem newsTo_succ (id : Int) (x : RowT) (k : Nat) : newsTo id x (k + 1) = newsTo id x k ++ (if ((k : Nat) : Int) = id then [] else [⟨((k : Nat) : Int), newsMsg id x⟩]) := by
 unfold newsTo
 rw [List.range_succ, List.filter_append, List.map_append]
 by_cases h : ((k : Nat) : Int) = id <;> simp [h]
def Alone (x : RepT) : Prop := Rng x.view ∧ ∀ i : Nat, i < 5 → heirV x.view ((i : Nat) : Int) ≠ some x.id
end Api
namespace Api
open Go Leg Codec
def growOf (x : RepT) (o : OpT) : RowT × Int :=
 if o.kind = 0 then rowInc x.own o.key o.n else if o.kind = 1 then rowDec x.own o.key o.n else if o.kind = 2 then (if o.to' ≠ x.id then rowGive x.own o.key o.n o.to' else (.zero, 5)) else (.zero, 5)
def planF (x : RepT) (o : OpT) : RowT × Int × Int :=
 if memb x.view x.id = false then (.zero, 0, 9) else if keyB o.key = false then (.zero, 0, 5) else if o.kind = 3 then (.zero, bookValue x.book o.key, 0) else if x.busy then (.zero, 0, 8)
 else if (growOf x o).2 ≠ 0 then (.zero, 0, (growOf x o).2) else if o.kind ≠ 0 ∧ bookRights x.book x.id o.key < o.n then (.zero, 0, 7) else ((growOf x o).1, 0, 0)
def rowRec (y : RowT) : RecT := { RecT.zero with kind := 0, row := y }
def growF (x : RepT) (y : RowT) (op : Int) : RepT := { x with own := y, busy := true, kept := 0, waits := op }
end Api
namespace Api
open Go Leg Codec
def enterF (x : RepT) (v : ViewT) : RepT := { x with view := v, acc := { AccT.zero with epoch := v.epoch }, vote := .pointer none, round := 0 }
def newRep (id : Int) (lg : Nat) : RepT := enterF { RepT.zero with id := id, log := .pointer (some ⟨lg, 0, none⟩) } firstV
def opsF (x : RepT) : RepT := { x with ops := w64 (x.ops + 1) }
theorem rowRec_len (y : RowT) : (encR (rowRec y)).length ≤ 1760 := by
 have h1 := encRow_len y
 have h2 := encs_len [(0 : Int)]
 simp only [encR, rowRec, if_true, List.length_append, List.length_cons, List.length_nil] at *
 omega
end Api
namespace Api
open Go Leg Codec
def countF (x : RepT) : RepT := { x with busy := false, book := (bookMerge x.book x.id x.own).1, waits := if x.waits > 0 then 0 else x.waits }
def countR (x : RepT) (rs : List ReplyT) : List ReplyT := if x.waits > 0 then rs ++ [⟨x.waits, 0, 0⟩] else rs
def keptB (x : RepT) (from' ver : Int) : Bool := x.busy && decide (ver = x.own.version) && decide (from' ∈ witL x.id)
def keptX (x : RepT) (from' : Int) : RepT := { x with kept := orI .i64 x.kept (IntKind.i64.wrap (1 * 2 ^ min from'.toNat IntKind.i64.bits)) }
def fullB (x : RepT) : Bool := (witL x.id).all fun w => !bit0 x.kept w
def keptS (x : RepT) (from' ver : Int) : RepT := if keptB x from' ver then (if fullB (keptX x from') then countF (keptX x from') else keptX x from') else x
def keptR (x : RepT) (from' ver : Int) (rs : List ReplyT) : List ReplyT := if keptB x from' ver && fullB (keptX x from') then countR x rs else rs
def keptO (x : RepT) (from' ver : Int) : List SaidT := if keptB x from' ver && fullB (keptX x from') then newsL x.id x.own else []
end Api
namespace Api
open Go Leg Codec
def cN (x : RepT) (o : OpT) : RowT × Int × Int := planF (opsF x) o
def doneB (x : RepT) (o : OpT) : Bool := decide ((cN x o).2.2 ≠ 0 ∨ o.kind = 3)
def clientX (x : RepT) (o : OpT) : RepT := if doneB x o then opsF x else growF (opsF x) (cN x o).1 (opsF x).ops
def clientC (x : RepT) (o : OpT) (recs : List (List UInt8)) : List (List UInt8) := if doneB x o then recs else recs ++ [encR (rowRec (cN x o).1)]
def clientR (x : RepT) (o : OpT) (rs : List ReplyT) : List ReplyT := if doneB x o then rs ++ [ReplyT.mk (opsF x).ops (cN x o).2.2 (cN x o).2.1] else rs
def clientO (x : RepT) (o : OpT) : List SaidT := if doneB x o then [] else tellL (growF (opsF x) (cN x o).1 (opsF x).ops)
theorem alone_first {x : RepT} (h : x.view = firstV) : Alone x := by
 unfold Alone
 rw [h]
 refine ⟨Rng.first, fun i hi => ?_⟩
 match i, hi with
 | 0, _ | 1, _ | 2, _ | 3, _ | 4, _ => exact fun e => nomatch (show (none : Option Int) = some x.id from e)
end Api
namespace Api
open Go Leg Codec
end Api
end

section
namespace Leg
open Go
section
variable {P : Program} {w0 : World} {F : Hl} {n : Nat} {ops : Array Oper} {Q : QQ} {D : List Deferred} {L : List (Nat × Value)} {H : List HP} {o : Oper} {l : List Oper} {d : Nat} {S : World → Prop}
def IsMethod (P : Program) (t : TypeId) (rv : Value) (nm : String) (f : FuncId) : Prop := ∀ w, (method (P.types.size + Made.depth) t rv nm).run P w = .ok (f, rv) w
theorem TL.callI {recv : Operand} {nm : String} {t : TypeId} {rv : Value} {f : FuncId} {xs : Array Operand} {ts : Array TypeId} {vs : List Value} {R : Hl → Prop} {A B : List HP} {p : Value → List HP → Prop} (hw : Want n D ops o L)
 (ho : o.op = .call { callee := .invoke recv nm, args := xs, argTypes := ts }) (hd : o.dst = some d) (hn : Nat.blt d n = true) (hr : evL L recv = some (.iface t rv)) (hm : IsMethod P t rv nm f) (hf : Named P f) (hx : evs L xs.toList = some vs)
 (sp : Does P f (rv :: vs).toArray R A (Ret p)) (hp : ∀ h, sep H h → sep (A ++ B) h) (hR : ∀ g, Dj g F → sep B g → R (jn g F))
 (hret : ∀ v H', p v H' → TL P w0 F n ops Q l D ((d, v) :: L) (H' ++ B)) : TL P w0 F n ops Q (o :: l) D L H :=
 TL.callw hw (fun a w g => by
  have e : xs.map a.eval = vs.toArray := g.evals hx
  have e2 : a.eval recv = .iface t rv := g.eval hr
  have e3 := hm w
  simp [execOp, ho, resolve, invoke, callMethod, e, e2, e3, run_callFunc hf])
  sp hp hR (fun v H' q a g w s m => by rw [hd]; exact hret v H' q _ w (g.put (lb hn) v) s m) (fun _ _ h => h.elim) (fun _ h => h)
theorem TE.retCTT {H' : List HP} {fn : Func} {post : Ending → List HP → Prop} {t t' t2 ty e m b : Nat} {cs : List Value} {z : Nat × Nat} {dt : TypeDesc} {v' v2 : Value} (hr : fn.results = #[.cell t ty, .tmp t', .tmp t2]) (he : lk L t = some (.pointer (some ⟨b, 0, none⟩))) (e' : lk L t' = some v') (e2 : lk L t2 = some v2)
 (hu : P.underlying ty = some dt) (hp : plainT dt = false) (hm : (P.info? ty).map (·.size) = some m) (hR : Rd (Sat H F) b (.cells cs.toArray e z)) (hl : cs.length = m) (hk : ∀ h, sep H h → sep H' h)
 (h : post (.returned (.tuple #[.agg cs.toArray, v', v2])) H') : TE w0 F n (bodyPost P fn (postOf post w0 F)) .ret [] L H := fun a w f s q => by
 have h1 : a.tmps.getD t undef = .pointer (some ⟨b, 0, none⟩) := f.eval (x := .tmp t) he
 have h2 : a.tmps.getD t' undef = v' := f.eval (x := .tmp t') e'
 have h4 : a.tmps.getD t2 undef = v2 := f.eval (x := .tmp t2) e2
 have h3 : (results fn a.tmps).run P w = .ok (.tuple #[.agg cs.toArray, v', v2]) w := by
  have h1' : a.tmps[t]?.getD undef = .pointer (some ⟨b, 0, none⟩) := by simpa using h1
  have h2' : a.tmps[t']?.getD undef = v' := by simpa using h2
  have h4' : a.tmps[t2]?.getD undef = v2 := by simpa using h4
  simp [results, hr, h1', h2', h4', asAddr, run_loadVar_row w b e ty cs.toArray z dt (hR w q) hu (by cases dt <;> simp [plainT] at hp ⊢) (by simp [hm, hl])]
 exact bodyPost_ret h3 f.2.1 ⟨s, H', q.mono hk, h⟩
theorem PV.ifaceNotNil {t t' u : TypeId} {x : Operand} {v : Value} {ms : Array (String × TypeId)} (ho : o.op = .binOp .neq t x (.const .nilIface) t') (ht : P.underlying t = some (.interface ms)) (hx : evL L x = some (.iface u v)) : PV P n D L S o (.bool true) :=
 PV.bin ho hx rfl fun w => by
  have := eqIn_ifaceNil (P := P) (w := w) 9999 (u := u) (v := v) ht
  simp [eqGuard, binOp, Op.equal, Op.maxDepth, this]
end
theorem isI_own (i : Nat) {v : Value} {l : List Int} {e : Nat} {B : List HP} {F : Hl} (hi : Nat.blt i B.length = true) (hH : B.getD i (fun _ => True) = own v l.length (Api.ints l) e 1) : ∀ g, Dj g F → sep B g → IsI .i64 v l (jn g F) := fun g _ s => by
 obtain ⟨h1, h2, d', rfl, a, _⟩ := sep_get i (lb hi) s
 rw [hH] at a
 rcases a with ⟨_, ⟨h0, hn, _⟩ | ⟨g, cap, cur, hv, hh, h3, h4, h5, h6⟩⟩
 · exact .inl ⟨h0, List.eq_nil_of_length_eq_zero hn⟩
 · refine .inr ⟨g, 0, cap, cur.toList, e, (0, 0), hv, h3, by simp only [maxLen] at h4; omega, jn_some (jn_some (by rw [hh]; simp [sg])), fun j hj => ?_⟩
   rw [Nat.mul_one] at h6
   have e1 : (cur.toList.take l.length)[j]? = some (.int .i64 (l.getD j 0)) := by rw [h6]; exact Api.ints_get l j hj
   rw [List.getElem?_take, if_pos hj] at e1
   simpa using e1
end Leg
end

section
namespace Wal
open Go Leg Codec Api Dsk
theorem isB_bunch (i : Nat) {us : List Value} {ls : List (List UInt8)} {e k : Nat} {B : List HP} {F : Hl} (hk : k < ls.length) (hi : Nat.blt i B.length = true) (hH : B.getD i (fun _ => True) = bunch us ls e) : ∀ g, Dj g F → sep B g → IsB (us.getD k undef) ls[k] (jn g F) := fun g d s => by
 obtain ⟨h1, h2, d', rfl, a, _⟩ := sep_get i (lb hi) s
 rw [hH] at a
 obtain ⟨hl, a⟩ := a
 obtain ⟨u, e1, k1, k2, dk, rfl, a3⟩ := bunch_at us ls e _ hl a k hk
 rw [List.getD_eq_getElem?_getD, e1]
 exact subB_isB a3 fun b o e => jn_some (jn_some (jn_some e))
theorem In.read {s ws : Secs} (h1 : In s) (h2 : In ws) (at' : Int) (h : ¬ (0 ≤ at' ∧ at' < 2048)) : ∀ k, k ≤ ws.length → readN s ws at' k = zs
 | 0, _ => by
  show sget s at' = zs
  induction s with
  | nil => rfl
  | cons p s ih =>
   obtain ⟨a, b⟩ := p
   simp only [sget]
   have hh := h1 (a, b) (by simp)
   rw [if_neg (fun e => h (by simp only at hh; omega))]
   exact ih fun q hq => h1 q (by simp [hq])
 | k + 1, hk => by
  simp only [readN]
  rw [if_neg, In.read h1 h2 at' h k (by omega)]
  intro e
  rw [wat_eq (by omega)] at e
  have hh := h2 ws[k] (List.getElem_mem _)
  exact h (by omega)
theorem DS.In.read {D : DS} (h : Wal.DS.In D) {at' : Int} (h2 : ¬ (0 ≤ at' ∧ at' < 2048)) : D.read at' = zs := Wal.In.read h.1 h.2 at' h2 _ (Nat.le_refl _)
theorem pieceP_zs (number place : Int) : pieceP zs number place = none := pieceP_end (by decide)
theorem moreP_some {rd : Int → Sec} {number at' all : Int} : ∀ (m : Nat) {b : List UInt8}, moreP rd number at' all m = some b → ∀ k, k < m → ∃ x, pieceP (rd (at' + k)) number k = some (x, all)
 | 0, _, _, k, hk => by omega
 | m + 1, b, h, k, hk => by
  simp only [moreP] at h
  split at h
  · cases h
  · rename_i b' hb
    split at h
    · cases h
    · rename_i x same hx
      split at h
      · rename_i hs
        by_cases e : k = m
        · subst e; exact ⟨x, by rw [hx, hs]⟩
        · exact moreP_some m hb k (by omega)
      · cases h
theorem standsP_facts {rd : Int → Sec} {number at' all : Int} {b : List UInt8} (hl : (rd at').length = 64) (h : standsP rd number at' = some (b, all)) : 0 < all ∧ all ≤ 255 ∧ ∀ k : Nat, (k : Int) < all → ∃ x, pieceP (rd (at' + k)) number k = some (x, all) := by
 unfold standsP at h
 split at h
 · cases h
 · rename_i x al hp
   obtain ⟨f1, f2, _⟩ := pieceP_facts hl hp
   obtain ⟨c, hc, e⟩ := Option.map_eq_some_iff.1 h
   injection e with e1 e2
   subst e1; subst e2
   exact ⟨f1, f2, fun k hk => moreP_some _ hc k (by omega)⟩
theorem standsP_room {D : DS} (hI : Wal.DS.In D) (hD : D.Ok) {number at' all : Int} {b : List UInt8} (h0 : 0 ≤ at') (h : standsP D.read number at' = some (b, all)) : at' + all ≤ 2048 := by
 obtain ⟨f1, f2, f3⟩ := standsP_facts (DS.read_len hD _) h
 obtain ⟨x, hx⟩ := f3 (all - 1).toNat (by omega)
 by_cases q : at' + all ≤ 2048
 · exact q
 · rw [DS.In.read hI (by omega), pieceP_zs] at hx; cases hx
theorem scan_stop {rd : Int → Sec} {f : Nat} {cnt used : Int} (h : standsP rd (cnt + 1) used = none) : scanP rd f cnt used = ([], used) := by
 cases f with
 | zero => rfl
 | succ f => simp only [scanP, h]
theorem scan_go {rd : Int → Sec} {f : Nat} {cnt used all : Int} {b : List UInt8} (h : standsP rd (cnt + 1) used = some (b, all)) : scanP rd (f + 1) cnt used = (b :: (scanP rd f (cnt + 1) (used + all)).1, (scanP rd f (cnt + 1) (used + all)).2) := by simp only [scanP, h]
def Scan (D : DS) (f : Nat) (rs : List (List UInt8)) (used : Int) : Prop :=
 scanP D.read fuel0 0 0 = (rs ++ (scanP D.read f rs.length used).1, (scanP D.read f rs.length used).2) ∧ 0 ≤ used ∧ used ≤ 2048 ∧ 2049 ≤ (f : Int) + used ∧ (rs.length : Int) ≤ used
theorem Scan.start (D : DS) : Scan D fuel0 [] 0 := by
 refine ⟨?_, by omega, by omega, by rw [fuel0_eq]; omega, by simp⟩
 have e : ((([] : List (List UInt8)).length : Nat) : Int) = 0 := rfl
 rw [List.nil_append, e]
theorem Scan.next {D : DS} (hI : Wal.DS.In D) (hD : D.Ok) {f : Nat} {rs : List (List UInt8)} {used all : Int} {b : List UInt8} (h : Scan D f rs used) (h2 : standsP D.read ((rs.length : Int) + 1) used = some (b, all)) : ∃ f', f = f' + 1 ∧ Scan D f' (rs ++ [b]) (used + all) := by
 obtain ⟨h1, h0, h3, h4, h5⟩ := h
 have hr := standsP_room hI hD h0 h2
 have hf := (standsP_facts (DS.read_len hD _) h2).1
 obtain ⟨f', rfl⟩ : ∃ f', f = f' + 1 := ⟨f - 1, by omega⟩
 refine ⟨f', rfl, ?_, by omega, by omega, by omega, by simp; omega⟩
 rw [h1, scan_go h2]
 simp
theorem Scan.stop {D : DS} {f : Nat} {rs : List (List UInt8)} {used : Int} (h : Scan D f rs used) (h2 : standsP D.read ((rs.length : Int) + 1) used = none) : scanP D.read fuel0 0 0 = (rs, used) := by
 rw [h.1, scan_stop h2]; simp
theorem wipe_end {D : DS} {at' : Int} (h : 2048 ≤ at') : wipeP (2048 - at').toNat at' D = (0, D) := by rw [show (2048 - at').toNat = 0 by omega]; rfl
theorem wipe_skip {D : DS} {at' : Int} (h : at' < 2048) (h2 : D.read at' = zs) : wipeP (2048 - at').toNat at' D = wipeP (2048 - (at' + 1)).toNat (at' + 1) D := by
 rw [show (2048 - at').toNat = (2048 - (at' + 1)).toNat + 1 by omega, wipeP, if_pos h2]
theorem wipe_go {D : DS} {at' : Int} (h : at' < 2048) (h2 : D.read at' ≠ zs) (h3 : (D.write at' []).1 = 0) : wipeP (2048 - at').toNat at' D = wipeP (2048 - (at' + 1)).toNat (at' + 1) (D.write at' []).2 := by
 rw [show (2048 - at').toNat = (2048 - (at' + 1)).toNat + 1 by omega, wipeP, if_neg h2, if_pos h3]
theorem wipe_fail {D : DS} {at' : Int} (h : at' < 2048) (h2 : D.read at' ≠ zs) (h3 : (D.write at' []).1 ≠ 0) : wipeP (2048 - at').toNat at' D = D.write at' [] := by
 rw [show (2048 - at').toNat = (2048 - (at' + 1)).toNat + 1 by omega, wipeP, if_neg h2, if_neg h3]
theorem open_fail1 {D D' : DS} {rs : List (List UInt8)} {used e : Int} (h : scanP D.read fuel0 0 0 = (rs, used)) (h2 : wipeP (2048 - used).toNat used D = (e, D')) (h3 : e ≠ 0) : openP D = ⟨e, [], 0, D'⟩ := by
 simp only [openP, h, h2]
 rw [if_pos h3]
theorem open_fail2 {D D' : DS} {rs : List (List UInt8)} {used : Int} (h : scanP D.read fuel0 0 0 = (rs, used)) (h2 : wipeP (2048 - used).toNat used D = (0, D')) (h3 : D'.sync.1 ≠ 0) : openP D = ⟨D'.sync.1, [], 0, D'.sync.2⟩ := by
 simp only [openP, h, h2, ne_eq, not_true_eq_false, if_false]
 rw [if_pos h3]
theorem open_ok {D D' : DS} {rs : List (List UInt8)} {used : Int} (h : scanP D.read fuel0 0 0 = (rs, used)) (h2 : wipeP (2048 - used).toNat used D = (0, D')) (h3 : D'.sync.1 = 0) : openP D = ⟨0, rs, used, D'.sync.2⟩ := by
 simp only [openP, h, h2, ne_eq, not_true_eq_false, if_false]
 rw [if_neg (by simp [h3])]
def writesP : List Sec → Int → DS → Int × DS
 | [], _, D => (0, D)
 | s :: ss, at', D => if (D.write at' s).1 = 0 then writesP ss (at' + 1) (D.write at' s).2 else D.write at' s
structure PutR where
 err : Int
 cnt : Nat
 used : Int
 D : DS
def putL (D : DS) (cnt : Nat) (used : Int) (bs : List UInt8) : PutR :=
 if 3000 < bs.length then ⟨2, cnt, used, D⟩
 else if (piecesN bs.length : Int) > 2048 - used then ⟨3, cnt, used, D⟩
 else
  let w := writesP (sectorsP ((cnt + 1 : Nat) : Int) bs) used D
  if w.1 ≠ 0 then ⟨w.1, cnt, used, w.2⟩ else if w.2.sync.1 ≠ 0 then ⟨w.2.sync.1, cnt, used, w.2.sync.2⟩ else ⟨0, cnt + 1, used + piecesN bs.length, w.2.sync.2⟩
theorem writes_step {ss : List Sec} {at' : Int} {D : DS} {k : Nat} (hk : k < ss.length) (h : (D.write (at' + k) ss[k]).1 = 0) : writesP (ss.drop k) (at' + k) D = writesP (ss.drop (k + 1)) (at' + (k + 1 : Nat)) (D.write (at' + k) ss[k]).2 := by
 rw [List.drop_eq_getElem_cons hk, writesP, if_pos h]
 congr 1
 omega
theorem writes_fail {ss : List Sec} {at' : Int} {D : DS} {k : Nat} (hk : k < ss.length) (h : (D.write (at' + k) ss[k]).1 ≠ 0) : writesP (ss.drop k) (at' + k) D = D.write (at' + k) ss[k] := by
 rw [List.drop_eq_getElem_cons hk, writesP, if_neg h]
section
variable {D D' : DS} {cnt : Nat} {used : Int} {bs : List UInt8}
theorem put_long (h : 3000 < bs.length) : putL D cnt used bs = ⟨2, cnt, used, D⟩ := by rw [putL, if_pos h]
theorem put_full (h : ¬ 3000 < bs.length) (h2 : (piecesN bs.length : Int) > 2048 - used) : putL D cnt used bs = ⟨3, cnt, used, D⟩ := by rw [putL, if_neg h, if_pos h2]
theorem put_fail1 {e : Int} (h : ¬ 3000 < bs.length) (h2 : ¬ (piecesN bs.length : Int) > 2048 - used) (h3 : writesP (sectorsP ((cnt + 1 : Nat) : Int) bs) used D = (e, D')) (h4 : e ≠ 0) : putL D cnt used bs = ⟨e, cnt, used, D'⟩ := by
 rw [putL, if_neg h, if_neg h2]
 simp only [h3]
 rw [if_pos h4]
theorem put_fail2 (h : ¬ 3000 < bs.length) (h2 : ¬ (piecesN bs.length : Int) > 2048 - used) (h3 : writesP (sectorsP ((cnt + 1 : Nat) : Int) bs) used D = (0, D')) (h4 : D'.sync.1 ≠ 0) : putL D cnt used bs = ⟨D'.sync.1, cnt, used, D'.sync.2⟩ := by
 rw [putL, if_neg h, if_neg h2]
 simp only [h3, ne_eq, not_true_eq_false, if_false]
 rw [if_pos h4]
theorem put_ok (h : ¬ 3000 < bs.length) (h2 : ¬ (piecesN bs.length : Int) > 2048 - used) (h3 : writesP (sectorsP ((cnt + 1 : Nat) : Int) bs) used D = (0, D')) (h4 : D'.sync.1 = 0) : putL D cnt used bs = ⟨0, cnt + 1, used + piecesN bs.length, D'.sync.2⟩ := by
 rw [putL, if_neg h, if_neg h2]
 simp only [h3, ne_eq, not_true_eq_false, if_false]
 rw [if_neg (by simp [h4])]
end
end Wal
end

section
namespace Go.Proofs.YtohmkchalilodaaGreatDoor
open Go Leg Codec Api Dsk Wal
abbrev lgP (lg d : Nat) (cnt used : Int) : HP := blkA lg [.pointer (some ⟨d, 0, none⟩), .int .i64 cnt, .int .i64 used] 171
abbrev rcP (v : Value) (ls : List (List UInt8)) : HP := recsP 47 5 v ls
theorem stands_does (d : Nat) (D : DS) (number at' : Int) (hD : D.Ok) (hb : D.ws.length ≤ 1000000000) (ha : 0 ≤ at' ∧ at' ≤ 1000000) :
 Leg.Does Tryz.prog 85 #[(.pointer (some ⟨d, 0, none⟩)), (.int .i64 (number)), (.int .i64 (at'))] (fun _ => True) [dk d (D)] (Ret (fun v H => (standsP D.read number at' = none ∧ v = .tuple #[.slice none 0 0, .int .i64 0, .bool false] ∧ H = [dk d D]) ∨ ∃ b all u, standsP D.read number at' = some (b, all) ∧ v = .tuple #[u, .int .i64 all, .bool true] ∧ H = [subB u b 5, dk d D])) := by
 refine Leg.Does.body (n := 56) Tryz.func85 rfl rfl rfl (fun w0 F hF => sr fun _ J1 => ?_)
 iterate 3 refine PS ?_
 refine nx J1 (sr fun _ J2 => PS ?_)
 refine PS ?_
 refine CR nm86 (dk_read d (D) at' hD hb) (fun _ s => s) fun vR HR hR => ?_
 obtain ⟨hv, rfl⟩ := hR
 subst hv
 refine PS ?_
 refine CR nm132 (piece_does ((D).read at') number 0 (DS.read_len hD _)) (fun _ s => s) fun vR HR hR => ?_
 rcases hR with ⟨hp, rfl, rfl⟩ | ⟨b, all, u, hp, rfl, rfl⟩
 refine PS ?_
 refine tp (PV.extract (vs := [(.slice none 0 0), (.int .i64 0), (.bool false)]) rfl rfl rfl) ?_
 refine tp (PV.extract (vs := [(.slice none 0 0), (.int .i64 0), (.bool false)]) rfl rfl rfl) ?_
 refine tp (PV.extract (vs := [(.slice none 0 0), (.int .i64 0), (.bool false)]) rfl rfl rfl) ?_
 iterate 3 refine PS ?_
 refine nx J2 (TC.seq fun _ J3 => sr fun _ J4 => PS ?_)
 refine tp (PV.not (r := true) rfl rfl rfl) ?_
 refine nx J4 (CY (sr fun _ J5 => ?_))
 iterate 3 refine PS ?_
 exact nx J5 (TC.ret (TE.passRet (WK [0] (TE.ret3 rfl rfl rfl rfl (.inl ⟨standsP_none1 hp, rfl, rfl⟩)))))
 refine TL.subLen 0 rfl rfl (fun hul hu => ?_)
 have hpf := pieceP_facts (DS.read_len hD _) hp
 refine PS ?_
 refine tp (PV.extract (vs := [u, (.int .i64 (all)), (.bool true)]) rfl rfl rfl) ?_
 refine tp (PV.extract (vs := [u, (.int .i64 (all)), (.bool true)]) rfl rfl rfl) ?_
 refine tp (PV.extract (vs := [u, (.int .i64 (all)), (.bool true)]) rfl rfl rfl) ?_
 iterate 3 refine PS ?_
 refine nx J2 (TC.seq fun _ J6 => sr fun _ J7 => PS ?_)
 refine tp (PV.not (r := false) rfl rfl rfl) ?_
 refine nx J7 (CN (CX J6 (TC.seq fun _ J8 => sr fun _ J9 => PS ?_)))
 refine nx J9 (TC.block ?_)
 refine TC.loop (α := (Nat) × (List UInt8) × (Value)) (fun ⟨k, c, w⟩ => 1 ≤ k ∧ k ≤ all.toNat ∧ moreP D.read number at' all k = some c ∧ c.length ≤ k * 52 ∧ w.oneCell' = true) (fun ⟨k, c, w⟩ => [(0, (.pointer (some ⟨d, 0, none⟩))), (1, (.int .i64 (number))), (2, (.int .i64 (at'))), (9, w), (10, (.int .i64 (all))), (12, (.int .i64 (((k : Nat) : Int))))]) (fun ⟨k, c, w⟩ => [subB w (c) 5, dk d (D)]) (fun ⟨k, c, w⟩ => all.toNat - k) (1, b, u)
  ⟨Nat.le_refl _, by omega, moreP_one hp, by omega, hu⟩ SB
  (fun _ s => s) (fun ⟨k, c, w⟩ hinv => ?_)
 obtain ⟨hk1, hk2, hk3, hk4, hw⟩ := hinv
 refine TC.seq fun _ J10 => sr fun _ J11 => ?_
 iterate 3 refine PS ?_
 refine TL.dec (fun h29 => ?_) (fun h29 => ?_)
 refine nx J11 (CY (CX J10 (TC.seq fun _ J12 => TC.block (sr fun _ J13 => ?_))))
 iterate 3 refine PS ?_
 refine AD ?_
 refine CR nm86 (dk_read d (D) (at' + ((k : Nat) : Int)) hD hb) (SM [1]) fun vR HR hR => ?_
 obtain ⟨hv, rfl⟩ := hR
 subst hv
 refine PS ?_
 refine PS ?_
 refine CR nm132 (piece_does ((D).read (at' + ((k : Nat) : Int))) number ((k : Nat) : Int) (DS.read_len hD _)) (fun _ s => s) fun vR HR hR => ?_
 rcases hR with ⟨hp2, rfl, rfl⟩ | ⟨b2, all2, u2, hp2, rfl, rfl⟩
 refine PS ?_
 refine tp (PV.extract (vs := [(.slice none 0 0), (.int .i64 0), (.bool false)]) rfl rfl rfl) ?_
 refine tp (PV.extract (vs := [(.slice none 0 0), (.int .i64 0), (.bool false)]) rfl rfl rfl) ?_
 refine tp (PV.extract (vs := [(.slice none 0 0), (.int .i64 0), (.bool false)]) rfl rfl rfl) ?_
 iterate 3 refine PS ?_
 refine nx J13 (TC.seq fun _ J14 => sr fun _ J15 => PS ?_)
 refine tp (PV.not (r := true) rfl rfl rfl) ?_
 refine PS ?_
 iterate 3 refine UT ?_
 refine PS ?_
 refine nx J15 (CY (sr fun _ J16 => ?_))
 iterate 3 refine PS ?_
 refine nx J16 (TC.ret (TE.passRet (TE.blockRet (TE.passRet (TE.passRet (TE.blockRet (TE.passRet (WK [0] (TE.ret3 rfl rfl rfl rfl ?_)))))))))
 exact .inl ⟨standsP_none2 hp (moreP_stop (.inl hp2) _ (by omega)), rfl, rfl⟩
 refine TL.subLen 0 rfl rfl (fun hul2 hu2 => ?_)
 have hpf2 := pieceP_facts (DS.read_len hD _) hp2
 refine PS ?_
 refine tp (PV.extract (vs := [u2, (.int .i64 (all2)), (.bool true)]) rfl rfl rfl) ?_
 refine tp (PV.extract (vs := [u2, (.int .i64 (all2)), (.bool true)]) rfl rfl rfl) ?_
 refine tp (PV.extract (vs := [u2, (.int .i64 (all2)), (.bool true)]) rfl rfl rfl) ?_
 iterate 3 refine PS ?_
 refine nx J13 (TC.seq fun _ J17 => sr fun _ J18 => PS ?_)
 refine tp (PV.not (r := false) rfl rfl rfl) ?_
 iterate 4 refine PS ?_
 refine TL.dec (fun h49 => ?_) (fun h49 => ?_)
 refine PS ?_
 refine nx J18 (CY (sr fun _ J19 => ?_))
 iterate 3 refine PS ?_
 refine nx J19 (TC.ret (TE.passRet (TE.blockRet (TE.passRet (TE.passRet (TE.blockRet (TE.passRet (WK [1] (TE.ret3 rfl rfl rfl rfl ?_)))))))))
 exact .inl ⟨standsP_none2 hp (moreP_stop (.inr ⟨b2, all2, hp2, h49⟩) _ (by omega)), rfl, rfl⟩
 refine PS ?_
 refine nx J18 (CN (CX J17 (TC.region (PS ?_))))
 refine PS ?_
 refine TL.appendS (k := 2) (news := b2) (bs' := c ++ b2) (Want.plain rfl) rfl rfl rfl Y47 in5 rfl rfl rfl rfl (fun _ s => Src.sub 0 rfl rfl s) (by omega) rfl (fun v53 ov53 => PS ?_)
 refine TL.nil (TE.blockEnd (TE.next J12 (TC.region (PS ?_))))
 refine AD ?_
 refine PS ?_
 refine TL.nil ?_
 exact TE.round ((k + 1, c ++ b2, v53) : (Nat) × (List UInt8) × (Value)) ⟨by omega, by omega, moreP_go hk3 (by rw [hp2, show all2 = all by omega]), by rw [List.length_append]; omega, ov53⟩ (by show all.toNat - (k + 1) < all.toNat - k; omega)
  SB
  (fun _ s => sep_keep [2, 1] rfl s)
 refine nx J11 (CN (TC.exit (TE.pass (TE.pass (TE.hit (TE.next J8 (sr fun _ J20 => ?_)))))))
 iterate 5 refine PS ?_
 refine nx J20 (TC.ret (WK [0, 0] (TE.ret3 rfl rfl rfl rfl ?_)))
 exact .inr ⟨c, all, w, standsP_some hp (by rw [show all.toNat = k by omega]; exact hk3), rfl, rfl⟩
theorem room_does (lg d : Nat) (cnt used : Int) (h : 0 ≤ used ∧ used ≤ 2048) :
 Leg.Does Tryz.prog 164 #[(.pointer (some ⟨lg, 0, none⟩))] (fun _ => True) [blkA lg [(.pointer (some ⟨d, 0, none⟩)), (.int .i64 (cnt)), (.int .i64 (used))] 171] (Ret (fun v H => v = .int .i64 (2048 - used) ∧ H = [lgP lg d cnt used])) := by
 refine Leg.Does.body (n := 8) Tryz.func164 rfl rfl rfl (fun w0 F hF => sr fun _ J1 => PS ?_)
 refine nx J1 (sr fun _ J2 => PS ?_)
 refine PS ?_
 refine FA 2 Y171 sz3 ?_
 refine LA 0 Y3 ?_
 refine tp (PV.sub rfl rfl rfl (wrap_i64 (by omega) (by omega))) ?_
 refine PS ?_
 exact nx J2 (TC.ret (WK [0] (TE.ret1 rfl rfl ⟨rfl, rfl⟩)))
theorem walPut_does (lg d cnt : Nat) (used : Int) (x : Value) (bs : List UInt8) (D : DS) (hD : D.Ok) (hb : D.ws.length ≤ 1000000) (hu : 0 ≤ used ∧ used ≤ 2048) (hc : cnt ≤ 1000000) :
 Leg.Does Tryz.prog 147 #[(.pointer (some ⟨lg, 0, none⟩)), x] (IsW x bs) [blkA lg [(.pointer (some ⟨d, 0, none⟩)), (.int .i64 (((cnt : Nat) : Int))), (.int .i64 (used))] 171, dk d (D)] (Ret (fun v H => v = .int .i64 (putL D cnt used bs).err ∧ H = [lgP lg d (((putL D cnt used bs).cnt : Nat) : Int) (putL D cnt used bs).used, dk d (putL D cnt used bs).D])) := by
 refine Leg.Does.body (n := 72) Tryz.func147 rfl rfl rfl (fun w0 F hF => sr fun _ J1 => PS ?_)
 refine nx J1 (TC.seq fun _ J2 => sr fun _ J3 => PS ?_)
 refine tp (PV.lenV rfl Y47 rfl hF.len) ?_
 refine PS ?_
 refine TL.dec (fun h12 => ?_) (fun h12 => ?_)
 refine nx J3 (CY (sr fun _ J4 => PS ?_))
 refine nx J4 (TC.ret (TE.passRet (WK [0, 0] (TE.ret1 rfl rfl ?_))))
 rw [put_long (by omega)]
 exact ⟨rfl, rfl⟩
 refine nx J3 (CN (CX J2 (sr fun _ J5 => PS ?_)))
 refine tp (PV.lenV rfl Y47 rfl hF.len) ?_
 refine CE nm163 (pieces_does bs.length (by omega)) (fun _ s => s) ?_
 refine PS ?_
 refine nx J5 (TC.seq fun _ J6 => sr fun _ J7 => PS ?_)
 refine PS ?_
 refine CE nm164 (room_does lg d ((cnt : Nat) : Int) used hu) (fun _ s => s) ?_
 refine PS ?_
 refine TL.dec (fun h19 => ?_) (fun h19 => ?_)
 refine nx J7 (CY (sr fun _ J8 => PS ?_))
 refine nx J8 (TC.ret (TE.passRet (WK [0, 0] (TE.ret1 rfl rfl ?_))))
 rw [put_full (by omega) (by omega)]
 exact ⟨rfl, rfl⟩
 refine nx J7 (CN (CX J6 (TC.seq fun _ J9 => sr fun _ J10 => PS ?_)))
 refine PS ?_
 refine FA 1 Y171 sz3 ?_
 refine LA 0 Y3 ?_
 refine tp (PV.to (v' := (.int .i64 (((cnt + 1 : Nat) : Int)))) (PV.add rfl rfl rfl (wrap_i64 (by omega) (by omega))) rfl) ?_
 refine PS ?_
 refine CQ nm165 (sectors_does x (cnt + 1) bs (by omega)) (fun _ s => s) (fun g d _ => IsW.more hF d) fun vR HR hR => ?_
 have hR := hR
 subst hR
 change TL _ _ _ _ _ _ _ _ _ [recsP 47 5 vR (sectorsP ((cnt + 1 : Nat) : Int) bs), blkA lg [(.pointer (some ⟨d, 0, none⟩)), (.int .i64 (((cnt : Nat) : Int))), (.int .i64 (used))] 171, dk d (D)]
 refine TL.recsLen 0 rfl rfl (fun hrl hro => ?_)
 rw [sectorsP_len] at hrl
 refine tp (PV.lenV rfl Y112 rfl hrl) ?_
 refine PS ?_
 refine nx J10 (TC.block ?_)
 refine TC.loop (α := (Nat) × (DS)) (fun ⟨k, D'⟩ => k ≤ piecesN bs.length ∧ writesP (sectorsP ((cnt + 1 : Nat) : Int) bs) used D = writesP ((sectorsP ((cnt + 1 : Nat) : Int) bs).drop k) (used + (k : Nat)) D' ∧ D'.Ok ∧ D'.ws.length ≤ D.ws.length + k) (fun ⟨k, D'⟩ => [(0, (.pointer (some ⟨lg, 0, none⟩))), (5, (.int .i64 (((piecesN bs.length : Nat) : Int)))), (26, vR), (27, (.int .i64 ((((piecesN bs.length) : Nat) : Int)))), (28, (.int .i64 (((k : Nat) : Int))))]) (fun ⟨k, D'⟩ => [blkA lg [(.pointer (some ⟨d, 0, none⟩)), (.int .i64 (((cnt : Nat) : Int))), (.int .i64 (used))] 171, dk d (D'), recsP 47 5 vR (sectorsP ((cnt + 1 : Nat) : Int) bs)]) (fun ⟨k, D'⟩ => piecesN bs.length - k) (0, D)
  ⟨Nat.zero_le _, by simp, hD, by omega⟩ SB
  (fun _ s => sep_selR [1, 1, 0] rfl s) (fun ⟨k, D'⟩ hinv => ?_)
 obtain ⟨hk, hwr, hD', hws⟩ := hinv
 refine sr fun _ J11 => PS ?_
 refine TL.dec (fun h29 => ?_) (fun h29 => ?_)
 refine TL.mono (fun _ s => sep_selR [2] rfl s) (TL.recsOpen (fun us => ?_))
 change TL _ _ _ _ _ _ _ _ _ [own vR ((sectorsP ((cnt + 1 : Nat) : Int) bs).length) (us) 47 1, bunch us (sectorsP ((cnt + 1 : Nat) : Int) bs) 5, blkA lg [(.pointer (some ⟨d, 0, none⟩)), (.int .i64 (((cnt : Nat) : Int))), (.int .i64 (used))] 171, dk d (D')]
 refine TL.fact (p := us.length = (sectorsP ((cnt + 1 : Nat) : Int) bs).length * 1) (fun w m => m.own_len (i := 0) (lb rfl) rfl) (fun hul => ?_)
 rw [sectorsP_len, Nat.mul_one] at hul
 have hkl : k < (sectorsP ((cnt + 1 : Nat) : Int) bs).length := by rw [sectorsP_len]; omega
 obtain ⟨sk, hsk⟩ : ∃ x, (sectorsP ((cnt + 1 : Nat) : Int) bs)[k] = x := ⟨_, rfl⟩
 refine TL.ownAt 0 rfl rfl (by omega) (fun g cap hv hcap => nx J11 (TC.seq fun _ J12 => CY (CX J12 (TC.seq fun _ J13 => TC.block (sr fun _ J14 => PS ?_)))))
 refine tp (PV.indexSlV (r := k) hv rfl Y112 sz47 rfl rfl (by omega) (by omega) (by omega)) ?_
 refine tp (PV.load1X (v := (us.getD k undef)) rfl Y47 rfl rfl (RdX.own 0 rfl hv rfl) (by simp [List.getD_eq_getElem?_getD, show k < us.length by omega])) ?_
 refine PS ?_
 refine PS ?_
 refine nx J14 (TC.seq fun _ J15 => D1 2 mixedD ?_)
 refine PD 0 ?_
 refine PD 1 ?_
 refine FD 2 0 Y171 sz51 ?_
 refine ta 3 rfl (PV.load1 (v := (.pointer (some ⟨d, 0, none⟩))) rfl Y51 rfl rfl (fun _ h => h.2.1) rfl) ?_
 refine PD 4 ?_
 refine PD 5 ?_
 refine FD 6 2 Y171 sz3 ?_
 refine ta 7 rfl (PV.load1 (v := (.int .i64 (used))) rfl Y3 rfl rfl (fun _ h => h.2.1) rfl) ?_
 refine PD 8 ?_
 refine ta 9 rfl (PV.add rfl rfl rfl (wrap_i64 (by omega) (by omega))) ?_
 refine PD 10 ?_
 refine AL 11 ?_
 refine CQ nm87 (dk_write d D' (used + ((k : Nat) : Int)) (us.getD k undef) sk hD' (by omega)) (SM [3]) (fun g d s => IsB.w (hsk ▸ isB_bunch 1 hkl rfl rfl g d s)) fun vR HR hR => ?_
 obtain ⟨hv2, rfl⟩ := hR
 subst hv2
 refine TL.nil (E1 3 (PD 12 ?_))
 refine DN (TE.next J15 (sr fun _ J16 => PS ?_))
 refine PS ?_
 refine TL.dec (fun h46 => ?_) (fun h46 => ?_)
 refine nx J16 (CY (sr fun _ J17 => PS ?_))
 refine PS ?_
 refine nx J17 (TC.ret (TE.blockRet (TE.passRet (TE.passRet (TE.blockRet (TE.passRet (WK [3, 0] (TE.ret1 rfl rfl ?_))))))))
 have hf := writes_fail (D := D') (at' := used) hkl (by rw [hsk]; exact h46)
 rw [hsk] at hf
 rw [put_fail1 (by omega) (by omega) (hwr.trans hf) h46]
 exact ⟨rfl, rfl⟩
 refine nx J16 (CN (TC.skip (TE.blockEnd (TE.next J13 (TC.region (AD ?_))))))
 refine PS ?_
 refine TL.nil ?_
 exact TE.round ((k + 1, (D'.write (used + ((k : Nat) : Int)) sk).2) : (Nat) × (DS)) ⟨by omega, by rw [hwr]; subst hsk; exact writes_step hkl (by simpa using h46), DS.write_ok hD' _ _, by have := DS.write_ws (D := D') (at' := used + ((k : Nat) : Int)) (bs := sk); omega⟩ (by show piecesN bs.length - (k + 1) < piecesN bs.length - k; omega)
  SB
  (fun _ s => sep_selR [1, 1, 0] rfl (sep_close (p := fun us : List Value => [own vR (sectorsP ((cnt + 1 : Nat) : Int) bs).length us 47 1, bunch us (sectorsP ((cnt + 1 : Nat) : Int) bs) 5]) us (sep_keep [1, 1, 1, 0] rfl s)))
 refine nx J11 (TC.seq fun _ J18 => CN (TC.exit (TE.pass (TE.pass (TE.hit (TE.next J9 (TC.seq fun _ J19 => sr fun _ J20 => PS ?_)))))))
 refine PS ?_
 refine FA 0 Y171 sz51 ?_
 refine LA 0 Y51 ?_
 refine CR nm88 (dk_sync d (D')  hD') (SM [1]) fun vR HR hR => ?_
 obtain ⟨hv, rfl⟩ := hR
 subst hv
 refine PS ?_
 refine nx J20 (sr fun _ J21 => PS ?_)
 refine PS ?_
 refine TL.dec (fun h55 => ?_) (fun h55 => ?_)
 refine nx J21 (CY (sr fun _ J22 => PS ?_))
 refine PS ?_
 refine nx J22 (TC.ret (TE.passRet (WK [1, 0] (TE.ret1 rfl rfl ?_))))
 have hf : writesP (sectorsP ((cnt + 1 : Nat) : Int) bs) used D = (0, D') := by rw [hwr, List.drop_of_length_le (by rw [sectorsP_len]; omega)]; rfl
 rw [put_fail2 (by omega) (by omega) hf h55]
 exact ⟨rfl, rfl⟩
 refine nx J21 (CN (CX J19 (sr fun _ J23 => PS ?_)))
 refine PS ?_
 refine FA 1 Y171 sz3 ?_
 refine LA 1 Y3 ?_
 refine AD ?_
 refine PS ?_
 refine FA 1 Y171 sz3 ?_
 refine S0 1 sz3 ?_
 refine nx J23 (sr fun _ J24 => PS ?_)
 refine PS ?_
 refine FA 2 Y171 sz3 ?_
 refine LA 1 Y3 ?_
 refine PS ?_
 refine AD ?_
 refine PS ?_
 refine FA 2 Y171 sz3 ?_
 refine S0 1 sz3 ?_
 refine nx J24 (sr fun _ J25 => PS ?_)
 refine nx J25 (TC.ret (WK [1, 0] (TE.ret1 rfl rfl ?_)))
 have hf : writesP (sectorsP ((cnt + 1 : Nat) : Int) bs) used D = (0, D') := by rw [hwr, List.drop_of_length_le (by rw [sectorsP_len]; omega)]; rfl
 rw [put_ok (by omega) (by omega) hf (by simpa using h55)]
 exact ⟨rfl, rfl⟩
theorem open_does (d : Nat) (D : DS) (hD : D.Ok) (hI : Wal.DS.In D) (hb : D.ws.length ≤ 1000000) :
 Leg.Does Tryz.prog 44 #[(.pointer (some ⟨d, 0, none⟩))] (fun _ => True) [dk d (D)] (Ret (fun v H => ((openP D).err ≠ 0 ∧ v = .tuple #[.pointer none, .slice none 0 0, .int .i64 (openP D).err] ∧ H = [dk d (openP D).D]) ∨ ((openP D).err = 0 ∧ ∃ lg vr, v = .tuple #[.pointer (some ⟨lg, 0, none⟩), vr, .int .i64 0] ∧ H = [lgP lg d (((openP D).recs.length : Nat) : Int) (openP D).used, rcP vr (openP D).recs, dk d (openP D).D]))) := by
 refine Leg.Does.body (n := 80) Tryz.func44 rfl rfl rfl (fun w0 F hF => sr fun _ J1 => ?_)
 iterate 3 refine PS ?_
 refine nx J1 (TC.seq fun _ J2 => sr fun _ J3 => PS ?_)
 refine tp (PV.ptrNil rfl Y51 rfl rfl) ?_
 refine nx J3 (CN (CX J2 (sr fun _ J4 => PS ?_)))
 refine tp (PV.build (cells := #[(.pointer (some ⟨d, 0, none⟩)), (.int .i64 0), (.int .i64 0)]) rfl rfl (by as_aux_lemma => kernel_rfl)) ?_
 refine XB fun b17 => ?_
 refine PS ?_
 refine nx J4 (sr fun _ J5 => PS ?_)
 refine nx J5 (TC.seq fun _ J6 => TC.block ?_)
 refine TC.loop (α := (Nat) × (List (List UInt8)) × (Int) × (Value)) (fun ⟨f, rs, used, vr⟩ => Scan D f rs used ∧ vr.oneCell' = true) (fun ⟨f, rs, used, vr⟩ => [(0, (.pointer (some ⟨d, 0, none⟩))), (2, (.pointer none)), (3, (.slice none 0 0)), (4, (.int .i64 0)), (5, (.pointer (some ⟨b17, 0, none⟩))), (6, vr)]) (fun ⟨f, rs, used, vr⟩ => [blkA b17 [(.pointer (some ⟨d, 0, none⟩)), (.int .i64 (((rs.length : Nat) : Int))), (.int .i64 (used))] 171, dk d (D), recsP 47 5 vr (rs)]) (fun ⟨f, rs, used, vr⟩ => f) (fuel0, [], 0, (.slice none 0 0))
  ⟨Scan.start D, rfl⟩ SB
  (fun _ s => sep_perm (List.Perm.trans (List.Perm.swap _ _ _) (List.Perm.cons _ (List.Perm.swap _ _ _))) (sep_recsNil 47 5 s)) (fun ⟨f, rs, used, vr⟩ hinv => ?_)
 obtain ⟨hsc, hvr⟩ := hinv
 obtain ⟨hs1, hs2, hs3, hs4, hs5⟩ := id hsc
 refine TC.block (TC.seq fun _ J7 => D1 0 mixedD ?_)
 refine PD 0 ?_
 refine PD 1 ?_
 refine PD 2 ?_
 refine FD 3 1 Y171 sz3 ?_
 refine ta 4 rfl (PV.load1 (v := (.int .i64 (((rs.length : Nat) : Int)))) rfl Y3 rfl rfl (fun _ h => h.2.1) rfl) ?_
 refine ta 5 rfl (PV.add rfl rfl rfl (wrap_i64 (by omega) (by omega))) ?_
 refine PD 6 ?_
 refine PD 7 ?_
 refine FD 8 2 Y171 sz3 ?_
 refine ta 9 rfl (PV.load1 (v := (.int .i64 (used))) rfl Y3 rfl rfl (fun _ h => h.2.1) rfl) ?_
 refine AL 10 ?_
 refine CR nm85 (stands_does d D (((rs.length : Nat) : Int) + 1) used hD (by omega) (by omega)) (SM [1]) fun vR HR hR => ?_
 rcases hR with ⟨hst, rfl, rfl⟩ | ⟨b, all, u, hst, rfl, rfl⟩
 have hss := Scan.stop hsc hst
 refine TL.nil (E1 1 (PD 11 ?_))
 refine ta 12 rfl (PV.extract (vs := [(.slice none 0 0), (.int .i64 0), (.bool false)]) rfl rfl rfl) ?_
 refine ta 13 rfl (PV.extract (vs := [(.slice none 0 0), (.int .i64 0), (.bool false)]) rfl rfl rfl) ?_
 refine ta 14 rfl (PV.extract (vs := [(.slice none 0 0), (.int .i64 0), (.bool false)]) rfl rfl rfl) ?_
 refine PD 15 ?_
 refine PD 16 ?_
 refine PD 17 ?_
 refine DN (TE.next J7 (TC.seq fun _ J8 => sr fun _ J9 => PS ?_))
 refine tp (PV.not (r := true) rfl rfl rfl) ?_
 refine nx J9 (CY (TC.exit (TE.pass (TE.miss (by decide) (TE.pass (TE.hit (TE.next J6 (TC.seq fun _ J10 => sr fun _ J11 => PS ?_))))))))
 refine PS ?_
 refine FA 2 Y171 sz3 ?_
 refine LA 1 Y3 ?_
 refine PS ?_
 refine nx J11 (TC.block ?_)
 refine TC.loop (α := (Int) × (DS)) (fun ⟨at', D'⟩ => used ≤ at' ∧ at' ≤ 2048 ∧ wipeP (2048 - used).toNat used D = wipeP (2048 - at').toNat at' D' ∧ D'.Ok ∧ D'.ws.length ≤ D.ws.length + (at' - used).toNat) (fun ⟨at', D'⟩ => [(0, (.pointer (some ⟨d, 0, none⟩))), (5, (.pointer (some ⟨b17, 0, none⟩))), (6, vr), (10, (.int .i64 (at')))]) (fun ⟨at', D'⟩ => [blkA b17 [(.pointer (some ⟨d, 0, none⟩)), (.int .i64 (((rs.length : Nat) : Int))), (.int .i64 (used))] 171, dk d (D'), recsP 47 5 vr (rs)]) (fun ⟨at', D'⟩ => (2048 - at').toNat) (used, D)
  ⟨by omega, by omega, rfl, hD, by omega⟩ SB
  (fun _ s => sep_keep [1, 0, 0] rfl s) (fun ⟨at', D'⟩ hinv => ?_)
 obtain ⟨ha1, ha2, hwi, hD', hws⟩ := hinv
 refine TC.seq fun _ J12 => sr fun _ J13 => PS ?_
 refine PS ?_
 refine TL.dec (fun h59 => ?_) (fun h59 => ?_)
 refine nx J13 (CY (CX J12 (TC.seq fun _ J14 => TC.block (TC.seq fun _ J15 => sr fun _ J16 => PS ?_))))
 refine PS ?_
 refine CR nm86 (dk_read d (D') at' hD' (by omega)) (SM [1]) fun vR HR hR => ?_
 obtain ⟨hv, rfl⟩ := hR
 subst hv
 refine tp (PV.build (cells := (u8s zs).toArray) rfl rfl (by as_aux_lemma => kernel_rfl)) ?_
 refine tp (PV.eqlBy (a := ((D').read at')) (b := zs) (m := 2) sg145 sk145 rfl sf145 sa145 sc145 (DS.read_len hD' _) (by decide) rfl rfl rfl) ?_
 refine TL.dec (fun h66 => ?_) (fun h66 => ?_)
 refine nx J16 (CY (TC.exit (TE.pass (TE.hit (TE.next J14 (TC.region (PS ?_)))))))
 refine AD ?_
 refine PS ?_
 refine TL.nil ?_
 exact TE.round ((at' + 1, D') : (Int) × (DS)) ⟨by omega, by omega, by rw [hwi]; exact wipe_skip (by omega) h66, hD', by omega⟩ (by show (2048 - (at' + 1)).toNat < (2048 - at').toNat; omega)
  SB
  (fun _ s => sep_keep [1, 0, 0] rfl s)
 refine nx J16 (CN (CX J15 (sr fun _ J17 => PS ?_)))
 refine PS ?_
 refine CQ nm87 (dk_write d (D') at' (.slice none 0 0) ([]) hD' (by omega)) (fun _ s => s) (fun _ _ _ => .inl (.inl ⟨rfl, rfl⟩)) fun vR HR hR => ?_
 obtain ⟨hv, rfl⟩ := hR
 subst hv
 refine PS ?_
 refine nx J17 (sr fun _ J18 => PS ?_)
 refine PS ?_
 refine TL.dec (fun h71 => ?_) (fun h71 => ?_)
 refine nx J18 (CY (sr fun _ J19 => ?_))
 iterate 4 refine PS ?_
 refine nx J19 (TC.ret (TE.blockRet (TE.passRet (TE.passRet (TE.blockRet (TE.passRet (WK [0] (TE.ret3 rfl rfl rfl rfl ?_))))))))
 rw [open_fail1 hss (hwi.trans (wipe_fail (by omega) h66 h71)) h71]
 exact .inl ⟨h71, rfl, rfl⟩
 refine nx J18 (CN (TC.skip (TE.blockEnd (TE.next J14 (TC.region (PS ?_))))))
 refine AD ?_
 refine PS ?_
 refine TL.nil ?_
 exact TE.round ((at' + 1, (D'.write at' []).2) : (Int) × (DS)) ⟨by omega, by omega, by rw [hwi]; exact wipe_go (by omega) h66 (by simpa using h71), DS.write_ok hD' _ _, by have := DS.write_ws (D := D') (at' := at') (bs := []); omega⟩ (by show (2048 - (at' + 1)).toNat < (2048 - at').toNat; omega)
  SB
  (fun _ s => sep_keep [1, 0, 0] rfl s)
 refine nx J13 (CN (TC.exit (TE.pass (TE.pass (TE.hit (TE.next J10 (TC.seq fun _ J20 => sr fun _ J21 => PS ?_)))))))
 refine CR nm88 (dk_sync d (D')  hD') (SM [1]) fun vR HR hR => ?_
 obtain ⟨hv, rfl⟩ := hR
 subst hv
 refine PS ?_
 refine nx J21 (sr fun _ J22 => PS ?_)
 refine PS ?_
 refine TL.dec (fun h76 => ?_) (fun h76 => ?_)
 refine nx J22 (CY (sr fun _ J23 => ?_))
 iterate 4 refine PS ?_
 refine nx J23 (TC.ret (TE.passRet (WK [0] (TE.ret3 rfl rfl rfl rfl ?_))))
 rw [open_fail2 hss (hwi.trans (wipe_end (by omega))) h76]
 exact .inl ⟨h76, rfl, rfl⟩
 refine nx J22 (CN (CX J20 (sr fun _ J24 => ?_)))
 iterate 5 refine PS ?_
 refine nx J24 (TC.ret (WK [1, 1, 0] (TE.ret3 rfl rfl rfl rfl ?_)))
 have h76' : D'.sync.1 = 0 := by omega
 rw [open_ok hss (hwi.trans (wipe_end (by omega))) h76']
 exact .inr ⟨rfl, b17, vr, rfl, rfl⟩
 have hro := standsP_room hI hD (by omega) hst
 have hfa := (standsP_facts (DS.read_len hD _) hst).1
 obtain ⟨f', rfl, hsn⟩ := Scan.next hI hD hsc hst
 refine TL.subLen 0 rfl rfl (fun hul hu => TL.nil (E1 2 (PD 11 ?_)))
 refine ta 12 rfl (PV.extract (vs := [u, (.int .i64 (all)), (.bool true)]) rfl rfl rfl) ?_
 refine ta 13 rfl (PV.extract (vs := [u, (.int .i64 (all)), (.bool true)]) rfl rfl rfl) ?_
 refine ta 14 rfl (PV.extract (vs := [u, (.int .i64 (all)), (.bool true)]) rfl rfl rfl) ?_
 refine PD 15 ?_
 refine PD 16 ?_
 refine PD 17 ?_
 refine DN (TE.next J7 (TC.seq fun _ J25 => sr fun _ J26 => PS ?_))
 refine tp (PV.not (r := false) rfl rfl rfl) ?_
 refine nx J26 (CN (CX J25 (sr fun _ J27 => PS ?_)))
 refine PS ?_
 refine TL.buildSlice (cells := #[u]) (Want.plain rfl) rfl rfl rfl Y112 in47 rfl rfl rfl (fill_one hu (by simp)) (fun b37 => ?_)
 change TL _ _ _ _ _ _ _ _ _ [blkA b37 [u] 47, subB u (b) 5, dk d (D), blkA b17 [(.pointer (some ⟨d, 0, none⟩)), (.int .i64 (((rs.length : Nat) : Int))), (.int .i64 (used))] 171, recsP 47 5 vr (rs)]
 refine TL.mono (fun _ s => sep_selR [4] rfl s) (TL.recsOpen (fun us38 => TL.append (k := 0) (m := 1) (news := [u]) (nn' := (rs).length + 1) (xs' := us38 ++ [u]) (Want.plain rfl) rfl rfl rfl Y112 in47 rfl rfl rfl rfl rfl rfl (fun _ _ => Src.rd rfl (RO 2) rfl) (List.forall_mem_cons.2 ⟨hu, fun _ h => by cases h⟩) (by simp only [maxLen]; omega) (by omega) rfl rfl (fun v38 ov38 => ?_)))
 change TL _ _ _ _ _ _ _ _ _ [own v38 ((rs).length + 1) (us38 ++ [u]) 47 1, bunch us38 (rs) 5, blkA b37 [u] 47, subB u (b) 5, dk d (D), blkA b17 [(.pointer (some ⟨d, 0, none⟩)), (.int .i64 (((rs.length : Nat) : Int))), (.int .i64 (used))] 171]
 refine TL.mono (H' := [own v38 ((rs).length + 1) (us38 ++ [u]) 47 1, bunch us38 (rs) 5, subB u (b) 5, blkA b37 [u] 47, dk d (D), blkA b17 [(.pointer (some ⟨d, 0, none⟩)), (.int .i64 (((rs.length : Nat) : Int))), (.int .i64 (used))] 171]) (fun _ s => sep_selR [0, 0, 1] rfl s) (TL.mono (fun _ s => sep_recsAdd s) (PS ?_))
 refine nx J27 (sr fun _ J28 => PS ?_)
 refine PS ?_
 refine FA 1 Y171 sz3 ?_
 refine LA 3 Y3 ?_
 refine tp (PV.to (v' := (.int .i64 ((((rs ++ [b]).length : Nat) : Int)))) (PV.add rfl rfl rfl (wrap_i64 (by omega) (by omega))) (congrArg (Value.int .i64) (by simp))) ?_
 refine PS ?_
 refine FA 1 Y171 sz3 ?_
 refine S0 3 sz3 ?_
 refine nx J28 (TC.region (PS ?_))
 refine PS ?_
 refine FA 2 Y171 sz3 ?_
 refine LA 3 Y3 ?_
 refine PS ?_
 refine AD ?_
 refine PS ?_
 refine FA 2 Y171 sz3 ?_
 refine S0 3 sz3 ?_
 refine TL.nil (TE.blockEnd ?_)
 exact TE.round ((f', rs ++ [b], used + all, v38) : (Nat) × (List (List UInt8)) × (Int) × (Value)) ⟨hsn, ov38⟩ (Nat.lt_succ_self _)
  SB
  (fun _ s => sep_keep [3, 2, 0] rfl s)
end Go.Proofs.YtohmkchalilodaaGreatDoor
end

section
namespace Wal
open Go Leg Codec Api Dsk
theorem sget_lay (s ws : Secs) (j : Int) : ∀ k, sget (layN s ws k) j = readN s ws j k
 | 0 => rfl
 | k + 1 => by
  rw [layN, readN, sget_put, sget_lay s ws j k]
  by_cases h : j = (wat ws k).1
  · rw [if_pos h, if_pos h.symm]
  · rw [if_neg h, if_neg (fun q => h q.symm)]
theorem wat_left {ws x : Secs} {k : Nat} (h : k < ws.length) : wat (ws ++ x) k = wat ws k := by simp [wat, List.getD_eq_getElem?_getD, List.getElem?_append_left h]
theorem readN_left {s ws x : Secs} {j : Int} : ∀ k, k ≤ ws.length → readN s (ws ++ x) j k = readN s ws j k
 | 0, _ => rfl
 | k + 1, h => by rw [readN, readN, wat_left (by omega), readN_left k (by omega)]
theorem readN_add (s ws : Secs) (p : Int × Sec) (j : Int) : readN s (ws ++ [p]) j (ws ++ [p]).length = if j = p.1 then p.2 else readN s ws j ws.length := by
 rw [List.length_append, List.length_cons, List.length_nil, Nat.zero_add, readN, readN_left _ (Nat.le_refl _)]
 have : wat (ws ++ [p]) ws.length = p := by simp [wat, List.getD_eq_getElem?_getD]
 rw [this]
 by_cases h : j = p.1
 · rw [if_pos h, if_pos h.symm]
 · rw [if_neg h, if_neg (fun q => h q.symm)]
def putD (D : DS) (at' : Int) (bs : List UInt8) : DS := { D with ws := D.ws ++ [(at', padS bs)], lf := if D.ar = true then D.lf - 1 else D.lf, dn := false }
theorem write_putD {D : DS} {at' : Int} {bs : List UInt8} (h1 : 0 ≤ at' ∧ at' < 2048) (h2 : bs.length ≤ 64) (h3 : D.dn = false) (h4 : D.ar = false ∨ 0 < D.lf) : D.write at' bs = (0, putD D at' bs) := by
 rw [DS.write, if_neg (by omega), if_neg]
 · rfl
 · rintro (h | ⟨h, h5⟩)
   · rw [h3] at h; cases h
   · rcases h4 with h4 | h4
     · rw [h4] at h; cases h
     · omega
theorem write_down {D : DS} {at' : Int} {bs : List UInt8} (h1 : 0 ≤ at' ∧ at' < 2048) (h2 : bs.length ≤ 64) (h4 : D.ar = true ∧ D.lf = 0) : D.write at' bs = (4, { D with dn := true }) := by
 rw [DS.write, if_neg (by omega), if_pos (.inr h4)]
theorem putD_read (D : DS) (at' : Int) (bs : List UInt8) (j : Int) : (putD D at' bs).read j = if j = at' then padS bs else D.read j := readN_add _ _ _ _
theorem putD_ok {D : DS} (h : D.Ok) {at' : Int} {bs : List UInt8} (h2 : bs.length ≤ 64) (h4 : D.ar = false ∨ 0 < D.lf) : (putD D at' bs).Ok := by
 refine ⟨h.s, h.ws.add _ (padS_len h2), ?_⟩
 have := h.lf
 show 0 ≤ (if D.ar = true then D.lf - 1 else D.lf) ∧ (if D.ar = true then D.lf - 1 else D.lf) ≤ 9223372036854775807
 split
 · rename_i h5
   rcases h4 with h4 | h4
   · rw [h4] at h5; cases h5
   · omega
 · exact this
theorem putD_in {D : DS} (h : Wal.DS.In D) {at' : Int} {bs : List UInt8} (h1 : 0 ≤ at' ∧ at' < 2048) : Wal.DS.In (putD D at' bs) := ⟨h.1, fun p hp => by
 rcases List.mem_append.1 hp with hp | hp
 · exact h.2 p hp
 · simp only [List.mem_singleton] at hp; subst hp; exact h1⟩
theorem In.put {s : Secs} (h : In s) {k : Int} {v : Sec} (h1 : 0 ≤ k ∧ k < 2048) : In (sput s k v) := by
 induction s with
 | nil => intro p hp; simp only [sput, List.mem_singleton] at hp; subst hp; exact h1
 | cons p s ih =>
  obtain ⟨a, b⟩ := p
  intro q hq
  simp only [sput] at hq
  split at hq
  · rcases List.mem_cons.1 hq with rfl | hq
    · exact h (a, b) (by simp)
    · exact h q (by simp [hq])
  · rcases List.mem_cons.1 hq with rfl | hq
    · exact h (a, b) (by simp)
    · exact ih (fun q hq => h q (by simp [hq])) q hq
theorem In.lay {s ws : Secs} (h : In s) (hw : In ws) : ∀ k, k ≤ ws.length → In (layN s ws k)
 | 0, _ => h
 | k + 1, hk => by
  have := hw (wat ws k) (by rw [wat_eq (by omega)]; exact List.getElem_mem _)
  exact (In.lay h hw k (by omega)).put this
theorem In.nil : In [] := fun _ h => absurd h (by simp)
structure Calm (D : DS) : Prop where
 ok : D.Ok
 inn : Wal.DS.In D
 ar : D.ar = false
 dn : D.dn = false
theorem sync_read {D : DS} (h : D.dn = false) (j : Int) : D.sync.2.read j = D.read j := by
 unfold DS.sync
 rw [if_neg (by simp [h])]
 exact sget_lay _ _ _ _
theorem sync_zero {D : DS} (h : D.dn = false) : D.sync.1 = 0 ∧ D.sync.2.ws = [] ∧ D.sync.2.dn = false ∧ D.sync.2.ar = D.ar ∧ D.sync.2.lf = D.lf := by
 unfold DS.sync
 rw [if_neg (by simp [h])]
 exact ⟨rfl, rfl, h, rfl, rfl⟩
theorem sync_in {D : DS} (h : Wal.DS.In D) : Wal.DS.In D.sync.2 := by
 unfold DS.sync
 split
 · exact h
 · exact ⟨h.1.lay h.2 _ (Nat.le_refl _), In.nil⟩
theorem Calm.sync {D : DS} (h : Calm D) : Calm D.sync.2 := by
 obtain ⟨_, _, h3, h4, _⟩ := sync_zero h.dn
 exact ⟨DS.sync_ok h.ok, sync_in h.inn, h4.trans h.ar, h3⟩
theorem Calm.put {D : DS} (h : Calm D) {at' : Int} {bs : List UInt8} (h1 : 0 ≤ at' ∧ at' < 2048) (h2 : bs.length ≤ 64) : Calm (putD D at' bs) := ⟨putD_ok h.ok h2 (.inl h.ar), putD_in h.inn h1, h.ar, rfl⟩
theorem padS_nil : padS [] = zs := rfl
theorem wipe_spec : ∀ (n : Nat) (at' : Int) (D : DS), Calm D → 0 ≤ at' → at' + n ≤ 2048 → ∃ D', wipeP n at' D = (0, D') ∧ Calm D' ∧ ∀ j, D'.read j = if at' ≤ j ∧ j < at' + n then zs else D.read j
 | 0, at', D, h, _, _ => ⟨D, rfl, h, fun j => by rw [if_neg (by omega)]⟩
 | n + 1, at', D, h, h0, h1 => by
  by_cases hz : D.read at' = zs
  · obtain ⟨D', e, c, r⟩ := wipe_spec n (at' + 1) D h (by omega) (by omega)
    refine ⟨D', by rw [wipeP, if_pos hz, e], c, fun j => ?_⟩
    rw [r j]
    by_cases q : j = at'
    · subst q; rw [if_neg (by omega), if_pos (by omega), hz]
    · by_cases q2 : at' + 1 ≤ j ∧ j < at' + 1 + n
      · rw [if_pos q2, if_pos (by omega)]
      · rw [if_neg q2, if_neg (by omega)]
  · have hw := write_putD (D := D) (at' := at') (bs := []) (by omega) (by simp) h.dn (.inl h.ar)
    obtain ⟨D', e, c, r⟩ := wipe_spec n (at' + 1) (putD D at' []) (h.put (by omega) (by simp)) (by omega) (by omega)
    refine ⟨D', by rw [wipeP, if_neg hz, hw, if_pos rfl, e], c, fun j => ?_⟩
    rw [r j, putD_read, padS_nil]
    by_cases q : j = at'
    · subst q; rw [if_neg (by omega), if_pos rfl, if_pos (by omega)]
    · rw [if_neg q]
      by_cases q2 : at' + 1 ≤ j ∧ j < at' + 1 + n
      · rw [if_pos q2, if_pos (by omega)]
      · rw [if_neg q2, if_neg (by omega)]
theorem scan_used {D : DS} (h : Calm D) : 0 ≤ (scanP D.read fuel0 0 0).2 ∧ (scanP D.read fuel0 0 0).2 ≤ 2048 ∧ ((scanP D.read fuel0 0 0).1.length : Int) ≤ (scanP D.read fuel0 0 0).2 := by
 have key : ∀ f rs used, Scan D f rs used → ∃ rs' used', scanP D.read fuel0 0 0 = (rs', used') ∧ 0 ≤ used' ∧ used' ≤ 2048 ∧ (rs'.length : Int) ≤ used' := by
  intro f
  induction f with
  | zero =>
   intro rs used hs
   cases hst : standsP D.read ((rs.length : Int) + 1) used with
   | none => exact ⟨rs, used, hs.stop hst, hs.2.1, hs.2.2.1, hs.2.2.2.2⟩
   | some p => obtain ⟨b, all⟩ := p; obtain ⟨f', e, _⟩ := Scan.next h.inn h.ok hs hst; omega
  | succ f ih =>
   intro rs used hs
   cases hst : standsP D.read ((rs.length : Int) + 1) used with
   | none => exact ⟨rs, used, hs.stop hst, hs.2.1, hs.2.2.1, hs.2.2.2.2⟩
   | some p =>
    obtain ⟨b, all⟩ := p
    obtain ⟨f', e, hs'⟩ := Scan.next h.inn h.ok hs hst
    obtain rfl : f = f' := by omega
    exact ih _ _ hs'
 obtain ⟨rs, used, e, h1, h2, h3⟩ := key _ _ _ (Scan.start D)
 rw [e]; exact ⟨h1, h2, h3⟩
theorem open_calm {D : DS} (h : Calm D) : ∃ D', openP D = ⟨0, (scanP D.read fuel0 0 0).1, (scanP D.read fuel0 0 0).2, D'⟩ ∧ Calm D' ∧ D'.ws = [] ∧ ∀ j, D'.read j = if (scanP D.read fuel0 0 0).2 ≤ j ∧ j < 2048 then zs else D.read j := by
 obtain ⟨h1, h2, _⟩ := scan_used h
 generalize hr : scanP D.read fuel0 0 0 = r at *
 obtain ⟨rs, used⟩ := r
 simp only at h1 h2 ⊢
 obtain ⟨D', e, c, rd⟩ := wipe_spec (2048 - used).toNat used D h h1 (by omega)
 obtain ⟨s1, s2, _⟩ := sync_zero c.dn
 refine ⟨D'.sync.2, open_ok hr e s1, c.sync, s2, fun j => ?_⟩
 rw [sync_read c.dn, rd j]
 by_cases q : used ≤ j ∧ j < 2048
 · rw [if_pos q, if_pos (by omega)]
 · rw [if_neg q, if_neg (by omega)]
def flatS : Nat → List (List UInt8) → List Sec
 | _, [] => []
 | n, b :: ls => sectorsP ((n + 1 : Nat) : Int) b ++ flatS (n + 1) ls
def sizeS (ls : List (List UInt8)) : Nat := (flatS 0 ls).length
theorem flatS_append : ∀ (a : List (List UInt8)) (n : Nat) (b : List (List UInt8)), flatS n (a ++ b) = flatS n a ++ flatS (n + a.length) b
 | [], n, b => by simp [flatS]
 | x :: a, n, b => by
  simp only [List.cons_append, flatS, flatS_append a (n + 1) b, List.append_assoc, List.length_cons]
  rw [show n + 1 + a.length = n + (a.length + 1) by omega]
theorem flatS_len : ∀ (ls : List (List UInt8)) (n m : Nat), (flatS n ls).length = (flatS m ls).length
 | [], _, _ => rfl
 | b :: ls, n, m => by simp only [flatS, List.length_append, sectorsP_len, flatS_len ls (n + 1) (m + 1)]
theorem sizeS_add (ls : List (List UInt8)) (b : List UInt8) : sizeS (ls ++ [b]) = sizeS ls + piecesN b.length := by
 simp [sizeS, flatS_append, flatS, sectorsP_len]
theorem sizeS_append (a b : List (List UInt8)) : sizeS (a ++ b) = sizeS a + sizeS b := by
 simp only [sizeS, flatS_append, List.length_append]
 rw [flatS_len b (0 + a.length) 0]
theorem sizeS_ge : ∀ ls : List (List UInt8), ls.length ≤ sizeS ls
 | [] => Nat.le_refl _
 | b :: ls => by
  have h1 := sizeS_ge ls
  have h2 := piecesN_pos b.length
  have h3 := flatS_len ls 1 0
  simp only [sizeS, flatS, List.length_append, sectorsP_len, List.length_cons, h3] at *
  omega
theorem sectorsP_get {number : Int} {b : List UInt8} {k : Nat} (h : k < (sectorsP number b).length) : (sectorsP number b)[k] = sectP number k (piecesN b.length) (partP b k) := by simp [sectorsP]
theorem sectorsP_sec (number : Int) (b : List UInt8) : ∀ s ∈ sectorsP number b, s.length = 64 := fun s hs => by
 obtain ⟨i, _, rfl⟩ := List.mem_map.1 hs
 exact sectP_len (partP_len b i)
theorem piece_sect {number : Int} {b : List UInt8} {k : Nat} (h : k < (sectorsP number b).length) (h0 : 0 ≤ number) (h1 : number < 4294967296) (hb : b.length ≤ 3000) : pieceP (sectorsP number b)[k] number k = some (partP b k, ((piecesN b.length : Nat) : Int)) := by
 rw [sectorsP_get h]
 rw [sectorsP_len] at h
 exact pieceP_sect (partP_len b k) h0 h1 h (by have := piecesN_le hb; omega)
theorem more_sect {rd : Int → Sec} {number at' : Int} {b : List UInt8} (h0 : 0 ≤ number) (h1 : number < 4294967296) (hb : b.length ≤ 3000) : ∀ k, k ≤ piecesN b.length → (∀ j (h : j < (sectorsP number b).length), j < k → rd (at' + j) = (sectorsP number b)[j]) →
 moreP rd number at' ((piecesN b.length : Nat) : Int) k = some ((List.range k).map (partP b)).flatten
 | 0, _, _ => rfl
 | k + 1, hk, h => by
  have ih := more_sect h0 h1 hb k (by omega) (fun j hj hj2 => h j hj (by omega))
  have hl : k < (sectorsP number b).length := by rw [sectorsP_len]; omega
  rw [moreP_go ih (by rw [h k hl (by omega)]; exact piece_sect hl h0 h1 hb)]
  simp [List.range_succ]
theorem stands_sect {rd : Int → Sec} {number at' : Int} {b : List UInt8} (h0 : 0 ≤ number) (h1 : number < 4294967296) (hb : b.length ≤ 3000) (h : ∀ j (h : j < (sectorsP number b).length), rd (at' + j) = (sectorsP number b)[j]) : standsP rd number at' = some (b, ((piecesN b.length : Nat) : Int)) := by
 have hl : 0 < (sectorsP number b).length := by rw [sectorsP_len]; exact piecesN_pos _
 have hp : pieceP (rd at') number 0 = some (partP b 0, ((piecesN b.length : Nat) : Int)) := by
  have e := h 0 hl
  rw [show at' + ((0 : Nat) : Int) = at' by omega] at e
  rw [e]; exact piece_sect hl h0 h1 hb
 refine standsP_some hp ?_
 rw [Int.toNat_natCast, more_sect h0 h1 hb _ (Nat.le_refl _) (fun j hj _ => h j hj), parts_all b _ (piecesN_cover _)]
def Shows (rd : Int → Sec) (at' : Int) (l : List Sec) : Prop := ∀ j (h : j < l.length), rd (at' + j) = l[j]
theorem Shows.left {rd : Int → Sec} {at' : Int} {a b : List Sec} (h : Shows rd at' (a ++ b)) : Shows rd at' a := fun j hj => by
 rw [h j (by rw [List.length_append]; omega), List.getElem_append_left hj]
theorem Shows.right {rd : Int → Sec} {at' : Int} {a b : List Sec} (h : Shows rd at' (a ++ b)) : Shows rd (at' + a.length) b := fun j hj => by
 have := h (a.length + j) (by rw [List.length_append]; omega)
 rw [show at' + ((a.length + j : Nat) : Int) = at' + a.length + j by omega] at this
 rw [this, List.getElem_append_right (by omega)]
 congr 1; omega
theorem scan_log {rd : Int → Sec} : ∀ (ls : List (List UInt8)) (n : Nat) (at' : Int) (f : Nat), (∀ b ∈ ls, b.length ≤ 3000) → n + ls.length < 4294967296 → Shows rd at' (flatS n ls) →
 scanP rd (ls.length + f) n at' = (ls ++ (scanP rd f ((n + ls.length : Nat) : Int) (at' + (flatS n ls).length)).1, (scanP rd f ((n + ls.length : Nat) : Int) (at' + (flatS n ls).length)).2)
 | [], n, at', f, _, _, _ => by simp [flatS]
 | b :: ls, n, at', f, hl, hn, h => by
  simp only [flatS] at h ⊢
  simp only [List.length_cons] at hn ⊢
  have hs := stands_sect (rd := rd) (number := ((n + 1 : Nat) : Int)) (at' := at') (by omega) (by omega) (hl b (by simp)) h.left
  have ih := scan_log (rd := rd) ls (n + 1) (at' + (sectorsP ((n + 1 : Nat) : Int) b).length) f (fun x hx => hl x (by simp [hx])) (by omega) h.right
  rw [sectorsP_len] at ih
  rw [show ls.length + 1 + f = (ls.length + f) + 1 by omega, scan_go (b := b) (all := ((piecesN b.length : Nat) : Int)) (by rw [← hs]; congr 1)]
  rw [show ((n : Nat) : Int) + 1 = ((n + 1 : Nat) : Int) by omega, ih]
  rw [List.length_append, sectorsP_len, show n + 1 + ls.length = n + (ls.length + 1) by omega, show at' + ((piecesN b.length + (flatS (n + 1) ls).length : Nat) : Int) = at' + ((piecesN b.length : Nat) : Int) + (((flatS (n + 1) ls).length : Nat) : Int) by omega]
  simp
structure LogD (D : DS) (ls : List (List UInt8)) : Prop where
 ok : D.Ok
 inn : Wal.DS.In D
 ws : D.ws = []
 short : ∀ b ∈ ls, b.length ≤ 3000
 room : sizeS ls ≤ 2048
 shows : Shows D.read 0 (flatS 0 ls)
 zero : ∀ j, ((sizeS ls : Nat) : Int) ≤ j → D.read j = zs
theorem LogD.len {D : DS} {ls : List (List UInt8)} (h : LogD D ls) : ls.length ≤ 2048 := by have := sizeS_ge ls; have := h.room; omega
theorem stands_zs {rd : Int → Sec} {number at' : Int} (h : (rd at').getD 63 0 ≠ 1) : standsP rd number at' = none := standsP_none1 (pieceP_end h)
theorem zs_end : zs.getD 63 0 ≠ 1 := by decide
theorem LogD.scan {D : DS} {ls : List (List UInt8)} (h : LogD D ls) : scanP D.read fuel0 0 0 = (ls, ((sizeS ls : Nat) : Int)) := by
 have hl := h.len
 obtain ⟨f, hf⟩ : ∃ f, fuel0 = ls.length + f := ⟨fuel0 - ls.length, by rw [fuel0_eq]; omega⟩
 have := scan_log (rd := D.read) ls 0 0 f h.short (by omega) h.shows
 rw [← hf] at this
 rw [show ((0 : Nat) : Int) = 0 from rfl] at this
 have hz := h.zero _ (Int.le_refl _)
 simp only [sizeS] at hz
 rw [this, Int.zero_add, scan_stop (stands_zs (by rw [hz]; exact zs_end))]
 simp [sizeS]
theorem LogD.new : LogD DS.new [] := ⟨DS.new_ok, ⟨In.nil, In.nil⟩, rfl, fun _ h => absurd h (by simp), by decide, fun j h => absurd h (by simp [flatS]), fun j _ => rfl⟩
theorem LogD.open {D : DS} {ls : List (List UInt8)} (h : LogD D ls) (ha : D.ar = false) (hd : D.dn = false) : ∃ D', openP D = ⟨0, ls, ((sizeS ls : Nat) : Int), D'⟩ ∧ LogD D' ls ∧ D'.ar = false ∧ D'.dn = false := by
 obtain ⟨D', e, c, hw, hr⟩ := open_calm (D := D) ⟨h.ok, h.inn, ha, hd⟩
 rw [h.scan] at e hr
 have hrd : ∀ j, D'.read j = D.read j := fun j => by
  rw [hr j]
  split
  · rename_i q; rw [h.zero j q.1]
  · rfl
 exact ⟨D', e, ⟨c.ok, c.inn, hw, h.short, h.room, fun j hj => by rw [hrd]; exact h.shows j hj, fun j hj => by rw [hrd]; exact h.zero j hj⟩, c.ar, c.dn⟩
def wsec : Int → List Sec → Secs
 | _, [] => []
 | at', s :: ss => (at', s) :: wsec (at' + 1) ss
theorem wsec_len : ∀ (ss : List Sec) (at' : Int), (wsec at' ss).length = ss.length
 | [], _ => rfl
 | s :: ss, at' => by simp [wsec, wsec_len ss]
theorem wat_wsec : ∀ (ss : List Sec) (at' : Int) (k : Nat) (h : k < ss.length), wat (wsec at' ss) k = (at' + k, ss[k])
 | s :: ss, at', 0, _ => by simp [wsec, wat]
 | s :: ss, at', k + 1, h => by
  have ih := wat_wsec ss (at' + 1) k (by simpa using h)
  simp only [wat, wsec, List.getD_cons_succ] at ih ⊢
  rw [ih]
  simp only [List.getElem_cons_succ, Prod.mk.injEq, and_true]
  omega
theorem padS_full {s : Sec} (h : s.length = 64) : padS s = s := by simp [padS, h]
theorem writes_spec : ∀ (ss : List Sec) (at' : Int) (D : DS), D.Ok → Wal.DS.In D → D.dn = false → 0 ≤ at' → at' + ss.length ≤ 2048 → (∀ s ∈ ss, s.length = 64) →
 ∃ (m : Nat) (D' : DS), m ≤ ss.length ∧ writesP ss at' D = ((if m = ss.length then 0 else 4), D') ∧ D'.Ok ∧ Wal.DS.In D' ∧ D'.s = D.s ∧ D'.ws = D.ws ++ wsec at' (ss.take m) ∧ D'.dn = decide (m < ss.length) ∧ D'.ar = D.ar ∧ (D.ar = false → m = ss.length)
 | [], at', D, h, hi, hd, _, _, _ => ⟨0, D, Nat.le_refl _, rfl, h, hi, rfl, by simp [wsec], by simp [hd], rfl, fun _ => rfl⟩
 | s :: ss, at', D, h, hi, hd, h0, h1, hs => by
  simp only [List.length_cons] at h1
  have hs1 := hs s (by simp)
  by_cases hc : D.ar = true ∧ D.lf = 0
  · have hw := write_down (D := D) (at' := at') (bs := s) (by omega) (by omega) hc
    refine ⟨0, { D with dn := true }, Nat.zero_le _, ?_, ⟨h.s, h.ws, h.lf⟩, hi, rfl, by simp [wsec], by simp, rfl, fun q => by rw [q] at hc; cases hc.1⟩
    rw [writesP, hw]; simp
  · have h4 : D.ar = false ∨ 0 < D.lf := by
     have := h.lf
     cases q : D.ar
     · exact .inl rfl
     · right
       have : D.lf ≠ 0 := fun e => hc ⟨q, e⟩
       omega
    have hw := write_putD (D := D) (at' := at') (bs := s) (by omega) (by omega) hd h4
    obtain ⟨m, D', a1, a2, a3, a4, a5, a6, a7, a8, a9⟩ := writes_spec ss (at' + 1) (putD D at' s) (putD_ok h (by omega) h4) (putD_in hi (by omega)) rfl (by omega) (by omega) (fun x hx => hs x (by simp [hx]))
    refine ⟨m + 1, D', by simp; omega, ?_, a3, a4, a5.trans rfl, ?_, by rw [a7]; simp, a8.trans rfl, fun q => by rw [a9 q]; rfl⟩
    · rw [writesP, hw]
      simp only [if_true, a2, List.length_cons, Nat.add_right_cancel_iff]
    · rw [a6]
      simp only [putD, List.take_succ_cons, wsec, padS_full hs1, List.append_assoc, List.cons_append, List.nil_append]
theorem Shows.append {rd : Int → Sec} {at' : Int} {a b : List Sec} (h : Shows rd at' a) (g : Shows rd (at' + a.length) b) : Shows rd at' (a ++ b) := fun j hj => by
 by_cases q : j < a.length
 · rw [List.getElem_append_left q]; exact h j q
 · rw [List.getElem_append_right (by omega), ← g (j - a.length) (by rw [List.length_append] at hj; omega)]
   congr 1; omega
theorem read_wsec (s : Secs) (l : List Sec) (at' j : Int) : ∀ k, k ≤ l.length → readN s (wsec at' l) j k = if at' ≤ j ∧ j < at' + k then l.getD (j - at').toNat zs else sget s j
 | 0, _ => by rw [if_neg (by omega)]; rfl
 | k + 1, hk => by
  rw [readN, wat_wsec l at' k (by omega), read_wsec s l at' j k (by omega)]
  by_cases q : at' + k = j
  · rw [if_pos q, if_pos (by omega), show (j - at').toNat = k by omega]
    simp [List.getD_eq_getElem?_getD, show k < l.length by omega]
  · rw [if_neg q]
    by_cases q2 : at' ≤ j ∧ j < at' + k
    · rw [if_pos q2, if_pos (by omega)]
    · rw [if_neg q2, if_neg (by omega)]
structure Half (D : DS) (ls : List (List UInt8)) (bs : List UInt8) : Prop where
 ok : D.Ok
 inn : Wal.DS.In D
 short : ∀ b ∈ ls, b.length ≤ 3000
 short' : bs.length ≤ 3000
 room : sizeS ls + piecesN bs.length ≤ 2048
 shows : Shows (sget D.s) 0 (flatS 0 ls)
 zero : ∀ j, ((sizeS ls : Nat) : Int) ≤ j → sget D.s j = zs
 ws : ∃ m, m ≤ piecesN bs.length ∧ D.ws = wsec ((sizeS ls : Nat) : Int) ((sectorsP ((ls.length + 1 : Nat) : Int) bs).take m)
theorem LogD.rds {D : DS} {ls : List (List UInt8)} (h : LogD D ls) (j : Int) : D.read j = sget D.s j := by rw [DS.read, h.ws]; rfl
theorem put_spec {D : DS} {ls : List (List UInt8)} {bs : List UInt8} (h : LogD D ls) (hd : D.dn = false) (hb : bs.length ≤ 3000) :
 (2048 < sizeS ls + piecesN bs.length ∧ putL D ls.length ((sizeS ls : Nat) : Int) bs = ⟨3, ls.length, ((sizeS ls : Nat) : Int), D⟩) ∨
 (sizeS ls + piecesN bs.length ≤ 2048 ∧ ∃ D', putL D ls.length ((sizeS ls : Nat) : Int) bs = ⟨0, ls.length + 1, ((sizeS (ls ++ [bs]) : Nat) : Int), D'⟩ ∧ LogD D' (ls ++ [bs]) ∧ D'.dn = false ∧ D'.ar = D.ar) ∨
 (D.ar = true ∧ ∃ D', putL D ls.length ((sizeS ls : Nat) : Int) bs = ⟨4, ls.length, ((sizeS ls : Nat) : Int), D'⟩ ∧ Half D' ls bs) := by
 have hl := h.len
 have hp := piecesN_le hb
 by_cases hr : 2048 < sizeS ls + piecesN bs.length
 · exact .inl ⟨hr, put_full (by omega) (by omega)⟩
 · right
   have hss : (sectorsP ((ls.length + 1 : Nat) : Int) bs).length = piecesN bs.length := sectorsP_len _ _
   obtain ⟨m, D', a1, a2, a3, a4, a5, a6, a7, a8, a9⟩ := writes_spec (sectorsP ((ls.length + 1 : Nat) : Int) bs) ((sizeS ls : Nat) : Int) D h.ok h.inn hd (by omega) (by rw [hss]; omega) (sectorsP_sec _ _)
   rw [hss] at a1 a2 a7 a9
   rw [h.ws, List.nil_append] at a6
   by_cases hm : m = piecesN bs.length
   · left
     subst hm
     rw [if_pos rfl] at a2
     have hdn : D'.dn = false := by rw [a7]; simp
     obtain ⟨s1, s2, s3, s4, s5⟩ := sync_zero hdn
     rw [List.take_of_length_le (by rw [hss]; exact Nat.le_refl _)] at a6
     have hrd : ∀ j, D'.sync.2.read j = if ((sizeS ls : Nat) : Int) ≤ j ∧ j < ((sizeS ls : Nat) : Int) + piecesN bs.length then (sectorsP ((ls.length + 1 : Nat) : Int) bs).getD (j - ((sizeS ls : Nat) : Int)).toNat zs else D.read j := fun j => by
      rw [sync_read hdn, DS.read, a6, wsec_len, read_wsec _ _ _ _ _ (Nat.le_refl _), hss, a5, h.rds]
     have hsz := sizeS_add ls bs
     refine ⟨by omega, D'.sync.2, ?_, ⟨DS.sync_ok a3, sync_in a4, s2, fun b hb' => ?_, by omega, ?_, fun j hj => ?_⟩, s3, s4.trans a8⟩
     · rw [put_ok (by omega) (by omega) a2 s1, hsz]
       simp only [PutR.mk.injEq, true_and, and_true]
       omega
     · rcases List.mem_append.1 hb' with hb' | hb'
       · exact h.short b hb'
       · simp only [List.mem_singleton] at hb'; subst hb'; exact hb
     · rw [flatS_append]
       refine Shows.append (fun j hj => ?_) fun j hj => ?_
       · rw [hrd, if_neg (by simp only [sizeS]; omega)]; exact h.shows j hj
       · simp only [flatS, List.append_nil, Nat.zero_add] at hj ⊢
         rw [hrd, if_pos (by simp only [sizeS]; rw [hss] at hj; omega), show (0 + (((flatS 0 ls).length : Nat) : Int) + (j : Int) - ((sizeS ls : Nat) : Int)).toNat = j by simp only [sizeS]; omega]
         rw [List.getD_eq_getElem?_getD, List.getElem?_eq_getElem hj]; rfl
     · rw [hrd, if_neg (by omega)]
       exact h.zero j (by omega)
   · right
     have har : D.ar = true := by
      cases q : D.ar
      · exact absurd (a9 q) hm
      · rfl
     rw [if_neg hm] at a2
     refine ⟨har, D', put_fail1 (by omega) (by omega) a2 (by decide), ⟨a3, a4, h.short, hb, by omega, fun j hj => ?_, fun j hj => ?_, m, a1, a6⟩⟩
     · rw [a5, ← h.rds]; exact h.shows j hj
     · rw [a5, ← h.rds]; exact h.zero j hj
end Wal
end

section
namespace Go.Proofs.YtohmkchalilodaaGreatDoor
open Go Leg Codec Api
theorem wnum_cells (wb b off cap : Nat) (v : Value) (bs : List UInt8) (l : List Int) (cs : List Value) (T : TypeId) (z : Nat × Nat) (hlen : bs.length + 10 * l.length ≤ 140737488355328) (hb : ∀ j, j < l.length → cs[off + j]? = some (.int .i64 (l.getD j 0))) :
 Leg.Does Tryz.prog 166 #[(.pointer (some ⟨wb, 0, none⟩)), (.slice (some ⟨b, off, none⟩) (l.length) (cap))] (fun F => F b = some (.cells cs.toArray T z)) [blkA wb [v] 239, ownB v (bs) 5] (WPost 239 5 wb (bs ++ encs l)) := by
 refine Leg.Does.body (n := 45) Tryz.func166 rfl rfl rfl (fun w0 F hF => sr fun _ J1 => PS ?_)
 refine nx J1 (TC.seq fun _ J2 => sr fun _ J3 => PS ?_)
 refine tp (PV.lenSl rfl Y155 rfl) ?_
 refine PS ?_
 refine nx J3 (TC.block ?_)
 refine TC.loop (α := (Nat) × (Value) × (List UInt8)) (fun ⟨k, u, laid⟩ => k ≤ l.length ∧ laid ++ encs (l.drop k) = bs ++ encs l) (fun ⟨k, u, laid⟩ => [(0, (.pointer (some ⟨wb, 0, none⟩))), (4, (.pointer none)), (8, (.slice (some ⟨b, off, none⟩) (l.length) (cap))), (9, (.int .i64 (((l.length : Nat) : Int)))), (10, (.int .i64 ((k : Nat))))]) (fun ⟨k, u, laid⟩ => [blkA wb [u] 239, ownB u (laid) 5]) (fun ⟨k, u, laid⟩ => l.length - k) (0, v, bs)
  ⟨by omega, rfl⟩ SB
  (fun _ s => s) (fun ⟨k, u, laid⟩ hinv => ?_)
 obtain ⟨hk, hL⟩ := hinv
 refine sr fun _ J4 => PS ?_
 refine TL.dec (fun h11 => ?_) (fun h11 => ?_)
 refine nx J4 (TC.seq fun _ J5 => CY (CX J5 (TC.seq fun _ J6 => TC.block (sr fun _ J7 => tp (PV.indexSl (r := off + k) rfl Y155 sz3 rfl rfl (by first | omega | decide) (by first | omega | decide) (by omega)) ?_))))
 refine tp (PV.load1 (v := (.int .i64 ((l.getD k 0)))) rfl Y3 rfl rfl (Rd.ro hF) (hb k (by omega))) ?_
 refine PS ?_
 refine nx J7 (sr fun _ J8 => PS ?_)
 refine tp (PV.convI (r := ((((l.getD k 0 % 18446744073709551616).toNat : Nat)) : Int)) rfl Y3 Tryz.underlying255 rfl (wrap_u64_nat _)) ?_
 refine PS ?_
 refine nx J8 (TC.seq fun _ J9 => TC.block ?_)
 refine TC.loop (α := (Nat) × (Value) × (List UInt8)) (fun ⟨m, u2, laid2⟩ => laid2 ++ (encU m ++ encs (l.drop (k + 1))) = bs ++ encs l) (fun ⟨m, u2, laid2⟩ => [(0, (.pointer (some ⟨wb, 0, none⟩))), (4, (.pointer none)), (7, (.int .u64 ((m : Nat)))), (8, (.slice (some ⟨b, off, none⟩) (l.length) (cap))), (9, (.int .i64 (((l.length : Nat) : Int)))), (10, (.int .i64 ((k : Nat))))]) (fun ⟨m, u2, laid2⟩ => [blkA wb [u2] 239, ownB u2 (laid2) 5]) (fun ⟨m, u2, laid2⟩ => m) ((l.getD k 0 % 18446744073709551616).toNat, u, laid)
  (by rw [← hL, encs_drop (l := l) (k := k) (by omega)]; rfl) SB
  (fun _ s => s) (fun ⟨m, u2, laid2⟩ hinv => ?_)
 have hM := hinv
 refine TC.seq fun _ J10 => sr fun _ J11 => PS ?_
 refine PS ?_
 refine TL.dec (fun h17 => ?_) (fun h17 => ?_)
 refine nx J11 (CY (CX J10 (TC.block (sr fun _ J12 => ?_))))
 iterate 3 refine PS ?_
 refine FA 0 Y239 sz47 ?_
 refine LA 0 Y47 ?_
 refine PS ?_
 refine tp (PV.convI (r := (IntKind.u8.wrap ((m : Nat) : Int))) rfl Tryz.underlying255 Y5 rfl rfl) ?_
 refine tp (PV.or (r := (((UInt8.ofNat (m % 128 + 128)).toNat : Nat) : Int)) rfl rfl rfl (or128 m)) ?_
 refine TL.buildSlice (cells := #[(.int .u8 ((((UInt8.ofNat (m % 128 + 128)).toNat : Nat) : Int)))]) (Want.plain rfl) rfl rfl rfl Y47 in5 rfl rfl rfl (by as_aux_lemma => kernel_rfl) (fun b26 => TL.append (k := 2) (news := u8s ([(UInt8.ofNat (m % 128 + 128))])) (nn' := (laid2 ++ [(UInt8.ofNat (m % 128 + 128))] : List UInt8).length) (xs' := u8s (laid2 ++ [(UInt8.ofNat (m % 128 + 128))])) (Want.plain rfl) rfl rfl rfl Y47 in5 rfl rfl rfl rfl rfl rfl (fun _ _ => Src.rd rfl (RO 0) rfl) (u8s_one [(UInt8.ofNat (m % 128 + 128))]) (by have := congrArg List.length hM; have := encs_len l; have := encU_pos m; simp only [List.length_append, maxLen] at *; omega) (by have := congrArg List.length hM; have := encs_len l; have := encU_pos m; simp only [List.length_append] at *; omega) (by simp) (u8s_append _ _).symm (fun v27 ov27 => PS ?_))
 refine FA 0 Y239 sz47 ?_
 refine TL.store1 (i := 1) (Want.plain rfl) rfl rfl rfl rfl ov27 sz47 rfl rfl (lb rfl) rfl rfl (nx J12 (TC.region (PS ?_)))
 refine tp (PV.shr (r := ((m / 128 : Nat) : Int)) rfl rfl rfl (by omega) (shr7 m)) ?_
 refine PS ?_
 refine TL.nil (TE.blockEnd ?_)
 exact TE.round ((m / 128, v27, laid2 ++ [(UInt8.ofNat (m % 128 + 128))]) : (Nat) × (Value) × (List UInt8)) (by rw [← hM, encU_hi (by omega)]; simp) (by show m / 128 < m; omega)
  SB
  (fun _ s => sep_keep [1, 1] rfl s)
 refine nx J11 (CN (TC.exit (TE.pass (TE.pass (TE.hit (TE.next J9 (TC.region ?_)))))))
 iterate 3 refine PS ?_
 refine FA 0 Y239 sz47 ?_
 refine LA 0 Y47 ?_
 refine PS ?_
 refine tp (PV.convI (r := (((UInt8.ofNat m).toNat : Nat) : Int)) rfl Tryz.underlying255 Y5 rfl (byte_lo (by omega))) ?_
 refine TL.buildSlice (cells := #[(.int .u8 ((((UInt8.ofNat m).toNat : Nat) : Int)))]) (Want.plain rfl) rfl rfl rfl Y47 in5 rfl rfl rfl (by as_aux_lemma => kernel_rfl) (fun b39 => TL.append (k := 2) (news := u8s ([(UInt8.ofNat m)])) (nn' := (laid2 ++ [(UInt8.ofNat m)] : List UInt8).length) (xs' := u8s (laid2 ++ [(UInt8.ofNat m)])) (Want.plain rfl) rfl rfl rfl Y47 in5 rfl rfl rfl rfl rfl rfl (fun _ _ => Src.rd rfl (RO 0) rfl) (u8s_one [(UInt8.ofNat m)]) (by have := congrArg List.length hM; have := encs_len l; have := encU_pos m; simp only [List.length_append, maxLen] at *; omega) (by have := congrArg List.length hM; have := encs_len l; have := encU_pos m; simp only [List.length_append] at *; omega) (by simp) (u8s_append _ _).symm (fun v40 ov40 => PS ?_))
 refine FA 0 Y239 sz47 ?_
 refine TL.store1 (i := 1) (Want.plain rfl) rfl rfl rfl rfl ov40 sz47 rfl rfl (lb rfl) rfl rfl (TL.nil (TE.blockEnd (TE.next J6 (TC.region (AD ?_)))))
 refine PS ?_
 refine TL.nil ?_
 exact TE.round ((k + 1, v40, laid2 ++ [(UInt8.ofNat m)]) : (Nat) × (Value) × (List UInt8)) ⟨by omega, by rw [← hM, encU_lo (by omega)]; simp⟩ (by show _ - _ < _ - _; omega)
  SB
  (fun _ s => sep_keep [1, 1] rfl s)
 refine nx J4 (TC.seq fun _ J13 => CN (TC.exit (TE.pass (TE.pass (TE.hit (TE.next J2 (sr fun _ J14 => PS ?_)))))))
 refine PS ?_
 refine nx J14 (TC.ret (WK [0, 0] (TE.ret1 rfl rfl ?_)))
 obtain rfl : laid = bs ++ encs l := by rw [← hL, List.drop_eq_nil_of_le (by omega)]; simp [encs]
 exact ⟨u, rfl, rfl⟩
theorem wnum_nil (wb : Nat) (v : Value) (bs : List UInt8) :
 Leg.Does Tryz.prog 166 #[(.pointer (some ⟨wb, 0, none⟩)), (.slice none 0 0)] (fun _ => True) [blkA wb [v] 239, ownB v (bs) 5] (WPost 239 5 wb (bs ++ encs [])) := by
 refine Leg.Does.body (n := 45) Tryz.func166 rfl rfl rfl (fun w0 F hF => sr fun _ J1 => PS ?_)
 refine nx J1 (TC.seq fun _ J2 => sr fun _ J3 => PS ?_)
 refine tp (PV.lenSl rfl Y155 rfl) ?_
 refine PS ?_
 refine nx J3 (TC.block ?_)
 refine TC.loop (α := Unit) (fun _u => True) (fun _u => [(0, (.pointer (some ⟨wb, 0, none⟩))), (4, (.pointer none)), (8, (.slice none 0 0)), (9, (.int .i64 0)), (10, (.int .i64 0))]) (fun _u => [blkA wb [v] 239, ownB v (bs) 5]) (fun _u => 0) ()
  trivial SB
  (fun _ s => s) (fun _u hinv => ?_)
 obtain _ := hinv
 refine sr fun _ J4 => PS ?_
 refine nx J4 (TC.seq fun _ J5 => CN (TC.exit (TE.pass (TE.pass (TE.hit (TE.next J2 (sr fun _ J6 => PS ?_)))))))
 refine PS ?_
 refine nx J6 (TC.ret (TE.ret1 rfl rfl ?_))
 exact ⟨v, rfl, by rw [encs_nil, List.append_nil]⟩
theorem wnum_does (wb : Nat) (v : Value) (bs : List UInt8) (x : Value) (l : List Int) (hlen : bs.length + 10 * l.length ≤ 140737488355328) : Leg.Does Tryz.prog 166 #[(.pointer (some ⟨wb, 0, none⟩)), x] (IsN x l) [blkA wb [v] 239, ownB v bs 5] (WPost 239 5 wb (bs ++ encs l)) := by
 refine Leg.Does.of fun F hF => ?_
 rcases id hF with ⟨rfl, rfl⟩ | ⟨b, off, cap, cs, T, z, rfl, h3, h4⟩
 · exact ⟨_, trivial, wnum_nil wb v bs⟩
 · exact ⟨_, h3, wnum_cells wb b off cap v bs l cs T z hlen h4⟩
theorem wbytes_does (wb : Nat) (v : Value) (bs : List UInt8) (hlen : bs.length ≤ 140737488355328) :
 Leg.Does Tryz.prog 171 #[(.pointer (some ⟨wb, 0, none⟩))] (fun _ => True) [blkA wb [v] 239, ownB v (bs) 5] (Ret (fun x H => ∃ u, x = u ∧ H = [blkA wb [v] 239, ownB v bs 5, ownB u bs 5])) := by
 refine Leg.Does.body (vs := [(.pointer (some ⟨wb, 0, none⟩))]) (n := 9) Tryz.func171 rfl rfl rfl (fun w0 F hF => ?_)
 refine sr fun _ J1 => ?_
 refine sg' ?_
 refine nx J1 ?_
 refine sr fun _ J2 => ?_
 refine TL.buildSlice0 (Want.plain rfl) rfl rfl rfl Y47 sz5 (fun v3 => ?_)
 change TL _ _ _ _ _ _ _ _ _ [ownB v3 ([]) 5, blkA wb [v] 239, ownB v (bs) 5]
 refine mv ?_
 refine tp (PV.nilCheck rfl rfl) ?_
 refine tp (PV.fieldAddr (r := 0) rfl Y239 rfl sz47 rfl rfl) ?_
 refine tp (PV.load1 (v := v) rfl Y47 rfl rfl (Rd.own 1 rfl rfl) rfl) ?_
 refine TL.append (k := 0) (news := u8s (bs)) (nn' := (bs : List UInt8).length) (xs' := u8s (bs)) (Want.plain rfl) rfl rfl rfl Y47 in5 rfl rfl rfl rfl rfl rfl (fun _ s => Src.own 2 rfl rfl s) (u8s_one _) (by simp only [maxLen, List.length_cons, List.length_nil]; omega) (by simp only [List.length_cons, List.length_nil]; omega) (by simp) (List.nil_append _) (fun v8 ov8 => ?_)
 change TL _ _ _ _ _ _ _ _ _ [ownB v8 (bs) 5, blkA wb [v] 239, ownB v (bs) 5]
 refine sg' ?_
 refine nx J2 ?_
 refine TC.ret ?_
 refine TE.weak (Sub.refl _) (fun _ s => sep_keep [1, 1, 0] rfl s) ?_
 refine TE.ret1 rfl rfl ?_
 exact ⟨v8, rfl, rfl⟩
theorem wview_cells (wb : Nat) (v : Value) (bs : List UInt8) (a0 a1 g0 g1 g2 g3 g4 : Int) (hlen : bs.length + 70 ≤ 140737488355328) :
 Leg.Does Tryz.prog 170 #[(.pointer (some ⟨wb, 0, none⟩)), (.agg #[(.int .i64 (a0)), (.int .i64 (a1)), (.int .i64 (g0)), (.int .i64 (g1)), (.int .i64 (g2)), (.int .i64 (g3)), (.int .i64 (g4))])] (fun _ => True) [blkA wb [v] 239, ownB v (bs) 5] (WPost 239 5 wb (bs ++ encs [a0, a1, g0, g1, g2, g3, g4])) := by
 refine Leg.Does.body (n := 15) Tryz.func170 rfl rfl rfl (fun w0 F hF => sr fun _ J1 => XB fun b3 => ?_)
 refine PS ?_
 refine nx J1 (TC.seq fun _ J2 => D1 0 mixed ?_)
 refine PD 0 ?_
 refine FD 1 0 Y85 sz3 ?_
 refine ta 2 rfl (PV.load1 (v := (.int .i64 (a0))) rfl Y3 rfl rfl (fun _ h => h.2.1) rfl) ?_
 refine FD 3 1 Y85 sz3 ?_
 refine ta 4 rfl (PV.load1 (v := (.int .i64 (a1))) rfl Y3 rfl rfl (fun _ h => h.2.1) rfl) ?_
 refine FD 7 2 Y85 sz68 ?_
 refine ta 8 rfl (PV.sliceArr rfl Y68 sz3 rfl) ?_
 refine AL 5 ?_
 refine TL.buildSlice (cells := #[(.int .i64 (a0)), (.int .i64 (a1))]) (Want.plain rfl) rfl rfl rfl Y155 in3 rfl rfl rfl (by as_aux_lemma => kernel_rfl) (fun b10 => TL.nil (E1 1 (AL 6 ?_)))
 refine CQ nm166 (wnum_does wb v (bs) (.slice (some ⟨b10, 0, none⟩) (2) (2)) [a0, a1] (by simp only [List.length_append, List.length_cons, List.length_nil, Vector.length_toList]; first | omega | (have := encs_len [a0, a1]; simp only [List.length_cons, List.length_nil] at this; omega))) (SM [2, 2]) (isN_piece 0 rfl rfl rfl rfl) fun vR HR hR => ?_
 obtain ⟨u1, rfl, rfl⟩ := hR
 refine TL.nil (E1 3 (AL 9 ?_))
 refine CQ nm166 (wnum_does wb u1 (bs ++ encs [a0, a1]) (.slice (some ⟨b3, 2, none⟩) (5) (5)) [g0, g1, g2, g3, g4] (by simp only [List.length_append, List.length_cons, List.length_nil, Vector.length_toList]; first | omega | (have := encs_len [a0, a1]; simp only [List.length_cons, List.length_nil] at this; omega))) (fun _ s => s) (isN_piece 1 rfl rfl rfl rfl) fun vR HR hR => ?_
 obtain ⟨u2, rfl, rfl⟩ := hR
 refine TL.nil (E1 3 (PD 10 ?_))
 refine DN (TE.next J2 (TC.ret (WK [0, 0] (TE.ret1 rfl rfl ?_))))
 exact ⟨_, rfl, by rw [List.append_assoc, ← encs_append]; rfl⟩
theorem wchange_cells (wb : Nat) (v : Value) (bs : List UInt8) (a0 a1 a2 : Int) (hlen : bs.length + 30 ≤ 140737488355328) :
 Leg.Does Tryz.prog 169 #[(.pointer (some ⟨wb, 0, none⟩)), (.agg #[(.int .i64 (a0)), (.int .i64 (a1)), (.int .i64 (a2))])] (fun _ => True) [blkA wb [v] 239, ownB v (bs) 5] (WPost 239 5 wb (bs ++ encs [a0, a1, a2])) := by
 refine Leg.Does.body (n := 14) Tryz.func169 rfl rfl rfl (fun w0 F hF => sr fun _ J1 => XB fun b3 => ?_)
 refine PS ?_
 refine nx J1 (sr fun _ J2 => PS ?_)
 refine FA 0 Y28 sz3 ?_
 refine LA 0 Y3 ?_
 refine FA 1 Y28 sz3 ?_
 refine LA 0 Y3 ?_
 refine FA 2 Y28 sz3 ?_
 refine LA 0 Y3 ?_
 refine TL.buildSlice (cells := #[(.int .i64 (a0)), (.int .i64 (a1)), (.int .i64 (a2))]) (Want.plain rfl) rfl rfl rfl Y155 in3 rfl rfl rfl (by as_aux_lemma => kernel_rfl) (fun b12 => CQ nm166 (wnum_does wb v (bs) (.slice (some ⟨b12, 0, none⟩) (3) (3)) [a0, a1, a2] (by simp only [List.length_append, List.length_cons, List.length_nil, Vector.length_toList]; first | omega | (have := encs_len [a0, a1]; simp only [List.length_cons, List.length_nil] at this; omega))) (SM [2, 2]) (isN_piece 0 rfl rfl rfl rfl) fun vR HR hR => ?_)
 obtain ⟨u1, rfl, rfl⟩ := hR
 refine PS ?_
 exact nx J2 (TC.ret (WK [0, 0] (TE.ret1 rfl rfl ⟨_, rfl, rfl⟩)))
theorem wballot_cells (wb : Nat) (v : Value) (bs : List UInt8) (a0 a1 : Int) (hlen : bs.length + 20 ≤ 140737488355328) :
 Leg.Does Tryz.prog 168 #[(.pointer (some ⟨wb, 0, none⟩)), (.agg #[(.int .i64 (a0)), (.int .i64 (a1))])] (fun _ => True) [blkA wb [v] 239, ownB v (bs) 5] (WPost 239 5 wb (bs ++ encs [a0, a1])) := by
 refine Leg.Does.body (n := 12) Tryz.func168 rfl rfl rfl (fun w0 F hF => sr fun _ J1 => XB fun b3 => ?_)
 refine PS ?_
 refine nx J1 (sr fun _ J2 => PS ?_)
 refine FA 0 Y90 sz3 ?_
 refine LA 0 Y3 ?_
 refine FA 1 Y90 sz3 ?_
 refine LA 0 Y3 ?_
 refine TL.buildSlice (cells := #[(.int .i64 (a0)), (.int .i64 (a1))]) (Want.plain rfl) rfl rfl rfl Y155 in3 rfl rfl rfl (by as_aux_lemma => kernel_rfl) (fun b10 => CQ nm166 (wnum_does wb v (bs) (.slice (some ⟨b10, 0, none⟩) (2) (2)) [a0, a1] (by simp only [List.length_append, List.length_cons, List.length_nil, Vector.length_toList]; first | omega | (have := encs_len [a0, a1]; simp only [List.length_cons, List.length_nil] at this; omega))) (SM [2, 2]) (isN_piece 0 rfl rfl rfl rfl) fun vR HR hR => ?_)
 obtain ⟨u1, rfl, rfl⟩ := hR
 refine PS ?_
 exact nx J2 (TC.ret (WK [0, 0] (TE.ret1 rfl rfl ⟨_, rfl, rfl⟩)))
theorem wcell_cells (wb : Nat) (v : Value) (bs : List UInt8) (a0 a1 g0 g1 g2 g3 g4 : Int) (hlen : bs.length + 70 ≤ 140737488355328) :
 Leg.Does Tryz.prog 180 #[(.pointer (some ⟨wb, 0, none⟩)), (.agg #[(.int .i64 (a0)), (.int .i64 (a1)), (.int .i64 (g0)), (.int .i64 (g1)), (.int .i64 (g2)), (.int .i64 (g3)), (.int .i64 (g4))])] (fun _ => True) [blkA wb [v] 239, ownB v (bs) 5] (Ret (fun x H => ∃ v', x = .tuple #[] ∧ H = [blkA wb [v'] 239, ownB v' (bs ++ encs [a0, a1, g0, g1, g2, g3, g4]) 5])) := by
 refine Leg.Does.body (n := 14) Tryz.func180 rfl rfl rfl (fun w0 F hF => sr fun _ J1 => XB fun b3 => ?_)
 refine nx J1 (D1 0 mixed ?_)
 refine PD 0 ?_
 refine FD 1 0 Y70 sz3 ?_
 refine ta 2 rfl (PV.load1 (v := (.int .i64 (a0))) rfl Y3 rfl rfl (fun _ h => h.2.1) rfl) ?_
 refine FD 3 1 Y70 sz3 ?_
 refine ta 4 rfl (PV.load1 (v := (.int .i64 (a1))) rfl Y3 rfl rfl (fun _ h => h.2.1) rfl) ?_
 refine FD 7 2 Y70 sz68 ?_
 refine ta 8 rfl (PV.sliceArr rfl Y68 sz3 rfl) ?_
 refine AL 5 ?_
 refine TL.buildSlice (cells := #[(.int .i64 (a0)), (.int .i64 (a1))]) (Want.plain rfl) rfl rfl rfl Y155 in3 rfl rfl rfl (by as_aux_lemma => kernel_rfl) (fun b9 => TL.nil (E1 1 (AL 6 ?_)))
 refine CQ nm166 (wnum_does wb v (bs) (.slice (some ⟨b9, 0, none⟩) (2) (2)) [a0, a1] (by simp only [List.length_append, List.length_cons, List.length_nil, Vector.length_toList]; first | omega | (have := encs_len [a0, a1]; simp only [List.length_cons, List.length_nil] at this; omega))) (SM [2, 2]) (isN_piece 0 rfl rfl rfl rfl) fun vR HR hR => ?_
 obtain ⟨u1, rfl, rfl⟩ := hR
 refine TL.nil (E1 3 (AL 9 ?_))
 refine CQ nm166 (wnum_does wb u1 (bs ++ encs [a0, a1]) (.slice (some ⟨b3, 2, none⟩) (5) (5)) [g0, g1, g2, g3, g4] (by simp only [List.length_append, List.length_cons, List.length_nil, Vector.length_toList]; first | omega | (have := encs_len [a0, a1]; simp only [List.length_cons, List.length_nil] at this; omega))) (fun _ s => s) (isN_piece 1 rfl rfl rfl rfl) fun vR HR hR => ?_
 obtain ⟨u2, rfl, rfl⟩ := hR
 refine TL.nil (E1 3 (DN (WK [0, 0] (TE.end0 rfl ?_))))
 exact ⟨_, rfl, by rw [List.append_assoc, ← encs_append]; rfl⟩
theorem wcell_does (wb : Nat) (v : Value) (bs : List UInt8) (c : CellT) (hlen : bs.length + 70 ≤ 140737488355328) : Leg.Does Tryz.prog 180 #[(.pointer (some ⟨wb, 0, none⟩)), c.val] (fun _ => True) [blkA wb [v] 239, ownB v bs 5] (Ret (fun x H => ∃ v', x = .tuple #[] ∧ H = [blkA wb [v'] 239, ownB v' (bs ++ encs c.flat) 5])) := by
 obtain ⟨i, o, g⟩ := c
 exact vec5 (p := fun g => Leg.Does Tryz.prog 180 #[(.pointer (some ⟨wb, 0, none⟩)), CellT.val ⟨i, o, g⟩] (fun _ => True) [blkA wb [v] 239, ownB v bs 5] (Ret (fun x H => ∃ v', x = .tuple #[] ∧ H = [blkA wb [v'] 239, ownB v' (bs ++ encs (CellT.flat ⟨i, o, g⟩)) 5]))) (fun a b c d e => wcell_cells wb v bs i o a b c d e hlen) g
theorem wview_does (wb : Nat) (v : Value) (bs : List UInt8) (x : ViewT) (hlen : bs.length + 70 ≤ 140737488355328) : Leg.Does Tryz.prog 170 #[(.pointer (some ⟨wb, 0, none⟩)), x.val] (fun _ => True) [blkA wb [v] 239, ownB v bs 5] (WPost 239 5 wb (bs ++ encs x.flat)) := by
 obtain ⟨i, o, g⟩ := x
 exact vec5 (p := fun g => Leg.Does Tryz.prog 170 #[(.pointer (some ⟨wb, 0, none⟩)), ViewT.val ⟨i, o, g⟩] (fun _ => True) [blkA wb [v] 239, ownB v bs 5] (WPost 239 5 wb (bs ++ encs (ViewT.flat ⟨i, o, g⟩)))) (fun a b c d e => wview_cells wb v bs i o a b c d e hlen) g
theorem wchange_does (wb : Nat) (v : Value) (bs : List UInt8) (x : ChangeT) (hlen : bs.length + 30 ≤ 140737488355328) : Leg.Does Tryz.prog 169 #[(.pointer (some ⟨wb, 0, none⟩)), x.val] (fun _ => True) [blkA wb [v] 239, ownB v bs 5] (WPost 239 5 wb (bs ++ encs x.flat)) := wchange_cells wb v bs x.kind x.who x.heir (by omega)
theorem wballot_does (wb : Nat) (v : Value) (bs : List UInt8) (x : BallotT) (hlen : bs.length + 30 ≤ 140737488355328) : Leg.Does Tryz.prog 168 #[(.pointer (some ⟨wb, 0, none⟩)), x.val] (fun _ => True) [blkA wb [v] 239, ownB v bs 5] (WPost 239 5 wb (bs ++ encs x.flat)) := wballot_cells wb v bs x.round x.who (by omega)
theorem wrow_does (wb : Nat) (v : Value) (bs : List UInt8) (x : RowT) (hlen : bs.length + 2000 ≤ 140737488355328) :
 Leg.Does Tryz.prog 167 #[(.pointer (some ⟨wb, 0, none⟩)), (.agg (ints x.flat).toArray)] (fun _ => True) [blkA wb [v] 239, ownB v (bs) 5] (WPost 239 5 wb (bs ++ encRow x)) := by
 refine Leg.Does.body (n := 50) Tryz.func167 rfl rfl rfl (fun w0 F hF => sr fun _ J1 => XB fun b3 => ?_)
 change TL _ _ _ _ _ _ _ _ _ [blkA b3 (ints x.flat) 74, blkA wb [v] 239, ownB v (bs) 5]
 refine PS ?_
 refine nx J1 (sr fun _ J2 => PS ?_)
 refine FA 0 Y74 sz3 ?_
 refine tp (PV.load1 (v := (.int .i64 (x.version))) rfl Y3 rfl rfl (RO 0) (RowT.get_version _)) ?_
 refine TL.buildSlice (cells := #[(.int .i64 (x.version))]) (Want.plain rfl) rfl rfl rfl Y155 in3 rfl rfl rfl (by as_aux_lemma => kernel_rfl) (fun b14 => CQ nm166 (wnum_does wb v (bs) (.slice (some ⟨b14, 0, none⟩) (1) (1)) [x.version] (by have := congrArg List.length (Eq.refl bs); have := encRow_len x; simp only [List.length_append, List.length_cons, List.length_nil] at *; omega)) (SM [2, 2]) (isN_piece 0 rfl rfl rfl rfl) fun vR HR hR => ?_)
 obtain ⟨u1, rfl, rfl⟩ := hR
 refine nx J2 (TC.seq fun _ J3 => sr fun _ J4 => FA 1 Y74 sz71 ?_)
 refine tp (PV.loadN (vs := ints (flats x.cells.toList)) rfl Y71 rfl sz71 rfl (RO 3) (by rw [ints_length, flats_length]; simp) (RowT.get_cells _)) ?_
 refine PS ?_
 refine nx J4 (TC.block ?_)
 refine TC.loop (α := (Nat) × (Value) × (List UInt8)) (fun ⟨k, u, laid⟩ => k ≤ 4 ∧ laid ++ (encs (flats (x.cells.toList.drop k)) ++ encHeirs x 5 0) = bs ++ encRow x) (fun ⟨k, u, laid⟩ => [(0, (.pointer (some ⟨wb, 0, none⟩))), (3, (.pointer (some ⟨b3, 0, none⟩))), (4, (.pointer none)), (17, (.agg (ints (flats x.cells.toList)).toArray)), (18, (.int .i64 ((k : Nat))))]) (fun ⟨k, u, laid⟩ => [blkA b3 (ints x.flat) 74, blkA wb [u] 239, ownB u (laid) 5]) (fun ⟨k, u, laid⟩ => 4 - k) (0, u1, bs ++ encs [x.version])
  ⟨by omega, by simp [encRow, encs]⟩ SB
  (fun _ s => sep_keep [3, 0, 0] rfl s) (fun ⟨k, u, laid⟩ hinv => ?_)
 obtain ⟨hk, hL⟩ := hinv
 have hE := hL
 rw [show encs (flats (x.cells.toList.drop k)) = encs (flats (x.cells.toList.drop k)) from rfl] at hE
 refine sr fun _ J5 => PS ?_
 refine TL.dec (fun h19 => ?_) (fun h19 => ?_)
 refine nx J5 (TC.seq fun _ J6 => CY (CX J6 (TC.seq fun _ J7 => TC.block (sr fun _ J8 => tp (PV.indexN (cs := ints (flats (x.cells.toList))) (r := k * 7) rfl Y71 Y70 rfl sz70 rfl rfl (by omega) (by omega) (by omega) (flats_get (by simp; omega))) ?_))))
 refine XA z70 fun b6 => ?_
 refine TL.store (vs := ints ((x.cells.toList)[k]'(by simp; omega)).flat) (cs' := ints ((x.cells.toList)[k]'(by simp; omega)).flat) (i := 0) (Want.plain rfl) rfl rfl rfl rfl rfl (by rw [CellT.len]; exact sz70) (ints_one _) rfl rfl (by rw [CellT.len]; exact Nat.le_refl _) (wr_whole (by rw [CellT.len]; rfl)) rfl (nx J8 (TC.region (PS ?_)))
 refine tp (PV.loadN (vs := ints ((x.cells.toList)[k]'(by simp; omega)).flat) rfl Y70 rfl sz70 rfl (RO 0) (CellT.len _) (by rw [List.drop_zero, List.take_of_length_le (by rw [CellT.len]; decide)])) ?_
 refine CR nm180 (wcell_does wb u (laid) ((x.cells.toList)[k]'(by simp; omega)) (by have := congrArg List.length hE; have := encRow_len x; have := encs_len ((x.cells.toList)[k]'(by simp; omega)).flat; rw [CellT.flat_length] at this; simp only [List.length_append] at *; omega)) (SM [2, 2]) fun vR HR hR => ?_
 obtain ⟨u2, rfl, rfl⟩ := hR
 refine TL.nil (TE.blockEnd (TE.next J7 (TC.region (AD ?_))))
 refine PS ?_
 refine TL.nil ?_
 exact TE.round ((k + 1, u2, laid ++ encs ((x.cells.toList)[k]'(by simp; omega)).flat) : (Nat) × (Value) × (List UInt8)) ⟨by omega, by rw [← hL, flats_drop (l := x.cells.toList) (k := k) (by simp; omega)]; simp⟩ (by show _ - _ < _ - _; omega)
  SB
  (fun _ s => sep_keep [3, 0, 0] rfl s)
 refine nx J5 (TC.seq fun _ J9 => CN (TC.exit (TE.pass (TE.pass (TE.hit (TE.next J3 (TC.seq fun _ J10 => sr fun _ J11 => FA 29 Y74 sz68 ?_)))))))
 refine tp (PV.loadN (vs := ints x.heir.toList) rfl Y68 rfl sz68 rfl (RO 0) (by rw [ints_length]; simp) (RowT.get_heirs _)) ?_
 refine PS ?_
 refine nx J11 (TC.block ?_)
 refine TC.loop (α := (Nat) × (Value) × (List UInt8)) (fun ⟨i, u, laid⟩ => i ≤ 5 ∧ laid ++ encHeirs x (5 - i) i = bs ++ encRow x) (fun ⟨i, u, laid⟩ => [(0, (.pointer (some ⟨wb, 0, none⟩))), (3, (.pointer (some ⟨b3, 0, none⟩))), (4, (.pointer none)), (26, (.agg (ints x.heir.toList).toArray)), (27, (.int .i64 ((i : Nat))))]) (fun ⟨i, u, laid⟩ => [blkA b3 (ints x.flat) 74, blkA wb [u] 239, ownB u (laid) 5]) (fun ⟨i, u, laid⟩ => 5 - i) (0, u, laid)
  ⟨by omega, by rw [← hL, List.drop_eq_nil_of_le (by simp; omega)]; simp [flats, encs]⟩ SB
  (fun _ s => sep_keep [0, 0, 0] rfl s) (fun ⟨i, u, laid⟩ hinv => ?_)
 obtain ⟨hi, hL⟩ := hinv
 have hE := hL
 refine sr fun _ J12 => PS ?_
 refine TL.dec (fun h28 => ?_) (fun h28 => ?_)
 refine nx J12 (TC.seq fun _ J13 => CY (CX J13 (TC.seq fun _ J14 => TC.block (sr fun _ J15 => PS ?_))))
 refine tp (PV.index1 (cs := ints x.heir.toList) (v := .int .i64 (x.heir[i]'(by omega))) (r := i) rfl Y68 Y3 rfl sz3 rfl rfl (by omega) (by omega) (by omega) (by rw [ints_get _ _ (by simp; omega)]; simp [List.getD_eq_getElem?_getD, show i < 5 by omega])) ?_
 refine PS ?_
 refine PS ?_
 refine nx J15 (sr fun _ J16 => PS ?_)
 refine PS ?_
 refine TL.buildSlice (cells := #[(.int .i64 (x.heir[i]'(by omega)))]) (Want.plain rfl) rfl rfl rfl Y155 in3 rfl rfl rfl (by as_aux_lemma => kernel_rfl) (fun b33 => CQ nm166 (wnum_does wb u (laid) (.slice (some ⟨b33, 0, none⟩) (1) (1)) [x.heir[i]'(by omega)] (by have := congrArg List.length hE; have := encRow_len x; simp only [List.length_append, List.length_cons, List.length_nil] at *; omega)) (SM [2, 2]) (isN_piece 0 rfl rfl rfl rfl) fun vR HR hR => ?_)
 obtain ⟨u2, rfl, rfl⟩ := hR
 refine nx J16 (sr fun _ J17 => PS ?_)
 refine PS ?_
 refine TL.dec (fun h36 => ?_) (fun h36 => ?_)
 refine nx J17 (CY (sr fun _ J18 => PS ?_))
 refine FA 34 Y74 sz72 ?_
 refine tp (PV.indexArr (r := 34 + i * 28) rfl Y72 sz71 rfl rfl (by omega) (by omega) (by omega)) ?_
 refine tp (PV.loadN (vs := ints (flats (x.left[i]'(by omega)).toList)) rfl Y71 rfl sz71 rfl (RO 3) (by rw [ints_length, flats_length]; simp) (RowT.get_left _ i (by omega))) ?_
 refine PS ?_
 refine nx J18 (TC.block ?_)
 refine TC.loop (α := (Nat) × (Value) × (List UInt8)) (fun ⟨k, u3, laid3⟩ => k ≤ 4 ∧ laid3 ++ (encs (flats ((x.left[i]'(by omega)).toList.drop k)) ++ encHeirs x (5 - (i + 1)) (i + 1)) = bs ++ encRow x) (fun ⟨k, u3, laid3⟩ => [(0, (.pointer (some ⟨wb, 0, none⟩))), (3, (.pointer (some ⟨b3, 0, none⟩))), (4, (.pointer none)), (26, (.agg (ints x.heir.toList).toArray)), (27, (.int .i64 ((i : Nat)))), (40, (.agg (ints (flats (x.left[i]'(by omega)).toList)).toArray)), (41, (.int .i64 ((k : Nat))))]) (fun ⟨k, u3, laid3⟩ => [blkA b3 (ints x.flat) 74, blkA wb [u3] 239, ownB u3 (laid3) 5]) (fun ⟨k, u3, laid3⟩ => 4 - k) (0, u2, laid ++ encs [x.heir[i]'(by omega)])
  ⟨by omega, by rw [← hL, encHeirs_step (i := i) (by omega), if_pos h36]; simp [encs]⟩ SB
  (fun _ s => sep_keep [3, 0, 0] rfl s) (fun ⟨k, u3, laid3⟩ hinv => ?_)
 obtain ⟨hk, hM⟩ := hinv
 have hE := hM
 refine sr fun _ J19 => PS ?_
 refine TL.dec (fun h42 => ?_) (fun h42 => ?_)
 refine nx J19 (TC.seq fun _ J20 => CY (CX J20 (TC.seq fun _ J21 => TC.block (sr fun _ J22 => tp (PV.indexN (cs := ints (flats ((x.left[i]'(by omega)).toList))) (r := k * 7) rfl Y71 Y70 rfl sz70 rfl rfl (by omega) (by omega) (by omega) (flats_get (by simp; omega))) ?_))))
 refine XA z70 fun b10 => ?_
 refine TL.store (vs := ints (((x.left[i]'(by omega)).toList)[k]'(by simp; omega)).flat) (cs' := ints (((x.left[i]'(by omega)).toList)[k]'(by simp; omega)).flat) (i := 0) (Want.plain rfl) rfl rfl rfl rfl rfl (by rw [CellT.len]; exact sz70) (ints_one _) rfl rfl (by rw [CellT.len]; exact Nat.le_refl _) (wr_whole (by rw [CellT.len]; rfl)) rfl (nx J22 (TC.region (PS ?_)))
 refine tp (PV.loadN (vs := ints (((x.left[i]'(by omega)).toList)[k]'(by simp; omega)).flat) rfl Y70 rfl sz70 rfl (RO 0) (CellT.len _) (by rw [List.drop_zero, List.take_of_length_le (by rw [CellT.len]; decide)])) ?_
 refine CR nm180 (wcell_does wb u3 (laid3) (((x.left[i]'(by omega)).toList)[k]'(by simp; omega)) (by have := congrArg List.length hE; have := encRow_len x; have := encs_len (((x.left[i]'(by omega)).toList)[k]'(by simp; omega)).flat; rw [CellT.flat_length] at this; simp only [List.length_append] at *; omega)) (SM [2, 2]) fun vR HR hR => ?_
 obtain ⟨u3, rfl, rfl⟩ := hR
 refine TL.nil (TE.blockEnd (TE.next J21 (TC.region (AD ?_))))
 refine PS ?_
 refine TL.nil ?_
 exact TE.round ((k + 1, u3, laid3 ++ encs (((x.left[i]'(by omega)).toList)[k]'(by simp; omega)).flat) : (Nat) × (Value) × (List UInt8)) ⟨by omega, by rw [← hM, flats_drop (l := (x.left[i]'(by omega)).toList) (k := k) (by simp; omega)]; simp⟩ (by show _ - _ < _ - _; omega)
  SB
  (fun _ s => sep_keep [3, 0, 0] rfl s)
 refine nx J19 (TC.seq fun _ J23 => CN (TC.exit (TE.pass (TE.pass (TE.hit (TE.blockEnd (TE.next J14 (TC.region (AD ?_)))))))))
 refine PS ?_
 refine TL.nil ?_
 exact TE.round ((i + 1, u3, laid3) : (Nat) × (Value) × (List UInt8)) ⟨by omega, by rw [← hM, List.drop_eq_nil_of_le (by simp; omega)]; simp [flats, encs]⟩ (by show _ - _ < _ - _; omega)
  SB
  (fun _ s => sep_keep [0, 0, 0] rfl s)
 refine nx J17 (CN (TC.skip (TE.blockEnd (TE.next J14 (TC.region (AD ?_))))))
 refine PS ?_
 refine TL.nil ?_
 exact TE.round ((i + 1, u2, laid ++ encs [x.heir[i]'(by omega)]) : (Nat) × (Value) × (List UInt8)) ⟨by omega, by rw [← hL, encHeirs_step (i := i) (by omega), if_neg h36]; simp [encs]⟩ (by show _ - _ < _ - _; omega)
  SB
  (fun _ s => sep_keep [3, 0, 0] rfl s)
 refine nx J12 (TC.seq fun _ J24 => CN (TC.exit (TE.pass (TE.pass (TE.hit (TE.next J10 (sr fun _ J25 => PS ?_)))))))
 refine PS ?_
 refine nx J25 (TC.ret (WK [1, 1] (TE.ret1 rfl rfl ?_)))
 obtain rfl : laid = bs ++ encRow x := by rw [← hL, show 5 - i = 0 by omega]; simp [encHeirs]
 exact ⟨u, rfl, rfl⟩
end Go.Proofs.YtohmkchalilodaaGreatDoor
end

section
namespace Go.Proofs.YtohmkchalilodaaGreatDoor
open Go Leg Codec Api
theorem encode_does (m : MsgT) :
 Leg.Does Tryz.prog 213 #[(.agg (ints m.flat).toArray)] (fun _ => True) [] (Ret (fun r' H => ∃ u, r' = u ∧ H = [ownB u (encM m) 5])) := by
 refine Leg.Does.body (n := 100) Tryz.func213 rfl rfl rfl (fun w0 F hF => sr fun _ J1 => XB fun b1 => ?_)
 change TL _ _ _ _ _ _ _ _ _ [blkA b1 (ints m.flat) 134]
 refine PS ?_
 refine nx J1 ?_
 clear J1
 refine sr fun _ J2 => XA z239 fun b4 => ?_
 refine TL.ownNil 5 (fun on => ?_)
 clear on
 refine PS ?_
 refine nx J2 ?_
 clear J2
 refine TC.seq fun _ J3 => sr fun _ J4 => FA 0 Y134 sz3 ?_
 refine tp (PV.load1 (v := (.int .i64 (m.kind))) rfl Y3 rfl rfl (RO 2) (MsgT.at_kind m rfl)) ?_
 refine nx J4 ?_
 clear J4
 refine TC.block (TC.seq fun _ J5 => TC.cut (α := Unit) (fun _u => True) (fun _u => [(1, (.pointer (some ⟨b1, 0, none⟩))), (2, (.slice none 0 0)), (3, (.pointer (some ⟨b4, 0, none⟩))), (6, (.int .i64 (m.kind))), (7, (.bool ((kRow m.kind))))]) (fun _u => [ownB (.slice none 0 0) ([]) 5, blkA b4 [(.slice none 0 0)] 239, blkA b1 (ints m.flat) 134]) (fun _u hinv => ?_) (fun tl5 => ?_))
 have _ := hinv
 refine TE.next J5 ?_
 clear J5
 refine TC.cond rfl (fun h7 => ?_) (fun h7 => ?_)
 refine D1 2 mixed ?_
 refine PD 0 ?_
 refine FD 1 0 Y134 sz3 ?_
 refine ta 2 rfl (PV.load1 (v := (.int .i64 (m.kind))) rfl Y3 rfl rfl (fun _ h => h.2.1) (MsgT.at_kind m rfl)) ?_
 refine FD 3 1 Y134 sz3 ?_
 refine ta 4 rfl (PV.load1 (v := (.int .i64 (m.whose))) rfl Y3 rfl rfl (fun _ h => h.2.1) (MsgT.at_whose m rfl)) ?_
 refine FD 7 2 Y134 sz74 ?_
 refine ta 8 rfl (PV.loadN (vs := ints m.row.flat) rfl Y74 rfl sz74 rfl (fun _ h => h.2.1) (RowT.len m.row) (MsgT.sub_row m 0 rfl (by decide) (whole (RowT.len m.row)))) ?_
 refine AL 5 ?_
 refine TL.buildSlice (cells := #[(.int .i64 (m.kind)), (.int .i64 (m.whose))]) (Want.plain rfl) rfl rfl rfl Y155 in3 rfl rfl rfl (by as_aux_lemma => kernel_rfl) (fun b16 => TL.nil (E1 3 (AL 6 ?_)))
 refine CQ nm166 (wnum_does b4 (.slice none 0 0) ([]) (.slice (some ⟨b16, 0, none⟩) (2) (2)) [m.kind, m.whose] (by simp)) (SM [2, 1]) (isN_piece 0 rfl rfl rfl rfl) fun vR HR hR => ?_
 obtain ⟨u1, rfl, rfl⟩ := hR
 refine TL.nil (E1 3 (AL 9 ?_))
 refine CR nm167 (wrow_does b4 u1 (encs [m.kind, m.whose]) m.row (by (have := encs_len [m.kind, m.whose]); simp only [BallotT.flat, ViewT.flat, ChangeT.flat, List.length_cons, List.length_nil, Vector.length_toList, List.length_append] at *; omega)) (fun _ s => s) fun vR HR hR => ?_
 obtain ⟨u2, rfl, rfl⟩ := hR
 refine TL.nil (E1 3 (DN (TE.blockEnd (TE.next J3 ?_))))
 clear J3
 refine sr fun _ J6 => PS ?_
 refine CR nm171 (wbytes_does b4 u2 (encs [m.kind, m.whose] ++ encRow m.row) (by (have := encs_len [m.kind, m.whose]); (have := encRow_len m.row); simp only [BallotT.flat, ViewT.flat, ChangeT.flat, List.length_cons, List.length_nil, Vector.length_toList, List.length_append] at *; omega)) (fun _ s => s) fun vR HR hR => ?_
 obtain ⟨_, rfl, rfl⟩ := hR
 revert vR
 intro u3
 refine PS ?_
 refine nx J6 ?_
 clear J6
 refine TC.ret (WK [2] (TE.ret1 rfl rfl ?_))
 exact ⟨_, rfl, congrArg (fun b => [ownB u3 b 5]) (show (encs [m.kind, m.whose] ++ encRow m.row) = encM m by simp [encM, encs, *])⟩
 refine sr fun _ J7 => PS ?_
 refine TL.dec (fun h22 => ?_) (fun h22 => ?_)
 refine PS ?_
 refine nx J7 ?_
 clear J7
 refine CY (TC.region (PS ?_))
 refine FA 0 Y134 sz3 ?_
 refine tp (PV.load1 (v := (.int .i64 (m.kind))) rfl Y3 rfl rfl (RO 2) (MsgT.at_kind m rfl)) ?_
 refine FA 176 Y134 sz3 ?_
 refine tp (PV.load1 (v := (.int .i64 (m.version))) rfl Y3 rfl rfl (RO 2) (MsgT.at_version m rfl)) ?_
 refine TL.buildSlice (cells := #[(.int .i64 (m.kind)), (.int .i64 (m.version))]) (Want.plain rfl) rfl rfl rfl Y155 in3 rfl rfl rfl (by as_aux_lemma => kernel_rfl) (fun b28 => CQ nm166 (wnum_does b4 (.slice none 0 0) ([]) (.slice (some ⟨b28, 0, none⟩) (2) (2)) [m.kind, m.version] (by simp)) (SM [2, 1]) (isN_piece 0 rfl rfl rfl rfl) fun vR HR hR => ?_)
 obtain ⟨u1, rfl, rfl⟩ := hR
 refine TL.nil (TE.blockEnd (TE.next J3 ?_))
 clear J3
 refine sr fun _ J8 => PS ?_
 refine CR nm171 (wbytes_does b4 u1 (encs [m.kind, m.version]) (by (have := encs_len [m.kind, m.version]); simp only [BallotT.flat, ViewT.flat, ChangeT.flat, List.length_cons, List.length_nil, Vector.length_toList, List.length_append] at *; omega)) (fun _ s => s) fun vR HR hR => ?_
 obtain ⟨_, rfl, rfl⟩ := hR
 revert vR
 intro u2
 refine PS ?_
 refine nx J8 ?_
 clear J8
 refine TC.ret (WK [2] (TE.ret1 rfl rfl ?_))
 exact ⟨_, rfl, congrArg (fun b => [ownB u2 b 5]) (show (encs [m.kind, m.version]) = encM m by simp [encM, kRow, kAsk, encs, *])⟩
 refine PS ?_
 refine nx J7 ?_
 clear J7
 refine CN (TC.seq fun _ J9 => TC.cut (α := Unit) (fun _u => True) (fun _u => [(1, (.pointer (some ⟨b1, 0, none⟩))), (2, (.slice none 0 0)), (3, (.pointer (some ⟨b4, 0, none⟩))), (6, (.int .i64 (m.kind))), (30, (.bool ((kAsk m.kind))))]) (fun _u => [ownB (.slice none 0 0) ([]) 5, blkA b4 [(.slice none 0 0)] 239, blkA b1 (ints m.flat) 134]) (fun _u hinv => ?_) (fun tl9 => ?_))
 have _ := hinv
 refine TE.next J9 ?_
 clear J9
 refine TC.cond rfl (fun h30 => ?_) (fun h30 => ?_)
 refine D1 2 mixed ?_
 refine PD 0 ?_
 refine FD 1 0 Y134 sz3 ?_
 refine ta 2 rfl (PV.load1 (v := (.int .i64 (m.kind))) rfl Y3 rfl rfl (fun _ h => h.2.1) (MsgT.at_kind m rfl)) ?_
 refine FD 3 177 Y134 sz3 ?_
 refine ta 4 rfl (PV.load1 (v := (.int .i64 (m.epoch))) rfl Y3 rfl rfl (fun _ h => h.2.1) (MsgT.at_epoch m rfl)) ?_
 refine FD 7 178 Y134 sz90 ?_
 refine ta 8 rfl (PV.loadN (vs := ints m.ballot.flat) rfl Y90 rfl sz90 rfl (fun _ h => h.2.1) (BallotT.len m.ballot) (MsgT.sub_ballot m 0 rfl (by decide) (whole (BallotT.len m.ballot)))) ?_
 refine AL 5 ?_
 refine TL.buildSlice (cells := #[(.int .i64 (m.kind)), (.int .i64 (m.epoch))]) (Want.plain rfl) rfl rfl rfl Y155 in3 rfl rfl rfl (by as_aux_lemma => kernel_rfl) (fun b38 => TL.nil (E1 3 (AL 6 ?_)))
 refine CQ nm166 (wnum_does b4 (.slice none 0 0) ([]) (.slice (some ⟨b38, 0, none⟩) (2) (2)) [m.kind, m.epoch] (by simp)) (SM [2, 1]) (isN_piece 0 rfl rfl rfl rfl) fun vR HR hR => ?_
 obtain ⟨u1, rfl, rfl⟩ := hR
 refine TL.nil (E1 3 (AL 9 ?_))
 refine CR nm168 (wballot_does b4 u1 (encs [m.kind, m.epoch]) m.ballot (by (have := encs_len [m.kind, m.epoch]); simp only [BallotT.flat, ViewT.flat, ChangeT.flat, List.length_cons, List.length_nil, Vector.length_toList, List.length_append] at *; omega)) (fun _ s => s) fun vR HR hR => ?_
 obtain ⟨u2, rfl, rfl⟩ := hR
 refine TL.nil (E1 3 (DN (TE.blockEnd (TE.next J3 ?_))))
 clear J3
 refine sr fun _ J10 => PS ?_
 refine CR nm171 (wbytes_does b4 u2 (encs [m.kind, m.epoch] ++ encs m.ballot.flat) (by (have := encs_len [m.kind, m.epoch]); (have := encs_len (m.ballot.flat)); simp only [BallotT.flat, ViewT.flat, ChangeT.flat, List.length_cons, List.length_nil, Vector.length_toList, List.length_append] at *; omega)) (fun _ s => s) fun vR HR hR => ?_
 obtain ⟨_, rfl, rfl⟩ := hR
 revert vR
 intro u3
 refine PS ?_
 refine nx J10 ?_
 clear J10
 refine TC.ret (WK [2] (TE.ret1 rfl rfl ?_))
 exact ⟨_, rfl, congrArg (fun b => [ownB u3 b 5]) (show (encs [m.kind, m.epoch] ++ encs m.ballot.flat) = encM m by simp [encM, encs, *])⟩
 refine sr fun _ J11 => PS ?_
 refine TL.dec (fun h44 => ?_) (fun h44 => ?_)
 refine PS ?_
 refine nx J11 ?_
 clear J11
 refine CY (D1 2 mixed ?_)
 refine PD 0 ?_
 refine FD 1 0 Y134 sz3 ?_
 refine ta 2 rfl (PV.load1 (v := (.int .i64 (m.kind))) rfl Y3 rfl rfl (fun _ h => h.2.1) (MsgT.at_kind m rfl)) ?_
 refine FD 3 177 Y134 sz3 ?_
 refine ta 4 rfl (PV.load1 (v := (.int .i64 (m.epoch))) rfl Y3 rfl rfl (fun _ h => h.2.1) (MsgT.at_epoch m rfl)) ?_
 refine FD 7 178 Y134 sz90 ?_
 refine ta 8 rfl (PV.loadN (vs := ints m.ballot.flat) rfl Y90 rfl sz90 rfl (fun _ h => h.2.1) (BallotT.len m.ballot) (MsgT.sub_ballot m 0 rfl (by decide) (whole (BallotT.len m.ballot)))) ?_
 refine FD 10 180 Y134 sz90 ?_
 refine ta 11 rfl (PV.loadN (vs := ints m.had.flat) rfl Y90 rfl sz90 rfl (fun _ h => h.2.1) (BallotT.len m.had) (MsgT.sub_had m 0 rfl (by decide) (whole (BallotT.len m.had)))) ?_
 refine FD 13 182 Y134 sz28 ?_
 refine ta 14 rfl (PV.loadN (vs := ints m.change.flat) rfl Y28 rfl sz28 rfl (fun _ h => h.2.1) (ChangeT.len m.change) (MsgT.sub_change m 0 rfl (by decide) (whole (ChangeT.len m.change)))) ?_
 refine AL 5 ?_
 refine TL.buildSlice (cells := #[(.int .i64 (m.kind)), (.int .i64 (m.epoch))]) (Want.plain rfl) rfl rfl rfl Y155 in3 rfl rfl rfl (by as_aux_lemma => kernel_rfl) (fun b50 => TL.nil (E1 3 (AL 6 ?_)))
 refine CQ nm166 (wnum_does b4 (.slice none 0 0) ([]) (.slice (some ⟨b50, 0, none⟩) (2) (2)) [m.kind, m.epoch] (by simp)) (SM [2, 1]) (isN_piece 0 rfl rfl rfl rfl) fun vR HR hR => ?_
 obtain ⟨u1, rfl, rfl⟩ := hR
 refine TL.nil (E1 3 (AL 9 ?_))
 refine CR nm168 (wballot_does b4 u1 (encs [m.kind, m.epoch]) m.ballot (by (have := encs_len [m.kind, m.epoch]); simp only [BallotT.flat, ViewT.flat, ChangeT.flat, List.length_cons, List.length_nil, Vector.length_toList, List.length_append] at *; omega)) (fun _ s => s) fun vR HR hR => ?_
 obtain ⟨u2, rfl, rfl⟩ := hR
 refine TL.nil (E1 3 (AL 12 ?_))
 refine CR nm168 (wballot_does b4 u2 (encs [m.kind, m.epoch] ++ encs m.ballot.flat) m.had (by (have := encs_len [m.kind, m.epoch]); (have := encs_len (m.ballot.flat)); simp only [BallotT.flat, ViewT.flat, ChangeT.flat, List.length_cons, List.length_nil, Vector.length_toList, List.length_append] at *; omega)) (fun _ s => s) fun vR HR hR => ?_
 obtain ⟨u3, rfl, rfl⟩ := hR
 refine TL.nil (E1 3 (AL 15 ?_))
 refine CR nm169 (wchange_does b4 u3 (encs [m.kind, m.epoch] ++ encs m.ballot.flat ++ encs m.had.flat) m.change (by (have := encs_len [m.kind, m.epoch]); (have := encs_len (m.ballot.flat)); (have := encs_len (m.had.flat)); simp only [BallotT.flat, ViewT.flat, ChangeT.flat, List.length_cons, List.length_nil, Vector.length_toList, List.length_append] at *; omega)) (fun _ s => s) fun vR HR hR => ?_
 obtain ⟨u4, rfl, rfl⟩ := hR
 refine TL.nil (E1 3 (DN (TE.blockEnd (TE.next J3 ?_))))
 clear J3
 refine sr fun _ J12 => PS ?_
 refine CR nm171 (wbytes_does b4 u4 (encs [m.kind, m.epoch] ++ encs m.ballot.flat ++ encs m.had.flat ++ encs m.change.flat) (by (have := encs_len [m.kind, m.epoch]); (have := encs_len (m.ballot.flat)); (have := encs_len (m.had.flat)); (have := encs_len (m.change.flat)); simp only [BallotT.flat, ViewT.flat, ChangeT.flat, List.length_cons, List.length_nil, Vector.length_toList, List.length_append] at *; omega)) (fun _ s => s) fun vR HR hR => ?_
 obtain ⟨_, rfl, rfl⟩ := hR
 revert vR
 intro u5
 refine PS ?_
 refine nx J12 ?_
 clear J12
 refine TC.ret (WK [2] (TE.ret1 rfl rfl ?_))
 exact ⟨_, rfl, congrArg (fun b => [ownB u5 b 5]) (show (encs [m.kind, m.epoch] ++ encs m.ballot.flat ++ encs m.had.flat ++ encs m.change.flat) = encM m by simp [encM, kRow, kAsk, encs, *])⟩
 refine PS ?_
 refine nx J11 ?_
 clear J11
 refine CN (sr fun _ J13 => PS ?_)
 refine TL.dec (fun h62 => ?_) (fun h62 => ?_)
 refine PS ?_
 refine nx J13 ?_
 clear J13
 refine CY (D1 2 mixed ?_)
 refine PD 0 ?_
 refine FD 1 0 Y134 sz3 ?_
 refine ta 2 rfl (PV.load1 (v := (.int .i64 (m.kind))) rfl Y3 rfl rfl (fun _ h => h.2.1) (MsgT.at_kind m rfl)) ?_
 refine FD 3 177 Y134 sz3 ?_
 refine ta 4 rfl (PV.load1 (v := (.int .i64 (m.epoch))) rfl Y3 rfl rfl (fun _ h => h.2.1) (MsgT.at_epoch m rfl)) ?_
 refine FD 7 178 Y134 sz90 ?_
 refine ta 8 rfl (PV.loadN (vs := ints m.ballot.flat) rfl Y90 rfl sz90 rfl (fun _ h => h.2.1) (BallotT.len m.ballot) (MsgT.sub_ballot m 0 rfl (by decide) (whole (BallotT.len m.ballot)))) ?_
 refine FD 10 182 Y134 sz28 ?_
 refine ta 11 rfl (PV.loadN (vs := ints m.change.flat) rfl Y28 rfl sz28 rfl (fun _ h => h.2.1) (ChangeT.len m.change) (MsgT.sub_change m 0 rfl (by decide) (whole (ChangeT.len m.change)))) ?_
 refine AL 5 ?_
 refine TL.buildSlice (cells := #[(.int .i64 (m.kind)), (.int .i64 (m.epoch))]) (Want.plain rfl) rfl rfl rfl Y155 in3 rfl rfl rfl (by as_aux_lemma => kernel_rfl) (fun b68 => TL.nil (E1 3 (AL 6 ?_)))
 refine CQ nm166 (wnum_does b4 (.slice none 0 0) ([]) (.slice (some ⟨b68, 0, none⟩) (2) (2)) [m.kind, m.epoch] (by simp)) (SM [2, 1]) (isN_piece 0 rfl rfl rfl rfl) fun vR HR hR => ?_
 obtain ⟨u1, rfl, rfl⟩ := hR
 refine TL.nil (E1 3 (AL 9 ?_))
 refine CR nm168 (wballot_does b4 u1 (encs [m.kind, m.epoch]) m.ballot (by (have := encs_len [m.kind, m.epoch]); simp only [BallotT.flat, ViewT.flat, ChangeT.flat, List.length_cons, List.length_nil, Vector.length_toList, List.length_append] at *; omega)) (fun _ s => s) fun vR HR hR => ?_
 obtain ⟨u2, rfl, rfl⟩ := hR
 refine TL.nil (E1 3 (AL 12 ?_))
 refine CR nm169 (wchange_does b4 u2 (encs [m.kind, m.epoch] ++ encs m.ballot.flat) m.change (by (have := encs_len [m.kind, m.epoch]); (have := encs_len (m.ballot.flat)); simp only [BallotT.flat, ViewT.flat, ChangeT.flat, List.length_cons, List.length_nil, Vector.length_toList, List.length_append] at *; omega)) (fun _ s => s) fun vR HR hR => ?_
 obtain ⟨u3, rfl, rfl⟩ := hR
 refine TL.nil (E1 3 (DN (TE.blockEnd (TE.next J3 ?_))))
 clear J3
 refine sr fun _ J14 => PS ?_
 refine CR nm171 (wbytes_does b4 u3 (encs [m.kind, m.epoch] ++ encs m.ballot.flat ++ encs m.change.flat) (by (have := encs_len [m.kind, m.epoch]); (have := encs_len (m.ballot.flat)); (have := encs_len (m.change.flat)); simp only [BallotT.flat, ViewT.flat, ChangeT.flat, List.length_cons, List.length_nil, Vector.length_toList, List.length_append] at *; omega)) (fun _ s => s) fun vR HR hR => ?_
 obtain ⟨_, rfl, rfl⟩ := hR
 revert vR
 intro u4
 refine PS ?_
 refine nx J14 ?_
 clear J14
 refine TC.ret (WK [2] (TE.ret1 rfl rfl ?_))
 exact ⟨_, rfl, congrArg (fun b => [ownB u4 b 5]) (show (encs [m.kind, m.epoch] ++ encs m.ballot.flat ++ encs m.change.flat) = encM m by simp [encM, kRow, kAsk, encs, *])⟩
 refine PS ?_
 refine nx J13 ?_
 clear J13
 refine CN (sr fun _ J15 => PS ?_)
 refine TL.dec (fun h77 => ?_) (fun h77 => ?_)
 refine PS ?_
 refine nx J15 ?_
 clear J15
 refine CY (D1 2 mixed ?_)
 refine PD 0 ?_
 refine FD 1 0 Y134 sz3 ?_
 refine ta 2 rfl (PV.load1 (v := (.int .i64 (m.kind))) rfl Y3 rfl rfl (fun _ h => h.2.1) (MsgT.at_kind m rfl)) ?_
 refine FD 5 185 Y134 sz85 ?_
 refine ta 6 rfl (PV.loadN (vs := ints m.view.flat) rfl Y85 rfl sz85 rfl (fun _ h => h.2.1) (ViewT.len m.view) (MsgT.sub_view m 0 rfl (by decide) (whole (ViewT.len m.view)))) ?_
 refine AL 3 ?_
 refine TL.buildSlice (cells := #[(.int .i64 (m.kind))]) (Want.plain rfl) rfl rfl rfl Y155 in3 rfl rfl rfl (by as_aux_lemma => kernel_rfl) (fun b81 => TL.nil (E1 3 (AL 4 ?_)))
 refine CQ nm166 (wnum_does b4 (.slice none 0 0) ([]) (.slice (some ⟨b81, 0, none⟩) (1) (1)) [m.kind] (by simp)) (SM [2, 1]) (isN_piece 0 rfl rfl rfl rfl) fun vR HR hR => ?_
 obtain ⟨u1, rfl, rfl⟩ := hR
 refine TL.nil (E1 3 (AL 7 ?_))
 refine CR nm170 (wview_does b4 u1 (encs [m.kind]) m.view (by (have := encs_len [m.kind]); simp only [BallotT.flat, ViewT.flat, ChangeT.flat, List.length_cons, List.length_nil, Vector.length_toList, List.length_append] at *; omega)) (fun _ s => s) fun vR HR hR => ?_
 obtain ⟨u2, rfl, rfl⟩ := hR
 refine TL.nil (E1 3 (DN (TE.blockEnd (TE.next J3 ?_))))
 clear J3
 refine sr fun _ J16 => PS ?_
 refine CR nm171 (wbytes_does b4 u2 (encs [m.kind] ++ encs m.view.flat) (by (have := encs_len [m.kind]); (have := encs_len (m.view.flat)); simp only [BallotT.flat, ViewT.flat, ChangeT.flat, List.length_cons, List.length_nil, Vector.length_toList, List.length_append] at *; omega)) (fun _ s => s) fun vR HR hR => ?_
 obtain ⟨_, rfl, rfl⟩ := hR
 revert vR
 intro u3
 refine PS ?_
 refine nx J16 ?_
 clear J16
 refine TC.ret (WK [2] (TE.ret1 rfl rfl ?_))
 exact ⟨_, rfl, congrArg (fun b => [ownB u3 b 5]) (show (encs [m.kind] ++ encs m.view.flat) = encM m by simp [encM, kRow, kAsk, encs, *])⟩
 refine PS ?_
 refine nx J15 ?_
 clear J15
 refine CN (sr fun _ J17 => PS ?_)
 refine TL.dec (fun h87 => ?_) (fun h87 => ?_)
 refine PS ?_
 refine nx J17 ?_
 clear J17
 refine CY (D1 2 mixed ?_)
 refine PD 0 ?_
 refine FD 1 0 Y134 sz3 ?_
 refine ta 2 rfl (PV.load1 (v := (.int .i64 (m.kind))) rfl Y3 rfl rfl (fun _ h => h.2.1) (MsgT.at_kind m rfl)) ?_
 refine FD 3 1 Y134 sz3 ?_
 refine ta 4 rfl (PV.load1 (v := (.int .i64 (m.whose))) rfl Y3 rfl rfl (fun _ h => h.2.1) (MsgT.at_whose m rfl)) ?_
 refine FD 7 185 Y134 sz85 ?_
 refine ta 8 rfl (PV.loadN (vs := ints m.view.flat) rfl Y85 rfl sz85 rfl (fun _ h => h.2.1) (ViewT.len m.view) (MsgT.sub_view m 0 rfl (by decide) (whole (ViewT.len m.view)))) ?_
 refine AL 5 ?_
 refine TL.buildSlice (cells := #[(.int .i64 (m.kind)), (.int .i64 (m.whose))]) (Want.plain rfl) rfl rfl rfl Y155 in3 rfl rfl rfl (by as_aux_lemma => kernel_rfl) (fun b93 => TL.nil (E1 3 (AL 6 ?_)))
 refine CQ nm166 (wnum_does b4 (.slice none 0 0) ([]) (.slice (some ⟨b93, 0, none⟩) (2) (2)) [m.kind, m.whose] (by simp)) (SM [2, 1]) (isN_piece 0 rfl rfl rfl rfl) fun vR HR hR => ?_
 obtain ⟨u1, rfl, rfl⟩ := hR
 refine TL.nil (E1 3 (AL 9 ?_))
 refine CR nm170 (wview_does b4 u1 (encs [m.kind, m.whose]) m.view (by (have := encs_len [m.kind, m.whose]); simp only [BallotT.flat, ViewT.flat, ChangeT.flat, List.length_cons, List.length_nil, Vector.length_toList, List.length_append] at *; omega)) (fun _ s => s) fun vR HR hR => ?_
 obtain ⟨u2, rfl, rfl⟩ := hR
 refine TL.nil (E1 3 (DN (TE.blockEnd (TE.next J3 ?_))))
 clear J3
 refine sr fun _ J18 => PS ?_
 refine CR nm171 (wbytes_does b4 u2 (encs [m.kind, m.whose] ++ encs m.view.flat) (by (have := encs_len [m.kind, m.whose]); (have := encs_len (m.view.flat)); simp only [BallotT.flat, ViewT.flat, ChangeT.flat, List.length_cons, List.length_nil, Vector.length_toList, List.length_append] at *; omega)) (fun _ s => s) fun vR HR hR => ?_
 obtain ⟨_, rfl, rfl⟩ := hR
 revert vR
 intro u3
 refine PS ?_
 refine nx J18 ?_
 clear J18
 refine TC.ret (WK [2] (TE.ret1 rfl rfl ?_))
 exact ⟨_, rfl, congrArg (fun b => [ownB u3 b 5]) (show (encs [m.kind, m.whose] ++ encs m.view.flat) = encM m by simp [encM, kRow, kAsk, encs, *])⟩
 refine PS ?_
 refine nx J17 ?_
 clear J17
 refine CN (TC.skip (TE.blockEnd (TE.next J3 ?_)))
 clear J3
 refine sr fun _ J19 => PS ?_
 refine CR nm171 (wbytes_does b4 (.slice none 0 0) ([]) (by simp)) (SM [1, 0]) fun vR HR hR => ?_
 obtain ⟨_, rfl, rfl⟩ := hR
 revert vR
 intro u1
 refine PS ?_
 refine nx J19 ?_
 clear J19
 refine TC.ret (WK [2] (TE.ret1 rfl rfl ?_))
 exact ⟨_, rfl, congrArg (fun b => [ownB u1 b 5]) (show ([] : List UInt8) = encM m by simp [encM, encs, *])⟩
 clear J9
 refine sr fun _ J20 => PS ?_
 refine PS ?_
 refine TL.dec (fun h30 => ?_) (fun h30 => ?_)
 refine nx J20 ?_
 clear J20
 refine CY (TC.skip ?_)
 exact TE.weak
  (Sub.r (Sub.r (Sub.r (Sub.r (Sub.cons rfl (by simp [kAsk, *]) SB)))))
  (fun _ s => s)
  (tl9 (() : Unit) trivial)
 refine nx J20 ?_
 clear J20
 refine CN (TC.region (PS ?_))
 refine TL.dec (fun h32 => ?_) (fun h32 => ?_)
 refine PS ?_
 refine TL.nil ?_
 exact TE.weak
  (Sub.r (Sub.r (Sub.r (Sub.r (Sub.cons rfl (by simp [kAsk, *]) SB)))))
  (fun _ s => s)
  (tl9 (() : Unit) trivial)
 refine PS ?_
 refine TL.nil ?_
 exact TE.weak
  (Sub.r (Sub.r (Sub.r (Sub.r (Sub.cons rfl (by simp [kAsk, *]) SB)))))
  (fun _ s => s)
  (tl9 (() : Unit) trivial)
 clear J5
 refine sr fun _ J21 => PS ?_
 refine PS ?_
 refine TL.dec (fun h7 => ?_) (fun h7 => ?_)
 refine nx J21 ?_
 clear J21
 refine CY (TC.skip ?_)
 exact TE.weak
  (Sub.r (Sub.r (Sub.r (Sub.r (Sub.cons rfl (by simp [kRow, *]) SB)))))
  (fun _ s => s)
  (tl5 (() : Unit) trivial)
 refine nx J21 ?_
 clear J21
 refine CN (sr fun _ J22 => PS ?_)
 refine PS ?_
 refine TL.dec (fun h7 => ?_) (fun h7 => ?_)
 refine nx J22 ?_
 clear J22
 refine CY (TC.skip ?_)
 exact TE.weak
  (Sub.r (Sub.r (Sub.r (Sub.r (Sub.cons rfl (by simp [kRow, *]) SB)))))
  (fun _ s => s)
  (tl5 (() : Unit) trivial)
 refine nx J22 ?_
 clear J22
 refine CN (TC.region (PS ?_))
 refine TL.dec (fun h10 => ?_) (fun h10 => ?_)
 refine PS ?_
 refine TL.nil ?_
 exact TE.weak
  (Sub.r (Sub.r (Sub.r (Sub.r (Sub.cons rfl (by simp [kRow, *]) SB)))))
  (fun _ s => s)
  (tl5 (() : Unit) trivial)
 refine PS ?_
 refine TL.nil ?_
 exact TE.weak
  (Sub.r (Sub.r (Sub.r (Sub.r (Sub.cons rfl (by simp [kRow, *]) SB)))))
  (fun _ s => s)
  (tl5 (() : Unit) trivial)
theorem record_does (m : RecT) :
 Leg.Does Tryz.prog 148 #[(.agg (ints m.flat).toArray)] (fun _ => True) [] (Ret (fun r' H => ∃ u, r' = u ∧ H = [ownB u (encR m) 5])) := by
 refine Leg.Does.body (n := 77) Tryz.func148 rfl rfl rfl (fun w0 F hF => sr fun _ J1 => XB fun b1 => ?_)
 change TL _ _ _ _ _ _ _ _ _ [blkA b1 (ints m.flat) 118]
 refine PS ?_
 refine nx J1 ?_
 clear J1
 refine sr fun _ J2 => XA z239 fun b4 => ?_
 refine TL.ownNil 5 (fun on => ?_)
 clear on
 refine PS ?_
 refine nx J2 ?_
 clear J2
 refine TC.seq fun _ J3 => sr fun _ J4 => FA 0 Y118 sz3 ?_
 refine tp (PV.load1 (v := (.int .i64 (m.kind))) rfl Y3 rfl rfl (RO 2) (RecT.at_kind m rfl)) ?_
 refine nx J4 ?_
 clear J4
 refine TC.block (sr fun _ J5 => PS ?_)
 refine TL.dec (fun h8 => ?_) (fun h8 => ?_)
 refine PS ?_
 refine nx J5 ?_
 clear J5
 refine CY (D1 2 mixed ?_)
 refine PD 0 ?_
 refine FD 1 0 Y118 sz3 ?_
 refine ta 2 rfl (PV.load1 (v := (.int .i64 (m.kind))) rfl Y3 rfl rfl (fun _ h => h.2.1) (RecT.at_kind m rfl)) ?_
 refine FD 5 2 Y118 sz74 ?_
 refine ta 6 rfl (PV.loadN (vs := ints m.row.flat) rfl Y74 rfl sz74 rfl (fun _ h => h.2.1) (RowT.len m.row) (RecT.sub_row m 0 rfl (by decide) (whole (RowT.len m.row)))) ?_
 refine AL 3 ?_
 refine TL.buildSlice (cells := #[(.int .i64 (m.kind))]) (Want.plain rfl) rfl rfl rfl Y155 in3 rfl rfl rfl (by as_aux_lemma => kernel_rfl) (fun b12 => TL.nil (E1 3 (AL 4 ?_)))
 refine CQ nm166 (wnum_does b4 (.slice none 0 0) ([]) (.slice (some ⟨b12, 0, none⟩) (1) (1)) [m.kind] (by simp)) (SM [2, 1]) (isN_piece 0 rfl rfl rfl rfl) fun vR HR hR => ?_
 obtain ⟨u1, rfl, rfl⟩ := hR
 refine TL.nil (E1 3 (AL 7 ?_))
 refine CR nm167 (wrow_does b4 u1 (encs [m.kind]) m.row (by (have := encs_len [m.kind]); simp only [BallotT.flat, ViewT.flat, ChangeT.flat, List.length_cons, List.length_nil, Vector.length_toList, List.length_append] at *; omega)) (fun _ s => s) fun vR HR hR => ?_
 obtain ⟨u2, rfl, rfl⟩ := hR
 refine TL.nil (E1 3 (DN (TE.blockEnd (TE.next J3 ?_))))
 clear J3
 refine sr fun _ J6 => PS ?_
 refine CR nm171 (wbytes_does b4 u2 (encs [m.kind] ++ encRow m.row) (by (have := encs_len [m.kind]); (have := encRow_len m.row); simp only [BallotT.flat, ViewT.flat, ChangeT.flat, List.length_cons, List.length_nil, Vector.length_toList, List.length_append] at *; omega)) (fun _ s => s) fun vR HR hR => ?_
 obtain ⟨_, rfl, rfl⟩ := hR
 revert vR
 intro u3
 refine PS ?_
 refine nx J6 ?_
 clear J6
 refine TC.ret (WK [2] (TE.ret1 rfl rfl ?_))
 exact ⟨_, rfl, congrArg (fun b => [ownB u3 b 5]) (show (encs [m.kind] ++ encRow m.row) = encR m by simp [encR, kRow, kAsk, encs, *])⟩
 refine PS ?_
 refine nx J5 ?_
 clear J5
 refine CN (sr fun _ J7 => PS ?_)
 refine TL.dec (fun h18 => ?_) (fun h18 => ?_)
 refine PS ?_
 refine nx J7 ?_
 clear J7
 refine CY (D1 2 mixed ?_)
 refine PD 0 ?_
 refine FD 1 0 Y118 sz3 ?_
 refine ta 2 rfl (PV.load1 (v := (.int .i64 (m.kind))) rfl Y3 rfl rfl (fun _ h => h.2.1) (RecT.at_kind m rfl)) ?_
 refine FD 3 1 Y118 sz3 ?_
 refine ta 4 rfl (PV.load1 (v := (.int .i64 (m.whose))) rfl Y3 rfl rfl (fun _ h => h.2.1) (RecT.at_whose m rfl)) ?_
 refine FD 7 2 Y118 sz74 ?_
 refine ta 8 rfl (PV.loadN (vs := ints m.row.flat) rfl Y74 rfl sz74 rfl (fun _ h => h.2.1) (RowT.len m.row) (RecT.sub_row m 0 rfl (by decide) (whole (RowT.len m.row)))) ?_
 refine AL 5 ?_
 refine TL.buildSlice (cells := #[(.int .i64 (m.kind)), (.int .i64 (m.whose))]) (Want.plain rfl) rfl rfl rfl Y155 in3 rfl rfl rfl (by as_aux_lemma => kernel_rfl) (fun b24 => TL.nil (E1 3 (AL 6 ?_)))
 refine CQ nm166 (wnum_does b4 (.slice none 0 0) ([]) (.slice (some ⟨b24, 0, none⟩) (2) (2)) [m.kind, m.whose] (by simp)) (SM [2, 1]) (isN_piece 0 rfl rfl rfl rfl) fun vR HR hR => ?_
 obtain ⟨u1, rfl, rfl⟩ := hR
 refine TL.nil (E1 3 (AL 9 ?_))
 refine CR nm167 (wrow_does b4 u1 (encs [m.kind, m.whose]) m.row (by (have := encs_len [m.kind, m.whose]); simp only [BallotT.flat, ViewT.flat, ChangeT.flat, List.length_cons, List.length_nil, Vector.length_toList, List.length_append] at *; omega)) (fun _ s => s) fun vR HR hR => ?_
 obtain ⟨u2, rfl, rfl⟩ := hR
 refine TL.nil (E1 3 (DN (TE.blockEnd (TE.next J3 ?_))))
 clear J3
 refine sr fun _ J8 => PS ?_
 refine CR nm171 (wbytes_does b4 u2 (encs [m.kind, m.whose] ++ encRow m.row) (by (have := encs_len [m.kind, m.whose]); (have := encRow_len m.row); simp only [BallotT.flat, ViewT.flat, ChangeT.flat, List.length_cons, List.length_nil, Vector.length_toList, List.length_append] at *; omega)) (fun _ s => s) fun vR HR hR => ?_
 obtain ⟨_, rfl, rfl⟩ := hR
 revert vR
 intro u3
 refine PS ?_
 refine nx J8 ?_
 clear J8
 refine TC.ret (WK [2] (TE.ret1 rfl rfl ?_))
 exact ⟨_, rfl, congrArg (fun b => [ownB u3 b 5]) (show (encs [m.kind, m.whose] ++ encRow m.row) = encR m by simp [encR, kRow, kAsk, encs, *])⟩
 refine PS ?_
 refine nx J7 ?_
 clear J7
 refine CN (sr fun _ J9 => PS ?_)
 refine TL.dec (fun h30 => ?_) (fun h30 => ?_)
 refine PS ?_
 refine nx J9 ?_
 clear J9
 refine CY (TC.region (PS ?_))
 refine FA 0 Y118 sz3 ?_
 refine tp (PV.load1 (v := (.int .i64 (m.kind))) rfl Y3 rfl rfl (RO 2) (RecT.at_kind m rfl)) ?_
 refine FA 1 Y118 sz3 ?_
 refine tp (PV.load1 (v := (.int .i64 (m.whose))) rfl Y3 rfl rfl (RO 2) (RecT.at_whose m rfl)) ?_
 refine TL.buildSlice (cells := #[(.int .i64 (m.kind)), (.int .i64 (m.whose))]) (Want.plain rfl) rfl rfl rfl Y155 in3 rfl rfl rfl (by as_aux_lemma => kernel_rfl) (fun b36 => CQ nm166 (wnum_does b4 (.slice none 0 0) ([]) (.slice (some ⟨b36, 0, none⟩) (2) (2)) [m.kind, m.whose] (by simp)) (SM [2, 1]) (isN_piece 0 rfl rfl rfl rfl) fun vR HR hR => ?_)
 obtain ⟨u1, rfl, rfl⟩ := hR
 refine TL.nil (TE.blockEnd (TE.next J3 ?_))
 clear J3
 refine sr fun _ J10 => PS ?_
 refine CR nm171 (wbytes_does b4 u1 (encs [m.kind, m.whose]) (by (have := encs_len [m.kind, m.whose]); simp only [BallotT.flat, ViewT.flat, ChangeT.flat, List.length_cons, List.length_nil, Vector.length_toList, List.length_append] at *; omega)) (fun _ s => s) fun vR HR hR => ?_
 obtain ⟨_, rfl, rfl⟩ := hR
 revert vR
 intro u2
 refine PS ?_
 refine nx J10 ?_
 clear J10
 refine TC.ret (WK [2] (TE.ret1 rfl rfl ?_))
 exact ⟨_, rfl, congrArg (fun b => [ownB u2 b 5]) (show (encs [m.kind, m.whose]) = encR m by simp [encR, kRow, kAsk, encs, *])⟩
 refine PS ?_
 refine nx J9 ?_
 clear J9
 refine CN (sr fun _ J11 => PS ?_)
 refine TL.dec (fun h39 => ?_) (fun h39 => ?_)
 refine PS ?_
 refine nx J11 ?_
 clear J11
 refine CY (D1 2 mixed ?_)
 refine PD 0 ?_
 refine FD 1 0 Y118 sz3 ?_
 refine ta 2 rfl (PV.load1 (v := (.int .i64 (m.kind))) rfl Y3 rfl rfl (fun _ h => h.2.1) (RecT.at_kind m rfl)) ?_
 refine FD 3 176 Y118 sz3 ?_
 refine ta 4 rfl (PV.load1 (v := (.int .i64 (m.epoch))) rfl Y3 rfl rfl (fun _ h => h.2.1) (RecT.at_epoch m rfl)) ?_
 refine FD 7 177 Y118 sz90 ?_
 refine ta 8 rfl (PV.loadN (vs := ints m.ballot.flat) rfl Y90 rfl sz90 rfl (fun _ h => h.2.1) (BallotT.len m.ballot) (RecT.sub_ballot m 0 rfl (by decide) (whole (BallotT.len m.ballot)))) ?_
 refine AL 5 ?_
 refine TL.buildSlice (cells := #[(.int .i64 (m.kind)), (.int .i64 (m.epoch))]) (Want.plain rfl) rfl rfl rfl Y155 in3 rfl rfl rfl (by as_aux_lemma => kernel_rfl) (fun b45 => TL.nil (E1 3 (AL 6 ?_)))
 refine CQ nm166 (wnum_does b4 (.slice none 0 0) ([]) (.slice (some ⟨b45, 0, none⟩) (2) (2)) [m.kind, m.epoch] (by simp)) (SM [2, 1]) (isN_piece 0 rfl rfl rfl rfl) fun vR HR hR => ?_
 obtain ⟨u1, rfl, rfl⟩ := hR
 refine TL.nil (E1 3 (AL 9 ?_))
 refine CR nm168 (wballot_does b4 u1 (encs [m.kind, m.epoch]) m.ballot (by (have := encs_len [m.kind, m.epoch]); simp only [BallotT.flat, ViewT.flat, ChangeT.flat, List.length_cons, List.length_nil, Vector.length_toList, List.length_append] at *; omega)) (fun _ s => s) fun vR HR hR => ?_
 obtain ⟨u2, rfl, rfl⟩ := hR
 refine TL.nil (E1 3 (DN (TE.blockEnd (TE.next J3 ?_))))
 clear J3
 refine sr fun _ J12 => PS ?_
 refine CR nm171 (wbytes_does b4 u2 (encs [m.kind, m.epoch] ++ encs m.ballot.flat) (by (have := encs_len [m.kind, m.epoch]); (have := encs_len (m.ballot.flat)); simp only [BallotT.flat, ViewT.flat, ChangeT.flat, List.length_cons, List.length_nil, Vector.length_toList, List.length_append] at *; omega)) (fun _ s => s) fun vR HR hR => ?_
 obtain ⟨_, rfl, rfl⟩ := hR
 revert vR
 intro u3
 refine PS ?_
 refine nx J12 ?_
 clear J12
 refine TC.ret (WK [2] (TE.ret1 rfl rfl ?_))
 exact ⟨_, rfl, congrArg (fun b => [ownB u3 b 5]) (show (encs [m.kind, m.epoch] ++ encs m.ballot.flat) = encR m by simp [encR, kRow, kAsk, encs, *])⟩
 refine PS ?_
 refine nx J11 ?_
 clear J11
 refine CN (sr fun _ J13 => PS ?_)
 refine TL.dec (fun h51 => ?_) (fun h51 => ?_)
 refine PS ?_
 refine nx J13 ?_
 clear J13
 refine CY (D1 2 mixed ?_)
 refine PD 0 ?_
 refine FD 1 0 Y118 sz3 ?_
 refine ta 2 rfl (PV.load1 (v := (.int .i64 (m.kind))) rfl Y3 rfl rfl (fun _ h => h.2.1) (RecT.at_kind m rfl)) ?_
 refine FD 3 176 Y118 sz3 ?_
 refine ta 4 rfl (PV.load1 (v := (.int .i64 (m.epoch))) rfl Y3 rfl rfl (fun _ h => h.2.1) (RecT.at_epoch m rfl)) ?_
 refine FD 7 177 Y118 sz90 ?_
 refine ta 8 rfl (PV.loadN (vs := ints m.ballot.flat) rfl Y90 rfl sz90 rfl (fun _ h => h.2.1) (BallotT.len m.ballot) (RecT.sub_ballot m 0 rfl (by decide) (whole (BallotT.len m.ballot)))) ?_
 refine FD 10 179 Y118 sz28 ?_
 refine ta 11 rfl (PV.loadN (vs := ints m.change.flat) rfl Y28 rfl sz28 rfl (fun _ h => h.2.1) (ChangeT.len m.change) (RecT.sub_change m 0 rfl (by decide) (whole (ChangeT.len m.change)))) ?_
 refine AL 5 ?_
 refine TL.buildSlice (cells := #[(.int .i64 (m.kind)), (.int .i64 (m.epoch))]) (Want.plain rfl) rfl rfl rfl Y155 in3 rfl rfl rfl (by as_aux_lemma => kernel_rfl) (fun b57 => TL.nil (E1 3 (AL 6 ?_)))
 refine CQ nm166 (wnum_does b4 (.slice none 0 0) ([]) (.slice (some ⟨b57, 0, none⟩) (2) (2)) [m.kind, m.epoch] (by simp)) (SM [2, 1]) (isN_piece 0 rfl rfl rfl rfl) fun vR HR hR => ?_
 obtain ⟨u1, rfl, rfl⟩ := hR
 refine TL.nil (E1 3 (AL 9 ?_))
 refine CR nm168 (wballot_does b4 u1 (encs [m.kind, m.epoch]) m.ballot (by (have := encs_len [m.kind, m.epoch]); simp only [BallotT.flat, ViewT.flat, ChangeT.flat, List.length_cons, List.length_nil, Vector.length_toList, List.length_append] at *; omega)) (fun _ s => s) fun vR HR hR => ?_
 obtain ⟨u2, rfl, rfl⟩ := hR
 refine TL.nil (E1 3 (AL 12 ?_))
 refine CR nm169 (wchange_does b4 u2 (encs [m.kind, m.epoch] ++ encs m.ballot.flat) m.change (by (have := encs_len [m.kind, m.epoch]); (have := encs_len (m.ballot.flat)); simp only [BallotT.flat, ViewT.flat, ChangeT.flat, List.length_cons, List.length_nil, Vector.length_toList, List.length_append] at *; omega)) (fun _ s => s) fun vR HR hR => ?_
 obtain ⟨u3, rfl, rfl⟩ := hR
 refine TL.nil (E1 3 (DN (TE.blockEnd (TE.next J3 ?_))))
 clear J3
 refine sr fun _ J14 => PS ?_
 refine CR nm171 (wbytes_does b4 u3 (encs [m.kind, m.epoch] ++ encs m.ballot.flat ++ encs m.change.flat) (by (have := encs_len [m.kind, m.epoch]); (have := encs_len (m.ballot.flat)); (have := encs_len (m.change.flat)); simp only [BallotT.flat, ViewT.flat, ChangeT.flat, List.length_cons, List.length_nil, Vector.length_toList, List.length_append] at *; omega)) (fun _ s => s) fun vR HR hR => ?_
 obtain ⟨_, rfl, rfl⟩ := hR
 revert vR
 intro u4
 refine PS ?_
 refine nx J14 ?_
 clear J14
 refine TC.ret (WK [2] (TE.ret1 rfl rfl ?_))
 exact ⟨_, rfl, congrArg (fun b => [ownB u4 b 5]) (show (encs [m.kind, m.epoch] ++ encs m.ballot.flat ++ encs m.change.flat) = encR m by simp [encR, kRow, kAsk, encs, *])⟩
 refine PS ?_
 refine nx J13 ?_
 clear J13
 refine CN (sr fun _ J15 => PS ?_)
 refine TL.dec (fun h66 => ?_) (fun h66 => ?_)
 refine PS ?_
 refine nx J15 ?_
 clear J15
 refine CY (D1 2 mixed ?_)
 refine PD 0 ?_
 refine FD 1 0 Y118 sz3 ?_
 refine ta 2 rfl (PV.load1 (v := (.int .i64 (m.kind))) rfl Y3 rfl rfl (fun _ h => h.2.1) (RecT.at_kind m rfl)) ?_
 refine FD 5 182 Y118 sz85 ?_
 refine ta 6 rfl (PV.loadN (vs := ints m.view.flat) rfl Y85 rfl sz85 rfl (fun _ h => h.2.1) (ViewT.len m.view) (RecT.sub_view m 0 rfl (by decide) (whole (ViewT.len m.view)))) ?_
 refine AL 3 ?_
 refine TL.buildSlice (cells := #[(.int .i64 (m.kind))]) (Want.plain rfl) rfl rfl rfl Y155 in3 rfl rfl rfl (by as_aux_lemma => kernel_rfl) (fun b70 => TL.nil (E1 3 (AL 4 ?_)))
 refine CQ nm166 (wnum_does b4 (.slice none 0 0) ([]) (.slice (some ⟨b70, 0, none⟩) (1) (1)) [m.kind] (by simp)) (SM [2, 1]) (isN_piece 0 rfl rfl rfl rfl) fun vR HR hR => ?_
 obtain ⟨u1, rfl, rfl⟩ := hR
 refine TL.nil (E1 3 (AL 7 ?_))
 refine CR nm170 (wview_does b4 u1 (encs [m.kind]) m.view (by (have := encs_len [m.kind]); simp only [BallotT.flat, ViewT.flat, ChangeT.flat, List.length_cons, List.length_nil, Vector.length_toList, List.length_append] at *; omega)) (fun _ s => s) fun vR HR hR => ?_
 obtain ⟨u2, rfl, rfl⟩ := hR
 refine TL.nil (E1 3 (DN (TE.blockEnd (TE.next J3 ?_))))
 clear J3
 refine sr fun _ J16 => PS ?_
 refine CR nm171 (wbytes_does b4 u2 (encs [m.kind] ++ encs m.view.flat) (by (have := encs_len [m.kind]); (have := encs_len (m.view.flat)); simp only [BallotT.flat, ViewT.flat, ChangeT.flat, List.length_cons, List.length_nil, Vector.length_toList, List.length_append] at *; omega)) (fun _ s => s) fun vR HR hR => ?_
 obtain ⟨_, rfl, rfl⟩ := hR
 revert vR
 intro u3
 refine PS ?_
 refine nx J16 ?_
 clear J16
 refine TC.ret (WK [2] (TE.ret1 rfl rfl ?_))
 exact ⟨_, rfl, congrArg (fun b => [ownB u3 b 5]) (show (encs [m.kind] ++ encs m.view.flat) = encR m by simp [encR, kRow, kAsk, encs, *])⟩
 refine PS ?_
 refine nx J15 ?_
 clear J15
 refine CN (TC.skip (TE.blockEnd (TE.next J3 ?_)))
 clear J3
 refine sr fun _ J17 => PS ?_
 refine CR nm171 (wbytes_does b4 (.slice none 0 0) ([]) (by simp)) (SM [1, 0]) fun vR HR hR => ?_
 obtain ⟨_, rfl, rfl⟩ := hR
 revert vR
 intro u1
 refine PS ?_
 refine nx J17 ?_
 clear J17
 refine TC.ret (WK [2] (TE.ret1 rfl rfl ?_))
 exact ⟨_, rfl, congrArg (fun b => [ownB u1 b 5]) (show ([] : List UInt8) = encR m by simp [encR, kRow, kAsk, encs, *])⟩
end Go.Proofs.YtohmkchalilodaaGreatDoor
end

section
namespace Go.Proofs.YtohmkchalilodaaGreatDoor
open Go Leg Codec Api Dsk Wal
structure SendOk (T : Nat) (ov : Value) (sf : Nat) (E : List SaidT → HP) : Prop where
 me : IsMethod Tryz.prog T ov "Send" sf
 nm : Named Tryz.prog sf
 send : ∀ (l : List SaidT) (to' : Int) (m : MsgT), l.length ≤ 1000000 → Leg.Does Tryz.prog sf #[ov, .int .i64 to', .agg (ints m.flat).toArray] (fun _ => True) [E l] (Ret (fun _ H => H = [E (l ++ [SaidT.mk to' m])]))
abbrev dkL (d : Nat) (recs : List (List UInt8)) : HP := pack (fun D : { D : DS // LogD D recs ∧ D.dn = false ∧ D.ar = false } => [dk d D.1])
abbrev lgL (lg d : Nat) (recs : List (List UInt8)) : HP := lgP lg d (((recs).length : Nat) : Int) ((sizeS (recs) : Nat) : Int)
def PutOk (lg d : Nat) (E : List (List UInt8) → List SaidT → HP) : Prop := ∀ (x : Value) (bs : List UInt8) (recs : List (List UInt8)) (l : List SaidT), sizeS recs + piecesN bs.length ≤ 2048 → bs.length ≤ 3000 →
 Leg.Does Tryz.prog 147 #[.pointer (some ⟨lg, 0, none⟩), x] (IsW x bs) [lgL lg d recs, E recs l] (Ret (fun v H => v = .int .i64 0 ∧ H = [lgL lg d (recs ++ [bs]), E (recs ++ [bs]) l]))
theorem send_does (r : Nat) (T : Nat) (ov : Value) (sf : Nat) (E : List SaidT → HP) (hS : SendOk T ov sf E) (x : RepT) (to' : Int) (m : MsgT) (l : List SaidT) (hl : l.length ≤ 1000000) (hto : to' ≠ x.id) :
 Leg.Does Tryz.prog 112 #[(.pointer (some ⟨r, 0, none⟩)), (.iface T ov), (.int .i64 (to')), (.agg (ints m.flat).toArray)] (fun _ => True) [blkA r (RepT.cells x) 95, E (l)] (Ret (fun _ H => H = [blkA r (RepT.cells x) 95, E (l ++ [SaidT.mk to' m])])) := by
 refine Leg.Does.body (n := 28) Tryz.func112 rfl rfl rfl (fun w0 F hF => sr fun _ J1 => XB fun b7 => ?_)
 change TL _ _ _ _ _ _ _ _ _ [blkA b7 (ints m.flat) 134, blkA r (RepT.cells x) 95, E (l)]
 refine nx J1 (TC.seq fun _ J2 => sr fun _ J3 => ?_)
 iterate 3 refine PS ?_
 refine FA 0 Y95 sz3 ?_
 refine tp (PV.load1 (v := (.int .i64 (x.id))) rfl Y3 rfl rfl (RO 1) (RepT.at_id x rfl)) ?_
 refine PS ?_
 refine TL.dec (fun h13 => ?_) (fun h13 => ?_)
 · exact absurd h13 hto
 refine nx J3 (CN (CX J2 (sr fun _ J4 => PS ?_)))
 refine tp (PV.ifaceNotNil rfl Tryz.underlying123 rfl) ?_
 refine nx J4 (CY (TC.region (PS ?_)))
 refine PS ?_
 refine tp (PV.loadN (vs := ints m.flat) rfl Y134 rfl sz134 rfl (RO 0) (MsgT.len m) (whole (MsgT.len m))) ?_
 refine TL.callI (Want.plain rfl) rfl rfl rfl rfl hS.me hS.nm rfl (hS.send (l) to' m hl) (fun _ s => sep_selR [2] rfl s) (fun _ _ _ => trivial) (fun vR HR hR => ?_)
 obtain rfl := hR
 exact TL.nil (WK [2, 0] (TE.end0 rfl rfl))
theorem wit2_does (who : Int) (hm : machB who = true) : Leg.Does Tryz.prog 111 #[.int .i64 who] (fun _ => True) [] (Ret (fun r' H => ∃ u, r' = u ∧ H = [own u 2 [.int .i64 ((who + 1) % 5), .int .i64 ((who + 2) % 5)] 3 1])) := by
 have := witnesses_does who
 rw [show witL who = [(who + 1) % 5, (who + 2) % 5] by rw [witL, if_pos hm]] at this
 exact this
theorem tellRow_does (r : Nat) (T : Nat) (ov : Value) (sf : Nat) (E : List SaidT → HP) (hS : SendOk T ov sf E) (x : RepT) (l : List SaidT) (hl : l.length ≤ 900000) (hid : machB x.id = true) :
 Leg.Does Tryz.prog 62 #[(.pointer (some ⟨r, 0, none⟩)), (.iface T ov)] (fun _ => True) [blkA r (RepT.cells x) 95, E (l)] (Ret (fun _ H => H = [blkA r (RepT.cells x) 95, E (l ++ tellL x)])) := by
 refine Leg.Does.body (n := 40) Tryz.func62 rfl rfl rfl (fun w0 F hF => ?_)
 have hid2 : 0 ≤ x.id ∧ x.id < 5 := of_decide_eq_true hid
 refine TC.seq fun _ J1 => D1 0 mixed ?_
 refine PD 0 ?_
 refine PD 1 ?_
 refine FD 2 0 Y95 sz3 ?_
 refine ta 3 rfl (PV.load1 (v := (.int .i64 (x.id))) rfl Y3 rfl rfl (fun _ h => h.2.1) (RepT.at_id x rfl)) ?_
 refine PD 4 ?_
 refine PD 5 ?_
 refine FD 6 9 Y95 sz74 ?_
 refine ta 7 rfl (PV.loadN (vs := ints x.own.flat) rfl Y74 rfl sz74 rfl (fun _ h => h.2.1) (RowT.len x.own) (RepT.sub_own x 0 rfl (by decide) (whole (RowT.len x.own)))) ?_
 refine ta 8 rfl (PV.buildSegs (cs := ints (MsgT.mk 0 x.id x.own 0 0 BallotT.zero BallotT.zero ChangeT.zero ViewT.zero).flat) (segs := [[Value.int .i64 0], [Value.int .i64 0], ints RowT.zero.flat, [Value.int .i64 0], [Value.int .i64 0], ints BallotT.zero.flat, ints BallotT.zero.flat, ints ChangeT.zero.flat, ints ViewT.zero.flat]) (res := [[Value.int .i64 0], [Value.int .i64 x.id], ints x.own.flat, [Value.int .i64 0], [Value.int .i64 0], ints BallotT.zero.flat, ints BallotT.zero.flat, ints ChangeT.zero.flat, ints ViewT.zero.flat]) (parts := [(0, [Value.int .i64 0]), (1, [Value.int .i64 x.id]), (2, ints x.own.flat)]) rfl rfl Y134 (by kernel_rfl) (by kernel_rfl) rfl (putSegs_step rfl rfl (putSegs_step rfl rfl (putSegs_step rfl ((RowT.len x.own).trans (RowT.len RowT.zero).symm) putSegs_nil))) (MsgT.eq (MsgT.mk 0 x.id x.own 0 0 BallotT.zero BallotT.zero ChangeT.zero ViewT.zero)).symm) ?_
 refine AL 9 ?_
 refine XA z134 fun b4 => ?_
 change TL _ _ _ _ _ _ _ _ _ [blkA b4 (ints MsgT.zero.flat) 134, blkA r (RepT.cells x) 95, E (l)]
 refine TL.nil (E1 1 (AL 10 ?_))
 refine TL.store (vs := ints (MsgT.mk 0 x.id x.own 0 0 BallotT.zero BallotT.zero ChangeT.zero ViewT.zero).flat) (i := 0) (Want.plain rfl) rfl rfl rfl rfl rfl (by rw [(MsgT.len (MsgT.mk 0 x.id x.own 0 0 BallotT.zero BallotT.zero ChangeT.zero ViewT.zero))]; exact sz134) (ints_one _) rfl rfl (LC (MsgT.len _) (MsgT.len _)) (wwhole ((MsgT.len MsgT.zero).trans (MsgT.len (MsgT.mk 0 x.id x.own 0 0 BallotT.zero BallotT.zero ChangeT.zero ViewT.zero)).symm)) rfl (TL.nil (E1 1 (DN (TE.next J1 ?_))))
 clear J1
 refine sr fun _ J2 => PS ?_
 refine PS ?_
 refine FA 0 Y95 sz3 ?_
 refine tp (PV.load1 (v := (.int .i64 (x.id))) rfl Y3 rfl rfl (RO 1) (RepT.at_id x rfl)) ?_
 refine CR nm111 (wit2_does x.id hid) (fun _ s => s) fun vR HR hR => ?_
 obtain ⟨_, rfl, rfl⟩ := hR
 revert vR
 intro uw
 refine TL.ownLen 0 rfl rfl (fun hluw _ => TL.ownAt 0 rfl rfl (by omega) (fun gw capw hvw hcapw => tp (PV.lenV rfl Y155 rfl hluw) ?_))
 refine PS ?_
 refine nx J2 ?_
 clear J2
 refine TC.block (TC.unroll 2 (sr fun _ J3 => PS ?_))
 refine nx J3 ?_
 clear J3
 refine TC.seq fun _ J4 => CY (CX J4 ?_)
 clear J4
 refine TC.seq fun _ J5 => TC.block (sr fun _ J6 => tp (PV.indexSlV (r := 0) hvw rfl Y155 sz3 rfl rfl (by omega) (by omega) rfl) ?_)
 refine tp (PV.load1X (v := (.int .i64 (((x.id + 1) % 5)))) rfl Y3 rfl rfl (RdX.own 0 rfl hvw rfl) rfl) ?_
 refine PS ?_
 refine nx J6 ?_
 clear J6
 refine sr fun _ J7 => PS ?_
 refine PS ?_
 refine FA 1939 Y95 sz3 ?_
 refine tp (PV.load1 (v := (.int .i64 (x.kept))) rfl Y3 rfl rfl (RO 2) (RepT.at_kept x rfl)) ?_
 refine PS ?_
 refine tp (PV.shr (r := (x.kept.fdiv (2 ^ min (((x.id + 1) % 5)).toNat IntKind.i64.bits))) rfl rfl rfl (by omega) rfl) ?_
 refine tp (PV.and (r := ((x.kept.fdiv (2 ^ min (((x.id + 1) % 5)).toNat IntKind.i64.bits)) % 2)) rfl rfl rfl (mask (k := 1) (by decide) _)) ?_
 refine PS ?_
 refine TL.dec (fun h33 => ?_) (fun h33 => ?_)
 refine nx J7 ?_
 clear J7
 refine CY (TC.region ?_)
 iterate 3 refine PS ?_
 refine tp (PV.loadN (vs := ints (MsgT.mk 0 x.id x.own 0 0 BallotT.zero BallotT.zero ChangeT.zero ViewT.zero).flat) rfl Y134 rfl sz134 rfl (RO 1) (MsgT.len (MsgT.mk 0 x.id x.own 0 0 BallotT.zero BallotT.zero ChangeT.zero ViewT.zero)) (whole (MsgT.len (MsgT.mk 0 x.id x.own 0 0 BallotT.zero BallotT.zero ChangeT.zero ViewT.zero)))) ?_
 refine CZ nm112 (send_does r T ov sf E hS x ((x.id + 1) % 5) (MsgT.mk 0 x.id x.own 0 0 BallotT.zero BallotT.zero ChangeT.zero ViewT.zero) (l) (by first | omega | (simp only [List.length_append, List.length_cons, List.length_nil]; omega)) (by omega)) (SM [2, 2]) fun vR => ?_
 refine TL.nil (TE.blockEnd (TE.next J5 ?_))
 clear J5
 refine TC.region (tp (PV.add (r := 1) rfl rfl rfl (by decide)) ?_)
 refine PS ?_
 refine TL.nil (TE.again (sr fun _ J8 => PS ?_))
 refine nx J8 ?_
 clear J8
 refine TC.seq fun _ J9 => CY (CX J9 ?_)
 clear J9
 refine TC.seq fun _ J10 => TC.block (sr fun _ J11 => tp (PV.indexSlV (r := 1) hvw rfl Y155 sz3 rfl rfl (by omega) (by omega) rfl) ?_)
 refine tp (PV.load1X (v := (.int .i64 (((x.id + 2) % 5)))) rfl Y3 rfl rfl (RdX.own 2 rfl hvw rfl) rfl) ?_
 refine PS ?_
 refine nx J11 ?_
 clear J11
 refine sr fun _ J12 => PS ?_
 refine PS ?_
 refine FA 1939 Y95 sz3 ?_
 refine tp (PV.load1 (v := (.int .i64 (x.kept))) rfl Y3 rfl rfl (RO 0) (RepT.at_kept x rfl)) ?_
 refine PS ?_
 refine tp (PV.shr (r := (x.kept.fdiv (2 ^ min (((x.id + 2) % 5)).toNat IntKind.i64.bits))) rfl rfl rfl (by omega) rfl) ?_
 refine tp (PV.and (r := ((x.kept.fdiv (2 ^ min (((x.id + 2) % 5)).toNat IntKind.i64.bits)) % 2)) rfl rfl rfl (mask (k := 1) (by decide) _)) ?_
 refine PS ?_
 refine TL.dec (fun h33 => ?_) (fun h33 => ?_)
 refine nx J12 ?_
 clear J12
 refine CY (TC.region ?_)
 iterate 3 refine PS ?_
 refine tp (PV.loadN (vs := ints (MsgT.mk 0 x.id x.own 0 0 BallotT.zero BallotT.zero ChangeT.zero ViewT.zero).flat) rfl Y134 rfl sz134 rfl (RO 3) (MsgT.len (MsgT.mk 0 x.id x.own 0 0 BallotT.zero BallotT.zero ChangeT.zero ViewT.zero)) (whole (MsgT.len (MsgT.mk 0 x.id x.own 0 0 BallotT.zero BallotT.zero ChangeT.zero ViewT.zero)))) ?_
 refine CZ nm112 (send_does r T ov sf E hS x ((x.id + 2) % 5) (MsgT.mk 0 x.id x.own 0 0 BallotT.zero BallotT.zero ChangeT.zero ViewT.zero) (l ++ [SaidT.mk ((x.id + 1) % 5) (MsgT.mk 0 x.id x.own 0 0 BallotT.zero BallotT.zero ChangeT.zero ViewT.zero)]) (by first | omega | (simp only [List.length_append, List.length_cons, List.length_nil]; omega)) (by omega)) (fun _ s => s) fun vR => ?_
 refine TL.nil (TE.blockEnd (TE.next J10 ?_))
 clear J10
 refine TC.region (tp (PV.add (r := 2) rfl rfl rfl (by decide)) ?_)
 refine PS ?_
 refine TL.nil (TE.again (sr fun _ J13 => PS ?_))
 refine nx J13 ?_
 clear J13
 refine TC.seq fun _ J14 => CN (TC.exit (TE.pass ?_))
 clear J14
 refine TE.pass (TE.hit (WK [0, 0] (TE.end0 rfl ?_)))
 exact congrArg (fun q => [blkA r (RepT.cells x) 95, E q]) (show l ++ [SaidT.mk ((x.id + 1) % 5) (MsgT.mk 0 x.id x.own 0 0 BallotT.zero BallotT.zero ChangeT.zero ViewT.zero)] ++ [SaidT.mk ((x.id + 2) % 5) (MsgT.mk 0 x.id x.own 0 0 BallotT.zero BallotT.zero ChangeT.zero ViewT.zero)] = l ++ tellL x by rw [tellL, witL, if_pos hid]; simp [bit0, rowMsg, MsgT.zero, *])
 refine nx J12 ?_
 clear J12
 refine CN (TC.skip (TE.blockEnd (TE.next J10 ?_)))
 clear J10
 refine TC.region (tp (PV.add (r := 2) rfl rfl rfl (by decide)) ?_)
 refine PS ?_
 refine TL.nil (TE.again (sr fun _ J15 => PS ?_))
 refine nx J15 ?_
 clear J15
 refine TC.seq fun _ J16 => CN (TC.exit (TE.pass ?_))
 clear J16
 refine TE.pass (TE.hit (WK [0, 0] (TE.end0 rfl ?_)))
 exact congrArg (fun q => [blkA r (RepT.cells x) 95, E q]) (show l ++ [SaidT.mk ((x.id + 1) % 5) (MsgT.mk 0 x.id x.own 0 0 BallotT.zero BallotT.zero ChangeT.zero ViewT.zero)] = l ++ tellL x by rw [tellL, witL, if_pos hid]; simp [bit0, rowMsg, MsgT.zero, *])
 refine nx J7 ?_
 clear J7
 refine CN (TC.skip (TE.blockEnd (TE.next J5 ?_)))
 clear J5
 refine TC.region (tp (PV.add (r := 1) rfl rfl rfl (by decide)) ?_)
 refine PS ?_
 refine TL.nil (TE.again (sr fun _ J17 => PS ?_))
 refine nx J17 ?_
 clear J17
 refine TC.seq fun _ J18 => CY (CX J18 ?_)
 clear J18
 refine TC.seq fun _ J19 => TC.block (sr fun _ J20 => tp (PV.indexSlV (r := 1) hvw rfl Y155 sz3 rfl rfl (by omega) (by omega) rfl) ?_)
 refine tp (PV.load1X (v := (.int .i64 (((x.id + 2) % 5)))) rfl Y3 rfl rfl (RdX.own 0 rfl hvw rfl) rfl) ?_
 refine PS ?_
 refine nx J20 ?_
 clear J20
 refine sr fun _ J21 => PS ?_
 refine PS ?_
 refine FA 1939 Y95 sz3 ?_
 refine tp (PV.load1 (v := (.int .i64 (x.kept))) rfl Y3 rfl rfl (RO 2) (RepT.at_kept x rfl)) ?_
 refine PS ?_
 refine tp (PV.shr (r := (x.kept.fdiv (2 ^ min (((x.id + 2) % 5)).toNat IntKind.i64.bits))) rfl rfl rfl (by omega) rfl) ?_
 refine tp (PV.and (r := ((x.kept.fdiv (2 ^ min (((x.id + 2) % 5)).toNat IntKind.i64.bits)) % 2)) rfl rfl rfl (mask (k := 1) (by decide) _)) ?_
 refine PS ?_
 refine TL.dec (fun h33 => ?_) (fun h33 => ?_)
 refine nx J21 ?_
 clear J21
 refine CY (TC.region ?_)
 iterate 3 refine PS ?_
 refine tp (PV.loadN (vs := ints (MsgT.mk 0 x.id x.own 0 0 BallotT.zero BallotT.zero ChangeT.zero ViewT.zero).flat) rfl Y134 rfl sz134 rfl (RO 1) (MsgT.len (MsgT.mk 0 x.id x.own 0 0 BallotT.zero BallotT.zero ChangeT.zero ViewT.zero)) (whole (MsgT.len (MsgT.mk 0 x.id x.own 0 0 BallotT.zero BallotT.zero ChangeT.zero ViewT.zero)))) ?_
 refine CZ nm112 (send_does r T ov sf E hS x ((x.id + 2) % 5) (MsgT.mk 0 x.id x.own 0 0 BallotT.zero BallotT.zero ChangeT.zero ViewT.zero) (l) (by first | omega | (simp only [List.length_append, List.length_cons, List.length_nil]; omega)) (by omega)) (SM [2, 2]) fun vR => ?_
 refine TL.nil (TE.blockEnd (TE.next J19 ?_))
 clear J19
 refine TC.region (tp (PV.add (r := 2) rfl rfl rfl (by decide)) ?_)
 refine PS ?_
 refine TL.nil (TE.again (sr fun _ J22 => PS ?_))
 refine nx J22 ?_
 clear J22
 refine TC.seq fun _ J23 => CN (TC.exit (TE.pass ?_))
 clear J23
 refine TE.pass (TE.hit (WK [0, 0] (TE.end0 rfl ?_)))
 exact congrArg (fun q => [blkA r (RepT.cells x) 95, E q]) (show l ++ [SaidT.mk ((x.id + 2) % 5) (MsgT.mk 0 x.id x.own 0 0 BallotT.zero BallotT.zero ChangeT.zero ViewT.zero)] = l ++ tellL x by rw [tellL, witL, if_pos hid]; simp [bit0, rowMsg, MsgT.zero, *])
 refine nx J21 ?_
 clear J21
 refine CN (TC.skip (TE.blockEnd (TE.next J19 ?_)))
 clear J19
 refine TC.region (tp (PV.add (r := 2) rfl rfl rfl (by decide)) ?_)
 refine PS ?_
 refine TL.nil (TE.again (sr fun _ J24 => PS ?_))
 refine nx J24 ?_
 clear J24
 refine TC.seq fun _ J25 => CN (TC.exit (TE.pass ?_))
 clear J25
 refine TE.pass (TE.hit (WK [2, 2] (TE.end0 rfl ?_)))
 exact congrArg (fun q => [blkA r (RepT.cells x) 95, E q]) (show l = l ++ tellL x by rw [tellL, witL, if_pos hid]; simp [bit0, rowMsg, MsgT.zero, *])
theorem tellNews_does (r : Nat) (T : Nat) (ov : Value) (sf : Nat) (E : List SaidT → HP) (hS : SendOk T ov sf E) (x : RepT) (y : RowT) (l : List SaidT) (hl : l.length ≤ 900000) :
 Leg.Does Tryz.prog 67 #[(.pointer (some ⟨r, 0, none⟩)), (.iface T ov), (.agg (ints y.flat).toArray)] (fun _ => True) [blkA r (RepT.cells x) 95, E (l)] (Ret (fun _ H => H = [blkA r (RepT.cells x) 95, E (l ++ newsL x.id y)])) := by
 refine Leg.Does.body (n := 27) Tryz.func67 rfl rfl rfl (fun w0 F hF => sr fun _ J1 => XB fun b5 => ?_)
 change TL _ _ _ _ _ _ _ _ _ [blkA b5 (ints y.flat) 74, blkA r (RepT.cells x) 95, E (l)]
 refine nx J1 (sr fun _ J2 => PS ?_)
 refine nx J2 (TC.block ?_)
 refine TC.loop (α := (Nat)) (fun k => k ≤ 5) (fun k => [(0, (.pointer (some ⟨r, 0, none⟩))), (1, (.iface T ov)), (5, (.pointer (some ⟨b5, 0, none⟩))), (7, (.int .i64 (((k : Nat) : Int))))]) (fun k => [blkA b5 (ints y.flat) 74, blkA r (RepT.cells x) 95, E (l ++ newsTo x.id y k)]) (fun k => 5 - k) 0
  (Nat.zero_le _) SB
  (fun _ s => by simpa [newsTo] using s) (fun k hinv => ?_)
 obtain hk := hinv
 have hnl : (newsTo x.id y k).length ≤ k := by unfold newsTo; rw [List.length_map]; exact Nat.le_trans (List.length_filter_le _ _) (by simp)
 refine sr fun _ J3 => PS ?_
 refine TL.dec (fun h8 => ?_) (fun h8 => ?_)
 refine nx J3 (TC.seq fun _ J4 => CY (CX J4 (TC.seq fun _ J5 => TC.block (sr fun _ J6 => PS ?_))))
 refine PS ?_
 refine nx J6 (sr fun _ J7 => ?_)
 iterate 3 refine PS ?_
 refine FA 0 Y95 sz3 ?_
 refine tp (PV.load1 (v := (.int .i64 (x.id))) rfl Y3 rfl rfl (RO 1) (RepT.at_id x rfl)) ?_
 refine PS ?_
 refine TL.dec (fun h15 => ?_) (fun h15 => ?_)
 refine nx J7 (CY (D2 1 0 mixed ?_))
 refine PD 0 ?_
 refine PD 1 ?_
 refine PD 2 ?_
 refine PD 3 ?_
 refine PD 4 ?_
 refine FD 5 0 Y95 sz3 ?_
 refine ta 6 rfl (PV.load1 (v := (.int .i64 (x.id))) rfl Y3 rfl rfl (fun _ h => h.2.1) (RepT.at_id x rfl)) ?_
 refine ta 7 rfl (PV.loadN (vs := ints y.flat) rfl Y74 rfl sz74 rfl (fun _ h => h.2.2.1) (RowT.len y) (whole (RowT.len y))) ?_
 refine ta 8 rfl (PV.buildSegs (cs := ints (MsgT.mk 2 x.id y 0 0 BallotT.zero BallotT.zero ChangeT.zero ViewT.zero).flat) (segs := [[Value.int .i64 0], [Value.int .i64 0], ints RowT.zero.flat, [Value.int .i64 0], [Value.int .i64 0], ints BallotT.zero.flat, ints BallotT.zero.flat, ints ChangeT.zero.flat, ints ViewT.zero.flat]) (res := [[Value.int .i64 2], [Value.int .i64 x.id], ints y.flat, [Value.int .i64 0], [Value.int .i64 0], ints BallotT.zero.flat, ints BallotT.zero.flat, ints ChangeT.zero.flat, ints ViewT.zero.flat]) (parts := [(0, [Value.int .i64 2]), (1, [Value.int .i64 x.id]), (2, ints y.flat)]) rfl rfl Y134 (by kernel_rfl) (by kernel_rfl) rfl (putSegs_step rfl rfl (putSegs_step rfl rfl (putSegs_step rfl ((RowT.len y).trans (RowT.len RowT.zero).symm) putSegs_nil))) (MsgT.eq (MsgT.mk 2 x.id y 0 0 BallotT.zero BallotT.zero ChangeT.zero ViewT.zero)).symm) ?_
 refine AL 9 ?_
 refine CZ nm112 (send_does r T ov sf E hS x ((k : Nat) : Int) (MsgT.mk 2 x.id y 0 0 BallotT.zero BallotT.zero ChangeT.zero ViewT.zero) (l ++ newsTo x.id y k) (by simp only [List.length_append]; omega) h15) (SM [1, 1]) fun vR => ?_
 refine TL.nil (E2 0 2 (DN (TE.blockEnd (TE.next J5 (TC.region (AD ?_))))))
 refine PS ?_
 refine TL.nil ?_
 exact TE.round ((k + 1) : (Nat)) (by omega) (by show 5 - (k + 1) < 5 - k; omega)
  SB
  (fun _ s => by
   show sep [blkA b5 (ints y.flat) 74, blkA r (RepT.cells x) 95, E (l ++ newsTo x.id y (k + 1))] _
   rw [newsTo_succ, if_neg h15]
   rw [← List.append_assoc]
   exact sep_keep [2, 0, 0] rfl s)
 refine nx J7 (CN (TC.skip (TE.blockEnd (TE.next J5 (TC.region (AD ?_))))))
 refine PS ?_
 refine TL.nil ?_
 exact TE.round ((k + 1) : (Nat)) (by omega) (by show 5 - (k + 1) < 5 - k; omega)
  SB
  (fun _ s => by
   show sep [blkA b5 (ints y.flat) 74, blkA r (RepT.cells x) 95, E (l ++ newsTo x.id y (k + 1))] _
   rw [newsTo_succ, if_pos (by omega)]
   rw [List.append_nil]
   exact sep_keep [0, 0, 0] rfl s)
 refine nx J3 (TC.seq fun _ J8 => CN (TC.exit (TE.pass (TE.pass (TE.hit (WK [1, 1] (TE.end0 rfl ?_)))))))
 obtain rfl : k = 5 := by omega
 exact rfl
theorem due0_does (r : Nat) (x : RepT) (hal : Alone x) :
 Leg.Does Tryz.prog 113 #[(.pointer (some ⟨r, 0, none⟩))] (fun _ => True) [blkA r (RepT.cells x) 95] (Ret (fun r' H => r' = .slice none 0 0 ∧ H = [blkA r (RepT.cells x) 95])) := by
 refine Leg.Does.body (n := 44) Tryz.func113 rfl rfl rfl (fun w0 F hF => sr fun _ J1 => PS ?_)
 refine nx J1 (sr fun _ J2 => PS ?_)
 refine nx J2 (TC.seq fun _ J3 => sr fun _ J4 => PS ?_)
 refine nx J4 (TC.block ?_)
 refine TC.loop (α := (Nat)) (fun k => k ≤ 5) (fun k => [(0, (.pointer (some ⟨r, 0, none⟩))), (2, (.slice none 0 0)), (3, (.slice none 0 0)), (7, (.int .i64 (((k : Nat) : Int))))]) (fun k => [blkA r (RepT.cells x) 95]) (fun k => 5 - k) 0
  (Nat.zero_le _) SB
  (fun _ s => s) (fun k hinv => ?_)
 obtain hk := hinv
 refine sr fun _ J5 => PS ?_
 refine TL.dec (fun h8 => ?_) (fun h8 => ?_)
 refine nx J5 (TC.seq fun _ J6 => CY (CX J6 (TC.seq fun _ J7 => TC.block (sr fun _ J8 => PS ?_))))
 refine PS ?_
 refine nx J8 (sr fun _ J9 => PS ?_)
 refine PS ?_
 refine FA 2 Y95 sz85 ?_
 refine tp (PV.loadN (vs := ints x.view.flat) rfl Y85 rfl sz85 rfl (RO 0) (ViewT.len x.view) (RepT.sub_view x 0 rfl (by decide) (whole (ViewT.len x.view)))) ?_
 refine PS ?_
 refine CE nm116 (heir_does x.view ((k : Nat) : Int) hal.1) (fun _ s => s) ?_
 refine PS ?_
 refine tp (PV.extract (vs := [(.int .i64 (((heirV x.view ((k : Nat) : Int)).getD 0))), (.bool ((heirV x.view ((k : Nat) : Int)).isSome))]) rfl rfl rfl) ?_
 refine tp (PV.extract (vs := [(.int .i64 (((heirV x.view ((k : Nat) : Int)).getD 0))), (.bool ((heirV x.view ((k : Nat) : Int)).isSome))]) rfl rfl rfl) ?_
 refine TL.decB (fun h18 => ?_) (fun h18 => ?_)
 refine PS ?_
 refine PS ?_
 refine nx J9 (sr fun _ J10 => ?_)
 iterate 5 refine PS ?_
 refine FA 0 Y95 sz3 ?_
 refine tq (PV.load1 (v := (.int .i64 (x.id))) rfl Y3 rfl rfl (RO 0) (RepT.at_id x rfl)) ?_
 refine PS ?_
 refine TL.dec (fun h26 => ?_) (fun h26 => ?_)
 · exact absurd (by cases hq : heirV x.view ((k : Nat) : Int) with | none => rw [hq] at h18; cases h18 | some z => rw [hq] at h26; rw [← h26]; rfl) (hal.2 k (by omega))
 refine PS ?_
 refine PS ?_
 iterate 8 refine UF ?_
 refine PS ?_
 refine nx J10 (CN (TC.skip (TE.blockEnd (TE.next J7 (TC.region (AD ?_))))))
 refine PS ?_
 refine TL.nil ?_
 exact TE.round ((k + 1) : (Nat)) (by omega) (by show 5 - (k + 1) < 5 - k; omega)
  SB
  (fun _ s => s)
 refine PS ?_
 refine PS ?_
 refine nx J9 (sr fun _ J11 => PS ?_)
 refine PS ?_
 iterate 6 refine UF ?_
 refine PS ?_
 refine PS ?_
 iterate 8 refine UF ?_
 refine PS ?_
 refine nx J11 (CN (TC.skip (TE.blockEnd (TE.next J7 (TC.region (AD ?_))))))
 refine PS ?_
 refine TL.nil ?_
 exact TE.round ((k + 1) : (Nat)) (by omega) (by show 5 - (k + 1) < 5 - k; omega)
  SB
  (fun _ s => s)
 refine nx J5 (TC.seq fun _ J12 => CN (TC.exit (TE.pass (TE.pass (TE.hit (TE.next J3 (sr fun _ J13 => PS ?_)))))))
 refine PS ?_
 exact nx J13 (TC.ret (WK [0] (TE.ret1 rfl rfl ⟨rfl, rfl⟩)))
theorem comeInto0_does (r : Nat) (T : Nat) (ov : Value) (x : RepT) (e : HP) (hal : Alone x) :
 Leg.Does Tryz.prog 63 #[(.pointer (some ⟨r, 0, none⟩)), (.iface T ov)] (fun _ => True) [blkA r (RepT.cells x) 95, e] (Ret (fun _ H => H = [blkA r (RepT.cells x) 95, e])) := by
 refine Leg.Does.body (n := 80) Tryz.func63 rfl rfl rfl (fun w0 F hF => sr fun _ J1 => PS ?_)
 refine CE nm113 (due0_does r x hal) (fun _ s => s) ?_
 refine PS ?_
 refine nx J1 (TC.seq fun _ J2 => sr fun _ J3 => PS ?_)
 refine PS ?_
 refine FA 1938 Y95 sz4 ?_
 refine tp (PV.load1 (v := (.bool (x.busy))) rfl Y4 rfl rfl (RO 0) (RepT.at_busy x rfl)) ?_
 refine TL.decB (fun h19 => ?_) (fun h19 => ?_)
 refine PS ?_
 iterate 3 refine UT ?_
 refine PS ?_
 exact nx J3 (CY (TC.ret (TE.passRet (WK [0, 0] (TE.ret0 rfl rfl)))))
 refine PS ?_
 refine PS ?_
 refine tq (PV.lenSl rfl Y155 rfl) ?_
 refine PS ?_
 refine PS ?_
 exact nx J3 (CY (TC.ret (TE.passRet (WK [0, 0] (TE.ret0 rfl rfl)))))
theorem claim0_does (r : Nat) (T : Nat) (ov : Value) (x : RepT) (e : HP) (hal : Alone x) :
 Leg.Does Tryz.prog 64 #[(.pointer (some ⟨r, 0, none⟩)), (.iface T ov)] (fun _ => True) [blkA r (RepT.cells x) 95, e] (Ret (fun _ H => H = [blkA r (RepT.cells x) 95, e])) := by
 refine Leg.Does.body (n := 39) Tryz.func64 rfl rfl rfl (fun w0 F hF => sr fun _ J1 => PS ?_)
 refine CE nm113 (due0_does r x hal) (fun _ s => s) ?_
 refine tp (PV.lenSl rfl Y155 rfl) ?_
 refine PS ?_
 refine nx J1 (TC.block (TC.unroll 1 (sr fun _ J2 => PS ?_)))
 exact nx J2 (TC.seq fun _ J3 => CN (TC.exit (TE.pass (TE.pass (TE.hit (WK [0, 0] (TE.end0 rfl rfl)))))))
end Go.Proofs.YtohmkchalilodaaGreatDoor
end

section
namespace Go.Proofs.YtohmkchalilodaaGreatDoor
open Go Leg Codec Api Dsk Wal
theorem put_does (r lg d : Nat) (E : List (List UInt8) → List SaidT → HP) (hP : PutOk lg d E) (x : RepT) (m : RecT) (recs : List (List UInt8)) (l : List SaidT) (hlog : x.log = .pointer (some ⟨lg, 0, none⟩)) (hroom : sizeS recs + piecesN (encR m).length ≤ 2048) (hlen : (encR m).length ≤ 3000) :
 Leg.Does Tryz.prog 98 #[(.pointer (some ⟨r, 0, none⟩)), (.agg (ints m.flat).toArray)] (fun _ => True) [blkA r (RepT.cells x) 95, lgL lg d (recs), E (recs) (l)] (Ret (fun r' H => r' = .int .i64 0 ∧ H = [blkA r (RepT.cells x) 95, lgL lg d (recs ++ [encR m]), E (recs ++ [encR m]) l])) := by
 refine Leg.Does.body (n := 12) Tryz.func98 rfl rfl rfl (fun w0 F hF => sr fun _ J1 => XB fun b3 => ?_)
 change TL _ _ _ _ _ _ _ _ _ [blkA b3 (ints m.flat) 118, blkA r (RepT.cells x) 95, lgL lg d (recs), E (recs) (l)]
 refine PS ?_
 refine nx J1 (TC.seq fun _ J2 => D2 1 0 mixed ?_)
 refine PD 0 ?_
 refine PD 1 ?_
 refine FD 2 1 Y95 sz83 ?_
 refine ta 3 rfl (PV.load1 (v := (.pointer (some ⟨lg, 0, none⟩))) rfl Tryz.underlying83 rfl rfl (fun _ h => h.2.1) ((RepT.at_log x rfl).trans (congrArg some hlog))) ?_
 refine ta 4 rfl (PV.loadN (vs := ints m.flat) rfl Y118 rfl sz118 rfl (fun _ h => h.2.2.1) (RecT.len m) (whole (RecT.len m))) ?_
 refine AL 5 ?_
 refine CR nm148 (record_does m) (fun _ s => s) fun vR HR hR => ?_
 obtain ⟨_, rfl, rfl⟩ := hR
 revert vR
 intro ue
 refine TL.nil (E2 2 1 (AL 6 ?_))
 refine CF nm147 (hP ue (encR m) (recs) (l) hroom hlen) (SM [3, 3]) (fun g d s => IsB.w (isB_own 0 rfl rfl g d s)) ?_
 refine TL.nil (E2 4 3 (PD 7 ?_))
 exact DN (TE.next J2 (TC.ret (WK [4, 0, 0] (TE.ret1 rfl rfl ⟨rfl, rfl⟩))))
theorem reply_does (r : Nat) (x : RepT) (op err val : Int) (rs : List ReplyT) (hrs : rs.length ≤ 1000000) :
 Leg.Does Tryz.prog 53 #[(.pointer (some ⟨r, 0, none⟩)), (.int .i64 (op)), (.int .i64 (err)), (.int .i64 (val))] (fun _ => True) [blkA r (RepT.cells x) 95, own x.replies ((rs).length) (ints (List.flatMap ReplyT.flat (rs))) 45 3] (Ret (fun _ H => ∃ v', v'.oneCell' = true ∧ H = [blkA r (RepT.cells { x with replies := v' }) 95, own v' (rs ++ [ReplyT.mk op err val]).length (ints (List.flatMap ReplyT.flat (rs ++ [ReplyT.mk op err val]))) 45 3])) := by
 refine Leg.Does.body (n := 21) Tryz.func53 rfl rfl rfl (fun w0 F hF => TC.region ?_)
 iterate 3 refine PS ?_
 refine FA 1942 Y95 sz42 ?_
 refine tp (PV.load1 (v := x.replies) rfl Y42 rfl rfl (RO 0) (RepT.at_replies x rfl)) ?_
 iterate 3 refine PS ?_
 refine tp (PV.buildSegs (cs := ints (ReplyT.mk op err val).flat) (segs := [[Value.int .i64 0], [Value.int .i64 0], [Value.int .i64 0]]) (res := [[Value.int .i64 op], [Value.int .i64 err], [Value.int .i64 val]]) (parts := [(0, [Value.int .i64 op]), (1, [Value.int .i64 err]), (2, [Value.int .i64 val])]) rfl rfl Tryz.underlying45 (by kernel_rfl) (by kernel_rfl) rfl (putSegs_step rfl rfl (putSegs_step rfl rfl (putSegs_step rfl rfl putSegs_nil))) (ReplyT.eq (ReplyT.mk op err val)).symm) ?_
 refine TL.buildSlice (cells := (ints (ReplyT.mk op err val).flat).toArray) (Want.plain rfl) rfl rfl rfl Y42 in45 rfl rfl rfl (fill_at (ReplyT.len (ReplyT.mk op err val)) (by simp)) (fun b17 => ?_)
 change TL _ _ _ _ _ _ _ _ _ [blkA b17 (ints (ReplyT.mk op err val).flat) 45, blkA r (RepT.cells x) 95, own x.replies ((rs).length) (ints (List.flatMap ReplyT.flat (rs))) 45 3]
 refine TL.append (k := 2) (news := ints (ReplyT.mk op err val).flat) (nn' := (rs ++ [ReplyT.mk op err val]).length) (xs' := ints (List.flatMap ReplyT.flat (rs ++ [ReplyT.mk op err val]))) (Want.plain rfl) rfl rfl rfl Y42 in45 rfl rfl rfl rfl rfl rfl (fun _ _ => Src.rd (ReplyT.len _) (RO 0) (by rw [List.drop_zero, List.take_length])) (ints_one _) (by simp only [maxLen]; omega) (by omega) (by simp) (by simp [ints]) (fun v18 ov18 => PS ?_)
 refine FA 1942 Y95 sz42 ?_
 exact TL.store1 (i := 1) (Want.plain rfl) rfl rfl rfl rfl ov18 sz42 rfl rfl (LB (RepT.len _)) (RepT.set_replies x rfl _) rfl (TL.nil (WK [1, 1] (TE.end0 rfl ⟨_, ov18, rfl⟩)))
theorem rOwn_does (r : Nat) (x : RepT) :
 Leg.Does Tryz.prog 127 #[(.pointer (some ⟨r, 0, none⟩))] (fun _ => True) [blkA r (RepT.cells x) 95] (Ret (fun r' H => r' = .agg (ints x.own.flat).toArray ∧ H = [blkA r (RepT.cells x) 95])) := by
 refine Leg.Does.body (n := 7) Tryz.func127 rfl rfl rfl (fun w0 F hF => sr fun _ J1 => XA z74 fun b2 => ?_)
 change TL _ _ _ _ _ _ _ _ _ [blkA b2 (ints RowT.zero.flat) 74, blkA r (RepT.cells x) 95]
 refine nx J1 (sr fun _ J2 => PS ?_)
 refine PS ?_
 refine FA 9 Y95 sz74 ?_
 refine tp (PV.loadN (vs := ints x.own.flat) rfl Y74 rfl sz74 rfl (RO 1) (RowT.len x.own) (RepT.sub_own x 0 rfl (by decide) (whole (RowT.len x.own)))) ?_
 exact TL.store (vs := ints x.own.flat) (i := 0) (Want.plain rfl) rfl rfl rfl rfl rfl (by rw [(RowT.len x.own)]; exact sz74) (ints_one _) rfl rfl (LC (RowT.len _) (RowT.len _)) (wwhole ((RowT.len RowT.zero).trans (RowT.len x.own).symm)) rfl (nx J2 (TC.ret (TE.retC (H' := [blkA r (RepT.cells x) 95]) rfl rfl Y74 rfl sz74 (RO 0) (RowT.len x.own) (fun _ s => sep_keep [1] rfl s) ⟨rfl, rfl⟩)))
theorem rView_does (r : Nat) (x : RepT) :
 Leg.Does Tryz.prog 126 #[(.pointer (some ⟨r, 0, none⟩))] (fun _ => True) [blkA r (RepT.cells x) 95] (Ret (fun r' H => r' = .agg (ints x.view.flat).toArray ∧ H = [blkA r (RepT.cells x) 95])) := by
 refine Leg.Does.body (n := 7) Tryz.func126 rfl rfl rfl (fun w0 F hF => sr fun _ J1 => XA z85 fun b2 => ?_)
 change TL _ _ _ _ _ _ _ _ _ [blkA b2 (ints ViewT.zero.flat) 85, blkA r (RepT.cells x) 95]
 refine nx J1 (sr fun _ J2 => PS ?_)
 refine PS ?_
 refine FA 2 Y95 sz85 ?_
 refine tp (PV.loadN (vs := ints x.view.flat) rfl Y85 rfl sz85 rfl (RO 1) (ViewT.len x.view) (RepT.sub_view x 0 rfl (by decide) (whole (ViewT.len x.view)))) ?_
 exact TL.store (vs := ints x.view.flat) (i := 0) (Want.plain rfl) rfl rfl rfl rfl rfl (by rw [(ViewT.len x.view)]; exact sz85) (ints_one _) rfl rfl (LC (ViewT.len _) (ViewT.len _)) (wwhole ((ViewT.len ViewT.zero).trans (ViewT.len x.view).symm)) rfl (nx J2 (TC.ret (TE.retC (H' := [blkA r (RepT.cells x) 95]) rfl rfl Y85 rfl sz85 (RO 0) (ViewT.len x.view) (fun _ s => sep_keep [1] rfl s) ⟨rfl, rfl⟩)))
theorem rMirrored_does (r : Nat) (x : RepT) (who : Int) :
 Leg.Does Tryz.prog 34 #[(.pointer (some ⟨r, 0, none⟩)), (.int .i64 (who))] (fun _ => True) [blkA r (RepT.cells x) 95] (Ret (fun r' H => r' = .tuple #[.agg (ints (mirRow x.mirror who).flat).toArray, .bool (mirSealed x.mirror who)] ∧ H = [blkA r (RepT.cells x) 95])) := by
 refine Leg.Does.body (n := 16) Tryz.func34 rfl rfl rfl (fun w0 F hF => sr fun _ J1 => XA z74 fun b4 => ?_)
 change TL _ _ _ _ _ _ _ _ _ [blkA b4 (ints RowT.zero.flat) 74, blkA r (RepT.cells x) 95]
 refine PS ?_
 refine nx J1 (TC.seq fun _ J2 => D0 mixed ?_)
 refine PD 0 ?_
 refine PD 1 ?_
 refine FD 2 183 Y95 sz88 ?_
 refine PD 3 ?_
 refine PD 5 ?_
 refine PD 6 ?_
 refine FD 7 183 Y95 sz88 ?_
 refine PD 8 ?_
 refine AL 4 ?_
 refine CE nm75 (mirRow_does r 183 95 (fun u => RepT.cells { x with mirror := u }) (RepT.arnd_mirror x) x.mirror who) (SM [1]) ?_
 refine TL.nil (E0 (AL 9 ?_))
 refine CE nm76 (mirSealed_does r 183 95 (fun u => RepT.cells { x with mirror := u }) (RepT.arnd_mirror x) x.mirror who) (fun _ s => s) ?_
 refine TL.nil (E0 (AL 10 ?_))
 refine TL.store (vs := ints (mirRow x.mirror who).flat) (i := 1) (Want.plain rfl) rfl rfl rfl rfl rfl (by rw [(RowT.len (mirRow x.mirror who))]; exact sz74) (ints_one _) rfl rfl (LC (RowT.len _) (RowT.len _)) (wwhole ((RowT.len RowT.zero).trans (RowT.len (mirRow x.mirror who)).symm)) rfl (TL.nil (E0 (PD 11 ?_)))
 exact DN (TE.next J2 (TC.ret (TE.retCT (H' := [blkA r (RepT.cells x) 95]) rfl rfl rfl Y74 rfl sz74 (RO 1) (RowT.len (mirRow x.mirror who)) (fun _ s => sep_keep [0] rfl s) ⟨rfl, rfl⟩)))
theorem replies_does (r : Nat) (x : RepT) (rs : List ReplyT) (hrs : rs.length ≤ 1000000) :
 Leg.Does Tryz.prog 38 #[(.pointer (some ⟨r, 0, none⟩))] (fun _ => True) [blkA r (RepT.cells x) 95, own x.replies ((rs).length) (ints (List.flatMap ReplyT.flat (rs))) 45 3] (Ret (fun r' H => ∃ u, r' = u ∧ H = [blkA r (RepT.cells x) 95, own x.replies rs.length (ints (List.flatMap ReplyT.flat rs)) 45 3, own u rs.length (ints (List.flatMap ReplyT.flat rs)) 45 3])) := by
 refine Leg.Does.body (n := 8) Tryz.func38 rfl rfl rfl (fun w0 F hF => sr fun _ J1 => TL.ownNilI 45 3 (fun _ => PS ?_))
 refine nx J1 (sr fun _ J2 => PS ?_)
 refine PS ?_
 refine FA 1942 Y95 sz42 ?_
 refine tp (PV.load1 (v := x.replies) rfl Y42 rfl rfl (RO 1) (RepT.at_replies x rfl)) ?_
 refine TL.append (k := 0) (news := ints (List.flatMap ReplyT.flat rs)) (nn' := rs.length) (xs' := ints (List.flatMap ReplyT.flat rs)) (Want.plain rfl) rfl rfl rfl Y42 in45 rfl rfl rfl rfl rfl rfl (fun _ s => Src.own 2 rfl rfl s) (ints_one _) (by simp only [maxLen]; omega) (by omega) (by simp) (by simp) (fun v7 ov7 => PS ?_)
 exact nx J2 (TC.ret (WK [1, 1, 0] (TE.ret1 rfl rfl ⟨_, rfl, rfl⟩)))
end Go.Proofs.YtohmkchalilodaaGreatDoor
end

section
namespace Api
open Go Leg Codec Dsk Wal
def mirRec (w : Int) (x : RowT) : RecT := { RecT.zero with kind := 1, whose := w, row := x }
theorem mirRec_len (w : Int) (x : RowT) : (encR (mirRec w x)).length ≤ 1760 := by
 have h1 := encRow_len x
 have h2 := encs_len [(1 : Int), w]
 rw [show encR (mirRec w x) = encs [(1 : Int), w] ++ encRow x from rfl, List.length_append]
 simp only [List.length_cons, List.length_nil] at h2
 omega
theorem pieces34 {n : Nat} (h : n ≤ 1760) : piecesN n ≤ 34 := by unfold piecesN; split <;> omega
def keptMsg (v : Int) : MsgT := { MsgT.zero with kind := 1, version := v }
def rowB (x : RepT) (from' w : Int) : Bool := decide (w = from') && !mirSealed x.mirror w
def takeB (x : RepT) (from' w : Int) (y : RowT) : Bool := rowB x from' w && mirTakes x.mirror w y
def rowX (x : RepT) (from' w : Int) (y : RowT) : RepT := if takeB x from' w y then { x with mirror := (mirKeep x.mirror w y).1 } else x
def rowC (x : RepT) (from' w : Int) (y : RowT) (recs : List (List UInt8)) : List (List UInt8) := if takeB x from' w y then recs ++ [encR (mirRec w y)] else recs
def rowO (x : RepT) (from' w : Int) (y : RowT) : List SaidT := if rowB x from' w then [⟨from', keptMsg (mirRow (rowX x from' w y).mirror w).version⟩] else []
section
variable {x : RepT} {from' w : Int} {y : RowT} {recs : List (List UInt8)}
theorem row_no (h : rowB x from' w = false) : rowX x from' w y = x ∧ rowC x from' w y recs = recs ∧ rowO x from' w y = [] := by
 have e : takeB x from' w y = false := by unfold takeB; rw [h]; rfl
 unfold rowO rowX rowC
 rw [e, h]
 exact ⟨rfl, rfl, rfl⟩
theorem row_old (h : rowB x from' w = true) (t : mirTakes x.mirror w y = false) : rowX x from' w y = x ∧ rowC x from' w y recs = recs ∧ rowO x from' w y = [⟨from', keptMsg (mirRow x.mirror w).version⟩] := by
 have e : takeB x from' w y = false := by unfold takeB; rw [h, t]; rfl
 unfold rowO rowX rowC
 rw [e, h]
 exact ⟨rfl, rfl, rfl⟩
theorem row_yes (h : rowB x from' w = true) (t : mirTakes x.mirror w y = true) : rowX x from' w y = { x with mirror := (mirKeep x.mirror w y).1 } ∧ rowC x from' w y recs = recs ++ [encR (mirRec w y)] ∧ rowO x from' w y = [⟨from', keptMsg (mirRow (mirKeep x.mirror w y).1 w).version⟩] := by
 have e : takeB x from' w y = true := by unfold takeB; rw [h, t]; rfl
 unfold rowO rowX rowC
 rw [e, h]
 exact ⟨rfl, rfl, rfl⟩
end
section
variable {x : RepT} {from' w : Int} {v : ViewT} {recs : List (List UInt8)}
end
end Api
end
