/-
  Joined texts: what a statement's proof reaches.
-/
import Derived.Test.YtohmkchalilodaaGreatDoorPLock4
set_option maxHeartbeats 8000000
set_option maxRecDepth 100000
set_option linter.unusedSimpArgs false
set_option linter.unusedVariables false
section
namespace Go.Proofs.YtohmkchalilodaaGreatDoor
open Go Leg Codec Api Dsk Wal
theorem grow_does (r lg d : Nat) (T : Nat) (ov : Value) (sf : Nat) (E : List (List UInt8) → List SaidT → HP) (hS : ∀ c, SendOk T ov sf (E c)) (hP : PutOk lg d E) (x : RepT) (y : RowT) (op : Int) (recs : List (List UInt8)) (l : List SaidT) (hlog : x.log = .pointer (some ⟨lg, 0, none⟩)) (hroom : sizeS recs + piecesN (encR (rowRec y)).length ≤ 2048) (hl : l.length ≤ 900000) (hid : machB x.id = true) :
 Leg.Does Tryz.prog 54 #[(.pointer (some ⟨r, 0, none⟩)), (.iface T ov), (.agg (ints y.flat).toArray), (.int .i64 (op))] (fun _ => True) [blkA r (RepT.cells x) 95, lgL lg d (recs), E (recs) (l)] (Ret (fun r' H => r' = .int .i64 0 ∧ H = [blkA r (RepT.cells (growF x y op)) 95, lgL lg d (recs ++ [encR (rowRec y)]), E (recs ++ [encR (rowRec y)]) (l ++ tellL (growF x y op))])) := by
 refine Leg.Does.body (vs := [(.pointer (some ⟨r, 0, none⟩)), (.iface T ov), (.agg (ints y.flat).toArray), (.int .i64 (op))]) (n := 34) Tryz.func54 rfl rfl rfl (fun w0 F hF => ?_)
 refine sr fun _ J1 => ?_
 refine TL.box (Want.plain rfl) rfl rfl rfl rfl (fun b6 => ?_)
 change TL _ _ _ _ _ _ _ _ _ [blkA b6 (ints y.flat) 74, blkA r (RepT.cells x) 95, lgL lg d (recs), E (recs) (l)]
 refine sg' ?_
 refine nx J1 ?_
 refine TC.seq fun _ J2 => ?_
 refine sr fun _ J3 => ?_
 refine mv ?_
 refine tp (PV.loadN (vs := ints y.flat) rfl Y74 rfl sz74 rfl (Rd.own 0 rfl rfl) (RowT.len y) (whole (RowT.len y))) ?_
 refine tp (PV.buildSegs (cs := ints (RecT.mk 0 0 y 0 BallotT.zero ChangeT.zero ViewT.zero).flat) (segs := [[Value.int .i64 0], [Value.int .i64 0], ints RowT.zero.flat, [Value.int .i64 0], ints BallotT.zero.flat, ints ChangeT.zero.flat, ints ViewT.zero.flat]) (res := [[Value.int .i64 0], [Value.int .i64 0], ints y.flat, [Value.int .i64 0], ints BallotT.zero.flat, ints ChangeT.zero.flat, ints ViewT.zero.flat]) (parts := [(0, [Value.int .i64 0]), (2, ints y.flat)]) rfl rfl Y118 (by kernel_rfl) (by kernel_rfl) rfl (putSegs_step rfl ((rfl : [Value.int .i64 0].length = 1).trans (rfl : [Value.int .i64 0].length = 1).symm) (putSegs_step rfl ((RowT.len y).trans (RowT.len RowT.zero).symm) putSegs_nil)) (RecT.eq (RecT.mk 0 0 y 0 BallotT.zero ChangeT.zero ViewT.zero)).symm) ?_
 refine TL.callR (A := [blkA r (RepT.cells x) 95, lgL lg d (recs), E (recs) (l)]) (Want.plain rfl) rfl rfl rfl nm98 rfl (put_does r lg d E hP x (RecT.mk 0 0 y 0 BallotT.zero ChangeT.zero ViewT.zero) (recs) (l) hlog hroom (Nat.le_trans (rowRec_len y) (by decide))) (fun _ s => sep_selR [1, 1, 1] rfl s) (fun _ _ _ => trivial) (fun vR HR hR => ?_)
 obtain ⟨rfl, rfl⟩ := hR
 change TL _ _ _ _ _ _ _ _ _ [blkA r (RepT.cells x) 95, lgL lg d (recs ++ [encR (RecT.mk 0 0 y 0 BallotT.zero ChangeT.zero ViewT.zero)]), E (recs ++ [encR (RecT.mk 0 0 y 0 BallotT.zero ChangeT.zero ViewT.zero)]) (l), blkA b6 (ints y.flat) 74]
 refine sg' ?_
 refine nx J3 ?_
 refine sr fun _ J4 => ?_
 refine mv ?_
 refine tp (PV.neq rfl rfl rfl) ?_
 refine nx J4 ?_
 refine TC.no rfl ?_
 refine TC.skip ?_
 refine TE.next J2 ?_
 refine sr fun _ J5 => ?_
 refine mv ?_
 refine mv ?_
 refine mv ?_
 refine mv ?_
 refine tp (PV.loadN (vs := ints y.flat) rfl Y74 rfl sz74 rfl (Rd.own 3 rfl rfl) (RowT.len y) (whole (RowT.len y))) ?_
 refine mv ?_
 refine tp (PV.nilCheck rfl rfl) ?_
 refine tp (PV.fieldAddr (r := 9) rfl Y95 rfl sz74 rfl rfl) ?_
 refine TL.store (vs := ints y.flat) (i := 0) (H' := [blkA r (RepT.cells (RepT.mk x.id x.log x.view y x.mirror x.acc x.round x.vote x.book x.busy x.kept x.waits x.ops x.replies x.told x.last)) 95, lgL lg d (recs ++ [encR (RecT.mk 0 0 y 0 BallotT.zero ChangeT.zero ViewT.zero)]), E (recs ++ [encR (RecT.mk 0 0 y 0 BallotT.zero ChangeT.zero ViewT.zero)]) (l), blkA b6 (ints y.flat) 74]) (Want.plain rfl) rfl rfl rfl rfl rfl (by rw [(RowT.len y)]; exact sz74) (ints_one _) rfl rfl (by have h0 := (RepT.len x); have h1 := (RowT.len y); omega) (RepT.wr_own_ x 0 rfl (by have h1 := (RowT.len y); omega) (wwhole ((RowT.len x.own).trans (RowT.len y).symm))) rfl ?_
 refine tp (PV.nilCheck rfl rfl) ?_
 refine tp (PV.fieldAddr (r := 1938) rfl Y95 rfl sz4 rfl rfl) ?_
 refine TL.store1 (i := 0) (H' := [blkA r (RepT.cells (RepT.mk x.id x.log x.view y x.mirror x.acc x.round x.vote x.book true x.kept x.waits x.ops x.replies x.told x.last)) 95, lgL lg d (recs ++ [encR (RecT.mk 0 0 y 0 BallotT.zero ChangeT.zero ViewT.zero)]), E (recs ++ [encR (RecT.mk 0 0 y 0 BallotT.zero ChangeT.zero ViewT.zero)]) (l), blkA b6 (ints y.flat) 74]) (Want.plain rfl) rfl rfl rfl rfl rfl sz4 rfl rfl (by have h0 := (RepT.len (RepT.mk x.id x.log x.view y x.mirror x.acc x.round x.vote x.book x.busy x.kept x.waits x.ops x.replies x.told x.last)); omega) (RepT.set_busy (RepT.mk x.id x.log x.view y x.mirror x.acc x.round x.vote x.book x.busy x.kept x.waits x.ops x.replies x.told x.last) rfl _) rfl ?_
 refine tp (PV.nilCheck rfl rfl) ?_
 refine tp (PV.fieldAddr (r := 1939) rfl Y95 rfl sz3 rfl rfl) ?_
 refine TL.store1 (i := 0) (H' := [blkA r (RepT.cells (RepT.mk x.id x.log x.view y x.mirror x.acc x.round x.vote x.book true 0 x.waits x.ops x.replies x.told x.last)) 95, lgL lg d (recs ++ [encR (RecT.mk 0 0 y 0 BallotT.zero ChangeT.zero ViewT.zero)]), E (recs ++ [encR (RecT.mk 0 0 y 0 BallotT.zero ChangeT.zero ViewT.zero)]) (l), blkA b6 (ints y.flat) 74]) (Want.plain rfl) rfl rfl rfl rfl rfl sz3 rfl rfl (by have h0 := (RepT.len (RepT.mk x.id x.log x.view y x.mirror x.acc x.round x.vote x.book true x.kept x.waits x.ops x.replies x.told x.last)); omega) (RepT.set_kept (RepT.mk x.id x.log x.view y x.mirror x.acc x.round x.vote x.book true x.kept x.waits x.ops x.replies x.told x.last) rfl _) rfl ?_
 refine tp (PV.nilCheck rfl rfl) ?_
 refine tp (PV.fieldAddr (r := 1940) rfl Y95 rfl sz3 rfl rfl) ?_
 refine TL.store1 (i := 0) (H' := [blkA r (RepT.cells (RepT.mk x.id x.log x.view y x.mirror x.acc x.round x.vote x.book true 0 op x.ops x.replies x.told x.last)) 95, lgL lg d (recs ++ [encR (RecT.mk 0 0 y 0 BallotT.zero ChangeT.zero ViewT.zero)]), E (recs ++ [encR (RecT.mk 0 0 y 0 BallotT.zero ChangeT.zero ViewT.zero)]) (l), blkA b6 (ints y.flat) 74]) (Want.plain rfl) rfl rfl rfl rfl rfl sz3 rfl rfl (by have h0 := (RepT.len (RepT.mk x.id x.log x.view y x.mirror x.acc x.round x.vote x.book true 0 x.waits x.ops x.replies x.told x.last)); omega) (RepT.set_waits (RepT.mk x.id x.log x.view y x.mirror x.acc x.round x.vote x.book true 0 x.waits x.ops x.replies x.told x.last) rfl _) rfl ?_
 refine nx J5 ?_
 refine sr fun _ J6 => ?_
 refine mv ?_
 refine mv ?_
 refine TL.callR (A := [blkA r (RepT.cells (RepT.mk x.id x.log x.view y x.mirror x.acc x.round x.vote x.book true 0 op x.ops x.replies x.told x.last)) 95, E (recs ++ [encR (RecT.mk 0 0 y 0 BallotT.zero ChangeT.zero ViewT.zero)]) (l)]) (Want.plain rfl) rfl rfl rfl nm62 rfl (tellRow_does r T ov sf (E (recs ++ [encR (RecT.mk 0 0 y 0 BallotT.zero ChangeT.zero ViewT.zero)])) (hS (recs ++ [encR (RecT.mk 0 0 y 0 BallotT.zero ChangeT.zero ViewT.zero)])) (RepT.mk x.id x.log x.view y x.mirror x.acc x.round x.vote x.book true 0 op x.ops x.replies x.told x.last) (l) hl hid) (fun _ s => sep_selR [0, 1] rfl s) (fun _ _ _ => trivial) (fun vR HR hR => ?_)
 obtain rfl := hR
 change TL _ _ _ _ _ _ _ _ _ [blkA r (RepT.cells (RepT.mk x.id x.log x.view y x.mirror x.acc x.round x.vote x.book true 0 op x.ops x.replies x.told x.last)) 95, E (recs ++ [encR (RecT.mk 0 0 y 0 BallotT.zero ChangeT.zero ViewT.zero)]) (l ++ tellL (RepT.mk x.id x.log x.view y x.mirror x.acc x.round x.vote x.book true 0 op x.ops x.replies x.told x.last)), lgL lg d (recs ++ [encR (RecT.mk 0 0 y 0 BallotT.zero ChangeT.zero ViewT.zero)]), blkA b6 (ints y.flat) 74]
 refine nx J6 ?_
 refine sr fun _ J7 => ?_
 refine sg' ?_
 refine nx J7 ?_
 refine TC.ret ?_
 refine TE.weak (Sub.refl _) (fun _ s => sep_keep [0, 1, 0] rfl s) ?_
 refine TE.ret1 rfl rfl ?_
 exact ⟨rfl, rfl⟩
theorem plan_does (r : Nat) (x : RepT) (o : OpT) :
 Leg.Does Tryz.prog 52 #[(.pointer (some ⟨r, 0, none⟩)), (.agg (ints o.flat).toArray)] (fun _ => True) [blkA r (RepT.cells x) 95] (Ret (fun r' H => r' = .tuple #[.agg (ints (planF x o).1.flat).toArray, .int .i64 (planF x o).2.1, .int .i64 (planF x o).2.2] ∧ H = [blkA r (RepT.cells x) 95])) := by
 refine Leg.Does.body (n := 121) Tryz.func52 rfl rfl rfl (fun w0 F hF => sr fun _ J1 => XB fun b3 => ?_)
 change TL _ _ _ _ _ _ _ _ _ [blkA b3 (ints o.flat) 30, blkA r (RepT.cells x) 95]
 refine XA z74 fun b4 => ?_
 change TL _ _ _ _ _ _ _ _ _ [blkA b4 (ints RowT.zero.flat) 74, blkA b3 (ints o.flat) 30, blkA r (RepT.cells x) 95]
 refine PS ?_
 refine PS ?_
 refine nx J1 ?_
 clear J1
 refine TC.seq fun _ J2 => TC.seq fun _ J3 => D1 2 mixed ?_
 refine PD 0 ?_
 refine PD 1 ?_
 refine FD 2 2 Y95 sz85 ?_
 refine ta 3 rfl (PV.loadN (vs := ints x.view.flat) rfl Y85 rfl sz85 rfl (fun _ h => h.2.1) (ViewT.len x.view) (RepT.sub_view x 0 rfl (by decide) (whole (ViewT.len x.view)))) ?_
 refine PD 4 ?_
 refine PD 5 ?_
 refine FD 6 0 Y95 sz3 ?_
 refine ta 7 rfl (PV.load1 (v := (.int .i64 (x.id))) rfl Y3 rfl rfl (fun _ h => h.2.1) (RepT.at_id x rfl)) ?_
 refine AL 8 ?_
 refine CE nm50 (member_does x.view x.id) (fun _ s => s) ?_
 refine TL.decB (fun h17 => ?_) (fun h17 => ?_)
 refine TL.nil (E1 2 (ta 9 rfl (PV.not (r := false) rfl rfl rfl) ?_))
 refine DN (TE.next J3 ?_)
 clear J3
 refine CN (CX J2 ?_)
 clear J2
 refine TC.seq fun _ J4 => sr fun _ J5 => FA 3 Y30 sz3 ?_
 refine tp (PV.load1 (v := (.int .i64 (o.key))) rfl Y3 rfl rfl (RO 1) (OpT.at_key o rfl)) ?_
 refine PS ?_
 refine TL.dec (fun h22 => ?_) (fun h22 => ?_)
 have hkb : keyB o.key = false := decide_eq_false (by omega)
 refine PS ?_
 iterate 3 refine UT ?_
 refine PS ?_
 refine nx J5 ?_
 clear J5
 refine CY (sr fun _ J6 => tp (PV.build (cells := (ints RowT.zero.flat).toArray) rfl rfl (by as_aux_lemma => kernel_rfl)) ?_)
 refine TL.store (vs := ints RowT.zero.flat) (i := 0) (Want.plain rfl) rfl rfl rfl rfl rfl (by rw [(RowT.len RowT.zero)]; exact sz74) (ints_one _) rfl rfl (LC (RowT.len _) (RowT.len _)) (wwhole ((RowT.len RowT.zero).trans (RowT.len RowT.zero).symm)) rfl (PS ?_)
 refine PS ?_
 refine nx J6 ?_
 clear J6
 refine TC.ret (TE.passRet ?_)
 clear J4
 refine TE.retCTT (H' := [blkA r (RepT.cells x) 95]) rfl rfl rfl rfl Y74 rfl sz74 (RO 0) (RowT.len RowT.zero) (fun _ s => sep_keep [2] rfl s) ?_
 exact ⟨by simp [planF, growOf, *], rfl⟩
 refine PS ?_
 refine FA 3 Y30 sz3 ?_
 refine tq (PV.load1 (v := (.int .i64 (o.key))) rfl Y3 rfl rfl (RO 1) (OpT.at_key o rfl)) ?_
 refine PS ?_
 refine TL.dec (fun h26 => ?_) (fun h26 => ?_)
 have hkb : keyB o.key = false := decide_eq_false (by omega)
 refine PS ?_
 refine nx J5 ?_
 clear J5
 refine CY (sr fun _ J7 => tp (PV.build (cells := (ints RowT.zero.flat).toArray) rfl rfl (by as_aux_lemma => kernel_rfl)) ?_)
 refine TL.store (vs := ints RowT.zero.flat) (i := 0) (Want.plain rfl) rfl rfl rfl rfl rfl (by rw [(RowT.len RowT.zero)]; exact sz74) (ints_one _) rfl rfl (LC (RowT.len _) (RowT.len _)) (wwhole ((RowT.len RowT.zero).trans (RowT.len RowT.zero).symm)) rfl (PS ?_)
 refine PS ?_
 refine nx J7 ?_
 clear J7
 refine TC.ret (TE.passRet ?_)
 clear J4
 refine TE.retCTT (H' := [blkA r (RepT.cells x) 95]) rfl rfl rfl rfl Y74 rfl sz74 (RO 0) (RowT.len RowT.zero) (fun _ s => sep_keep [2] rfl s) ?_
 exact ⟨by simp [planF, growOf, *], rfl⟩
 have hkb : keyB o.key = true := decide_eq_true (by omega)
 refine PS ?_
 refine nx J5 ?_
 clear J5
 refine CN (CX J4 ?_)
 clear J4
 refine TC.seq fun _ J8 => sr fun _ J9 => FA 0 Y30 sz3 ?_
 refine tp (PV.load1 (v := (.int .i64 (o.kind))) rfl Y3 rfl rfl (RO 1) (OpT.at_kind o rfl)) ?_
 refine PS ?_
 refine TL.dec (fun h31 => ?_) (fun h31 => ?_)
 refine nx J9 ?_
 clear J9
 refine CY (TC.seq fun _ J10 => D1 1 mixed ?_)
 refine ta 0 rfl (PV.build (cells := (ints RowT.zero.flat).toArray) rfl rfl (by as_aux_lemma => kernel_rfl)) ?_
 refine PD 1 ?_
 refine PD 2 ?_
 refine FD 3 1068 Y95 sz77 ?_
 refine FD 4 3 Y30 sz3 ?_
 refine ta 5 rfl (PV.load1 (v := (.int .i64 (o.key))) rfl Y3 rfl rfl (fun _ h => h.2.1) (OpT.at_key o rfl)) ?_
 refine AL 6 ?_
 refine CE nm13 (bookValue_does r 1068 95 (fun u => RepT.cells { x with book := u }) (RepT.arnd_book x) x.book o.key) (SM [2]) ?_
 refine TL.nil (E1 2 (AL 7 ?_))
 refine TL.store (vs := ints RowT.zero.flat) (i := 1) (Want.plain rfl) rfl rfl rfl rfl rfl (by rw [(RowT.len RowT.zero)]; exact sz74) (ints_one _) rfl rfl (LC (RowT.len _) (RowT.len _)) (wwhole ((RowT.len RowT.zero).trans (RowT.len RowT.zero).symm)) rfl (TL.nil (E1 2 (PD 8 ?_)))
 refine PD 9 ?_
 refine DN (TE.next J10 ?_)
 clear J10
 refine TC.ret (TE.passRet ?_)
 clear J8
 refine TE.retCTT (H' := [blkA r (RepT.cells x) 95]) rfl rfl rfl rfl Y74 rfl sz74 (RO 1) (RowT.len RowT.zero) (fun _ s => sep_keep [0] rfl s) ?_
 exact ⟨by simp [planF, growOf, *], rfl⟩
 refine nx J9 ?_
 clear J9
 refine CN (CX J8 ?_)
 clear J8
 refine TC.seq fun _ J11 => sr fun _ J12 => PS ?_
 refine PS ?_
 refine FA 1938 Y95 sz4 ?_
 refine tp (PV.load1 (v := (.bool (x.busy))) rfl Y4 rfl rfl (RO 2) (RepT.at_busy x rfl)) ?_
 refine TL.decB (fun h42 => ?_) (fun h42 => ?_)
 refine nx J12 ?_
 clear J12
 refine CY (sr fun _ J13 => tp (PV.build (cells := (ints RowT.zero.flat).toArray) rfl rfl (by as_aux_lemma => kernel_rfl)) ?_)
 refine TL.store (vs := ints RowT.zero.flat) (i := 0) (Want.plain rfl) rfl rfl rfl rfl rfl (by rw [(RowT.len RowT.zero)]; exact sz74) (ints_one _) rfl rfl (LC (RowT.len _) (RowT.len _)) (wwhole ((RowT.len RowT.zero).trans (RowT.len RowT.zero).symm)) rfl (PS ?_)
 refine PS ?_
 refine nx J13 ?_
 clear J13
 refine TC.ret (TE.passRet ?_)
 clear J11
 refine TE.retCTT (H' := [blkA r (RepT.cells x) 95]) rfl rfl rfl rfl Y74 rfl sz74 (RO 0) (RowT.len RowT.zero) (fun _ s => sep_keep [2] rfl s) ?_
 exact ⟨by simp [planF, growOf, *], rfl⟩
 refine nx J12 ?_
 clear J12
 refine CN (CX J11 ?_)
 clear J11
 refine sr fun _ J14 => XA z74 fun b7 => ?_
 change TL _ _ _ _ _ _ _ _ _ [blkA b7 (ints RowT.zero.flat) 74, blkA b4 (ints RowT.zero.flat) 74, blkA b3 (ints o.flat) 30, blkA r (RepT.cells x) 95]
 refine nx J14 ?_
 clear J14
 refine sr fun _ J15 => PS ?_
 refine nx J15 ?_
 clear J15
 refine TC.seq fun _ J16 => sr fun _ J17 => FA 0 Y30 sz3 ?_
 refine tp (PV.load1 (v := (.int .i64 (o.kind))) rfl Y3 rfl rfl (RO 2) (OpT.at_kind o rfl)) ?_
 refine nx J17 ?_
 clear J17
 refine TC.block (sr fun _ J18 => PS ?_)
 refine TL.dec (fun h47 => ?_) (fun h47 => ?_)
 refine PS ?_
 refine nx J18 ?_
 clear J18
 refine CY (D2 3 2 mixed ?_)
 refine PD 0 ?_
 refine PD 1 ?_
 refine FD 2 9 Y95 sz74 ?_
 refine ta 3 rfl (PV.loadN (vs := ints x.own.flat) rfl Y74 rfl sz74 rfl (fun _ h => h.2.1) (RowT.len x.own) (RepT.sub_own x 0 rfl (by decide) (whole (RowT.len x.own)))) ?_
 refine FD 4 3 Y30 sz3 ?_
 refine ta 5 rfl (PV.load1 (v := (.int .i64 (o.key))) rfl Y3 rfl rfl (fun _ h => h.2.2.1) (OpT.at_key o rfl)) ?_
 refine FD 6 4 Y30 sz3 ?_
 refine ta 7 rfl (PV.load1 (v := (.int .i64 (o.n))) rfl Y3 rfl rfl (fun _ h => h.2.2.1) (OpT.at_n o rfl)) ?_
 refine AL 8 ?_
 refine CE nm95 (rowInc_does x.own o.key o.n) (fun _ s => s) ?_
 refine TL.nil (E2 3 2 (PD 9 ?_))
 refine ta 10 rfl (PV.extract (vs := [(.agg (ints ((rowInc x.own o.key o.n).1).flat).toArray), (.int .i64 ((rowInc x.own o.key o.n).2))]) rfl rfl rfl) ?_
 refine ta 11 rfl (PV.extract (vs := [(.agg (ints ((rowInc x.own o.key o.n).1).flat).toArray), (.int .i64 ((rowInc x.own o.key o.n).2))]) rfl rfl rfl) ?_
 refine AL 12 ?_
 refine TL.store (vs := ints ((rowInc x.own o.key o.n).1).flat) (i := 0) (Want.plain rfl) rfl rfl rfl rfl rfl (by rw [(RowT.len ((rowInc x.own o.key o.n).1))]; exact sz74) (ints_one _) rfl rfl (LC (RowT.len _) (RowT.len _)) (wwhole ((RowT.len RowT.zero).trans (RowT.len ((rowInc x.own o.key o.n).1)).symm)) rfl (TL.nil (E2 3 2 (PD 13 ?_)))
 refine DN (TE.blockEnd (TE.next J16 ?_))
 clear J16
 refine TC.seq fun _ J19 => sr fun _ J20 => PS ?_
 refine PS ?_
 refine TL.dec (fun h98 => ?_) (fun h98 => ?_)
 refine nx J20 ?_
 clear J20
 refine CY (sr fun _ J21 => tp (PV.build (cells := (ints RowT.zero.flat).toArray) rfl rfl (by as_aux_lemma => kernel_rfl)) ?_)
 refine PS ?_
 refine TL.store (vs := ints RowT.zero.flat) (i := 1) (Want.plain rfl) rfl rfl rfl rfl rfl (by rw [(RowT.len RowT.zero)]; exact sz74) (ints_one _) rfl rfl (LC (RowT.len _) (RowT.len _)) (wwhole ((RowT.len RowT.zero).trans (RowT.len RowT.zero).symm)) rfl (PS ?_)
 refine PS ?_
 refine nx J21 ?_
 clear J21
 refine TC.ret (TE.passRet ?_)
 clear J19
 refine TE.retCTT (H' := [blkA r (RepT.cells x) 95]) rfl rfl rfl rfl Y74 rfl sz74 (RO 1) (RowT.len RowT.zero) (fun _ s => sep_keep [3] rfl s) ?_
 exact ⟨by simp [planF, growOf, *], rfl⟩
 refine nx J20 ?_
 clear J20
 refine CN (CX J19 ?_)
 clear J19
 refine TC.seq fun _ J22 => TC.seq fun _ J23 => D2 2 3 mixed ?_
 refine FD 0 0 Y30 sz3 ?_
 refine ta 1 rfl (PV.load1 (v := (.int .i64 (o.kind))) rfl Y3 rfl rfl (fun _ h => h.2.1) (OpT.at_kind o rfl)) ?_
 refine PD 2 ?_
 refine TD.dec (fun h103 => ?_) (fun h103 => ?_)
 · exact absurd h47 h103
 refine PD 3 ?_
 refine NT 4 ?_
 refine NT 5 ?_
 refine NT 6 ?_
 refine NT 7 ?_
 refine NT 8 ?_
 refine NT 9 ?_
 refine NT 10 ?_
 refine NT 11 ?_
 refine NT 12 ?_
 refine NT 13 ?_
 refine NT 14 ?_
 refine NT 15 ?_
 refine NT 16 ?_
 refine PD 17 ?_
 refine DN (TE.next J23 ?_)
 clear J23
 refine CN (CX J22 ?_)
 clear J22
 refine sr fun _ J24 => tp (PV.loadN (vs := ints ((rowInc x.own o.key o.n).1).flat) rfl Y74 rfl sz74 rfl (RO 0) (RowT.len ((rowInc x.own o.key o.n).1)) (whole (RowT.len ((rowInc x.own o.key o.n).1)))) ?_
 refine TL.store (vs := ints ((rowInc x.own o.key o.n).1).flat) (i := 1) (Want.plain rfl) rfl rfl rfl rfl rfl (by rw [(RowT.len ((rowInc x.own o.key o.n).1))]; exact sz74) (ints_one _) rfl rfl (LC (RowT.len _) (RowT.len _)) (wwhole ((RowT.len RowT.zero).trans (RowT.len ((rowInc x.own o.key o.n).1)).symm)) rfl (PS ?_)
 refine PS ?_
 refine nx J24 ?_
 clear J24
 refine TC.ret (TE.retCTT (H' := [blkA r (RepT.cells x) 95]) rfl rfl rfl rfl Y74 rfl sz74 (RO 1) (RowT.len ((rowInc x.own o.key o.n).1)) (fun _ s => sep_keep [3] rfl s) ?_)
 exact ⟨by simp [planF, growOf, *], rfl⟩
 refine PS ?_
 refine nx J18 ?_
 clear J18
 refine CN (sr fun _ J25 => PS ?_)
 refine TL.dec (fun h61 => ?_) (fun h61 => ?_)
 refine PS ?_
 refine nx J25 ?_
 clear J25
 refine CY (D2 3 2 mixed ?_)
 refine PD 0 ?_
 refine PD 1 ?_
 refine FD 2 9 Y95 sz74 ?_
 refine ta 3 rfl (PV.loadN (vs := ints x.own.flat) rfl Y74 rfl sz74 rfl (fun _ h => h.2.1) (RowT.len x.own) (RepT.sub_own x 0 rfl (by decide) (whole (RowT.len x.own)))) ?_
 refine FD 4 3 Y30 sz3 ?_
 refine ta 5 rfl (PV.load1 (v := (.int .i64 (o.key))) rfl Y3 rfl rfl (fun _ h => h.2.2.1) (OpT.at_key o rfl)) ?_
 refine FD 6 4 Y30 sz3 ?_
 refine ta 7 rfl (PV.load1 (v := (.int .i64 (o.n))) rfl Y3 rfl rfl (fun _ h => h.2.2.1) (OpT.at_n o rfl)) ?_
 refine AL 8 ?_
 refine CE nm96 (rowDec_does x.own o.key o.n) (fun _ s => s) ?_
 refine TL.nil (E2 3 2 (PD 9 ?_))
 refine ta 10 rfl (PV.extract (vs := [(.agg (ints ((rowDec x.own o.key o.n).1).flat).toArray), (.int .i64 ((rowDec x.own o.key o.n).2))]) rfl rfl rfl) ?_
 refine ta 11 rfl (PV.extract (vs := [(.agg (ints ((rowDec x.own o.key o.n).1).flat).toArray), (.int .i64 ((rowDec x.own o.key o.n).2))]) rfl rfl rfl) ?_
 refine AL 12 ?_
 refine TL.store (vs := ints ((rowDec x.own o.key o.n).1).flat) (i := 0) (Want.plain rfl) rfl rfl rfl rfl rfl (by rw [(RowT.len ((rowDec x.own o.key o.n).1))]; exact sz74) (ints_one _) rfl rfl (LC (RowT.len _) (RowT.len _)) (wwhole ((RowT.len RowT.zero).trans (RowT.len ((rowDec x.own o.key o.n).1)).symm)) rfl (TL.nil (E2 3 2 (PD 13 ?_)))
 refine DN (TE.blockEnd (TE.next J16 ?_))
 clear J16
 refine TC.seq fun _ J26 => sr fun _ J27 => PS ?_
 refine PS ?_
 refine TL.dec (fun h98 => ?_) (fun h98 => ?_)
 refine nx J27 ?_
 clear J27
 refine CY (sr fun _ J28 => tp (PV.build (cells := (ints RowT.zero.flat).toArray) rfl rfl (by as_aux_lemma => kernel_rfl)) ?_)
 refine PS ?_
 refine TL.store (vs := ints RowT.zero.flat) (i := 1) (Want.plain rfl) rfl rfl rfl rfl rfl (by rw [(RowT.len RowT.zero)]; exact sz74) (ints_one _) rfl rfl (LC (RowT.len _) (RowT.len _)) (wwhole ((RowT.len RowT.zero).trans (RowT.len RowT.zero).symm)) rfl (PS ?_)
 refine PS ?_
 refine nx J28 ?_
 clear J28
 refine TC.ret (TE.passRet ?_)
 clear J26
 refine TE.retCTT (H' := [blkA r (RepT.cells x) 95]) rfl rfl rfl rfl Y74 rfl sz74 (RO 1) (RowT.len RowT.zero) (fun _ s => sep_keep [3] rfl s) ?_
 exact ⟨by simp [planF, growOf, *], rfl⟩
 refine nx J27 ?_
 clear J27
 refine CN (CX J26 ?_)
 clear J26
 refine TC.seq fun _ J29 => TC.seq fun _ J30 => D2 2 3 mixed ?_
 refine FD 0 0 Y30 sz3 ?_
 refine ta 1 rfl (PV.load1 (v := (.int .i64 (o.kind))) rfl Y3 rfl rfl (fun _ h => h.2.1) (OpT.at_kind o rfl)) ?_
 refine PD 2 ?_
 refine TD.dec (fun h103 => ?_) (fun h103 => ?_)
 refine PD 3 ?_
 refine PD 4 ?_
 refine PD 5 ?_
 refine FD 6 1068 Y95 sz77 ?_
 refine PD 7 ?_
 refine PD 8 ?_
 refine FD 9 0 Y95 sz3 ?_
 refine tb 10 rfl (PV.load1 (v := (.int .i64 (x.id))) rfl Y3 rfl rfl (fun _ h => h.2.2.1) (RepT.at_id x rfl)) ?_
 refine FD 11 3 Y30 sz3 ?_
 refine tb 12 rfl (PV.load1 (v := (.int .i64 (o.key))) rfl Y3 rfl rfl (fun _ h => h.2.1) (OpT.at_key o rfl)) ?_
 refine FD 14 4 Y30 sz3 ?_
 refine tb 15 rfl (PV.load1 (v := (.int .i64 (o.n))) rfl Y3 rfl rfl (fun _ h => h.2.1) (OpT.at_n o rfl)) ?_
 refine AL 13 ?_
 refine CE nm37 (bookRights_does r 1068 95 (fun u => RepT.cells { x with book := u }) (RepT.arnd_book x) x.book x.id o.key) (SM [3]) ?_
 refine TL.nil (E2 3 0 (PD 16 ?_))
 refine TD.dec (fun h117 => ?_) (fun h117 => ?_)
 refine PD 17 ?_
 refine DN (TE.next J30 ?_)
 clear J30
 refine CY (sr fun _ J31 => tp (PV.build (cells := (ints RowT.zero.flat).toArray) rfl rfl (by as_aux_lemma => kernel_rfl)) ?_)
 refine TL.store (vs := ints RowT.zero.flat) (i := 2) (Want.plain rfl) rfl rfl rfl rfl rfl (by rw [(RowT.len RowT.zero)]; exact sz74) (ints_one _) rfl rfl (LC (RowT.len _) (RowT.len _)) (wwhole ((RowT.len RowT.zero).trans (RowT.len RowT.zero).symm)) rfl (PS ?_)
 refine PS ?_
 refine nx J31 ?_
 clear J31
 refine TC.ret (TE.passRet ?_)
 clear J29
 refine TE.retCTT (H' := [blkA r (RepT.cells x) 95]) rfl rfl rfl rfl Y74 rfl sz74 (RO 2) (RowT.len RowT.zero) (fun _ s => sep_keep [0] rfl s) ?_
 exact ⟨by simp [planF, growOf, *], rfl⟩
 refine PD 17 ?_
 refine DN (TE.next J30 ?_)
 clear J30
 refine CN (CX J29 ?_)
 clear J29
 refine sr fun _ J32 => tp (PV.loadN (vs := ints ((rowDec x.own o.key o.n).1).flat) rfl Y74 rfl sz74 rfl (RO 1) (RowT.len ((rowDec x.own o.key o.n).1)) (whole (RowT.len ((rowDec x.own o.key o.n).1)))) ?_
 refine TL.store (vs := ints ((rowDec x.own o.key o.n).1).flat) (i := 2) (Want.plain rfl) rfl rfl rfl rfl rfl (by rw [(RowT.len ((rowDec x.own o.key o.n).1))]; exact sz74) (ints_one _) rfl rfl (LC (RowT.len _) (RowT.len _)) (wwhole ((RowT.len RowT.zero).trans (RowT.len ((rowDec x.own o.key o.n).1)).symm)) rfl (PS ?_)
 refine PS ?_
 refine nx J32 ?_
 clear J32
 refine TC.ret (TE.retCTT (H' := [blkA r (RepT.cells x) 95]) rfl rfl rfl rfl Y74 rfl sz74 (RO 2) (RowT.len ((rowDec x.own o.key o.n).1)) (fun _ s => sep_keep [0] rfl s) ?_)
 exact ⟨by simp [planF, growOf, *], rfl⟩
 · exact absurd h47 h103
 refine PS ?_
 refine nx J25 ?_
 clear J25
 refine CN (sr fun _ J33 => PS ?_)
 refine TL.dec (fun h75 => ?_) (fun h75 => ?_)
 refine PS ?_
 refine nx J33 ?_
 clear J33
 refine CY (TC.seq fun _ J34 => D2 2 3 mixed ?_)
 refine FD 0 2 Y30 sz3 ?_
 refine ta 1 rfl (PV.load1 (v := (.int .i64 (o.to'))) rfl Y3 rfl rfl (fun _ h => h.2.1) (OpT.at_to' o rfl)) ?_
 refine PD 2 ?_
 refine PD 3 ?_
 refine FD 4 0 Y95 sz3 ?_
 refine ta 5 rfl (PV.load1 (v := (.int .i64 (x.id))) rfl Y3 rfl rfl (fun _ h => h.2.2.1) (RepT.at_id x rfl)) ?_
 refine PD 6 ?_
 refine TD.dec (fun h82 => ?_) (fun h82 => ?_)
 refine DN (TE.next J34 ?_)
 clear J34
 refine CY (D2 3 2 mixed ?_)
 refine PD 0 ?_
 refine PD 1 ?_
 refine FD 2 9 Y95 sz74 ?_
 refine ta 3 rfl (PV.loadN (vs := ints x.own.flat) rfl Y74 rfl sz74 rfl (fun _ h => h.2.1) (RowT.len x.own) (RepT.sub_own x 0 rfl (by decide) (whole (RowT.len x.own)))) ?_
 refine FD 4 3 Y30 sz3 ?_
 refine ta 5 rfl (PV.load1 (v := (.int .i64 (o.key))) rfl Y3 rfl rfl (fun _ h => h.2.2.1) (OpT.at_key o rfl)) ?_
 refine FD 6 4 Y30 sz3 ?_
 refine ta 7 rfl (PV.load1 (v := (.int .i64 (o.n))) rfl Y3 rfl rfl (fun _ h => h.2.2.1) (OpT.at_n o rfl)) ?_
 refine FD 8 2 Y30 sz3 ?_
 refine ta 9 rfl (PV.load1 (v := (.int .i64 (o.to'))) rfl Y3 rfl rfl (fun _ h => h.2.2.1) (OpT.at_to' o rfl)) ?_
 refine AL 10 ?_
 refine CE nm97 (rowGive_does x.own o.key o.n o.to') (fun _ s => s) ?_
 refine TL.nil (E2 3 2 (PD 11 ?_))
 refine ta 12 rfl (PV.extract (vs := [(.agg (ints ((rowGive x.own o.key o.n o.to').1).flat).toArray), (.int .i64 ((rowGive x.own o.key o.n o.to').2))]) rfl rfl rfl) ?_
 refine ta 13 rfl (PV.extract (vs := [(.agg (ints ((rowGive x.own o.key o.n o.to').1).flat).toArray), (.int .i64 ((rowGive x.own o.key o.n o.to').2))]) rfl rfl rfl) ?_
 refine AL 14 ?_
 refine TL.store (vs := ints ((rowGive x.own o.key o.n o.to').1).flat) (i := 0) (Want.plain rfl) rfl rfl rfl rfl rfl (by rw [(RowT.len ((rowGive x.own o.key o.n o.to').1))]; exact sz74) (ints_one _) rfl rfl (LC (RowT.len _) (RowT.len _)) (wwhole ((RowT.len RowT.zero).trans (RowT.len ((rowGive x.own o.key o.n o.to').1)).symm)) rfl (TL.nil (E2 3 2 (PD 15 ?_)))
 refine DN (TE.blockEnd (TE.next J16 ?_))
 clear J16
 refine TC.seq fun _ J35 => sr fun _ J36 => PS ?_
 refine PS ?_
 refine TL.dec (fun h98 => ?_) (fun h98 => ?_)
 refine nx J36 ?_
 clear J36
 refine CY (sr fun _ J37 => tp (PV.build (cells := (ints RowT.zero.flat).toArray) rfl rfl (by as_aux_lemma => kernel_rfl)) ?_)
 refine PS ?_
 refine TL.store (vs := ints RowT.zero.flat) (i := 1) (Want.plain rfl) rfl rfl rfl rfl rfl (by rw [(RowT.len RowT.zero)]; exact sz74) (ints_one _) rfl rfl (LC (RowT.len _) (RowT.len _)) (wwhole ((RowT.len RowT.zero).trans (RowT.len RowT.zero).symm)) rfl (PS ?_)
 refine PS ?_
 refine nx J37 ?_
 clear J37
 refine TC.ret (TE.passRet ?_)
 clear J35
 refine TE.retCTT (H' := [blkA r (RepT.cells x) 95]) rfl rfl rfl rfl Y74 rfl sz74 (RO 1) (RowT.len RowT.zero) (fun _ s => sep_keep [3] rfl s) ?_
 exact ⟨by simp [planF, growOf, *], rfl⟩
 refine nx J36 ?_
 clear J36
 refine CN (CX J35 ?_)
 clear J35
 refine TC.seq fun _ J38 => TC.seq fun _ J39 => D2 2 3 mixed ?_
 refine FD 0 0 Y30 sz3 ?_
 refine ta 1 rfl (PV.load1 (v := (.int .i64 (o.kind))) rfl Y3 rfl rfl (fun _ h => h.2.1) (OpT.at_kind o rfl)) ?_
 refine PD 2 ?_
 refine TD.dec (fun h103 => ?_) (fun h103 => ?_)
 refine PD 3 ?_
 refine PD 4 ?_
 refine PD 5 ?_
 refine FD 6 1068 Y95 sz77 ?_
 refine PD 7 ?_
 refine PD 8 ?_
 refine FD 9 0 Y95 sz3 ?_
 refine tb 10 rfl (PV.load1 (v := (.int .i64 (x.id))) rfl Y3 rfl rfl (fun _ h => h.2.2.1) (RepT.at_id x rfl)) ?_
 refine FD 11 3 Y30 sz3 ?_
 refine tb 12 rfl (PV.load1 (v := (.int .i64 (o.key))) rfl Y3 rfl rfl (fun _ h => h.2.1) (OpT.at_key o rfl)) ?_
 refine FD 14 4 Y30 sz3 ?_
 refine tb 15 rfl (PV.load1 (v := (.int .i64 (o.n))) rfl Y3 rfl rfl (fun _ h => h.2.1) (OpT.at_n o rfl)) ?_
 refine AL 13 ?_
 refine CE nm37 (bookRights_does r 1068 95 (fun u => RepT.cells { x with book := u }) (RepT.arnd_book x) x.book x.id o.key) (SM [3]) ?_
 refine TL.nil (E2 3 0 (PD 16 ?_))
 refine TD.dec (fun h117 => ?_) (fun h117 => ?_)
 refine PD 17 ?_
 refine DN (TE.next J39 ?_)
 clear J39
 refine CY (sr fun _ J40 => tp (PV.build (cells := (ints RowT.zero.flat).toArray) rfl rfl (by as_aux_lemma => kernel_rfl)) ?_)
 refine TL.store (vs := ints RowT.zero.flat) (i := 2) (Want.plain rfl) rfl rfl rfl rfl rfl (by rw [(RowT.len RowT.zero)]; exact sz74) (ints_one _) rfl rfl (LC (RowT.len _) (RowT.len _)) (wwhole ((RowT.len RowT.zero).trans (RowT.len RowT.zero).symm)) rfl (PS ?_)
 refine PS ?_
 refine nx J40 ?_
 clear J40
 refine TC.ret (TE.passRet ?_)
 clear J38
 refine TE.retCTT (H' := [blkA r (RepT.cells x) 95]) rfl rfl rfl rfl Y74 rfl sz74 (RO 2) (RowT.len RowT.zero) (fun _ s => sep_keep [0] rfl s) ?_
 exact ⟨by simp [planF, growOf, *], rfl⟩
 refine PD 17 ?_
 refine DN (TE.next J39 ?_)
 clear J39
 refine CN (CX J38 ?_)
 clear J38
 refine sr fun _ J41 => tp (PV.loadN (vs := ints ((rowGive x.own o.key o.n o.to').1).flat) rfl Y74 rfl sz74 rfl (RO 1) (RowT.len ((rowGive x.own o.key o.n o.to').1)) (whole (RowT.len ((rowGive x.own o.key o.n o.to').1)))) ?_
 refine TL.store (vs := ints ((rowGive x.own o.key o.n o.to').1).flat) (i := 2) (Want.plain rfl) rfl rfl rfl rfl rfl (by rw [(RowT.len ((rowGive x.own o.key o.n o.to').1))]; exact sz74) (ints_one _) rfl rfl (LC (RowT.len _) (RowT.len _)) (wwhole ((RowT.len RowT.zero).trans (RowT.len ((rowGive x.own o.key o.n o.to').1)).symm)) rfl (PS ?_)
 refine PS ?_
 refine nx J41 ?_
 clear J41
 refine TC.ret (TE.retCTT (H' := [blkA r (RepT.cells x) 95]) rfl rfl rfl rfl Y74 rfl sz74 (RO 2) (RowT.len ((rowGive x.own o.key o.n o.to').1)) (fun _ s => sep_keep [0] rfl s) ?_)
 exact ⟨by simp [planF, growOf, *], rfl⟩
 · exact absurd h47 h103
 refine DN (TE.next J34 ?_)
 clear J34
 refine CN (TC.skip (TE.blockEnd (TE.next J16 ?_)))
 clear J16
 refine TC.seq fun _ J42 => sr fun _ J43 => PS ?_
 refine PS ?_
 refine nx J43 ?_
 clear J43
 refine CY (sr fun _ J44 => tp (PV.build (cells := (ints RowT.zero.flat).toArray) rfl rfl (by as_aux_lemma => kernel_rfl)) ?_)
 refine PS ?_
 refine TL.store (vs := ints RowT.zero.flat) (i := 1) (Want.plain rfl) rfl rfl rfl rfl rfl (by rw [(RowT.len RowT.zero)]; exact sz74) (ints_one _) rfl rfl (LC (RowT.len _) (RowT.len _)) (wwhole ((RowT.len RowT.zero).trans (RowT.len RowT.zero).symm)) rfl (PS ?_)
 refine PS ?_
 refine nx J44 ?_
 clear J44
 refine TC.ret (TE.passRet ?_)
 clear J42
 refine TE.retCTT (H' := [blkA r (RepT.cells x) 95]) rfl rfl rfl rfl Y74 rfl sz74 (RO 1) (RowT.len RowT.zero) (fun _ s => sep_keep [3] rfl s) ?_
 exact ⟨by simp [planF, growOf, *], rfl⟩
 refine PS ?_
 refine nx J33 ?_
 clear J33
 refine CN (TC.skip (TE.blockEnd (TE.next J16 ?_)))
 clear J16
 refine TC.seq fun _ J45 => sr fun _ J46 => PS ?_
 refine PS ?_
 refine nx J46 ?_
 clear J46
 refine CY (sr fun _ J47 => tp (PV.build (cells := (ints RowT.zero.flat).toArray) rfl rfl (by as_aux_lemma => kernel_rfl)) ?_)
 refine PS ?_
 refine TL.store (vs := ints RowT.zero.flat) (i := 1) (Want.plain rfl) rfl rfl rfl rfl rfl (by rw [(RowT.len RowT.zero)]; exact sz74) (ints_one _) rfl rfl (LC (RowT.len _) (RowT.len _)) (wwhole ((RowT.len RowT.zero).trans (RowT.len RowT.zero).symm)) rfl (PS ?_)
 refine PS ?_
 refine nx J47 ?_
 clear J47
 refine TC.ret (TE.passRet ?_)
 clear J45
 refine TE.retCTT (H' := [blkA r (RepT.cells x) 95]) rfl rfl rfl rfl Y74 rfl sz74 (RO 1) (RowT.len RowT.zero) (fun _ s => sep_keep [3] rfl s) ?_
 exact ⟨by simp [planF, growOf, *], rfl⟩
 refine TL.nil (E1 2 (ta 9 rfl (PV.not (r := true) rfl rfl rfl) ?_))
 refine DN (TE.next J3 ?_)
 clear J3
 refine CY (sr fun _ J48 => tp (PV.build (cells := (ints RowT.zero.flat).toArray) rfl rfl (by as_aux_lemma => kernel_rfl)) ?_)
 refine TL.store (vs := ints RowT.zero.flat) (i := 0) (Want.plain rfl) rfl rfl rfl rfl rfl (by rw [(RowT.len RowT.zero)]; exact sz74) (ints_one _) rfl rfl (LC (RowT.len _) (RowT.len _)) (wwhole ((RowT.len RowT.zero).trans (RowT.len RowT.zero).symm)) rfl (PS ?_)
 refine PS ?_
 refine nx J48 ?_
 clear J48
 refine TC.ret (TE.passRet ?_)
 clear J2
 refine TE.retCTT (H' := [blkA r (RepT.cells x) 95]) rfl rfl rfl rfl Y74 rfl sz74 (RO 0) (RowT.len RowT.zero) (fun _ s => sep_keep [2] rfl s) ?_
 exact ⟨by simp [planF, growOf, *], rfl⟩
theorem client_does (r lg d : Nat) (T : Nat) (ov : Value) (sf : Nat) (E : List (List UInt8) → List SaidT → HP) (hS : ∀ c, SendOk T ov sf (E c)) (hP : PutOk lg d E) (x : RepT) (o : OpT) (recs : List (List UInt8)) (rs : List ReplyT) (l : List SaidT) (hlog : x.log = .pointer (some ⟨lg, 0, none⟩)) (hroom : (cN x o).2.2 = 0 → ¬ o.kind = 3 → sizeS recs + piecesN (encR (rowRec (cN x o).1)).length ≤ 2048) (hl : l.length ≤ 900000) (hrs : rs.length ≤ 1000000) (hid : machB x.id = true) (hkind : memb x.view x.id = true → o.kind ≠ 4) :
 Leg.Does Tryz.prog 25 #[(.pointer (some ⟨r, 0, none⟩)), (.iface T ov), (.agg (ints o.flat).toArray)] (fun _ => True) [blkA r (RepT.cells x) 95, lgL lg d (recs), E (recs) (l), own x.replies ((rs).length) (ints (List.flatMap ReplyT.flat (rs))) 45 3] (Ret (fun r' H => r' = .int .i64 (cN x o).2.2 ∧ ∃ v', v'.oneCell' = true ∧ H = [blkA r (RepT.cells { clientX x o with replies := v' }) 95, lgL lg d (clientC x o recs), E (clientC x o recs) (l ++ clientO x o), own v' (clientR x o rs).length (ints (List.flatMap ReplyT.flat (clientR x o rs))) 45 3])) := by
 refine Leg.Does.body (n := 74) Tryz.func25 rfl rfl rfl (fun w0 F hF => sr fun _ J1 => TL.ownLen 3 rfl rfl (fun _ hone => XB fun b5 => ?_))
 change TL _ _ _ _ _ _ _ _ _ [blkA b5 (ints o.flat) 30, blkA r (RepT.cells x) 95, lgL lg d (recs), E (recs) (l), own x.replies ((rs).length) (ints (List.flatMap ReplyT.flat (rs))) 45 3]
 refine PS ?_
 refine nx J1 (sr fun _ J2 => PS ?_)
 refine PS ?_
 refine FA 1941 Y95 sz3 ?_
 refine tp (PV.load1 (v := (.int .i64 (x.ops))) rfl Y3 rfl rfl (RO 1) (RepT.at_ops x rfl)) ?_
 refine tp (PV.add (r := (w64 (x.ops + 1))) rfl rfl rfl rfl) ?_
 refine PS ?_
 refine FA 1941 Y95 sz3 ?_
 refine TL.store1 (i := 1) (Want.plain rfl) rfl rfl rfl rfl rfl sz3 rfl rfl (LB (RepT.len _)) (RepT.set_ops x rfl _) rfl (nx J2 (sr fun _ J3 => PS ?_))
 refine PS ?_
 refine FA 1941 Y95 sz3 ?_
 refine tp (PV.load1 (v := (.int .i64 ((w64 (x.ops + 1))))) rfl Y3 rfl rfl (RO 1) (RepT.at_ops _ rfl)) ?_
 refine PS ?_
 refine nx J3 (TC.seq fun _ J4 => TC.seq fun _ J5 => D2 1 0 mixed ?_)
 refine PD 0 ?_
 refine PD 1 ?_
 refine FD 2 2 Y95 sz85 ?_
 refine ta 3 rfl (PV.loadN (vs := ints x.view.flat) rfl Y85 rfl sz85 rfl (fun _ h => h.2.1) (ViewT.len x.view) (RepT.sub_view (RepT.mk x.id x.log x.view x.own x.mirror x.acc x.round x.vote x.book x.busy x.kept x.waits (w64 (x.ops + 1)) x.replies x.told x.last) 0 rfl (by decide) (whole (ViewT.len x.view)))) ?_
 refine PD 4 ?_
 refine PD 5 ?_
 refine FD 6 0 Y95 sz3 ?_
 refine ta 7 rfl (PV.load1 (v := (.int .i64 (x.id))) rfl Y3 rfl rfl (fun _ h => h.2.1) (RepT.at_id _ rfl)) ?_
 refine AL 8 ?_
 refine CE nm50 (member_does x.view x.id) (fun _ s => s) ?_
 refine TL.decB (fun h30 => ?_) (fun h30 => ?_)
 refine TL.nil (E2 1 0 (PD 9 ?_))
 refine FD 10 0 Y30 sz3 ?_
 refine tb 11 rfl (PV.load1 (v := (.int .i64 (o.kind))) rfl Y3 rfl rfl (fun _ h => h.2.2.1) (OpT.at_kind o rfl)) ?_
 refine PD 12 ?_
 refine TD.dec (fun h34 => ?_) (fun h34 => ?_)
 · exact absurd h34 (hkind h30)
 refine PD 13 ?_
 refine DN (TE.next J5 (CN (CX J4 (sr fun _ J6 => PS ?_))))
 refine tp (PV.loadN (vs := ints o.flat) rfl Y30 rfl sz30 rfl (RO 0) (OpT.len o) (whole (OpT.len o))) ?_
 refine CE nm52 (plan_does r (RepT.mk x.id x.log x.view x.own x.mirror x.acc x.round x.vote x.book x.busy x.kept x.waits (w64 (x.ops + 1)) x.replies x.told x.last) o) (SM [1]) ?_
 refine PS ?_
 refine tp (PV.extract (vs := [(.agg (ints ((planF (opsF x) o).1).flat).toArray), (.int .i64 ((planF (opsF x) o).2.1)), (.int .i64 ((planF (opsF x) o).2.2))]) rfl rfl rfl) ?_
 refine tp (PV.extract (vs := [(.agg (ints ((planF (opsF x) o).1).flat).toArray), (.int .i64 ((planF (opsF x) o).2.1)), (.int .i64 ((planF (opsF x) o).2.2))]) rfl rfl rfl) ?_
 refine tp (PV.extract (vs := [(.agg (ints ((planF (opsF x) o).1).flat).toArray), (.int .i64 ((planF (opsF x) o).2.1)), (.int .i64 ((planF (opsF x) o).2.2))]) rfl rfl rfl) ?_
 refine XA z74 fun b8 => ?_
 change TL _ _ _ _ _ _ _ _ _ [blkA b8 (ints RowT.zero.flat) 74, blkA r (RepT.cells (RepT.mk x.id x.log x.view x.own x.mirror x.acc x.round x.vote x.book x.busy x.kept x.waits (w64 (x.ops + 1)) x.replies x.told x.last)) 95, blkA b5 (ints o.flat) 30, lgL lg d (recs), E (recs) (l), own x.replies ((rs).length) (ints (List.flatMap ReplyT.flat (rs))) 45 3]
 refine TL.store (vs := ints ((planF (opsF x) o).1).flat) (i := 0) (Want.plain rfl) rfl rfl rfl rfl rfl (by rw [(RowT.len ((planF (opsF x) o).1))]; exact sz74) (ints_one _) rfl rfl (LC (RowT.len _) (RowT.len _)) (wwhole ((RowT.len RowT.zero).trans (RowT.len ((planF (opsF x) o).1)).symm)) rfl (PS ?_)
 refine PS ?_
 refine nx J6 (TC.seq fun _ J7 => sr fun _ J8 => PS ?_)
 refine PS ?_
 refine TL.dec (fun h50 => ?_) (fun h50 => ?_)
 refine PS ?_
 iterate 3 refine UT ?_
 refine PS ?_
 refine nx J8 (CY (sr fun _ J9 => ?_))
 iterate 4 refine PS ?_
 refine CR nm53 (reply_does r (RepT.mk x.id x.log x.view x.own x.mirror x.acc x.round x.vote x.book x.busy x.kept x.waits (w64 (x.ops + 1)) x.replies x.told x.last) (w64 (x.ops + 1)) ((planF (opsF x) o).2.2) ((planF (opsF x) o).2.1) (rs) hrs) (SM [1, 4]) fun vR HR hR => ?_
 obtain ⟨vr1, hovr1, rfl⟩ := hR
 refine nx J9 (sr fun _ J10 => PS ?_)
 refine PS ?_
 refine nx J10 (TC.ret (TE.passRet (WK [0, 3, 3, 0] (TE.ret1 rfl rfl ?_))))
 have e : doneB x o = true := decide_eq_true (.inl h50)
 simp only [clientX, clientC, clientR, clientO, e, Bool.false_eq_true, ↓reduceIte, List.append_nil]
 exact ⟨rfl, _, hovr1, rfl⟩
 refine PS ?_
 refine FA 0 Y30 sz3 ?_
 refine tq (PV.load1 (v := (.int .i64 (o.kind))) rfl Y3 rfl rfl (RO 2) (OpT.at_kind o rfl)) ?_
 refine PS ?_
 refine TL.dec (fun h54 => ?_) (fun h54 => ?_)
 refine PS ?_
 refine nx J8 (CY (sr fun _ J11 => ?_))
 iterate 4 refine PS ?_
 refine CR nm53 (reply_does r (RepT.mk x.id x.log x.view x.own x.mirror x.acc x.round x.vote x.book x.busy x.kept x.waits (w64 (x.ops + 1)) x.replies x.told x.last) (w64 (x.ops + 1)) ((planF (opsF x) o).2.2) ((planF (opsF x) o).2.1) (rs) hrs) (SM [1, 4]) fun vR HR hR => ?_
 obtain ⟨vr1, hovr1, rfl⟩ := hR
 refine nx J11 (sr fun _ J12 => PS ?_)
 refine PS ?_
 refine nx J12 (TC.ret (TE.passRet (WK [0, 3, 3, 0] (TE.ret1 rfl rfl ?_))))
 have e : doneB x o = true := decide_eq_true (.inr h54)
 simp only [clientX, clientC, clientR, clientO, e, Bool.false_eq_true, ↓reduceIte, List.append_nil]
 exact ⟨rfl, _, hovr1, rfl⟩
 refine PS ?_
 refine nx J8 (CN (CX J7 (TC.seq fun _ J13 => sr fun _ J14 => PS ?_)))
 refine PS ?_
 refine tp (PV.loadN (vs := ints ((planF (opsF x) o).1).flat) rfl Y74 rfl sz74 rfl (RO 0) (RowT.len ((planF (opsF x) o).1)) (whole (RowT.len ((planF (opsF x) o).1)))) ?_
 refine PS ?_
 refine CE nm54 (grow_does r lg d T ov sf E hS hP (RepT.mk x.id x.log x.view x.own x.mirror x.acc x.round x.vote x.book x.busy x.kept x.waits (w64 (x.ops + 1)) x.replies x.told x.last) ((planF (opsF x) o).1) (w64 (x.ops + 1)) (recs) (l) hlog (hroom (show (planF (opsF x) o).2.2 = 0 by omega) h54) hl hid) (SM [1, 2, 2]) ?_
 refine PS ?_
 refine nx J14 (sr fun _ J15 => PS ?_)
 refine PS ?_
 refine nx J15 (CN (CX J13 (sr fun _ J16 => PS ?_)))
 refine PS ?_
 refine nx J16 (TC.ret (WK [0, 0, 0, 2] (TE.ret1 rfl rfl ?_)))
 have e0 : (cN x o).2.2 = 0 := by show (planF (opsF x) o).2.2 = 0; omega
 have e : doneB x o = false := decide_eq_false (fun h => by rcases h with h | h; exact h e0; exact h54 h)
 simp only [clientX, clientC, clientR, clientO, e, Bool.false_eq_true, ↓reduceIte, List.append_nil]
 exact ⟨by rw [e0], _, hone, rfl⟩
 refine TL.nil (E2 1 0 (PD 9 ?_))
 refine NT 10 ?_
 refine NT 11 ?_
 refine NT 12 ?_
 refine PD 13 ?_
 refine DN (TE.next J5 (CN (CX J4 (sr fun _ J17 => PS ?_))))
 refine tp (PV.loadN (vs := ints o.flat) rfl Y30 rfl sz30 rfl (RO 0) (OpT.len o) (whole (OpT.len o))) ?_
 refine CE nm52 (plan_does r (RepT.mk x.id x.log x.view x.own x.mirror x.acc x.round x.vote x.book x.busy x.kept x.waits (w64 (x.ops + 1)) x.replies x.told x.last) o) (SM [1]) ?_
 refine PS ?_
 refine tp (PV.extract (vs := [(.agg (ints ((planF (opsF x) o).1).flat).toArray), (.int .i64 ((planF (opsF x) o).2.1)), (.int .i64 ((planF (opsF x) o).2.2))]) rfl rfl rfl) ?_
 refine tp (PV.extract (vs := [(.agg (ints ((planF (opsF x) o).1).flat).toArray), (.int .i64 ((planF (opsF x) o).2.1)), (.int .i64 ((planF (opsF x) o).2.2))]) rfl rfl rfl) ?_
 refine tp (PV.extract (vs := [(.agg (ints ((planF (opsF x) o).1).flat).toArray), (.int .i64 ((planF (opsF x) o).2.1)), (.int .i64 ((planF (opsF x) o).2.2))]) rfl rfl rfl) ?_
 refine XA z74 fun b8 => ?_
 change TL _ _ _ _ _ _ _ _ _ [blkA b8 (ints RowT.zero.flat) 74, blkA r (RepT.cells (RepT.mk x.id x.log x.view x.own x.mirror x.acc x.round x.vote x.book x.busy x.kept x.waits (w64 (x.ops + 1)) x.replies x.told x.last)) 95, blkA b5 (ints o.flat) 30, lgL lg d (recs), E (recs) (l), own x.replies ((rs).length) (ints (List.flatMap ReplyT.flat (rs))) 45 3]
 refine TL.store (vs := ints ((planF (opsF x) o).1).flat) (i := 0) (Want.plain rfl) rfl rfl rfl rfl rfl (by rw [(RowT.len ((planF (opsF x) o).1))]; exact sz74) (ints_one _) rfl rfl (LC (RowT.len _) (RowT.len _)) (wwhole ((RowT.len RowT.zero).trans (RowT.len ((planF (opsF x) o).1)).symm)) rfl (PS ?_)
 refine PS ?_
 refine nx J17 (TC.seq fun _ J18 => sr fun _ J19 => PS ?_)
 refine PS ?_
 refine TL.dec (fun h50 => ?_) (fun h50 => ?_)
 refine PS ?_
 iterate 3 refine UT ?_
 refine PS ?_
 refine nx J19 (CY (sr fun _ J20 => ?_))
 iterate 4 refine PS ?_
 refine CR nm53 (reply_does r (RepT.mk x.id x.log x.view x.own x.mirror x.acc x.round x.vote x.book x.busy x.kept x.waits (w64 (x.ops + 1)) x.replies x.told x.last) (w64 (x.ops + 1)) ((planF (opsF x) o).2.2) ((planF (opsF x) o).2.1) (rs) hrs) (SM [1, 4]) fun vR HR hR => ?_
 obtain ⟨vr1, hovr1, rfl⟩ := hR
 refine nx J20 (sr fun _ J21 => PS ?_)
 refine PS ?_
 refine nx J21 (TC.ret (TE.passRet (WK [0, 3, 3, 0] (TE.ret1 rfl rfl ?_))))
 have e : doneB x o = true := decide_eq_true (.inl h50)
 simp only [clientX, clientC, clientR, clientO, e, Bool.false_eq_true, ↓reduceIte, List.append_nil]
 exact ⟨rfl, _, hovr1, rfl⟩
 refine PS ?_
 refine FA 0 Y30 sz3 ?_
 refine tq (PV.load1 (v := (.int .i64 (o.kind))) rfl Y3 rfl rfl (RO 2) (OpT.at_kind o rfl)) ?_
 refine PS ?_
 refine TL.dec (fun h54 => ?_) (fun h54 => ?_)
 refine PS ?_
 refine nx J19 (CY (sr fun _ J22 => ?_))
 iterate 4 refine PS ?_
 refine CR nm53 (reply_does r (RepT.mk x.id x.log x.view x.own x.mirror x.acc x.round x.vote x.book x.busy x.kept x.waits (w64 (x.ops + 1)) x.replies x.told x.last) (w64 (x.ops + 1)) ((planF (opsF x) o).2.2) ((planF (opsF x) o).2.1) (rs) hrs) (SM [1, 4]) fun vR HR hR => ?_
 obtain ⟨vr1, hovr1, rfl⟩ := hR
 refine nx J22 (sr fun _ J23 => PS ?_)
 refine PS ?_
 refine nx J23 (TC.ret (TE.passRet (WK [0, 3, 3, 0] (TE.ret1 rfl rfl ?_))))
 have e : doneB x o = true := decide_eq_true (.inr h54)
 simp only [clientX, clientC, clientR, clientO, e, Bool.false_eq_true, ↓reduceIte, List.append_nil]
 exact ⟨rfl, _, hovr1, rfl⟩
 refine PS ?_
 refine nx J19 (CN (CX J18 (TC.seq fun _ J24 => sr fun _ J25 => PS ?_)))
 refine PS ?_
 refine tp (PV.loadN (vs := ints ((planF (opsF x) o).1).flat) rfl Y74 rfl sz74 rfl (RO 0) (RowT.len ((planF (opsF x) o).1)) (whole (RowT.len ((planF (opsF x) o).1)))) ?_
 refine PS ?_
 refine CE nm54 (grow_does r lg d T ov sf E hS hP (RepT.mk x.id x.log x.view x.own x.mirror x.acc x.round x.vote x.book x.busy x.kept x.waits (w64 (x.ops + 1)) x.replies x.told x.last) ((planF (opsF x) o).1) (w64 (x.ops + 1)) (recs) (l) hlog (hroom (show (planF (opsF x) o).2.2 = 0 by omega) h54) hl hid) (SM [1, 2, 2]) ?_
 refine PS ?_
 refine nx J25 (sr fun _ J26 => PS ?_)
 refine PS ?_
 refine nx J26 (CN (CX J24 (sr fun _ J27 => PS ?_)))
 refine PS ?_
 refine nx J27 (TC.ret (WK [0, 0, 0, 2] (TE.ret1 rfl rfl ?_)))
 have e0 : (cN x o).2.2 = 0 := by show (planF (opsF x) o).2.2 = 0; omega
 have e : doneB x o = false := decide_eq_false (fun h => by rcases h with h | h; exact h e0; exact h54 h)
 simp only [clientX, clientC, clientR, clientO, e, Bool.false_eq_true, ↓reduceIte, List.append_nil]
 exact ⟨by rw [e0], _, hone, rfl⟩
theorem planI_does (r : Nat) (x : RepT) (o : OpT) (hk0 : o.kind = 0) :
 Leg.Does Tryz.prog 52 #[(.pointer (some ⟨r, 0, none⟩)), (.agg (ints o.flat).toArray)] (fun _ => True) [blkA r (RepT.cells x) 95] (Ret (fun r' H => r' = .tuple #[.agg (ints (planF x o).1.flat).toArray, .int .i64 (planF x o).2.1, .int .i64 (planF x o).2.2] ∧ H = [blkA r (RepT.cells x) 95])) := by
 refine Leg.Does.body (n := 121) Tryz.func52 rfl rfl rfl (fun w0 F hF => sr fun _ J1 => XB fun b3 => ?_)
 change TL _ _ _ _ _ _ _ _ _ [blkA b3 (ints o.flat) 30, blkA r (RepT.cells x) 95]
 refine XA z74 fun b4 => ?_
 change TL _ _ _ _ _ _ _ _ _ [blkA b4 (ints RowT.zero.flat) 74, blkA b3 (ints o.flat) 30, blkA r (RepT.cells x) 95]
 refine PS ?_
 refine PS ?_
 refine nx J1 ?_
 clear J1
 refine TC.seq fun _ J2 => TC.seq fun _ J3 => D1 2 mixed ?_
 refine PD 0 ?_
 refine PD 1 ?_
 refine FD 2 2 Y95 sz85 ?_
 refine ta 3 rfl (PV.loadN (vs := ints x.view.flat) rfl Y85 rfl sz85 rfl (fun _ h => h.2.1) (ViewT.len x.view) (RepT.sub_view x 0 rfl (by decide) (whole (ViewT.len x.view)))) ?_
 refine PD 4 ?_
 refine PD 5 ?_
 refine FD 6 0 Y95 sz3 ?_
 refine ta 7 rfl (PV.load1 (v := (.int .i64 (x.id))) rfl Y3 rfl rfl (fun _ h => h.2.1) (RepT.at_id x rfl)) ?_
 refine AL 8 ?_
 refine CE nm50 (member_does x.view x.id) (fun _ s => s) ?_
 refine TL.decB (fun h17 => ?_) (fun h17 => ?_)
 refine TL.nil (E1 2 (ta 9 rfl (PV.not (r := false) rfl rfl rfl) ?_))
 refine DN (TE.next J3 ?_)
 clear J3
 refine CN (CX J2 ?_)
 clear J2
 refine TC.seq fun _ J4 => sr fun _ J5 => FA 3 Y30 sz3 ?_
 refine tp (PV.load1 (v := (.int .i64 (o.key))) rfl Y3 rfl rfl (RO 1) (OpT.at_key o rfl)) ?_
 refine PS ?_
 refine TL.dec (fun h22 => ?_) (fun h22 => ?_)
 have hkb : keyB o.key = false := decide_eq_false (by omega)
 refine PS ?_
 iterate 3 refine UT ?_
 refine PS ?_
 refine nx J5 ?_
 clear J5
 refine CY (sr fun _ J6 => tp (PV.build (cells := (ints RowT.zero.flat).toArray) rfl rfl (by as_aux_lemma => kernel_rfl)) ?_)
 refine TL.store (vs := ints RowT.zero.flat) (i := 0) (Want.plain rfl) rfl rfl rfl rfl rfl (by rw [(RowT.len RowT.zero)]; exact sz74) (ints_one _) rfl rfl (LC (RowT.len _) (RowT.len _)) (wwhole ((RowT.len RowT.zero).trans (RowT.len RowT.zero).symm)) rfl (PS ?_)
 refine PS ?_
 refine nx J6 ?_
 clear J6
 refine TC.ret (TE.passRet ?_)
 clear J4
 refine TE.retCTT (H' := [blkA r (RepT.cells x) 95]) rfl rfl rfl rfl Y74 rfl sz74 (RO 0) (RowT.len RowT.zero) (fun _ s => sep_keep [2] rfl s) ?_
 exact ⟨by simp [planF, growOf, *], rfl⟩
 refine PS ?_
 refine FA 3 Y30 sz3 ?_
 refine tq (PV.load1 (v := (.int .i64 (o.key))) rfl Y3 rfl rfl (RO 1) (OpT.at_key o rfl)) ?_
 refine PS ?_
 refine TL.dec (fun h26 => ?_) (fun h26 => ?_)
 have hkb : keyB o.key = false := decide_eq_false (by omega)
 refine PS ?_
 refine nx J5 ?_
 clear J5
 refine CY (sr fun _ J7 => tp (PV.build (cells := (ints RowT.zero.flat).toArray) rfl rfl (by as_aux_lemma => kernel_rfl)) ?_)
 refine TL.store (vs := ints RowT.zero.flat) (i := 0) (Want.plain rfl) rfl rfl rfl rfl rfl (by rw [(RowT.len RowT.zero)]; exact sz74) (ints_one _) rfl rfl (LC (RowT.len _) (RowT.len _)) (wwhole ((RowT.len RowT.zero).trans (RowT.len RowT.zero).symm)) rfl (PS ?_)
 refine PS ?_
 refine nx J7 ?_
 clear J7
 refine TC.ret (TE.passRet ?_)
 clear J4
 refine TE.retCTT (H' := [blkA r (RepT.cells x) 95]) rfl rfl rfl rfl Y74 rfl sz74 (RO 0) (RowT.len RowT.zero) (fun _ s => sep_keep [2] rfl s) ?_
 exact ⟨by simp [planF, growOf, *], rfl⟩
 have hkb : keyB o.key = true := decide_eq_true (by omega)
 refine PS ?_
 refine nx J5 ?_
 clear J5
 refine CN (CX J4 ?_)
 clear J4
 refine TC.seq fun _ J8 => sr fun _ J9 => FA 0 Y30 sz3 ?_
 refine tp (PV.load1 (v := (.int .i64 (o.kind))) rfl Y3 rfl rfl (RO 1) (OpT.at_kind o rfl)) ?_
 refine PS ?_
 refine TL.dec (fun h31 => ?_) (fun h31 => ?_)
 · exact absurd h31 (by omega)
 refine nx J9 ?_
 clear J9
 refine CN (CX J8 ?_)
 clear J8
 refine TC.seq fun _ J10 => sr fun _ J11 => PS ?_
 refine PS ?_
 refine FA 1938 Y95 sz4 ?_
 refine tp (PV.load1 (v := (.bool (x.busy))) rfl Y4 rfl rfl (RO 2) (RepT.at_busy x rfl)) ?_
 refine TL.decB (fun h42 => ?_) (fun h42 => ?_)
 refine nx J11 ?_
 clear J11
 refine CY (sr fun _ J12 => tp (PV.build (cells := (ints RowT.zero.flat).toArray) rfl rfl (by as_aux_lemma => kernel_rfl)) ?_)
 refine TL.store (vs := ints RowT.zero.flat) (i := 0) (Want.plain rfl) rfl rfl rfl rfl rfl (by rw [(RowT.len RowT.zero)]; exact sz74) (ints_one _) rfl rfl (LC (RowT.len _) (RowT.len _)) (wwhole ((RowT.len RowT.zero).trans (RowT.len RowT.zero).symm)) rfl (PS ?_)
 refine PS ?_
 refine nx J12 ?_
 clear J12
 refine TC.ret (TE.passRet ?_)
 clear J10
 refine TE.retCTT (H' := [blkA r (RepT.cells x) 95]) rfl rfl rfl rfl Y74 rfl sz74 (RO 0) (RowT.len RowT.zero) (fun _ s => sep_keep [2] rfl s) ?_
 exact ⟨by simp [planF, growOf, *], rfl⟩
 refine nx J11 ?_
 clear J11
 refine CN (CX J10 ?_)
 clear J10
 refine sr fun _ J13 => XA z74 fun b7 => ?_
 change TL _ _ _ _ _ _ _ _ _ [blkA b7 (ints RowT.zero.flat) 74, blkA b4 (ints RowT.zero.flat) 74, blkA b3 (ints o.flat) 30, blkA r (RepT.cells x) 95]
 refine nx J13 ?_
 clear J13
 refine sr fun _ J14 => PS ?_
 refine nx J14 ?_
 clear J14
 refine TC.seq fun _ J15 => sr fun _ J16 => FA 0 Y30 sz3 ?_
 refine tp (PV.load1 (v := (.int .i64 (o.kind))) rfl Y3 rfl rfl (RO 2) (OpT.at_kind o rfl)) ?_
 refine nx J16 ?_
 clear J16
 refine TC.block (sr fun _ J17 => PS ?_)
 refine TL.dec (fun h47 => ?_) (fun h47 => ?_)
 refine PS ?_
 refine nx J17 ?_
 clear J17
 refine CY (D2 3 2 mixed ?_)
 refine PD 0 ?_
 refine PD 1 ?_
 refine FD 2 9 Y95 sz74 ?_
 refine ta 3 rfl (PV.loadN (vs := ints x.own.flat) rfl Y74 rfl sz74 rfl (fun _ h => h.2.1) (RowT.len x.own) (RepT.sub_own x 0 rfl (by decide) (whole (RowT.len x.own)))) ?_
 refine FD 4 3 Y30 sz3 ?_
 refine ta 5 rfl (PV.load1 (v := (.int .i64 (o.key))) rfl Y3 rfl rfl (fun _ h => h.2.2.1) (OpT.at_key o rfl)) ?_
 refine FD 6 4 Y30 sz3 ?_
 refine ta 7 rfl (PV.load1 (v := (.int .i64 (o.n))) rfl Y3 rfl rfl (fun _ h => h.2.2.1) (OpT.at_n o rfl)) ?_
 refine AL 8 ?_
 refine CE nm95 (rowInc_does x.own o.key o.n) (fun _ s => s) ?_
 refine TL.nil (E2 3 2 (PD 9 ?_))
 refine ta 10 rfl (PV.extract (vs := [(.agg (ints ((rowInc x.own o.key o.n).1).flat).toArray), (.int .i64 ((rowInc x.own o.key o.n).2))]) rfl rfl rfl) ?_
 refine ta 11 rfl (PV.extract (vs := [(.agg (ints ((rowInc x.own o.key o.n).1).flat).toArray), (.int .i64 ((rowInc x.own o.key o.n).2))]) rfl rfl rfl) ?_
 refine AL 12 ?_
 refine TL.store (vs := ints ((rowInc x.own o.key o.n).1).flat) (i := 0) (Want.plain rfl) rfl rfl rfl rfl rfl (by rw [(RowT.len ((rowInc x.own o.key o.n).1))]; exact sz74) (ints_one _) rfl rfl (LC (RowT.len _) (RowT.len _)) (wwhole ((RowT.len RowT.zero).trans (RowT.len ((rowInc x.own o.key o.n).1)).symm)) rfl (TL.nil (E2 3 2 (PD 13 ?_)))
 refine DN (TE.blockEnd (TE.next J15 ?_))
 clear J15
 refine TC.seq fun _ J18 => sr fun _ J19 => PS ?_
 refine PS ?_
 refine TL.dec (fun h98 => ?_) (fun h98 => ?_)
 refine nx J19 ?_
 clear J19
 refine CY (sr fun _ J20 => tp (PV.build (cells := (ints RowT.zero.flat).toArray) rfl rfl (by as_aux_lemma => kernel_rfl)) ?_)
 refine PS ?_
 refine TL.store (vs := ints RowT.zero.flat) (i := 1) (Want.plain rfl) rfl rfl rfl rfl rfl (by rw [(RowT.len RowT.zero)]; exact sz74) (ints_one _) rfl rfl (LC (RowT.len _) (RowT.len _)) (wwhole ((RowT.len RowT.zero).trans (RowT.len RowT.zero).symm)) rfl (PS ?_)
 refine PS ?_
 refine nx J20 ?_
 clear J20
 refine TC.ret (TE.passRet ?_)
 clear J18
 refine TE.retCTT (H' := [blkA r (RepT.cells x) 95]) rfl rfl rfl rfl Y74 rfl sz74 (RO 1) (RowT.len RowT.zero) (fun _ s => sep_keep [3] rfl s) ?_
 exact ⟨by simp [planF, growOf, *], rfl⟩
 refine nx J19 ?_
 clear J19
 refine CN (CX J18 ?_)
 clear J18
 refine TC.seq fun _ J21 => TC.seq fun _ J22 => D2 2 3 mixed ?_
 refine FD 0 0 Y30 sz3 ?_
 refine ta 1 rfl (PV.load1 (v := (.int .i64 (o.kind))) rfl Y3 rfl rfl (fun _ h => h.2.1) (OpT.at_kind o rfl)) ?_
 refine PD 2 ?_
 refine TD.dec (fun h103 => ?_) (fun h103 => ?_)
 · exact absurd hk0 h103
 refine PD 3 ?_
 refine NT 4 ?_
 refine NT 5 ?_
 refine NT 6 ?_
 refine NT 7 ?_
 refine NT 8 ?_
 refine NT 9 ?_
 refine NT 10 ?_
 refine NT 11 ?_
 refine NT 12 ?_
 refine NT 13 ?_
 refine NT 14 ?_
 refine NT 15 ?_
 refine NT 16 ?_
 refine PD 17 ?_
 refine DN (TE.next J22 ?_)
 clear J22
 refine CN (CX J21 ?_)
 clear J21
 refine sr fun _ J23 => tp (PV.loadN (vs := ints ((rowInc x.own o.key o.n).1).flat) rfl Y74 rfl sz74 rfl (RO 0) (RowT.len ((rowInc x.own o.key o.n).1)) (whole (RowT.len ((rowInc x.own o.key o.n).1)))) ?_
 refine TL.store (vs := ints ((rowInc x.own o.key o.n).1).flat) (i := 1) (Want.plain rfl) rfl rfl rfl rfl rfl (by rw [(RowT.len ((rowInc x.own o.key o.n).1))]; exact sz74) (ints_one _) rfl rfl (LC (RowT.len _) (RowT.len _)) (wwhole ((RowT.len RowT.zero).trans (RowT.len ((rowInc x.own o.key o.n).1)).symm)) rfl (PS ?_)
 refine PS ?_
 refine nx J23 ?_
 clear J23
 refine TC.ret (TE.retCTT (H' := [blkA r (RepT.cells x) 95]) rfl rfl rfl rfl Y74 rfl sz74 (RO 1) (RowT.len ((rowInc x.own o.key o.n).1)) (fun _ s => sep_keep [3] rfl s) ?_)
 exact ⟨by simp [planF, growOf, *], rfl⟩
 · exact absurd hk0 h47
 refine TL.nil (E1 2 (ta 9 rfl (PV.not (r := true) rfl rfl rfl) ?_))
 refine DN (TE.next J3 ?_)
 clear J3
 refine CY (sr fun _ J24 => tp (PV.build (cells := (ints RowT.zero.flat).toArray) rfl rfl (by as_aux_lemma => kernel_rfl)) ?_)
 refine TL.store (vs := ints RowT.zero.flat) (i := 0) (Want.plain rfl) rfl rfl rfl rfl rfl (by rw [(RowT.len RowT.zero)]; exact sz74) (ints_one _) rfl rfl (LC (RowT.len _) (RowT.len _)) (wwhole ((RowT.len RowT.zero).trans (RowT.len RowT.zero).symm)) rfl (PS ?_)
 refine PS ?_
 refine nx J24 ?_
 clear J24
 refine TC.ret (TE.passRet ?_)
 clear J2
 refine TE.retCTT (H' := [blkA r (RepT.cells x) 95]) rfl rfl rfl rfl Y74 rfl sz74 (RO 0) (RowT.len RowT.zero) (fun _ s => sep_keep [2] rfl s) ?_
 exact ⟨by simp [planF, growOf, *], rfl⟩
theorem clientI_does (r lg d : Nat) (T : Nat) (ov : Value) (sf : Nat) (E : List (List UInt8) → List SaidT → HP) (hS : ∀ c, SendOk T ov sf (E c)) (hP : PutOk lg d E) (x : RepT) (o : OpT) (recs : List (List UInt8)) (rs : List ReplyT) (l : List SaidT) (hlog : x.log = .pointer (some ⟨lg, 0, none⟩)) (hroom : (cN x o).2.2 = 0 → ¬ o.kind = 3 → sizeS recs + piecesN (encR (rowRec (cN x o).1)).length ≤ 2048) (hl : l.length ≤ 900000) (hrs : rs.length ≤ 1000000) (hid : machB x.id = true) (hk0 : o.kind = 0) :
 Leg.Does Tryz.prog 25 #[(.pointer (some ⟨r, 0, none⟩)), (.iface T ov), (.agg (ints o.flat).toArray)] (fun _ => True) [blkA r (RepT.cells x) 95, lgL lg d (recs), E (recs) (l), own x.replies ((rs).length) (ints (List.flatMap ReplyT.flat (rs))) 45 3] (Ret (fun r' H => r' = .int .i64 (cN x o).2.2 ∧ ∃ v', v'.oneCell' = true ∧ H = [blkA r (RepT.cells { clientX x o with replies := v' }) 95, lgL lg d (clientC x o recs), E (clientC x o recs) (l ++ clientO x o), own v' (clientR x o rs).length (ints (List.flatMap ReplyT.flat (clientR x o rs))) 45 3])) := by
 refine Leg.Does.body (n := 74) Tryz.func25 rfl rfl rfl (fun w0 F hF => sr fun _ J1 => TL.ownLen 3 rfl rfl (fun _ hone => XB fun b5 => ?_))
 change TL _ _ _ _ _ _ _ _ _ [blkA b5 (ints o.flat) 30, blkA r (RepT.cells x) 95, lgL lg d (recs), E (recs) (l), own x.replies ((rs).length) (ints (List.flatMap ReplyT.flat (rs))) 45 3]
 refine PS ?_
 refine nx J1 (sr fun _ J2 => PS ?_)
 refine PS ?_
 refine FA 1941 Y95 sz3 ?_
 refine tp (PV.load1 (v := (.int .i64 (x.ops))) rfl Y3 rfl rfl (RO 1) (RepT.at_ops x rfl)) ?_
 refine tp (PV.add (r := (w64 (x.ops + 1))) rfl rfl rfl rfl) ?_
 refine PS ?_
 refine FA 1941 Y95 sz3 ?_
 refine TL.store1 (i := 1) (Want.plain rfl) rfl rfl rfl rfl rfl sz3 rfl rfl (LB (RepT.len _)) (RepT.set_ops x rfl _) rfl (nx J2 (sr fun _ J3 => PS ?_))
 refine PS ?_
 refine FA 1941 Y95 sz3 ?_
 refine tp (PV.load1 (v := (.int .i64 ((w64 (x.ops + 1))))) rfl Y3 rfl rfl (RO 1) (RepT.at_ops _ rfl)) ?_
 refine PS ?_
 refine nx J3 (TC.seq fun _ J4 => TC.seq fun _ J5 => D2 1 0 mixed ?_)
 refine PD 0 ?_
 refine PD 1 ?_
 refine FD 2 2 Y95 sz85 ?_
 refine ta 3 rfl (PV.loadN (vs := ints x.view.flat) rfl Y85 rfl sz85 rfl (fun _ h => h.2.1) (ViewT.len x.view) (RepT.sub_view (RepT.mk x.id x.log x.view x.own x.mirror x.acc x.round x.vote x.book x.busy x.kept x.waits (w64 (x.ops + 1)) x.replies x.told x.last) 0 rfl (by decide) (whole (ViewT.len x.view)))) ?_
 refine PD 4 ?_
 refine PD 5 ?_
 refine FD 6 0 Y95 sz3 ?_
 refine ta 7 rfl (PV.load1 (v := (.int .i64 (x.id))) rfl Y3 rfl rfl (fun _ h => h.2.1) (RepT.at_id _ rfl)) ?_
 refine AL 8 ?_
 refine CE nm50 (member_does x.view x.id) (fun _ s => s) ?_
 refine TL.decB (fun h30 => ?_) (fun h30 => ?_)
 refine TL.nil (E2 1 0 (PD 9 ?_))
 refine FD 10 0 Y30 sz3 ?_
 refine tb 11 rfl (PV.load1 (v := (.int .i64 (o.kind))) rfl Y3 rfl rfl (fun _ h => h.2.2.1) (OpT.at_kind o rfl)) ?_
 refine PD 12 ?_
 refine TD.dec (fun h34 => ?_) (fun h34 => ?_)
 · exact absurd h34 (by omega)
 refine PD 13 ?_
 refine DN (TE.next J5 (CN (CX J4 (sr fun _ J6 => PS ?_))))
 refine tp (PV.loadN (vs := ints o.flat) rfl Y30 rfl sz30 rfl (RO 0) (OpT.len o) (whole (OpT.len o))) ?_
 refine CE nm52 (planI_does r (RepT.mk x.id x.log x.view x.own x.mirror x.acc x.round x.vote x.book x.busy x.kept x.waits (w64 (x.ops + 1)) x.replies x.told x.last) o hk0) (SM [1]) ?_
 refine PS ?_
 refine tp (PV.extract (vs := [(.agg (ints ((planF (opsF x) o).1).flat).toArray), (.int .i64 ((planF (opsF x) o).2.1)), (.int .i64 ((planF (opsF x) o).2.2))]) rfl rfl rfl) ?_
 refine tp (PV.extract (vs := [(.agg (ints ((planF (opsF x) o).1).flat).toArray), (.int .i64 ((planF (opsF x) o).2.1)), (.int .i64 ((planF (opsF x) o).2.2))]) rfl rfl rfl) ?_
 refine tp (PV.extract (vs := [(.agg (ints ((planF (opsF x) o).1).flat).toArray), (.int .i64 ((planF (opsF x) o).2.1)), (.int .i64 ((planF (opsF x) o).2.2))]) rfl rfl rfl) ?_
 refine XA z74 fun b8 => ?_
 change TL _ _ _ _ _ _ _ _ _ [blkA b8 (ints RowT.zero.flat) 74, blkA r (RepT.cells (RepT.mk x.id x.log x.view x.own x.mirror x.acc x.round x.vote x.book x.busy x.kept x.waits (w64 (x.ops + 1)) x.replies x.told x.last)) 95, blkA b5 (ints o.flat) 30, lgL lg d (recs), E (recs) (l), own x.replies ((rs).length) (ints (List.flatMap ReplyT.flat (rs))) 45 3]
 refine TL.store (vs := ints ((planF (opsF x) o).1).flat) (i := 0) (Want.plain rfl) rfl rfl rfl rfl rfl (by rw [(RowT.len ((planF (opsF x) o).1))]; exact sz74) (ints_one _) rfl rfl (LC (RowT.len _) (RowT.len _)) (wwhole ((RowT.len RowT.zero).trans (RowT.len ((planF (opsF x) o).1)).symm)) rfl (PS ?_)
 refine PS ?_
 refine nx J6 (TC.seq fun _ J7 => sr fun _ J8 => PS ?_)
 refine PS ?_
 refine TL.dec (fun h50 => ?_) (fun h50 => ?_)
 refine PS ?_
 iterate 3 refine UT ?_
 refine PS ?_
 refine nx J8 (CY (sr fun _ J9 => ?_))
 iterate 4 refine PS ?_
 refine CR nm53 (reply_does r (RepT.mk x.id x.log x.view x.own x.mirror x.acc x.round x.vote x.book x.busy x.kept x.waits (w64 (x.ops + 1)) x.replies x.told x.last) (w64 (x.ops + 1)) ((planF (opsF x) o).2.2) ((planF (opsF x) o).2.1) (rs) hrs) (SM [1, 4]) fun vR HR hR => ?_
 obtain ⟨vr1, hovr1, rfl⟩ := hR
 refine nx J9 (sr fun _ J10 => PS ?_)
 refine PS ?_
 refine nx J10 (TC.ret (TE.passRet (WK [0, 3, 3, 0] (TE.ret1 rfl rfl ?_))))
 have e : doneB x o = true := decide_eq_true (.inl h50)
 simp only [clientX, clientC, clientR, clientO, e, Bool.false_eq_true, ↓reduceIte, List.append_nil]
 exact ⟨rfl, _, hovr1, rfl⟩
 refine PS ?_
 refine FA 0 Y30 sz3 ?_
 refine tq (PV.load1 (v := (.int .i64 (o.kind))) rfl Y3 rfl rfl (RO 2) (OpT.at_kind o rfl)) ?_
 refine PS ?_
 refine TL.dec (fun h54 => ?_) (fun h54 => ?_)
 · exact absurd h54 (by omega)
 refine PS ?_
 refine nx J8 (CN (CX J7 (TC.seq fun _ J11 => sr fun _ J12 => PS ?_)))
 refine PS ?_
 refine tp (PV.loadN (vs := ints ((planF (opsF x) o).1).flat) rfl Y74 rfl sz74 rfl (RO 0) (RowT.len ((planF (opsF x) o).1)) (whole (RowT.len ((planF (opsF x) o).1)))) ?_
 refine PS ?_
 refine CE nm54 (grow_does r lg d T ov sf E hS hP (RepT.mk x.id x.log x.view x.own x.mirror x.acc x.round x.vote x.book x.busy x.kept x.waits (w64 (x.ops + 1)) x.replies x.told x.last) ((planF (opsF x) o).1) (w64 (x.ops + 1)) (recs) (l) hlog (hroom (show (planF (opsF x) o).2.2 = 0 by omega) h54) hl hid) (SM [1, 2, 2]) ?_
 refine PS ?_
 refine nx J12 (sr fun _ J13 => PS ?_)
 refine PS ?_
 refine nx J13 (CN (CX J11 (sr fun _ J14 => PS ?_)))
 refine PS ?_
 refine nx J14 (TC.ret (WK [0, 0, 0, 2] (TE.ret1 rfl rfl ?_)))
 have e0 : (cN x o).2.2 = 0 := by show (planF (opsF x) o).2.2 = 0; omega
 have e : doneB x o = false := decide_eq_false (fun h => by rcases h with h | h; exact h e0; exact h54 h)
 simp only [clientX, clientC, clientR, clientO, e, Bool.false_eq_true, ↓reduceIte, List.append_nil]
 exact ⟨by rw [e0], _, hone, rfl⟩
 refine TL.nil (E2 1 0 (PD 9 ?_))
 refine NT 10 ?_
 refine NT 11 ?_
 refine NT 12 ?_
 refine PD 13 ?_
 refine DN (TE.next J5 (CN (CX J4 (sr fun _ J15 => PS ?_))))
 refine tp (PV.loadN (vs := ints o.flat) rfl Y30 rfl sz30 rfl (RO 0) (OpT.len o) (whole (OpT.len o))) ?_
 refine CE nm52 (planI_does r (RepT.mk x.id x.log x.view x.own x.mirror x.acc x.round x.vote x.book x.busy x.kept x.waits (w64 (x.ops + 1)) x.replies x.told x.last) o hk0) (SM [1]) ?_
 refine PS ?_
 refine tp (PV.extract (vs := [(.agg (ints ((planF (opsF x) o).1).flat).toArray), (.int .i64 ((planF (opsF x) o).2.1)), (.int .i64 ((planF (opsF x) o).2.2))]) rfl rfl rfl) ?_
 refine tp (PV.extract (vs := [(.agg (ints ((planF (opsF x) o).1).flat).toArray), (.int .i64 ((planF (opsF x) o).2.1)), (.int .i64 ((planF (opsF x) o).2.2))]) rfl rfl rfl) ?_
 refine tp (PV.extract (vs := [(.agg (ints ((planF (opsF x) o).1).flat).toArray), (.int .i64 ((planF (opsF x) o).2.1)), (.int .i64 ((planF (opsF x) o).2.2))]) rfl rfl rfl) ?_
 refine XA z74 fun b8 => ?_
 change TL _ _ _ _ _ _ _ _ _ [blkA b8 (ints RowT.zero.flat) 74, blkA r (RepT.cells (RepT.mk x.id x.log x.view x.own x.mirror x.acc x.round x.vote x.book x.busy x.kept x.waits (w64 (x.ops + 1)) x.replies x.told x.last)) 95, blkA b5 (ints o.flat) 30, lgL lg d (recs), E (recs) (l), own x.replies ((rs).length) (ints (List.flatMap ReplyT.flat (rs))) 45 3]
 refine TL.store (vs := ints ((planF (opsF x) o).1).flat) (i := 0) (Want.plain rfl) rfl rfl rfl rfl rfl (by rw [(RowT.len ((planF (opsF x) o).1))]; exact sz74) (ints_one _) rfl rfl (LC (RowT.len _) (RowT.len _)) (wwhole ((RowT.len RowT.zero).trans (RowT.len ((planF (opsF x) o).1)).symm)) rfl (PS ?_)
 refine PS ?_
 refine nx J15 (TC.seq fun _ J16 => sr fun _ J17 => PS ?_)
 refine PS ?_
 refine TL.dec (fun h50 => ?_) (fun h50 => ?_)
 refine PS ?_
 iterate 3 refine UT ?_
 refine PS ?_
 refine nx J17 (CY (sr fun _ J18 => ?_))
 iterate 4 refine PS ?_
 refine CR nm53 (reply_does r (RepT.mk x.id x.log x.view x.own x.mirror x.acc x.round x.vote x.book x.busy x.kept x.waits (w64 (x.ops + 1)) x.replies x.told x.last) (w64 (x.ops + 1)) ((planF (opsF x) o).2.2) ((planF (opsF x) o).2.1) (rs) hrs) (SM [1, 4]) fun vR HR hR => ?_
 obtain ⟨vr1, hovr1, rfl⟩ := hR
 refine nx J18 (sr fun _ J19 => PS ?_)
 refine PS ?_
 refine nx J19 (TC.ret (TE.passRet (WK [0, 3, 3, 0] (TE.ret1 rfl rfl ?_))))
 have e : doneB x o = true := decide_eq_true (.inl h50)
 simp only [clientX, clientC, clientR, clientO, e, Bool.false_eq_true, ↓reduceIte, List.append_nil]
 exact ⟨rfl, _, hovr1, rfl⟩
 refine PS ?_
 refine FA 0 Y30 sz3 ?_
 refine tq (PV.load1 (v := (.int .i64 (o.kind))) rfl Y3 rfl rfl (RO 2) (OpT.at_kind o rfl)) ?_
 refine PS ?_
 refine TL.dec (fun h54 => ?_) (fun h54 => ?_)
 · exact absurd h54 (by omega)
 refine PS ?_
 refine nx J17 (CN (CX J16 (TC.seq fun _ J20 => sr fun _ J21 => PS ?_)))
 refine PS ?_
 refine tp (PV.loadN (vs := ints ((planF (opsF x) o).1).flat) rfl Y74 rfl sz74 rfl (RO 0) (RowT.len ((planF (opsF x) o).1)) (whole (RowT.len ((planF (opsF x) o).1)))) ?_
 refine PS ?_
 refine CE nm54 (grow_does r lg d T ov sf E hS hP (RepT.mk x.id x.log x.view x.own x.mirror x.acc x.round x.vote x.book x.busy x.kept x.waits (w64 (x.ops + 1)) x.replies x.told x.last) ((planF (opsF x) o).1) (w64 (x.ops + 1)) (recs) (l) hlog (hroom (show (planF (opsF x) o).2.2 = 0 by omega) h54) hl hid) (SM [1, 2, 2]) ?_
 refine PS ?_
 refine nx J21 (sr fun _ J22 => PS ?_)
 refine PS ?_
 refine nx J22 (CN (CX J20 (sr fun _ J23 => PS ?_)))
 refine PS ?_
 refine nx J23 (TC.ret (WK [0, 0, 0, 2] (TE.ret1 rfl rfl ?_)))
 have e0 : (cN x o).2.2 = 0 := by show (planF (opsF x) o).2.2 = 0; omega
 have e : doneB x o = false := decide_eq_false (fun h => by rcases h with h | h; exact h e0; exact h54 h)
 simp only [clientX, clientC, clientR, clientO, e, Bool.false_eq_true, ↓reduceIte, List.append_nil]
 exact ⟨by rw [e0], _, hone, rfl⟩
end Go.Proofs.YtohmkchalilodaaGreatDoor
end

section
namespace Go.Proofs.YtohmkchalilodaaGreatDoor
open Go Leg Codec Api Dsk Wal
theorem index_does (x : Value) (l : List Int) (v : Int) (hl : l.length ≤ 1000000) :
    Leg.Does Tryz.prog 173 #[x, (.int .i64 (v))] (IsI .i64 x l) [] (Ret (fun r' H => ∃ n : Int, r' = .int .i64 n ∧ (decide (n ≥ 0) = true ↔ v ∈ l) ∧ H = [])) := by
 refine Leg.Does.body (n := 19) Tryz.func173 rfl rfl rfl (fun w0 F hF => sr fun _ J1 => PS ?_)
 refine nx J1 (TC.seq fun _ J2 => sr fun _ J3 => PS ?_)
 refine tp (PV.lenV rfl Y155 rfl hF.len) ?_
 refine PS ?_
 refine nx J3 (TC.block ?_)
 refine TC.loop (α := (Nat)) (fun k => k ≤ l.length ∧ ∀ (j : Nat), j < k → l.getD j 0 ≠ v) (fun k => [(0, x), (1, (.int .i64 (v))), (7, (.int .i64 (((l.length : Nat) : Int)))), (8, (.int .i64 (((k : Nat) : Int))))]) (fun k => []) (fun k => l.length - k) 0
     ⟨Nat.zero_le _, fun j h => absurd h (by omega)⟩ SB
     (fun _ s => s) (fun k hinv => ?_)
 obtain ⟨hk, hv⟩ := hinv
 refine sr fun _ J4 => PS ?_
 refine TL.dec (fun h9 => ?_) (fun h9 => ?_)
 obtain ⟨b_a, off_a, cap_a, cs_a, T_a, z_a, hv_a, hb_a, hcs_a, hcp_a⟩ := IsI.at hF (j := k) (by omega)
 refine nx J4 (TC.seq fun _ J5 => CY (CX J5 (TC.seq fun _ J6 => TC.block (sr fun _ J7 => PS ?_))))
 refine PS ?_
 refine nx J7 (sr fun _ J8 => ?_)
 iterate 3 refine PS ?_
 refine tp (PV.indexSlV (r := off_a + k) hv_a rfl Y155 sz3 rfl rfl (by omega) (by omega) (by omega)) ?_
 refine tp (PV.load1X (v := (.int .i64 ((l.getD k 0)))) rfl Y3 rfl rfl (RdX.frm hb_a (fun _ h => Frm.of h)) hcs_a) ?_
 refine PS ?_
 refine TL.dec (fun h16 => ?_) (fun h16 => ?_)
 refine nx J8 (CY (sr fun _ J9 => PS ?_))
 refine PS ?_
 refine nx J9 (TC.ret (TE.blockRet (TE.passRet (TE.passRet (TE.blockRet (TE.passRet (WK [] (TE.ret1 rfl rfl ?_))))))))
 exact ⟨((k : Nat) : Int), rfl, by rw [decide_eq_true_iff]; exact ⟨fun _ => by rw [h16, List.getD_eq_getElem?_getD, List.getElem?_eq_getElem (by omega)]; exact List.getElem_mem _, fun _ => by omega⟩, rfl⟩
 refine nx J8 (CN (TC.skip (TE.blockEnd (TE.next J6 (TC.region (AD ?_))))))
 refine PS ?_
 refine TL.nil ?_
 exact TE.round ((k + 1) : (Nat)) ⟨by omega, fun j hj => by
        by_cases q : j = k
        · subst q; exact fun e => h16 e.symm
        · exact hv j (by omega)⟩ (by show l.length - (k + 1) < l.length - k; omega)
   SB
   (fun _ s => s)
 refine nx J4 (TC.seq fun _ J10 => CN (TC.exit (TE.pass (TE.pass (TE.hit (TE.next J2 (sr fun _ J11 => PS ?_)))))))
 refine nx J11 (TC.ret (WK [] (TE.ret1 rfl rfl ?_)))
 exact ⟨-1, rfl, by
      rw [decide_eq_true_iff]
      constructor
      · intro h; omega
      · intro h
        obtain ⟨j, hj, e⟩ := List.getElem_of_mem h
        have := hv j (by omega)
        rw [List.getD_eq_getElem?_getD, List.getElem?_eq_getElem hj] at this
        exact absurd e this, rfl⟩
theorem contains_does (x : Value) (l : List Int) (v : Int) (hl : l.length ≤ 1000000) :
 Leg.Does Tryz.prog 150 #[x, (.int .i64 (v))] (IsI .i64 x l) [] (Ret (fun r' H => r' = .bool (decide (v ∈ l)) ∧ H = [])) := by
 refine Leg.Does.body (n := 9) Tryz.func150 rfl rfl rfl (fun w0 F hF => sr fun _ J1 => PS ?_)
 refine nx J1 (sr fun _ J2 => PS ?_)
 refine PS ?_
 refine CQ nm173 (index_does x l v hl) (fun _ s => s) (fun _ d _ => IsI.more hF d) fun vR HR hR => ?_
 obtain ⟨n, rfl, hn, rfl⟩ := hR
 refine PS ?_
 refine PS ?_
 refine nx J2 (TC.ret (WK [] (TE.ret1 rfl rfl ?_)))
 exact ⟨congrArg Value.bool (by rw [Bool.eq_iff_iff, hn, decide_eq_true_iff]), rfl⟩
theorem counted_does (r : Nat) (T : Nat) (ov : Value) (sf : Nat) (E : List SaidT → HP) (hS : SendOk T ov sf E) (x : RepT) (rs : List ReplyT) (l : List SaidT) (hwo : WF x.own.flat) (hal : Alone x) (hl : l.length ≤ 900000) (hrs : rs.length ≤ 1000000) :
 Leg.Does Tryz.prog 151 #[(.pointer (some ⟨r, 0, none⟩)), (.iface T ov)] (fun _ => True) [blkA r (RepT.cells x) 95, own x.replies ((rs).length) (ints (List.flatMap ReplyT.flat (rs))) 45 3, E (l)] (Ret (fun _ H => ∃ v', v'.oneCell' = true ∧ H = [blkA r (RepT.cells { countF x with replies := v' }) 95, own v' (countR x rs).length (ints (List.flatMap ReplyT.flat (countR x rs))) 45 3, E (l ++ newsL x.id x.own)])) := by
 refine Leg.Does.body (vs := [(.pointer (some ⟨r, 0, none⟩)), (.iface T ov)]) (n := 43) Tryz.func151 rfl rfl rfl (fun w0 F hF => ?_)
 refine sr fun _ J1 => ?_
 refine TL.ownLen 1 rfl rfl (fun _ hone => ?_)
 refine mv ?_
 refine tp (PV.nilCheck rfl rfl) ?_
 refine tp (PV.fieldAddr (r := 1938) rfl Y95 rfl sz4 rfl rfl) ?_
 refine TL.store1 (i := 0) (H' := [blkA r (RepT.cells (RepT.mk x.id x.log x.view x.own x.mirror x.acc x.round x.vote x.book false x.kept x.waits x.ops x.replies x.told x.last)) 95, own x.replies ((rs).length) (ints (List.flatMap ReplyT.flat (rs))) 45 3, E (l)]) (Want.plain rfl) rfl rfl rfl rfl rfl sz4 rfl rfl (by have h0 := (RepT.len x); omega) (RepT.set_busy x rfl _) rfl ?_
 refine nx J1 ?_
 refine TC.seq fun _ J2 => ?_
 refine TC.draw (fun w => Frm F w ∧ True) mixed rfl (fun _ s => ⟨Frm.of s, trivial⟩) ?_
 refine ta 0 rfl (PV.move rfl rfl) ?_
 refine ta 1 rfl (PV.nilCheck rfl rfl) ?_
 refine ta 2 rfl (PV.fieldAddr (r := 1068) rfl Y95 rfl sz77 rfl rfl) ?_
 refine ta 3 rfl (PV.move rfl rfl) ?_
 refine ta 4 rfl (PV.nilCheck rfl rfl) ?_
 refine ta 5 rfl (PV.fieldAddr (r := 0) rfl Y95 rfl sz3 rfl rfl) ?_
 refine ta 7 rfl (PV.move rfl rfl) ?_
 refine ta 8 rfl (PV.nilCheck rfl rfl) ?_
 refine ta 9 rfl (PV.fieldAddr (r := 9) rfl Y95 rfl sz74 rfl rfl) ?_
 refine TD.all [6, 10] (by kernel_rfl) rfl ?_
 refine AllT.cons rfl ?_ ?_
 refine tp (PV.load1 (v := (.int .i64 (x.id))) rfl Y3 rfl rfl (Rd.own 0 rfl rfl) (RepT.at_id (RepT.mk x.id x.log x.view x.own x.mirror x.acc x.round x.vote x.book false x.kept x.waits x.ops x.replies x.told x.last) rfl)) ?_
 refine TL.nil ?_
 refine TE.draw (fun _ s => ⟨Frm.of s, trivial⟩) ?_
 refine TD.all [10] (by kernel_rfl) rfl ?_
 refine AllT.cons rfl ?_ ?_
 refine tp (PV.loadN (vs := ints x.own.flat) rfl Y74 rfl sz74 rfl (Rd.own 0 rfl rfl) (RowT.len x.own) (RepT.sub_own (RepT.mk x.id x.log x.view x.own x.mirror x.acc x.round x.vote x.book false x.kept x.waits x.ops x.replies x.told x.last) 0 rfl (by decide) (whole (RowT.len x.own)))) ?_
 refine TL.nil ?_
 refine TE.draw (fun _ s => ⟨Frm.of s, trivial⟩) ?_
 refine TD.all [11] (by kernel_rfl) rfl ?_
 refine AllT.cons rfl ?_ ?_
 refine TL.callR (A := [blkA r (RepT.cells (RepT.mk x.id x.log x.view x.own x.mirror x.acc x.round x.vote x.book false x.kept x.waits x.ops x.replies x.told x.last)) 95]) (Want.plain rfl) rfl rfl rfl nm35 rfl (bookMerge_does r 1068 95 (fun u => RepT.cells { (RepT.mk x.id x.log x.view x.own x.mirror x.acc x.round x.vote x.book false x.kept x.waits x.ops x.replies x.told x.last) with book := u }) (RepT.arnd_book (RepT.mk x.id x.log x.view x.own x.mirror x.acc x.round x.vote x.book false x.kept x.waits x.ops x.replies x.told x.last)) x.book x.id x.own hwo) (fun _ s => s) (fun _ _ _ => trivial) (fun vR HR hR => ?_)
 obtain ⟨rfl, rfl⟩ := hR
 change TL _ _ _ _ _ _ _ _ _ [blkA r (RepT.cells (RepT.mk x.id x.log x.view x.own x.mirror x.acc x.round x.vote ((bookMerge x.book x.id x.own).1) false x.kept x.waits x.ops x.replies x.told x.last)) 95, own x.replies ((rs).length) (ints (List.flatMap ReplyT.flat (rs))) 45 3, E (l)]
 refine TL.nil ?_
 refine TE.draw (fun _ s => ⟨Frm.of s, trivial⟩) ?_
 refine TD.done (by kernel_rfl) ?_
 refine TE.next J2 ?_
 refine TC.seq fun _ J3 => ?_
 refine sr fun _ J4 => ?_
 refine mv ?_
 refine tp (PV.nilCheck rfl rfl) ?_
 refine tp (PV.fieldAddr (r := 1940) rfl Y95 rfl sz3 rfl rfl) ?_
 refine tp (PV.load1 (v := (.int .i64 (x.waits))) rfl Y3 rfl rfl (Rd.own 0 rfl rfl) (RepT.at_waits (RepT.mk x.id x.log x.view x.own x.mirror x.acc x.round x.vote ((bookMerge x.book x.id x.own).1) false x.kept x.waits x.ops x.replies x.told x.last) rfl)) ?_
 refine tp (PV.gtr rfl rfl rfl) ?_
 refine TL.dec (fun h23 => ?_) (fun h23 => ?_)
 refine nx J4 ?_
 refine TC.yes rfl ?_
 refine sr fun _ J5 => ?_
 refine mv ?_
 refine mv ?_
 refine tp (PV.nilCheck rfl rfl) ?_
 refine tp (PV.fieldAddr (r := 1940) rfl Y95 rfl sz3 rfl rfl) ?_
 refine tp (PV.load1 (v := (.int .i64 (x.waits))) rfl Y3 rfl rfl (Rd.own 0 rfl rfl) (RepT.at_waits (RepT.mk x.id x.log x.view x.own x.mirror x.acc x.round x.vote ((bookMerge x.book x.id x.own).1) false x.kept x.waits x.ops x.replies x.told x.last) rfl)) ?_
 refine TL.callR (A := [blkA r (RepT.cells (RepT.mk x.id x.log x.view x.own x.mirror x.acc x.round x.vote ((bookMerge x.book x.id x.own).1) false x.kept x.waits x.ops x.replies x.told x.last)) 95, own x.replies ((rs).length) (ints (List.flatMap ReplyT.flat (rs))) 45 3]) (Want.plain rfl) rfl rfl rfl nm53 rfl (reply_does r (RepT.mk x.id x.log x.view x.own x.mirror x.acc x.round x.vote ((bookMerge x.book x.id x.own).1) false x.kept x.waits x.ops x.replies x.told x.last) x.waits 0 0 (rs) hrs) (fun _ s => s) (fun _ _ _ => trivial) (fun vR HR hR => ?_)
 obtain ⟨vr1, hovr1, rfl⟩ := hR
 change TL _ _ _ _ _ _ _ _ _ [blkA r (RepT.cells (RepT.mk x.id x.log x.view x.own x.mirror x.acc x.round x.vote ((bookMerge x.book x.id x.own).1) false x.kept x.waits x.ops vr1 x.told x.last)) 95, own vr1 ((rs ++ [ReplyT.mk x.waits 0 0]).length) (ints (List.flatMap ReplyT.flat (rs ++ [ReplyT.mk x.waits 0 0]))) 45 3, E (l)]
 refine nx J5 ?_
 refine TC.region ?_
 refine mv ?_
 refine tp (PV.nilCheck rfl rfl) ?_
 refine tp (PV.fieldAddr (r := 1940) rfl Y95 rfl sz3 rfl rfl) ?_
 refine TL.store1 (i := 0) (H' := [blkA r (RepT.cells (RepT.mk x.id x.log x.view x.own x.mirror x.acc x.round x.vote ((bookMerge x.book x.id x.own).1) false x.kept 0 x.ops vr1 x.told x.last)) 95, own vr1 ((rs ++ [ReplyT.mk x.waits 0 0]).length) (ints (List.flatMap ReplyT.flat (rs ++ [ReplyT.mk x.waits 0 0]))) 45 3, E (l)]) (Want.plain rfl) rfl rfl rfl rfl rfl sz3 rfl rfl (by have h0 := (RepT.len (RepT.mk x.id x.log x.view x.own x.mirror x.acc x.round x.vote ((bookMerge x.book x.id x.own).1) false x.kept x.waits x.ops vr1 x.told x.last)); omega) (RepT.set_waits (RepT.mk x.id x.log x.view x.own x.mirror x.acc x.round x.vote ((bookMerge x.book x.id x.own).1) false x.kept x.waits x.ops vr1 x.told x.last) rfl _) rfl ?_
 refine nx J3 ?_
 refine sr fun _ J6 => ?_
 refine mv ?_
 refine mv ?_
 refine mv ?_
 refine tp (PV.nilCheck rfl rfl) ?_
 refine tp (PV.fieldAddr (r := 9) rfl Y95 rfl sz74 rfl rfl) ?_
 refine tp (PV.loadN (vs := ints x.own.flat) rfl Y74 rfl sz74 rfl (Rd.own 0 rfl rfl) (RowT.len x.own) (RepT.sub_own (RepT.mk x.id x.log x.view x.own x.mirror x.acc x.round x.vote ((bookMerge x.book x.id x.own).1) false x.kept 0 x.ops vr1 x.told x.last) 0 rfl (by decide) (whole (RowT.len x.own)))) ?_
 refine TL.callR (A := [blkA r (RepT.cells (RepT.mk x.id x.log x.view x.own x.mirror x.acc x.round x.vote ((bookMerge x.book x.id x.own).1) false x.kept 0 x.ops vr1 x.told x.last)) 95, E (l)]) (Want.plain rfl) rfl rfl rfl nm67 rfl (tellNews_does r T ov sf E hS (RepT.mk x.id x.log x.view x.own x.mirror x.acc x.round x.vote ((bookMerge x.book x.id x.own).1) false x.kept 0 x.ops vr1 x.told x.last) x.own (l) hl) (fun _ s => sep_selR [0, 1] rfl s) (fun _ _ _ => trivial) (fun vR HR hR => ?_)
 obtain rfl := hR
 change TL _ _ _ _ _ _ _ _ _ [blkA r (RepT.cells (RepT.mk x.id x.log x.view x.own x.mirror x.acc x.round x.vote ((bookMerge x.book x.id x.own).1) false x.kept 0 x.ops vr1 x.told x.last)) 95, E (l ++ newsL (RepT.mk x.id x.log x.view x.own x.mirror x.acc x.round x.vote ((bookMerge x.book x.id x.own).1) false x.kept 0 x.ops vr1 x.told x.last).id x.own), own vr1 ((rs ++ [ReplyT.mk x.waits 0 0]).length) (ints (List.flatMap ReplyT.flat (rs ++ [ReplyT.mk x.waits 0 0]))) 45 3]
 refine nx J6 ?_
 refine TC.region ?_
 refine mv ?_
 refine mv ?_
 refine TL.callR (A := [blkA r (RepT.cells (RepT.mk x.id x.log x.view x.own x.mirror x.acc x.round x.vote ((bookMerge x.book x.id x.own).1) false x.kept 0 x.ops vr1 x.told x.last)) 95, E (l ++ newsL (RepT.mk x.id x.log x.view x.own x.mirror x.acc x.round x.vote ((bookMerge x.book x.id x.own).1) false x.kept 0 x.ops vr1 x.told x.last).id x.own)]) (Want.plain rfl) rfl rfl rfl nm63 rfl (comeInto0_does r T ov (RepT.mk x.id x.log x.view x.own x.mirror x.acc x.round x.vote ((bookMerge x.book x.id x.own).1) false x.kept 0 x.ops vr1 x.told x.last) (E (l ++ newsL (RepT.mk x.id x.log x.view x.own x.mirror x.acc x.round x.vote ((bookMerge x.book x.id x.own).1) false x.kept 0 x.ops vr1 x.told x.last).id x.own)) hal) (fun _ s => s) (fun _ _ _ => trivial) (fun vR HR hR => ?_)
 obtain rfl := hR
 change TL _ _ _ _ _ _ _ _ _ [blkA r (RepT.cells (RepT.mk x.id x.log x.view x.own x.mirror x.acc x.round x.vote ((bookMerge x.book x.id x.own).1) false x.kept 0 x.ops vr1 x.told x.last)) 95, E (l ++ newsL (RepT.mk x.id x.log x.view x.own x.mirror x.acc x.round x.vote ((bookMerge x.book x.id x.own).1) false x.kept 0 x.ops vr1 x.told x.last).id x.own), own vr1 ((rs ++ [ReplyT.mk x.waits 0 0]).length) (ints (List.flatMap ReplyT.flat (rs ++ [ReplyT.mk x.waits 0 0]))) 45 3]
 refine TL.nil ?_
 refine TE.weak (Sub.refl _) (fun _ s => sep_keep [0, 1, 0] rfl s) ?_
 refine TE.end0 rfl ?_
 exact ⟨_, hovr1, by rw [countR, if_pos h23, show countF x = { x with busy := false, book := (bookMerge x.book x.id x.own).1, waits := 0 } by rw [countF, if_pos h23]]; rfl⟩
 refine nx J4 ?_
 refine TC.no rfl ?_
 refine TC.skip ?_
 refine TE.next J3 ?_
 refine sr fun _ J7 => ?_
 refine mv ?_
 refine mv ?_
 refine mv ?_
 refine tp (PV.nilCheck rfl rfl) ?_
 refine tp (PV.fieldAddr (r := 9) rfl Y95 rfl sz74 rfl rfl) ?_
 refine tp (PV.loadN (vs := ints x.own.flat) rfl Y74 rfl sz74 rfl (Rd.own 0 rfl rfl) (RowT.len x.own) (RepT.sub_own (RepT.mk x.id x.log x.view x.own x.mirror x.acc x.round x.vote ((bookMerge x.book x.id x.own).1) false x.kept x.waits x.ops x.replies x.told x.last) 0 rfl (by decide) (whole (RowT.len x.own)))) ?_
 refine TL.callR (A := [blkA r (RepT.cells (RepT.mk x.id x.log x.view x.own x.mirror x.acc x.round x.vote ((bookMerge x.book x.id x.own).1) false x.kept x.waits x.ops x.replies x.told x.last)) 95, E (l)]) (Want.plain rfl) rfl rfl rfl nm67 rfl (tellNews_does r T ov sf E hS (RepT.mk x.id x.log x.view x.own x.mirror x.acc x.round x.vote ((bookMerge x.book x.id x.own).1) false x.kept x.waits x.ops x.replies x.told x.last) x.own (l) hl) (fun _ s => sep_selR [0, 1] rfl s) (fun _ _ _ => trivial) (fun vR HR hR => ?_)
 obtain rfl := hR
 change TL _ _ _ _ _ _ _ _ _ [blkA r (RepT.cells (RepT.mk x.id x.log x.view x.own x.mirror x.acc x.round x.vote ((bookMerge x.book x.id x.own).1) false x.kept x.waits x.ops x.replies x.told x.last)) 95, E (l ++ newsL (RepT.mk x.id x.log x.view x.own x.mirror x.acc x.round x.vote ((bookMerge x.book x.id x.own).1) false x.kept x.waits x.ops x.replies x.told x.last).id x.own), own x.replies ((rs).length) (ints (List.flatMap ReplyT.flat (rs))) 45 3]
 refine nx J7 ?_
 refine TC.region ?_
 refine mv ?_
 refine mv ?_
 refine TL.callR (A := [blkA r (RepT.cells (RepT.mk x.id x.log x.view x.own x.mirror x.acc x.round x.vote ((bookMerge x.book x.id x.own).1) false x.kept x.waits x.ops x.replies x.told x.last)) 95, E (l ++ newsL (RepT.mk x.id x.log x.view x.own x.mirror x.acc x.round x.vote ((bookMerge x.book x.id x.own).1) false x.kept x.waits x.ops x.replies x.told x.last).id x.own)]) (Want.plain rfl) rfl rfl rfl nm63 rfl (comeInto0_does r T ov (RepT.mk x.id x.log x.view x.own x.mirror x.acc x.round x.vote ((bookMerge x.book x.id x.own).1) false x.kept x.waits x.ops x.replies x.told x.last) (E (l ++ newsL (RepT.mk x.id x.log x.view x.own x.mirror x.acc x.round x.vote ((bookMerge x.book x.id x.own).1) false x.kept x.waits x.ops x.replies x.told x.last).id x.own)) hal) (fun _ s => s) (fun _ _ _ => trivial) (fun vR HR hR => ?_)
 obtain rfl := hR
 change TL _ _ _ _ _ _ _ _ _ [blkA r (RepT.cells (RepT.mk x.id x.log x.view x.own x.mirror x.acc x.round x.vote ((bookMerge x.book x.id x.own).1) false x.kept x.waits x.ops x.replies x.told x.last)) 95, E (l ++ newsL (RepT.mk x.id x.log x.view x.own x.mirror x.acc x.round x.vote ((bookMerge x.book x.id x.own).1) false x.kept x.waits x.ops x.replies x.told x.last).id x.own), own x.replies ((rs).length) (ints (List.flatMap ReplyT.flat (rs))) 45 3]
 refine TL.nil ?_
 refine TE.weak (Sub.refl _) (fun _ s => sep_keep [0, 1, 0] rfl s) ?_
 refine TE.end0 rfl ?_
 exact ⟨x.replies, hone, by rw [countR, if_neg h23, show countF x = { x with busy := false, book := (bookMerge x.book x.id x.own).1 } by rw [countF, if_neg h23]]; rfl⟩
 exact AllT.nil
 exact AllT.nil
 refine AllT.cons rfl ?_ ?_
 refine tp (PV.loadN (vs := ints x.own.flat) rfl Y74 rfl sz74 rfl (Rd.own 0 rfl rfl) (RowT.len x.own) (RepT.sub_own (RepT.mk x.id x.log x.view x.own x.mirror x.acc x.round x.vote x.book false x.kept x.waits x.ops x.replies x.told x.last) 0 rfl (by decide) (whole (RowT.len x.own)))) ?_
 refine TL.nil ?_
 refine TE.draw (fun _ s => ⟨Frm.of s, trivial⟩) ?_
 refine TD.all [6] (by kernel_rfl) rfl ?_
 refine AllT.cons rfl ?_ ?_
 refine tp (PV.load1 (v := (.int .i64 (x.id))) rfl Y3 rfl rfl (Rd.own 0 rfl rfl) (RepT.at_id (RepT.mk x.id x.log x.view x.own x.mirror x.acc x.round x.vote x.book false x.kept x.waits x.ops x.replies x.told x.last) rfl)) ?_
 refine TL.nil ?_
 refine TE.draw (fun _ s => ⟨Frm.of s, trivial⟩) ?_
 refine TD.all [11] (by kernel_rfl) rfl ?_
 refine AllT.cons rfl ?_ ?_
 refine TL.callR (A := [blkA r (RepT.cells (RepT.mk x.id x.log x.view x.own x.mirror x.acc x.round x.vote x.book false x.kept x.waits x.ops x.replies x.told x.last)) 95]) (Want.plain rfl) rfl rfl rfl nm35 rfl (bookMerge_does r 1068 95 (fun u => RepT.cells { (RepT.mk x.id x.log x.view x.own x.mirror x.acc x.round x.vote x.book false x.kept x.waits x.ops x.replies x.told x.last) with book := u }) (RepT.arnd_book (RepT.mk x.id x.log x.view x.own x.mirror x.acc x.round x.vote x.book false x.kept x.waits x.ops x.replies x.told x.last)) x.book x.id x.own hwo) (fun _ s => s) (fun _ _ _ => trivial) (fun vR HR hR => ?_)
 obtain ⟨rfl, rfl⟩ := hR
 change TL _ _ _ _ _ _ _ _ _ [blkA r (RepT.cells (RepT.mk x.id x.log x.view x.own x.mirror x.acc x.round x.vote ((bookMerge x.book x.id x.own).1) false x.kept x.waits x.ops x.replies x.told x.last)) 95, own x.replies ((rs).length) (ints (List.flatMap ReplyT.flat (rs))) 45 3, E (l)]
 refine TL.nil ?_
 refine TE.draw (fun _ s => ⟨Frm.of s, trivial⟩) ?_
 refine TD.done (by kernel_rfl) ?_
 refine TE.next J2 ?_
 refine TC.seq fun _ J8 => ?_
 refine sr fun _ J9 => ?_
 refine mv ?_
 refine tp (PV.nilCheck rfl rfl) ?_
 refine tp (PV.fieldAddr (r := 1940) rfl Y95 rfl sz3 rfl rfl) ?_
 refine tp (PV.load1 (v := (.int .i64 (x.waits))) rfl Y3 rfl rfl (Rd.own 0 rfl rfl) (RepT.at_waits (RepT.mk x.id x.log x.view x.own x.mirror x.acc x.round x.vote ((bookMerge x.book x.id x.own).1) false x.kept x.waits x.ops x.replies x.told x.last) rfl)) ?_
 refine tp (PV.gtr rfl rfl rfl) ?_
 refine TL.dec (fun h23 => ?_) (fun h23 => ?_)
 refine nx J9 ?_
 refine TC.yes rfl ?_
 refine sr fun _ J10 => ?_
 refine mv ?_
 refine mv ?_
 refine tp (PV.nilCheck rfl rfl) ?_
 refine tp (PV.fieldAddr (r := 1940) rfl Y95 rfl sz3 rfl rfl) ?_
 refine tp (PV.load1 (v := (.int .i64 (x.waits))) rfl Y3 rfl rfl (Rd.own 0 rfl rfl) (RepT.at_waits (RepT.mk x.id x.log x.view x.own x.mirror x.acc x.round x.vote ((bookMerge x.book x.id x.own).1) false x.kept x.waits x.ops x.replies x.told x.last) rfl)) ?_
 refine TL.callR (A := [blkA r (RepT.cells (RepT.mk x.id x.log x.view x.own x.mirror x.acc x.round x.vote ((bookMerge x.book x.id x.own).1) false x.kept x.waits x.ops x.replies x.told x.last)) 95, own x.replies ((rs).length) (ints (List.flatMap ReplyT.flat (rs))) 45 3]) (Want.plain rfl) rfl rfl rfl nm53 rfl (reply_does r (RepT.mk x.id x.log x.view x.own x.mirror x.acc x.round x.vote ((bookMerge x.book x.id x.own).1) false x.kept x.waits x.ops x.replies x.told x.last) x.waits 0 0 (rs) hrs) (fun _ s => s) (fun _ _ _ => trivial) (fun vR HR hR => ?_)
 obtain ⟨vr1, hovr1, rfl⟩ := hR
 change TL _ _ _ _ _ _ _ _ _ [blkA r (RepT.cells (RepT.mk x.id x.log x.view x.own x.mirror x.acc x.round x.vote ((bookMerge x.book x.id x.own).1) false x.kept x.waits x.ops vr1 x.told x.last)) 95, own vr1 ((rs ++ [ReplyT.mk x.waits 0 0]).length) (ints (List.flatMap ReplyT.flat (rs ++ [ReplyT.mk x.waits 0 0]))) 45 3, E (l)]
 refine nx J10 ?_
 refine TC.region ?_
 refine mv ?_
 refine tp (PV.nilCheck rfl rfl) ?_
 refine tp (PV.fieldAddr (r := 1940) rfl Y95 rfl sz3 rfl rfl) ?_
 refine TL.store1 (i := 0) (H' := [blkA r (RepT.cells (RepT.mk x.id x.log x.view x.own x.mirror x.acc x.round x.vote ((bookMerge x.book x.id x.own).1) false x.kept 0 x.ops vr1 x.told x.last)) 95, own vr1 ((rs ++ [ReplyT.mk x.waits 0 0]).length) (ints (List.flatMap ReplyT.flat (rs ++ [ReplyT.mk x.waits 0 0]))) 45 3, E (l)]) (Want.plain rfl) rfl rfl rfl rfl rfl sz3 rfl rfl (by have h0 := (RepT.len (RepT.mk x.id x.log x.view x.own x.mirror x.acc x.round x.vote ((bookMerge x.book x.id x.own).1) false x.kept x.waits x.ops vr1 x.told x.last)); omega) (RepT.set_waits (RepT.mk x.id x.log x.view x.own x.mirror x.acc x.round x.vote ((bookMerge x.book x.id x.own).1) false x.kept x.waits x.ops vr1 x.told x.last) rfl _) rfl ?_
 refine nx J8 ?_
 refine sr fun _ J11 => ?_
 refine mv ?_
 refine mv ?_
 refine mv ?_
 refine tp (PV.nilCheck rfl rfl) ?_
 refine tp (PV.fieldAddr (r := 9) rfl Y95 rfl sz74 rfl rfl) ?_
 refine tp (PV.loadN (vs := ints x.own.flat) rfl Y74 rfl sz74 rfl (Rd.own 0 rfl rfl) (RowT.len x.own) (RepT.sub_own (RepT.mk x.id x.log x.view x.own x.mirror x.acc x.round x.vote ((bookMerge x.book x.id x.own).1) false x.kept 0 x.ops vr1 x.told x.last) 0 rfl (by decide) (whole (RowT.len x.own)))) ?_
 refine TL.callR (A := [blkA r (RepT.cells (RepT.mk x.id x.log x.view x.own x.mirror x.acc x.round x.vote ((bookMerge x.book x.id x.own).1) false x.kept 0 x.ops vr1 x.told x.last)) 95, E (l)]) (Want.plain rfl) rfl rfl rfl nm67 rfl (tellNews_does r T ov sf E hS (RepT.mk x.id x.log x.view x.own x.mirror x.acc x.round x.vote ((bookMerge x.book x.id x.own).1) false x.kept 0 x.ops vr1 x.told x.last) x.own (l) hl) (fun _ s => sep_selR [0, 1] rfl s) (fun _ _ _ => trivial) (fun vR HR hR => ?_)
 obtain rfl := hR
 change TL _ _ _ _ _ _ _ _ _ [blkA r (RepT.cells (RepT.mk x.id x.log x.view x.own x.mirror x.acc x.round x.vote ((bookMerge x.book x.id x.own).1) false x.kept 0 x.ops vr1 x.told x.last)) 95, E (l ++ newsL (RepT.mk x.id x.log x.view x.own x.mirror x.acc x.round x.vote ((bookMerge x.book x.id x.own).1) false x.kept 0 x.ops vr1 x.told x.last).id x.own), own vr1 ((rs ++ [ReplyT.mk x.waits 0 0]).length) (ints (List.flatMap ReplyT.flat (rs ++ [ReplyT.mk x.waits 0 0]))) 45 3]
 refine nx J11 ?_
 refine TC.region ?_
 refine mv ?_
 refine mv ?_
 refine TL.callR (A := [blkA r (RepT.cells (RepT.mk x.id x.log x.view x.own x.mirror x.acc x.round x.vote ((bookMerge x.book x.id x.own).1) false x.kept 0 x.ops vr1 x.told x.last)) 95, E (l ++ newsL (RepT.mk x.id x.log x.view x.own x.mirror x.acc x.round x.vote ((bookMerge x.book x.id x.own).1) false x.kept 0 x.ops vr1 x.told x.last).id x.own)]) (Want.plain rfl) rfl rfl rfl nm63 rfl (comeInto0_does r T ov (RepT.mk x.id x.log x.view x.own x.mirror x.acc x.round x.vote ((bookMerge x.book x.id x.own).1) false x.kept 0 x.ops vr1 x.told x.last) (E (l ++ newsL (RepT.mk x.id x.log x.view x.own x.mirror x.acc x.round x.vote ((bookMerge x.book x.id x.own).1) false x.kept 0 x.ops vr1 x.told x.last).id x.own)) hal) (fun _ s => s) (fun _ _ _ => trivial) (fun vR HR hR => ?_)
 obtain rfl := hR
 change TL _ _ _ _ _ _ _ _ _ [blkA r (RepT.cells (RepT.mk x.id x.log x.view x.own x.mirror x.acc x.round x.vote ((bookMerge x.book x.id x.own).1) false x.kept 0 x.ops vr1 x.told x.last)) 95, E (l ++ newsL (RepT.mk x.id x.log x.view x.own x.mirror x.acc x.round x.vote ((bookMerge x.book x.id x.own).1) false x.kept 0 x.ops vr1 x.told x.last).id x.own), own vr1 ((rs ++ [ReplyT.mk x.waits 0 0]).length) (ints (List.flatMap ReplyT.flat (rs ++ [ReplyT.mk x.waits 0 0]))) 45 3]
 refine TL.nil ?_
 refine TE.weak (Sub.refl _) (fun _ s => sep_keep [0, 1, 0] rfl s) ?_
 refine TE.end0 rfl ?_
 exact ⟨_, hovr1, by rw [countR, if_pos h23, show countF x = { x with busy := false, book := (bookMerge x.book x.id x.own).1, waits := 0 } by rw [countF, if_pos h23]]; rfl⟩
 refine nx J9 ?_
 refine TC.no rfl ?_
 refine TC.skip ?_
 refine TE.next J8 ?_
 refine sr fun _ J12 => ?_
 refine mv ?_
 refine mv ?_
 refine mv ?_
 refine tp (PV.nilCheck rfl rfl) ?_
 refine tp (PV.fieldAddr (r := 9) rfl Y95 rfl sz74 rfl rfl) ?_
 refine tp (PV.loadN (vs := ints x.own.flat) rfl Y74 rfl sz74 rfl (Rd.own 0 rfl rfl) (RowT.len x.own) (RepT.sub_own (RepT.mk x.id x.log x.view x.own x.mirror x.acc x.round x.vote ((bookMerge x.book x.id x.own).1) false x.kept x.waits x.ops x.replies x.told x.last) 0 rfl (by decide) (whole (RowT.len x.own)))) ?_
 refine TL.callR (A := [blkA r (RepT.cells (RepT.mk x.id x.log x.view x.own x.mirror x.acc x.round x.vote ((bookMerge x.book x.id x.own).1) false x.kept x.waits x.ops x.replies x.told x.last)) 95, E (l)]) (Want.plain rfl) rfl rfl rfl nm67 rfl (tellNews_does r T ov sf E hS (RepT.mk x.id x.log x.view x.own x.mirror x.acc x.round x.vote ((bookMerge x.book x.id x.own).1) false x.kept x.waits x.ops x.replies x.told x.last) x.own (l) hl) (fun _ s => sep_selR [0, 1] rfl s) (fun _ _ _ => trivial) (fun vR HR hR => ?_)
 obtain rfl := hR
 change TL _ _ _ _ _ _ _ _ _ [blkA r (RepT.cells (RepT.mk x.id x.log x.view x.own x.mirror x.acc x.round x.vote ((bookMerge x.book x.id x.own).1) false x.kept x.waits x.ops x.replies x.told x.last)) 95, E (l ++ newsL (RepT.mk x.id x.log x.view x.own x.mirror x.acc x.round x.vote ((bookMerge x.book x.id x.own).1) false x.kept x.waits x.ops x.replies x.told x.last).id x.own), own x.replies ((rs).length) (ints (List.flatMap ReplyT.flat (rs))) 45 3]
 refine nx J12 ?_
 refine TC.region ?_
 refine mv ?_
 refine mv ?_
 refine TL.callR (A := [blkA r (RepT.cells (RepT.mk x.id x.log x.view x.own x.mirror x.acc x.round x.vote ((bookMerge x.book x.id x.own).1) false x.kept x.waits x.ops x.replies x.told x.last)) 95, E (l ++ newsL (RepT.mk x.id x.log x.view x.own x.mirror x.acc x.round x.vote ((bookMerge x.book x.id x.own).1) false x.kept x.waits x.ops x.replies x.told x.last).id x.own)]) (Want.plain rfl) rfl rfl rfl nm63 rfl (comeInto0_does r T ov (RepT.mk x.id x.log x.view x.own x.mirror x.acc x.round x.vote ((bookMerge x.book x.id x.own).1) false x.kept x.waits x.ops x.replies x.told x.last) (E (l ++ newsL (RepT.mk x.id x.log x.view x.own x.mirror x.acc x.round x.vote ((bookMerge x.book x.id x.own).1) false x.kept x.waits x.ops x.replies x.told x.last).id x.own)) hal) (fun _ s => s) (fun _ _ _ => trivial) (fun vR HR hR => ?_)
 obtain rfl := hR
 change TL _ _ _ _ _ _ _ _ _ [blkA r (RepT.cells (RepT.mk x.id x.log x.view x.own x.mirror x.acc x.round x.vote ((bookMerge x.book x.id x.own).1) false x.kept x.waits x.ops x.replies x.told x.last)) 95, E (l ++ newsL (RepT.mk x.id x.log x.view x.own x.mirror x.acc x.round x.vote ((bookMerge x.book x.id x.own).1) false x.kept x.waits x.ops x.replies x.told x.last).id x.own), own x.replies ((rs).length) (ints (List.flatMap ReplyT.flat (rs))) 45 3]
 refine TL.nil ?_
 refine TE.weak (Sub.refl _) (fun _ s => sep_keep [0, 1, 0] rfl s) ?_
 refine TE.end0 rfl ?_
 exact ⟨x.replies, hone, by rw [countR, if_neg h23, show countF x = { x with busy := false, book := (bookMerge x.book x.id x.own).1 } by rw [countF, if_neg h23]]; rfl⟩
 exact AllT.nil
 exact AllT.nil
 exact AllT.nil
theorem takeKept_does (r : Nat) (T : Nat) (ov : Value) (sf : Nat) (E : List SaidT → HP) (hS : SendOk T ov sf E) (x : RepT) (from' : Int) (m : MsgT) (rs : List ReplyT) (l : List SaidT) (hid : machB x.id = true) (hwo : WF x.own.flat) (hal : Alone x) (hl : l.length ≤ 900000) (hrs : rs.length ≤ 1000000) :
 Leg.Does Tryz.prog 106 #[(.pointer (some ⟨r, 0, none⟩)), (.iface T ov), (.int .i64 (from')), (.agg (ints m.flat).toArray)] (fun _ => True) [blkA r (RepT.cells x) 95, own x.replies ((rs).length) (ints (List.flatMap ReplyT.flat (rs))) 45 3, E (l)] (Ret (fun _ H => ∃ v', v'.oneCell' = true ∧ H = [blkA r (RepT.cells { keptS x from' m.version with replies := v' }) 95, own v' (keptR x from' m.version rs).length (ints (List.flatMap ReplyT.flat (keptR x from' m.version rs))) 45 3, E (l ++ keptO x from' m.version)])) := by
 refine Leg.Does.body (n := 64) Tryz.func106 rfl rfl rfl (fun w0 F hF => ?_)
 have hid2 : 0 ≤ x.id ∧ x.id < 5 := of_decide_eq_true hid
 refine sr fun _ J1 => TL.ownLen 1 rfl rfl (fun _ hone => XB fun b7 => ?_)
 change TL _ _ _ _ _ _ _ _ _ [blkA b7 (ints m.flat) 134, blkA r (RepT.cells x) 95, own x.replies ((rs).length) (ints (List.flatMap ReplyT.flat (rs))) 45 3, E (l)]
 refine nx J1 (sr fun _ J2 => PS ?_)
 refine PS ?_
 refine FA 0 Y95 sz3 ?_
 refine tp (PV.load1 (v := (.int .i64 (x.id))) rfl Y3 rfl rfl (RO 1) (RepT.at_id x rfl)) ?_
 refine CR nm111 (wit2_does x.id hid) (fun _ s => s) fun vR HR hR => ?_
 obtain ⟨_, rfl, rfl⟩ := hR
 revert vR
 intro uw
 refine TL.ownLen 0 rfl rfl (fun hluw _ => TL.ownAt 0 rfl rfl (by omega) (fun gw capw hvw hcapw => PS ?_))
 refine nx J2 (TC.seq fun _ J3 => TC.seq fun _ J4 => D2 2 1 mixed ?_)
 refine PD 0 ?_
 refine PD 1 ?_
 refine FD 2 1938 Y95 sz4 ?_
 refine ta 3 rfl (PV.load1 (v := (.bool (x.busy))) rfl Y4 rfl rfl (fun _ h => h.2.1) (RepT.at_busy x rfl)) ?_
 refine TD.decB (fun h19 => ?_) (fun h19 => ?_)
 refine ta 4 rfl (PV.not (r := false) rfl rfl rfl) ?_
 refine PD 5 ?_
 refine FD 6 176 Y134 sz3 ?_
 refine tb 7 rfl (PV.load1 (v := (.int .i64 (m.version))) rfl Y3 rfl rfl (fun _ h => h.2.2.1) (MsgT.at_version m rfl)) ?_
 refine PD 8 ?_
 refine PD 9 ?_
 refine FD 10 9 Y95 sz74 ?_
 refine FD 11 9 Y74 sz3 ?_
 refine tb 12 rfl (PV.load1 (v := (.int .i64 (x.own.version))) rfl Y3 rfl rfl (fun _ h => h.2.1) (RepT.pt_own x 0 rfl (by decide) (RowT.at_version x.own rfl))) ?_
 refine PD 13 ?_
 refine TD.dec (fun h29 => ?_) (fun h29 => ?_)
 refine PD 14 ?_
 refine PD 15 ?_
 refine NT 16 ?_
 refine NT 17 ?_
 refine NT 18 ?_
 refine NT 19 ?_
 refine PD 20 ?_
 refine DN (TE.next J4 (CY (TC.ret (TE.passRet (WK [2, 2, 2] (TE.ret0 rfl ?_))))))
 have ew : witL x.id = [(x.id + 1) % 5, (x.id + 2) % 5] := by rw [witL, if_pos hid]
 have e : keptB x from' m.version = false := by rw [keptB, ew, decide_eq_false h29]; simp
 exact ⟨x.replies, hone, by rw [show keptS x from' m.version = x by rw [keptS, e]; rfl, show keptR x from' m.version rs = rs by rw [keptR, e]; rfl, show keptO x from' m.version = [] by rw [keptO, e]; rfl, List.append_nil]; rfl⟩
 refine PD 14 ?_
 refine PD 15 ?_
 refine PD 16 ?_
 refine PD 17 ?_
 refine AL 18 ?_
 refine CF nm150 (contains_does uw [(x.id + 1) % 5, (x.id + 2) % 5] from' (by decide : 2 ≤ 1000000)) (fun _ s => s) (isI_own (l := [(x.id + 1) % 5, (x.id + 2) % 5]) 0 rfl rfl) ?_
 refine TL.dec (fun h34 => ?_) (fun h34 => ?_)
 have hmem := h34
 simp only [List.mem_cons, List.not_mem_nil, or_false] at hmem
 have hfr : 0 ≤ from' ∧ from' < 5 := by omega
 refine TL.nil (E2 2 1 (tb 19 rfl (PV.not (r := false) rfl rfl rfl) ?_))
 refine PD 20 ?_
 refine DN (TE.next J4 (CN (CX J3 (TC.seq fun _ J5 => D0 mixed ?_))))
 refine PD 0 ?_
 refine PD 1 ?_
 refine FD 2 1939 Y95 sz3 ?_
 refine PD 4 ?_
 refine ta 5 rfl (PV.shl (r := (IntKind.i64.wrap (1 * 2 ^ min from'.toNat IntKind.i64.bits))) rfl rfl rfl (by omega) rfl) ?_
 refine AL 3 ?_
 refine tp (PV.load1 (v := (.int .i64 (x.kept))) rfl Y3 rfl rfl (RO 2) (RepT.at_kept x rfl)) ?_
 refine TL.nil (E0 (ta 6 rfl (PV.or (r := (orI .i64 x.kept (IntKind.i64.wrap (1 * 2 ^ min from'.toNat IntKind.i64.bits)))) rfl rfl rfl rfl) ?_))
 refine PD 7 ?_
 refine FD 8 1939 Y95 sz3 ?_
 refine AL 9 ?_
 refine TL.store1 (i := 2) (Want.plain rfl) rfl rfl rfl rfl rfl sz3 rfl rfl (LB (RepT.len _)) (RepT.set_kept x rfl _) rfl (TL.nil (E0 (DN (TE.next J5 (TC.seq fun _ J6 => sr fun _ J7 => PS ?_)))))
 refine tp (PV.lenV rfl Y155 rfl hluw) ?_
 refine PS ?_
 refine nx J7 (TC.block (TC.unroll 2 (sr fun _ J8 => PS ?_)))
 refine nx J8 (TC.seq fun _ J9 => CY (CX J9 (TC.seq fun _ J10 => TC.block (sr fun _ J11 => tp (PV.indexSlV (r := 0) hvw rfl Y155 sz3 rfl rfl (by omega) (by omega) rfl) ?_))))
 refine tp (PV.load1X (v := (.int .i64 (((x.id + 1) % 5)))) rfl Y3 rfl rfl (RdX.own 0 rfl hvw rfl) rfl) ?_
 refine PS ?_
 refine nx J11 (sr fun _ J12 => PS ?_)
 refine PS ?_
 refine FA 1939 Y95 sz3 ?_
 refine tp (PV.load1 (v := (.int .i64 ((orI .i64 x.kept (IntKind.i64.wrap (1 * 2 ^ min from'.toNat IntKind.i64.bits)))))) rfl Y3 rfl rfl (RO 2) (RepT.at_kept _ rfl)) ?_
 refine PS ?_
 refine tp (PV.shr (r := ((orI .i64 x.kept (IntKind.i64.wrap (1 * 2 ^ min from'.toNat IntKind.i64.bits))).fdiv (2 ^ min (((x.id + 1) % 5)).toNat IntKind.i64.bits))) rfl rfl rfl (by omega) rfl) ?_
 refine tp (PV.and (r := (((orI .i64 x.kept (IntKind.i64.wrap (1 * 2 ^ min from'.toNat IntKind.i64.bits))).fdiv (2 ^ min (((x.id + 1) % 5)).toNat IntKind.i64.bits)) % 2)) rfl rfl rfl (mask (k := 1) (by decide) _)) ?_
 refine PS ?_
 refine TL.dec (fun h59 => ?_) (fun h59 => ?_)
 refine nx J12 (CY (TC.ret (TE.blockRet (TE.passRet (TE.passRet (TE.blockRet (TE.passRet (WK [2, 2, 2] (TE.ret0 rfl ?_)))))))))
 have ew : witL x.id = [(x.id + 1) % 5, (x.id + 2) % 5] := by rw [witL, if_pos hid]
 have e : keptB x from' m.version = true := by rw [keptB, h19, ew, decide_eq_true (show m.version = x.own.version by omega), decide_eq_true h34]; rfl
 have e2 : fullB (keptX x from') = false := by rw [fullB, show witL (keptX x from').id = [(x.id + 1) % 5, (x.id + 2) % 5] from ew]; simp only [List.all_cons, List.all_nil, bit0, keptX, *, decide_true, decide_false, Bool.not_true, Bool.not_false, Bool.and_true, Bool.true_and, Bool.false_and, Bool.and_false]
 exact ⟨x.replies, hone, by rw [show keptS x from' m.version = keptX x from' by rw [keptS, e, if_pos rfl, e2]; rfl, show keptR x from' m.version rs = rs by rw [keptR, e, e2]; rfl, show keptO x from' m.version = [] by rw [keptO, e, e2]; rfl, List.append_nil]; rfl⟩
 refine nx J12 (CN (TC.skip (TE.blockEnd (TE.next J10 (TC.region (tp (PV.add (r := 1) rfl rfl rfl (by decide)) ?_))))))
 refine PS ?_
 refine TL.nil (TE.again (sr fun _ J13 => PS ?_))
 refine nx J13 (TC.seq fun _ J14 => CY (CX J14 (TC.seq fun _ J15 => TC.block (sr fun _ J16 => tp (PV.indexSlV (r := 1) hvw rfl Y155 sz3 rfl rfl (by omega) (by omega) rfl) ?_))))
 refine tp (PV.load1X (v := (.int .i64 (((x.id + 2) % 5)))) rfl Y3 rfl rfl (RdX.own 0 rfl hvw rfl) rfl) ?_
 refine PS ?_
 refine nx J16 (sr fun _ J17 => PS ?_)
 refine PS ?_
 refine FA 1939 Y95 sz3 ?_
 refine tp (PV.load1 (v := (.int .i64 ((orI .i64 x.kept (IntKind.i64.wrap (1 * 2 ^ min from'.toNat IntKind.i64.bits)))))) rfl Y3 rfl rfl (RO 2) (RepT.at_kept _ rfl)) ?_
 refine PS ?_
 refine tp (PV.shr (r := ((orI .i64 x.kept (IntKind.i64.wrap (1 * 2 ^ min from'.toNat IntKind.i64.bits))).fdiv (2 ^ min (((x.id + 2) % 5)).toNat IntKind.i64.bits))) rfl rfl rfl (by omega) rfl) ?_
 refine tp (PV.and (r := (((orI .i64 x.kept (IntKind.i64.wrap (1 * 2 ^ min from'.toNat IntKind.i64.bits))).fdiv (2 ^ min (((x.id + 2) % 5)).toNat IntKind.i64.bits)) % 2)) rfl rfl rfl (mask (k := 1) (by decide) _)) ?_
 refine PS ?_
 refine TL.dec (fun h59 => ?_) (fun h59 => ?_)
 refine nx J17 (CY (TC.ret (TE.blockRet (TE.passRet (TE.passRet (TE.blockRet (TE.passRet (WK [2, 2, 2] (TE.ret0 rfl ?_)))))))))
 have ew : witL x.id = [(x.id + 1) % 5, (x.id + 2) % 5] := by rw [witL, if_pos hid]
 have e : keptB x from' m.version = true := by rw [keptB, h19, ew, decide_eq_true (show m.version = x.own.version by omega), decide_eq_true h34]; rfl
 have e2 : fullB (keptX x from') = false := by rw [fullB, show witL (keptX x from').id = [(x.id + 1) % 5, (x.id + 2) % 5] from ew]; simp only [List.all_cons, List.all_nil, bit0, keptX, *, decide_true, decide_false, Bool.not_true, Bool.not_false, Bool.and_true, Bool.true_and, Bool.false_and, Bool.and_false]
 exact ⟨x.replies, hone, by rw [show keptS x from' m.version = keptX x from' by rw [keptS, e, if_pos rfl, e2]; rfl, show keptR x from' m.version rs = rs by rw [keptR, e, e2]; rfl, show keptO x from' m.version = [] by rw [keptO, e, e2]; rfl, List.append_nil]; rfl⟩
 refine nx J17 (CN (TC.skip (TE.blockEnd (TE.next J15 (TC.region (tp (PV.add (r := 2) rfl rfl rfl (by decide)) ?_))))))
 refine PS ?_
 refine TL.nil (TE.again (sr fun _ J18 => PS ?_))
 refine nx J18 (TC.seq fun _ J19 => CN (TC.exit (TE.pass (TE.pass (TE.hit (TE.next J6 (TC.region (PS ?_))))))))
 refine PS ?_
 refine CR nm151 (counted_does r T ov sf E hS (RepT.mk x.id x.log x.view x.own x.mirror x.acc x.round x.vote x.book x.busy (orI .i64 x.kept (IntKind.i64.wrap (1 * 2 ^ min from'.toNat IntKind.i64.bits))) x.waits x.ops x.replies x.told x.last) (rs) (l) hwo hal hl hrs) (SM [2, 2, 2]) fun vR HR hR => ?_
 obtain ⟨vk, hvk, rfl⟩ := hR
 refine TL.nil (WK [0, 0, 0] (TE.end0 rfl ?_))
 have ew : witL x.id = [(x.id + 1) % 5, (x.id + 2) % 5] := by rw [witL, if_pos hid]
 have e : keptB x from' m.version = true := by rw [keptB, h19, ew, decide_eq_true (show m.version = x.own.version by omega), decide_eq_true h34]; rfl
 have e2 : fullB (keptX x from') = true := by rw [fullB, show witL (keptX x from').id = [(x.id + 1) % 5, (x.id + 2) % 5] from ew]; simp only [List.all_cons, List.all_nil, bit0, keptX, *, decide_true, decide_false, Bool.not_true, Bool.not_false, Bool.and_true, Bool.true_and, Bool.false_and, Bool.and_false]
 exact ⟨vk, hvk, by rw [show keptS x from' m.version = countF (keptX x from') by rw [keptS, e, if_pos rfl, e2, if_pos rfl], show keptR x from' m.version rs = countR (keptX x from') rs by rw [keptR, e, e2]; rfl, show keptO x from' m.version = newsL x.id x.own by rw [keptO, e, e2]; rfl]; rfl⟩
 refine TL.nil (E2 2 1 (tb 19 rfl (PV.not (r := true) rfl rfl rfl) ?_))
 refine PD 20 ?_
 refine DN (TE.next J4 (CY (TC.ret (TE.passRet (WK [2, 2, 2] (TE.ret0 rfl ?_))))))
 have ew : witL x.id = [(x.id + 1) % 5, (x.id + 2) % 5] := by rw [witL, if_pos hid]
 have e : keptB x from' m.version = false := by rw [keptB, ew, decide_eq_false h34]; simp
 exact ⟨x.replies, hone, by rw [show keptS x from' m.version = x by rw [keptS, e]; rfl, show keptR x from' m.version rs = rs by rw [keptR, e]; rfl, show keptO x from' m.version = [] by rw [keptO, e]; rfl, List.append_nil]; rfl⟩
 refine ta 4 rfl (PV.not (r := true) rfl rfl rfl) ?_
 refine PD 5 ?_
 refine NT 6 ?_
 refine NT 7 ?_
 refine NT 8 ?_
 refine NT 9 ?_
 refine NT 10 ?_
 refine NT 11 ?_
 refine NT 12 ?_
 refine NT 13 ?_
 refine PD 14 ?_
 refine PD 15 ?_
 refine NT 16 ?_
 refine NT 17 ?_
 refine NT 18 ?_
 refine NT 19 ?_
 refine PD 20 ?_
 refine DN (TE.next J4 (CY (TC.ret (TE.passRet (WK [2, 2, 2] (TE.ret0 rfl ?_))))))
 have ew : witL x.id = [(x.id + 1) % 5, (x.id + 2) % 5] := by rw [witL, if_pos hid]
 have e : keptB x from' m.version = false := by rw [keptB, ew, h19]; simp
 exact ⟨x.replies, hone, by rw [show keptS x from' m.version = x by rw [keptS, e]; rfl, show keptR x from' m.version rs = rs by rw [keptR, e]; rfl, show keptO x from' m.version = [] by rw [keptO, e]; rfl, List.append_nil]; rfl⟩
theorem takeRow_does (r lg d : Nat) (T : Nat) (ov : Value) (sf : Nat) (E : List (List UInt8) → List SaidT → HP) (hS : ∀ c, SendOk T ov sf (E c)) (hP : PutOk lg d E) (x : RepT) (from' : Int) (m : MsgT) (recs : List (List UInt8)) (l : List SaidT) (hlog : x.log = .pointer (some ⟨lg, 0, none⟩)) (hroom : sizeS recs + 34 ≤ 2048) (hx : WF m.row.flat) (hl : l.length ≤ 900000) (hto : from' ≠ x.id) :
 Leg.Does Tryz.prog 105 #[(.pointer (some ⟨r, 0, none⟩)), (.iface T ov), (.int .i64 (from')), (.agg (ints m.flat).toArray)] (fun _ => True) [blkA r (RepT.cells x) 95, lgL lg d (recs), E (recs) (l)] (Ret (fun _ H => H = [blkA r (RepT.cells (rowX x from' m.whose m.row)) 95, lgL lg d (rowC x from' m.whose m.row recs), E (rowC x from' m.whose m.row recs) (l ++ rowO x from' m.whose m.row)])) := by
 refine Leg.Does.body (n := 56) Tryz.func105 rfl rfl rfl (fun w0 F hF => sr fun _ J1 => XB fun b7 => ?_)
 change TL _ _ _ _ _ _ _ _ _ [blkA b7 (ints m.flat) 134, blkA r (RepT.cells x) 95, lgL lg d (recs), E (recs) (l)]
 refine nx J1 (TC.seq fun _ J2 => TC.seq fun _ J3 => D1 0 mixed ?_)
 refine FD 0 1 Y134 sz3 ?_
 refine ta 1 rfl (PV.load1 (v := (.int .i64 (m.whose))) rfl Y3 rfl rfl (fun _ h => h.2.1) (MsgT.at_whose m rfl)) ?_
 refine PD 2 ?_
 refine PD 3 ?_
 refine TD.dec (fun h11 => ?_) (fun h11 => ?_)
 refine PD 4 ?_
 refine NT 5 ?_
 refine NT 6 ?_
 refine NT 7 ?_
 refine NT 8 ?_
 refine NT 9 ?_
 refine NT 10 ?_
 refine PD 11 ?_
 refine DN (TE.next J3 (CY (TC.ret (TE.passRet (WK [1, 1, 1] (TE.ret0 rfl ?_))))))
 have e := (show rowB x from' m.whose = false from by rw [rowB, decide_eq_false h11]; rfl)
 obtain ⟨e1, e2, e3⟩ := row_no (y := m.row) (recs := recs) e
 exact by rw [e1, e2, e3, List.append_nil]; rfl
 refine PD 4 ?_
 refine PD 5 ?_
 refine PD 6 ?_
 refine FD 7 183 Y95 sz88 ?_
 refine FD 8 1 Y134 sz3 ?_
 refine tb 9 rfl (PV.load1 (v := (.int .i64 (m.whose))) rfl Y3 rfl rfl (fun _ h => h.2.1) (MsgT.at_whose m rfl)) ?_
 refine AL 10 ?_
 refine CE nm76 (mirSealed_does r 183 95 (fun u => RepT.cells { x with mirror := u }) (RepT.arnd_mirror x) x.mirror m.whose) (SM [1]) ?_
 refine TL.decB (fun h18 => ?_) (fun h18 => ?_)
 refine TL.nil (E1 1 (PD 11 ?_))
 refine DN (TE.next J3 (CY (TC.ret (TE.passRet (WK [0, 1, 1] (TE.ret0 rfl ?_))))))
 have e := (show rowB x from' m.whose = false from by rw [rowB, h18, Bool.not_true, Bool.and_false])
 obtain ⟨e1, e2, e3⟩ := row_no (y := m.row) (recs := recs) e
 exact by rw [e1, e2, e3, List.append_nil]; rfl
 refine TL.nil (E1 1 (PD 11 ?_))
 refine DN (TE.next J3 (CN (CX J2 (TC.seq fun _ J4 => TC.seq fun _ J5 => D1 1 mixed ?_))))
 refine PD 0 ?_
 refine PD 1 ?_
 refine FD 2 183 Y95 sz88 ?_
 refine FD 3 1 Y134 sz3 ?_
 refine ta 4 rfl (PV.load1 (v := (.int .i64 (m.whose))) rfl Y3 rfl rfl (fun _ h => h.2.1) (MsgT.at_whose m rfl)) ?_
 refine FD 5 2 Y134 sz74 ?_
 refine ta 6 rfl (PV.loadN (vs := ints m.row.flat) rfl Y74 rfl sz74 rfl (fun _ h => h.2.1) (RowT.len m.row) (MsgT.sub_row m 0 rfl (by decide) (whole (RowT.len m.row)))) ?_
 refine AL 7 ?_
 refine CE nm141 (mirTakes_does r 183 95 (fun u => RepT.cells { x with mirror := u }) (RepT.arnd_mirror x) x.mirror m.whose m.row hx) (fun _ s => s) ?_
 refine TL.decB (fun h27 => ?_) (fun h27 => ?_)
 refine TL.nil (E1 1 (DN (TE.next J5 (CY (TC.seq fun _ J6 => sr fun _ J7 => PS ?_)))))
 refine FA 1 Y134 sz3 ?_
 refine tp (PV.load1 (v := (.int .i64 (m.whose))) rfl Y3 rfl rfl (RO 1) (MsgT.at_whose m rfl)) ?_
 refine FA 2 Y134 sz74 ?_
 refine tp (PV.loadN (vs := ints m.row.flat) rfl Y74 rfl sz74 rfl (RO 1) (RowT.len m.row) (MsgT.sub_row m 0 rfl (by decide) (whole (RowT.len m.row)))) ?_
 refine tp (PV.buildSegs (cs := ints (RecT.mk 1 m.whose m.row 0 BallotT.zero ChangeT.zero ViewT.zero).flat) (segs := [[Value.int .i64 0], [Value.int .i64 0], ints RowT.zero.flat, [Value.int .i64 0], ints BallotT.zero.flat, ints ChangeT.zero.flat, ints ViewT.zero.flat]) (res := [[Value.int .i64 1], [Value.int .i64 m.whose], ints m.row.flat, [Value.int .i64 0], ints BallotT.zero.flat, ints ChangeT.zero.flat, ints ViewT.zero.flat]) (parts := [(0, [Value.int .i64 1]), (1, [Value.int .i64 m.whose]), (2, ints m.row.flat)]) rfl rfl Y118 (by kernel_rfl) (by kernel_rfl) rfl (putSegs_step rfl rfl (putSegs_step rfl rfl (putSegs_step rfl ((RowT.len m.row).trans (RowT.len RowT.zero).symm) putSegs_nil))) (RecT.eq (RecT.mk 1 m.whose m.row 0 BallotT.zero ChangeT.zero ViewT.zero)).symm) ?_
 refine CE nm98 (put_does r lg d E hP x (RecT.mk 1 m.whose m.row 0 BallotT.zero ChangeT.zero ViewT.zero) (recs) (l) hlog (by have := pieces34 (mirRec_len m.whose m.row); have := hroom; show sizeS recs + piecesN (encR (mirRec m.whose m.row)).length ≤ 2048; omega) (Nat.le_trans (mirRec_len m.whose m.row) (by decide))) (SM [0, 1, 1]) ?_
 refine PS ?_
 refine nx J7 (CN (CX J6 (D1 3 mixed ?_)))
 refine PD 0 ?_
 refine PD 1 ?_
 refine FD 2 183 Y95 sz88 ?_
 refine FD 3 1 Y134 sz3 ?_
 refine ta 4 rfl (PV.load1 (v := (.int .i64 (m.whose))) rfl Y3 rfl rfl (fun _ h => h.2.1) (MsgT.at_whose m rfl)) ?_
 refine FD 5 2 Y134 sz74 ?_
 refine ta 6 rfl (PV.loadN (vs := ints m.row.flat) rfl Y74 rfl sz74 rfl (fun _ h => h.2.1) (RowT.len m.row) (MsgT.sub_row m 0 rfl (by decide) (whole (RowT.len m.row)))) ?_
 refine AL 7 ?_
 refine CE nm92 (mirKeep_does r 183 95 (fun u => RepT.cells { x with mirror := u }) (RepT.arnd_mirror x) x.mirror m.whose m.row hx) (fun _ s => s) ?_
 refine TL.nil (E1 3 (DN (TE.next J4 (D1 3 mixed ?_))))
 refine PD 0 ?_
 refine PD 1 ?_
 refine PD 2 ?_
 refine PD 3 ?_
 refine PD 4 ?_
 refine FD 5 183 Y95 sz88 ?_
 refine FD 6 1 Y134 sz3 ?_
 refine ta 7 rfl (PV.load1 (v := (.int .i64 (m.whose))) rfl Y3 rfl rfl (fun _ h => h.2.1) (MsgT.at_whose m rfl)) ?_
 refine AL 8 ?_
 refine CE nm75 (mirRow_does r 183 95 (fun u => RepT.cells { (RepT.mk x.id x.log x.view x.own ((mirKeep x.mirror m.whose m.row).1) x.acc x.round x.vote x.book x.busy x.kept x.waits x.ops x.replies x.told x.last) with mirror := u }) (RepT.arnd_mirror (RepT.mk x.id x.log x.view x.own ((mirKeep x.mirror m.whose m.row).1) x.acc x.round x.vote x.book x.busy x.kept x.waits x.ops x.replies x.told x.last)) ((mirKeep x.mirror m.whose m.row).1) m.whose) (fun _ s => s) ?_
 refine TL.nil (E1 3 (ta 9 rfl (PV.field1 (cs := ints (mirRow ((mirKeep x.mirror m.whose m.row).1) m.whose).flat) (v := Value.int .i64 ((mirRow ((mirKeep x.mirror m.whose m.row).1) m.whose).version)) rfl Y74 rfl Y3 rfl rfl (RowT.at_version _ rfl)) ?_))
 refine ta 10 rfl (PV.buildSegs (cs := ints (MsgT.mk 1 0 RowT.zero ((mirRow ((mirKeep x.mirror m.whose m.row).1) m.whose).version) 0 BallotT.zero BallotT.zero ChangeT.zero ViewT.zero).flat) (segs := [[Value.int .i64 0], [Value.int .i64 0], ints RowT.zero.flat, [Value.int .i64 0], [Value.int .i64 0], ints BallotT.zero.flat, ints BallotT.zero.flat, ints ChangeT.zero.flat, ints ViewT.zero.flat]) (res := [[Value.int .i64 1], [Value.int .i64 0], ints RowT.zero.flat, [Value.int .i64 ((mirRow ((mirKeep x.mirror m.whose m.row).1) m.whose).version)], [Value.int .i64 0], ints BallotT.zero.flat, ints BallotT.zero.flat, ints ChangeT.zero.flat, ints ViewT.zero.flat]) (parts := [(0, [Value.int .i64 1]), (3, [Value.int .i64 ((mirRow ((mirKeep x.mirror m.whose m.row).1) m.whose).version)])]) rfl rfl Y134 (by kernel_rfl) (by kernel_rfl) rfl (putSegs_step rfl rfl (putSegs_step rfl rfl putSegs_nil)) (MsgT.eq (MsgT.mk 1 0 RowT.zero ((mirRow ((mirKeep x.mirror m.whose m.row).1) m.whose).version) 0 BallotT.zero BallotT.zero ChangeT.zero ViewT.zero)).symm) ?_
 refine AL 11 ?_
 refine CZ nm112 (send_does r T ov sf (E (recs ++ [encR (RecT.mk 1 m.whose m.row 0 BallotT.zero ChangeT.zero ViewT.zero)])) (hS (recs ++ [encR (RecT.mk 1 m.whose m.row 0 BallotT.zero ChangeT.zero ViewT.zero)])) (RepT.mk x.id x.log x.view x.own ((mirKeep x.mirror m.whose m.row).1) x.acc x.round x.vote x.book x.busy x.kept x.waits x.ops x.replies x.told x.last) from' (MsgT.mk 1 0 RowT.zero ((mirRow ((mirKeep x.mirror m.whose m.row).1) m.whose).version) 0 BallotT.zero BallotT.zero ChangeT.zero ViewT.zero) (l) (by omega) hto) (SM [0, 1]) fun vR => ?_
 refine TL.nil (E1 3 (DN (WK [0, 1, 0] (TE.end0 rfl ?_))))
 have e := (show rowB x from' m.whose = true from by rw [rowB, h18, decide_eq_true (show m.whose = from' by omega)]; rfl)
 obtain ⟨e1, e2, e3⟩ := row_yes (recs := recs) e h27
 exact by rw [e1, e2, e3]; rfl
 refine TL.nil (E1 1 (DN (TE.next J5 (CN (CX J4 (D1 1 mixed ?_))))))
 refine PD 0 ?_
 refine PD 1 ?_
 refine PD 2 ?_
 refine PD 3 ?_
 refine PD 4 ?_
 refine FD 5 183 Y95 sz88 ?_
 refine FD 6 1 Y134 sz3 ?_
 refine ta 7 rfl (PV.load1 (v := (.int .i64 (m.whose))) rfl Y3 rfl rfl (fun _ h => h.2.1) (MsgT.at_whose m rfl)) ?_
 refine AL 8 ?_
 refine CE nm75 (mirRow_does r 183 95 (fun u => RepT.cells { x with mirror := u }) (RepT.arnd_mirror x) x.mirror m.whose) (fun _ s => s) ?_
 refine TL.nil (E1 1 (ta 9 rfl (PV.field1 (cs := ints (mirRow x.mirror m.whose).flat) (v := Value.int .i64 ((mirRow x.mirror m.whose).version)) rfl Y74 rfl Y3 rfl rfl (RowT.at_version _ rfl)) ?_))
 refine ta 10 rfl (PV.buildSegs (cs := ints (MsgT.mk 1 0 RowT.zero ((mirRow x.mirror m.whose).version) 0 BallotT.zero BallotT.zero ChangeT.zero ViewT.zero).flat) (segs := [[Value.int .i64 0], [Value.int .i64 0], ints RowT.zero.flat, [Value.int .i64 0], [Value.int .i64 0], ints BallotT.zero.flat, ints BallotT.zero.flat, ints ChangeT.zero.flat, ints ViewT.zero.flat]) (res := [[Value.int .i64 1], [Value.int .i64 0], ints RowT.zero.flat, [Value.int .i64 ((mirRow x.mirror m.whose).version)], [Value.int .i64 0], ints BallotT.zero.flat, ints BallotT.zero.flat, ints ChangeT.zero.flat, ints ViewT.zero.flat]) (parts := [(0, [Value.int .i64 1]), (3, [Value.int .i64 ((mirRow x.mirror m.whose).version)])]) rfl rfl Y134 (by kernel_rfl) (by kernel_rfl) rfl (putSegs_step rfl rfl (putSegs_step rfl rfl putSegs_nil)) (MsgT.eq (MsgT.mk 1 0 RowT.zero ((mirRow x.mirror m.whose).version) 0 BallotT.zero BallotT.zero ChangeT.zero ViewT.zero)).symm) ?_
 refine AL 11 ?_
 refine CZ nm112 (send_does r T ov sf (E (recs)) (hS (recs)) x from' (MsgT.mk 1 0 RowT.zero ((mirRow x.mirror m.whose).version) 0 BallotT.zero BallotT.zero ChangeT.zero ViewT.zero) (l) (by omega) hto) (SM [0, 2]) fun vR => ?_
 refine TL.nil (E1 2 (DN (WK [0, 2, 0] (TE.end0 rfl ?_))))
 have e := (show rowB x from' m.whose = true from by rw [rowB, h18, decide_eq_true (show m.whose = from' by omega)]; rfl)
 obtain ⟨e1, e2, e3⟩ := row_old (recs := recs) e h27
 exact by rw [e1, e2, e3]; rfl
theorem take1_does (r : Nat) (T : Nat) (ov : Value) (sf : Nat) (E : List SaidT → HP) (hS : SendOk T ov sf E) (x : RepT) (from' : Int) (m : MsgT) (rs : List ReplyT) (l : List SaidT) (hk : m.kind = 1) (hid : machB x.id = true) (hwo : WF x.own.flat) (hal : Alone x) (hl : l.length ≤ 900000) (hrs : rs.length ≤ 1000000) :
 Leg.Does Tryz.prog 61 #[(.pointer (some ⟨r, 0, none⟩)), (.iface T ov), (.int .i64 (from')), (.agg (ints m.flat).toArray)] (fun _ => True) [blkA r (RepT.cells x) 95, own x.replies ((rs).length) (ints (List.flatMap ReplyT.flat (rs))) 45 3, E (l)] (Ret (fun _ H => ∃ v', v'.oneCell' = true ∧ H = [blkA r (RepT.cells { keptS x from' m.version with replies := v' }) 95, own v' (keptR x from' m.version rs).length (ints (List.flatMap ReplyT.flat (keptR x from' m.version rs))) 45 3, E (l ++ keptO x from' m.version)])) := by
 refine Leg.Does.body (n := 65) Tryz.func61 rfl rfl rfl (fun w0 F hF => sr fun _ J1 => XB fun b7 => ?_)
 change TL _ _ _ _ _ _ _ _ _ [blkA b7 (ints m.flat) 134, blkA r (RepT.cells x) 95, own x.replies ((rs).length) (ints (List.flatMap ReplyT.flat (rs))) 45 3, E (l)]
 refine nx J1 (sr fun _ J2 => FA 0 Y134 sz3 ?_)
 refine tp (PV.load1 (v := (.int .i64 (m.kind))) rfl Y3 rfl rfl (RO 0) (MsgT.at_kind m rfl)) ?_
 refine nx J2 (TC.block (sr fun _ J3 => PS ?_))
 refine TL.dec (fun h11 => ?_) (fun h11 => ?_)
 · exact absurd h11 (by omega)
 refine PS ?_
 refine nx J3 (CN (sr fun _ J4 => PS ?_))
 refine TL.dec (fun h18 => ?_) (fun h18 => ?_)
 refine PS ?_
 refine nx J4 (CY (TC.region ?_))
 iterate 3 refine PS ?_
 refine tp (PV.loadN (vs := ints m.flat) rfl Y134 rfl sz134 rfl (RO 0) (MsgT.len m) (whole (MsgT.len m))) ?_
 refine CR nm106 (takeKept_does r T ov sf E hS x from' m rs l hid hwo hal hl hrs) (SM [1, 1, 1]) fun vR HR hR => ?_
 obtain ⟨vk, hvk, rfl⟩ := hR
 exact TL.nil (TE.blockEnd (WK [0, 0, 0] (TE.end0 rfl ⟨vk, hvk, rfl⟩)))
 · exact absurd h18 (by omega)
theorem take2_does (r : Nat) (T : Nat) (ov : Value) (x : RepT) (from' : Int) (m : MsgT) (hk : m.kind = 2) (hx : WF m.row.flat) :
 Leg.Does Tryz.prog 61 #[(.pointer (some ⟨r, 0, none⟩)), (.iface T ov), (.int .i64 (from')), (.agg (ints m.flat).toArray)] (fun _ => True) [blkA r (RepT.cells x) 95] (Ret (fun _ H => H = [blkA r (RepT.cells { x with book := (bookMerge x.book m.whose m.row).1 }) 95])) := by
 refine Leg.Does.body (n := 65) Tryz.func61 rfl rfl rfl (fun w0 F hF => sr fun _ J1 => XB fun b7 => ?_)
 change TL _ _ _ _ _ _ _ _ _ [blkA b7 (ints m.flat) 134, blkA r (RepT.cells x) 95]
 refine nx J1 (sr fun _ J2 => FA 0 Y134 sz3 ?_)
 refine tp (PV.load1 (v := (.int .i64 (m.kind))) rfl Y3 rfl rfl (RO 0) (MsgT.at_kind m rfl)) ?_
 refine nx J2 (TC.block (sr fun _ J3 => PS ?_))
 refine TL.dec (fun h11 => ?_) (fun h11 => ?_)
 · exact absurd h11 (by omega)
 refine PS ?_
 refine nx J3 (CN (sr fun _ J4 => PS ?_))
 refine TL.dec (fun h18 => ?_) (fun h18 => ?_)
 · exact absurd h18 (by omega)
 refine PS ?_
 refine nx J4 (CN (sr fun _ J5 => PS ?_))
 refine TL.dec (fun h25 => ?_) (fun h25 => ?_)
 refine PS ?_
 refine nx J5 (CY (D1 0 mixed ?_))
 refine PD 0 ?_
 refine PD 1 ?_
 refine FD 2 1068 Y95 sz77 ?_
 refine FD 3 1 Y134 sz3 ?_
 refine ta 4 rfl (PV.load1 (v := (.int .i64 (m.whose))) rfl Y3 rfl rfl (fun _ h => h.2.1) (MsgT.at_whose m rfl)) ?_
 refine FD 5 2 Y134 sz74 ?_
 refine ta 6 rfl (PV.loadN (vs := ints m.row.flat) rfl Y74 rfl sz74 rfl (fun _ h => h.2.1) (RowT.len m.row) (MsgT.sub_row m 0 rfl (by decide) (whole (RowT.len m.row)))) ?_
 refine AL 7 ?_
 refine CE nm35 (bookMerge_does r 1068 95 (fun u => RepT.cells { x with book := u }) (RepT.arnd_book x) x.book m.whose m.row hx) (SM [1]) ?_
 exact TL.nil (E1 1 (DN (TE.blockEnd (WK [0] (TE.end0 rfl rfl)))))
 · exact absurd h25 (by omega)
theorem take0_does (r lg d : Nat) (T : Nat) (ov : Value) (sf : Nat) (E : List (List UInt8) → List SaidT → HP) (hS : ∀ c, SendOk T ov sf (E c)) (hP : PutOk lg d E) (x : RepT) (from' : Int) (m : MsgT) (recs : List (List UInt8)) (l : List SaidT) (hlog : x.log = .pointer (some ⟨lg, 0, none⟩)) (hk : m.kind = 0) (hroom : sizeS recs + 34 ≤ 2048) (hx : WF m.row.flat) (hl : l.length ≤ 900000) (hto : from' ≠ x.id) :
 Leg.Does Tryz.prog 61 #[(.pointer (some ⟨r, 0, none⟩)), (.iface T ov), (.int .i64 (from')), (.agg (ints m.flat).toArray)] (fun _ => True) [blkA r (RepT.cells x) 95, lgL lg d (recs), E (recs) (l)] (Ret (fun _ H => H = [blkA r (RepT.cells (rowX x from' m.whose m.row)) 95, lgL lg d (rowC x from' m.whose m.row recs), E (rowC x from' m.whose m.row recs) (l ++ rowO x from' m.whose m.row)])) := by
 refine Leg.Does.body (n := 65) Tryz.func61 rfl rfl rfl (fun w0 F hF => sr fun _ J1 => XB fun b7 => ?_)
 change TL _ _ _ _ _ _ _ _ _ [blkA b7 (ints m.flat) 134, blkA r (RepT.cells x) 95, lgL lg d (recs), E (recs) (l)]
 refine nx J1 (sr fun _ J2 => FA 0 Y134 sz3 ?_)
 refine tp (PV.load1 (v := (.int .i64 (m.kind))) rfl Y3 rfl rfl (RO 0) (MsgT.at_kind m rfl)) ?_
 refine nx J2 (TC.block (sr fun _ J3 => PS ?_))
 refine TL.dec (fun h11 => ?_) (fun h11 => ?_)
 refine PS ?_
 refine nx J3 (CY (TC.region ?_))
 iterate 3 refine PS ?_
 refine tp (PV.loadN (vs := ints m.flat) rfl Y134 rfl sz134 rfl (RO 0) (MsgT.len m) (whole (MsgT.len m))) ?_
 refine CZ nm105 (takeRow_does r lg d T ov sf E hS hP x from' m recs l hlog hroom hx hl hto) (SM [1, 1, 1]) fun vR => ?_
 exact TL.nil (TE.blockEnd (WK [0, 0, 0] (TE.end0 rfl rfl)))
 · exact absurd h11 (by omega)
def tickO (x : RepT) : List SaidT := (if x.busy then tellL x else []) ++ (if memb firstV x.id ∧ 0 < (bookRow x.book x.id).version then newsL x.id (bookRow x.book x.id) else [])
theorem tellL_len (x : RepT) : (tellL x).length ≤ 2 := by
 unfold tellL
 rw [List.length_map]
 refine Nat.le_trans (List.length_filter_le _ _) ?_
 unfold witL
 split <;> simp
theorem tick1_does (r : Nat) (T : Nat) (ov : Value) (sf : Nat) (E : List SaidT → HP) (hS : SendOk T ov sf E) (x : RepT) (l : List SaidT) (hv : x.view = firstV) (hvo : x.vote = .pointer none) (hid : machB x.id = true) (hl : l.length ≤ 800000) :
 Leg.Does Tryz.prog 27 #[(.pointer (some ⟨r, 0, none⟩)), (.iface T ov)] (fun _ => True) [blkA r (RepT.cells x) 95, E (l)] (Ret (fun _ H => H = [blkA r (RepT.cells x) 95, E (l ++ tickO x)])) := by
 refine Leg.Does.body (n := 89) Tryz.func27 rfl rfl rfl (fun w0 F hF => ?_)
 have hal := alone_first hv
 refine TC.seq fun _ J1 => sr fun _ J2 => PS ?_
 refine PS ?_
 refine FA 1938 Y95 sz4 ?_
 refine tp (PV.load1 (v := (.bool (x.busy))) rfl Y4 rfl rfl (RO 0) (RepT.at_busy x rfl)) ?_
 refine TL.decB (fun h11 => ?_) (fun h11 => ?_)
 refine nx J2 ?_
 clear J2
 refine CY (TC.region (PS ?_))
 refine PS ?_
 refine CZ nm62 (tellRow_does r T ov sf E hS x (l) (by omega) hid) (fun _ s => s) fun vR => ?_
 refine nx J1 ?_
 clear J1
 refine sr fun _ J3 => PS ?_
 refine PS ?_
 refine CZ nm63 (comeInto0_does r T ov x (E (l ++ tellL x)) hal) (fun _ s => s) fun vR => ?_
 refine nx J3 ?_
 clear J3
 refine sr fun _ J4 => PS ?_
 refine PS ?_
 refine CZ nm64 (claim0_does r T ov x (E (l ++ tellL x)) hal) (fun _ s => s) fun vR => ?_
 refine nx J4 ?_
 clear J4
 refine TC.seq fun _ J5 => sr fun _ J6 => PS ?_
 refine PS ?_
 refine FA 2 Y95 sz85 ?_
 refine FA 2 Y85 sz3 ?_
 refine tp (PV.load1 (v := (.int .i64 (x.view.epoch))) rfl Y3 rfl rfl (RO 0) (RepT.pt_view x 0 rfl (by decide) (ViewT.at_epoch x.view rfl))) ?_
 refine PS ?_
 refine TL.dec (fun h26 => ?_) (fun h26 => ?_)
 · exact absurd h26 (by rw [hv]; decide)
 refine nx J6 ?_
 clear J6
 refine CN (CX J5 ?_)
 clear J5
 refine TC.seq fun _ J7 => TC.seq fun _ J8 => D1 0 mixed ?_
 refine PD 0 ?_
 refine PD 1 ?_
 refine FD 2 2 Y95 sz85 ?_
 refine ta 3 rfl (PV.loadN (vs := ints x.view.flat) rfl Y85 rfl sz85 rfl (fun _ h => h.2.1) (ViewT.len x.view) (RepT.sub_view x 0 rfl (by decide) (whole (ViewT.len x.view)))) ?_
 refine PD 4 ?_
 refine PD 5 ?_
 refine FD 6 0 Y95 sz3 ?_
 refine ta 7 rfl (PV.load1 (v := (.int .i64 (x.id))) rfl Y3 rfl rfl (fun _ h => h.2.1) (RepT.at_id x rfl)) ?_
 refine AL 8 ?_
 refine CE nm50 (member_does x.view x.id) (fun _ s => s) ?_
 refine TL.decB (fun h42 => ?_) (fun h42 => ?_)
 refine TL.nil (E1 0 (ta 9 rfl (PV.not (r := false) rfl rfl rfl) ?_))
 refine DN (TE.next J8 ?_)
 clear J8
 refine CN (CX J7 ?_)
 clear J7
 refine TC.seq fun _ J9 => TC.seq fun _ J10 => D1 0 mixed ?_
 refine PD 0 ?_
 refine PD 1 ?_
 refine FD 2 1068 Y95 sz77 ?_
 refine PD 3 ?_
 refine PD 4 ?_
 refine FD 5 0 Y95 sz3 ?_
 refine ta 6 rfl (PV.load1 (v := (.int .i64 (x.id))) rfl Y3 rfl rfl (fun _ h => h.2.1) (RepT.at_id x rfl)) ?_
 refine TD.all [7, 8] (by kernel_rfl) rfl (AllT.cons rfl ?_ ?_)
 refine CE nm66 (bookRow_does r 1068 95 (fun u => RepT.cells { x with book := u }) (RepT.arnd_book x) x.book x.id) (fun _ s => s) ?_
 refine TL.nil (E1 0 (AL 8 ?_))
 refine XA z74 fun b4 => ?_
 change TL _ _ _ _ _ _ _ _ _ [blkA b4 (ints RowT.zero.flat) 74, blkA r (RepT.cells x) 95, E (l ++ tellL x)]
 refine TL.nil (E1 1 (AL 9 ?_))
 refine TL.store (vs := ints (bookRow x.book x.id).flat) (i := 0) (Want.plain rfl) rfl rfl rfl rfl rfl (by rw [(RowT.len (bookRow x.book x.id))]; exact sz74) (ints_one _) rfl rfl (LC (RowT.len _) (RowT.len _)) (wwhole ((RowT.len RowT.zero).trans (RowT.len (bookRow x.book x.id)).symm)) rfl (TL.nil (E1 1 (DN (TE.next J10 ?_))))
 clear J10
 refine sr fun _ J11 => FA 0 Y74 sz3 ?_
 refine tp (PV.load1 (v := (.int .i64 ((bookRow x.book x.id).version))) rfl Y3 rfl rfl (RO 0) (RowT.at_version _ rfl)) ?_
 refine PS ?_
 refine TL.dec (fun h54 => ?_) (fun h54 => ?_)
 refine nx J11 ?_
 clear J11
 refine CY (TC.region (PS ?_))
 refine PS ?_
 refine tp (PV.loadN (vs := ints (bookRow x.book x.id).flat) rfl Y74 rfl sz74 rfl (RO 0) (RowT.len (bookRow x.book x.id)) (whole (RowT.len (bookRow x.book x.id)))) ?_
 refine CZ nm67 (tellNews_does r T ov sf E hS x (bookRow x.book x.id) (l ++ tellL x) (by first | omega | (rw [List.length_append]; have := tellL_len x; omega))) (SM [1, 1]) fun vR => ?_
 refine nx J9 ?_
 clear J9
 refine TC.seq fun _ J12 => sr fun _ J13 => PS ?_
 refine PS ?_
 refine FA 1067 Y95 sz93 ?_
 refine tp (PV.load1 (v := (.pointer none)) rfl Y93 rfl rfl (RO 0) ((RepT.at_vote x rfl).trans (congrArg some hvo))) ?_
 refine tp (PV.nilPtrNil rfl Y93 rfl rfl) ?_
 refine nx J13 ?_
 clear J13
 refine CY (TC.ret (TE.passRet ?_))
 clear J12
 refine WK [0, 0] (TE.ret0 rfl ?_)
 rw [hv] at h42
 exact congrArg (fun q => [blkA r (RepT.cells x) 95, E q]) (by unfold tickO; simp [*])
 refine nx J11 ?_
 clear J11
 refine CN (CX J9 ?_)
 clear J9
 refine TC.seq fun _ J14 => sr fun _ J15 => PS ?_
 refine PS ?_
 refine FA 1067 Y95 sz93 ?_
 refine tp (PV.load1 (v := (.pointer none)) rfl Y93 rfl rfl (RO 1) ((RepT.at_vote x rfl).trans (congrArg some hvo))) ?_
 refine tp (PV.nilPtrNil rfl Y93 rfl rfl) ?_
 refine nx J15 ?_
 clear J15
 refine CY (TC.ret (TE.passRet ?_))
 clear J14
 refine WK [1, 1] (TE.ret0 rfl ?_)
 rw [hv] at h42
 exact congrArg (fun q => [blkA r (RepT.cells x) 95, E q]) (by unfold tickO; simp [*])
 refine AllT.cons rfl ?_ ?_
 refine XA z74 fun b4 => ?_
 change TL _ _ _ _ _ _ _ _ _ [blkA b4 (ints RowT.zero.flat) 74, blkA r (RepT.cells x) 95, E (l ++ tellL x)]
 refine TL.nil (E1 1 (AL 7 ?_))
 refine CE nm66 (bookRow_does r 1068 95 (fun u => RepT.cells { x with book := u }) (RepT.arnd_book x) x.book x.id) (SM [1]) ?_
 refine TL.nil (E1 0 (AL 9 ?_))
 refine TL.store (vs := ints (bookRow x.book x.id).flat) (i := 1) (Want.plain rfl) rfl rfl rfl rfl rfl (by rw [(RowT.len (bookRow x.book x.id))]; exact sz74) (ints_one _) rfl rfl (LC (RowT.len _) (RowT.len _)) (wwhole ((RowT.len RowT.zero).trans (RowT.len (bookRow x.book x.id)).symm)) rfl (TL.nil (E1 0 (DN (TE.next J10 ?_))))
 clear J10
 refine sr fun _ J16 => FA 0 Y74 sz3 ?_
 refine tp (PV.load1 (v := (.int .i64 ((bookRow x.book x.id).version))) rfl Y3 rfl rfl (RO 1) (RowT.at_version _ rfl)) ?_
 refine PS ?_
 refine TL.dec (fun h54 => ?_) (fun h54 => ?_)
 refine nx J16 ?_
 clear J16
 refine CY (TC.region (PS ?_))
 refine PS ?_
 refine tp (PV.loadN (vs := ints (bookRow x.book x.id).flat) rfl Y74 rfl sz74 rfl (RO 1) (RowT.len (bookRow x.book x.id)) (whole (RowT.len (bookRow x.book x.id)))) ?_
 refine CZ nm67 (tellNews_does r T ov sf E hS x (bookRow x.book x.id) (l ++ tellL x) (by first | omega | (rw [List.length_append]; have := tellL_len x; omega))) (SM [0, 1]) fun vR => ?_
 refine nx J9 ?_
 clear J9
 refine TC.seq fun _ J17 => sr fun _ J18 => PS ?_
 refine PS ?_
 refine FA 1067 Y95 sz93 ?_
 refine tp (PV.load1 (v := (.pointer none)) rfl Y93 rfl rfl (RO 0) ((RepT.at_vote x rfl).trans (congrArg some hvo))) ?_
 refine tp (PV.nilPtrNil rfl Y93 rfl rfl) ?_
 refine nx J18 ?_
 clear J18
 refine CY (TC.ret (TE.passRet ?_))
 clear J17
 refine WK [0, 0] (TE.ret0 rfl ?_)
 rw [hv] at h42
 exact congrArg (fun q => [blkA r (RepT.cells x) 95, E q]) (by unfold tickO; simp [*])
 refine nx J16 ?_
 clear J16
 refine CN (CX J9 ?_)
 clear J9
 refine TC.seq fun _ J19 => sr fun _ J20 => PS ?_
 refine PS ?_
 refine FA 1067 Y95 sz93 ?_
 refine tp (PV.load1 (v := (.pointer none)) rfl Y93 rfl rfl (RO 0) ((RepT.at_vote x rfl).trans (congrArg some hvo))) ?_
 refine tp (PV.nilPtrNil rfl Y93 rfl rfl) ?_
 refine nx J20 ?_
 clear J20
 refine CY (TC.ret (TE.passRet ?_))
 clear J19
 refine WK [0, 1] (TE.ret0 rfl ?_)
 rw [hv] at h42
 exact congrArg (fun q => [blkA r (RepT.cells x) 95, E q]) (by unfold tickO; simp [*])
 exact AllT.nil
 refine TL.nil (E1 0 (ta 9 rfl (PV.not (r := true) rfl rfl rfl) ?_))
 refine DN (TE.next J8 ?_)
 clear J8
 refine CY (TC.ret (TE.passRet ?_))
 clear J7
 refine WK [0, 0] (TE.ret0 rfl ?_)
 rw [hv] at h42
 exact congrArg (fun q => [blkA r (RepT.cells x) 95, E q]) (by unfold tickO; simp [*])
 refine nx J2 ?_
 clear J2
 refine CN (CX J1 ?_)
 clear J1
 refine sr fun _ J21 => PS ?_
 refine PS ?_
 refine CZ nm63 (comeInto0_does r T ov x (E (l)) hal) (fun _ s => s) fun vR => ?_
 refine nx J21 ?_
 clear J21
 refine sr fun _ J22 => PS ?_
 refine PS ?_
 refine CZ nm64 (claim0_does r T ov x (E (l)) hal) (fun _ s => s) fun vR => ?_
 refine nx J22 ?_
 clear J22
 refine TC.seq fun _ J23 => sr fun _ J24 => PS ?_
 refine PS ?_
 refine FA 2 Y95 sz85 ?_
 refine FA 2 Y85 sz3 ?_
 refine tp (PV.load1 (v := (.int .i64 (x.view.epoch))) rfl Y3 rfl rfl (RO 0) (RepT.pt_view x 0 rfl (by decide) (ViewT.at_epoch x.view rfl))) ?_
 refine PS ?_
 refine TL.dec (fun h26 => ?_) (fun h26 => ?_)
 · exact absurd h26 (by rw [hv]; decide)
 refine nx J24 ?_
 clear J24
 refine CN (CX J23 ?_)
 clear J23
 refine TC.seq fun _ J25 => TC.seq fun _ J26 => D1 0 mixed ?_
 refine PD 0 ?_
 refine PD 1 ?_
 refine FD 2 2 Y95 sz85 ?_
 refine ta 3 rfl (PV.loadN (vs := ints x.view.flat) rfl Y85 rfl sz85 rfl (fun _ h => h.2.1) (ViewT.len x.view) (RepT.sub_view x 0 rfl (by decide) (whole (ViewT.len x.view)))) ?_
 refine PD 4 ?_
 refine PD 5 ?_
 refine FD 6 0 Y95 sz3 ?_
 refine ta 7 rfl (PV.load1 (v := (.int .i64 (x.id))) rfl Y3 rfl rfl (fun _ h => h.2.1) (RepT.at_id x rfl)) ?_
 refine AL 8 ?_
 refine CE nm50 (member_does x.view x.id) (fun _ s => s) ?_
 refine TL.decB (fun h42 => ?_) (fun h42 => ?_)
 refine TL.nil (E1 0 (ta 9 rfl (PV.not (r := false) rfl rfl rfl) ?_))
 refine DN (TE.next J26 ?_)
 clear J26
 refine CN (CX J25 ?_)
 clear J25
 refine TC.seq fun _ J27 => TC.seq fun _ J28 => D1 0 mixed ?_
 refine PD 0 ?_
 refine PD 1 ?_
 refine FD 2 1068 Y95 sz77 ?_
 refine PD 3 ?_
 refine PD 4 ?_
 refine FD 5 0 Y95 sz3 ?_
 refine ta 6 rfl (PV.load1 (v := (.int .i64 (x.id))) rfl Y3 rfl rfl (fun _ h => h.2.1) (RepT.at_id x rfl)) ?_
 refine TD.all [7, 8] (by kernel_rfl) rfl (AllT.cons rfl ?_ ?_)
 refine CE nm66 (bookRow_does r 1068 95 (fun u => RepT.cells { x with book := u }) (RepT.arnd_book x) x.book x.id) (fun _ s => s) ?_
 refine TL.nil (E1 0 (AL 8 ?_))
 refine XA z74 fun b4 => ?_
 change TL _ _ _ _ _ _ _ _ _ [blkA b4 (ints RowT.zero.flat) 74, blkA r (RepT.cells x) 95, E (l)]
 refine TL.nil (E1 1 (AL 9 ?_))
 refine TL.store (vs := ints (bookRow x.book x.id).flat) (i := 0) (Want.plain rfl) rfl rfl rfl rfl rfl (by rw [(RowT.len (bookRow x.book x.id))]; exact sz74) (ints_one _) rfl rfl (LC (RowT.len _) (RowT.len _)) (wwhole ((RowT.len RowT.zero).trans (RowT.len (bookRow x.book x.id)).symm)) rfl (TL.nil (E1 1 (DN (TE.next J28 ?_))))
 clear J28
 refine sr fun _ J29 => FA 0 Y74 sz3 ?_
 refine tp (PV.load1 (v := (.int .i64 ((bookRow x.book x.id).version))) rfl Y3 rfl rfl (RO 0) (RowT.at_version _ rfl)) ?_
 refine PS ?_
 refine TL.dec (fun h54 => ?_) (fun h54 => ?_)
 refine nx J29 ?_
 clear J29
 refine CY (TC.region (PS ?_))
 refine PS ?_
 refine tp (PV.loadN (vs := ints (bookRow x.book x.id).flat) rfl Y74 rfl sz74 rfl (RO 0) (RowT.len (bookRow x.book x.id)) (whole (RowT.len (bookRow x.book x.id)))) ?_
 refine CZ nm67 (tellNews_does r T ov sf E hS x (bookRow x.book x.id) (l) (by first | omega | (rw [List.length_append]; have := tellL_len x; omega))) (SM [1, 1]) fun vR => ?_
 refine nx J27 ?_
 clear J27
 refine TC.seq fun _ J30 => sr fun _ J31 => PS ?_
 refine PS ?_
 refine FA 1067 Y95 sz93 ?_
 refine tp (PV.load1 (v := (.pointer none)) rfl Y93 rfl rfl (RO 0) ((RepT.at_vote x rfl).trans (congrArg some hvo))) ?_
 refine tp (PV.nilPtrNil rfl Y93 rfl rfl) ?_
 refine nx J31 ?_
 clear J31
 refine CY (TC.ret (TE.passRet ?_))
 clear J30
 refine WK [0, 0] (TE.ret0 rfl ?_)
 rw [hv] at h42
 exact congrArg (fun q => [blkA r (RepT.cells x) 95, E q]) (by unfold tickO; simp [*])
 refine nx J29 ?_
 clear J29
 refine CN (CX J27 ?_)
 clear J27
 refine TC.seq fun _ J32 => sr fun _ J33 => PS ?_
 refine PS ?_
 refine FA 1067 Y95 sz93 ?_
 refine tp (PV.load1 (v := (.pointer none)) rfl Y93 rfl rfl (RO 1) ((RepT.at_vote x rfl).trans (congrArg some hvo))) ?_
 refine tp (PV.nilPtrNil rfl Y93 rfl rfl) ?_
 refine nx J33 ?_
 clear J33
 refine CY (TC.ret (TE.passRet ?_))
 clear J32
 refine WK [1, 1] (TE.ret0 rfl ?_)
 rw [hv] at h42
 exact congrArg (fun q => [blkA r (RepT.cells x) 95, E q]) (by unfold tickO; simp [*])
 refine AllT.cons rfl ?_ ?_
 refine XA z74 fun b4 => ?_
 change TL _ _ _ _ _ _ _ _ _ [blkA b4 (ints RowT.zero.flat) 74, blkA r (RepT.cells x) 95, E (l)]
 refine TL.nil (E1 1 (AL 7 ?_))
 refine CE nm66 (bookRow_does r 1068 95 (fun u => RepT.cells { x with book := u }) (RepT.arnd_book x) x.book x.id) (SM [1]) ?_
 refine TL.nil (E1 0 (AL 9 ?_))
 refine TL.store (vs := ints (bookRow x.book x.id).flat) (i := 1) (Want.plain rfl) rfl rfl rfl rfl rfl (by rw [(RowT.len (bookRow x.book x.id))]; exact sz74) (ints_one _) rfl rfl (LC (RowT.len _) (RowT.len _)) (wwhole ((RowT.len RowT.zero).trans (RowT.len (bookRow x.book x.id)).symm)) rfl (TL.nil (E1 0 (DN (TE.next J28 ?_))))
 clear J28
 refine sr fun _ J34 => FA 0 Y74 sz3 ?_
 refine tp (PV.load1 (v := (.int .i64 ((bookRow x.book x.id).version))) rfl Y3 rfl rfl (RO 1) (RowT.at_version _ rfl)) ?_
 refine PS ?_
 refine TL.dec (fun h54 => ?_) (fun h54 => ?_)
 refine nx J34 ?_
 clear J34
 refine CY (TC.region (PS ?_))
 refine PS ?_
 refine tp (PV.loadN (vs := ints (bookRow x.book x.id).flat) rfl Y74 rfl sz74 rfl (RO 1) (RowT.len (bookRow x.book x.id)) (whole (RowT.len (bookRow x.book x.id)))) ?_
 refine CZ nm67 (tellNews_does r T ov sf E hS x (bookRow x.book x.id) (l) (by first | omega | (rw [List.length_append]; have := tellL_len x; omega))) (SM [0, 1]) fun vR => ?_
 refine nx J27 ?_
 clear J27
 refine TC.seq fun _ J35 => sr fun _ J36 => PS ?_
 refine PS ?_
 refine FA 1067 Y95 sz93 ?_
 refine tp (PV.load1 (v := (.pointer none)) rfl Y93 rfl rfl (RO 0) ((RepT.at_vote x rfl).trans (congrArg some hvo))) ?_
 refine tp (PV.nilPtrNil rfl Y93 rfl rfl) ?_
 refine nx J36 ?_
 clear J36
 refine CY (TC.ret (TE.passRet ?_))
 clear J35
 refine WK [0, 0] (TE.ret0 rfl ?_)
 rw [hv] at h42
 exact congrArg (fun q => [blkA r (RepT.cells x) 95, E q]) (by unfold tickO; simp [*])
 refine nx J34 ?_
 clear J34
 refine CN (CX J27 ?_)
 clear J27
 refine TC.seq fun _ J37 => sr fun _ J38 => PS ?_
 refine PS ?_
 refine FA 1067 Y95 sz93 ?_
 refine tp (PV.load1 (v := (.pointer none)) rfl Y93 rfl rfl (RO 0) ((RepT.at_vote x rfl).trans (congrArg some hvo))) ?_
 refine tp (PV.nilPtrNil rfl Y93 rfl rfl) ?_
 refine nx J38 ?_
 clear J38
 refine CY (TC.ret (TE.passRet ?_))
 clear J37
 refine WK [0, 1] (TE.ret0 rfl ?_)
 rw [hv] at h42
 exact congrArg (fun q => [blkA r (RepT.cells x) 95, E q]) (by unfold tickO; simp [*])
 exact AllT.nil
 refine TL.nil (E1 0 (ta 9 rfl (PV.not (r := true) rfl rfl rfl) ?_))
 refine DN (TE.next J26 ?_)
 clear J26
 refine CY (TC.ret (TE.passRet ?_))
 clear J25
 refine WK [0, 0] (TE.ret0 rfl ?_)
 rw [hv] at h42
 exact congrArg (fun q => [blkA r (RepT.cells x) 95, E q]) (by unfold tickO; simp [*])
end Go.Proofs.YtohmkchalilodaaGreatDoor
end

section
namespace Go.Proofs.YtohmkchalilodaaGreatDoor
open Go Leg Codec Api Dsk Wal
theorem write_does (t c : Nat) (A v : Value) (bs ys : List UInt8) (hA : A = .pointer none ∨ A = .pointer (some ⟨t, 1, none⟩)) (hv : v.oneCell' = true) (hb : bs.length + ys.length ≤ 1000000) : Leg.Does Tryz.prog 131 #[.pointer (some ⟨t, 1, none⟩), strV ys] (fun _ => True) [blkA t [.pointer (some ⟨c, 0, none⟩), A, v] 163, ownB v bs 5] (Ret (fun _ H => ∃ v', v'.oneCell' = true ∧ H = [blkA t [.pointer (some ⟨c, 0, none⟩), .pointer (some ⟨t, 1, none⟩), v'] 163, ownB v' (bs ++ ys) 5])) := by
 rcases hA with rfl | rfl
 · exact write0_does t c v bs ys hv hb
 · exact write1_does t c v bs ys hv hb
def digI (n : Int) : List UInt8 := digB n.toNat
theorem itoaI_does (n : Int) (h0 : 0 ≤ n) (h1 : n < 10) : Leg.Does Tryz.prog 125 #[.int .i64 n] (fun _ => True) [] (Ret (fun r' H => r' = strV (digI n) ∧ H = [])) := by
 obtain ⟨m, rfl⟩ := Int.eq_ofNat_of_zero_le h0
 exact itoa_does m h1
def numsB (l : List Int) : List UInt8 := l.flatMap fun n => 32 :: digI n
def lineB (ws : List UInt8) (l : List Int) : List UInt8 := ws ++ numsB l ++ [10]
theorem numsB_len : ∀ l, (numsB l).length = 2 * l.length
 | [] => rfl
 | n :: l => by
  have := numsB_len l
  show (32 :: digI n ++ numsB l).length = _
  simp only [List.length_append, List.length_cons, digI, digB, List.length_nil]
  omega
theorem numsB_succ (l : List Int) {k : Nat} (h : k < l.length) : numsB (l.take (k + 1)) = numsB (l.take k) ++ ([32] ++ digI (l.getD k 0)) := by
 unfold numsB
 rw [List.take_succ_eq_append_getElem h, List.flatMap_append]
 simp [List.getD_eq_getElem?_getD, h]
theorem List.getD_mem' {l : List Int} {k : Nat} (h : k < l.length) : l.getD k 0 ∈ l := by
 rw [List.getD_eq_getElem?_getD, List.getElem?_eq_getElem h]
 exact List.getElem_mem h
theorem line_does (t c : Nat) (A v x : Value) (bs ws : List UInt8) (l : List Int) (hA : A = .pointer none ∨ A = .pointer (some ⟨t, 1, none⟩)) (hv : v.oneCell' = true) (hd : ∀ n ∈ l, 0 ≤ n ∧ n < 10) (hb : bs.length + ws.length + 2 * l.length + 1 ≤ 1000000) :
 Leg.Does Tryz.prog 83 #[(.pointer (some ⟨t, 0, none⟩)), (strV (ws)), x] (IsI .i64 x l) [blkA t [(.pointer (some ⟨c, 0, none⟩)), A, v] 163, ownB v (bs) 5] (Ret (fun _ H => ∃ v', v'.oneCell' = true ∧ H = [blkA t [(.pointer (some ⟨c, 0, none⟩)), (.pointer (some ⟨t, 1, none⟩)), v'] 163, ownB v' (bs ++ lineB ws l) 5])) := by
 refine Leg.Does.body (n := 31) Tryz.func83 rfl rfl rfl (fun w0 F hF => sr fun _ J1 => PS ?_)
 refine PS ?_
 refine FA 1 Y163 sz161 ?_
 refine PS ?_
 refine CR nm131 (write_does t c A v (bs) (ws) hA hv (by first | omega | (simp only [List.length_append, List.length_cons, List.length_nil, numsB_len, List.length_take, digI, digB]; omega))) (fun _ s => s) fun vR HR hR => ?_
 obtain ⟨w1, hw1, rfl⟩ := hR
 refine nx J1 (TC.seq fun _ J2 => sr fun _ J3 => PS ?_)
 refine tp (PV.lenV rfl Y155 rfl hF.len) ?_
 refine PS ?_
 refine nx J3 (TC.block ?_)
 refine TC.loop (α := (Nat) × (Value)) (fun ⟨k, v2⟩ => k ≤ l.length ∧ v2.oneCell' = true) (fun ⟨k, v2⟩ => [(0, (.pointer (some ⟨t, 0, none⟩))), (13, x), (14, (.int .i64 (((l.length : Nat) : Int)))), (15, (.int .i64 (((k : Nat) : Int))))]) (fun ⟨k, v2⟩ => [blkA t [(.pointer (some ⟨c, 0, none⟩)), (.pointer (some ⟨t, 1, none⟩)), v2] 163, ownB v2 (bs ++ ws ++ numsB (l.take k)) 5]) (fun ⟨k, v2⟩ => l.length - k) (0, w1)
  ⟨Nat.zero_le _, hw1⟩ SB
  (fun _ s => by show sep [blkA t [(.pointer (some ⟨c, 0, none⟩)), (.pointer (some ⟨t, 1, none⟩)), w1] 163, ownB w1 (bs ++ ws ++ numsB (l.take 0)) 5] _; rw [show bs ++ ws ++ numsB (l.take 0) = bs ++ ws from List.append_nil _]; exact s) (fun ⟨k, v2⟩ hinv => ?_)
 obtain ⟨hk, hv2⟩ := hinv
 refine sr fun _ J4 => PS ?_
 refine TL.dec (fun h16 => ?_) (fun h16 => ?_)
 obtain ⟨b_a, off_a, cap_a, cs_a, T_a, z_a, hv_a, hb_a, hcs_a, hcp_a⟩ := IsI.at hF (j := k) (by omega)
 have hkl : k < l.length := by omega
 refine nx J4 (TC.seq fun _ J5 => CY (CX J5 (TC.seq fun _ J6 => TC.block (sr fun _ J7 => tp (PV.indexSlV (r := off_a + k) hv_a rfl Y155 sz3 rfl rfl (by omega) (by omega) (by omega)) ?_))))
 refine tp (PV.load1X (v := (.int .i64 ((l.getD k 0)))) rfl Y3 rfl rfl (RdX.frm hb_a (fun _ h => Frm.of h)) hcs_a) ?_
 refine PS ?_
 refine nx J7 (D0 mixedD ?_)
 refine PD 0 ?_
 refine PD 1 ?_
 refine FD 2 1 Y163 sz161 ?_
 refine PD 3 ?_
 refine AL 4 ?_
 refine CE nm125 (itoaI_does (l.getD k 0) (hd (l.getD k 0) (List.getD_mem' hkl)).1 (hd (l.getD k 0) (List.getD_mem' hkl)).2) (fun _ s => s) ?_
 refine TL.nil (E0 (ta 5 rfl (PV.strAdd (a := [32]) (b := digI (l.getD k 0)) rfl rfl rfl (by simp [digI, digB])) ?_))
 refine AL 6 ?_
 refine CR nm131 (write_does t c (.pointer (some ⟨t, 1, none⟩)) v2 (bs ++ ws ++ numsB (l.take k)) ([32] ++ digI (l.getD k 0)) (Or.inr rfl) hv2 (by first | omega | (simp only [List.length_append, List.length_cons, List.length_nil, numsB_len, List.length_take, digI, digB]; omega))) (fun _ s => s) fun vR HR hR => ?_
 obtain ⟨w2, hw2, rfl⟩ := hR
 refine TL.nil (E0 (DN (TE.blockEnd (TE.next J6 (TC.region (AD ?_))))))
 refine PS ?_
 refine TL.nil ?_
 exact TE.round ((k + 1, w2) : (Nat) × (Value)) ⟨by omega, hw2⟩ (by show l.length - (k + 1) < l.length - k; omega)
  SB
  (fun _ s => by show sep [blkA t [(.pointer (some ⟨c, 0, none⟩)), (.pointer (some ⟨t, 1, none⟩)), w2] 163, ownB w2 (bs ++ ws ++ numsB (l.take (k + 1))) 5] _; rw [numsB_succ l (show k < l.length by omega), ← List.append_assoc]; exact s)
 refine nx J4 (TC.seq fun _ J8 => CN (TC.exit (TE.pass (TE.pass (TE.hit (TE.next J2 (TC.region (PS ?_))))))))
 refine PS ?_
 refine FA 1 Y163 sz161 ?_
 refine CR nm131 (write_does t c (.pointer (some ⟨t, 1, none⟩)) v2 (bs ++ ws ++ numsB (l.take k)) ([10]) (Or.inr rfl) hv2 (by first | omega | (simp only [List.length_append, List.length_cons, List.length_nil, numsB_len, List.length_take, digI, digB]; omega))) (fun _ s => s) fun vR HR hR => ?_
 obtain ⟨w2, hw2, rfl⟩ := hR
 exact TL.nil (TE.weak (H' := [blkA t [(.pointer (some ⟨c, 0, none⟩)), (.pointer (some ⟨t, 1, none⟩)), w2] 163, ownB w2 (bs ++ lineB ws l) 5]) (Sub.refl _) (fun _ s => by rw [show bs ++ lineB ws l = bs ++ ws ++ numsB (l.take k) ++ [10] by rw [List.take_of_length_le (by omega)]; simp [lineB]]; exact s) (TE.end0 rfl ⟨_, hw2, rfl⟩))
end Go.Proofs.YtohmkchalilodaaGreatDoor
end

section
namespace Api
open Go Leg Codec
theorem encM_norm {m : MsgT} (h : OkM m) : encM (normM m) = encM m := by
 have hk := h.kind
 unfold normM
 split
 · rename_i c; simp only [encM, c, if_true]
 split
 · rename_i c0 c; simp only [encM, if_neg c0, if_pos c]
 split
 · rename_i c0 c1 c; simp only [encM, if_neg c0, if_neg c1, if_pos c]
 split
 · rename_i c0 c1 c2 c; simp only [encM, if_neg c0, if_neg c1, if_neg c2, if_pos c]
 split
 · rename_i c0 c1 c2 c3 c; simp only [encM, if_neg c0, if_neg c1, if_neg c2, if_neg c3, if_pos c]
 split
 · rename_i c0 c1 c2 c3 c4 c; simp only [encM, if_neg c0, if_neg c1, if_neg c2, if_neg c3, if_neg c4, if_pos c]
 · rename_i c0 c1 c2 c3 c4 c5; simp only [encM, if_neg c0, if_neg c1, if_neg c2, if_neg c3, if_neg c4, if_neg c5]
theorem dec_enc {m : MsgT} (h : OkM m) (ho : okM m = true) : readMsgP (encM (normM m)) = some ((normM m, true), []) := by
 have := msg_enc h []
 rw [ho, List.append_nil] at this
 rw [encM_norm h]; exact this
theorem decM_enc {m : MsgT} (h : OkM m) (ho : okM m = true) : decM (encM (normM m)) = (normM m, 0) := by unfold decM; rw [dec_enc h ho]
theorem encM_len (m : MsgT) : (encM m).length ≤ 3000 := by
 have h1 := encRow_len m.row
 have h2 := encs_len m.ballot.flat
 have h3 := encs_len m.had.flat
 have h4 := encs_len m.change.flat
 have h5 := encs_len m.view.flat
 have h6 := encs_len [m.kind, m.whose]
 have h7 := encs_len [m.kind, m.version]
 have h8 := encs_len [m.kind, m.epoch]
 have h9 := encs_len [m.kind]
 simp only [BallotT.flat, ChangeT.flat, ViewT.flat, List.length_cons, List.length_nil, Vector.length_toList] at h2 h3 h4 h5 h6 h7 h8 h9
 unfold encM
 split
 · simp only [List.length_append]; omega
 split
 · omega
 split
 · simp only [List.length_append, BallotT.flat]; omega
 split
 · simp only [List.length_append, BallotT.flat, ChangeT.flat]; omega
 split
 · simp only [List.length_append, BallotT.flat, ChangeT.flat]; omega
 split
 · simp only [List.length_append, ViewT.flat]; omega
 split
 · simp only [List.length_append, ViewT.flat]; omega
 · simp
end Api
end

section
namespace Api
open Go Leg Codec Dsk Wal
structure RcOk (m : RecT) : Prop where
 dec : decR (encR m) = (m, 0)
 wf : WF m.row.flat
 kind : m.kind ≠ 3 ∧ m.kind ≠ 4
theorem nm0 : Nm 0 := ⟨by decide, by decide⟩
theorem okB0 : OkB BallotT.zero := ⟨nm0, by decide, by decide⟩
theorem okC0 : OkC ChangeT.zero := ⟨⟨by decide, by decide⟩, ⟨by decide, by decide⟩, ⟨by decide, by decide⟩⟩
theorem okV0 : OkV ViewT.zero := by
 have : ∀ i : Fin 5, 0 ≤ ViewT.zero.heirs[i.val] ∧ ViewT.zero.heirs[i.val] < 6 := by decide +kernel
 exact ⟨nm0, ⟨by decide, by decide⟩, fun i hi => this ⟨i, hi⟩⟩
end Api
end

section
namespace Go.Proofs.YtohmkchalilodaaGreatDoor
open Go Leg Codec Api
theorem read1_calm (ob : Nat) (ok : Bool) : DoesD Tryz.prog 133 #[(.pointer (some ⟨ob, 0, none⟩))] (.returning) (fun _ => True) [blkA ob [(.bool (ok))] 4] (fun e u' H => e = .returned (.tuple #[]) ∧ settle u' = .returning ∧ H = [blkA ob [.bool ok] 4]) := by
 refine DoesD.recover2 (vs := [(.pointer (some ⟨ob, 0, none⟩))]) (n := 15) (u' := .returning) (rv := .nilIface) Tryz.func133 rfl rfl rfl rfl rfl rfl rfl rfl rfl rfl rfl (fun c0 cs hu => by cases c0; simp only at hu; subst hu; rfl) (fun w0 F c0 cs hF => ?_)
 refine TC.seq (fun K1 hK1 => ?_)
 refine TC.seq (fun K2 hK2 => ?_)
 refine TC.region ?_
 refine TL.v (Want.plain rfl) rfl rfl (PV.move rfl rfl) ?_
 refine TL.v (Want.plain rfl) rfl rfl (PV.nilNil rfl Tryz.underlying20 rfl) ?_
 refine TL.nil ?_
 refine TE.next hK2 ?_
 clear hK2
 refine TC.yes rfl ?_
 refine TC.ret ?_
 refine TE.passRet ?_
 clear hK1
 refine TE.weak (Sub.refl _) (fun _ s => sep_keep [0] rfl s) ?_
 refine TE.retS0 rfl ?_
 refine ⟨rfl, rfl, ?_⟩
 rfl
theorem read1_thrown (ob : Nat) (ok : Bool) : DoesD Tryz.prog 133 #[(.pointer (some ⟨ob, 0, none⟩))] (.panicking giveUp) (fun _ => True) [blkA ob [(.bool (ok))] 4] (fun e u' H => e = .returned (.tuple #[]) ∧ settle u' = .returning ∧ H = [blkA ob [.bool false] 4]) := by
 refine DoesD.recover2 (vs := [(.pointer (some ⟨ob, 0, none⟩))]) (n := 15) (u' := .panicking [{ v := (.iface 218 (.agg #[])), recovered := true }]) (rv := (.iface 218 (.agg #[]))) Tryz.func133 rfl rfl rfl rfl rfl rfl rfl rfl rfl rfl rfl (fun c0 cs hu => by cases c0; simp only at hu; subst hu; rfl) (fun w0 F c0 cs hF => ?_)
 refine TC.seq (fun K1 hK1 => ?_)
 refine TC.seq (fun K2 hK2 => ?_)
 refine TC.region ?_
 refine TL.v (Want.plain rfl) rfl rfl (PV.move rfl rfl) ?_
 refine TL.v (Want.plain rfl) rfl rfl (PV.ifaceNil rfl Tryz.underlying20 rfl) ?_
 refine TL.nil ?_
 refine TE.next hK2 ?_
 clear hK2
 refine TC.no rfl ?_
 refine TC.skip ?_
 refine TE.next hK1 ?_
 clear hK1
 refine TC.seq (fun K3 hK3 => ?_)
 refine TC.seq (fun K4 hK4 => ?_)
 refine TC.region ?_
 refine TL.v (Want.plain rfl) rfl rfl (PV.move rfl rfl) ?_
 refine TL.v (Want.plain rfl) rfl rfl (PV.assert rfl Y218 rfl rfl) ?_
 refine TL.v (Want.plain rfl) rfl rfl (PV.move rfl rfl) ?_
 refine TL.v (Want.plain rfl) rfl rfl (PV.extract (vs := [.agg #[], .bool true]) rfl rfl rfl) ?_
 refine TL.v (Want.plain rfl) rfl rfl (PV.extract (vs := [.agg #[], .bool true]) rfl rfl rfl) ?_
 refine TL.alloc (Want.plain rfl) rfl rfl rfl z218 (fun b2 => ?_)
 change TL _ _ _ _ _ _ _ _ _ [blkA b2 [] 218, blkA ob [(.bool (ok))] 4]
 refine TL.store (vs := []) (i := 0) (H' := [blkA b2 [] 218, blkA ob [(.bool (ok))] 4]) (Want.plain rfl) rfl rfl rfl rfl rfl sz218 (by simp [Value.oneCell']) rfl rfl (lbe rfl) rfl rfl ?_
 refine TL.v (Want.plain rfl) rfl rfl (PV.assign rfl rfl) ?_
 refine TL.nil ?_
 refine TE.next hK4 ?_
 clear hK4
 refine TC.seq (fun K5 hK5 => ?_)
 refine TC.region ?_
 refine TL.v (Want.plain rfl) rfl rfl (PV.move rfl rfl) ?_
 refine TL.v (Want.plain rfl) rfl rfl (PV.not (r := false) rfl rfl rfl) ?_
 refine TL.nil ?_
 refine TE.next hK5 ?_
 clear hK5
 refine TC.no rfl ?_
 refine TC.skip ?_
 refine TE.next hK3 ?_
 clear hK3
 refine TC.region ?_
 refine TL.store1 (i := 1) (H' := [blkA b2 [] 218, blkA ob [(.bool false)] 4]) (Want.plain rfl) rfl rfl rfl rfl rfl sz4 rfl rfl (lb rfl) rfl rfl ?_
 refine TL.nil ?_
 refine TE.weak (Sub.refl _) (fun _ s => sep_keep [1] rfl s) ?_
 refine TE.endS0 rfl ?_
 refine ⟨rfl, rfl, ?_⟩
 exact rfl
theorem read_does {fid : Nat} {caps : List Value} {x : Value} {bs : List UInt8} {C G : HP} {A : List UInt8 → HP} {R : Hl → Prop} (hR : ∀ F, R F → IsB x bs F) (hmono : ∀ F g, R F → Dj g F → R (jn g F)) (hN : Named Tryz.prog fid)
 (hc : ∀ rb, Leg.Does Tryz.prog fid ([Value.pointer (some ⟨rb, 0, none⟩)] ++ caps).toArray R [blkA rb [x] 216, C] (RetP (fun _ H => ∃ x' r, H = [blkA rb [x'] 216, A r] ∧ Tail x bs x' r) (fun c H => c = giveUp ∧ ∃ x', H = [blkA rb [x'] 216, G]))) :
 Leg.Does Tryz.prog 89 #[x, .func (.func fid) #[] caps.toArray] R [C] (Ret (fun v H => (∃ r, v = .bool (decide (r = [])) ∧ H = [A r]) ∨ (v = .bool false ∧ H = [G]))) := by
 refine Leg.Does.bodyD (vs := [x, .func (.func fid) #[] caps.toArray]) (n := 21) Tryz.func89 rfl rfl rfl (fun w0 F hF => sr fun _ J1 => XA z4 fun b4 => ?_)
 refine nx J1 (sr fun _ J2 => PS ?_)
 refine tp (PV.buildOne rfl Y216 z216 rfl sz47 rfl (hR _ hF).one) ?_
 refine XB fun b8 => ?_
 refine PS ?_
 refine nx J2 (sr fun _ J3 => tp (PV.mkFunc rfl rfl) ?_)
 refine TL.deferFn (Want.plain rfl) rfl rfl rfl (nx J3 (TC.seq fun _ J4 => sr fun _ J5 => PS ?_))
 refine tp (PV.funcNeqNil rfl Tryz.underlying181 rfl) ?_
 refine nx J5 (CY (TC.region (PS ?_)))
 refine PS ?_
 refine TL.callPv (Want.plain rfl) rfl rfl rfl rfl hN rfl (hc b8) (fun _ s => sep_selR [0, 1] rfl s) (IsMono hmono hF) (fun cP HP hP => ?_) (fun vR HR hR' => ?_)
 obtain ⟨rfl, x', rfl⟩ := hP
 refine TE.passPanic ?_
 intro a w fr sm m
 refine leaves_one (b := b4) (e := 4) (A := [blkA b4 [(.bool false)] 4]) (B := [blkA b8 [x'] 216, G]) (H' := [G]) fr sm m (by simp) nm133 (read1_thrown b4 _) (fun _ s => sep_selR [2] rfl s) (fun _ _ _ => trivial) rfl rfl Y4 rfl (fun H1 h1 => ?_)
 subst h1
 refine ⟨[.bool false], .bool false, Rd.own 0 rfl rfl, rfl, fun _ s => sep_keep [2] rfl s, ?_⟩
 exact .inr ⟨rfl, rfl⟩
 obtain ⟨x', r, rfl, htl⟩ := hR'
 have hB := htl F (hR _ hF)
 rcases hB with ⟨rfl, rfl⟩ | ⟨b, off, cap, cs, T, z, rfl, hB1, hB2, hB3, hB4⟩
 refine nx J4 (sr fun _ J6 => PS ?_)
 refine PS ?_
 refine FA 0 Y216 sz47 ?_
 refine LA 0 Y47 ?_
 refine tp (PV.lenSl rfl Y47 rfl) ?_
 refine PS ?_
 refine S0 2 sz4 ?_
 refine nx J6 (TC.ret ?_)
 intro a w fr sm m
 refine leaves_one (b := b4) (e := 4) (A := [blkA b4 [(.bool true)] 4]) (B := [blkA b8 [(.slice none 0 0)] 216, (A [])]) (H' := [(A [])]) fr sm m (by simp) nm133 (read1_calm b4 _) (fun _ s => sep_selR [2] rfl s) (fun _ _ _ => trivial) rfl rfl Y4 rfl (fun H1 h1 => ?_)
 subst h1
 refine ⟨[.bool true], .bool true, Rd.own 0 rfl rfl, rfl, fun _ s => sep_keep [2] rfl s, ?_⟩
 exact .inl ⟨[], rfl, rfl⟩
 refine nx J4 (sr fun _ J7 => PS ?_)
 refine PS ?_
 refine FA 0 Y216 sz47 ?_
 refine LA 0 Y47 ?_
 refine tp (PV.lenSl rfl Y47 rfl) ?_
 refine PS ?_
 refine S0 2 sz4 ?_
 refine nx J7 (TC.ret ?_)
 intro a w fr sm m
 refine leaves_one (b := b4) (e := 4) (A := [blkA b4 [(.bool (decide (((r.length : Nat) : Int) = 0)))] 4]) (B := [blkA b8 [(.slice (some ⟨b, off, none⟩) (r.length) (cap))] 216, (A r)]) (H' := [(A r)]) fr sm m (by simp) nm133 (read1_calm b4 _) (fun _ s => sep_selR [2] rfl s) (fun _ _ _ => trivial) rfl rfl Y4 rfl (fun H1 h1 => ?_)
 subst h1
 refine ⟨[.bool (decide (((r.length : Nat) : Int) = 0))], .bool (decide (((r.length : Nat) : Int) = 0)), Rd.own 0 rfl rfl, rfl, fun _ s => sep_keep [2] rfl s, ?_⟩
 exact .inl ⟨r, by congr 1; rw [decide_eq_decide]; cases r <;> simp <;> omega, rfl⟩
end Go.Proofs.YtohmkchalilodaaGreatDoor
end

section
namespace Go.Proofs.YtohmkchalilodaaGreatDoor
open Go Leg Codec Api
theorem read_with {fid : Nat} {caps : List Value} {x : Value} {bs : List UInt8} {α β : Type} {C : List HP} {A : α → List HP} {G : β → List HP} {φ : α → List UInt8 → Prop} {ψ : β → Prop} {R : Hl → Prop} (hR : ∀ F, R F → IsB x bs F) (hmono : ∀ F g, R F → Dj g F → R (jn g F)) (hN : Named Tryz.prog fid)
 (hc : ∀ rb, Leg.Does Tryz.prog fid ([Value.pointer (some ⟨rb, 0, none⟩)] ++ caps).toArray R (blkA rb [x] 216 :: C) (RetP (fun _ H => ∃ x' r a, H = blkA rb [x'] 216 :: A a ∧ Tail x bs x' r ∧ φ a r) (fun c H => c = giveUp ∧ ∃ x' b, H = blkA rb [x'] 216 :: G b ∧ ψ b))) :
 Leg.Does Tryz.prog 89 #[x, .func (.func fid) #[] caps.toArray] R C (Ret (fun v H => (∃ r a, v = .bool (decide (r = [])) ∧ H = A a ∧ φ a r) ∨ (∃ b, v = .bool false ∧ H = G b ∧ ψ b))) := by
 have h1 := read_does (C := all C) (G := fun h => ∃ b, ψ b ∧ sep (G b) h) (A := fun r h => ∃ a, φ a r ∧ sep (A a) h) hR hmono hN fun rb =>
  (hc rb).conv (post' := RetP (fun _ H => ∃ x' r, H = [blkA rb [x'] 216, fun h => ∃ a, φ a r ∧ sep (A a) h] ∧ Tail x bs x' r) (fun c H => c = giveUp ∧ ∃ x', H = [blkA rb [x'] 216, fun h => ∃ b, ψ b ∧ sep (G b) h]))
   (fun h s => sep_cons s fun _ => all_sep)
   (fun e H F w hp m => by
    cases e with
    | returned v =>
     obtain ⟨x', r, a, rfl, ht, hf⟩ := hp
     exact ⟨[blkA rb [x'] 216, fun h => ∃ a, φ a r ∧ sep (A a) h], m.mono fun h s => sep_cons s fun h s => sep_single ⟨a, hf, s⟩, x', r, rfl, ht⟩
    | panicked c =>
     obtain ⟨hc, x', b, rfl, hf⟩ := hp
     exact ⟨[blkA rb [x'] 216, fun h => ∃ b, ψ b ∧ sep (G b) h], m.mono fun h s => sep_cons s fun h s => sep_single ⟨b, hf, s⟩, hc, x', rfl⟩
    | outgrown => exact hp.elim)
 refine h1.conv (fun h s => sep_all s) fun e H F w hp m => ?_
 cases e with
 | returned v =>
  rcases hp with ⟨r, hv, rfl⟩ | ⟨hv, rfl⟩
  · obtain ⟨h, d, e, g1, g2, d', rfl, ⟨a, hf, s⟩, _⟩ := m
    exact ⟨A a, ⟨_, d, e, sep_more _ s d'⟩, .inl ⟨r, a, hv, rfl, hf⟩⟩
  · obtain ⟨h, d, e, g1, g2, d', rfl, ⟨b, hf, s⟩, _⟩ := m
    exact ⟨G b, ⟨_, d, e, sep_more _ s d'⟩, .inr ⟨b, hv, rfl, hf⟩⟩
 | panicked c => exact hp.elim
 | outgrown => exact hp.elim
end Go.Proofs.YtohmkchalilodaaGreatDoor
end

section
namespace Go.Proofs.YtohmkchalilodaaGreatDoor
open Go Leg Codec Api
theorem readMsg_does (rb : Nat) (v : Value) (bs : List UInt8) :
 Leg.Does Tryz.prog 104 #[(.pointer (some ⟨rb, 0, none⟩))] (IsB v bs) [blkA rb [v] 216] (RdPost 216 giveUp (fun mb : MsgT × Bool => .tuple #[.agg (ints mb.1.flat).toArray, .bool mb.2]) readMsgP v bs rb) := by
 refine Leg.Does.body (vs := [(.pointer (some ⟨rb, 0, none⟩))]) (n := 85) Tryz.func104 rfl rfl rfl (fun w0 F hF => ?_)
 refine sr fun _ J1 => ?_
 refine TL.alloc (Want.plain rfl) rfl rfl rfl z134 (fun b2 => ?_)
 change TL _ _ _ _ _ _ _ _ _ [blkA b2 (ints MsgT.zero.flat) 134, blkA rb [v] 216]
 refine sg' ?_
 refine nx J1 ?_
 clear J1
 refine sr fun _ J2 => ?_
 refine mv ?_
 refine TL.callP (A := [blkA rb [v] 216]) (B := [blkA b2 (ints MsgT.zero.flat) 134]) (Want.plain rfl) rfl rfl rfl nm134 rfl (small_does rb v bs (10)) (fun _ s => sep_selR [1] rfl s) (fun _ d _ => (hF).more d) (fun cP HP hP => ?_) (fun vR HR hR => ?_)
 obtain ⟨vP, rfl, rfl, hpP⟩ := hP
 change TE _ _ _ _ _ _ _ [blkA rb [vP] 216, blkA b2 (ints MsgT.zero.flat) 134]
 refine TE.passPanic ?_
 clear J2
 refine TE.weak (Sub.refl _) (fun _ s => sep_keep [0] rfl s) ?_
 refine TE.panicked ?_
 exact ⟨_, rfl, rfl, by simp [readMsgP, pb_none hpP, *]⟩
 obtain ⟨a1, r1, v1, rfl, rfl, hp1, ht1⟩ := hR
 change TL _ _ _ _ _ _ _ _ _ [blkA rb [v1] 216, blkA b2 (ints MsgT.zero.flat) 134]
 have hf1 := ht1 _ hF
 refine tp (PV.buildSegs (cs := ints (MsgT.mk a1 0 RowT.zero 0 0 BallotT.zero BallotT.zero ChangeT.zero ViewT.zero).flat) (segs := [[Value.int .i64 0], [Value.int .i64 0], ints RowT.zero.flat, [Value.int .i64 0], [Value.int .i64 0], ints BallotT.zero.flat, ints BallotT.zero.flat, ints ChangeT.zero.flat, ints ViewT.zero.flat]) (res := [[Value.int .i64 a1], [Value.int .i64 0], ints RowT.zero.flat, [Value.int .i64 0], [Value.int .i64 0], ints BallotT.zero.flat, ints BallotT.zero.flat, ints ChangeT.zero.flat, ints ViewT.zero.flat]) (parts := [(0, [Value.int .i64 a1])]) rfl rfl Y134 (by kernel_rfl) (by kernel_rfl) rfl (putSegs_step rfl ((rfl : [Value.int .i64 a1].length = 1).trans (rfl : [Value.int .i64 0].length = 1).symm) putSegs_nil) (MsgT.eq (MsgT.mk a1 0 RowT.zero 0 0 BallotT.zero BallotT.zero ChangeT.zero ViewT.zero)).symm) ?_
 refine TL.alloc (Want.plain rfl) rfl rfl rfl z134 (fun b4 => ?_)
 change TL _ _ _ _ _ _ _ _ _ [blkA b4 (ints MsgT.zero.flat) 134, blkA rb [v1] 216, blkA b2 (ints MsgT.zero.flat) 134]
 refine TL.store (vs := ints (MsgT.mk a1 0 RowT.zero 0 0 BallotT.zero BallotT.zero ChangeT.zero ViewT.zero).flat) (i := 0) (H' := [blkA b4 (ints (MsgT.mk a1 0 RowT.zero 0 0 BallotT.zero BallotT.zero ChangeT.zero ViewT.zero).flat) 134, blkA rb [v1] 216, blkA b2 (ints MsgT.zero.flat) 134]) (Want.plain rfl) rfl rfl rfl rfl rfl (by rw [(MsgT.len (MsgT.mk a1 0 RowT.zero 0 0 BallotT.zero BallotT.zero ChangeT.zero ViewT.zero))]; exact sz134) (ints_one _) rfl rfl (by have h0 := (MsgT.len MsgT.zero); have h1 := (MsgT.len (MsgT.mk a1 0 RowT.zero 0 0 BallotT.zero BallotT.zero ChangeT.zero ViewT.zero)); omega) (wwhole ((MsgT.len MsgT.zero).trans (MsgT.len (MsgT.mk a1 0 RowT.zero 0 0 BallotT.zero BallotT.zero ChangeT.zero ViewT.zero)).symm)) rfl ?_
 refine nx J2 ?_
 clear J2
 refine TC.seq fun _ J3 => ?_
 refine sr fun _ J4 => ?_
 refine tp (PV.fieldAddr (r := 0) rfl Y134 rfl sz3 rfl rfl) ?_
 refine tp (PV.load1 (v := (.int .i64 (a1))) rfl Y3 rfl rfl (Rd.own 0 rfl rfl) (MsgT.at_kind (MsgT.mk a1 0 RowT.zero 0 0 BallotT.zero BallotT.zero ChangeT.zero ViewT.zero) rfl)) ?_
 refine nx J4 ?_
 clear J4
 refine TC.block ?_
 refine TC.seq fun _ J5 => ?_
 refine TC.cut (α := Unit) (fun _u => True) (fun _u => [(0, (.pointer (some ⟨rb, 0, none⟩))), (2, (.pointer (some ⟨b2, 0, none⟩))), (3, (.bool false)), (4, (.pointer (some ⟨b4, 0, none⟩))), (9, (.int .i64 (a1))), (10, (.bool ((kRow a1))))]) (fun _u => [blkA b4 (ints (MsgT.mk a1 0 RowT.zero 0 0 BallotT.zero BallotT.zero ChangeT.zero ViewT.zero).flat) 134, blkA rb [v1] 216, blkA b2 (ints MsgT.zero.flat) 134]) (fun _u hinv => ?_) (fun tl5 => ?_)
 have _ := hinv
 refine TE.next J5 ?_
 clear J5
 refine TC.cond rfl (fun h10 => ?_) (fun h10 => ?_)
 refine sr fun _ J6 => ?_
 refine mv ?_
 refine TL.callP (A := [blkA rb [v1] 216]) (B := [blkA b4 (ints (MsgT.mk a1 0 RowT.zero 0 0 BallotT.zero BallotT.zero ChangeT.zero ViewT.zero).flat) 134, blkA b2 (ints MsgT.zero.flat) 134]) (Want.plain rfl) rfl rfl rfl nm134 rfl (small_does rb v1 r1 (5)) (fun _ s => sep_selR [1] rfl s) (fun _ d _ => (hf1).more d) (fun cP HP hP => ?_) (fun vR HR hR => ?_)
 obtain ⟨vP, rfl, rfl, hpP⟩ := hP
 change TE _ _ _ _ _ _ _ [blkA rb [vP] 216, blkA b4 (ints (MsgT.mk a1 0 RowT.zero 0 0 BallotT.zero BallotT.zero ChangeT.zero ViewT.zero).flat) 134, blkA b2 (ints MsgT.zero.flat) 134]
 refine TE.passPanic ?_
 clear J6
 refine TE.blockPanic ?_
 refine TE.passPanic ?_
 clear J3
 refine TE.weak (Sub.refl _) (fun _ s => sep_keep [0] rfl s) ?_
 refine TE.panicked ?_
 exact ⟨_, rfl, rfl, by simp [readMsgP, pb_some hp1, pb_none hpP, h10, *]⟩
 obtain ⟨a2, r2, v2, rfl, rfl, hp2, ht2⟩ := hR
 change TL _ _ _ _ _ _ _ _ _ [blkA rb [v2] 216, blkA b4 (ints (MsgT.mk a1 0 RowT.zero 0 0 BallotT.zero BallotT.zero ChangeT.zero ViewT.zero).flat) 134, blkA b2 (ints MsgT.zero.flat) 134]
 have hf2 := ht2 _ hf1
 refine tp (PV.fieldAddr (r := 1) rfl Y134 rfl sz3 rfl rfl) ?_
 refine TL.store1 (i := 1) (H' := [blkA rb [v2] 216, blkA b4 (ints (MsgT.mk a1 a2 RowT.zero 0 0 BallotT.zero BallotT.zero ChangeT.zero ViewT.zero).flat) 134, blkA b2 (ints MsgT.zero.flat) 134]) (Want.plain rfl) rfl rfl rfl rfl rfl sz3 rfl rfl (by have h0 := (MsgT.len (MsgT.mk a1 0 RowT.zero 0 0 BallotT.zero BallotT.zero ChangeT.zero ViewT.zero)); omega) (MsgT.set_whose (MsgT.mk a1 0 RowT.zero 0 0 BallotT.zero BallotT.zero ChangeT.zero ViewT.zero) rfl _) rfl ?_
 refine nx J6 ?_
 clear J6
 refine sr fun _ J7 => ?_
 refine mv ?_
 refine TL.callP (A := [blkA rb [v2] 216]) (B := [blkA b4 (ints (MsgT.mk a1 a2 RowT.zero 0 0 BallotT.zero BallotT.zero ChangeT.zero ViewT.zero).flat) 134, blkA b2 (ints MsgT.zero.flat) 134]) (Want.plain rfl) rfl rfl rfl nm135 rfl (rrow_does rb v2 r2 ) (fun _ s => s) (fun _ d _ => (hf2).more d) (fun cP HP hP => ?_) (fun vR HR hR => ?_)
 obtain ⟨vP, rfl, rfl, hpP⟩ := hP
 change TE _ _ _ _ _ _ _ [blkA rb [vP] 216, blkA b4 (ints (MsgT.mk a1 a2 RowT.zero 0 0 BallotT.zero BallotT.zero ChangeT.zero ViewT.zero).flat) 134, blkA b2 (ints MsgT.zero.flat) 134]
 refine TE.passPanic ?_
 clear J7
 refine TE.blockPanic ?_
 refine TE.passPanic ?_
 clear J3
 refine TE.weak (Sub.refl _) (fun _ s => sep_keep [0] rfl s) ?_
 refine TE.panicked ?_
 exact ⟨_, rfl, rfl, by simp [readMsgP, pb_some hp1, pb_some hp2, pb_none hpP, h10, *]⟩
 obtain ⟨a3, r3, v3, rfl, rfl, hp3, ht3⟩ := hR
 change TL _ _ _ _ _ _ _ _ _ [blkA rb [v3] 216, blkA b4 (ints (MsgT.mk a1 a2 RowT.zero 0 0 BallotT.zero BallotT.zero ChangeT.zero ViewT.zero).flat) 134, blkA b2 (ints MsgT.zero.flat) 134]
 have hf3 := ht3 _ hf2
 refine tp (PV.fieldAddr (r := 2) rfl Y134 rfl sz74 rfl rfl) ?_
 refine TL.store (vs := ints a3.flat) (i := 1) (H' := [blkA rb [v3] 216, blkA b4 (ints (MsgT.mk a1 a2 a3 0 0 BallotT.zero BallotT.zero ChangeT.zero ViewT.zero).flat) 134, blkA b2 (ints MsgT.zero.flat) 134]) (Want.plain rfl) rfl rfl rfl rfl rfl (by rw [(RowT.len a3)]; exact sz74) (ints_one _) rfl rfl (by have h0 := (MsgT.len (MsgT.mk a1 a2 RowT.zero 0 0 BallotT.zero BallotT.zero ChangeT.zero ViewT.zero)); have h1 := (RowT.len a3); omega) (MsgT.wr_row_ (MsgT.mk a1 a2 RowT.zero 0 0 BallotT.zero BallotT.zero ChangeT.zero ViewT.zero) 0 rfl (by have h1 := (RowT.len a3); omega) (wwhole ((RowT.len RowT.zero).trans (RowT.len a3).symm))) rfl ?_
 refine nx J7 ?_
 clear J7
 refine TC.seq fun _ J8 => ?_
 refine TC.draw (fun w => Frm F w ∧ w.heap[b4]? = some (.cells (ints (MsgT.mk a1 a2 a3 0 0 BallotT.zero BallotT.zero ChangeT.zero ViewT.zero).flat).toArray 134 (0, 0)) ∧ True) mixed rfl (fun _ s => ⟨Frm.of s, s.block 1 (lb rfl) rfl, trivial⟩) ?_
 refine ta 0 rfl (PV.loadN (vs := ints (MsgT.mk a1 a2 a3 0 0 BallotT.zero BallotT.zero ChangeT.zero ViewT.zero).flat) rfl Y134 rfl sz134 rfl (fun _ h => h.2.1) (MsgT.len (MsgT.mk a1 a2 a3 0 0 BallotT.zero BallotT.zero ChangeT.zero ViewT.zero)) (whole (MsgT.len (MsgT.mk a1 a2 a3 0 0 BallotT.zero BallotT.zero ChangeT.zero ViewT.zero)))) ?_
 refine ta 1 rfl (PV.fieldAddr (r := 2) rfl Y134 rfl sz74 rfl rfl) ?_
 refine ta 2 rfl (PV.loadN (vs := ints a3.flat) rfl Y74 rfl sz74 rfl (fun _ h => h.2.1) (RowT.len a3) (MsgT.sub_row (MsgT.mk a1 a2 a3 0 0 BallotT.zero BallotT.zero ChangeT.zero ViewT.zero) 0 rfl (by decide) (whole (RowT.len a3)))) ?_
 refine TD.all [3] (by kernel_rfl) rfl ?_
 refine AllT.cons rfl ?_ ?_
 refine TL.callR (A := []) (Want.plain rfl) rfl rfl rfl nm78 rfl (rowRight_does a3 (row_wf hp3)) (fun _ s => s) (fun _ _ _ => trivial) (fun vR HR hR => ?_)
 obtain ⟨rfl, rfl⟩ := hR
 change TL _ _ _ _ _ _ _ _ _ [blkA rb [v3] 216, blkA b4 (ints (MsgT.mk a1 a2 a3 0 0 BallotT.zero BallotT.zero ChangeT.zero ViewT.zero).flat) 134, blkA b2 (ints MsgT.zero.flat) 134]
 refine TL.nil ?_
 refine TE.draw (fun _ s => ⟨Frm.of s, s.block 1 (lb rfl) rfl, trivial⟩) ?_
 refine TD.all [4] (by kernel_rfl) rfl ?_
 refine AllT.cons rfl ?_ ?_
 refine TL.store (vs := ints (MsgT.mk a1 a2 a3 0 0 BallotT.zero BallotT.zero ChangeT.zero ViewT.zero).flat) (i := 2) (H' := [blkA rb [v3] 216, blkA b4 (ints (MsgT.mk a1 a2 a3 0 0 BallotT.zero BallotT.zero ChangeT.zero ViewT.zero).flat) 134, blkA b2 (ints (MsgT.mk a1 a2 a3 0 0 BallotT.zero BallotT.zero ChangeT.zero ViewT.zero).flat) 134]) (Want.plain rfl) rfl rfl rfl rfl rfl (by rw [(MsgT.len (MsgT.mk a1 a2 a3 0 0 BallotT.zero BallotT.zero ChangeT.zero ViewT.zero))]; exact sz134) (ints_one _) rfl rfl (by have h0 := (MsgT.len MsgT.zero); have h1 := (MsgT.len (MsgT.mk a1 a2 a3 0 0 BallotT.zero BallotT.zero ChangeT.zero ViewT.zero)); omega) (wwhole ((MsgT.len MsgT.zero).trans (MsgT.len (MsgT.mk a1 a2 a3 0 0 BallotT.zero BallotT.zero ChangeT.zero ViewT.zero)).symm)) rfl ?_
 refine TL.nil ?_
 refine TE.draw (fun _ s => ⟨Frm.of s, s.block 1 (lb rfl) rfl, trivial⟩) ?_
 refine ta 5 rfl (PV.assign rfl rfl) ?_
 refine TD.done (by kernel_rfl) ?_
 refine TE.next J8 ?_
 clear J8
 refine TC.ret ?_
 refine TE.blockRet ?_
 refine TE.passRet ?_
 clear J3
 refine TE.retCT (H' := [blkA rb [v3] 216]) rfl rfl rfl Y134 rfl sz134 (Rd.own 2 rfl rfl) (MsgT.len (MsgT.mk a1 a2 a3 0 0 BallotT.zero BallotT.zero ChangeT.zero ViewT.zero)) (fun _ s => sep_keep [0] rfl s) ?_
 exact ⟨((MsgT.mk a1 a2 a3 0 0 BallotT.zero BallotT.zero ChangeT.zero ViewT.zero), (rightR a3)), _, _, rfl, rfl, by simp [readMsgP, pr, pb_some hp1, pb_some hp2, pb_some hp3, h10, MsgT.zero, RecT.zero, *], (ht1.trans (ht2.trans ht3))⟩
 exact AllT.nil
 exact AllT.nil
 refine sr fun _ J9 => ?_
 refine tp (PV.eql rfl rfl rfl) ?_
 refine TL.dec (fun h25 => ?_) (fun h25 => ?_)
 refine sg' ?_
 refine nx J9 ?_
 clear J9
 refine TC.yes rfl ?_
 refine TC.region ?_
 refine mv ?_
 refine TL.callP (A := [blkA rb [v1] 216]) (B := [blkA b4 (ints (MsgT.mk a1 0 RowT.zero 0 0 BallotT.zero BallotT.zero ChangeT.zero ViewT.zero).flat) 134, blkA b2 (ints MsgT.zero.flat) 134]) (Want.plain rfl) rfl rfl rfl nm136 rfl (num_does rb v1 r1 ) (fun _ s => sep_selR [1] rfl s) (fun _ d _ => (hf1).more d) (fun cP HP hP => ?_) (fun vR HR hR => ?_)
 obtain ⟨vP, rfl, rfl, hpP⟩ := hP
 change TE _ _ _ _ _ _ _ [blkA rb [vP] 216, blkA b4 (ints (MsgT.mk a1 0 RowT.zero 0 0 BallotT.zero BallotT.zero ChangeT.zero ViewT.zero).flat) 134, blkA b2 (ints MsgT.zero.flat) 134]
 refine TE.blockPanic ?_
 refine TE.passPanic ?_
 clear J3
 refine TE.weak (Sub.refl _) (fun _ s => sep_keep [0] rfl s) ?_
 refine TE.panicked ?_
 exact ⟨_, rfl, rfl, by simp [readMsgP, kRow, kAsk, pb_some hp1, pb_none hpP, h10, h25, *]⟩
 obtain ⟨a2, r2, v2, rfl, rfl, hp2, ht2⟩ := hR
 change TL _ _ _ _ _ _ _ _ _ [blkA rb [v2] 216, blkA b4 (ints (MsgT.mk a1 0 RowT.zero 0 0 BallotT.zero BallotT.zero ChangeT.zero ViewT.zero).flat) 134, blkA b2 (ints MsgT.zero.flat) 134]
 have hf2 := ht2 _ hf1
 refine tp (PV.fieldAddr (r := 176) rfl Y134 rfl sz3 rfl rfl) ?_
 refine TL.store1 (i := 1) (H' := [blkA rb [v2] 216, blkA b4 (ints (MsgT.mk a1 0 RowT.zero a2 0 BallotT.zero BallotT.zero ChangeT.zero ViewT.zero).flat) 134, blkA b2 (ints MsgT.zero.flat) 134]) (Want.plain rfl) rfl rfl rfl rfl rfl sz3 rfl rfl (by have h0 := (MsgT.len (MsgT.mk a1 0 RowT.zero 0 0 BallotT.zero BallotT.zero ChangeT.zero ViewT.zero)); omega) (MsgT.set_version (MsgT.mk a1 0 RowT.zero 0 0 BallotT.zero BallotT.zero ChangeT.zero ViewT.zero) rfl _) rfl ?_
 refine TL.nil ?_
 refine TE.blockEnd ?_
 refine TE.next J3 ?_
 clear J3
 refine sr fun _ J10 => ?_
 refine tp (PV.loadN (vs := ints (MsgT.mk a1 0 RowT.zero a2 0 BallotT.zero BallotT.zero ChangeT.zero ViewT.zero).flat) rfl Y134 rfl sz134 rfl (Rd.own 1 rfl rfl) (MsgT.len (MsgT.mk a1 0 RowT.zero a2 0 BallotT.zero BallotT.zero ChangeT.zero ViewT.zero)) (whole (MsgT.len (MsgT.mk a1 0 RowT.zero a2 0 BallotT.zero BallotT.zero ChangeT.zero ViewT.zero)))) ?_
 refine TL.store (vs := ints (MsgT.mk a1 0 RowT.zero a2 0 BallotT.zero BallotT.zero ChangeT.zero ViewT.zero).flat) (i := 2) (H' := [blkA rb [v2] 216, blkA b4 (ints (MsgT.mk a1 0 RowT.zero a2 0 BallotT.zero BallotT.zero ChangeT.zero ViewT.zero).flat) 134, blkA b2 (ints (MsgT.mk a1 0 RowT.zero a2 0 BallotT.zero BallotT.zero ChangeT.zero ViewT.zero).flat) 134]) (Want.plain rfl) rfl rfl rfl rfl rfl (by rw [(MsgT.len (MsgT.mk a1 0 RowT.zero a2 0 BallotT.zero BallotT.zero ChangeT.zero ViewT.zero))]; exact sz134) (ints_one _) rfl rfl (by have h0 := (MsgT.len MsgT.zero); have h1 := (MsgT.len (MsgT.mk a1 0 RowT.zero a2 0 BallotT.zero BallotT.zero ChangeT.zero ViewT.zero)); omega) (wwhole ((MsgT.len MsgT.zero).trans (MsgT.len (MsgT.mk a1 0 RowT.zero a2 0 BallotT.zero BallotT.zero ChangeT.zero ViewT.zero)).symm)) rfl ?_
 refine sg' ?_
 refine nx J10 ?_
 clear J10
 refine TC.ret ?_
 refine TE.retCT (H' := [blkA rb [v2] 216]) rfl rfl rfl Y134 rfl sz134 (Rd.own 2 rfl rfl) (MsgT.len (MsgT.mk a1 0 RowT.zero a2 0 BallotT.zero BallotT.zero ChangeT.zero ViewT.zero)) (fun _ s => sep_keep [0] rfl s) ?_
 exact ⟨((MsgT.mk a1 0 RowT.zero a2 0 BallotT.zero BallotT.zero ChangeT.zero ViewT.zero), true), _, _, rfl, rfl, by simp [readMsgP, kRow, kAsk, pr, pb_some hp1, pb_some hp2, h10, h25, MsgT.zero, RecT.zero, *], (ht1.trans ht2)⟩
 refine sg' ?_
 refine nx J9 ?_
 clear J9
 refine TC.no rfl ?_
 refine TC.seq fun _ J11 => ?_
 refine TC.cut (α := Unit) (fun _u => True) (fun _u => [(0, (.pointer (some ⟨rb, 0, none⟩))), (2, (.pointer (some ⟨b2, 0, none⟩))), (3, (.bool false)), (4, (.pointer (some ⟨b4, 0, none⟩))), (9, (.int .i64 (a1))), (29, (.bool ((kAsk a1))))]) (fun _u => [blkA b4 (ints (MsgT.mk a1 0 RowT.zero 0 0 BallotT.zero BallotT.zero ChangeT.zero ViewT.zero).flat) 134, blkA rb [v1] 216, blkA b2 (ints MsgT.zero.flat) 134]) (fun _u hinv => ?_) (fun tl11 => ?_)
 have _ := hinv
 refine TE.next J11 ?_
 clear J11
 refine TC.cond rfl (fun h29 => ?_) (fun h29 => ?_)
 refine sr fun _ J12 => ?_
 refine mv ?_
 refine TL.callP (A := [blkA rb [v1] 216]) (B := [blkA b4 (ints (MsgT.mk a1 0 RowT.zero 0 0 BallotT.zero BallotT.zero ChangeT.zero ViewT.zero).flat) 134, blkA b2 (ints MsgT.zero.flat) 134]) (Want.plain rfl) rfl rfl rfl nm136 rfl (num_does rb v1 r1 ) (fun _ s => sep_selR [1] rfl s) (fun _ d _ => (hf1).more d) (fun cP HP hP => ?_) (fun vR HR hR => ?_)
 obtain ⟨vP, rfl, rfl, hpP⟩ := hP
 change TE _ _ _ _ _ _ _ [blkA rb [vP] 216, blkA b4 (ints (MsgT.mk a1 0 RowT.zero 0 0 BallotT.zero BallotT.zero ChangeT.zero ViewT.zero).flat) 134, blkA b2 (ints MsgT.zero.flat) 134]
 refine TE.passPanic ?_
 clear J12
 refine TE.blockPanic ?_
 refine TE.passPanic ?_
 clear J3
 refine TE.weak (Sub.refl _) (fun _ s => sep_keep [0] rfl s) ?_
 refine TE.panicked ?_
 exact ⟨_, rfl, rfl, by simp [readMsgP, pb_some hp1, pb_none hpP, h10, h25, h29, *]⟩
 obtain ⟨a2, r2, v2, rfl, rfl, hp2, ht2⟩ := hR
 change TL _ _ _ _ _ _ _ _ _ [blkA rb [v2] 216, blkA b4 (ints (MsgT.mk a1 0 RowT.zero 0 0 BallotT.zero BallotT.zero ChangeT.zero ViewT.zero).flat) 134, blkA b2 (ints MsgT.zero.flat) 134]
 have hf2 := ht2 _ hf1
 refine tp (PV.fieldAddr (r := 177) rfl Y134 rfl sz3 rfl rfl) ?_
 refine TL.store1 (i := 1) (H' := [blkA rb [v2] 216, blkA b4 (ints (MsgT.mk a1 0 RowT.zero 0 a2 BallotT.zero BallotT.zero ChangeT.zero ViewT.zero).flat) 134, blkA b2 (ints MsgT.zero.flat) 134]) (Want.plain rfl) rfl rfl rfl rfl rfl sz3 rfl rfl (by have h0 := (MsgT.len (MsgT.mk a1 0 RowT.zero 0 0 BallotT.zero BallotT.zero ChangeT.zero ViewT.zero)); omega) (MsgT.set_epoch (MsgT.mk a1 0 RowT.zero 0 0 BallotT.zero BallotT.zero ChangeT.zero ViewT.zero) rfl _) rfl ?_
 refine nx J12 ?_
 clear J12
 refine TC.region ?_
 refine mv ?_
 refine TL.callP (A := [blkA rb [v2] 216]) (B := [blkA b4 (ints (MsgT.mk a1 0 RowT.zero 0 a2 BallotT.zero BallotT.zero ChangeT.zero ViewT.zero).flat) 134, blkA b2 (ints MsgT.zero.flat) 134]) (Want.plain rfl) rfl rfl rfl nm137 rfl (rballot_does rb v2 r2 ) (fun _ s => s) (fun _ d _ => (hf2).more d) (fun cP HP hP => ?_) (fun vR HR hR => ?_)
 obtain ⟨vP, rfl, rfl, hpP⟩ := hP
 change TE _ _ _ _ _ _ _ [blkA rb [vP] 216, blkA b4 (ints (MsgT.mk a1 0 RowT.zero 0 a2 BallotT.zero BallotT.zero ChangeT.zero ViewT.zero).flat) 134, blkA b2 (ints MsgT.zero.flat) 134]
 refine TE.blockPanic ?_
 refine TE.passPanic ?_
 clear J3
 refine TE.weak (Sub.refl _) (fun _ s => sep_keep [0] rfl s) ?_
 refine TE.panicked ?_
 exact ⟨_, rfl, rfl, by simp [readMsgP, pb_some hp1, pb_some hp2, pb_none hpP, h10, h25, h29, *]⟩
 obtain ⟨a3, r3, v3, rfl, rfl, hp3, ht3⟩ := hR
 change TL _ _ _ _ _ _ _ _ _ [blkA rb [v3] 216, blkA b4 (ints (MsgT.mk a1 0 RowT.zero 0 a2 BallotT.zero BallotT.zero ChangeT.zero ViewT.zero).flat) 134, blkA b2 (ints MsgT.zero.flat) 134]
 have hf3 := ht3 _ hf2
 refine tp (PV.fieldAddr (r := 178) rfl Y134 rfl sz90 rfl rfl) ?_
 refine TL.store (vs := ints a3.flat) (i := 1) (H' := [blkA rb [v3] 216, blkA b4 (ints (MsgT.mk a1 0 RowT.zero 0 a2 a3 BallotT.zero ChangeT.zero ViewT.zero).flat) 134, blkA b2 (ints MsgT.zero.flat) 134]) (Want.plain rfl) rfl rfl rfl rfl rfl (by rw [(BallotT.len a3)]; exact sz90) (ints_one _) rfl rfl (by have h0 := (MsgT.len (MsgT.mk a1 0 RowT.zero 0 a2 BallotT.zero BallotT.zero ChangeT.zero ViewT.zero)); have h1 := (BallotT.len a3); omega) (MsgT.wr_ballot_ (MsgT.mk a1 0 RowT.zero 0 a2 BallotT.zero BallotT.zero ChangeT.zero ViewT.zero) 0 rfl (by have h1 := (BallotT.len a3); omega) (wwhole ((BallotT.len BallotT.zero).trans (BallotT.len a3).symm))) rfl ?_
 refine TL.nil ?_
 refine TE.blockEnd ?_
 refine TE.next J3 ?_
 clear J3
 refine sr fun _ J13 => ?_
 refine tp (PV.loadN (vs := ints (MsgT.mk a1 0 RowT.zero 0 a2 a3 BallotT.zero ChangeT.zero ViewT.zero).flat) rfl Y134 rfl sz134 rfl (Rd.own 1 rfl rfl) (MsgT.len (MsgT.mk a1 0 RowT.zero 0 a2 a3 BallotT.zero ChangeT.zero ViewT.zero)) (whole (MsgT.len (MsgT.mk a1 0 RowT.zero 0 a2 a3 BallotT.zero ChangeT.zero ViewT.zero)))) ?_
 refine TL.store (vs := ints (MsgT.mk a1 0 RowT.zero 0 a2 a3 BallotT.zero ChangeT.zero ViewT.zero).flat) (i := 2) (H' := [blkA rb [v3] 216, blkA b4 (ints (MsgT.mk a1 0 RowT.zero 0 a2 a3 BallotT.zero ChangeT.zero ViewT.zero).flat) 134, blkA b2 (ints (MsgT.mk a1 0 RowT.zero 0 a2 a3 BallotT.zero ChangeT.zero ViewT.zero).flat) 134]) (Want.plain rfl) rfl rfl rfl rfl rfl (by rw [(MsgT.len (MsgT.mk a1 0 RowT.zero 0 a2 a3 BallotT.zero ChangeT.zero ViewT.zero))]; exact sz134) (ints_one _) rfl rfl (by have h0 := (MsgT.len MsgT.zero); have h1 := (MsgT.len (MsgT.mk a1 0 RowT.zero 0 a2 a3 BallotT.zero ChangeT.zero ViewT.zero)); omega) (wwhole ((MsgT.len MsgT.zero).trans (MsgT.len (MsgT.mk a1 0 RowT.zero 0 a2 a3 BallotT.zero ChangeT.zero ViewT.zero)).symm)) rfl ?_
 refine sg' ?_
 refine nx J13 ?_
 clear J13
 refine TC.ret ?_
 refine TE.retCT (H' := [blkA rb [v3] 216]) rfl rfl rfl Y134 rfl sz134 (Rd.own 2 rfl rfl) (MsgT.len (MsgT.mk a1 0 RowT.zero 0 a2 a3 BallotT.zero ChangeT.zero ViewT.zero)) (fun _ s => sep_keep [0] rfl s) ?_
 exact ⟨((MsgT.mk a1 0 RowT.zero 0 a2 a3 BallotT.zero ChangeT.zero ViewT.zero), true), _, _, rfl, rfl, by simp [readMsgP, pr, pb_some hp1, pb_some hp2, pb_some hp3, h10, h25, h29, MsgT.zero, RecT.zero, *], (ht1.trans (ht2.trans ht3))⟩
 refine sr fun _ J14 => ?_
 refine tp (PV.eql rfl rfl rfl) ?_
 refine TL.dec (fun h39 => ?_) (fun h39 => ?_)
 refine sg' ?_
 refine nx J14 ?_
 clear J14
 refine TC.yes rfl ?_
 refine sr fun _ J15 => ?_
 refine mv ?_
 refine TL.callP (A := [blkA rb [v1] 216]) (B := [blkA b4 (ints (MsgT.mk a1 0 RowT.zero 0 0 BallotT.zero BallotT.zero ChangeT.zero ViewT.zero).flat) 134, blkA b2 (ints MsgT.zero.flat) 134]) (Want.plain rfl) rfl rfl rfl nm136 rfl (num_does rb v1 r1 ) (fun _ s => sep_selR [1] rfl s) (fun _ d _ => (hf1).more d) (fun cP HP hP => ?_) (fun vR HR hR => ?_)
 obtain ⟨vP, rfl, rfl, hpP⟩ := hP
 change TE _ _ _ _ _ _ _ [blkA rb [vP] 216, blkA b4 (ints (MsgT.mk a1 0 RowT.zero 0 0 BallotT.zero BallotT.zero ChangeT.zero ViewT.zero).flat) 134, blkA b2 (ints MsgT.zero.flat) 134]
 refine TE.passPanic ?_
 clear J15
 refine TE.blockPanic ?_
 refine TE.passPanic ?_
 clear J3
 refine TE.weak (Sub.refl _) (fun _ s => sep_keep [0] rfl s) ?_
 refine TE.panicked ?_
 exact ⟨_, rfl, rfl, by simp [readMsgP, kRow, kAsk, pb_some hp1, pb_none hpP, h10, h25, h29, h39, *]⟩
 obtain ⟨a2, r2, v2, rfl, rfl, hp2, ht2⟩ := hR
 change TL _ _ _ _ _ _ _ _ _ [blkA rb [v2] 216, blkA b4 (ints (MsgT.mk a1 0 RowT.zero 0 0 BallotT.zero BallotT.zero ChangeT.zero ViewT.zero).flat) 134, blkA b2 (ints MsgT.zero.flat) 134]
 have hf2 := ht2 _ hf1
 refine tp (PV.fieldAddr (r := 177) rfl Y134 rfl sz3 rfl rfl) ?_
 refine TL.store1 (i := 1) (H' := [blkA rb [v2] 216, blkA b4 (ints (MsgT.mk a1 0 RowT.zero 0 a2 BallotT.zero BallotT.zero ChangeT.zero ViewT.zero).flat) 134, blkA b2 (ints MsgT.zero.flat) 134]) (Want.plain rfl) rfl rfl rfl rfl rfl sz3 rfl rfl (by have h0 := (MsgT.len (MsgT.mk a1 0 RowT.zero 0 0 BallotT.zero BallotT.zero ChangeT.zero ViewT.zero)); omega) (MsgT.set_epoch (MsgT.mk a1 0 RowT.zero 0 0 BallotT.zero BallotT.zero ChangeT.zero ViewT.zero) rfl _) rfl ?_
 refine nx J15 ?_
 clear J15
 refine sr fun _ J16 => ?_
 refine mv ?_
 refine TL.callP (A := [blkA rb [v2] 216]) (B := [blkA b4 (ints (MsgT.mk a1 0 RowT.zero 0 a2 BallotT.zero BallotT.zero ChangeT.zero ViewT.zero).flat) 134, blkA b2 (ints MsgT.zero.flat) 134]) (Want.plain rfl) rfl rfl rfl nm137 rfl (rballot_does rb v2 r2 ) (fun _ s => s) (fun _ d _ => (hf2).more d) (fun cP HP hP => ?_) (fun vR HR hR => ?_)
 obtain ⟨vP, rfl, rfl, hpP⟩ := hP
 change TE _ _ _ _ _ _ _ [blkA rb [vP] 216, blkA b4 (ints (MsgT.mk a1 0 RowT.zero 0 a2 BallotT.zero BallotT.zero ChangeT.zero ViewT.zero).flat) 134, blkA b2 (ints MsgT.zero.flat) 134]
 refine TE.passPanic ?_
 clear J16
 refine TE.blockPanic ?_
 refine TE.passPanic ?_
 clear J3
 refine TE.weak (Sub.refl _) (fun _ s => sep_keep [0] rfl s) ?_
 refine TE.panicked ?_
 exact ⟨_, rfl, rfl, by simp [readMsgP, kRow, kAsk, pb_some hp1, pb_some hp2, pb_none hpP, h10, h25, h29, h39, *]⟩
 obtain ⟨a3, r3, v3, rfl, rfl, hp3, ht3⟩ := hR
 change TL _ _ _ _ _ _ _ _ _ [blkA rb [v3] 216, blkA b4 (ints (MsgT.mk a1 0 RowT.zero 0 a2 BallotT.zero BallotT.zero ChangeT.zero ViewT.zero).flat) 134, blkA b2 (ints MsgT.zero.flat) 134]
 have hf3 := ht3 _ hf2
 refine tp (PV.fieldAddr (r := 178) rfl Y134 rfl sz90 rfl rfl) ?_
 refine TL.store (vs := ints a3.flat) (i := 1) (H' := [blkA rb [v3] 216, blkA b4 (ints (MsgT.mk a1 0 RowT.zero 0 a2 a3 BallotT.zero ChangeT.zero ViewT.zero).flat) 134, blkA b2 (ints MsgT.zero.flat) 134]) (Want.plain rfl) rfl rfl rfl rfl rfl (by rw [(BallotT.len a3)]; exact sz90) (ints_one _) rfl rfl (by have h0 := (MsgT.len (MsgT.mk a1 0 RowT.zero 0 a2 BallotT.zero BallotT.zero ChangeT.zero ViewT.zero)); have h1 := (BallotT.len a3); omega) (MsgT.wr_ballot_ (MsgT.mk a1 0 RowT.zero 0 a2 BallotT.zero BallotT.zero ChangeT.zero ViewT.zero) 0 rfl (by have h1 := (BallotT.len a3); omega) (wwhole ((BallotT.len BallotT.zero).trans (BallotT.len a3).symm))) rfl ?_
 refine nx J16 ?_
 clear J16
 refine sr fun _ J17 => ?_
 refine mv ?_
 refine TL.callP (A := [blkA rb [v3] 216]) (B := [blkA b4 (ints (MsgT.mk a1 0 RowT.zero 0 a2 a3 BallotT.zero ChangeT.zero ViewT.zero).flat) 134, blkA b2 (ints MsgT.zero.flat) 134]) (Want.plain rfl) rfl rfl rfl nm137 rfl (rballot_does rb v3 r3 ) (fun _ s => s) (fun _ d _ => (hf3).more d) (fun cP HP hP => ?_) (fun vR HR hR => ?_)
 obtain ⟨vP, rfl, rfl, hpP⟩ := hP
 change TE _ _ _ _ _ _ _ [blkA rb [vP] 216, blkA b4 (ints (MsgT.mk a1 0 RowT.zero 0 a2 a3 BallotT.zero ChangeT.zero ViewT.zero).flat) 134, blkA b2 (ints MsgT.zero.flat) 134]
 refine TE.passPanic ?_
 clear J17
 refine TE.blockPanic ?_
 refine TE.passPanic ?_
 clear J3
 refine TE.weak (Sub.refl _) (fun _ s => sep_keep [0] rfl s) ?_
 refine TE.panicked ?_
 exact ⟨_, rfl, rfl, by simp [readMsgP, kRow, kAsk, pb_some hp1, pb_some hp2, pb_some hp3, pb_none hpP, h10, h25, h29, h39, *]⟩
 obtain ⟨a4, r4, v4, rfl, rfl, hp4, ht4⟩ := hR
 change TL _ _ _ _ _ _ _ _ _ [blkA rb [v4] 216, blkA b4 (ints (MsgT.mk a1 0 RowT.zero 0 a2 a3 BallotT.zero ChangeT.zero ViewT.zero).flat) 134, blkA b2 (ints MsgT.zero.flat) 134]
 have hf4 := ht4 _ hf3
 refine tp (PV.fieldAddr (r := 180) rfl Y134 rfl sz90 rfl rfl) ?_
 refine TL.store (vs := ints a4.flat) (i := 1) (H' := [blkA rb [v4] 216, blkA b4 (ints (MsgT.mk a1 0 RowT.zero 0 a2 a3 a4 ChangeT.zero ViewT.zero).flat) 134, blkA b2 (ints MsgT.zero.flat) 134]) (Want.plain rfl) rfl rfl rfl rfl rfl (by rw [(BallotT.len a4)]; exact sz90) (ints_one _) rfl rfl (by have h0 := (MsgT.len (MsgT.mk a1 0 RowT.zero 0 a2 a3 BallotT.zero ChangeT.zero ViewT.zero)); have h1 := (BallotT.len a4); omega) (MsgT.wr_had_ (MsgT.mk a1 0 RowT.zero 0 a2 a3 BallotT.zero ChangeT.zero ViewT.zero) 0 rfl (by have h1 := (BallotT.len a4); omega) (wwhole ((BallotT.len BallotT.zero).trans (BallotT.len a4).symm))) rfl ?_
 refine nx J17 ?_
 clear J17
 refine TC.region ?_
 refine mv ?_
 refine TL.callP (A := [blkA rb [v4] 216]) (B := [blkA b4 (ints (MsgT.mk a1 0 RowT.zero 0 a2 a3 a4 ChangeT.zero ViewT.zero).flat) 134, blkA b2 (ints MsgT.zero.flat) 134]) (Want.plain rfl) rfl rfl rfl nm138 rfl (rchange_does rb v4 r4 ) (fun _ s => s) (fun _ d _ => (hf4).more d) (fun cP HP hP => ?_) (fun vR HR hR => ?_)
 obtain ⟨vP, rfl, rfl, hpP⟩ := hP
 change TE _ _ _ _ _ _ _ [blkA rb [vP] 216, blkA b4 (ints (MsgT.mk a1 0 RowT.zero 0 a2 a3 a4 ChangeT.zero ViewT.zero).flat) 134, blkA b2 (ints MsgT.zero.flat) 134]
 refine TE.blockPanic ?_
 refine TE.passPanic ?_
 clear J3
 refine TE.weak (Sub.refl _) (fun _ s => sep_keep [0] rfl s) ?_
 refine TE.panicked ?_
 exact ⟨_, rfl, rfl, by simp [readMsgP, kRow, kAsk, pb_some hp1, pb_some hp2, pb_some hp3, pb_some hp4, pb_none hpP, h10, h25, h29, h39, *]⟩
 obtain ⟨a5, r5, v5, rfl, rfl, hp5, ht5⟩ := hR
 change TL _ _ _ _ _ _ _ _ _ [blkA rb [v5] 216, blkA b4 (ints (MsgT.mk a1 0 RowT.zero 0 a2 a3 a4 ChangeT.zero ViewT.zero).flat) 134, blkA b2 (ints MsgT.zero.flat) 134]
 have hf5 := ht5 _ hf4
 refine tp (PV.fieldAddr (r := 182) rfl Y134 rfl sz28 rfl rfl) ?_
 refine TL.store (vs := ints a5.flat) (i := 1) (H' := [blkA rb [v5] 216, blkA b4 (ints (MsgT.mk a1 0 RowT.zero 0 a2 a3 a4 a5 ViewT.zero).flat) 134, blkA b2 (ints MsgT.zero.flat) 134]) (Want.plain rfl) rfl rfl rfl rfl rfl (by rw [(ChangeT.len a5)]; exact sz28) (ints_one _) rfl rfl (by have h0 := (MsgT.len (MsgT.mk a1 0 RowT.zero 0 a2 a3 a4 ChangeT.zero ViewT.zero)); have h1 := (ChangeT.len a5); omega) (MsgT.wr_change_ (MsgT.mk a1 0 RowT.zero 0 a2 a3 a4 ChangeT.zero ViewT.zero) 0 rfl (by have h1 := (ChangeT.len a5); omega) (wwhole ((ChangeT.len ChangeT.zero).trans (ChangeT.len a5).symm))) rfl ?_
 refine TL.nil ?_
 refine TE.blockEnd ?_
 refine TE.next J3 ?_
 clear J3
 refine sr fun _ J18 => ?_
 refine tp (PV.loadN (vs := ints (MsgT.mk a1 0 RowT.zero 0 a2 a3 a4 a5 ViewT.zero).flat) rfl Y134 rfl sz134 rfl (Rd.own 1 rfl rfl) (MsgT.len (MsgT.mk a1 0 RowT.zero 0 a2 a3 a4 a5 ViewT.zero)) (whole (MsgT.len (MsgT.mk a1 0 RowT.zero 0 a2 a3 a4 a5 ViewT.zero)))) ?_
 refine TL.store (vs := ints (MsgT.mk a1 0 RowT.zero 0 a2 a3 a4 a5 ViewT.zero).flat) (i := 2) (H' := [blkA rb [v5] 216, blkA b4 (ints (MsgT.mk a1 0 RowT.zero 0 a2 a3 a4 a5 ViewT.zero).flat) 134, blkA b2 (ints (MsgT.mk a1 0 RowT.zero 0 a2 a3 a4 a5 ViewT.zero).flat) 134]) (Want.plain rfl) rfl rfl rfl rfl rfl (by rw [(MsgT.len (MsgT.mk a1 0 RowT.zero 0 a2 a3 a4 a5 ViewT.zero))]; exact sz134) (ints_one _) rfl rfl (by have h0 := (MsgT.len MsgT.zero); have h1 := (MsgT.len (MsgT.mk a1 0 RowT.zero 0 a2 a3 a4 a5 ViewT.zero)); omega) (wwhole ((MsgT.len MsgT.zero).trans (MsgT.len (MsgT.mk a1 0 RowT.zero 0 a2 a3 a4 a5 ViewT.zero)).symm)) rfl ?_
 refine sg' ?_
 refine nx J18 ?_
 clear J18
 refine TC.ret ?_
 refine TE.retCT (H' := [blkA rb [v5] 216]) rfl rfl rfl Y134 rfl sz134 (Rd.own 2 rfl rfl) (MsgT.len (MsgT.mk a1 0 RowT.zero 0 a2 a3 a4 a5 ViewT.zero)) (fun _ s => sep_keep [0] rfl s) ?_
 exact ⟨((MsgT.mk a1 0 RowT.zero 0 a2 a3 a4 a5 ViewT.zero), true), _, _, rfl, rfl, by simp [readMsgP, kRow, kAsk, pr, pb_some hp1, pb_some hp2, pb_some hp3, pb_some hp4, pb_some hp5, h10, h25, h29, h39, MsgT.zero, RecT.zero, *], (ht1.trans (ht2.trans (ht3.trans (ht4.trans ht5))))⟩
 refine sg' ?_
 refine nx J14 ?_
 clear J14
 refine TC.no rfl ?_
 refine sr fun _ J19 => ?_
 refine tp (PV.eql rfl rfl rfl) ?_
 refine TL.dec (fun h53 => ?_) (fun h53 => ?_)
 refine sg' ?_
 refine nx J19 ?_
 clear J19
 refine TC.yes rfl ?_
 refine sr fun _ J20 => ?_
 refine mv ?_
 refine TL.callP (A := [blkA rb [v1] 216]) (B := [blkA b4 (ints (MsgT.mk a1 0 RowT.zero 0 0 BallotT.zero BallotT.zero ChangeT.zero ViewT.zero).flat) 134, blkA b2 (ints MsgT.zero.flat) 134]) (Want.plain rfl) rfl rfl rfl nm136 rfl (num_does rb v1 r1 ) (fun _ s => sep_selR [1] rfl s) (fun _ d _ => (hf1).more d) (fun cP HP hP => ?_) (fun vR HR hR => ?_)
 obtain ⟨vP, rfl, rfl, hpP⟩ := hP
 change TE _ _ _ _ _ _ _ [blkA rb [vP] 216, blkA b4 (ints (MsgT.mk a1 0 RowT.zero 0 0 BallotT.zero BallotT.zero ChangeT.zero ViewT.zero).flat) 134, blkA b2 (ints MsgT.zero.flat) 134]
 refine TE.passPanic ?_
 clear J20
 refine TE.blockPanic ?_
 refine TE.passPanic ?_
 clear J3
 refine TE.weak (Sub.refl _) (fun _ s => sep_keep [0] rfl s) ?_
 refine TE.panicked ?_
 exact ⟨_, rfl, rfl, by simp [readMsgP, kRow, kAsk, pb_some hp1, pb_none hpP, h10, h25, h29, h39, h53, *]⟩
 obtain ⟨a2, r2, v2, rfl, rfl, hp2, ht2⟩ := hR
 change TL _ _ _ _ _ _ _ _ _ [blkA rb [v2] 216, blkA b4 (ints (MsgT.mk a1 0 RowT.zero 0 0 BallotT.zero BallotT.zero ChangeT.zero ViewT.zero).flat) 134, blkA b2 (ints MsgT.zero.flat) 134]
 have hf2 := ht2 _ hf1
 refine tp (PV.fieldAddr (r := 177) rfl Y134 rfl sz3 rfl rfl) ?_
 refine TL.store1 (i := 1) (H' := [blkA rb [v2] 216, blkA b4 (ints (MsgT.mk a1 0 RowT.zero 0 a2 BallotT.zero BallotT.zero ChangeT.zero ViewT.zero).flat) 134, blkA b2 (ints MsgT.zero.flat) 134]) (Want.plain rfl) rfl rfl rfl rfl rfl sz3 rfl rfl (by have h0 := (MsgT.len (MsgT.mk a1 0 RowT.zero 0 0 BallotT.zero BallotT.zero ChangeT.zero ViewT.zero)); omega) (MsgT.set_epoch (MsgT.mk a1 0 RowT.zero 0 0 BallotT.zero BallotT.zero ChangeT.zero ViewT.zero) rfl _) rfl ?_
 refine nx J20 ?_
 clear J20
 refine sr fun _ J21 => ?_
 refine mv ?_
 refine TL.callP (A := [blkA rb [v2] 216]) (B := [blkA b4 (ints (MsgT.mk a1 0 RowT.zero 0 a2 BallotT.zero BallotT.zero ChangeT.zero ViewT.zero).flat) 134, blkA b2 (ints MsgT.zero.flat) 134]) (Want.plain rfl) rfl rfl rfl nm137 rfl (rballot_does rb v2 r2 ) (fun _ s => s) (fun _ d _ => (hf2).more d) (fun cP HP hP => ?_) (fun vR HR hR => ?_)
 obtain ⟨vP, rfl, rfl, hpP⟩ := hP
 change TE _ _ _ _ _ _ _ [blkA rb [vP] 216, blkA b4 (ints (MsgT.mk a1 0 RowT.zero 0 a2 BallotT.zero BallotT.zero ChangeT.zero ViewT.zero).flat) 134, blkA b2 (ints MsgT.zero.flat) 134]
 refine TE.passPanic ?_
 clear J21
 refine TE.blockPanic ?_
 refine TE.passPanic ?_
 clear J3
 refine TE.weak (Sub.refl _) (fun _ s => sep_keep [0] rfl s) ?_
 refine TE.panicked ?_
 exact ⟨_, rfl, rfl, by simp [readMsgP, kRow, kAsk, pb_some hp1, pb_some hp2, pb_none hpP, h10, h25, h29, h39, h53, *]⟩
 obtain ⟨a3, r3, v3, rfl, rfl, hp3, ht3⟩ := hR
 change TL _ _ _ _ _ _ _ _ _ [blkA rb [v3] 216, blkA b4 (ints (MsgT.mk a1 0 RowT.zero 0 a2 BallotT.zero BallotT.zero ChangeT.zero ViewT.zero).flat) 134, blkA b2 (ints MsgT.zero.flat) 134]
 have hf3 := ht3 _ hf2
 refine tp (PV.fieldAddr (r := 178) rfl Y134 rfl sz90 rfl rfl) ?_
 refine TL.store (vs := ints a3.flat) (i := 1) (H' := [blkA rb [v3] 216, blkA b4 (ints (MsgT.mk a1 0 RowT.zero 0 a2 a3 BallotT.zero ChangeT.zero ViewT.zero).flat) 134, blkA b2 (ints MsgT.zero.flat) 134]) (Want.plain rfl) rfl rfl rfl rfl rfl (by rw [(BallotT.len a3)]; exact sz90) (ints_one _) rfl rfl (by have h0 := (MsgT.len (MsgT.mk a1 0 RowT.zero 0 a2 BallotT.zero BallotT.zero ChangeT.zero ViewT.zero)); have h1 := (BallotT.len a3); omega) (MsgT.wr_ballot_ (MsgT.mk a1 0 RowT.zero 0 a2 BallotT.zero BallotT.zero ChangeT.zero ViewT.zero) 0 rfl (by have h1 := (BallotT.len a3); omega) (wwhole ((BallotT.len BallotT.zero).trans (BallotT.len a3).symm))) rfl ?_
 refine nx J21 ?_
 clear J21
 refine TC.region ?_
 refine mv ?_
 refine TL.callP (A := [blkA rb [v3] 216]) (B := [blkA b4 (ints (MsgT.mk a1 0 RowT.zero 0 a2 a3 BallotT.zero ChangeT.zero ViewT.zero).flat) 134, blkA b2 (ints MsgT.zero.flat) 134]) (Want.plain rfl) rfl rfl rfl nm138 rfl (rchange_does rb v3 r3 ) (fun _ s => s) (fun _ d _ => (hf3).more d) (fun cP HP hP => ?_) (fun vR HR hR => ?_)
 obtain ⟨vP, rfl, rfl, hpP⟩ := hP
 change TE _ _ _ _ _ _ _ [blkA rb [vP] 216, blkA b4 (ints (MsgT.mk a1 0 RowT.zero 0 a2 a3 BallotT.zero ChangeT.zero ViewT.zero).flat) 134, blkA b2 (ints MsgT.zero.flat) 134]
 refine TE.blockPanic ?_
 refine TE.passPanic ?_
 clear J3
 refine TE.weak (Sub.refl _) (fun _ s => sep_keep [0] rfl s) ?_
 refine TE.panicked ?_
 exact ⟨_, rfl, rfl, by simp [readMsgP, kRow, kAsk, pb_some hp1, pb_some hp2, pb_some hp3, pb_none hpP, h10, h25, h29, h39, h53, *]⟩
 obtain ⟨a4, r4, v4, rfl, rfl, hp4, ht4⟩ := hR
 change TL _ _ _ _ _ _ _ _ _ [blkA rb [v4] 216, blkA b4 (ints (MsgT.mk a1 0 RowT.zero 0 a2 a3 BallotT.zero ChangeT.zero ViewT.zero).flat) 134, blkA b2 (ints MsgT.zero.flat) 134]
 have hf4 := ht4 _ hf3
 refine tp (PV.fieldAddr (r := 182) rfl Y134 rfl sz28 rfl rfl) ?_
 refine TL.store (vs := ints a4.flat) (i := 1) (H' := [blkA rb [v4] 216, blkA b4 (ints (MsgT.mk a1 0 RowT.zero 0 a2 a3 BallotT.zero a4 ViewT.zero).flat) 134, blkA b2 (ints MsgT.zero.flat) 134]) (Want.plain rfl) rfl rfl rfl rfl rfl (by rw [(ChangeT.len a4)]; exact sz28) (ints_one _) rfl rfl (by have h0 := (MsgT.len (MsgT.mk a1 0 RowT.zero 0 a2 a3 BallotT.zero ChangeT.zero ViewT.zero)); have h1 := (ChangeT.len a4); omega) (MsgT.wr_change_ (MsgT.mk a1 0 RowT.zero 0 a2 a3 BallotT.zero ChangeT.zero ViewT.zero) 0 rfl (by have h1 := (ChangeT.len a4); omega) (wwhole ((ChangeT.len ChangeT.zero).trans (ChangeT.len a4).symm))) rfl ?_
 refine TL.nil ?_
 refine TE.blockEnd ?_
 refine TE.next J3 ?_
 clear J3
 refine sr fun _ J22 => ?_
 refine tp (PV.loadN (vs := ints (MsgT.mk a1 0 RowT.zero 0 a2 a3 BallotT.zero a4 ViewT.zero).flat) rfl Y134 rfl sz134 rfl (Rd.own 1 rfl rfl) (MsgT.len (MsgT.mk a1 0 RowT.zero 0 a2 a3 BallotT.zero a4 ViewT.zero)) (whole (MsgT.len (MsgT.mk a1 0 RowT.zero 0 a2 a3 BallotT.zero a4 ViewT.zero)))) ?_
 refine TL.store (vs := ints (MsgT.mk a1 0 RowT.zero 0 a2 a3 BallotT.zero a4 ViewT.zero).flat) (i := 2) (H' := [blkA rb [v4] 216, blkA b4 (ints (MsgT.mk a1 0 RowT.zero 0 a2 a3 BallotT.zero a4 ViewT.zero).flat) 134, blkA b2 (ints (MsgT.mk a1 0 RowT.zero 0 a2 a3 BallotT.zero a4 ViewT.zero).flat) 134]) (Want.plain rfl) rfl rfl rfl rfl rfl (by rw [(MsgT.len (MsgT.mk a1 0 RowT.zero 0 a2 a3 BallotT.zero a4 ViewT.zero))]; exact sz134) (ints_one _) rfl rfl (by have h0 := (MsgT.len MsgT.zero); have h1 := (MsgT.len (MsgT.mk a1 0 RowT.zero 0 a2 a3 BallotT.zero a4 ViewT.zero)); omega) (wwhole ((MsgT.len MsgT.zero).trans (MsgT.len (MsgT.mk a1 0 RowT.zero 0 a2 a3 BallotT.zero a4 ViewT.zero)).symm)) rfl ?_
 refine sg' ?_
 refine nx J22 ?_
 clear J22
 refine TC.ret ?_
 refine TE.retCT (H' := [blkA rb [v4] 216]) rfl rfl rfl Y134 rfl sz134 (Rd.own 2 rfl rfl) (MsgT.len (MsgT.mk a1 0 RowT.zero 0 a2 a3 BallotT.zero a4 ViewT.zero)) (fun _ s => sep_keep [0] rfl s) ?_
 exact ⟨((MsgT.mk a1 0 RowT.zero 0 a2 a3 BallotT.zero a4 ViewT.zero), true), _, _, rfl, rfl, by simp [readMsgP, kRow, kAsk, pr, pb_some hp1, pb_some hp2, pb_some hp3, pb_some hp4, h10, h25, h29, h39, h53, MsgT.zero, RecT.zero, *], (ht1.trans (ht2.trans (ht3.trans ht4)))⟩
 refine sg' ?_
 refine nx J19 ?_
 clear J19
 refine TC.no rfl ?_
 refine sr fun _ J23 => ?_
 refine tp (PV.eql rfl rfl rfl) ?_
 refine TL.dec (fun h64 => ?_) (fun h64 => ?_)
 refine sg' ?_
 refine nx J23 ?_
 clear J23
 refine TC.yes rfl ?_
 refine sr fun _ J24 => ?_
 refine mv ?_
 refine TL.callP (A := [blkA rb [v1] 216]) (B := [blkA b4 (ints (MsgT.mk a1 0 RowT.zero 0 0 BallotT.zero BallotT.zero ChangeT.zero ViewT.zero).flat) 134, blkA b2 (ints MsgT.zero.flat) 134]) (Want.plain rfl) rfl rfl rfl nm139 rfl (rview_does rb v1 r1 ) (fun _ s => sep_selR [1] rfl s) (fun _ d _ => (hf1).more d) (fun cP HP hP => ?_) (fun vR HR hR => ?_)
 obtain ⟨vP, rfl, rfl, hpP⟩ := hP
 change TE _ _ _ _ _ _ _ [blkA rb [vP] 216, blkA b4 (ints (MsgT.mk a1 0 RowT.zero 0 0 BallotT.zero BallotT.zero ChangeT.zero ViewT.zero).flat) 134, blkA b2 (ints MsgT.zero.flat) 134]
 refine TE.passPanic ?_
 clear J24
 refine TE.blockPanic ?_
 refine TE.passPanic ?_
 clear J3
 refine TE.weak (Sub.refl _) (fun _ s => sep_keep [0] rfl s) ?_
 refine TE.panicked ?_
 exact ⟨_, rfl, rfl, by simp [readMsgP, kRow, kAsk, pb_some hp1, pb_none hpP, h10, h25, h29, h39, h53, h64, *]⟩
 obtain ⟨a2, r2, v2, rfl, rfl, hp2, ht2⟩ := hR
 change TL _ _ _ _ _ _ _ _ _ [blkA rb [v2] 216, blkA b4 (ints (MsgT.mk a1 0 RowT.zero 0 0 BallotT.zero BallotT.zero ChangeT.zero ViewT.zero).flat) 134, blkA b2 (ints MsgT.zero.flat) 134]
 have hf2 := ht2 _ hf1
 refine tp (PV.fieldAddr (r := 185) rfl Y134 rfl sz85 rfl rfl) ?_
 refine TL.store (vs := ints a2.flat) (i := 1) (H' := [blkA rb [v2] 216, blkA b4 (ints (MsgT.mk a1 0 RowT.zero 0 0 BallotT.zero BallotT.zero ChangeT.zero a2).flat) 134, blkA b2 (ints MsgT.zero.flat) 134]) (Want.plain rfl) rfl rfl rfl rfl rfl (by rw [(ViewT.len a2)]; exact sz85) (ints_one _) rfl rfl (by have h0 := (MsgT.len (MsgT.mk a1 0 RowT.zero 0 0 BallotT.zero BallotT.zero ChangeT.zero ViewT.zero)); have h1 := (ViewT.len a2); omega) (MsgT.wr_view_ (MsgT.mk a1 0 RowT.zero 0 0 BallotT.zero BallotT.zero ChangeT.zero ViewT.zero) 0 rfl (by have h1 := (ViewT.len a2); omega) (wwhole ((ViewT.len ViewT.zero).trans (ViewT.len a2).symm))) rfl ?_
 refine nx J24 ?_
 clear J24
 refine TC.seq fun _ J25 => ?_
 refine TC.draw (fun w => Frm F w ∧ w.heap[b4]? = some (.cells (ints (MsgT.mk a1 0 RowT.zero 0 0 BallotT.zero BallotT.zero ChangeT.zero a2).flat).toArray 134 (0, 0)) ∧ True) mixed rfl (fun _ s => ⟨Frm.of s, s.block 1 (lb rfl) rfl, trivial⟩) ?_
 refine ta 0 rfl (PV.loadN (vs := ints (MsgT.mk a1 0 RowT.zero 0 0 BallotT.zero BallotT.zero ChangeT.zero a2).flat) rfl Y134 rfl sz134 rfl (fun _ h => h.2.1) (MsgT.len (MsgT.mk a1 0 RowT.zero 0 0 BallotT.zero BallotT.zero ChangeT.zero a2)) (whole (MsgT.len (MsgT.mk a1 0 RowT.zero 0 0 BallotT.zero BallotT.zero ChangeT.zero a2)))) ?_
 refine ta 1 rfl (PV.fieldAddr (r := 185) rfl Y134 rfl sz85 rfl rfl) ?_
 refine ta 2 rfl (PV.loadN (vs := ints a2.flat) rfl Y85 rfl sz85 rfl (fun _ h => h.2.1) (ViewT.len a2) (MsgT.sub_view (MsgT.mk a1 0 RowT.zero 0 0 BallotT.zero BallotT.zero ChangeT.zero a2) 0 rfl (by decide) (whole (ViewT.len a2)))) ?_
 refine TD.all [3] (by kernel_rfl) rfl ?_
 refine AllT.cons rfl ?_ ?_
 refine TL.callR (A := []) (Want.plain rfl) rfl rfl rfl nm140 rfl (viewRight_does a2 (view_rng hp2)) (fun _ s => s) (fun _ _ _ => trivial) (fun vR HR hR => ?_)
 obtain ⟨rfl, rfl⟩ := hR
 change TL _ _ _ _ _ _ _ _ _ [blkA rb [v2] 216, blkA b4 (ints (MsgT.mk a1 0 RowT.zero 0 0 BallotT.zero BallotT.zero ChangeT.zero a2).flat) 134, blkA b2 (ints MsgT.zero.flat) 134]
 refine TL.nil ?_
 refine TE.draw (fun _ s => ⟨Frm.of s, s.block 1 (lb rfl) rfl, trivial⟩) ?_
 refine TD.all [4] (by kernel_rfl) rfl ?_
 refine AllT.cons rfl ?_ ?_
 refine TL.store (vs := ints (MsgT.mk a1 0 RowT.zero 0 0 BallotT.zero BallotT.zero ChangeT.zero a2).flat) (i := 2) (H' := [blkA rb [v2] 216, blkA b4 (ints (MsgT.mk a1 0 RowT.zero 0 0 BallotT.zero BallotT.zero ChangeT.zero a2).flat) 134, blkA b2 (ints (MsgT.mk a1 0 RowT.zero 0 0 BallotT.zero BallotT.zero ChangeT.zero a2).flat) 134]) (Want.plain rfl) rfl rfl rfl rfl rfl (by rw [(MsgT.len (MsgT.mk a1 0 RowT.zero 0 0 BallotT.zero BallotT.zero ChangeT.zero a2))]; exact sz134) (ints_one _) rfl rfl (by have h0 := (MsgT.len MsgT.zero); have h1 := (MsgT.len (MsgT.mk a1 0 RowT.zero 0 0 BallotT.zero BallotT.zero ChangeT.zero a2)); omega) (wwhole ((MsgT.len MsgT.zero).trans (MsgT.len (MsgT.mk a1 0 RowT.zero 0 0 BallotT.zero BallotT.zero ChangeT.zero a2)).symm)) rfl ?_
 refine TL.nil ?_
 refine TE.draw (fun _ s => ⟨Frm.of s, s.block 1 (lb rfl) rfl, trivial⟩) ?_
 refine ta 5 rfl (PV.assign rfl rfl) ?_
 refine TD.done (by kernel_rfl) ?_
 refine TE.next J25 ?_
 clear J25
 refine TC.ret ?_
 refine TE.blockRet ?_
 refine TE.passRet ?_
 clear J3
 refine TE.retCT (H' := [blkA rb [v2] 216]) rfl rfl rfl Y134 rfl sz134 (Rd.own 2 rfl rfl) (MsgT.len (MsgT.mk a1 0 RowT.zero 0 0 BallotT.zero BallotT.zero ChangeT.zero a2)) (fun _ s => sep_keep [0] rfl s) ?_
 exact ⟨((MsgT.mk a1 0 RowT.zero 0 0 BallotT.zero BallotT.zero ChangeT.zero a2), (rightV a2)), _, _, rfl, rfl, by simp [readMsgP, kRow, kAsk, pr, pb_some hp1, pb_some hp2, h10, h25, h29, h39, h53, h64, MsgT.zero, RecT.zero, *], (ht1.trans ht2)⟩
 exact AllT.nil
 exact AllT.nil
 refine sg' ?_
 refine nx J23 ?_
 clear J23
 refine TC.no rfl ?_
 refine sr fun _ J26 => ?_
 refine tp (PV.eql rfl rfl rfl) ?_
 refine TL.dec (fun h73 => ?_) (fun h73 => ?_)
 refine sg' ?_
 refine nx J26 ?_
 clear J26
 refine TC.yes rfl ?_
 refine sr fun _ J27 => ?_
 refine mv ?_
 refine TL.callP (A := [blkA rb [v1] 216]) (B := [blkA b4 (ints (MsgT.mk a1 0 RowT.zero 0 0 BallotT.zero BallotT.zero ChangeT.zero ViewT.zero).flat) 134, blkA b2 (ints MsgT.zero.flat) 134]) (Want.plain rfl) rfl rfl rfl nm134 rfl (small_does rb v1 r1 (5)) (fun _ s => sep_selR [1] rfl s) (fun _ d _ => (hf1).more d) (fun cP HP hP => ?_) (fun vR HR hR => ?_)
 obtain ⟨vP, rfl, rfl, hpP⟩ := hP
 change TE _ _ _ _ _ _ _ [blkA rb [vP] 216, blkA b4 (ints (MsgT.mk a1 0 RowT.zero 0 0 BallotT.zero BallotT.zero ChangeT.zero ViewT.zero).flat) 134, blkA b2 (ints MsgT.zero.flat) 134]
 refine TE.passPanic ?_
 clear J27
 refine TE.blockPanic ?_
 refine TE.passPanic ?_
 clear J3
 refine TE.weak (Sub.refl _) (fun _ s => sep_keep [0] rfl s) ?_
 refine TE.panicked ?_
 exact ⟨_, rfl, rfl, by simp [readMsgP, kRow, kAsk, pb_some hp1, pb_none hpP, h10, h25, h29, h39, h53, h64, h73, *]⟩
 obtain ⟨a2, r2, v2, rfl, rfl, hp2, ht2⟩ := hR
 change TL _ _ _ _ _ _ _ _ _ [blkA rb [v2] 216, blkA b4 (ints (MsgT.mk a1 0 RowT.zero 0 0 BallotT.zero BallotT.zero ChangeT.zero ViewT.zero).flat) 134, blkA b2 (ints MsgT.zero.flat) 134]
 have hf2 := ht2 _ hf1
 refine tp (PV.fieldAddr (r := 1) rfl Y134 rfl sz3 rfl rfl) ?_
 refine TL.store1 (i := 1) (H' := [blkA rb [v2] 216, blkA b4 (ints (MsgT.mk a1 a2 RowT.zero 0 0 BallotT.zero BallotT.zero ChangeT.zero ViewT.zero).flat) 134, blkA b2 (ints MsgT.zero.flat) 134]) (Want.plain rfl) rfl rfl rfl rfl rfl sz3 rfl rfl (by have h0 := (MsgT.len (MsgT.mk a1 0 RowT.zero 0 0 BallotT.zero BallotT.zero ChangeT.zero ViewT.zero)); omega) (MsgT.set_whose (MsgT.mk a1 0 RowT.zero 0 0 BallotT.zero BallotT.zero ChangeT.zero ViewT.zero) rfl _) rfl ?_
 refine nx J27 ?_
 clear J27
 refine sr fun _ J28 => ?_
 refine mv ?_
 refine TL.callP (A := [blkA rb [v2] 216]) (B := [blkA b4 (ints (MsgT.mk a1 a2 RowT.zero 0 0 BallotT.zero BallotT.zero ChangeT.zero ViewT.zero).flat) 134, blkA b2 (ints MsgT.zero.flat) 134]) (Want.plain rfl) rfl rfl rfl nm139 rfl (rview_does rb v2 r2 ) (fun _ s => s) (fun _ d _ => (hf2).more d) (fun cP HP hP => ?_) (fun vR HR hR => ?_)
 obtain ⟨vP, rfl, rfl, hpP⟩ := hP
 change TE _ _ _ _ _ _ _ [blkA rb [vP] 216, blkA b4 (ints (MsgT.mk a1 a2 RowT.zero 0 0 BallotT.zero BallotT.zero ChangeT.zero ViewT.zero).flat) 134, blkA b2 (ints MsgT.zero.flat) 134]
 refine TE.passPanic ?_
 clear J28
 refine TE.blockPanic ?_
 refine TE.passPanic ?_
 clear J3
 refine TE.weak (Sub.refl _) (fun _ s => sep_keep [0] rfl s) ?_
 refine TE.panicked ?_
 exact ⟨_, rfl, rfl, by simp [readMsgP, kRow, kAsk, pb_some hp1, pb_some hp2, pb_none hpP, h10, h25, h29, h39, h53, h64, h73, *]⟩
 obtain ⟨a3, r3, v3, rfl, rfl, hp3, ht3⟩ := hR
 change TL _ _ _ _ _ _ _ _ _ [blkA rb [v3] 216, blkA b4 (ints (MsgT.mk a1 a2 RowT.zero 0 0 BallotT.zero BallotT.zero ChangeT.zero ViewT.zero).flat) 134, blkA b2 (ints MsgT.zero.flat) 134]
 have hf3 := ht3 _ hf2
 refine tp (PV.fieldAddr (r := 185) rfl Y134 rfl sz85 rfl rfl) ?_
 refine TL.store (vs := ints a3.flat) (i := 1) (H' := [blkA rb [v3] 216, blkA b4 (ints (MsgT.mk a1 a2 RowT.zero 0 0 BallotT.zero BallotT.zero ChangeT.zero a3).flat) 134, blkA b2 (ints MsgT.zero.flat) 134]) (Want.plain rfl) rfl rfl rfl rfl rfl (by rw [(ViewT.len a3)]; exact sz85) (ints_one _) rfl rfl (by have h0 := (MsgT.len (MsgT.mk a1 a2 RowT.zero 0 0 BallotT.zero BallotT.zero ChangeT.zero ViewT.zero)); have h1 := (ViewT.len a3); omega) (MsgT.wr_view_ (MsgT.mk a1 a2 RowT.zero 0 0 BallotT.zero BallotT.zero ChangeT.zero ViewT.zero) 0 rfl (by have h1 := (ViewT.len a3); omega) (wwhole ((ViewT.len ViewT.zero).trans (ViewT.len a3).symm))) rfl ?_
 refine nx J28 ?_
 clear J28
 refine TC.seq fun _ J29 => ?_
 refine TC.draw (fun w => Frm F w ∧ w.heap[b4]? = some (.cells (ints (MsgT.mk a1 a2 RowT.zero 0 0 BallotT.zero BallotT.zero ChangeT.zero a3).flat).toArray 134 (0, 0)) ∧ True) mixed rfl (fun _ s => ⟨Frm.of s, s.block 1 (lb rfl) rfl, trivial⟩) ?_
 refine ta 0 rfl (PV.loadN (vs := ints (MsgT.mk a1 a2 RowT.zero 0 0 BallotT.zero BallotT.zero ChangeT.zero a3).flat) rfl Y134 rfl sz134 rfl (fun _ h => h.2.1) (MsgT.len (MsgT.mk a1 a2 RowT.zero 0 0 BallotT.zero BallotT.zero ChangeT.zero a3)) (whole (MsgT.len (MsgT.mk a1 a2 RowT.zero 0 0 BallotT.zero BallotT.zero ChangeT.zero a3)))) ?_
 refine ta 1 rfl (PV.fieldAddr (r := 185) rfl Y134 rfl sz85 rfl rfl) ?_
 refine ta 2 rfl (PV.loadN (vs := ints a3.flat) rfl Y85 rfl sz85 rfl (fun _ h => h.2.1) (ViewT.len a3) (MsgT.sub_view (MsgT.mk a1 a2 RowT.zero 0 0 BallotT.zero BallotT.zero ChangeT.zero a3) 0 rfl (by decide) (whole (ViewT.len a3)))) ?_
 refine TD.all [3] (by kernel_rfl) rfl ?_
 refine AllT.cons rfl ?_ ?_
 refine TL.callR (A := []) (Want.plain rfl) rfl rfl rfl nm140 rfl (viewRight_does a3 (view_rng hp3)) (fun _ s => s) (fun _ _ _ => trivial) (fun vR HR hR => ?_)
 obtain ⟨rfl, rfl⟩ := hR
 change TL _ _ _ _ _ _ _ _ _ [blkA rb [v3] 216, blkA b4 (ints (MsgT.mk a1 a2 RowT.zero 0 0 BallotT.zero BallotT.zero ChangeT.zero a3).flat) 134, blkA b2 (ints MsgT.zero.flat) 134]
 refine TL.nil ?_
 refine TE.draw (fun _ s => ⟨Frm.of s, s.block 1 (lb rfl) rfl, trivial⟩) ?_
 refine TD.all [4] (by kernel_rfl) rfl ?_
 refine AllT.cons rfl ?_ ?_
 refine TL.store (vs := ints (MsgT.mk a1 a2 RowT.zero 0 0 BallotT.zero BallotT.zero ChangeT.zero a3).flat) (i := 2) (H' := [blkA rb [v3] 216, blkA b4 (ints (MsgT.mk a1 a2 RowT.zero 0 0 BallotT.zero BallotT.zero ChangeT.zero a3).flat) 134, blkA b2 (ints (MsgT.mk a1 a2 RowT.zero 0 0 BallotT.zero BallotT.zero ChangeT.zero a3).flat) 134]) (Want.plain rfl) rfl rfl rfl rfl rfl (by rw [(MsgT.len (MsgT.mk a1 a2 RowT.zero 0 0 BallotT.zero BallotT.zero ChangeT.zero a3))]; exact sz134) (ints_one _) rfl rfl (by have h0 := (MsgT.len MsgT.zero); have h1 := (MsgT.len (MsgT.mk a1 a2 RowT.zero 0 0 BallotT.zero BallotT.zero ChangeT.zero a3)); omega) (wwhole ((MsgT.len MsgT.zero).trans (MsgT.len (MsgT.mk a1 a2 RowT.zero 0 0 BallotT.zero BallotT.zero ChangeT.zero a3)).symm)) rfl ?_
 refine TL.nil ?_
 refine TE.draw (fun _ s => ⟨Frm.of s, s.block 1 (lb rfl) rfl, trivial⟩) ?_
 refine ta 5 rfl (PV.assign rfl rfl) ?_
 refine TD.done (by kernel_rfl) ?_
 refine TE.next J29 ?_
 clear J29
 refine TC.ret ?_
 refine TE.blockRet ?_
 refine TE.passRet ?_
 clear J3
 refine TE.retCT (H' := [blkA rb [v3] 216]) rfl rfl rfl Y134 rfl sz134 (Rd.own 2 rfl rfl) (MsgT.len (MsgT.mk a1 a2 RowT.zero 0 0 BallotT.zero BallotT.zero ChangeT.zero a3)) (fun _ s => sep_keep [0] rfl s) ?_
 exact ⟨((MsgT.mk a1 a2 RowT.zero 0 0 BallotT.zero BallotT.zero ChangeT.zero a3), (rightV a3)), _, _, rfl, rfl, by simp [readMsgP, kRow, kAsk, pr, pb_some hp1, pb_some hp2, pb_some hp3, h10, h25, h29, h39, h53, h64, h73, MsgT.zero, RecT.zero, *], (ht1.trans (ht2.trans ht3))⟩
 exact AllT.nil
 exact AllT.nil
 refine sg' ?_
 refine nx J26 ?_
 clear J26
 refine TC.no rfl ?_
 refine TC.skip ?_
 refine TE.blockEnd ?_
 refine TE.next J3 ?_
 clear J3
 refine sr fun _ J30 => ?_
 refine tp (PV.loadN (vs := ints (MsgT.mk a1 0 RowT.zero 0 0 BallotT.zero BallotT.zero ChangeT.zero ViewT.zero).flat) rfl Y134 rfl sz134 rfl (Rd.own 0 rfl rfl) (MsgT.len (MsgT.mk a1 0 RowT.zero 0 0 BallotT.zero BallotT.zero ChangeT.zero ViewT.zero)) (whole (MsgT.len (MsgT.mk a1 0 RowT.zero 0 0 BallotT.zero BallotT.zero ChangeT.zero ViewT.zero)))) ?_
 refine TL.store (vs := ints (MsgT.mk a1 0 RowT.zero 0 0 BallotT.zero BallotT.zero ChangeT.zero ViewT.zero).flat) (i := 2) (H' := [blkA b4 (ints (MsgT.mk a1 0 RowT.zero 0 0 BallotT.zero BallotT.zero ChangeT.zero ViewT.zero).flat) 134, blkA rb [v1] 216, blkA b2 (ints (MsgT.mk a1 0 RowT.zero 0 0 BallotT.zero BallotT.zero ChangeT.zero ViewT.zero).flat) 134]) (Want.plain rfl) rfl rfl rfl rfl rfl (by rw [(MsgT.len (MsgT.mk a1 0 RowT.zero 0 0 BallotT.zero BallotT.zero ChangeT.zero ViewT.zero))]; exact sz134) (ints_one _) rfl rfl (by have h0 := (MsgT.len MsgT.zero); have h1 := (MsgT.len (MsgT.mk a1 0 RowT.zero 0 0 BallotT.zero BallotT.zero ChangeT.zero ViewT.zero)); omega) (wwhole ((MsgT.len MsgT.zero).trans (MsgT.len (MsgT.mk a1 0 RowT.zero 0 0 BallotT.zero BallotT.zero ChangeT.zero ViewT.zero)).symm)) rfl ?_
 refine sg' ?_
 refine nx J30 ?_
 clear J30
 refine TC.ret ?_
 refine TE.retCT (H' := [blkA rb [v1] 216]) rfl rfl rfl Y134 rfl sz134 (Rd.own 2 rfl rfl) (MsgT.len (MsgT.mk a1 0 RowT.zero 0 0 BallotT.zero BallotT.zero ChangeT.zero ViewT.zero)) (fun _ s => sep_keep [1] rfl s) ?_
 exact ⟨((MsgT.mk a1 0 RowT.zero 0 0 BallotT.zero BallotT.zero ChangeT.zero ViewT.zero), true), _, _, rfl, rfl, by simp [readMsgP, pr, pb_some hp1, h10, h25, h29, h39, h53, h64, h73, MsgT.zero, RecT.zero, *], ht1⟩
 clear J11
 refine sr fun _ J31 => ?_
 refine tp (PV.eql rfl rfl rfl) ?_
 refine sg' ?_
 refine TL.dec (fun h29 => ?_) (fun h29 => ?_)
 refine nx J31 ?_
 clear J31
 refine TC.yes rfl ?_
 refine TC.skip ?_
 exact TE.weak
  (Sub.r (Sub.r (Sub.r (Sub.r (Sub.r (Sub.cons rfl (by simp [kAsk, *]) (Sub.nil _)))))))
  (fun _ s => s)
  (tl11 (() : Unit) trivial)
 refine nx J31 ?_
 clear J31
 refine TC.no rfl ?_
 refine TC.region ?_
 refine tp (PV.eql rfl rfl rfl) ?_
 refine TL.dec (fun h31 => ?_) (fun h31 => ?_)
 refine sg' ?_
 refine TL.nil ?_
 exact TE.weak
  (Sub.r (Sub.r (Sub.r (Sub.r (Sub.r (Sub.cons rfl (by simp [kAsk, *]) (Sub.nil _)))))))
  (fun _ s => s)
  (tl11 (() : Unit) trivial)
 refine sg' ?_
 refine TL.nil ?_
 exact TE.weak
  (Sub.r (Sub.r (Sub.r (Sub.r (Sub.r (Sub.cons rfl (by simp [kAsk, *]) (Sub.nil _)))))))
  (fun _ s => s)
  (tl11 (() : Unit) trivial)
 clear J5
 refine sr fun _ J32 => ?_
 refine tp (PV.eql rfl rfl rfl) ?_
 refine sg' ?_
 refine TL.dec (fun h10 => ?_) (fun h10 => ?_)
 refine nx J32 ?_
 clear J32
 refine TC.yes rfl ?_
 refine TC.skip ?_
 exact TE.weak
  (Sub.r (Sub.r (Sub.r (Sub.r (Sub.r (Sub.cons rfl (by simp [kRow, *]) (Sub.nil _)))))))
  (fun _ s => s)
  (tl5 (() : Unit) trivial)
 refine nx J32 ?_
 clear J32
 refine TC.no rfl ?_
 refine sr fun _ J33 => ?_
 refine tp (PV.eql rfl rfl rfl) ?_
 refine sg' ?_
 refine TL.dec (fun h10 => ?_) (fun h10 => ?_)
 refine nx J33 ?_
 clear J33
 refine TC.yes rfl ?_
 refine TC.skip ?_
 exact TE.weak
  (Sub.r (Sub.r (Sub.r (Sub.r (Sub.r (Sub.cons rfl (by simp [kRow, *]) (Sub.nil _)))))))
  (fun _ s => s)
  (tl5 (() : Unit) trivial)
 refine nx J33 ?_
 clear J33
 refine TC.no rfl ?_
 refine TC.region ?_
 refine tp (PV.eql rfl rfl rfl) ?_
 refine TL.dec (fun h13 => ?_) (fun h13 => ?_)
 refine sg' ?_
 refine TL.nil ?_
 exact TE.weak
  (Sub.r (Sub.r (Sub.r (Sub.r (Sub.r (Sub.cons rfl (by simp [kRow, *]) (Sub.nil _)))))))
  (fun _ s => s)
  (tl5 (() : Unit) trivial)
 refine sg' ?_
 refine TL.nil ?_
 exact TE.weak
  (Sub.r (Sub.r (Sub.r (Sub.r (Sub.r (Sub.cons rfl (by simp [kRow, *]) (Sub.nil _)))))))
  (fun _ s => s)
  (tl5 (() : Unit) trivial)
theorem mdec1_does (rb mb gb : Nat) (v : Value) (bs : List UInt8) (m0 : MsgT) (g0 : Bool) :
 Leg.Does Tryz.prog 103 #[(.pointer (some ⟨rb, 0, none⟩)), (.pointer (some ⟨mb, 0, none⟩)), (.pointer (some ⟨gb, 0, none⟩))] (IsB v bs) [blkA rb [v] 216, blkA mb (ints m0.flat) 134, blkA gb [(.bool (g0))] 4] (RetP (fun _ H => ∃ x' r a, H = blkA rb [x'] 216 :: [blkA mb (ints a.1.flat) 134, blkA gb [.bool a.2] 4] ∧ Tail v bs x' r ∧ readMsgP bs = some (a, r)) (fun c H => c = giveUp ∧ ∃ (x' : Value) (_ : Unit), H = blkA rb [x'] 216 :: [blkA mb (ints m0.flat) 134, blkA gb [.bool g0] 4] ∧ readMsgP bs = none)) := by
 refine Leg.Does.body (n := 9) Tryz.func103 rfl rfl rfl (fun w0 F hF => TC.region (PS ?_))
 refine TL.callP (Want.plain rfl) rfl rfl rfl nm104 rfl (readMsg_does rb v bs) (fun _ s => s) (fun _ d _ => (hF).more d) (fun cP HP hP => ?_) (fun vR HR hR => ?_)
 obtain ⟨vP, rfl, rfl, hpP⟩ := hP
 exact WK [0, 0, 0] (TE.panicked ⟨rfl, _, (), rfl, hpP⟩)
 obtain ⟨a1, r1, v1, rfl, rfl, hp1, ht1⟩ := hR
 refine PS ?_
 refine tp (PV.extract (vs := [(.agg (ints a1.1.flat).toArray), (.bool (a1.2))]) rfl rfl rfl) ?_
 refine tp (PV.extract (vs := [(.agg (ints a1.1.flat).toArray), (.bool (a1.2))]) rfl rfl rfl) ?_
 refine TL.store (vs := ints a1.1.flat) (i := 1) (Want.plain rfl) rfl rfl rfl rfl rfl (by rw [(MsgT.len a1.1)]; exact sz134) (ints_one _) rfl rfl (LC (MsgT.len _) (MsgT.len _)) (wwhole ((MsgT.len m0).trans (MsgT.len a1.1).symm)) rfl (S0 2 sz4 ?_)
 exact TL.nil (WK [0, 0, 0] (TE.end0 rfl ⟨_, _, _, rfl, ht1, hp1⟩))
theorem decode_does (x : Value) (bs : List UInt8) :
 Leg.Does Tryz.prog 60 #[x] (IsB x bs) [] (Ret (fun r' H => r' = .tuple #[.agg (ints (decM bs).1.flat).toArray, .int .i64 (decM bs).2] ∧ H = [])) := by
 refine Leg.Does.body (vs := [x]) (n := 18) Tryz.func60 rfl rfl rfl (fun w0 F hF => ?_)
 refine sr fun _ J1 => ?_
 refine TL.alloc (Want.plain rfl) rfl rfl rfl z134 (fun b2 => ?_)
 change TL _ _ _ _ _ _ _ _ _ [blkA b2 (ints MsgT.zero.flat) 134]
 refine sg' ?_
 refine nx J1 ?_
 clear J1
 refine sr fun _ J2 => ?_
 refine TL.alloc (Want.plain rfl) rfl rfl rfl z134 (fun b4 => ?_)
 change TL _ _ _ _ _ _ _ _ _ [blkA b4 (ints MsgT.zero.flat) 134, blkA b2 (ints MsgT.zero.flat) 134]
 refine nx J2 ?_
 clear J2
 refine sr fun _ J3 => ?_
 refine TL.alloc (Want.plain rfl) rfl rfl rfl z4 (fun b5 => ?_)
 refine TL.store1 (i := 0) (Want.plain rfl) rfl rfl rfl rfl rfl sz4 rfl rfl (lb rfl) rfl rfl ?_
 refine nx J3 ?_
 clear J3
 refine sr fun _ J4 => ?_
 refine mv ?_
 refine tp (PV.mkFunc rfl rfl) ?_
 refine TL.callR (Want.plain rfl) rfl rfl rfl nm89 rfl (read_with (bs := bs) (C := [blkA b4 (ints MsgT.zero.flat) 134, blkA b5 [(.bool false)] 4]) (caps := [(.pointer (some ⟨b4, 0, none⟩)), (.pointer (some ⟨b5, 0, none⟩))]) (A := fun a : MsgT × Bool => [blkA b4 (ints a.1.flat) 134, blkA b5 [.bool a.2] 4]) (G := fun _ : Unit => [blkA b4 (ints MsgT.zero.flat) 134, blkA b5 [(.bool false)] 4]) (φ := fun a r => readMsgP bs = some (a, r)) (ψ := fun _ => readMsgP bs = none) (fun _ h => h) (fun _ _ h d => h.more d) nm103 (fun rb => mdec1_does rb b4 b5 x bs MsgT.zero false)) (fun _ s => sep_selR [1, 0] rfl s) (fun _ d _ => (hF).more d) (fun vR HR hR => ?_)
 rcases hR with ⟨r, ⟨m, g⟩, rfl, rfl, hs⟩ | ⟨_, rfl, rfl, hs⟩
 refine TL.dec (fun h9 => ?_) (fun h9 => ?_)
 refine sg' ?_
 refine nx J4 ?_
 clear J4
 refine TC.seq fun _ J5 => ?_
 refine sr fun _ J6 => ?_
 refine mv ?_
 refine tp (PV.not (r := false) rfl rfl rfl) ?_
 refine mv ?_
 refine tq (PV.load1 (v := (.bool (g))) rfl Y4 rfl rfl (Rd.own 1 rfl rfl) rfl) ?_
 refine TL.decB (fun h13 => ?_) (fun h13 => ?_)
 refine tq (PV.not (r := false) rfl rfl rfl) ?_
 refine tp (PV.pick rfl rfl rfl) ?_
 refine nx J6 ?_
 clear J6
 refine TC.no rfl ?_
 refine TC.skip ?_
 refine TE.next J5 ?_
 clear J5
 refine sr fun _ J7 => ?_
 refine tp (PV.loadN (vs := ints m.flat) rfl Y134 rfl sz134 rfl (Rd.own 0 rfl rfl) (MsgT.len m) (whole (MsgT.len m))) ?_
 refine TL.store (vs := ints m.flat) (i := 2) (Want.plain rfl) rfl rfl rfl rfl rfl (by rw [(MsgT.len m)]; exact sz134) (ints_one _) rfl rfl (by have h0 := (MsgT.len MsgT.zero); have h1 := (MsgT.len m); omega) (wwhole ((MsgT.len MsgT.zero).trans (MsgT.len m).symm)) rfl ?_
 refine sg' ?_
 refine nx J7 ?_
 clear J7
 refine TC.ret ?_
 refine TE.retCT (H' := []) rfl rfl rfl Y134 rfl sz134 (Rd.own 2 rfl rfl) (MsgT.len m) (fun _ s => sep_keep [] rfl s) ?_
 exact ⟨by simp [decM, *], rfl⟩
 refine tq (PV.not (r := true) rfl rfl rfl) ?_
 refine tp (PV.pick rfl rfl rfl) ?_
 refine nx J6 ?_
 clear J6
 refine TC.yes rfl ?_
 refine sr fun _ J8 => ?_
 refine tp (PV.build (cells := (ints MsgT.zero.flat).toArray) rfl rfl (by as_aux_lemma => kernel_rfl)) ?_
 refine TL.store (vs := ints MsgT.zero.flat) (i := 2) (Want.plain rfl) rfl rfl rfl rfl rfl (by rw [(MsgT.len MsgT.zero)]; exact sz134) (ints_one _) rfl rfl (by have h0 := (MsgT.len MsgT.zero); have h1 := (MsgT.len MsgT.zero); omega) (wwhole ((MsgT.len MsgT.zero).trans (MsgT.len MsgT.zero).symm)) rfl ?_
 refine sg' ?_
 refine nx J8 ?_
 clear J8
 refine TC.ret ?_
 refine TE.passRet ?_
 clear J5
 refine TE.retCT (H' := []) rfl rfl rfl Y134 rfl sz134 (Rd.own 2 rfl rfl) (MsgT.len MsgT.zero) (fun _ s => sep_keep [] rfl s) ?_
 exact ⟨by simp [decM, *], rfl⟩
 refine sg' ?_
 refine nx J4 ?_
 clear J4
 refine TC.seq fun _ J9 => ?_
 refine sr fun _ J10 => ?_
 refine mv ?_
 refine tp (PV.not (r := true) rfl rfl rfl) ?_
 refine mv ?_
 refine TL.unmet (b := true) rfl rfl rfl rfl (lb rfl) ?_
 refine TL.unmet (b := true) rfl rfl rfl rfl (lb rfl) ?_
 refine tp (PV.pick rfl rfl rfl) ?_
 refine nx J10 ?_
 clear J10
 refine TC.yes rfl ?_
 refine sr fun _ J11 => ?_
 refine tp (PV.build (cells := (ints MsgT.zero.flat).toArray) rfl rfl (by as_aux_lemma => kernel_rfl)) ?_
 refine TL.store (vs := ints MsgT.zero.flat) (i := 2) (Want.plain rfl) rfl rfl rfl rfl rfl (by rw [(MsgT.len MsgT.zero)]; exact sz134) (ints_one _) rfl rfl (by have h0 := (MsgT.len MsgT.zero); have h1 := (MsgT.len MsgT.zero); omega) (wwhole ((MsgT.len MsgT.zero).trans (MsgT.len MsgT.zero).symm)) rfl ?_
 refine sg' ?_
 refine nx J11 ?_
 clear J11
 refine TC.ret ?_
 refine TE.passRet ?_
 clear J9
 refine TE.retCT (H' := []) rfl rfl rfl Y134 rfl sz134 (Rd.own 2 rfl rfl) (MsgT.len MsgT.zero) (fun _ s => sep_keep [] rfl s) ?_
 exact ⟨by simp [decM, *], rfl⟩
 refine sg' ?_
 refine nx J4 ?_
 clear J4
 refine TC.seq fun _ J12 => ?_
 refine sr fun _ J13 => ?_
 refine mv ?_
 refine tp (PV.not (r := true) rfl rfl rfl) ?_
 refine mv ?_
 refine TL.unmet (b := true) rfl rfl rfl rfl (lb rfl) ?_
 refine TL.unmet (b := true) rfl rfl rfl rfl (lb rfl) ?_
 refine tp (PV.pick rfl rfl rfl) ?_
 refine nx J13 ?_
 clear J13
 refine TC.yes rfl ?_
 refine sr fun _ J14 => ?_
 refine tp (PV.build (cells := (ints MsgT.zero.flat).toArray) rfl rfl (by as_aux_lemma => kernel_rfl)) ?_
 refine TL.store (vs := ints MsgT.zero.flat) (i := 2) (Want.plain rfl) rfl rfl rfl rfl rfl (by rw [(MsgT.len MsgT.zero)]; exact sz134) (ints_one _) rfl rfl (by have h0 := (MsgT.len MsgT.zero); have h1 := (MsgT.len MsgT.zero); omega) (wwhole ((MsgT.len MsgT.zero).trans (MsgT.len MsgT.zero).symm)) rfl ?_
 refine sg' ?_
 refine nx J14 ?_
 clear J14
 refine TC.ret ?_
 refine TE.passRet ?_
 clear J12
 refine TE.retCT (H' := []) rfl rfl rfl Y134 rfl sz134 (Rd.own 2 rfl rfl) (MsgT.len MsgT.zero) (fun _ s => sep_keep [] rfl s) ?_
 exact ⟨by simp [decM, *], rfl⟩
end Go.Proofs.YtohmkchalilodaaGreatDoor
end
